/- QuotaForgets: its walk. -/
import Derived.Test.YtcfcahflkhgapaaForA
import Derived.Test.YtcfcahflkhgapaaFixA
import Derived.Test.YtcfcahflkhgapaaSumC
namespace Go.Proofs.Ytcfcahflkhgapaa
set_option linter.unusedSimpArgs false
set_option linter.unusedVariables false
set_option linter.unnecessarySimpa false
set_option linter.unusedSectionVars false
open Go.RowKit Go.Shelf


def nm3 : Array Value := #[.string aN, .string bN, .string cN]
theorem nm3_at {k : Nat} (hk : k < 3) : nm3[k]? = some (.string (nmAt k)) := by
  match k, hk with
  | 0, _ => rfl
  | 1, _ => rfl
  | 2, _ => rfl
theorem useOf_bnd {l : LinkL} (hv : ∀ p ∈ l, p.2 = 7) (r : ByteArray) : 0 ≤ useOf l r ∧ useOf l r ≤ 7 * (l.length : Int) := by
  induction l with
  | nil => simp [useOf]
  | cons p l ih =>
    have ih := ih fun q hq => hv q (by simp [hq])
    have hp := hv p (by simp)
    simp only [useOf, List.length_cons]
    split <;> omega
theorem sumU_bnd {l : LinkL} (hv : ∀ p ∈ l, p.2 = 7) : ∀ m : Nat, 0 ≤ sumU l m ∧ sumU l m ≤ 7 * (l.length : Int) * m
  | 0 => by simp [sumU]
  | m + 1 => by
    have ih := sumU_bnd hv m
    have h := useOf_bnd hv (nmAt m)
    simp only [sumU, Int.natCast_add, Int.mul_add]
    omega
theorem mem_forget {l : LinkL} {x : List UInt8} {p : Key × Int} (h : p ∈ forgetL l x) : p ∈ l := (List.mem_filter.1 h).1
theorem wpPi_remR {P : Program} {ops : Array Oper} {Q : Exit → Act → World → Prop} {S : World → Prop} {o : Oper} {r : List (Oper × Nat)} {a : Act} {w : World} (t : TypeId) (x y : Operand) (yt : TypeId) (m n d : Int) (hw : Region.wanted o (yielded ops a.tmps) = true) (ho : o.op = .binOp .rem t x y yt) (hx : a.eval x = .int .i64 m) (hy : a.eval y = .int .i64 n)
    (hd : m % n = d) (h1 : 0 ≤ m) (h2 : 0 < n) (h : wpPi P ops Q S r (a.put o.dst (.int .i64 d)) w) : wpPi P ops Q S ((o, 3) :: r) a w := by
  subst hd
  exact wpPi_rem t x y yt m n hw ho hx hy h1 h2 h
theorem wpPi_quoR {P : Program} {ops : Array Oper} {Q : Exit → Act → World → Prop} {S : World → Prop} {o : Oper} {r : List (Oper × Nat)} {a : Act} {w : World} (t : TypeId) (x y : Operand) (yt : TypeId) (m n d : Int) (hw : Region.wanted o (yielded ops a.tmps) = true) (ho : o.op = .binOp .quo t x y yt) (hx : a.eval x = .int .i64 m) (hy : a.eval y = .int .i64 n)
    (hd : m.tdiv n = d) (h2 : n ≠ 0) (h3 : -9223372036854775808 ≤ d) (h4 : d ≤ 9223372036854775807) (h : wpPi P ops Q S r (a.put o.dst (.int .i64 d)) w) : wpPi P ops Q S ((o, 3) :: r) a w := by
  subst hd
  exact wpPi_quo t x y yt m n hw ho hx hy h2 h3 h4 h
theorem wpPi_addR {P : Program} {ops : Array Oper} {Q : Exit → Act → World → Prop} {S : World → Prop} {o : Oper} {r : List (Oper × Nat)} {a : Act} {w : World} (t : TypeId) (x y : Operand) (yt : TypeId) (m n d : Int) (hw : Region.wanted o (yielded ops a.tmps) = true) (ho : o.op = .binOp .add t x y yt) (hx : a.eval x = .int .i64 m) (hy : a.eval y = .int .i64 n)
    (hd : m + n = d) (h1 : -9223372036854775808 ≤ d) (h2 : d ≤ 9223372036854775807) (h : wpPi P ops Q S r (a.put o.dst (.int .i64 d)) w) : wpPi P ops Q S ((o, 3) :: r) a w := by
  subst hd
  exact wpPi_add t x y yt m n hw ho hx hy h1 h2 h
def LIM : Int := 1099511627776
def ForRel (w0 : World) (p : Value) (bn : Nat) (ids : List (List UInt8)) (i : Value) (w : World) : Prop :=
  ∃ n l, n ≤ ids.length ∧ i = .int .i64 (n : Nat) ∧ KeysIs (FM ids n) l (2 * n) ∧ LkF w0 w p LIM l [(bn, .cells nm3 9 (0, 0))]
theorem tmod3 (n : Nat) : ((n : Int) % 3) = ((n % 3 : Nat) : Int) := by omega
theorem tdiv3 (n : Nat) : ((n : Int).tdiv 3) = ((n / 3 : Nat) : Int) := by
  rw [Int.tdiv_eq_ediv_of_nonneg (by omega)]; omega
theorem use_v {w0 w : World} {p : Value} {limit : Int} {l : LinkL} {bs : List (Nat × Obj)} (h : LkF w0 w p limit l bs) (r : ByteArray) {v : Int} (hv : useOf l r = v) : Calls Try.prog 14 #[p, .string r] w (RetE (.int .i64 v) w) := by
  subst hv; exact use_f h r
theorem has_v {w0 w : World} {p : Value} {limit : Int} {l : LinkL} {bs : List (Nat × Obj)} (h : LkF w0 w p limit l bs) (k : Key) (hk : KeyOk k) {b : Bool} (hb : (getL k l).isSome = b) : Calls Try.prog 11 #[p, .string k.1, .agg (idCells k.2)] w (RetM (.bool b) w) := by
  subst hb; exact has_f h k hk
theorem unlink_v {w0 w : World} {p : Value} {limit : Int} {l l' : LinkL} {bs : List (Nat × Obj)} (h : LkF w0 w p limit l bs) (k : Key) (hk : KeyOk k) {b : Bool} (hb : (getL k l).isSome = b) (hl : unL l k = l') :
    Calls Try.prog 12 #[p, .string k.1, .agg (idCells k.2)] w (fun e w' => e = .returned (.bool b) ∧ LkF w0 w' p limit l' bs) := by
  subst hb; subst hl; exact unlink_f h k hk
theorem forget_v {w0 w : World} {p : Value} {limit : Int} {l l' : LinkL} {bs : List (Nat × Obj)} (h : LkF w0 w p limit l bs) (x : List UInt8) (hx : x.length = 32) {n : Int} (hn : (forgetN l x : Int) = n) (hl : forgetL l x = l') :
    Calls Try.prog 13 #[p, .agg (idCells x)] w (fun e w' => e = .returned (.int .i64 n) ∧ LkF w0 w' p limit l' bs) := by
  subst hn; subst hl; exact forget_f h x hx
theorem link_v {w0 w : World} {p : Value} {limit : Int} {l l' : LinkL} {bs : List (Nat × Obj)} (h : LkF w0 w p limit l bs) (k : Key) (hk : KeyOk k) (hsz : k.1.size ≤ maxLen) (size : Int) {b : Bool} {e : Int} (hb : addE true limit l k size = (b, e)) (hl : addL true limit l k size = l') :
    Calls Try.prog 8 #[p, .string k.1, .agg (idCells k.2), .int .i64 size] w (fun e' w' => e' = .returned (.tuple #[.bool b, .int .i64 e]) ∧ LkF w0 w' p limit l' bs) := by
  have h1 := link_f h k hk hsz size
  rw [hb, hl] at h1
  exact h1
/-- The facts behind the filling. -/
structure Filled (ids : List (List UInt8)) (x : List UInt8) (l : LinkL) : Prop where
  nd : (l.map (·.1)).Nodup
  val : ∀ p ∈ l, p.2 = 7
  few : l.length ≤ 40
  dno : getL (dN, x) l = none ∧ useOf l dN = 0
  lnk : addE true LIM l (dN, x) 3 = (true, 0) ∧ addL true LIM l (dN, x) 3 = l ++ [((dN, x), 3)]
  many : forgetN l x = fgN l x (nms 3)
  has1 : ∀ i (h : i < ids.length), (getL (nmAt (i % 3), ids[i]) l).isSome = true
  has2 : ∀ i (h : i < ids.length), (getL (nmAt (i / 3 % 3), ids[i]) l).isSome = true
theorem KeysIs.filled {ids : List (List UInt8)} {l : LinkL} (h : KeysIs (FM ids ids.length) l (2 * ids.length)) (hn : ids.length ≤ 20) (x : List UInt8) : Filled ids x l :=
  ⟨h.nd, h.val, by have := h.few; omega, d_none h x, d_link h (by omega) x, forgetN_many h x, fun i hi => keys_some.2 ((h.mem _).2 (FM.has1 hi)), fun i hi => keys_some.2 ((h.mem _).2 (FM.has2 hi))⟩
def Two3 (w0 : World) (l : LinkL) (x : List UInt8) (was many i : Value) (w : World) : Prop :=
  ∃ m : Nat, m ≤ 3 ∧ i = .int .i64 m ∧ was = .int .i64 (sumU l m) ∧ many = .int .i64 (fgN l x (nms m)) ∧ Mod NoB w0 w
def One3 (w0 : World) (l : LinkL) (now i : Value) (w : World) : Prop :=
  ∃ m : Nat, m ≤ 3 ∧ i = .int .i64 m ∧ now = .int .i64 (sumU l m) ∧ Mod NoB w0 w
set_option maxRecDepth 10000 in
set_option maxHeartbeats 4000000 in
theorem quotaForgets_any (w : World) (v : Value) (ids : List (List UInt8)) (which : Int) (hl : Sl false w (fun k => k < w.heap.size) 32 IdC v ids) (hwh : -9223372036854775808 ≤ which ∧ which ≤ 9223372036854775807) : Calls Try.prog 6 #[v, .int .i64 which] w (RetM (.bool true) w) := by
  obtain ⟨av, cap, rfl, hlen, hat⟩ := id hl.at
  have HA := Lib.hid hat; clear hat hl
  go_enter Try.func6, Try.ntmps6
  go_upto_region 2 with (go_at_call 4; refine (quotaKnown_any _).mono ?_; rintro _ w1 ⟨rfl, hm1⟩)
  by_cases hbig : 20 < ids.length ∨ ids.length = 0
  · rcases hbig with hb | hb
    · have hz : (20 : Int) < (ids.length : Int) := by omega
      go_wp2
      go_ret
      exact ⟨rfl, hm1⟩
    · have hz : ¬ (20 : Int) < (ids.length : Int) := by omega
      have hz2 : (ids.length : Int) = 0 := by omega
      go_wp2
      go_ret
      exact ⟨rfl, hm1⟩
  have hz : ¬ (20 : Int) < (ids.length : Int) := by omega
  have hz2 : ¬ (ids.length : Int) = 0 := by omega
  have hn20 : ids.length ≤ 20 := by omega
  have hn0 : 0 < ids.length := by omega
  clear hbig
  go_upto_region 4 with (fail)
  refine wp_region_seq [1, 3, 3, 3, 3, 3] (fun _ => True) (by rfl) (by rfl) trivial ?_
  simp only [List.zip_cons_cons, List.zip_nil_right]
  refine wpPi_do rfl (fun K hK => ?_)
  go_wp2_with (go_at_call 18; refine (new_at LIM w ⟨by unfold LIM; omega, by unfold LIM; omega⟩ _ hm1).mono ?_; rintro _ w3 ⟨b, F, rfl, hN, hm3, hF⟩)
  refine hK _ _ trivial ?_
  clear hK K
  try simp only [pl, pn, el, ec, sz, ss, gz, gs, if_true, if_false, Bool.false_eq_true, Bool.not_true, Bool.not_false, Nat.add_zero, Nat.zero_add, Nat.reduceAdd]
  refine wpPi_move _ rfl rfl ?_
  simp only [pl, pn, el, ec, sz, ss, gz, gs, if_true, if_false, Bool.false_eq_true, Bool.not_true, Bool.not_false, Nat.add_zero, Nat.zero_add, Nat.reduceAdd]
  refine wpPi_any (v := ?_) rfl (fun w' => ?_) ?_; rotate_left; · (go_simp; try with_reducible rfl)
  simp only [pl, pn, el, ec, sz, ss, gz, gs, if_true, if_false, Bool.false_eq_true, Bool.not_true, Bool.not_false, Nat.add_zero, Nat.zero_add, Nat.reduceAdd]
  refine wpPi_any (v := ?_) rfl (fun w' => ?_) ?_; rotate_left; · (go_simp; try with_reducible rfl)
  simp only [pl, pn, el, ec, sz, ss, gz, gs, if_true, if_false, Bool.false_eq_true, Bool.not_true, Bool.not_false, Nat.add_zero, Nat.zero_add, Nat.reduceAdd]
  refine wpPi_assign _ rfl rfl ?_
  simp only [pl, pn, el, ec, sz, ss, gz, gs, if_true, if_false, Bool.false_eq_true, Bool.not_true, Bool.not_false, Nat.add_zero, Nat.zero_add, Nat.reduceAdd]
  refine wpPi_assign _ rfl rfl ?_
  simp only [pl, pn, el, ec, sz, ss, gz, gs, if_true, if_false, Bool.false_eq_true, Bool.not_true, Bool.not_false, Nat.add_zero, Nat.zero_add, Nat.reduceAdd]
  refine wpPi_nil ?_
  have hN0 := LkF.first hN
  clear hz hz2 hN hF hm1 hm3
  go_upto_region 7 with (fail)
  refine wp_region_seq [1, 3] (fun _ => True) (by rfl) (by rfl) trivial ?_
  simp only [List.zip_cons_cons, List.zip_nil_right]
  refine wpPi_do rfl (fun K hK => ?_)
  refine wp_lit 39 9 3 _ nm3 (.string ⟨#[]⟩) (by rfl) Try.underlying39 built4s (by omega) (by omega) (by kernel_rfl) (fun w4 hB4 hm4 hs4 => ?_)
  refine hK _ _ trivial ?_
  clear hK K
  try simp only [pl, pn, el, ec, sz, ss, gz, gs, if_true, if_false, Bool.false_eq_true, Bool.not_true, Bool.not_false, Nat.add_zero, Nat.zero_add, Nat.reduceAdd]
  refine wpPi_assign _ rfl rfl ?_
  simp only [pl, pn, el, ec, sz, ss, gz, gs, if_true, if_false, Bool.false_eq_true, Bool.not_true, Bool.not_false, Nat.add_zero, Nat.zero_add, Nat.reduceAdd]
  refine wpPi_nil ?_
  have h4 := hN0.add hm4 hB4 (Nat.le_refl _)
  have hge3 := hN0.mod.size
  clear hN0 hm4 hs4 hB4
  go_wp2
  go_loopw [9] (ForRel w (.pointer (some ⟨b, 0, none⟩)) w3.heap.size ids) (fun i _ => ids.length - (intOf i).toNat)
  case atStart => exact ⟨0, [], by omega, rfl, ⟨by simp, fun p hp => (nomatch hp), fun k => (by simpa using FM_zero ids k), by simp⟩, h4⟩
  case round =>
    rename World => wo
    obtain ⟨n, l, hn, rfl, hK1, hL⟩ := hrel
    by_cases hlt : n < ids.length
    · have hz : (n : Int) < (ids.length : Int) := by omega
      obtain ⟨ba, oa, rfl, -, -, hca⟩ := HA.out n hlt
      obtain ⟨_, -, ⟨rfl, h32⟩, hca⟩ := hca n hlt
      have hk1 := hK1.lay (by omega) (nmAt (n % 3), ids[n]) (nmAt_ok _).1 LIM
      have hk2 := hk1.lay (by omega) (nmAt (n / 3 % 3), ids[n]) (nmAt_ok _).1 LIM
      have hk2 := hk2.congr (FM_succ ids n hlt)
      have HK2 := Lib.hid hk2
      clear hk1 hk2 hK1
      generalize ids[n] = y at *
      have hp0 : (0 : Int) ≤ (n : Int) := by omega
      have hm3' : n % 3 < 3 := by omega
      have hd3' : n / 3 % 3 < 3 := by omega
      have hdz : (0 : Int) ≤ ((n / 3 : Nat) : Int) := by omega
      go_upto_region 11 with (fail)
      have hS : Mod NoB wo wo.drew := (Mod.refl _ _).drew
      have hcw : CellsAt wo ba (oa + n * 32) (idCells y) := hca.keep hL.mod id
      have hrow := hL.get (b := w3.heap.size) (o := .cells nm3 9 (0, 0)) (by simp)
      refine wp_region_pi [(0, 3), (1, 3), (2, 3), (3, 3), (4, 3), (5, 0), (6, 3), (7, 3), (8, 3), (9, 0), (10, 2)] [10] (fun w' => Mod NoB wo w') (by kernel_rfl) (by kernel_rfl) (by kernel_rfl) (by kernel_rfl) (fun _ _ _ _ hd h => ⟨hd.trans h.1, h.2⟩) hS ?_
      simp only [List.map_cons, List.map_nil, List.getD_cons_zero, List.getD_cons_succ]
      refine wpPi_move _ rfl rfl ?_
      simp only [pl, pn, el, ec, sz, ss, gz, gs, if_true, if_false, Bool.false_eq_true, Bool.not_true, Bool.not_false, Nat.add_zero, Nat.zero_add, Nat.reduceAdd]
      refine wpPi_move _ rfl rfl ?_
      simp only [pl, pn, el, ec, sz, ss, gz, gs, if_true, if_false, Bool.false_eq_true, Bool.not_true, Bool.not_false, Nat.add_zero, Nat.zero_add, Nat.reduceAdd]
      refine wpPi_move _ rfl rfl ?_
      simp only [pl, pn, el, ec, sz, ss, gz, gs, if_true, if_false, Bool.false_eq_true, Bool.not_true, Bool.not_false, Nat.add_zero, Nat.zero_add, Nat.reduceAdd]
      refine wpPi_remR _ _ _ _ (n : Int) 3 ((n % 3 : Nat) : Int) rfl rfl rfl rfl (tmod3 n) hp0 (by omega) ?_
      simp only [pl, pn, el, ec, sz, ss, gz, gs, if_true, if_false, Bool.false_eq_true, Bool.not_true, Bool.not_false, Nat.add_zero, Nat.zero_add, Nat.reduceAdd]
      refine wpPi_index _ _ _ _ _ _ _ _ _ rfl rfl rfl rfl Try.underlying39 (n := 1) (by kernel_rfl) hm3' ?_
      simp only [pl, pn, el, ec, sz, ss, gz, gs, if_true, if_false, Bool.false_eq_true, Bool.not_true, Bool.not_false, Nat.add_zero, Nat.zero_add, Nat.reduceAdd]
      refine wpPi_val rfl (fun w' hS => exec_load1 9 _ (by rfl) w3.heap.size (n % 3 * 1) (by rfl) _ (by rw [cell_of_row _ _ _ _ _ _ (hS.obj id hrow), Nat.mul_one]; exact nm3_at hm3') _ Try.underlying9 rfl) ?_
      simp only [pl, pn, el, ec, sz, ss, gz, gs, if_true, if_false, Bool.false_eq_true, Bool.not_true, Bool.not_false, Nat.add_zero, Nat.zero_add, Nat.reduceAdd]
      refine wpPi_move _ rfl rfl ?_
      simp only [pl, pn, el, ec, sz, ss, gz, gs, if_true, if_false, Bool.false_eq_true, Bool.not_true, Bool.not_false, Nat.add_zero, Nat.zero_add, Nat.reduceAdd]
      refine wpPi_move _ rfl rfl ?_
      simp only [pl, pn, el, ec, sz, ss, gz, gs, if_true, if_false, Bool.false_eq_true, Bool.not_true, Bool.not_false, Nat.add_zero, Nat.zero_add, Nat.reduceAdd]
      refine wpPi_index _ _ _ _ _ _ _ _ _ rfl rfl rfl rfl Try.underlying41 (n := 32) (by kernel_rfl) hlt ?_
      simp only [pl, pn, el, ec, sz, ss, gz, gs, if_true, if_false, Bool.false_eq_true, Bool.not_true, Bool.not_false, Nat.add_zero, Nat.zero_add, Nat.reduceAdd]
      refine wpPi_val rfl (fun w' hS => exec_loadA 23 _ (by rfl) ba (oa + n * 32) (by rfl) (idCells y) (hcw.keep hS id) _ Try.underlying23 rfl 32 (by kernel_rfl) (by rw [idCells_size]; exact h32)) ?_
      simp only [pl, pn, el, ec, sz, ss, gz, gs, if_true, if_false, Bool.false_eq_true, Bool.not_true, Bool.not_false, Nat.add_zero, Nat.zero_add, Nat.reduceAdd]
      refine wpPi_last rfl (fun K hK => ?_)
      have HKL := Lib.hid hK; clear hK
      have hL' := hL.keep0 hS
      go_wp2_with (go_at_call 9; refine (lay_f hL' (nmAt (n % 3), y) h32 (nmAt_ok _).2 7).mono ?_; rintro _ w7 ⟨rfl, hL7⟩)
      refine HKL.out _ _ ?_
      clear HKL K
      try simp only [pl, pn, el, ec, sz, ss, gz, gs, if_true, if_false, Bool.false_eq_true, Bool.not_true, Bool.not_false, Nat.add_zero, Nat.zero_add, Nat.reduceAdd]
      refine wpPi_nil ?_
      clear hS hcw hL' hL hrow
      have hL := hL7
      clear hL7
      go_upto_region 12 with (fail)
      have hS : Mod NoB w7 w7.drew := (Mod.refl _ _).drew
      have hcw : CellsAt w7 ba (oa + n * 32) (idCells y) := hca.keep hL.mod id
      have hrow := hL.get (b := w3.heap.size) (o := .cells nm3 9 (0, 0)) (by simp)
      refine wp_region_pi [(0, 3), (1, 3), (2, 3), (3, 3), (4, 3), (5, 3), (6, 0), (7, 3), (8, 3), (9, 3), (10, 0), (11, 2)] [11] (fun w' => Mod NoB w7 w') (by kernel_rfl) (by kernel_rfl) (by kernel_rfl) (by kernel_rfl) (fun _ _ _ _ hd h => ⟨hd.trans h.1, h.2⟩) hS ?_
      simp only [List.map_cons, List.map_nil, List.getD_cons_zero, List.getD_cons_succ]
      refine wpPi_move _ rfl rfl ?_
      simp only [pl, pn, el, ec, sz, ss, gz, gs, if_true, if_false, Bool.false_eq_true, Bool.not_true, Bool.not_false, Nat.add_zero, Nat.zero_add, Nat.reduceAdd]
      refine wpPi_move _ rfl rfl ?_
      simp only [pl, pn, el, ec, sz, ss, gz, gs, if_true, if_false, Bool.false_eq_true, Bool.not_true, Bool.not_false, Nat.add_zero, Nat.zero_add, Nat.reduceAdd]
      refine wpPi_move _ rfl rfl ?_
      simp only [pl, pn, el, ec, sz, ss, gz, gs, if_true, if_false, Bool.false_eq_true, Bool.not_true, Bool.not_false, Nat.add_zero, Nat.zero_add, Nat.reduceAdd]
      refine wpPi_quoR _ _ _ _ (n : Int) 3 ((n / 3 : Nat) : Int) rfl rfl rfl rfl (tdiv3 n) (by omega) (by omega) (by omega) ?_
      simp only [pl, pn, el, ec, sz, ss, gz, gs, if_true, if_false, Bool.false_eq_true, Bool.not_true, Bool.not_false, Nat.add_zero, Nat.zero_add, Nat.reduceAdd]
      refine wpPi_remR _ _ _ _ ((n / 3 : Nat) : Int) 3 ((n / 3 % 3 : Nat) : Int) rfl rfl rfl rfl (tmod3 _) hdz (by omega) ?_
      simp only [pl, pn, el, ec, sz, ss, gz, gs, if_true, if_false, Bool.false_eq_true, Bool.not_true, Bool.not_false, Nat.add_zero, Nat.zero_add, Nat.reduceAdd]
      refine wpPi_index _ _ _ _ _ _ _ _ _ rfl rfl rfl rfl Try.underlying39 (n := 1) (by kernel_rfl) hd3' ?_
      simp only [pl, pn, el, ec, sz, ss, gz, gs, if_true, if_false, Bool.false_eq_true, Bool.not_true, Bool.not_false, Nat.add_zero, Nat.zero_add, Nat.reduceAdd]
      refine wpPi_val rfl (fun w' hS => exec_load1 9 _ (by rfl) w3.heap.size (n / 3 % 3 * 1) (by rfl) _ (by rw [cell_of_row _ _ _ _ _ _ (hS.obj id hrow), Nat.mul_one]; exact nm3_at hd3') _ Try.underlying9 rfl) ?_
      simp only [pl, pn, el, ec, sz, ss, gz, gs, if_true, if_false, Bool.false_eq_true, Bool.not_true, Bool.not_false, Nat.add_zero, Nat.zero_add, Nat.reduceAdd]
      refine wpPi_move _ rfl rfl ?_
      simp only [pl, pn, el, ec, sz, ss, gz, gs, if_true, if_false, Bool.false_eq_true, Bool.not_true, Bool.not_false, Nat.add_zero, Nat.zero_add, Nat.reduceAdd]
      refine wpPi_move _ rfl rfl ?_
      simp only [pl, pn, el, ec, sz, ss, gz, gs, if_true, if_false, Bool.false_eq_true, Bool.not_true, Bool.not_false, Nat.add_zero, Nat.zero_add, Nat.reduceAdd]
      refine wpPi_index _ _ _ _ _ _ _ _ _ rfl rfl rfl rfl Try.underlying41 (n := 32) (by kernel_rfl) hlt ?_
      simp only [pl, pn, el, ec, sz, ss, gz, gs, if_true, if_false, Bool.false_eq_true, Bool.not_true, Bool.not_false, Nat.add_zero, Nat.zero_add, Nat.reduceAdd]
      refine wpPi_val rfl (fun w' hS => exec_loadA 23 _ (by rfl) ba (oa + n * 32) (by rfl) (idCells y) (hcw.keep hS id) _ Try.underlying23 rfl 32 (by kernel_rfl) (by rw [idCells_size]; exact h32)) ?_
      simp only [pl, pn, el, ec, sz, ss, gz, gs, if_true, if_false, Bool.false_eq_true, Bool.not_true, Bool.not_false, Nat.add_zero, Nat.zero_add, Nat.reduceAdd]
      refine wpPi_last rfl (fun K hK => ?_)
      have HKL := Lib.hid hK; clear hK
      have hL' := hL.keep0 hS
      go_wp2_with (go_at_call 9; refine (lay_f hL' (nmAt (n / 3 % 3), y) h32 (nmAt_ok _).2 7).mono ?_; rintro _ w8 ⟨rfl, hL8⟩)
      refine HKL.out _ _ ?_
      clear HKL K
      try simp only [pl, pn, el, ec, sz, ss, gz, gs, if_true, if_false, Bool.false_eq_true, Bool.not_true, Bool.not_false, Nat.add_zero, Nat.zero_add, Nat.reduceAdd]
      refine wpPi_nil ?_
      have HR : Hid (ForRel w (.pointer (some ⟨b, 0, none⟩)) w3.heap.size ids (.int .i64 ((n : Int) + 1)) w8) := ⟨n + 1, _, by omega, by go_num, HK2.out, hL8⟩
      clear hS hcw hL' hL hL8 hrow
      go_wp2
      go_roundw
      case rel => exact HR.out
      case measure => simp [intOf]; omega
    · have hz : ¬ (n : Int) < (ids.length : Int) := by omega
      obtain rfl : n = ids.length := by omega
      have hpk := pickZ_lt which ids.length (by omega)
      obtain ⟨k, hkz, hk⟩ := nat_of hpk
      have hk : k < ids.length := by omega
      obtain ⟨ba, oa, rfl, -, -, hca⟩ := HA.out 0 hn0
      obtain ⟨x, hx⟩ : ∃ x, ids[k] = x := ⟨_, rfl⟩
      have hcx : CellsAt wo ba (oa + k * 32) (idCells x) ∧ x.length = 32 := by
        obtain ⟨_, -, ⟨rfl, h32⟩, hc⟩ := hca k hk
        exact ⟨hx ▸ hc.keep hL.mod id, hx ▸ h32⟩
      obtain ⟨hcx, h32⟩ := hcx
      have hfl := hK1.filled hn20 x
      have HKZ := Lib.hid hkz
      have HCA := Lib.hid hca
      have HFL := Lib.hid hfl
      clear hkz hK1 hpk hca hfl HA hx hn
      go_upto_region 13 with (fail)
      refine wp_region_seq [3, 3, 3, 3, 1, 3, 1, 1, 1] (fun _ => True) (by rfl) (by rfl) trivial ?_
      simp only [List.zip_cons_cons, List.zip_nil_right]
      refine wpPi_move _ rfl rfl ?_
      simp only [pl, pn, el, ec, sz, ss, gz, gs, if_true, if_false, Bool.false_eq_true, Bool.not_true, Bool.not_false, Nat.add_zero, Nat.zero_add, Nat.reduceAdd]
      refine wpPi_move _ rfl rfl ?_
      simp only [pl, pn, el, ec, sz, ss, gz, gs, if_true, if_false, Bool.false_eq_true, Bool.not_true, Bool.not_false, Nat.add_zero, Nat.zero_add, Nat.reduceAdd]
      refine wpPi_move _ rfl rfl ?_
      simp only [pl, pn, el, ec, sz, ss, gz, gs, if_true, if_false, Bool.false_eq_true, Bool.not_true, Bool.not_false, Nat.add_zero, Nat.zero_add, Nat.reduceAdd]
      refine wpPi_len _ _ _ _ _ rfl rfl rfl (by kernel_rfl) ?_
      simp only [pl, pn, el, ec, sz, ss, gz, gs, if_true, if_false, Bool.false_eq_true, Bool.not_true, Bool.not_false, Nat.add_zero, Nat.zero_add, Nat.reduceAdd]
      refine wpPi_do rfl (fun K hK => ?_)
      go_wp2_with (go_at_call 26; refine (pick_any which ids.length hwh (by omega) _).mono ?_; rintro _ w5 ⟨rfl, hw⟩; obtain rfl := hw.symm; rw [HKZ.out])
      refine hK _ _ trivial ?_
      clear hK K
      try simp only [pl, pn, el, ec, sz, ss, gz, gs, if_true, if_false, Bool.false_eq_true, Bool.not_true, Bool.not_false, Nat.add_zero, Nat.zero_add, Nat.reduceAdd]
      refine wpPi_index _ _ _ _ _ _ _ _ _ rfl rfl rfl rfl Try.underlying41 (n := 32) (by kernel_rfl) hk ?_
      simp only [pl, pn, el, ec, sz, ss, gz, gs, if_true, if_false, Bool.false_eq_true, Bool.not_true, Bool.not_false, Nat.add_zero, Nat.zero_add, Nat.reduceAdd]
      refine wpPi_do rfl (fun K hK => ?_)
      refine wp_exec (exec_loadA 23 _ (by rfl) ba (oa + k * 32) (by rfl) (idCells x) hcx _ Try.underlying23 rfl 32 (by kernel_rfl) (by rw [idCells_size]; exact h32)) ?_
      refine hK _ _ trivial ?_
      clear hK K
      try simp only [pl, pn, el, ec, sz, ss, gz, gs, if_true, if_false, Bool.false_eq_true, Bool.not_true, Bool.not_false, Nat.add_zero, Nat.zero_add, Nat.reduceAdd]
      refine wpPi_do rfl (fun K hK => ?_)
      refine wp_alloc 23 _ (by rfl) idZ (fun w5 hB5 hm5 hs5 => ?_)
      replace hB5 : w5.heap[wo.heap.size]? = some (.cells (idCells (List.replicate 32 0)) 23 (0, 0)) := hB5
      refine hK _ _ trivial ?_
      clear hK K
      try simp only [pl, pn, el, ec, sz, ss, gz, gs, if_true, if_false, Bool.false_eq_true, Bool.not_true, Bool.not_false, Nat.add_zero, Nat.zero_add, Nat.reduceAdd]
      refine wpPi_do rfl (fun K hK => ?_)
      refine wp_storeA 23 _ _ wo.heap.size 0 (idCells x) (by rfl) (by rfl) (by rfl) (idCells_one x) 32 (by kernel_rfl) (by rw [idCells_size]; exact h32) _ _ hB5 (by simp [idCells_size, h32]) (fun w6 hB6 hm6 => ?_)
      rw [putRow_whole (by simp [idCells_size, h32])] at hB6
      refine hK _ _ trivial ?_
      clear hK K
      try simp only [pl, pn, el, ec, sz, ss, gz, gs, if_true, if_false, Bool.false_eq_true, Bool.not_true, Bool.not_false, Nat.add_zero, Nat.zero_add, Nat.reduceAdd]
      refine wpPi_nil ?_
      have hL5 := hL.add hm5 hB5 (Nat.le_refl _)
      have hne : w3.heap.size ≠ wo.heap.size := by have := obj_lt (hL.get (b := w3.heap.size) (o := .cells nm3 9 (0, 0)) (by simp)); omega
      have hgew : w.heap.size ≤ wo.heap.size := hL.mod.size
      have hL6 := hL5.turn (o := .cells (idCells (List.replicate 32 0)) 23 (0, 0)) (by simp) hm6 hB6 hgew (rest := [(w3.heap.size, .cells nm3 9 (0, 0))]) (fun q hq => by simp at hq; subst hq; exact ⟨by simp, hne⟩)
      clear hL5 hL hm5 hm6 hB5 hB6 hcx hs5
      go_upto_region 15 with (fail)
      have hx32 : ∀ {wz : World}, LkF w wz (.pointer (some ⟨b, 0, none⟩)) LIM l [(wo.heap.size, .cells (idCells x) 23 (0, 0)), (w3.heap.size, .cells nm3 9 (0, 0))] → CellsAt wz wo.heap.size 0 (idCells x) := fun h => CellsAt.whole (h.get (o := .cells (idCells x) 23 (0, 0)) (by simp))
      go_wp2
      go_loopw [11, 12, 13] (fun was many m wx => Two3 w6 l x was many m wx) (fun _ _ i _ => 3 - (intOf i).toNat)
      case atStart => exact ⟨0, by omega, rfl, by simp [sumU], by simp [nms, fgN_nil], Mod.refl _ _⟩
      case round =>
        rename World => wy
        obtain ⟨m, hm, rfl, rfl, rfl, hM⟩ := hrel
        by_cases hm3 : m < 3
        · have hmz : (m : Int) < 3 := by omega
          have hLy := hL6.keep0 hM
          have hnm : wy.cell? ⟨w3.heap.size, m * 1, none⟩ = some (.string (nmAt m)) := by rw [cell_of_row _ _ _ _ _ _ (hLy.get (b := w3.heap.size) (o := .cells nm3 9 (0, 0)) (by simp)), Nat.mul_one]; exact nm3_at hm3
          obtain ⟨us, hus⟩ : ∃ us, useOf l (nmAt m) = us := ⟨_, rfl⟩
          obtain ⟨t, ht⟩ : ∃ t, (getL (nmAt m, x) l).isSome = t := ⟨_, rfl⟩
          have hub := useOf_bnd HFL.out.val (nmAt m)
          rw [hus] at hub
          have hsb := sumU_bnd HFL.out.val m
          have hfew := HFL.out.few
          have hsb : 0 ≤ sumU l m ∧ sumU l m ≤ 840 := by
            refine ⟨hsb.1, ?_⟩
            have h1 : 7 * (l.length : Int) * m ≤ 280 * m := Int.mul_le_mul_of_nonneg_right (by omega) (by omega)
            omega
          have hsucc := many_succ x (by omega : m < 4) HFL.out.nd
          rw [ht] at hsucc
          have hfl := fgN_le l x (nms m)
          have hsu : sumU l (m + 1) = sumU l m + us := by simp only [sumU, hus]
          have HSU := Lib.hid hsu
          have HSC := Lib.hid hsucc
          clear hsu hsucc
          go_upto_region 18 with (fail)
          refine wp_region_seq [3, 3, 3, 3, 3, 1, 1, 3, 3] (fun _ => True) (by rfl) (by rfl) trivial ?_
          simp only [List.zip_cons_cons, List.zip_nil_right]
          refine wpPi_move _ rfl rfl ?_
          simp only [pl, pn, el, ec, sz, ss, gz, gs, if_true, if_false, Bool.false_eq_true, Bool.not_true, Bool.not_false, Nat.add_zero, Nat.zero_add, Nat.reduceAdd]
          refine wpPi_move _ rfl rfl ?_
          simp only [pl, pn, el, ec, sz, ss, gz, gs, if_true, if_false, Bool.false_eq_true, Bool.not_true, Bool.not_false, Nat.add_zero, Nat.zero_add, Nat.reduceAdd]
          refine wpPi_move _ rfl rfl ?_
          simp only [pl, pn, el, ec, sz, ss, gz, gs, if_true, if_false, Bool.false_eq_true, Bool.not_true, Bool.not_false, Nat.add_zero, Nat.zero_add, Nat.reduceAdd]
          refine wpPi_move _ rfl rfl ?_
          simp only [pl, pn, el, ec, sz, ss, gz, gs, if_true, if_false, Bool.false_eq_true, Bool.not_true, Bool.not_false, Nat.add_zero, Nat.zero_add, Nat.reduceAdd]
          refine wpPi_index _ _ _ _ _ _ _ _ _ rfl rfl rfl rfl Try.underlying39 (n := 1) (by kernel_rfl) hm3 ?_
          simp only [pl, pn, el, ec, sz, ss, gz, gs, if_true, if_false, Bool.false_eq_true, Bool.not_true, Bool.not_false, Nat.add_zero, Nat.zero_add, Nat.reduceAdd]
          refine wpPi_do rfl (fun K hK => ?_)
          refine wp_exec (exec_load1 9 _ (by rfl) w3.heap.size (m * 1) (by rfl) _ hnm _ Try.underlying9 rfl) ?_
          refine hK _ _ trivial ?_
          clear hK K
          try simp only [pl, pn, el, ec, sz, ss, gz, gs, if_true, if_false, Bool.false_eq_true, Bool.not_true, Bool.not_false, Nat.add_zero, Nat.zero_add, Nat.reduceAdd]
          refine wpPi_do rfl (fun K hK => ?_)
          go_wp2_with (go_at_call 14; refine (use_v hLy (nmAt m) hus).mono ?_; rintro _ w7 ⟨rfl, hw⟩; obtain rfl := hw.symm)
          refine hK _ _ trivial ?_
          clear hK K
          try simp only [pl, pn, el, ec, sz, ss, gz, gs, if_true, if_false, Bool.false_eq_true, Bool.not_true, Bool.not_false, Nat.add_zero, Nat.zero_add, Nat.reduceAdd]
          refine wpPi_addR _ _ _ _ (sumU l m) us (sumU l m + us) rfl rfl rfl rfl rfl (by omega) (by omega) ?_
          simp only [pl, pn, el, ec, sz, ss, gz, gs, if_true, if_false, Bool.false_eq_true, Bool.not_true, Bool.not_false, Nat.add_zero, Nat.zero_add, Nat.reduceAdd]
          refine wpPi_assign _ rfl rfl ?_
          simp only [pl, pn, el, ec, sz, ss, gz, gs, if_true, if_false, Bool.false_eq_true, Bool.not_true, Bool.not_false, Nat.add_zero, Nat.zero_add, Nat.reduceAdd]
          refine wpPi_nil ?_
          go_upto_region 19 with (fail)
          have hS : Mod NoB wy wy.drew := (Mod.refl _ _).drew
          refine wp_region_pi [(0, 3), (1, 3), (2, 3), (3, 3), (4, 0), (5, 0), (6, 2)] [6] (fun w' => Mod NoB wy w') (by kernel_rfl) (by kernel_rfl) (by kernel_rfl) (by kernel_rfl) (fun _ _ _ _ hd h => ⟨hd.trans h.1, h.2⟩) hS ?_
          simp only [List.map_cons, List.map_nil, List.getD_cons_zero, List.getD_cons_succ]
          refine wpPi_move _ rfl rfl ?_
          simp only [pl, pn, el, ec, sz, ss, gz, gs, if_true, if_false, Bool.false_eq_true, Bool.not_true, Bool.not_false, Nat.add_zero, Nat.zero_add, Nat.reduceAdd]
          refine wpPi_move _ rfl rfl ?_
          simp only [pl, pn, el, ec, sz, ss, gz, gs, if_true, if_false, Bool.false_eq_true, Bool.not_true, Bool.not_false, Nat.add_zero, Nat.zero_add, Nat.reduceAdd]
          refine wpPi_move _ rfl rfl ?_
          simp only [pl, pn, el, ec, sz, ss, gz, gs, if_true, if_false, Bool.false_eq_true, Bool.not_true, Bool.not_false, Nat.add_zero, Nat.zero_add, Nat.reduceAdd]
          refine wpPi_index _ _ _ _ _ _ _ _ _ rfl rfl rfl rfl Try.underlying39 (n := 1) (by kernel_rfl) hm3 ?_
          simp only [pl, pn, el, ec, sz, ss, gz, gs, if_true, if_false, Bool.false_eq_true, Bool.not_true, Bool.not_false, Nat.add_zero, Nat.zero_add, Nat.reduceAdd]
          refine wpPi_val rfl (fun w' hS => exec_load1 9 _ (by rfl) w3.heap.size (m * 1) (by rfl) _ (hS.cell id hnm) _ Try.underlying9 rfl) ?_
          simp only [pl, pn, el, ec, sz, ss, gz, gs, if_true, if_false, Bool.false_eq_true, Bool.not_true, Bool.not_false, Nat.add_zero, Nat.zero_add, Nat.reduceAdd]
          refine wpPi_val rfl (fun w' hS => exec_loadA 23 _ (by rfl) wo.heap.size 0 (by rfl) (idCells x) (hx32 (hLy.keep0 hS)) _ Try.underlying23 rfl 32 (by kernel_rfl) (by rw [idCells_size]; exact h32)) ?_
          simp only [pl, pn, el, ec, sz, ss, gz, gs, if_true, if_false, Bool.false_eq_true, Bool.not_true, Bool.not_false, Nat.add_zero, Nat.zero_add, Nat.reduceAdd]
          refine wpPi_last rfl (fun K hK => ?_)
          have HKL := Lib.hid hK; clear hK
          have hL' := hLy.keep0 hS
          go_wp2_with (go_at_call 11; refine (has_v hL' (nmAt m, x) h32 ht).mono ?_; rintro _ w8 ⟨rfl, hm8⟩)
          refine HKL.out _ _ ?_
          clear HKL K
          try simp only [pl, pn, el, ec, sz, ss, gz, gs, if_true, if_false, Bool.false_eq_true, Bool.not_true, Bool.not_false, Nat.add_zero, Nat.zero_add, Nat.reduceAdd]
          refine wpPi_nil ?_
          have hM8 := (hM.trans0 hS).trans0 hm8
          clear hL' hS hm8 hLy hnm hM
          cases t
          · have HR : Hid (Two3 w6 l x (.int .i64 (sumU l m + us)) (.int .i64 (fgN l x (nms m))) (.int .i64 ((m : Int) + 1)) w8) := ⟨m + 1, by omega, by go_num, by rw [HSU.out], by rw [HSC.out]; simp, hM8⟩
            clear hM8
            go_wp2
            go_roundw
            case rel => exact HR.out
            case measure => simp [intOf]; omega
          · have HR : Hid (Two3 w6 l x (.int .i64 (sumU l m + us)) (.int .i64 ((fgN l x (nms m) : Int) + 1)) (.int .i64 ((m : Int) + 1)) w8) := ⟨m + 1, by omega, by go_num, by rw [HSU.out], by rw [HSC.out]; simp, hM8⟩
            clear hM8
            go_wp2
            go_roundw
            case rel => exact HR.out
            case measure => simp [intOf]; omega
        · have hmz : ¬ (m : Int) < 3 := by omega
          obtain rfl : m = 3 := by omega
          have hLy := hL6.keep0 hM
          clear hM hL6
          obtain ⟨many, hmany⟩ : ∃ many : Nat, fgN l x (nms 3) = many := ⟨_, rfl⟩
          obtain ⟨was, hwas⟩ : ∃ was, sumU l 3 = was := ⟨_, rfl⟩
          have hmb : many ≤ 40 := by have := fgN_le l x (nms 3); have := HFL.out.few; omega
          have hwb := sumU_bnd HFL.out.val 3
          have hfew := HFL.out.few
          rw [hwas] at hwb ⊢
          rw [hmany]
          have hwb : 0 ≤ was ∧ was ≤ 840 := by omega
          have hlnk := HFL.out.lnk
          have hdn := d_un HFL.out.nd HFL.out.dno.1
          have hfn : (forgetN l x : Int) = many := by rw [HFL.out.many, hmany]
          have huse3 : useOf (l ++ [((dN, x), 3)]) dN = 3 := by rw [useOf_append, HFL.out.dno.2]; simp [useOf]
          have hnow := sumU_forget HFL.out.val HFL.out.nd x 3 (by omega)
          rw [hwas, hmany] at hnow
          have hft := forget_twice l x
          have HD := Lib.hid hdn
          have HF := Lib.hid hft
          have HNOW := Lib.hid hnow
          have HLN := Lib.hid hlnk
          have HFN := Lib.hid hfn
          have HU3 := Lib.hid huse3
          clear hdn hft hnow hlnk hfn huse3 hmany hwas hfew
          have hcx0 := hx32 hLy
          clear hx32
          go_upto_region 21 with (fail)
          refine wp_region_seq [3, 1, 1, 3, 3, 3, 3, 3] (fun _ => True) (by rfl) (by rfl) trivial ?_
          simp only [List.zip_cons_cons, List.zip_nil_right]
          refine wpPi_move _ rfl rfl ?_
          simp only [pl, pn, el, ec, sz, ss, gz, gs, if_true, if_false, Bool.false_eq_true, Bool.not_true, Bool.not_false, Nat.add_zero, Nat.zero_add, Nat.reduceAdd]
          refine wpPi_do rfl (fun K hK => ?_)
          refine wp_exec (exec_loadA 23 _ (by rfl) wo.heap.size 0 (by rfl) (idCells x) hcx0 _ Try.underlying23 rfl 32 (by kernel_rfl) (by rw [idCells_size]; exact h32)) ?_
          refine hK _ _ trivial ?_
          clear hK K
          try simp only [pl, pn, el, ec, sz, ss, gz, gs, if_true, if_false, Bool.false_eq_true, Bool.not_true, Bool.not_false, Nat.add_zero, Nat.zero_add, Nat.reduceAdd]
          refine wpPi_do rfl (fun K hK => ?_)
          go_wp2_with (go_at_call 8; refine (link_v hLy (dN, x) h32 (nmAt_ok 3).2 3 HLN.out.1 HLN.out.2).mono ?_; rintro _ w9 ⟨rfl, hL9⟩)
          refine hK _ _ trivial ?_
          clear hK K
          try simp only [pl, pn, el, ec, sz, ss, gz, gs, if_true, if_false, Bool.false_eq_true, Bool.not_true, Bool.not_false, Nat.add_zero, Nat.zero_add, Nat.reduceAdd]
          refine wpPi_move _ rfl rfl ?_
          simp only [pl, pn, el, ec, sz, ss, gz, gs, if_true, if_false, Bool.false_eq_true, Bool.not_true, Bool.not_false, Nat.add_zero, Nat.zero_add, Nat.reduceAdd]
          refine wpPi_any (v := ?_) rfl (fun w' => ?_) ?_; rotate_left; · (go_simp; try with_reducible rfl)
          simp only [pl, pn, el, ec, sz, ss, gz, gs, if_true, if_false, Bool.false_eq_true, Bool.not_true, Bool.not_false, Nat.add_zero, Nat.zero_add, Nat.reduceAdd]
          refine wpPi_any (v := ?_) rfl (fun w' => ?_) ?_; rotate_left; · (go_simp; try with_reducible rfl)
          simp only [pl, pn, el, ec, sz, ss, gz, gs, if_true, if_false, Bool.false_eq_true, Bool.not_true, Bool.not_false, Nat.add_zero, Nat.zero_add, Nat.reduceAdd]
          refine wpPi_assign _ rfl rfl ?_
          simp only [pl, pn, el, ec, sz, ss, gz, gs, if_true, if_false, Bool.false_eq_true, Bool.not_true, Bool.not_false, Nat.add_zero, Nat.zero_add, Nat.reduceAdd]
          refine wpPi_assign _ rfl rfl ?_
          simp only [pl, pn, el, ec, sz, ss, gz, gs, if_true, if_false, Bool.false_eq_true, Bool.not_true, Bool.not_false, Nat.add_zero, Nat.zero_add, Nat.reduceAdd]
          refine wpPi_nil ?_
          clear hLy hcx0
          go_upto_region 22 with (fail)
          refine wp_region_seq [3, 3, 3, 3, 3, 3, 3, 3, 1, 3, 3, 3, 3, 1, 1, 3, 3, 3, 3, 1, 1, 3, 3, 3, 1, 3, 3, 3, 3, 1, 1, 3, 3, 3, 3, 3, 1, 1, 3, 3] (fun _ => True) (by rfl) (by rfl) trivial ?_
          simp only [List.zip_cons_cons, List.zip_nil_right]
          refine wpPi_move _ rfl rfl ?_
          simp only [pl, pn, el, ec, sz, ss, gz, gs, if_true, if_false, Bool.false_eq_true, Bool.not_true, Bool.not_false, Nat.add_zero, Nat.zero_add, Nat.reduceAdd]
          refine wpPi_not _ _ _ rfl rfl rfl ?_
          simp only [pl, pn, el, ec, sz, ss, gz, gs, if_true, if_false, Bool.false_eq_true, Bool.not_true, Bool.not_false, Nat.add_zero, Nat.zero_add, Nat.reduceAdd]
          refine wpPi_move _ rfl rfl ?_
          simp only [pl, pn, el, ec, sz, ss, gz, gs, if_true, if_false, Bool.false_eq_true, Bool.not_true, Bool.not_false, Nat.add_zero, Nat.zero_add, Nat.reduceAdd]
          refine wpPi_move _ rfl rfl ?_
          simp only [pl, pn, el, ec, sz, ss, gz, gs, if_true, if_false, Bool.false_eq_true, Bool.not_true, Bool.not_false, Nat.add_zero, Nat.zero_add, Nat.reduceAdd]
          refine wpPi_cmp _ _ _ _ _ _ _ _ rfl rfl rfl rfl rfl false (by rfl) ?_
          simp only [pl, pn, el, ec, sz, ss, gz, gs, if_true, if_false, Bool.false_eq_true, Bool.not_true, Bool.not_false, Nat.add_zero, Nat.zero_add, Nat.reduceAdd]
          refine wpPi_pick _ _ _ _ rfl rfl rfl ?_
          simp only [pl, pn, el, ec, sz, ss, gz, gs, if_true, if_false, Bool.false_eq_true, Bool.not_true, Bool.not_false, Nat.add_zero, Nat.zero_add, Nat.reduceAdd]
          refine wpPi_move _ rfl rfl ?_
          simp only [pl, pn, el, ec, sz, ss, gz, gs, if_true, if_false, Bool.false_eq_true, Bool.not_true, Bool.not_false, Nat.add_zero, Nat.zero_add, Nat.reduceAdd]
          refine wpPi_move _ rfl rfl ?_
          simp only [pl, pn, el, ec, sz, ss, gz, gs, if_true, if_false, Bool.false_eq_true, Bool.not_true, Bool.not_false, Nat.add_zero, Nat.zero_add, Nat.reduceAdd]
          refine wpPi_do rfl (fun K hK => ?_)
          go_wp2_with (go_at_call 14; refine (use_v hL9 dN HU3.out).mono ?_; rintro _ wq ⟨rfl, hw⟩; obtain rfl := hw.symm)
          refine hK _ _ trivial ?_
          clear hK K
          try simp only [pl, pn, el, ec, sz, ss, gz, gs, if_true, if_false, Bool.false_eq_true, Bool.not_true, Bool.not_false, Nat.add_zero, Nat.zero_add, Nat.reduceAdd]
          refine wpPi_cmp _ _ _ _ _ _ _ _ rfl rfl rfl rfl rfl false (by rfl) ?_
          simp only [pl, pn, el, ec, sz, ss, gz, gs, if_true, if_false, Bool.false_eq_true, Bool.not_true, Bool.not_false, Nat.add_zero, Nat.zero_add, Nat.reduceAdd]
          refine wpPi_pick _ _ _ _ rfl rfl rfl ?_
          simp only [pl, pn, el, ec, sz, ss, gz, gs, if_true, if_false, Bool.false_eq_true, Bool.not_true, Bool.not_false, Nat.add_zero, Nat.zero_add, Nat.reduceAdd]
          refine wpPi_move _ rfl rfl ?_
          simp only [pl, pn, el, ec, sz, ss, gz, gs, if_true, if_false, Bool.false_eq_true, Bool.not_true, Bool.not_false, Nat.add_zero, Nat.zero_add, Nat.reduceAdd]
          refine wpPi_move _ rfl rfl ?_
          simp only [pl, pn, el, ec, sz, ss, gz, gs, if_true, if_false, Bool.false_eq_true, Bool.not_true, Bool.not_false, Nat.add_zero, Nat.zero_add, Nat.reduceAdd]
          refine wpPi_do rfl (fun K hK => ?_)
          refine wp_exec (exec_loadA 23 _ (by rfl) wo.heap.size 0 (by rfl) (idCells x) (CellsAt.whole (hL9.get (o := .cells (idCells x) 23 (0, 0)) (by simp))) _ Try.underlying23 rfl 32 (by kernel_rfl) (by rw [idCells_size]; exact h32)) ?_
          refine hK _ _ trivial ?_
          clear hK K
          try simp only [pl, pn, el, ec, sz, ss, gz, gs, if_true, if_false, Bool.false_eq_true, Bool.not_true, Bool.not_false, Nat.add_zero, Nat.zero_add, Nat.reduceAdd]
          refine wpPi_do rfl (fun K hK => ?_)
          go_wp2_with (go_at_call 12; refine (unlink_v hL9 (dN, x) h32 (b := true) (by rw [HD.out.1]; rfl) HD.out.2.1).mono ?_; rintro _ w10 ⟨rfl, hL10⟩)
          refine hK _ _ trivial ?_
          clear hK K hL9
          try simp only [pl, pn, el, ec, sz, ss, gz, gs, if_true, if_false, Bool.false_eq_true, Bool.not_true, Bool.not_false, Nat.add_zero, Nat.zero_add, Nat.reduceAdd]
          refine wpPi_not _ _ _ rfl rfl rfl ?_
          simp only [pl, pn, el, ec, sz, ss, gz, gs, if_true, if_false, Bool.false_eq_true, Bool.not_true, Bool.not_false, Nat.add_zero, Nat.zero_add, Nat.reduceAdd]
          refine wpPi_pick _ _ _ _ rfl rfl rfl ?_
          simp only [pl, pn, el, ec, sz, ss, gz, gs, if_true, if_false, Bool.false_eq_true, Bool.not_true, Bool.not_false, Nat.add_zero, Nat.zero_add, Nat.reduceAdd]
          refine wpPi_move _ rfl rfl ?_
          simp only [pl, pn, el, ec, sz, ss, gz, gs, if_true, if_false, Bool.false_eq_true, Bool.not_true, Bool.not_false, Nat.add_zero, Nat.zero_add, Nat.reduceAdd]
          refine wpPi_move _ rfl rfl ?_
          simp only [pl, pn, el, ec, sz, ss, gz, gs, if_true, if_false, Bool.false_eq_true, Bool.not_true, Bool.not_false, Nat.add_zero, Nat.zero_add, Nat.reduceAdd]
          refine wpPi_do rfl (fun K hK => ?_)
          refine wp_exec (exec_loadA 23 _ (by rfl) wo.heap.size 0 (by rfl) (idCells x) (CellsAt.whole (hL10.get (o := .cells (idCells x) 23 (0, 0)) (by simp))) _ Try.underlying23 rfl 32 (by kernel_rfl) (by rw [idCells_size]; exact h32)) ?_
          refine hK _ _ trivial ?_
          clear hK K
          try simp only [pl, pn, el, ec, sz, ss, gz, gs, if_true, if_false, Bool.false_eq_true, Bool.not_true, Bool.not_false, Nat.add_zero, Nat.zero_add, Nat.reduceAdd]
          refine wpPi_do rfl (fun K hK => ?_)
          go_wp2_with (go_at_call 12; refine (unlink_v hL10 (dN, x) h32 (b := false) (by rw [HFL.out.dno.1]; rfl) HD.out.2.2).mono ?_; rintro _ w11 ⟨rfl, hL11⟩)
          refine hK _ _ trivial ?_
          clear hK K hL10
          try simp only [pl, pn, el, ec, sz, ss, gz, gs, if_true, if_false, Bool.false_eq_true, Bool.not_true, Bool.not_false, Nat.add_zero, Nat.zero_add, Nat.reduceAdd]
          refine wpPi_pick _ _ _ _ rfl rfl rfl ?_
          simp only [pl, pn, el, ec, sz, ss, gz, gs, if_true, if_false, Bool.false_eq_true, Bool.not_true, Bool.not_false, Nat.add_zero, Nat.zero_add, Nat.reduceAdd]
          refine wpPi_move _ rfl rfl ?_
          simp only [pl, pn, el, ec, sz, ss, gz, gs, if_true, if_false, Bool.false_eq_true, Bool.not_true, Bool.not_false, Nat.add_zero, Nat.zero_add, Nat.reduceAdd]
          refine wpPi_move _ rfl rfl ?_
          simp only [pl, pn, el, ec, sz, ss, gz, gs, if_true, if_false, Bool.false_eq_true, Bool.not_true, Bool.not_false, Nat.add_zero, Nat.zero_add, Nat.reduceAdd]
          refine wpPi_do rfl (fun K hK => ?_)
          go_wp2_with (go_at_call 14; refine (use_v hL11 dN HFL.out.dno.2).mono ?_; rintro _ wq ⟨rfl, hw⟩; obtain rfl := hw.symm)
          refine hK _ _ trivial ?_
          clear hK K
          try simp only [pl, pn, el, ec, sz, ss, gz, gs, if_true, if_false, Bool.false_eq_true, Bool.not_true, Bool.not_false, Nat.add_zero, Nat.zero_add, Nat.reduceAdd]
          refine wpPi_cmp _ _ _ _ _ _ _ _ rfl rfl rfl rfl rfl false (by rfl) ?_
          simp only [pl, pn, el, ec, sz, ss, gz, gs, if_true, if_false, Bool.false_eq_true, Bool.not_true, Bool.not_false, Nat.add_zero, Nat.zero_add, Nat.reduceAdd]
          refine wpPi_pick _ _ _ _ rfl rfl rfl ?_
          simp only [pl, pn, el, ec, sz, ss, gz, gs, if_true, if_false, Bool.false_eq_true, Bool.not_true, Bool.not_false, Nat.add_zero, Nat.zero_add, Nat.reduceAdd]
          refine wpPi_move _ rfl rfl ?_
          simp only [pl, pn, el, ec, sz, ss, gz, gs, if_true, if_false, Bool.false_eq_true, Bool.not_true, Bool.not_false, Nat.add_zero, Nat.zero_add, Nat.reduceAdd]
          refine wpPi_move _ rfl rfl ?_
          simp only [pl, pn, el, ec, sz, ss, gz, gs, if_true, if_false, Bool.false_eq_true, Bool.not_true, Bool.not_false, Nat.add_zero, Nat.zero_add, Nat.reduceAdd]
          refine wpPi_do rfl (fun K hK => ?_)
          refine wp_exec (exec_loadA 23 _ (by rfl) wo.heap.size 0 (by rfl) (idCells x) (CellsAt.whole (hL11.get (o := .cells (idCells x) 23 (0, 0)) (by simp))) _ Try.underlying23 rfl 32 (by kernel_rfl) (by rw [idCells_size]; exact h32)) ?_
          refine hK _ _ trivial ?_
          clear hK K
          try simp only [pl, pn, el, ec, sz, ss, gz, gs, if_true, if_false, Bool.false_eq_true, Bool.not_true, Bool.not_false, Nat.add_zero, Nat.zero_add, Nat.reduceAdd]
          refine wpPi_do rfl (fun K hK => ?_)
          go_wp2_with (go_at_call 13; refine (forget_v hL11 x h32 HFN.out rfl).mono ?_; rintro _ w12 ⟨rfl, hL12⟩)
          refine hK _ _ trivial ?_
          clear hK K hL11
          try simp only [pl, pn, el, ec, sz, ss, gz, gs, if_true, if_false, Bool.false_eq_true, Bool.not_true, Bool.not_false, Nat.add_zero, Nat.zero_add, Nat.reduceAdd]
          refine wpPi_move _ rfl rfl ?_
          simp only [pl, pn, el, ec, sz, ss, gz, gs, if_true, if_false, Bool.false_eq_true, Bool.not_true, Bool.not_false, Nat.add_zero, Nat.zero_add, Nat.reduceAdd]
          refine wpPi_cmp _ _ _ _ _ _ _ _ rfl rfl rfl rfl rfl false (by simp [cmpB]) ?_
          simp only [pl, pn, el, ec, sz, ss, gz, gs, if_true, if_false, Bool.false_eq_true, Bool.not_true, Bool.not_false, Nat.add_zero, Nat.zero_add, Nat.reduceAdd]
          refine wpPi_pick _ _ _ _ rfl rfl rfl ?_
          simp only [pl, pn, el, ec, sz, ss, gz, gs, if_true, if_false, Bool.false_eq_true, Bool.not_true, Bool.not_false, Nat.add_zero, Nat.zero_add, Nat.reduceAdd]
          refine wpPi_move _ rfl rfl ?_
          simp only [pl, pn, el, ec, sz, ss, gz, gs, if_true, if_false, Bool.false_eq_true, Bool.not_true, Bool.not_false, Nat.add_zero, Nat.zero_add, Nat.reduceAdd]
          refine wpPi_move _ rfl rfl ?_
          simp only [pl, pn, el, ec, sz, ss, gz, gs, if_true, if_false, Bool.false_eq_true, Bool.not_true, Bool.not_false, Nat.add_zero, Nat.zero_add, Nat.reduceAdd]
          refine wpPi_do rfl (fun K hK => ?_)
          refine wp_exec (exec_loadA 23 _ (by rfl) wo.heap.size 0 (by rfl) (idCells x) (CellsAt.whole (hL12.get (o := .cells (idCells x) 23 (0, 0)) (by simp))) _ Try.underlying23 rfl 32 (by kernel_rfl) (by rw [idCells_size]; exact h32)) ?_
          refine hK _ _ trivial ?_
          clear hK K
          try simp only [pl, pn, el, ec, sz, ss, gz, gs, if_true, if_false, Bool.false_eq_true, Bool.not_true, Bool.not_false, Nat.add_zero, Nat.zero_add, Nat.reduceAdd]
          refine wpPi_do rfl (fun K hK => ?_)
          go_wp2_with (go_at_call 13; refine (forget_v hL12 x h32 (n := 0) (by rw [HF.out.1]; rfl) HF.out.2).mono ?_; rintro _ w13 ⟨rfl, hL13⟩)
          refine hK _ _ trivial ?_
          clear hK K hL12
          try simp only [pl, pn, el, ec, sz, ss, gz, gs, if_true, if_false, Bool.false_eq_true, Bool.not_true, Bool.not_false, Nat.add_zero, Nat.zero_add, Nat.reduceAdd]
          refine wpPi_cmp _ _ _ _ _ _ _ _ rfl rfl rfl rfl rfl false (by rfl) ?_
          simp only [pl, pn, el, ec, sz, ss, gz, gs, if_true, if_false, Bool.false_eq_true, Bool.not_true, Bool.not_false, Nat.add_zero, Nat.zero_add, Nat.reduceAdd]
          refine wpPi_pick _ _ _ _ rfl rfl rfl ?_
          simp only [pl, pn, el, ec, sz, ss, gz, gs, if_true, if_false, Bool.false_eq_true, Bool.not_true, Bool.not_false, Nat.add_zero, Nat.zero_add, Nat.reduceAdd]
          refine wpPi_nil ?_
          have hval' : ∀ p ∈ forgetL l x, p.2 = 7 := fun p hp => HFL.out.val p (mem_forget hp)
          have hfew' : (forgetL l x).length ≤ 40 := Nat.le_trans (List.length_filter_le _ _) HFL.out.few
          have HV := Lib.hid hval'
          have hhas : ∀ k : Key, k.2 ≠ x → (getL k l).isSome = true → (getL k (forgetL l x)).isSome = true := fun k h1 h2 => by rw [forget_has, h2]; simp [h1]
          have hhas0 : ∀ r, (getL (r, x) (forgetL l x)).isSome = false := fun r => by rw [forget_has]; simp
          have hh1 : ∀ i (h : i < ids.length), ids[i] ≠ x → (getL (nmAt (i % 3), ids[i]) (forgetL l x)).isSome = true := fun i h hne => hhas _ hne (HFL.out.has1 i h)
          have hh2 : ∀ i (h : i < ids.length), ids[i] ≠ x → (getL (nmAt (i / 3 % 3), ids[i]) (forgetL l x)).isSome = true := fun i h hne => hhas _ hne (HFL.out.has2 i h)
          clear hhas hval'
          have HH0 := Lib.hid hhas0
          have HH1 := Lib.hid hh1
          have HH2 := Lib.hid hh2
          clear hhas0 hh1 hh2 HFL HD HF HLN HFN HU3
          generalize forgetL l x = lf at *
          go_wp2
          go_loopw [16, 17] (fun now m wx => One3 w13 lf now m wx) (fun _ i _ => 3 - (intOf i).toNat)
          case atStart => exact ⟨0, by omega, rfl, by simp [sumU], Mod.refl _ _⟩
          case round =>
            rename World => wz
            obtain ⟨m, hm, rfl, rfl, hM⟩ := hrel
            by_cases hm3 : m < 3
            · have hmz : (m : Int) < 3 := by omega
              have hLz := hL13.keep0 hM
              have hnm : wz.cell? ⟨w3.heap.size, m * 1, none⟩ = some (.string (nmAt m)) := by rw [cell_of_row _ _ _ _ _ _ (hLz.get (b := w3.heap.size) (o := .cells nm3 9 (0, 0)) (by simp)), Nat.mul_one]; exact nm3_at hm3
              obtain ⟨us, hus⟩ : ∃ us, useOf lf (nmAt m) = us := ⟨_, rfl⟩
              have hub := useOf_bnd HV.out (nmAt m)
              rw [hus] at hub
              have hsb := sumU_bnd HV.out m
              have hsb : 0 ≤ sumU lf m ∧ sumU lf m ≤ 840 := by
                refine ⟨hsb.1, ?_⟩
                have h1 : 7 * (lf.length : Int) * m ≤ 280 * m := Int.mul_le_mul_of_nonneg_right (by omega) (by omega)
                omega
              have hsu : sumU lf (m + 1) = sumU lf m + us := by simp only [sumU, hus]
              have HSU := Lib.hid hsu
              clear hsu
              have hcz : CellsAt wz wo.heap.size 0 (idCells x) := CellsAt.whole (hLz.get (o := .cells (idCells x) 23 (0, 0)) (by simp))
              go_upto_region 28 with (fail)
              refine wp_region_seq [3, 3, 3, 3, 3, 1, 1, 3, 3] (fun _ => True) (by rfl) (by rfl) trivial ?_
              simp only [List.zip_cons_cons, List.zip_nil_right]
              refine wpPi_move _ rfl rfl ?_
              simp only [pl, pn, el, ec, sz, ss, gz, gs, if_true, if_false, Bool.false_eq_true, Bool.not_true, Bool.not_false, Nat.add_zero, Nat.zero_add, Nat.reduceAdd]
              refine wpPi_move _ rfl rfl ?_
              simp only [pl, pn, el, ec, sz, ss, gz, gs, if_true, if_false, Bool.false_eq_true, Bool.not_true, Bool.not_false, Nat.add_zero, Nat.zero_add, Nat.reduceAdd]
              refine wpPi_move _ rfl rfl ?_
              simp only [pl, pn, el, ec, sz, ss, gz, gs, if_true, if_false, Bool.false_eq_true, Bool.not_true, Bool.not_false, Nat.add_zero, Nat.zero_add, Nat.reduceAdd]
              refine wpPi_move _ rfl rfl ?_
              simp only [pl, pn, el, ec, sz, ss, gz, gs, if_true, if_false, Bool.false_eq_true, Bool.not_true, Bool.not_false, Nat.add_zero, Nat.zero_add, Nat.reduceAdd]
              refine wpPi_index _ _ _ _ _ _ _ _ _ rfl rfl rfl rfl Try.underlying39 (n := 1) (by kernel_rfl) hm3 ?_
              simp only [pl, pn, el, ec, sz, ss, gz, gs, if_true, if_false, Bool.false_eq_true, Bool.not_true, Bool.not_false, Nat.add_zero, Nat.zero_add, Nat.reduceAdd]
              refine wpPi_do rfl (fun K hK => ?_)
              refine wp_exec (exec_load1 9 _ (by rfl) w3.heap.size (m * 1) (by rfl) _ hnm _ Try.underlying9 rfl) ?_
              refine hK _ _ trivial ?_
              clear hK K
              try simp only [pl, pn, el, ec, sz, ss, gz, gs, if_true, if_false, Bool.false_eq_true, Bool.not_true, Bool.not_false, Nat.add_zero, Nat.zero_add, Nat.reduceAdd]
              refine wpPi_do rfl (fun K hK => ?_)
              go_wp2_with (go_at_call 14; refine (use_v hLz (nmAt m) hus).mono ?_; rintro _ wq ⟨rfl, hw⟩; obtain rfl := hw.symm)
              refine hK _ _ trivial ?_
              clear hK K
              try simp only [pl, pn, el, ec, sz, ss, gz, gs, if_true, if_false, Bool.false_eq_true, Bool.not_true, Bool.not_false, Nat.add_zero, Nat.zero_add, Nat.reduceAdd]
              refine wpPi_addR _ _ _ _ (sumU lf m) us (sumU lf m + us) rfl rfl rfl rfl rfl (by omega) (by omega) ?_
              simp only [pl, pn, el, ec, sz, ss, gz, gs, if_true, if_false, Bool.false_eq_true, Bool.not_true, Bool.not_false, Nat.add_zero, Nat.zero_add, Nat.reduceAdd]
              refine wpPi_assign _ rfl rfl ?_
              simp only [pl, pn, el, ec, sz, ss, gz, gs, if_true, if_false, Bool.false_eq_true, Bool.not_true, Bool.not_false, Nat.add_zero, Nat.zero_add, Nat.reduceAdd]
              refine wpPi_nil ?_
              go_upto_region 29 with (fail)
              have hS : Mod NoB wz wz.drew := (Mod.refl _ _).drew
              refine wp_region_pi [(0, 3), (1, 3), (2, 3), (3, 3), (4, 0), (5, 0), (6, 2)] [6] (fun w' => Mod NoB wz w') (by kernel_rfl) (by kernel_rfl) (by kernel_rfl) (by kernel_rfl) (fun _ _ _ _ hd h => ⟨hd.trans h.1, h.2⟩) hS ?_
              simp only [List.map_cons, List.map_nil, List.getD_cons_zero, List.getD_cons_succ]
              refine wpPi_move _ rfl rfl ?_
              simp only [pl, pn, el, ec, sz, ss, gz, gs, if_true, if_false, Bool.false_eq_true, Bool.not_true, Bool.not_false, Nat.add_zero, Nat.zero_add, Nat.reduceAdd]
              refine wpPi_move _ rfl rfl ?_
              simp only [pl, pn, el, ec, sz, ss, gz, gs, if_true, if_false, Bool.false_eq_true, Bool.not_true, Bool.not_false, Nat.add_zero, Nat.zero_add, Nat.reduceAdd]
              refine wpPi_move _ rfl rfl ?_
              simp only [pl, pn, el, ec, sz, ss, gz, gs, if_true, if_false, Bool.false_eq_true, Bool.not_true, Bool.not_false, Nat.add_zero, Nat.zero_add, Nat.reduceAdd]
              refine wpPi_index _ _ _ _ _ _ _ _ _ rfl rfl rfl rfl Try.underlying39 (n := 1) (by kernel_rfl) hm3 ?_
              simp only [pl, pn, el, ec, sz, ss, gz, gs, if_true, if_false, Bool.false_eq_true, Bool.not_true, Bool.not_false, Nat.add_zero, Nat.zero_add, Nat.reduceAdd]
              refine wpPi_val rfl (fun w' hS => exec_load1 9 _ (by rfl) w3.heap.size (m * 1) (by rfl) _ (hS.cell id hnm) _ Try.underlying9 rfl) ?_
              simp only [pl, pn, el, ec, sz, ss, gz, gs, if_true, if_false, Bool.false_eq_true, Bool.not_true, Bool.not_false, Nat.add_zero, Nat.zero_add, Nat.reduceAdd]
              refine wpPi_val rfl (fun w' hS => exec_loadA 23 _ (by rfl) wo.heap.size 0 (by rfl) (idCells x) (hcz.keep hS id) _ Try.underlying23 rfl 32 (by kernel_rfl) (by rw [idCells_size]; exact h32)) ?_
              simp only [pl, pn, el, ec, sz, ss, gz, gs, if_true, if_false, Bool.false_eq_true, Bool.not_true, Bool.not_false, Nat.add_zero, Nat.zero_add, Nat.reduceAdd]
              refine wpPi_last rfl (fun K hK => ?_)
              have HKL := Lib.hid hK; clear hK
              have hL' := hLz.keep0 hS
              go_wp2_with (go_at_call 11; refine (has_v hL' (nmAt m, x) h32 (HH0.out _)).mono ?_; rintro _ w8 ⟨rfl, hm8⟩)
              refine HKL.out _ _ ?_
              clear HKL K
              try simp only [pl, pn, el, ec, sz, ss, gz, gs, if_true, if_false, Bool.false_eq_true, Bool.not_true, Bool.not_false, Nat.add_zero, Nat.zero_add, Nat.reduceAdd]
              refine wpPi_nil ?_
              have HR : Hid (One3 w13 lf (.int .i64 (sumU lf m + us)) (.int .i64 ((m : Int) + 1)) w8) := ⟨m + 1, by omega, by go_num, by rw [HSU.out], (hM.trans0 hS).trans0 hm8⟩
              clear hM hS hm8 hL' hLz hnm hcz
              go_wp2
              go_roundw
              case rel => exact HR.out
              case measure => simp [intOf]; omega
            · have hmz : ¬ (m : Int) < 3 := by omega
              obtain rfl : m = 3 := by omega
              rw [HNOW.out]
              have hL14 := hL13.keep0 hM
              clear hM hL13
              go_wp2
              go_loopw [18] (fun i wx => ∃ n : Nat, n ≤ ids.length ∧ i = .int .i64 n ∧ Mod NoB wz wx) (fun i _ => ids.length - (intOf i).toNat)
              case atStart => exact ⟨0, by omega, rfl, Mod.refl _ _⟩
              case round =>
                rename World => wt
                obtain ⟨n, hn, rfl, hMt⟩ := hrel
                have hLt := hL14.keep0 hMt
                by_cases hlt2 : n < ids.length
                · have hz2 : (n : Int) < (ids.length : Int) := by omega
                  have hcn : CellsAt wt ba (oa + n * 32) (idCells ids[n]) ∧ ids[n].length = 32 := by
                    obtain ⟨_, -, ⟨rfl, h⟩, hc⟩ := HCA.out n hlt2
                    exact ⟨hc.keep hLt.mod id, h⟩
                  obtain ⟨hcn, hn32⟩ := hcn
                  have hcz : CellsAt wt wo.heap.size 0 (idCells x) := CellsAt.whole (hLt.get (o := .cells (idCells x) 23 (0, 0)) (by simp))
                  have hrow := hLt.get (b := w3.heap.size) (o := .cells nm3 9 (0, 0)) (by simp)
                  have hp0 : (0 : Int) ≤ (n : Int) := by omega
                  have hm3' : n % 3 < 3 := by omega
                  have hd3' : n / 3 % 3 < 3 := by omega
                  have hdz : (0 : Int) ≤ ((n / 3 : Nat) : Int) := by omega
                  have hv1 := HH1.out n hlt2
                  have hv2 := HH2.out n hlt2
                  have HV1 := Lib.hid hv1
                  have HV2 := Lib.hid hv2
                  clear hv1 hv2
                  generalize ids[n] = y at *
                  go_upto_region 34 with (fail)
                  have hS : Mod NoB wt wt.drew := (Mod.refl _ _).drew
                  by_cases hne : y = x
                  · have hne' : decide (y ≠ x) = false := by simp [hne]
                    have HNE := Lib.hid hne'
                    clear hne hne'
                    refine wp_region_pi [(0, 3), (1, 3), (2, 3), (3, 0), (4, 0), (5, 0), (6, 3), (7, 3), (8, 3), (9, 3), (10, 3), (11, 3), (12, 0), (13, 3), (14, 3), (15, 3), (16, 0), (17, 1), (18, 3), (19, 3), (20, 3), (21, 3), (22, 3), (23, 3), (24, 3), (25, 3), (26, 0), (27, 3), (28, 3), (29, 3), (30, 0), (31, 1), (32, 3), (33, 3), (34, 3)] [] (fun w' => Mod NoB wt w') (by kernel_rfl) (by kernel_rfl) (by kernel_rfl) (by kernel_rfl) (fun _ _ _ _ hd h => ⟨hd.trans h.1, h.2⟩) hS ?_
                    simp only [List.map_cons, List.map_nil, List.getD_cons_zero, List.getD_cons_succ]
                    refine wpPi_move _ rfl rfl ?_
                    simp only [pl, pn, el, ec, sz, ss, gz, gs, if_true, if_false, Bool.false_eq_true, Bool.not_true, Bool.not_false, Nat.add_zero, Nat.zero_add, Nat.reduceAdd]
                    refine wpPi_move _ rfl rfl ?_
                    simp only [pl, pn, el, ec, sz, ss, gz, gs, if_true, if_false, Bool.false_eq_true, Bool.not_true, Bool.not_false, Nat.add_zero, Nat.zero_add, Nat.reduceAdd]
                    refine wpPi_index _ _ _ _ _ _ _ _ _ rfl rfl rfl rfl Try.underlying41 (n := 32) (by kernel_rfl) hlt2 ?_
                    simp only [pl, pn, el, ec, sz, ss, gz, gs, if_true, if_false, Bool.false_eq_true, Bool.not_true, Bool.not_false, Nat.add_zero, Nat.zero_add, Nat.reduceAdd]
                    refine wpPi_val rfl (fun w' hS => exec_loadA 23 _ (by rfl) ba (oa + n * 32) (by rfl) (idCells y) (hcn.keep hS id) _ Try.underlying23 rfl 32 (by kernel_rfl) (by rw [idCells_size]; exact hn32)) ?_
                    simp only [pl, pn, el, ec, sz, ss, gz, gs, if_true, if_false, Bool.false_eq_true, Bool.not_true, Bool.not_false, Nat.add_zero, Nat.zero_add, Nat.reduceAdd]
                    refine wpPi_val rfl (fun w' hS => exec_loadA 23 _ (by rfl) wo.heap.size 0 (by rfl) (idCells x) (hcz.keep hS id) _ Try.underlying23 rfl 32 (by kernel_rfl) (by rw [idCells_size]; exact h32)) ?_
                    simp only [pl, pn, el, ec, sz, ss, gz, gs, if_true, if_false, Bool.false_eq_true, Bool.not_true, Bool.not_false, Nat.add_zero, Nat.zero_add, Nat.reduceAdd]
                    refine wpPi_val rfl (fun w' hS => exec_neq_id _ _ _ _ rfl _ _ rfl rfl 32 5 Try.underlying23 Try.underlying5 (by kernel_rfl) (by kernel_rfl) hn32 h32 false HNE.out) ?_
                    simp only [pl, pn, el, ec, sz, ss, gz, gs, if_true, if_false, Bool.false_eq_true, Bool.not_true, Bool.not_false, Nat.add_zero, Nat.zero_add, Nat.reduceAdd]
                    refine wpPi_move _ rfl rfl ?_
                    simp only [pl, pn, el, ec, sz, ss, gz, gs, if_true, if_false, Bool.false_eq_true, Bool.not_true, Bool.not_false, Nat.add_zero, Nat.zero_add, Nat.reduceAdd]
                    refine wpPi_skip rfl ?_
                    simp only [pl, pn, el, ec, sz, ss, gz, gs, if_true, if_false, Bool.false_eq_true, Bool.not_true, Bool.not_false, Nat.add_zero, Nat.zero_add, Nat.reduceAdd]
                    refine wpPi_skip rfl ?_
                    simp only [pl, pn, el, ec, sz, ss, gz, gs, if_true, if_false, Bool.false_eq_true, Bool.not_true, Bool.not_false, Nat.add_zero, Nat.zero_add, Nat.reduceAdd]
                    refine wpPi_skip rfl ?_
                    simp only [pl, pn, el, ec, sz, ss, gz, gs, if_true, if_false, Bool.false_eq_true, Bool.not_true, Bool.not_false, Nat.add_zero, Nat.zero_add, Nat.reduceAdd]
                    refine wpPi_skip rfl ?_
                    simp only [pl, pn, el, ec, sz, ss, gz, gs, if_true, if_false, Bool.false_eq_true, Bool.not_true, Bool.not_false, Nat.add_zero, Nat.zero_add, Nat.reduceAdd]
                    refine wpPi_skip rfl ?_
                    simp only [pl, pn, el, ec, sz, ss, gz, gs, if_true, if_false, Bool.false_eq_true, Bool.not_true, Bool.not_false, Nat.add_zero, Nat.zero_add, Nat.reduceAdd]
                    refine wpPi_skip0 rfl ?_
                    simp only [pl, pn, el, ec, sz, ss, gz, gs, if_true, if_false, Bool.false_eq_true, Bool.not_true, Bool.not_false, Nat.add_zero, Nat.zero_add, Nat.reduceAdd]
                    refine wpPi_skip rfl ?_
                    simp only [pl, pn, el, ec, sz, ss, gz, gs, if_true, if_false, Bool.false_eq_true, Bool.not_true, Bool.not_false, Nat.add_zero, Nat.zero_add, Nat.reduceAdd]
                    refine wpPi_skip rfl ?_
                    simp only [pl, pn, el, ec, sz, ss, gz, gs, if_true, if_false, Bool.false_eq_true, Bool.not_true, Bool.not_false, Nat.add_zero, Nat.zero_add, Nat.reduceAdd]
                    refine wpPi_skip rfl ?_
                    simp only [pl, pn, el, ec, sz, ss, gz, gs, if_true, if_false, Bool.false_eq_true, Bool.not_true, Bool.not_false, Nat.add_zero, Nat.zero_add, Nat.reduceAdd]
                    refine wpPi_skip0 rfl ?_
                    simp only [pl, pn, el, ec, sz, ss, gz, gs, if_true, if_false, Bool.false_eq_true, Bool.not_true, Bool.not_false, Nat.add_zero, Nat.zero_add, Nat.reduceAdd]
                    refine wpPi_do_skip rfl hS ?_
                    simp only [pl, pn, el, ec, sz, ss, gz, gs, if_true, if_false, Bool.false_eq_true, Bool.not_true, Bool.not_false, Nat.add_zero, Nat.zero_add, Nat.reduceAdd]
                    refine wpPi_skip rfl ?_
                    simp only [pl, pn, el, ec, sz, ss, gz, gs, if_true, if_false, Bool.false_eq_true, Bool.not_true, Bool.not_false, Nat.add_zero, Nat.zero_add, Nat.reduceAdd]
                    refine wpPi_skip rfl ?_
                    simp only [pl, pn, el, ec, sz, ss, gz, gs, if_true, if_false, Bool.false_eq_true, Bool.not_true, Bool.not_false, Nat.add_zero, Nat.zero_add, Nat.reduceAdd]
                    refine wpPi_skip rfl ?_
                    simp only [pl, pn, el, ec, sz, ss, gz, gs, if_true, if_false, Bool.false_eq_true, Bool.not_true, Bool.not_false, Nat.add_zero, Nat.zero_add, Nat.reduceAdd]
                    refine wpPi_skip rfl ?_
                    simp only [pl, pn, el, ec, sz, ss, gz, gs, if_true, if_false, Bool.false_eq_true, Bool.not_true, Bool.not_false, Nat.add_zero, Nat.zero_add, Nat.reduceAdd]
                    refine wpPi_skip rfl ?_
                    simp only [pl, pn, el, ec, sz, ss, gz, gs, if_true, if_false, Bool.false_eq_true, Bool.not_true, Bool.not_false, Nat.add_zero, Nat.zero_add, Nat.reduceAdd]
                    refine wpPi_skip rfl ?_
                    simp only [pl, pn, el, ec, sz, ss, gz, gs, if_true, if_false, Bool.false_eq_true, Bool.not_true, Bool.not_false, Nat.add_zero, Nat.zero_add, Nat.reduceAdd]
                    refine wpPi_skip rfl ?_
                    simp only [pl, pn, el, ec, sz, ss, gz, gs, if_true, if_false, Bool.false_eq_true, Bool.not_true, Bool.not_false, Nat.add_zero, Nat.zero_add, Nat.reduceAdd]
                    refine wpPi_skip rfl ?_
                    simp only [pl, pn, el, ec, sz, ss, gz, gs, if_true, if_false, Bool.false_eq_true, Bool.not_true, Bool.not_false, Nat.add_zero, Nat.zero_add, Nat.reduceAdd]
                    refine wpPi_skip0 rfl ?_
                    simp only [pl, pn, el, ec, sz, ss, gz, gs, if_true, if_false, Bool.false_eq_true, Bool.not_true, Bool.not_false, Nat.add_zero, Nat.zero_add, Nat.reduceAdd]
                    refine wpPi_skip rfl ?_
                    simp only [pl, pn, el, ec, sz, ss, gz, gs, if_true, if_false, Bool.false_eq_true, Bool.not_true, Bool.not_false, Nat.add_zero, Nat.zero_add, Nat.reduceAdd]
                    refine wpPi_skip rfl ?_
                    simp only [pl, pn, el, ec, sz, ss, gz, gs, if_true, if_false, Bool.false_eq_true, Bool.not_true, Bool.not_false, Nat.add_zero, Nat.zero_add, Nat.reduceAdd]
                    refine wpPi_skip rfl ?_
                    simp only [pl, pn, el, ec, sz, ss, gz, gs, if_true, if_false, Bool.false_eq_true, Bool.not_true, Bool.not_false, Nat.add_zero, Nat.zero_add, Nat.reduceAdd]
                    refine wpPi_skip0 rfl ?_
                    simp only [pl, pn, el, ec, sz, ss, gz, gs, if_true, if_false, Bool.false_eq_true, Bool.not_true, Bool.not_false, Nat.add_zero, Nat.zero_add, Nat.reduceAdd]
                    refine wpPi_do_skip rfl hS ?_
                    simp only [pl, pn, el, ec, sz, ss, gz, gs, if_true, if_false, Bool.false_eq_true, Bool.not_true, Bool.not_false, Nat.add_zero, Nat.zero_add, Nat.reduceAdd]
                    refine wpPi_skip rfl ?_
                    simp only [pl, pn, el, ec, sz, ss, gz, gs, if_true, if_false, Bool.false_eq_true, Bool.not_true, Bool.not_false, Nat.add_zero, Nat.zero_add, Nat.reduceAdd]
                    refine wpPi_skip rfl ?_
                    simp only [pl, pn, el, ec, sz, ss, gz, gs, if_true, if_false, Bool.false_eq_true, Bool.not_true, Bool.not_false, Nat.add_zero, Nat.zero_add, Nat.reduceAdd]
                    refine wpPi_pick _ _ _ _ rfl rfl rfl ?_
                    simp only [pl, pn, el, ec, sz, ss, gz, gs, if_true, if_false, Bool.false_eq_true, Bool.not_true, Bool.not_false, Nat.add_zero, Nat.zero_add, Nat.reduceAdd]
                    refine wpPi_nil ?_
                    have hM2 := hMt.trans0 hS
                    clear hS hcn hcz hrow hLt hMt
                    go_wp2
                    go_roundw
                    case rel => exact ⟨n + 1, by omega, by go_num, hM2⟩
                    case measure => simp [intOf]; omega
                  · have hne' : decide (y ≠ x) = true := by simp [hne]
                    have HNE := Lib.hid hne'
                    clear hne'
                    refine wp_region_pi [(0, 3), (1, 3), (2, 3), (3, 0), (4, 0), (5, 0), (6, 3), (7, 3), (8, 3), (9, 3), (10, 3), (11, 3), (12, 0), (13, 3), (14, 3), (15, 3), (16, 0), (17, 1), (18, 3), (19, 3), (20, 3), (21, 3), (22, 3), (23, 3), (24, 3), (25, 3), (26, 0), (27, 3), (28, 3), (29, 3), (30, 0), (31, 1), (32, 3), (33, 3), (34, 3)] [] (fun w' => Mod NoB wt w') (by kernel_rfl) (by kernel_rfl) (by kernel_rfl) (by kernel_rfl) (fun _ _ _ _ hd h => ⟨hd.trans h.1, h.2⟩) hS ?_
                    simp only [List.map_cons, List.map_nil, List.getD_cons_zero, List.getD_cons_succ]
                    refine wpPi_move _ rfl rfl ?_
                    simp only [pl, pn, el, ec, sz, ss, gz, gs, if_true, if_false, Bool.false_eq_true, Bool.not_true, Bool.not_false, Nat.add_zero, Nat.zero_add, Nat.reduceAdd]
                    refine wpPi_move _ rfl rfl ?_
                    simp only [pl, pn, el, ec, sz, ss, gz, gs, if_true, if_false, Bool.false_eq_true, Bool.not_true, Bool.not_false, Nat.add_zero, Nat.zero_add, Nat.reduceAdd]
                    refine wpPi_index _ _ _ _ _ _ _ _ _ rfl rfl rfl rfl Try.underlying41 (n := 32) (by kernel_rfl) hlt2 ?_
                    simp only [pl, pn, el, ec, sz, ss, gz, gs, if_true, if_false, Bool.false_eq_true, Bool.not_true, Bool.not_false, Nat.add_zero, Nat.zero_add, Nat.reduceAdd]
                    refine wpPi_val rfl (fun w' hS => exec_loadA 23 _ (by rfl) ba (oa + n * 32) (by rfl) (idCells y) (hcn.keep hS id) _ Try.underlying23 rfl 32 (by kernel_rfl) (by rw [idCells_size]; exact hn32)) ?_
                    simp only [pl, pn, el, ec, sz, ss, gz, gs, if_true, if_false, Bool.false_eq_true, Bool.not_true, Bool.not_false, Nat.add_zero, Nat.zero_add, Nat.reduceAdd]
                    refine wpPi_val rfl (fun w' hS => exec_loadA 23 _ (by rfl) wo.heap.size 0 (by rfl) (idCells x) (hcz.keep hS id) _ Try.underlying23 rfl 32 (by kernel_rfl) (by rw [idCells_size]; exact h32)) ?_
                    simp only [pl, pn, el, ec, sz, ss, gz, gs, if_true, if_false, Bool.false_eq_true, Bool.not_true, Bool.not_false, Nat.add_zero, Nat.zero_add, Nat.reduceAdd]
                    refine wpPi_val rfl (fun w' hS => exec_neq_id _ _ _ _ rfl _ _ rfl rfl 32 5 Try.underlying23 Try.underlying5 (by kernel_rfl) (by kernel_rfl) hn32 h32 true HNE.out) ?_
                    simp only [pl, pn, el, ec, sz, ss, gz, gs, if_true, if_false, Bool.false_eq_true, Bool.not_true, Bool.not_false, Nat.add_zero, Nat.zero_add, Nat.reduceAdd]
                    refine wpPi_move _ rfl rfl ?_
                    simp only [pl, pn, el, ec, sz, ss, gz, gs, if_true, if_false, Bool.false_eq_true, Bool.not_true, Bool.not_false, Nat.add_zero, Nat.zero_add, Nat.reduceAdd]
                    refine wpPi_move _ rfl rfl ?_
                    simp only [pl, pn, el, ec, sz, ss, gz, gs, if_true, if_false, Bool.false_eq_true, Bool.not_true, Bool.not_false, Nat.add_zero, Nat.zero_add, Nat.reduceAdd]
                    refine wpPi_move _ rfl rfl ?_
                    simp only [pl, pn, el, ec, sz, ss, gz, gs, if_true, if_false, Bool.false_eq_true, Bool.not_true, Bool.not_false, Nat.add_zero, Nat.zero_add, Nat.reduceAdd]
                    refine wpPi_move _ rfl rfl ?_
                    simp only [pl, pn, el, ec, sz, ss, gz, gs, if_true, if_false, Bool.false_eq_true, Bool.not_true, Bool.not_false, Nat.add_zero, Nat.zero_add, Nat.reduceAdd]
                    refine wpPi_remR _ _ _ _ (n : Int) 3 ((n % 3 : Nat) : Int) rfl rfl rfl rfl (tmod3 n) hp0 (by omega) ?_
                    simp only [pl, pn, el, ec, sz, ss, gz, gs, if_true, if_false, Bool.false_eq_true, Bool.not_true, Bool.not_false, Nat.add_zero, Nat.zero_add, Nat.reduceAdd]
                    refine wpPi_index _ _ _ _ _ _ _ _ _ rfl rfl rfl rfl Try.underlying39 (n := 1) (by kernel_rfl) hm3' ?_
                    simp only [pl, pn, el, ec, sz, ss, gz, gs, if_true, if_false, Bool.false_eq_true, Bool.not_true, Bool.not_false, Nat.add_zero, Nat.zero_add, Nat.reduceAdd]
                    refine wpPi_val rfl (fun w' hS => exec_load1 9 _ (by rfl) w3.heap.size (n % 3 * 1) (by rfl) _ (by rw [cell_of_row _ _ _ _ _ _ (hS.obj id hrow), Nat.mul_one]; exact nm3_at hm3') _ Try.underlying9 rfl) ?_
                    simp only [pl, pn, el, ec, sz, ss, gz, gs, if_true, if_false, Bool.false_eq_true, Bool.not_true, Bool.not_false, Nat.add_zero, Nat.zero_add, Nat.reduceAdd]
                    refine wpPi_move _ rfl rfl ?_
                    simp only [pl, pn, el, ec, sz, ss, gz, gs, if_true, if_false, Bool.false_eq_true, Bool.not_true, Bool.not_false, Nat.add_zero, Nat.zero_add, Nat.reduceAdd]
                    refine wpPi_move _ rfl rfl ?_
                    simp only [pl, pn, el, ec, sz, ss, gz, gs, if_true, if_false, Bool.false_eq_true, Bool.not_true, Bool.not_false, Nat.add_zero, Nat.zero_add, Nat.reduceAdd]
                    refine wpPi_index _ _ _ _ _ _ _ _ _ rfl rfl rfl rfl Try.underlying41 (n := 32) (by kernel_rfl) hlt2 ?_
                    simp only [pl, pn, el, ec, sz, ss, gz, gs, if_true, if_false, Bool.false_eq_true, Bool.not_true, Bool.not_false, Nat.add_zero, Nat.zero_add, Nat.reduceAdd]
                    refine wpPi_val rfl (fun w' hS => exec_loadA 23 _ (by rfl) ba (oa + n * 32) (by rfl) (idCells y) (hcn.keep hS id) _ Try.underlying23 rfl 32 (by kernel_rfl) (by rw [idCells_size]; exact hn32)) ?_
                    simp only [pl, pn, el, ec, sz, ss, gz, gs, if_true, if_false, Bool.false_eq_true, Bool.not_true, Bool.not_false, Nat.add_zero, Nat.zero_add, Nat.reduceAdd]
                    refine wpPi_do rfl (fun K hK => ?_)
                    have hL' := hLt.keep0 hS
                    go_wp2_with (go_at_call 11; refine (has_v hL' (nmAt (n % 3), y) hn32 (HV1.out hne)).mono ?_; rintro _ w15 ⟨rfl, hm15⟩)
                    have hS15 := hS.trans0 hm15
                    refine hK _ _ hS15 ?_
                    clear hK K
                    try simp only [pl, pn, el, ec, sz, ss, gz, gs, if_true, if_false, Bool.false_eq_true, Bool.not_true, Bool.not_false, Nat.add_zero, Nat.zero_add, Nat.reduceAdd]
                    refine wpPi_not _ _ _ rfl rfl rfl ?_
                    simp only [pl, pn, el, ec, sz, ss, gz, gs, if_true, if_false, Bool.false_eq_true, Bool.not_true, Bool.not_false, Nat.add_zero, Nat.zero_add, Nat.reduceAdd]
                    refine wpPi_move _ rfl rfl ?_
                    simp only [pl, pn, el, ec, sz, ss, gz, gs, if_true, if_false, Bool.false_eq_true, Bool.not_true, Bool.not_false, Nat.add_zero, Nat.zero_add, Nat.reduceAdd]
                    refine wpPi_move _ rfl rfl ?_
                    simp only [pl, pn, el, ec, sz, ss, gz, gs, if_true, if_false, Bool.false_eq_true, Bool.not_true, Bool.not_false, Nat.add_zero, Nat.zero_add, Nat.reduceAdd]
                    refine wpPi_move _ rfl rfl ?_
                    simp only [pl, pn, el, ec, sz, ss, gz, gs, if_true, if_false, Bool.false_eq_true, Bool.not_true, Bool.not_false, Nat.add_zero, Nat.zero_add, Nat.reduceAdd]
                    refine wpPi_move _ rfl rfl ?_
                    simp only [pl, pn, el, ec, sz, ss, gz, gs, if_true, if_false, Bool.false_eq_true, Bool.not_true, Bool.not_false, Nat.add_zero, Nat.zero_add, Nat.reduceAdd]
                    refine wpPi_quoR _ _ _ _ (n : Int) 3 ((n / 3 : Nat) : Int) rfl rfl rfl rfl (tdiv3 n) (by omega) (by omega) (by omega) ?_
                    simp only [pl, pn, el, ec, sz, ss, gz, gs, if_true, if_false, Bool.false_eq_true, Bool.not_true, Bool.not_false, Nat.add_zero, Nat.zero_add, Nat.reduceAdd]
                    refine wpPi_remR _ _ _ _ ((n / 3 : Nat) : Int) 3 ((n / 3 % 3 : Nat) : Int) rfl rfl rfl rfl (tmod3 _) hdz (by omega) ?_
                    simp only [pl, pn, el, ec, sz, ss, gz, gs, if_true, if_false, Bool.false_eq_true, Bool.not_true, Bool.not_false, Nat.add_zero, Nat.zero_add, Nat.reduceAdd]
                    refine wpPi_index _ _ _ _ _ _ _ _ _ rfl rfl rfl rfl Try.underlying39 (n := 1) (by kernel_rfl) hd3' ?_
                    simp only [pl, pn, el, ec, sz, ss, gz, gs, if_true, if_false, Bool.false_eq_true, Bool.not_true, Bool.not_false, Nat.add_zero, Nat.zero_add, Nat.reduceAdd]
                    refine wpPi_val rfl (fun w' hS => exec_load1 9 _ (by rfl) w3.heap.size (n / 3 % 3 * 1) (by rfl) _ (by rw [cell_of_row _ _ _ _ _ _ (hS.obj id hrow), Nat.mul_one]; exact nm3_at hd3') _ Try.underlying9 rfl) ?_
                    simp only [pl, pn, el, ec, sz, ss, gz, gs, if_true, if_false, Bool.false_eq_true, Bool.not_true, Bool.not_false, Nat.add_zero, Nat.zero_add, Nat.reduceAdd]
                    refine wpPi_move _ rfl rfl ?_
                    simp only [pl, pn, el, ec, sz, ss, gz, gs, if_true, if_false, Bool.false_eq_true, Bool.not_true, Bool.not_false, Nat.add_zero, Nat.zero_add, Nat.reduceAdd]
                    refine wpPi_move _ rfl rfl ?_
                    simp only [pl, pn, el, ec, sz, ss, gz, gs, if_true, if_false, Bool.false_eq_true, Bool.not_true, Bool.not_false, Nat.add_zero, Nat.zero_add, Nat.reduceAdd]
                    refine wpPi_index _ _ _ _ _ _ _ _ _ rfl rfl rfl rfl Try.underlying41 (n := 32) (by kernel_rfl) hlt2 ?_
                    simp only [pl, pn, el, ec, sz, ss, gz, gs, if_true, if_false, Bool.false_eq_true, Bool.not_true, Bool.not_false, Nat.add_zero, Nat.zero_add, Nat.reduceAdd]
                    refine wpPi_val rfl (fun w' hS => exec_loadA 23 _ (by rfl) ba (oa + n * 32) (by rfl) (idCells y) (hcn.keep hS id) _ Try.underlying23 rfl 32 (by kernel_rfl) (by rw [idCells_size]; exact hn32)) ?_
                    simp only [pl, pn, el, ec, sz, ss, gz, gs, if_true, if_false, Bool.false_eq_true, Bool.not_true, Bool.not_false, Nat.add_zero, Nat.zero_add, Nat.reduceAdd]
                    refine wpPi_do rfl (fun K hK => ?_)
                    have hL' := hLt.keep0 hS15
                    go_wp2_with (go_at_call 11; refine (has_v hL' (nmAt (n / 3 % 3), y) hn32 (HV2.out hne)).mono ?_; rintro _ w16 ⟨rfl, hm16⟩)
                    have hS16 := hS15.trans0 hm16
                    refine hK _ _ hS16 ?_
                    clear hK K
                    try simp only [pl, pn, el, ec, sz, ss, gz, gs, if_true, if_false, Bool.false_eq_true, Bool.not_true, Bool.not_false, Nat.add_zero, Nat.zero_add, Nat.reduceAdd]
                    refine wpPi_not _ _ _ rfl rfl rfl ?_
                    simp only [pl, pn, el, ec, sz, ss, gz, gs, if_true, if_false, Bool.false_eq_true, Bool.not_true, Bool.not_false, Nat.add_zero, Nat.zero_add, Nat.reduceAdd]
                    refine wpPi_pick _ _ _ _ rfl rfl rfl ?_
                    simp only [pl, pn, el, ec, sz, ss, gz, gs, if_true, if_false, Bool.false_eq_true, Bool.not_true, Bool.not_false, Nat.add_zero, Nat.zero_add, Nat.reduceAdd]
                    refine wpPi_pick _ _ _ _ rfl rfl rfl ?_
                    simp only [pl, pn, el, ec, sz, ss, gz, gs, if_true, if_false, Bool.false_eq_true, Bool.not_true, Bool.not_false, Nat.add_zero, Nat.zero_add, Nat.reduceAdd]
                    refine wpPi_nil ?_
                    have hM2 := hMt.trans0 hS16
                    clear hS hcn hcz hrow hLt hMt hS15 hS16 hm15 hm16 hL'
                    go_wp2
                    go_roundw
                    case rel => exact ⟨n + 1, by omega, by go_num, hM2⟩
                    case measure => simp [intOf]; omega
                · have hz2 : ¬ (n : Int) < (ids.length : Int) := by omega
                  have HM : Hid (Mod NoB w wt) := hLt.mod
                  clear hLt hL14 hMt
                  go_upto_region 36 with (fail)
                  refine wp_region_seq [3, 3, 3, 3, 3, 3, 3, 3, 3, 3] (fun _ => True) (by rfl) (by rfl) trivial ?_
                  simp only [List.zip_cons_cons, List.zip_nil_right]
                  refine wpPi_move _ rfl rfl ?_
                  simp only [pl, pn, el, ec, sz, ss, gz, gs, if_true, if_false, Bool.false_eq_true, Bool.not_true, Bool.not_false, Nat.add_zero, Nat.zero_add, Nat.reduceAdd]
                  refine wpPi_move _ rfl rfl ?_
                  simp only [pl, pn, el, ec, sz, ss, gz, gs, if_true, if_false, Bool.false_eq_true, Bool.not_true, Bool.not_false, Nat.add_zero, Nat.zero_add, Nat.reduceAdd]
                  refine wpPi_move _ rfl rfl ?_
                  simp only [pl, pn, el, ec, sz, ss, gz, gs, if_true, if_false, Bool.false_eq_true, Bool.not_true, Bool.not_false, Nat.add_zero, Nat.zero_add, Nat.reduceAdd]
                  refine wpPi_move _ rfl rfl ?_
                  simp only [pl, pn, el, ec, sz, ss, gz, gs, if_true, if_false, Bool.false_eq_true, Bool.not_true, Bool.not_false, Nat.add_zero, Nat.zero_add, Nat.reduceAdd]
                  refine wpPi_move _ rfl rfl ?_
                  simp only [pl, pn, el, ec, sz, ss, gz, gs, if_true, if_false, Bool.false_eq_true, Bool.not_true, Bool.not_false, Nat.add_zero, Nat.zero_add, Nat.reduceAdd]
                  refine wpPi_mul _ _ _ _ 7 (many : Int) rfl rfl rfl rfl (by omega) (by omega) ?_
                  simp only [pl, pn, el, ec, sz, ss, gz, gs, if_true, if_false, Bool.false_eq_true, Bool.not_true, Bool.not_false, Nat.add_zero, Nat.zero_add, Nat.reduceAdd]
                  refine wpPi_sub _ _ _ _ was (7 * (many : Int)) rfl rfl rfl rfl (by omega) (by omega) ?_
                  simp only [pl, pn, el, ec, sz, ss, gz, gs, if_true, if_false, Bool.false_eq_true, Bool.not_true, Bool.not_false, Nat.add_zero, Nat.zero_add, Nat.reduceAdd]
                  refine wpPi_cmp _ _ _ _ _ _ _ _ rfl rfl rfl rfl rfl true (by simp [cmpB]) ?_
                  simp only [pl, pn, el, ec, sz, ss, gz, gs, if_true, if_false, Bool.false_eq_true, Bool.not_true, Bool.not_false, Nat.add_zero, Nat.zero_add, Nat.reduceAdd]
                  refine wpPi_pick _ _ _ _ rfl rfl rfl ?_
                  simp only [pl, pn, el, ec, sz, ss, gz, gs, if_true, if_false, Bool.false_eq_true, Bool.not_true, Bool.not_false, Nat.add_zero, Nat.zero_add, Nat.reduceAdd]
                  refine wpPi_assign _ rfl rfl ?_
                  simp only [pl, pn, el, ec, sz, ss, gz, gs, if_true, if_false, Bool.false_eq_true, Bool.not_true, Bool.not_false, Nat.add_zero, Nat.zero_add, Nat.reduceAdd]
                  refine wpPi_nil ?_
                  go_wp2
                  go_ret
                  exact ⟨rfl, HM.out⟩
end Go.Proofs.Ytcfcahflkhgapaa
