/- What the statement TreeMisses needs, part 5. -/
import Derived.Defers
import Derived.Test.YtchkikmmcmjcgaaTreeMissesP4
/- tree.Differ: which keys differ. -/
namespace Go.Proofs.Ytchkikmmcmjcgaa
set_option linter.unusedSimpArgs false
set_option linter.unusedVariables false
set_option linter.unnecessarySimpa false
set_option linter.unusedSectionVars false
open Go.RowKit Go.Shelf


theorem exec_index_agg1 {P : Program} {w : World} {o : Oper} {a : Act} (t e : TypeId) (x y : Operand) (n : Nat) (cs : Array Value) (i : Nat) (c : Value) (ho : o.op = .index t x y) (hx : a.eval x = .agg cs) (hy : a.eval y = .int .i64 (i : Int)) (hu : P.underlying t = some (.array n e)) (hs : (P.info? e).map (·.size) = some 1)
    (hag : ∀ w, (isAgg e).run P w = .ok false w) (hlt : i < n) (hc : cs[i]? = some c) : (execOp a.eval o).run P w = .ok (.value c) w := by
  have hsz : ∀ w, (sizeOf e).run P w = .ok 1 w := fun w => by
    cases hq : P.info? e with
    | none => simp [hq] at hs
    | some i => simp [hq] at hs; simp [sizeOf, typeInfo, hq, hs]
  have hi : (0 : Int) ≤ (i : Int) ∧ (i : Int) < (n : Int) := by omega
  unfold execOp
  simp only [ho, hx, hy]
  have hr : (Instr.index t (.agg cs) (.int .i64 (i : Int))).run P w = .ok c w := by
    unfold Instr.index
    simp only [Sem.run_bind, asIntOf, Sem.run_pure, Result.andThen_ok, run_underlying hu, hi, and_self, if_true, hsz, Int.toNat_natCast, Nat.mul_one]
    unfold part
    simp [hag, hc]
  simp only [Sem.run_bind, hr, Result.andThen_ok, Sem.run_pure]
theorem isAggS (w : World) : (isAgg 22).run Try.prog w = .ok false w := by
  unfold isAgg
  rw [Sem.run_bind, run_underlying Try.underlying22 w]; rfl
theorem built_a2 (a1 a2 : Option Addr) (n1 n2 c1 c2 : Nat) : Try.prog.built 56 [(0, .slice a1 n1 c1), (1, .slice a2 n2 c2)] = some #[.slice a1 n1 c1, .slice a2 n2 c2] := by kernel_rfl
def DifOk (a b : List Ent) (ks : List ByteArray) (n : Nat) : Prop := (errD a b = 0 → Rise (difE a b).1 ks ∧ n = (difE a b).2) ∧ (errD a b ≠ 0 → ks = [] ∧ n = 0)
def DfR (w : World) (a b : List Ent) : Ending → World → Prop := fun e w' => ∃ v ks n, e = .returned (.tuple #[v, .int .i64 ((n : Nat) : Int), .int .i64 ((errD a b : Nat) : Int)]) ∧ Gat strEnc 9 1 w.heap.size w' v ks ∧ DifOk a b ks n ∧ Mod NoB w w'
def DfRel1 (a b : List Ent) (w0 : World) (i : Value) (w : World) : Prop := ∃ k : Nat, k ≤ 2 ∧ i = .int .i64 k ∧ (1 ≤ k → chkE a = 0) ∧ (2 ≤ k → chkE b = 0) ∧ Mod NoB w0 w
def DfRel2 (la lb : List Leaf) (w0 : World) (i : Value) (w : World) : Prop := ∃ k : Nat, k ≤ la.length ∧ i = .int .i64 k ∧ (∀ j (_ : j < k) (h : j < la.length), ∀ y ∈ lb, y.way = la[j].way → y.key = la[j].key) ∧ Mod NoB w0 w
theorem Lie.eq_of_way {i : Nat} {l : List Leaf} (h : Lie i l) {x y : Leaf} (hx : x ∈ l) (hy : y ∈ l) (e : x.way = y.way) : x = y := by
  obtain ⟨p, hp, rfl⟩ := List.getElem_of_mem hx
  obtain ⟨q, hq, rfl⟩ := List.getElem_of_mem hy
  have k : ∀ p q, (hp : p < l.length) → (hq : q < l.length) → p < q → l[p].way ≠ l[q].way := fun p q hp hq hpq => by
    have := List.pairwise_iff_getElem.1 h.nd p q (by simpa using hp) (by simpa using hq) hpq
    simpa using this
  rcases Nat.lt_trichotomy p q with h3 | h3 | h3
  · exact absurd e (k p q hp hq h3)
  · subst h3; rfl
  · exact absurd e.symm (k q p hq hp h3)
theorem difOk_of {a b : List Ent} {la lb : List Leaf} (ha : Sorted a la) (hb : Sorted b lb) (h : errD a b = 0) : DifOk a b (compB (sortB (dif 256 0 la lb).1)) (dif 256 0 la lb).2 := by
  have hp := dif_perm 256 0 ha.1 hb.1
  refine ⟨fun _ => ⟨?_, hp.2⟩, fun h' => absurd h h'⟩
  obtain ⟨h1, h2⟩ := rise_sorted (dif 256 0 la lb).1
  exact ⟨h1, fun x => by rw [h2 x]; exact hp.1.mem_iff⟩
set_option maxRecDepth 10000 in
set_option maxHeartbeats 2000000 in
theorem treeDiffer_any {own own' : Bool} {w : World} {G G' : Nat → Prop} {va vb : Value} {a b : List Ent} (ha : Es own w G va a) (hb : Es own' w G' vb b) (hsa : Short a) (hsb : Short b) (hla : a.length ≤ 4096) (hlb : b.length ≤ 4096) :
    Calls Try.prog 11 #[va, vb] w (DfR w a b) := by
  have HA := Lib.hid ha
  have HB := Lib.hid hb
  have HSA := Lib.hid hsa
  have HSB := Lib.hid hsb
  obtain ⟨aa, ca, rfl, -, -⟩ := Sl.at ha
  obtain ⟨ab, cb, rfl, -, -⟩ := Sl.at hb
  have hbt := built_a2 aa ab a.length b.length ca cb
  clear ha hb hsa hsb
  go_enter Try.func11, Try.ntmps11
  go_upto_region 1 with (fail)
  refine wp_region_seq [3, 3, 0, 3] (fun _ => True) (by rfl) (by rfl) trivial ?_
  simp only [List.zip_cons_cons, List.zip_nil_right]
  refine wpPi_move _ rfl rfl ?_
  simp only [pl, pn, el, ec, sz, ss, gz, gs, if_true, if_false, Bool.false_eq_true, Bool.not_true, Bool.not_false, Nat.add_zero, Nat.zero_add, Nat.reduceAdd]
  refine wpPi_move _ rfl rfl ?_
  simp only [pl, pn, el, ec, sz, ss, gz, gs, if_true, if_false, Bool.false_eq_true, Bool.not_true, Bool.not_false, Nat.add_zero, Nat.zero_add, Nat.reduceAdd]
  refine wpPi_val rfl (fun w' hS => exec_build_of 56 [(0, _), (1, _)] [(0, .slice aa a.length ca), (1, .slice ab b.length cb)] _ (by rfl) (by rfl) hbt) ?_
  simp only [pl, pn, el, ec, sz, ss, gz, gs, if_true, if_false, Bool.false_eq_true, Bool.not_true, Bool.not_false, Nat.add_zero, Nat.zero_add, Nat.reduceAdd]
  refine wpPi_move _ rfl rfl ?_
  simp only [pl, pn, el, ec, sz, ss, gz, gs, if_true, if_false, Bool.false_eq_true, Bool.not_true, Bool.not_false, Nat.add_zero, Nat.zero_add, Nat.reduceAdd]
  refine wpPi_nil ?_
  clear hbt
  go_wp2
  go_loopw [20] (DfRel1 a b w) (fun i _ => 2 - (intOf i).toNat)
  case atStart => exact ⟨0, by omega, rfl, fun h => by omega, fun h => by omega, Mod.refl _ _⟩
  case round =>
    rename World => wr
    obtain ⟨k, hk, rfl, hk1, hk2, hm⟩ := hrel
    have hk3 : k = 0 ∨ k = 1 ∨ k = 2 := by omega
    rcases hk3 with rfl | rfl | rfl
    · have hz : ((0 : Nat) : Int) < 2 := by omega
      go_upto_region 3 with (fail)
      refine wp_region_seq [0, 3] (fun _ => True) (by rfl) (by rfl) trivial ?_
      simp only [List.zip_cons_cons, List.zip_nil_right]
      refine wpPi_val rfl (fun w' hS => exec_index_agg1 56 22 _ _ 2 _ 0 (.slice aa a.length ca) rfl rfl rfl Try.underlying56 (by kernel_rfl) isAggS (by omega) rfl) ?_
      simp only [pl, pn, el, ec, sz, ss, gz, gs, if_true, if_false, Bool.false_eq_true, Bool.not_true, Bool.not_false, Nat.add_zero, Nat.zero_add, Nat.reduceAdd]
      refine wpPi_assign _ rfl rfl ?_
      simp only [pl, pn, el, ec, sz, ss, gz, gs, if_true, if_false, Bool.false_eq_true, Bool.not_true, Bool.not_false, Nat.add_zero, Nat.zero_add, Nat.reduceAdd]
      refine wpPi_nil ?_
      go_upto_region 4 with (fail)
      refine wp_region_seq [3, 1, 3] (fun _ => True) (by rfl) (by rfl) trivial ?_
      simp only [List.zip_cons_cons, List.zip_nil_right]
      refine wpPi_move _ rfl rfl ?_
      simp only [pl, pn, el, ec, sz, ss, gz, gs, if_true, if_false, Bool.false_eq_true, Bool.not_true, Bool.not_false, Nat.add_zero, Nat.zero_add, Nat.reduceAdd]
      refine wpPi_do rfl (fun K hK => ?_)
      refine wp_enterQ (run_call 21 [.tmp 23] _ rfl _ Try.func21 rfl (by kernel_rfl) [.slice aa a.length ca] rfl _) (check_any (HA.out.keep0 hm) HSA.out hla) ?_
      rintro e w2 ⟨rfl, hm2⟩
      have hM2 := hm.trans0 hm2
      refine ⟨_, rfl, hK _ _ trivial ?_⟩
      clear hK K
      try simp only [pl, pn, el, ec, sz, ss, gz, gs, if_true, if_false, Bool.false_eq_true, Bool.not_true, Bool.not_false, Nat.add_zero, Nat.zero_add, Nat.reduceAdd]
      refine wpPi_assign _ rfl rfl ?_
      simp only [pl, pn, el, ec, sz, ss, gz, gs, if_true, if_false, Bool.false_eq_true, Bool.not_true, Bool.not_false, Nat.add_zero, Nat.zero_add, Nat.reduceAdd]
      refine wpPi_nil ?_
      clear hm hm2
      by_cases hc : chkE a = 0
      · have HC := Lib.hid hc
        rw [hc]
        clear hc hk1 hk2
        go_wp2
        go_roundw
        case rel => exact ⟨1, by omega, by go_num, fun _ => HC.out, fun h => by omega, hM2⟩
        case measure => simp [intOf]
      · have hc2 : ¬ ((chkE a : Nat) : Int) = 0 := by omega
        have hee : errD a b = chkE a := by unfold errD; rw [if_pos hc]
        have hok : DifOk a b [] 0 := ⟨fun h => absurd (hee ▸ h) hc, fun _ => ⟨rfl, rfl⟩⟩
        have HO := Lib.hid hok
        have HE := Lib.hid hee
        clear hc hee hok hk1 hk2
        go_wp2
        go_ret3
        exact ⟨_, [], 0, by rw [HE.out]; rfl, Gat.nil _ _ _ _ _, HO.out, hM2⟩
    · have hz : ((1 : Nat) : Int) < 2 := by omega
      have HC1 := Lib.hid (hk1 (by omega))
      go_upto_region 3 with (fail)
      refine wp_region_seq [0, 3] (fun _ => True) (by rfl) (by rfl) trivial ?_
      simp only [List.zip_cons_cons, List.zip_nil_right]
      refine wpPi_val rfl (fun w' hS => exec_index_agg1 56 22 _ _ 2 _ 1 (.slice ab b.length cb) rfl rfl rfl Try.underlying56 (by kernel_rfl) isAggS (by omega) rfl) ?_
      simp only [pl, pn, el, ec, sz, ss, gz, gs, if_true, if_false, Bool.false_eq_true, Bool.not_true, Bool.not_false, Nat.add_zero, Nat.zero_add, Nat.reduceAdd]
      refine wpPi_assign _ rfl rfl ?_
      simp only [pl, pn, el, ec, sz, ss, gz, gs, if_true, if_false, Bool.false_eq_true, Bool.not_true, Bool.not_false, Nat.add_zero, Nat.zero_add, Nat.reduceAdd]
      refine wpPi_nil ?_
      go_upto_region 4 with (fail)
      refine wp_region_seq [3, 1, 3] (fun _ => True) (by rfl) (by rfl) trivial ?_
      simp only [List.zip_cons_cons, List.zip_nil_right]
      refine wpPi_move _ rfl rfl ?_
      simp only [pl, pn, el, ec, sz, ss, gz, gs, if_true, if_false, Bool.false_eq_true, Bool.not_true, Bool.not_false, Nat.add_zero, Nat.zero_add, Nat.reduceAdd]
      refine wpPi_do rfl (fun K hK => ?_)
      refine wp_enterQ (run_call 21 [.tmp 23] _ rfl _ Try.func21 rfl (by kernel_rfl) [.slice ab b.length cb] rfl _) (check_any (HB.out.keep0 hm) HSB.out hlb) ?_
      rintro e w2 ⟨rfl, hm2⟩
      have hM2 := hm.trans0 hm2
      refine ⟨_, rfl, hK _ _ trivial ?_⟩
      clear hK K
      try simp only [pl, pn, el, ec, sz, ss, gz, gs, if_true, if_false, Bool.false_eq_true, Bool.not_true, Bool.not_false, Nat.add_zero, Nat.zero_add, Nat.reduceAdd]
      refine wpPi_assign _ rfl rfl ?_
      simp only [pl, pn, el, ec, sz, ss, gz, gs, if_true, if_false, Bool.false_eq_true, Bool.not_true, Bool.not_false, Nat.add_zero, Nat.zero_add, Nat.reduceAdd]
      refine wpPi_nil ?_
      clear hm hm2
      by_cases hc : chkE b = 0
      · have HC := Lib.hid hc
        rw [hc]
        clear hc hk1 hk2
        go_wp2
        go_roundw
        case rel => exact ⟨2, by omega, by go_num, fun _ => HC1.out, fun _ => HC.out, hM2⟩
        case measure => simp [intOf]
      · have hc2 : ¬ ((chkE b : Nat) : Int) = 0 := by omega
        have hee : errD a b = chkE b := by unfold errD; rw [if_neg (by rw [HC1.out]; simp), if_pos hc]
        have hok : DifOk a b [] 0 := ⟨fun h => absurd (hee ▸ h) hc, fun _ => ⟨rfl, rfl⟩⟩
        have HO := Lib.hid hok
        have HE := Lib.hid hee
        clear hc hee hok hk1 hk2
        go_wp2
        go_ret3
        exact ⟨_, [], 0, by rw [HE.out]; rfl, Gat.nil _ _ _ _ _, HO.out, hM2⟩
    · have hz : ¬ ((2 : Nat) : Int) < 2 := by omega
      have HC1 := Lib.hid (hk1 (by omega))
      have HC2 := Lib.hid (hk2 (by omega))
      clear hk1 hk2
      go_upto_region 8 with (fail)
      refine wp_region_seq [3, 1, 3, 1, 0, 1, 1] (fun _ => True) (by rfl) (by rfl) trivial ?_
      simp only [List.zip_cons_cons, List.zip_nil_right]
      refine wpPi_move _ rfl rfl ?_
      simp only [pl, pn, el, ec, sz, ss, gz, gs, if_true, if_false, Bool.false_eq_true, Bool.not_true, Bool.not_false, Nat.add_zero, Nat.zero_add, Nat.reduceAdd]
      refine wpPi_do rfl (fun K hK => ?_)
      refine wp_enterQ (run_call 28 [.tmp 29] _ rfl _ Try.func28 rfl (by kernel_rfl) [.slice aa a.length ca] rfl _) (sorted_any (HA.out.keep0 hm) HSA.out (by omega)) ?_
      rintro e w2 ⟨v2, la, rfl, hA2, hsrA, hm2⟩
      have hM2 := hm.trans0 hm2
      refine ⟨_, rfl, hK _ _ trivial ?_⟩
      clear hK K
      try simp only [pl, pn, el, ec, sz, ss, gz, gs, if_true, if_false, Bool.false_eq_true, Bool.not_true, Bool.not_false, Nat.add_zero, Nat.zero_add, Nat.reduceAdd]
      refine wpPi_move _ rfl rfl ?_
      simp only [pl, pn, el, ec, sz, ss, gz, gs, if_true, if_false, Bool.false_eq_true, Bool.not_true, Bool.not_false, Nat.add_zero, Nat.zero_add, Nat.reduceAdd]
      refine wpPi_do rfl (fun K hK => ?_)
      refine wp_enterQ (run_call 28 [.tmp 31] _ rfl _ Try.func28 rfl (by kernel_rfl) [.slice ab b.length cb] rfl _) (sorted_any (HB.out.keep0 hM2) HSB.out (by omega)) ?_
      rintro e w3 ⟨v3, lb, rfl, hB3, hsrB, hm3⟩
      have hM3 := hM2.trans0 hm3
      replace hA2 := Ls.bound (Ls.keep0 hA2 hm3)
      replace hB3 := Ls.bound hB3
      have HLA := Lib.hid hA2
      have HLB := Lib.hid hB3
      obtain ⟨xa, cxa, rfl, -, -⟩ := Sl.at hA2
      obtain ⟨xb, cxb, rfl, -, -⟩ := Sl.at hB3
      have hbp := built_pair (.slice xa la.length cxa) (.slice xb lb.length cxb) rfl rfl rfl rfl
      clear hA2 hB3 hm2 hm3 hm
      refine ⟨_, rfl, hK _ _ trivial ?_⟩
      clear hK K
      try simp only [pl, pn, el, ec, sz, ss, gz, gs, if_true, if_false, Bool.false_eq_true, Bool.not_true, Bool.not_false, Nat.add_zero, Nat.zero_add, Nat.reduceAdd]
      refine wpPi_val rfl (fun w' hS => exec_build_of 61 [(0, _), (1, _)] [(0, .slice xa la.length cxa), (1, .slice xb lb.length cxb)] _ (by rfl) (by rfl) hbp) ?_
      simp only [pl, pn, el, ec, sz, ss, gz, gs, if_true, if_false, Bool.false_eq_true, Bool.not_true, Bool.not_false, Nat.add_zero, Nat.zero_add, Nat.reduceAdd]
      refine wpPi_do rfl (fun K hK => ?_)
      refine wp_alloc 61 _ (by rfl) pairZ (fun w4 hB4 hm4 hs4 => ?_)
      replace hB4 : w4.heap[w3.heap.size]? = some (.cells #[.slice none 0 0, .slice none 0 0] 61 (0, 0)) := hB4
      refine hK _ _ trivial ?_
      clear hK K
      try simp only [pl, pn, el, ec, sz, ss, gz, gs, if_true, if_false, Bool.false_eq_true, Bool.not_true, Bool.not_false, Nat.add_zero, Nat.zero_add, Nat.reduceAdd]
      refine wpPi_do rfl (fun K hK => ?_)
      refine wp_storeA 61 _ _ w3.heap.size 0 #[.slice xa la.length cxa, .slice xb lb.length cxb] (by rfl) (by rfl) (by rfl) (by simp [Value.oneCell']) 2 (by kernel_rfl) rfl _ _ hB4 (by simp) (fun w5 hB5 hm5 => ?_)
      rw [putRow_whole (by rfl)] at hB5
      refine hK _ _ trivial ?_
      clear hK K
      try simp only [pl, pn, el, ec, sz, ss, gz, gs, if_true, if_false, Bool.false_eq_true, Bool.not_true, Bool.not_false, Nat.add_zero, Nat.zero_add, Nat.reduceAdd]
      refine wpPi_nil ?_
      have hM5 : Mod NoB w3 w5 := hm4.transB hm5 (Nat.le_refl _)
      have HLA5 := Lib.hid (HLA.out.keep0 hM5)
      have HLB5 := Lib.hid (HLB.out.keep0 hM5)
      have hMw := hM3.trans0 hM5
      have hlaS := sorted_len hsrA
      have hlbS := sorted_len hsrB
      have hlal : la.length ≤ 4096 := by omega
      have hlbl : lb.length ≤ 4096 := by omega
      have HPA := Lib.hid (placed_of hsrA HC1.out)
      have HPB := Lib.hid (placed_of hsrB HC2.out)
      have HSRA := Lib.hid hsrA
      have HSRB := Lib.hid hsrB
      have hcw := CellsAt.whole hB5
      have h0 := hcw.cell (j := 0) (v := .slice xa la.length cxa) rfl
      have h1 := hcw.cell (j := 1) (v := .slice xb lb.length cxb) rfl
      have hsw : w.heap.size ≤ w5.heap.size := hMw.size
      generalize hb10 : w3.heap.size = b10 at *
      clear hm4 hm5 hB4 hB5 hlaS hlbS hsrA hsrB hM2 hM3 HLA HLB hM5
      go_upto_region 9 with (fail)
      refine wp_region_seq [3, 1, 3, 3] (fun _ => True) (by rfl) (by rfl) trivial ?_
      simp only [List.zip_cons_cons, List.zip_nil_right]
      refine wpPi_field _ _ _ _ _ _ rfl rfl rfl fo_61_0 ?_
      simp only [pl, pn, el, ec, sz, ss, gz, gs, if_true, if_false, Bool.false_eq_true, Bool.not_true, Bool.not_false, Nat.add_zero, Nat.zero_add, Nat.reduceAdd]
      refine wpPi_do rfl (fun K hK => ?_)
      refine wp_exec (exec_load1 58 _ (by rfl) b10 0 (by rfl) _ h0 _ Try.underlying58 rfl) ?_
      refine hK _ _ trivial ?_
      clear hK K
      try simp only [pl, pn, el, ec, sz, ss, gz, gs, if_true, if_false, Bool.false_eq_true, Bool.not_true, Bool.not_false, Nat.add_zero, Nat.zero_add, Nat.reduceAdd]
      refine wpPi_len _ _ _ _ _ rfl rfl rfl (by kernel_rfl) ?_
      simp only [pl, pn, el, ec, sz, ss, gz, gs, if_true, if_false, Bool.false_eq_true, Bool.not_true, Bool.not_false, Nat.add_zero, Nat.zero_add, Nat.reduceAdd]
      refine wpPi_move _ rfl rfl ?_
      simp only [pl, pn, el, ec, sz, ss, gz, gs, if_true, if_false, Bool.false_eq_true, Bool.not_true, Bool.not_false, Nat.add_zero, Nat.zero_add, Nat.reduceAdd]
      refine wpPi_nil ?_
      go_wp2
      go_loopw [37] (DfRel2 la lb w5) (fun i _ => la.length - (intOf i).toNat)
      case atStart => exact ⟨0, by omega, rfl, fun j h1 h2 => by omega, Mod.refl _ _⟩
      case round =>
        rename World => wq
        obtain ⟨k, hk, rfl, hall, hm⟩ := hrel
        have HALL := Lib.hid hall
        clear hall
        by_cases hlt : k < la.length
        · have hz2 : (k : Int) < (la.length : Int) := by omega
          obtain ⟨_, _, hv, -, hat⟩ := Sl.at (HLA5.out.keep0 hm)
          cases hv
          obtain ⟨bq, off, rfl, -, -, hc⟩ := hat k hlt
          obtain ⟨_, -, ⟨rfl, hok⟩, hc⟩ := hc k hlt
          have hxs := leafCells_size hok
          have hz32 : (leafCells zeroLeaf).size = 65 := by kernel_rfl
          have hxmem : la[k] ∈ la := List.getElem_mem hlt
          clear hat
          obtain ⟨x, hxk⟩ : ∃ x, la[k] = x := ⟨_, rfl⟩
          rw [hxk] at hok hc hxs hxmem
          have HXK := Lib.hid hxk
          clear hxk
          have hxw := hok.1
          have hxr : (idCells x.way).size = 32 := by rw [idCells_size, hxw]
          go_upto_region 11 with (fail)
          refine wp_region_seq [3, 1, 1, 1] (fun _ => True) (by rfl) (by rfl) trivial ?_
          simp only [List.zip_cons_cons, List.zip_nil_right]
          refine wpPi_index _ _ _ _ _ _ _ _ _ rfl rfl rfl rfl Try.underlying58 (n := 65) (by kernel_rfl) hlt ?_
          simp only [pl, pn, el, ec, sz, ss, gz, gs, if_true, if_false, Bool.false_eq_true, Bool.not_true, Bool.not_false, Nat.add_zero, Nat.zero_add, Nat.reduceAdd]
          refine wpPi_do rfl (fun K hK => ?_)
          refine wp_exec (exec_loadA 63 _ (by rfl) bq (off + k * 65) (by rfl) (leafCells x) hc _ Try.underlying63 rfl 65 (by kernel_rfl) hxs) ?_
          refine hK _ _ trivial ?_
          clear hK K
          try simp only [pl, pn, el, ec, sz, ss, gz, gs, if_true, if_false, Bool.false_eq_true, Bool.not_true, Bool.not_false, Nat.add_zero, Nat.zero_add, Nat.reduceAdd]
          refine wpPi_do rfl (fun K hK => ?_)
          refine wp_alloc 63 _ (by rfl) leafZ (fun w6 hB6 hm6 hs6 => ?_)
          replace hB6 : w6.heap[wq.heap.size]? = some (.cells (leafCells zeroLeaf) 63 (0, 0)) := hB6
          refine hK _ _ trivial ?_
          clear hK K
          try simp only [pl, pn, el, ec, sz, ss, gz, gs, if_true, if_false, Bool.false_eq_true, Bool.not_true, Bool.not_false, Nat.add_zero, Nat.zero_add, Nat.reduceAdd]
          refine wpPi_do rfl (fun K hK => ?_)
          refine wp_storeA 63 _ _ wq.heap.size 0 (leafCells x) (by rfl) (by rfl) (by rfl) (leafCells_one x) 65 (by kernel_rfl) hxs _ _ hB6 (by rw [hxs, hz32]; exact Nat.le_refl _) (fun w7 hB7 hm7 => ?_)
          rw [putRow_whole (by rw [hxs, hz32])] at hB7
          refine hK _ _ trivial ?_
          clear hK K
          try simp only [pl, pn, el, ec, sz, ss, gz, gs, if_true, if_false, Bool.false_eq_true, Bool.not_true, Bool.not_false, Nat.add_zero, Nat.zero_add, Nat.reduceAdd]
          refine wpPi_nil ?_
          have hM7 : Mod NoB w5 w7 := hm.trans0 (hm6.transB hm7 (Nat.le_refl _))
          generalize wq.heap.size = b12 at *
          clear hm6 hm7 hB6 hc hm
          have hcx := CellsAt.whole hB7
          have hkx := leaf_key hcx
          have hwx := leaf_way hok hcx
          rw [Nat.zero_add] at hkx hwx
          clear hcx hB7
          go_upto_region 12 with (fail)
          refine wp_region_seq [3, 1, 3, 1, 1, 3, 3, 3, 3, 3] (fun _ => True) (by rfl) (by rfl) trivial ?_
          simp only [List.zip_cons_cons, List.zip_nil_right]
          refine wpPi_field _ _ _ _ _ _ rfl rfl rfl fo_61_1 ?_
          simp only [pl, pn, el, ec, sz, ss, gz, gs, if_true, if_false, Bool.false_eq_true, Bool.not_true, Bool.not_false, Nat.add_zero, Nat.zero_add, Nat.reduceAdd]
          refine wpPi_do rfl (fun K hK => ?_)
          refine wp_exec (exec_load1 58 _ (by rfl) b10 1 (by rfl) _ (hM7.cell id h1) _ Try.underlying58 rfl) ?_
          refine hK _ _ trivial ?_
          clear hK K
          try simp only [pl, pn, el, ec, sz, ss, gz, gs, if_true, if_false, Bool.false_eq_true, Bool.not_true, Bool.not_false, Nat.add_zero, Nat.zero_add, Nat.reduceAdd]
          refine wpPi_field _ _ _ _ _ _ rfl rfl rfl fo_63_1 ?_
          simp only [pl, pn, el, ec, sz, ss, gz, gs, if_true, if_false, Bool.false_eq_true, Bool.not_true, Bool.not_false, Nat.add_zero, Nat.zero_add, Nat.reduceAdd]
          refine wpPi_do rfl (fun K hK => ?_)
          refine wp_exec (exec_loadA 38 _ (by rfl) b12 1 (by rfl) (idCells x.way) hwx _ Try.underlying38 rfl 32 (by kernel_rfl) hxr) ?_
          refine hK _ _ trivial ?_
          clear hK K
          try simp only [pl, pn, el, ec, sz, ss, gz, gs, if_true, if_false, Bool.false_eq_true, Bool.not_true, Bool.not_false, Nat.add_zero, Nat.zero_add, Nat.reduceAdd]
          refine wpPi_do rfl (fun K hK => ?_)
          refine wp_enterQ (run_call 29 [.tmp 43, .tmp 45, .func 30] _ rfl _ Try.func29 rfl (by kernel_rfl) [.slice xb lb.length cxb, .agg (idCells x.way), .func (.func 30) #[] #[]] rfl _) (binSearch_any (HLB5.out.keep0 hM7) HPB.out (by omega) x.way hxw) ?_
          rintro e w8 ⟨q, bb, rfl, hq1, hq2, hm8⟩
          have hM8 := hM7.trans0 hm8
          replace hkx := hm8.cell id hkx
          refine ⟨_, rfl, hK _ _ trivial ?_⟩
          clear hK K
          try simp only [pl, pn, el, ec, sz, ss, gz, gs, if_true, if_false, Bool.false_eq_true, Bool.not_true, Bool.not_false, Nat.add_zero, Nat.zero_add, Nat.reduceAdd]
          refine wpPi_move _ rfl rfl ?_
          simp only [pl, pn, el, ec, sz, ss, gz, gs, if_true, if_false, Bool.false_eq_true, Bool.not_true, Bool.not_false, Nat.add_zero, Nat.zero_add, Nat.reduceAdd]
          refine wpPi_any (v := ?_) rfl (fun w' => ?_) ?_; rotate_left; · (go_simp; try with_reducible rfl)
          simp only [pl, pn, el, ec, sz, ss, gz, gs, if_true, if_false, Bool.false_eq_true, Bool.not_true, Bool.not_false, Nat.add_zero, Nat.zero_add, Nat.reduceAdd]
          refine wpPi_any (v := ?_) rfl (fun w' => ?_) ?_; rotate_left; · (go_simp; try with_reducible rfl)
          simp only [pl, pn, el, ec, sz, ss, gz, gs, if_true, if_false, Bool.false_eq_true, Bool.not_true, Bool.not_false, Nat.add_zero, Nat.zero_add, Nat.reduceAdd]
          refine wpPi_assign _ rfl rfl ?_
          simp only [pl, pn, el, ec, sz, ss, gz, gs, if_true, if_false, Bool.false_eq_true, Bool.not_true, Bool.not_false, Nat.add_zero, Nat.zero_add, Nat.reduceAdd]
          refine wpPi_assign _ rfl rfl ?_
          simp only [pl, pn, el, ec, sz, ss, gz, gs, if_true, if_false, Bool.false_eq_true, Bool.not_true, Bool.not_false, Nat.add_zero, Nat.zero_add, Nat.reduceAdd]
          refine wpPi_nil ?_
          clear hm8 hM7 hwx
          cases bb with
          | false =>
            have hstep : ∀ j (_ : j < k + 1) (h : j < la.length), ∀ y ∈ lb, y.way = la[j].way → y.key = la[j].key := fun j h1 h2 y hy e => by
              rcases Nat.lt_or_ge j k with h4 | h4
              · exact HALL.out j h4 h2 y hy e
              · obtain rfl : j = k := by omega
                rw [HXK.out] at e
                exact absurd e (hq2 rfl y hy)
            have HST := Lib.hid hstep
            clear hstep hq1 hq2
            go_upto_region 13 with (fail)
            have hS : Mod NoB w8 w8.drew := (Mod.refl _ _).drew
            refine wp_region_pi [(0, 3), (1, 3), (2, 3), (3, 0), (4, 3), (5, 3), (6, 3), (7, 0), (8, 3), (9, 0), (10, 3), (11, 3)] [] (fun w' => Mod NoB w8 w') (by kernel_rfl) (by kernel_rfl) (by kernel_rfl) (by kernel_rfl) (fun _ _ _ _ hd h => ⟨hd.trans h.1, h.2⟩) hS ?_
            simp only [List.map_cons, List.map_nil, List.getD_cons_zero, List.getD_cons_succ]
            refine wpPi_move _ rfl rfl ?_
            simp only [pl, pn, el, ec, sz, ss, gz, gs, if_true, if_false, Bool.false_eq_true, Bool.not_true, Bool.not_false, Nat.add_zero, Nat.zero_add, Nat.reduceAdd]
            refine wpPi_move _ rfl rfl ?_
            simp only [pl, pn, el, ec, sz, ss, gz, gs, if_true, if_false, Bool.false_eq_true, Bool.not_true, Bool.not_false, Nat.add_zero, Nat.zero_add, Nat.reduceAdd]
            refine wpPi_skip rfl ?_
            simp only [pl, pn, el, ec, sz, ss, gz, gs, if_true, if_false, Bool.false_eq_true, Bool.not_true, Bool.not_false, Nat.add_zero, Nat.zero_add, Nat.reduceAdd]
            refine wpPi_skip0 rfl ?_
            simp only [pl, pn, el, ec, sz, ss, gz, gs, if_true, if_false, Bool.false_eq_true, Bool.not_true, Bool.not_false, Nat.add_zero, Nat.zero_add, Nat.reduceAdd]
            refine wpPi_skip rfl ?_
            simp only [pl, pn, el, ec, sz, ss, gz, gs, if_true, if_false, Bool.false_eq_true, Bool.not_true, Bool.not_false, Nat.add_zero, Nat.zero_add, Nat.reduceAdd]
            refine wpPi_skip rfl ?_
            simp only [pl, pn, el, ec, sz, ss, gz, gs, if_true, if_false, Bool.false_eq_true, Bool.not_true, Bool.not_false, Nat.add_zero, Nat.zero_add, Nat.reduceAdd]
            refine wpPi_skip rfl ?_
            simp only [pl, pn, el, ec, sz, ss, gz, gs, if_true, if_false, Bool.false_eq_true, Bool.not_true, Bool.not_false, Nat.add_zero, Nat.zero_add, Nat.reduceAdd]
            refine wpPi_skip0 rfl ?_
            simp only [pl, pn, el, ec, sz, ss, gz, gs, if_true, if_false, Bool.false_eq_true, Bool.not_true, Bool.not_false, Nat.add_zero, Nat.zero_add, Nat.reduceAdd]
            refine wpPi_skip rfl ?_
            simp only [pl, pn, el, ec, sz, ss, gz, gs, if_true, if_false, Bool.false_eq_true, Bool.not_true, Bool.not_false, Nat.add_zero, Nat.zero_add, Nat.reduceAdd]
            refine wpPi_skip0 rfl ?_
            simp only [pl, pn, el, ec, sz, ss, gz, gs, if_true, if_false, Bool.false_eq_true, Bool.not_true, Bool.not_false, Nat.add_zero, Nat.zero_add, Nat.reduceAdd]
            refine wpPi_skip rfl ?_
            simp only [pl, pn, el, ec, sz, ss, gz, gs, if_true, if_false, Bool.false_eq_true, Bool.not_true, Bool.not_false, Nat.add_zero, Nat.zero_add, Nat.reduceAdd]
            refine wpPi_pick _ _ _ _ rfl rfl rfl ?_
            simp only [pl, pn, el, ec, sz, ss, gz, gs, if_true, if_false, Bool.false_eq_true, Bool.not_true, Bool.not_false, Nat.add_zero, Nat.zero_add, Nat.reduceAdd]
            refine wpPi_nil ?_
            have hMr := hM8.trans0 hS
            clear hM8 hS
            go_wp2
            go_roundw
            case rel => exact ⟨k + 1, by omega, by go_num, HST.out, hMr⟩
            case measure => simp [intOf]; omega
          | true =>
            obtain ⟨hql, hqw⟩ := hq1 rfl
            obtain ⟨_, _, hv, -, hat⟩ := Sl.at (HLB5.out.keep0 hM8)
            cases hv
            obtain ⟨br, offr, rfl, -, -, hc⟩ := hat q hql
            obtain ⟨_, -, ⟨rfl, hokr⟩, hc⟩ := hc q hql
            have hkr := leaf_key hc
            have hymem : lb[q] ∈ lb := List.getElem_mem hql
            obtain ⟨y, hyq⟩ : ∃ y, lb[q] = y := ⟨_, rfl⟩
            rw [hyq] at hqw hkr hymem
            have h1q := hM8.cell id h1
            clear hat hc hq1 hq2 hyq hokr
            rw [Nat.add_zero] at hkr
            by_cases hkey : y.key = x.key
            · have hstep : ∀ j (_ : j < k + 1) (h : j < la.length), ∀ y ∈ lb, y.way = la[j].way → y.key = la[j].key := fun j h1 h2 z hz e => by
                rcases Nat.lt_or_ge j k with h4 | h4
                · exact HALL.out j h4 h2 z hz e
                · obtain rfl : j = k := by omega
                  rw [HXK.out] at e ⊢
                  rw [HPB.out.lie.eq_of_way hz hymem (by rw [e, hqw])]
                  exact hkey
              have HST := Lib.hid hstep
              clear hstep
              go_upto_region 13 with (fail)
              have hS : Mod NoB w8 w8.drew := (Mod.refl _ _).drew
              refine wp_region_pi [(0, 3), (1, 3), (2, 3), (3, 0), (4, 3), (5, 3), (6, 3), (7, 0), (8, 3), (9, 0), (10, 0), (11, 3)] [] (fun w' => Mod NoB w8 w') (by kernel_rfl) (by kernel_rfl) (by kernel_rfl) (by kernel_rfl) (fun _ _ _ _ hd h => ⟨hd.trans h.1, h.2⟩) hS ?_
              simp only [List.map_cons, List.map_nil, List.getD_cons_zero, List.getD_cons_succ]
              refine wpPi_move _ rfl rfl ?_
              simp only [pl, pn, el, ec, sz, ss, gz, gs, if_true, if_false, Bool.false_eq_true, Bool.not_true, Bool.not_false, Nat.add_zero, Nat.zero_add, Nat.reduceAdd]
              refine wpPi_move _ rfl rfl ?_
              simp only [pl, pn, el, ec, sz, ss, gz, gs, if_true, if_false, Bool.false_eq_true, Bool.not_true, Bool.not_false, Nat.add_zero, Nat.zero_add, Nat.reduceAdd]
              refine wpPi_field _ _ _ _ _ _ rfl rfl rfl fo_61_1 ?_
              simp only [pl, pn, el, ec, sz, ss, gz, gs, if_true, if_false, Bool.false_eq_true, Bool.not_true, Bool.not_false, Nat.add_zero, Nat.zero_add, Nat.reduceAdd]
              refine wpPi_val rfl (fun w' hS => exec_load1 58 _ (by rfl) b10 1 (by rfl) _ (hS.cell id h1q) _ Try.underlying58 rfl) ?_
              simp only [pl, pn, el, ec, sz, ss, gz, gs, if_true, if_false, Bool.false_eq_true, Bool.not_true, Bool.not_false, Nat.add_zero, Nat.zero_add, Nat.reduceAdd]
              refine wpPi_move _ rfl rfl ?_
              simp only [pl, pn, el, ec, sz, ss, gz, gs, if_true, if_false, Bool.false_eq_true, Bool.not_true, Bool.not_false, Nat.add_zero, Nat.zero_add, Nat.reduceAdd]
              refine wpPi_index _ _ _ _ _ _ _ _ _ rfl rfl rfl rfl Try.underlying58 (n := 65) (by kernel_rfl) hql ?_
              simp only [pl, pn, el, ec, sz, ss, gz, gs, if_true, if_false, Bool.false_eq_true, Bool.not_true, Bool.not_false, Nat.add_zero, Nat.zero_add, Nat.reduceAdd]
              refine wpPi_field _ _ _ _ _ _ rfl rfl rfl fo_63_0 ?_
              simp only [pl, pn, el, ec, sz, ss, gz, gs, if_true, if_false, Bool.false_eq_true, Bool.not_true, Bool.not_false, Nat.add_zero, Nat.zero_add, Nat.reduceAdd]
              refine wpPi_val rfl (fun w' hS => exec_load1 9 _ (by rfl) br (offr + q * 65) (by rfl) (.string y.key) (hS.cell id hkr) _ Try.underlying9 rfl) ?_
              simp only [pl, pn, el, ec, sz, ss, gz, gs, if_true, if_false, Bool.false_eq_true, Bool.not_true, Bool.not_false, Nat.add_zero, Nat.zero_add, Nat.reduceAdd]
              refine wpPi_field _ _ _ _ _ _ rfl rfl rfl fo_63_0 ?_
              simp only [pl, pn, el, ec, sz, ss, gz, gs, if_true, if_false, Bool.false_eq_true, Bool.not_true, Bool.not_false, Nat.add_zero, Nat.zero_add, Nat.reduceAdd]
              refine wpPi_val rfl (fun w' hS => exec_load1 9 _ (by rfl) b12 0 (by rfl) (.string x.key) (hS.cell id hkx) _ Try.underlying9 rfl) ?_
              simp only [pl, pn, el, ec, sz, ss, gz, gs, if_true, if_false, Bool.false_eq_true, Bool.not_true, Bool.not_false, Nat.add_zero, Nat.zero_add, Nat.reduceAdd]
              refine wpPi_val rfl (fun w' hS => exec_neq_str _ _ _ _ rfl y.key x.key rfl rfl false (decide_eq_false (fun h => h hkey))) ?_
              simp only [pl, pn, el, ec, sz, ss, gz, gs, if_true, if_false, Bool.false_eq_true, Bool.not_true, Bool.not_false, Nat.add_zero, Nat.zero_add, Nat.reduceAdd]
              refine wpPi_pick _ _ _ _ rfl rfl rfl ?_
              simp only [pl, pn, el, ec, sz, ss, gz, gs, if_true, if_false, Bool.false_eq_true, Bool.not_true, Bool.not_false, Nat.add_zero, Nat.zero_add, Nat.reduceAdd]
              refine wpPi_nil ?_
              have hMr := hM8.trans0 hS
              clear hM8 hS
              go_wp2
              go_roundw
              case rel => exact ⟨k + 1, by omega, by go_num, HST.out, hMr⟩
              case measure => simp [intOf]; omega
            · have hcl : clash a b := ⟨x, HSRA.out.1.mem_iff.1 hxmem, y, HSRB.out.1.mem_iff.1 hymem, hqw.symm, fun e => hkey e.symm⟩
              have hee : errD a b = 9 := by unfold errD; rw [if_neg (by rw [HC1.out]; simp), if_neg (by rw [HC2.out]; simp), if_pos hcl]
              have hok : DifOk a b [] 0 := ⟨(fun h => by rw [hee] at h; cases h), fun _ => ⟨rfl, rfl⟩⟩
              have HO := Lib.hid hok
              have HE := Lib.hid hee
              clear hok hee hcl
              go_upto_region 13 with (fail)
              have hS : Mod NoB w8 w8.drew := (Mod.refl _ _).drew
              refine wp_region_pi [(0, 3), (1, 3), (2, 3), (3, 0), (4, 3), (5, 3), (6, 3), (7, 0), (8, 3), (9, 0), (10, 0), (11, 3)] [] (fun w' => Mod NoB w8 w') (by kernel_rfl) (by kernel_rfl) (by kernel_rfl) (by kernel_rfl) (fun _ _ _ _ hd h => ⟨hd.trans h.1, h.2⟩) hS ?_
              simp only [List.map_cons, List.map_nil, List.getD_cons_zero, List.getD_cons_succ]
              refine wpPi_move _ rfl rfl ?_
              simp only [pl, pn, el, ec, sz, ss, gz, gs, if_true, if_false, Bool.false_eq_true, Bool.not_true, Bool.not_false, Nat.add_zero, Nat.zero_add, Nat.reduceAdd]
              refine wpPi_move _ rfl rfl ?_
              simp only [pl, pn, el, ec, sz, ss, gz, gs, if_true, if_false, Bool.false_eq_true, Bool.not_true, Bool.not_false, Nat.add_zero, Nat.zero_add, Nat.reduceAdd]
              refine wpPi_field _ _ _ _ _ _ rfl rfl rfl fo_61_1 ?_
              simp only [pl, pn, el, ec, sz, ss, gz, gs, if_true, if_false, Bool.false_eq_true, Bool.not_true, Bool.not_false, Nat.add_zero, Nat.zero_add, Nat.reduceAdd]
              refine wpPi_val rfl (fun w' hS => exec_load1 58 _ (by rfl) b10 1 (by rfl) _ (hS.cell id h1q) _ Try.underlying58 rfl) ?_
              simp only [pl, pn, el, ec, sz, ss, gz, gs, if_true, if_false, Bool.false_eq_true, Bool.not_true, Bool.not_false, Nat.add_zero, Nat.zero_add, Nat.reduceAdd]
              refine wpPi_move _ rfl rfl ?_
              simp only [pl, pn, el, ec, sz, ss, gz, gs, if_true, if_false, Bool.false_eq_true, Bool.not_true, Bool.not_false, Nat.add_zero, Nat.zero_add, Nat.reduceAdd]
              refine wpPi_index _ _ _ _ _ _ _ _ _ rfl rfl rfl rfl Try.underlying58 (n := 65) (by kernel_rfl) hql ?_
              simp only [pl, pn, el, ec, sz, ss, gz, gs, if_true, if_false, Bool.false_eq_true, Bool.not_true, Bool.not_false, Nat.add_zero, Nat.zero_add, Nat.reduceAdd]
              refine wpPi_field _ _ _ _ _ _ rfl rfl rfl fo_63_0 ?_
              simp only [pl, pn, el, ec, sz, ss, gz, gs, if_true, if_false, Bool.false_eq_true, Bool.not_true, Bool.not_false, Nat.add_zero, Nat.zero_add, Nat.reduceAdd]
              refine wpPi_val rfl (fun w' hS => exec_load1 9 _ (by rfl) br (offr + q * 65) (by rfl) (.string y.key) (hS.cell id hkr) _ Try.underlying9 rfl) ?_
              simp only [pl, pn, el, ec, sz, ss, gz, gs, if_true, if_false, Bool.false_eq_true, Bool.not_true, Bool.not_false, Nat.add_zero, Nat.zero_add, Nat.reduceAdd]
              refine wpPi_field _ _ _ _ _ _ rfl rfl rfl fo_63_0 ?_
              simp only [pl, pn, el, ec, sz, ss, gz, gs, if_true, if_false, Bool.false_eq_true, Bool.not_true, Bool.not_false, Nat.add_zero, Nat.zero_add, Nat.reduceAdd]
              refine wpPi_val rfl (fun w' hS => exec_load1 9 _ (by rfl) b12 0 (by rfl) (.string x.key) (hS.cell id hkx) _ Try.underlying9 rfl) ?_
              simp only [pl, pn, el, ec, sz, ss, gz, gs, if_true, if_false, Bool.false_eq_true, Bool.not_true, Bool.not_false, Nat.add_zero, Nat.zero_add, Nat.reduceAdd]
              refine wpPi_val rfl (fun w' hS => exec_neq_str _ _ _ _ rfl y.key x.key rfl rfl true (decide_eq_true hkey)) ?_
              simp only [pl, pn, el, ec, sz, ss, gz, gs, if_true, if_false, Bool.false_eq_true, Bool.not_true, Bool.not_false, Nat.add_zero, Nat.zero_add, Nat.reduceAdd]
              refine wpPi_pick _ _ _ _ rfl rfl rfl ?_
              simp only [pl, pn, el, ec, sz, ss, gz, gs, if_true, if_false, Bool.false_eq_true, Bool.not_true, Bool.not_false, Nat.add_zero, Nat.zero_add, Nat.reduceAdd]
              refine wpPi_nil ?_
              have hMr := hMw.trans0 (hM8.trans0 hS)
              clear hM8 hS
              go_wp2
              go_ret3
              exact ⟨_, [], 0, by rw [HE.out]; rfl, Gat.nil _ _ _ _ _, HO.out, hMr⟩
        · have hz2 : ¬ (k : Int) < (la.length : Int) := by omega
          obtain rfl : k = la.length := by omega
          have hncl : ¬ clash a b := by
            rintro ⟨x, hx, y, hy, e1, e2⟩
            have hx := HSRA.out.1.mem_iff.2 hx
            have hy := HSRB.out.1.mem_iff.2 hy
            obtain ⟨j, hj, rfl⟩ := List.getElem_of_mem hx
            exact e2 (HALL.out j hj hj y hy e1.symm).symm
          have hee : errD a b = 0 := errD_zero.2 ⟨HC1.out, HC2.out, hncl⟩
          have HO := Lib.hid (difOk_of HSRA.out HSRB.out hee)
          have HE := Lib.hid hee
          have hkl := dif_keys 256 0 la lb
          clear hncl hee
          have hcr := hcw.keep hm id
          go_upto_region 16 with (fail)
          refine wp_region_seq [1, 1, 3, 3, 3, 3, 3] (fun _ => True) (by rfl) (by rfl) trivial ?_
          simp only [List.zip_cons_cons, List.zip_nil_right]
          refine wpPi_do rfl (fun K hK => ?_)
          refine wp_exec (exec_loadA 61 _ (by rfl) b10 0 (by rfl) _ hcr _ Try.underlying61 rfl 2 (by kernel_rfl) rfl) ?_
          refine hK _ _ trivial ?_
          clear hK K
          try simp only [pl, pn, el, ec, sz, ss, gz, gs, if_true, if_false, Bool.false_eq_true, Bool.not_true, Bool.not_false, Nat.add_zero, Nat.zero_add, Nat.reduceAdd]
          refine wpPi_do rfl (fun K hK => ?_)
          refine wp_enterQ (run_call 32 [.tmp 63, .const (.int .i64 0)] _ rfl _ Try.func32 rfl (by kernel_rfl) [.agg #[.slice xa la.length cxa, .slice xb lb.length cxb], .int .i64 ((0 : Nat) : Int)] rfl _) (differ_any 256 0 la lb _ _ _ rfl (HLA5.out.keep0 hm).all (HLB5.out.keep0 hm).all HPA.out HPB.out (by omega) (by omega)) ?_
          rintro e w6 ⟨v6, rfl, hg6, hm6⟩
          generalize dif 256 0 la lb = p at *
          have hM6 := hm.trans0 hm6
          have hs6 := hm.size
          replace hg6 := hg6.base (b' := w5.heap.size) hs6
          refine ⟨_, rfl, hK _ _ trivial ?_⟩
          clear hK K
          try simp only [pl, pn, el, ec, sz, ss, gz, gs, if_true, if_false, Bool.false_eq_true, Bool.not_true, Bool.not_false, Nat.add_zero, Nat.zero_add, Nat.reduceAdd]
          refine wpPi_move _ rfl rfl ?_
          simp only [pl, pn, el, ec, sz, ss, gz, gs, if_true, if_false, Bool.false_eq_true, Bool.not_true, Bool.not_false, Nat.add_zero, Nat.zero_add, Nat.reduceAdd]
          refine wpPi_any (v := ?_) rfl (fun w' => ?_) ?_; rotate_left; · (go_simp; try with_reducible rfl)
          simp only [pl, pn, el, ec, sz, ss, gz, gs, if_true, if_false, Bool.false_eq_true, Bool.not_true, Bool.not_false, Nat.add_zero, Nat.zero_add, Nat.reduceAdd]
          refine wpPi_any (v := ?_) rfl (fun w' => ?_) ?_; rotate_left; · (go_simp; try with_reducible rfl)
          simp only [pl, pn, el, ec, sz, ss, gz, gs, if_true, if_false, Bool.false_eq_true, Bool.not_true, Bool.not_false, Nat.add_zero, Nat.zero_add, Nat.reduceAdd]
          refine wpPi_assign _ rfl rfl ?_
          simp only [pl, pn, el, ec, sz, ss, gz, gs, if_true, if_false, Bool.false_eq_true, Bool.not_true, Bool.not_false, Nat.add_zero, Nat.zero_add, Nat.reduceAdd]
          refine wpPi_assign _ rfl rfl ?_
          simp only [pl, pn, el, ec, sz, ss, gz, gs, if_true, if_false, Bool.false_eq_true, Bool.not_true, Bool.not_false, Nat.add_zero, Nat.zero_add, Nat.reduceAdd]
          refine wpPi_nil ?_
          have hcl6 := hg6.lts
          clear hm6 hm hcr
          go_upto_region 17 with (fail)
          refine wp_region_seq [3, 1] (fun _ => True) (by rfl) (by rfl) trivial ?_
          simp only [List.zip_cons_cons, List.zip_nil_right]
          refine wpPi_move _ rfl rfl ?_
          simp only [pl, pn, el, ec, sz, ss, gz, gs, if_true, if_false, Bool.false_eq_true, Bool.not_true, Bool.not_false, Nat.add_zero, Nat.zero_add, Nat.reduceAdd]
          refine wpPi_do rfl (fun K hK => ?_)
          refine wp_enterQ (run_call 33 [.tmp 67] _ rfl _ Try.func33 rfl (by kernel_rfl) [v6] rfl _) (sortS_any hg6 (by omega)) ?_
          rintro e w7 ⟨rfl, hg7, hm7⟩
          have hM7 : Mod NoB w5 w7 := hM6.trans hm7 (fun k hk e => by have := (hcl6 _ e).1; omega)
          refine ⟨_, rfl, hK _ _ trivial ?_⟩
          clear hK K
          try simp only [pl, pn, el, ec, sz, ss, gz, gs, if_true, if_false, Bool.false_eq_true, Bool.not_true, Bool.not_false, Nat.add_zero, Nat.zero_add, Nat.reduceAdd]
          refine wpPi_nil ?_
          have hcl7 := hg7.lts
          clear hm7 hM6
          go_upto_region 18 with (fail)
          refine wp_region_seq [3, 1, 3, 3, 3, 3] (fun _ => True) (by rfl) (by rfl) trivial ?_
          simp only [List.zip_cons_cons, List.zip_nil_right]
          refine wpPi_move _ rfl rfl ?_
          simp only [pl, pn, el, ec, sz, ss, gz, gs, if_true, if_false, Bool.false_eq_true, Bool.not_true, Bool.not_false, Nat.add_zero, Nat.zero_add, Nat.reduceAdd]
          refine wpPi_do rfl (fun K hK => ?_)
          refine wp_enterQ (run_call 34 [.tmp 69] _ rfl _ Try.func34 rfl (by kernel_rfl) [v6] rfl _) (compactS_any hg7 (by rw [sortB_len]; omega)) ?_
          rintro e w8 ⟨v8, rfl, hv8, hg8, hm8⟩
          have hM8 : Mod NoB w5 w8 := hM7.trans hm8 (fun k hk e => by have := (hcl7 _ e).1; omega)
          refine ⟨_, rfl, hK _ _ trivial ?_⟩
          clear hK K
          try simp only [pl, pn, el, ec, sz, ss, gz, gs, if_true, if_false, Bool.false_eq_true, Bool.not_true, Bool.not_false, Nat.add_zero, Nat.zero_add, Nat.reduceAdd]
          refine wpPi_move _ rfl rfl ?_
          simp only [pl, pn, el, ec, sz, ss, gz, gs, if_true, if_false, Bool.false_eq_true, Bool.not_true, Bool.not_false, Nat.add_zero, Nat.zero_add, Nat.reduceAdd]
          refine wpPi_assign _ rfl rfl ?_
          simp only [pl, pn, el, ec, sz, ss, gz, gs, if_true, if_false, Bool.false_eq_true, Bool.not_true, Bool.not_false, Nat.add_zero, Nat.zero_add, Nat.reduceAdd]
          refine wpPi_assign _ rfl rfl ?_
          simp only [pl, pn, el, ec, sz, ss, gz, gs, if_true, if_false, Bool.false_eq_true, Bool.not_true, Bool.not_false, Nat.add_zero, Nat.zero_add, Nat.reduceAdd]
          refine wpPi_assign _ rfl rfl ?_
          simp only [pl, pn, el, ec, sz, ss, gz, gs, if_true, if_false, Bool.false_eq_true, Bool.not_true, Bool.not_false, Nat.add_zero, Nat.zero_add, Nat.reduceAdd]
          refine wpPi_nil ?_
          have hMr := hMw.trans0 hM8
          have hgr := hg8.base hsw
          clear hm8 hM7 hM8 hg7 hg8 hMw
          go_wp2
          go_ret3
          exact ⟨_, _, _, by rw [HE.out]; rfl, hgr, HO.out, hMr⟩
end Go.Proofs.Ytchkikmmcmjcgaa

/- A region that draws its order, by a plan: runs of pure operations, single effects, and groups of effects that come in any order that their waiting allows, each of them shown once. -/
namespace Go.Proofs.Ytchkikmmcmjcgaa
set_option linter.unusedSimpArgs false
set_option linter.unusedVariables false
set_option linter.unnecessarySimpa false
set_option linter.unusedSectionVars false
open Go.RowKit

section
variable {P : Program} {ops : Array Oper} {Q : Exit → Act → World → Prop} {S : World → Prop} {md : Region.Mode}
/-- A step: a run of pure operations; a single effect; a group of so many effects, where so many have come up. -/
abbrev Step := List (Nat × Nat) ⊕ (Nat ⊕ (Nat × Array Bool))
def treeAll (md : Region.Mode) (ops : Array Oper) (f : Array Bool → Bool) : Nat → Array Bool → Bool
  | 0, L => f L
  | k + 1, L => !(Region.ready md ops L).isEmpty && (Region.ready md ops L).all fun i => decide (i < ops.size) && treeAll md ops f k (L.setIfInBounds i true)
def planOk (md : Region.Mode) (ops : Array Oper) : List Step → Array Bool → Nat → Bool
  | [], L, n => n == 0 && (Region.ready md ops L).isEmpty
  | .inl l :: p, L, n => match piPre md ops [] l L with
    | some L' => decide (l.length ≤ n) && planOk md ops p L' (n - l.length)
    | none => false
  | .inr (.inl i) :: p, L, n => decide (i < ops.size) && (Region.ready md ops L == [i]) && decide (0 < n) && planOk md ops p (L.setIfInBounds i true) (n - 1)
  | .inr (.inr (k, L0)) :: p, L, n => decide (L = L0) && decide (k ≤ n) && treeAll md ops (fun L' => planOk md ops p L' (n - k)) k L
def wpTr (P : Program) (md : Region.Mode) (ops : Array Oper) (Q : Exit → Act → World → Prop) (S : World → Prop) (K : Act → World → Prop) : Nat → Array Bool → Act → World → Prop
  | 0, _, a, w => K a w
  | n + 1, L, a, w => ∀ i ∈ Region.ready md ops L, Region.wanted (ops.getD i default) (yielded ops a.tmps) = true ∧ (ops.getD i default).wp P a w (fun a' w' => S w' ∧ wpTr P md ops Q S K n (L.setIfInBounds i true) a' w') Q
def planQ (K : Act → World → Prop) : Exit → Act → World → Prop
  | .normal, a, w => K a w
  | _, _, _ => True
def wpPlan (P : Program) (md : Region.Mode) (ops : Array Oper) (Q : Exit → Act → World → Prop) (S : World → Prop) : List Step → Act → World → Prop
  | [], a, w => Q .normal a w
  | .inl l :: p, a, w => wpPi P ops (planQ (wpPlan P md ops Q S p)) S (l.map fun x => (ops.getD x.1 default, x.2)) a w
  | .inr (.inl i) :: p, a, w => if Region.wanted (ops.getD i default) (yielded ops a.tmps) then (ops.getD i default).wp P a w (fun a' w' => S w' ∧ wpPlan P md ops Q S p a' w') Q ∨ ((ops.getD i default).asks P a w ∧ LetsOut Q) else S w ∧ wpPlan P md ops Q S p (a.put (ops.getD i default).dst undef) w
  | .inr (.inr (k, L)) :: p, a, w => wpTr P md ops Q S (wpPlan P md ops Q S p) k L a w
theorem wpAnyG_of_tr {K : Act → World → Prop} {f : Array Bool → Bool} {m : Nat} (hk : ∀ L a w, f L = true → S w → K a w → wpAnyG P md ops Q S [] m L a w) :
    ∀ (k : Nat) (L : Array Bool) (a : Act) (w : World), treeAll md ops f k L = true → S w → wpTr P md ops Q S K k L a w → wpAnyG P md ops Q S [] (k + m) L a w
  | 0, L, a, w, hp, hS, h => by
    rw [Nat.zero_add]
    exact hk L a w hp hS h
  | k + 1, L, a, w, hp, hS, h => by
    simp only [treeAll, Bool.and_eq_true, Bool.not_eq_true', List.all_eq_true] at hp
    rw [Nat.succ_add]
    refine ⟨fun h0 => (by rw [h0] at hp; simp at hp), fun i hi => ?_⟩
    have h1 := hp.2 i hi
    simp only [decide_eq_true_eq] at h1
    obtain ⟨hsz, hp'⟩ := h1
    have hi' : ops[i]? = some (ops.getD i default) := by simp [Array.getD, hsz]
    obtain ⟨hwant, hw⟩ := h i hi
    unfold wpOp
    generalize ops.getD i default = oi at hi' hw hwant
    simp only [hi']
    rw [if_pos hwant]
    exact .inl (Oper.wp_mono (fun a' w' h' => ⟨fun _ => h'.1, wpAnyG_of_tr hk k _ a' w' hp' h'.1 h'.2⟩) hw)
theorem wpAnyG_of_plan (hs : Region.noSelect ops = true) (hQ : PanicSame Q) :
    ∀ (p : List Step) (L : Array Bool) (a : Act) (w : World) (n : Nat), planOk md ops p L n = true → S w → wpPlan P md ops Q S p a w → wpAnyG P md ops Q S [] n L a w
  | [], L, a, w, n, hp, hS, h => by
    simp only [planOk, Bool.and_eq_true, beq_iff_eq, List.isEmpty_iff] at hp
    obtain ⟨rfl, hr⟩ := hp
    exact ⟨hr, h⟩
  | .inl l :: p, L, a, w, n, hp, hS, h => by
    simp only [planOk] at hp
    split at hp
    · rename_i L' hL
      simp only [Bool.and_eq_true, decide_eq_true_eq] at hp
      obtain ⟨hn, hp⟩ := hp
      have := wpAnyG_of_pre (S := S) (tl := []) hs hQ (Q1 := planQ (wpPlan P md ops Q S p)) (L := L') (fuel := n - l.length) (fun a w hS h => wpAnyG_of_plan hs hQ p L' a w (n - l.length) hp (hS rfl) h) l L a w hL (fun _ => hS) h
      rwa [show l.length + (n - l.length) = n by omega] at this
    · cases hp
  | .inr (.inl i) :: p, L, a, w, n, hp, hS, h => by
    simp only [planOk, Bool.and_eq_true, decide_eq_true_eq, beq_iff_eq] at hp
    obtain ⟨⟨⟨hi, hr⟩, hn⟩, hp⟩ := hp
    obtain ⟨m, rfl⟩ : ∃ m, n = m + 1 := ⟨n - 1, by omega⟩
    refine ⟨fun h0 => (by rw [hr] at h0; cases h0), fun j hj => ?_⟩
    have : j = i := by rw [hr] at hj; simpa using hj
    subst this
    have hi' : ops[j]? = some (ops.getD j default) := by simp [Array.getD, hi]
    unfold wpPlan at h
    refine wpOp_mono (K := fun a' w' => S w' ∧ wpPlan P md ops Q S p a' w') (fun a' w' h' => ⟨fun _ => h'.1, wpAnyG_of_plan hs hQ p _ a' w' m hp h'.1 h'.2⟩) ?_
    unfold wpOp
    generalize ops.getD j default = oj at hi' h
    simp only [hi']
    by_cases hg : Region.wanted oj (yielded ops a.tmps) = true
    · rw [if_pos hg] at h ⊢
      exact h
    · rw [if_neg hg] at h ⊢
      exact h
  | .inr (.inr (k, L0)) :: p, L, a, w, n, hp, hS, h => by
    simp only [planOk, Bool.and_eq_true, decide_eq_true_eq] at hp
    obtain ⟨⟨rfl, hk⟩, hp⟩ := hp
    have := wpAnyG_of_tr (S := S) (m := n - k) (f := fun L' => planOk md ops p L' (n - k)) (fun L' a w hf hS h => wpAnyG_of_plan hs hQ p L' a w (n - k) hf hS h) k L a w hp hS h
    rwa [show k + (n - k) = n by omega] at this
theorem wp_region_plan {id : Nat} {a : Act} {w : World} {l : List Oper} (p : List Step) (S : World → Prop) (hm : P.follows .mixedOrders = true) (hs : Region.noSelect l.toArray = true)
    (hp : planOk .any l.toArray p (Array.replicate l.toArray.size false) l.toArray.size = true) (hQ : PanicSame Q) (hS : S w.drew)
    (h : wpPlan P .any l.toArray Q S p a w.drew) : (Code.region id l.toArray true).wp P Q a w := by
  exact wp_region_any hm (wpAny_of_G _ _ _ _ (wpAnyG_of_plan hs hQ p _ a w.drew _ hp hS h))
theorem wpPlan_seg {l : List (Nat × Nat)} {p : List Step} {a : Act} {w : World} (h : wpPi P ops (planQ (wpPlan P md ops Q S p)) S (l.map fun x => (ops.getD x.1 default, x.2)) a w) : wpPlan P md ops Q S (.inl l :: p) a w := h
theorem wpPlan_one {i : Nat} {p : List Step} {a : Act} {w : World} (hw : Region.wanted (ops.getD i default) (yielded ops a.tmps) = true) (h : ∀ K : Act → World → Prop, (∀ a' w', S w' → wpPlan P md ops Q S p a' w' → K a' w') → (ops.getD i default).wp P a w K Q) : wpPlan P md ops Q S (.inr (.inl i) :: p) a w := by
  unfold wpPlan
  rw [if_pos hw]
  exact .inl (h _ fun a' w' h1 h2 => ⟨h1, h2⟩)
theorem wpPlan_skip {i : Nat} {p : List Step} {a : Act} {w : World} (hw : Region.wanted (ops.getD i default) (yielded ops a.tmps) = false) (hS : S w) (h : wpPlan P md ops Q S p (a.put (ops.getD i default).dst undef) w) : wpPlan P md ops Q S (.inr (.inl i) :: p) a w := by
  unfold wpPlan
  rw [if_neg (by rw [hw]; simp)]
  exact ⟨hS, h⟩
theorem planQ_normal {K : Act → World → Prop} {a : Act} {w : World} (h : K a w) : planQ K .normal a w := h
theorem wpPlan_fin {a : Act} {w : World} (h : Q .normal a w) : wpPlan P md ops Q S [] a w := h

/-! ### A group whose effects wait on each other -/
theorem puts_get {ps : List (Nat × Value)} {d : Nat} {v : Value} (h : (d, v) ∈ ps) (hn : (ps.map (·.1)).Nodup) {a : Act} (hd : d < a.tmps.size) : (puts ps a).eval (.tmp d) = v := by
  have hsz : ∀ ps : List (Nat × Value), (puts ps a).tmps.size = a.tmps.size := fun ps => by
    induction ps with
    | nil => rfl
    | cons p ps ih => simp only [puts, Act.put, Array.size_setIfInBounds]; exact ih
  induction ps with
  | nil => cases h
  | cons p ps ih =>
    rw [List.map_cons, List.nodup_cons] at hn
    rcases List.mem_cons.1 h with rfl | h
    · simp only [puts, Act.put, Act.eval, Array.getD_eq_getD_getElem?]
      rw [Array.getElem?_setIfInBounds_self]
      simp [hsz, hd]
    · have hne : p.1 ≠ d := fun e => hn.1 (e ▸ List.mem_map_of_mem (f := (·.1)) h)
      rw [← ih h hn.2]
      simp only [puts, Act.put, Act.eval, Array.getD_eq_getD_getElem?, Array.getElem?_setIfInBounds_ne hne]
theorem puts_slot {ps : List (Nat × Value)} {t : Nat} (h : ∀ p ∈ ps, p.1 ≠ t) (a : Act) : (puts ps a).tmps[t]? = a.tmps[t]? := by
  induction ps with
  | nil => rfl
  | cons p ps ih =>
    rw [← ih fun q hq => h q (List.mem_cons_of_mem _ hq)]
    have := h p List.mem_cons_self
    simp only [puts, Act.put, Array.getElem?_setIfInBounds_ne this]
/-- The slot that an operation's guard looks at is none of these. -/
def guardFar (ops : Array Oper) (ds : List Nat) (o : Oper) : Bool := match o.guard with
  | none => true
  | some (j, _) => match (ops[j]?).bind (·.dst) with
    | some t => ds.all (· != t)
    | none => true
theorem wanted_puts {ps : List (Nat × Value)} {ds : List Nat} (hps : ∀ p ∈ ps, p.1 ∈ ds) {o : Oper} (hg : guardFar ops ds o = true) (a : Act) : Region.wanted o (yielded ops (puts ps a).tmps) = Region.wanted o (yielded ops a.tmps) := by
  unfold Region.wanted
  cases hq : o.guard with
  | none => rfl
  | some x =>
    obtain ⟨j, b⟩ := x
    unfold guardFar at hg
    simp only [hq] at hg
    unfold yielded
    cases hd : (ops[j]?).bind (·.dst) with
    | none => simp [hd]
    | some t =>
      simp only [hd, List.all_eq_true, bne_iff_ne] at hg
      simp only [hd, Option.bind_some]
      rw [puts_slot (fun p hp => hg _ (hps p hp))]
/-- What comes up is of the group that is left, and what it waits on has come up. -/
def depOk (md : Region.Mode) (ops : Array Oper) : Nat → List (Nat × Nat × List Nat) → Array Bool → Bool
  | 0, g, _ => g.isEmpty
  | n + 1, g, L => (Region.ready md ops L).all fun i => g.any fun q => q.1 == i && (q.2.2.all fun d => !(g.any fun r => r.2.1 == d)) && depOk md ops n (g.erase q) (L.setIfInBounds i true)
theorem wpTr_dep {a : Act} {w0 : World} {K : Act → World → Prop} (F : Nat → Value → World → Prop) (g0 : List (Nat × Nat × List Nat)) (hF : ∀ d v w w', F d v w → Mod NoB w w' → F d v w') (hS : ∀ w, Mod NoB w0 w → S w) (hn : (g0.map (·.2.1)).Nodup) (hds : (g0.all fun q => q.2.2.all fun d => (g0.map (·.2.1)).contains d) = true)
    (hgf : (g0.all fun q => guardFar ops (g0.map (·.2.1)) (ops.getD q.1 default)) = true) (hw : ∀ q ∈ g0, Region.wanted (ops.getD q.1 default) (yielded ops a.tmps) = true)
    (hend : ∀ (vals : List Value) (w : World), vals.length = g0.length → Mod NoB w0 w → (∀ p ∈ (g0.map (·.2.1)).zip vals, F p.1 p.2 w) → K (puts ((g0.map (·.2.1)).zip vals) a) w)
    (hop : ∀ q ∈ g0, ∀ (ps : List (Nat × Value)) (w : World), Mod NoB w0 w → (∀ p ∈ ps, F p.1 p.2 w) → (∀ d ∈ q.2.2, ∃ v, (d, v) ∈ ps) → (ps.map (·.1)).Nodup → (∀ p ∈ ps, p.1 ≠ q.2.1 ∧ p.1 ∈ g0.map (·.2.1)) →
      ∀ K', (∀ v w', Mod NoB w w' → F q.2.1 v w' → K' ((puts ps a).put (some q.2.1) v) w') → (ops.getD q.1 default).wp P (puts ps a) w K' Q) :
    ∀ (n : Nat) (g : List (Nat × Nat × List Nat)) (L : Array Bool) (ps : List (Nat × Value)) (w : World), depOk md ops n g L = true → (∀ q ∈ g, q ∈ g0) → (ps.map (·.1) ++ g.map (·.2.1)).Perm (g0.map (·.2.1)) → Mod NoB w0 w → (∀ p ∈ ps, F p.1 p.2 w) →
      wpTr P md ops Q S K n L (puts ps a) w
  | 0, g, L, ps, w, hg, hsub, hp, hm, hps => by
    simp only [depOk, List.isEmpty_iff] at hg
    subst hg
    have hp' : (ps.map (·.1)).Perm (g0.map (·.2.1)) := by simpa using hp
    obtain ⟨vals, hl, hv⟩ := perm_vals hp'
    show K (puts ps a) w
    rw [puts_perm hv a (hp'.symm.nodup_iff.1 hn)]
    exact hend vals w (by simpa using hl) hm (fun p hp => hps p (hv.symm.subset hp))
  | n + 1, g, L, ps, w, hg, hsub, hp, hm, hps => by
    intro i hi
    simp only [depOk, List.all_eq_true] at hg
    have h1 := hg i hi
    rw [List.any_eq_true] at h1
    obtain ⟨q, hq, h1⟩ := h1
    simp only [Bool.and_eq_true, beq_iff_eq] at h1
    obtain ⟨⟨rfl, hdep⟩, hg'⟩ := h1
    have hnd : (ps.map (·.1) ++ g.map (·.2.1)).Nodup := hp.symm.nodup_iff.1 hn
    have hin : ∀ p ∈ ps, p.1 ∈ g0.map (·.2.1) := fun p hpp => hp.subset (List.mem_append_left _ (List.mem_map_of_mem hpp))
    refine ⟨?_, ?_⟩
    · rw [wanted_puts hin (by simpa using List.all_eq_true.1 hgf q (hsub q hq))]
      exact hw q (hsub q hq)
    · refine hop q (hsub q hq) ps w hm hps (fun d hd => ?_) (List.nodup_append.1 hnd).1 (fun p hpp => ⟨?_, hin p hpp⟩) _ fun v w' hm' hv => ⟨hS _ (hm.trans0 hm'), ?_⟩
      · have h2 : d ∈ g0.map (·.2.1) := by
          have := List.all_eq_true.1 (List.all_eq_true.1 hds q (hsub q hq)) d hd
          simpa using this
        rcases List.mem_append.1 (hp.symm.subset h2) with h3 | h3
        · obtain ⟨p, hp1, rfl⟩ := List.mem_map.1 h3
          exact ⟨p.2, hp1⟩
        · exfalso
          have := List.all_eq_true.1 hdep d hd
          obtain ⟨r, hr, rfl⟩ := List.mem_map.1 h3
          simp only [Bool.not_eq_true', List.any_eq_false] at this
          exact this r hr (by simp)
      · rw [List.nodup_append] at hnd
        exact hnd.2.2 _ (List.mem_map_of_mem hpp) _ (List.mem_map_of_mem (f := (·.2.1)) hq)
      · refine wpTr_dep F g0 hF hS hn hds hgf hw hend hop n (g.erase q) _ ((q.2.1, v) :: ps) w' hg' (fun r hr => hsub r (List.mem_of_mem_erase hr)) ?_ (hm.trans0 hm') (fun p hpp => ?_)
        · refine List.Perm.trans ?_ hp
          simp only [List.map_cons, List.cons_append]
          refine (List.perm_middle (l₁ := ps.map (·.1)) (a := q.2.1) (l₂ := (g.erase q).map (·.2.1))).symm.trans ?_
          exact List.Perm.append_left _ (by simpa using ((List.perm_cons_erase hq).map (·.2.1)).symm)
        · rcases List.mem_cons.1 hpp with rfl | hpp
          · exact hv
          · exact hF _ _ _ _ (hps p hpp) hm'
/-- Facts by slots. -/
def depF : List (Nat × (Value → World → Prop)) → Nat → Value → World → Prop
  | [], _, _, _ => True
  | (d, f) :: r, e, v, w => if d = e then f v w else depF r e v w
theorem depF_keep {fs : List (Nat × (Value → World → Prop))} (h : ∀ x ∈ fs, ∀ v w w', x.2 v w → Mod NoB w w' → x.2 v w') : ∀ d v w w', depF fs d v w → Mod NoB w w' → depF fs d v w' := by
  induction fs with
  | nil => intros; trivial
  | cons x fs ih =>
    obtain ⟨d0, f⟩ := x
    intro d v w w' hf hm
    unfold depF at hf ⊢
    by_cases hd : d0 = d
    · rw [if_pos hd] at hf ⊢
      exact h (d0, f) (by simp) v w w' hf hm
    · rw [if_neg hd] at hf ⊢
      exact ih (fun x hx => h x (by simp [hx])) d v w w' hf hm
theorem wpPlan_dep {p : List Step} {a : Act} {w0 : World} {n : Nat} {L : Array Bool} (fs : List (Nat × (Value → World → Prop))) (g0 : List (Nat × Nat × List Nat)) (hF : ∀ x ∈ fs, ∀ v w w', x.2 v w → Mod NoB w w' → x.2 v w') (hS : ∀ w, Mod NoB w0 w → S w) (hn : (g0.map (·.2.1)).Nodup) (hds : (g0.all fun q => q.2.2.all fun d => (g0.map (·.2.1)).contains d) = true)
    (hgf : (g0.all fun q => guardFar ops (g0.map (·.2.1)) (ops.getD q.1 default)) = true) (hok : depOk md ops n g0 L = true) (hw : ∀ q ∈ g0, Region.wanted (ops.getD q.1 default) (yielded ops a.tmps) = true)
    (hend : ∀ (vals : List Value) (w : World), vals.length = g0.length → Mod NoB w0 w → (∀ p ∈ (g0.map (·.2.1)).zip vals, depF fs p.1 p.2 w) → wpPlan P md ops Q S p (puts ((g0.map (·.2.1)).zip vals) a) w)
    (hop : ∀ q ∈ g0, ∀ (ps : List (Nat × Value)) (w : World), Mod NoB w0 w → (∀ p ∈ ps, depF fs p.1 p.2 w) → (∀ d ∈ q.2.2, ∃ v, (d, v) ∈ ps) → (ps.map (·.1)).Nodup → (∀ p ∈ ps, p.1 ≠ q.2.1 ∧ p.1 ∈ g0.map (·.2.1)) →
      ∀ K', (∀ v w', Mod NoB w w' → depF fs q.2.1 v w' → K' ((puts ps a).put (some q.2.1) v) w') → (ops.getD q.1 default).wp P (puts ps a) w K' Q) :
    wpPlan P md ops Q S (.inr (.inr (n, L)) :: p) a w0 :=
  wpTr_dep (depF fs) g0 (depF_keep hF) hS hn hds hgf hw hend hop n g0 L [] w0 hok (fun _ h => h) (by simp) (Mod.refl _ _) (fun p hp => (nomatch hp))
end
end Go.Proofs.Ytchkikmmcmjcgaa

/- Lists of texts side by side; the statements' entries; do just these keys differ. -/
namespace Go.Proofs.Ytchkikmmcmjcgaa
set_option linter.unusedSimpArgs false
set_option linter.unusedVariables false
set_option linter.unnecessarySimpa false
set_option linter.unusedSectionVars false
open Go.RowKit Go.Shelf


def StrC (cs : Array Value) (x : ByteArray) : Prop := cs = #[.string x]
def Txt (own : Bool) (w : World) (G : Nat → Prop) (v : Value) (l : List ByteArray) : Prop := Sl own w G 1 StrC v l
theorem Gat.txt {base : Nat} {w : World} {v : Value} {l : List ByteArray} (h : Gat strEnc 9 1 base w v l) : Txt true w (fun q => base ≤ q ∧ q < w.heap.size ∧ v.ownBlock = some q) v l := (h.sl (fun _ => rfl)).mono (fun _ h => h) (fun _ _ h => h)
set_option maxHeartbeats 400000 in
theorem sameTexts_any {o o' : Bool} {G G' : Nat → Prop} {va vb : Value} {la lb : List ByteArray} {w : World} (ha : Txt o w G va la) (hb : Txt o' w G' vb lb) :
    Calls Try.prog 13 #[va, vb] w (RetM (.bool (decide (la = lb))) w) := by
  obtain ⟨aa, ca, rfl, hla, ha⟩ := Sl.at ha
  obtain ⟨ab, cb, rfl, hlb, hb⟩ := Sl.at hb
  by_cases hlen : la.length = lb.length
  · have e1 : ((la.length : Int) == (lb.length : Int)) = true := by simp [hlen]
    have H := Lib.hid hlen; have HA := Lib.hid ha; have HB := Lib.hid hb; clear hlen ha hb
    go_enter Try.func13, Try.ntmps13
    go_wp2
    go_loopw [5, 6] (SameRel la lb w) (fun _ i _ => la.length - (intOf i).toNat)
    case atStart => exact ⟨0, by omega, rfl, by rw [pre_zero], Mod.refl _ _⟩
    case round =>
      obtain ⟨k, hk, rfl, rfl, hm⟩ := hrel
      rename_i wr
      by_cases hs : pre k la lb = true
      · by_cases hlt : k < la.length
        · have hlt' : k < lb.length := by rw [← H.out]; exact hlt
          obtain ⟨ba, oa, rfl, -, -, hca⟩ := HA.out k hlt
          obtain ⟨bb, ob, rfl, -, -, hcb⟩ := HB.out k hlt'
          obtain ⟨_, -, rfl, hca⟩ := hca k hlt
          obtain ⟨_, -, rfl, hcb⟩ := hcb k hlt'
          have hps := Lib.hid (pre_succ hlt hlt' hs)
          clear HA HB
          go_wp2_with fail
          have hS := hm.drew
          refine wp_region_pi [(0, 3), (1, 3), (2, 3), (3, 0), (4, 3), (5, 3), (6, 3), (7, 0), (8, 0), (9, 3)] [] (fun w' => Mod NoB w w') (by kernel_rfl) (by kernel_rfl) (by kernel_rfl) (by kernel_rfl) (fun _ _ _ _ hd h => ⟨hd.trans h.1, h.2⟩) hS ?_
          simp only [List.map_cons, List.map_nil, List.getD_cons_zero, List.getD_cons_succ]
          refine wpPi_move _ rfl rfl ?_
          simp only [pl, pn, el, ec, sz, ss, gz, gs, if_true, if_false, Bool.false_eq_true, Bool.not_true, Bool.not_false, Nat.add_zero, Nat.zero_add, Nat.reduceAdd]
          refine wpPi_move _ rfl rfl ?_
          simp only [pl, pn, el, ec, sz, ss, gz, gs, if_true, if_false, Bool.false_eq_true, Bool.not_true, Bool.not_false, Nat.add_zero, Nat.zero_add, Nat.reduceAdd]
          refine wpPi_index _ _ _ _ _ _ _ _ _ rfl rfl rfl rfl Try.underlying26 (n := 1) (by kernel_rfl) hlt ?_
          simp only [pl, pn, el, ec, sz, ss, gz, gs, if_true, if_false, Bool.false_eq_true, Bool.not_true, Bool.not_false, Nat.add_zero, Nat.zero_add, Nat.reduceAdd]
          refine wpPi_val rfl (fun w' hS => exec_load1 _ _ rfl _ _ rfl _ (CellsAt.one.1 (hca.keep hS id)) _ Try.underlying9 rfl) ?_
          simp only [pl, pn, el, ec, sz, ss, gz, gs, if_true, if_false, Bool.false_eq_true, Bool.not_true, Bool.not_false, Nat.add_zero, Nat.zero_add, Nat.reduceAdd]
          refine wpPi_move _ rfl rfl ?_
          simp only [pl, pn, el, ec, sz, ss, gz, gs, if_true, if_false, Bool.false_eq_true, Bool.not_true, Bool.not_false, Nat.add_zero, Nat.zero_add, Nat.reduceAdd]
          refine wpPi_move _ rfl rfl ?_
          simp only [pl, pn, el, ec, sz, ss, gz, gs, if_true, if_false, Bool.false_eq_true, Bool.not_true, Bool.not_false, Nat.add_zero, Nat.zero_add, Nat.reduceAdd]
          refine wpPi_index _ _ _ _ _ _ _ _ _ rfl rfl rfl rfl Try.underlying26 (n := 1) (by kernel_rfl) hlt' ?_
          simp only [pl, pn, el, ec, sz, ss, gz, gs, if_true, if_false, Bool.false_eq_true, Bool.not_true, Bool.not_false, Nat.add_zero, Nat.zero_add, Nat.reduceAdd]
          refine wpPi_val rfl (fun w' hS => exec_load1 _ _ rfl _ _ rfl _ (CellsAt.one.1 (hcb.keep hS id)) _ Try.underlying9 rfl) ?_
          simp only [pl, pn, el, ec, sz, ss, gz, gs, if_true, if_false, Bool.false_eq_true, Bool.not_true, Bool.not_false, Nat.add_zero, Nat.zero_add, Nat.reduceAdd]
          refine wpPi_val rfl (fun w' hS => exec_eql_str _ _ _ _ rfl _ _ rfl rfl _ rfl) ?_
          simp only [pl, pn, el, ec, sz, ss, gz, gs, if_true, if_false, Bool.false_eq_true, Bool.not_true, Bool.not_false, Nat.add_zero, Nat.zero_add, Nat.reduceAdd]
          refine wpPi_assign _ rfl rfl ?_
          simp only [pl, pn, el, ec, sz, ss, gz, gs, if_true, if_false, Bool.false_eq_true, Bool.not_true, Bool.not_false, Nat.add_zero, Nat.zero_add, Nat.reduceAdd]
          refine wpPi_nil ?_
          go_wp2
          go_roundw
          case rel => exact ⟨k + 1, by omega, by go_num, by rw [hps.out], hS⟩
          case measure => simp [intOf]; omega
        · go_wp2
          go_ret
          exact ⟨by rw [← pre_full H.out (Nat.le_of_not_lt hlt), hs]; rfl, hm⟩
      · have hs' : pre k la lb = false := by simpa using hs
        have hps := Lib.hid (pre_false hs'); clear hs
        go_wp2
        go_ret
        exact ⟨by rw [hps.out]; rfl, hm⟩
  · have e1 : ((la.length : Int) == (lb.length : Int)) = false := by simp; omega
    have hps := Lib.hid (decide_eq_false (show ¬ la = lb by rintro rfl; exact hlen rfl)); clear hlen
    go_enter Try.func13, Try.ntmps13
    go_wp2
    refine wp_loop_once ?_
    go_wp2
    go_ret
    exact ⟨by rw [hps.out]; rfl, Mod.refl _ _⟩
def EntR (w : World) (e0 : Ent) : Ending → World → Prop := fun e w' => ∃ cs, e = .returned (.agg cs) ∧ EntC w' (fun _ => True) cs e0 ∧ Mod NoB w w'
theorem built_ent2 (k : ByteArray) (v : Value) (hv : v.cells = #[v]) : Try.prog.built 35 [(0, .string k), (1, v)] = some #[.string k, v] := by
  have hz : (Try.prog.info? 35).bind (·.zero) = some (.agg #[.string ⟨#[]⟩, .slice none 0 0]) := entryZ
  have hp : placesOf Try.prog 35 = some [(0, 1), (1, 1)] := by kernel_rfl
  rw [built_struct hz hp, fill_cons (off := 0) (size := 1) rfl rfl (by simp), fill_cons (off := 1) (size := 1) rfl (by simp [hv]) (by simp [putRow, Value.cells]), fill_nil, hv]
  rfl
set_option maxRecDepth 10000 in
theorem lawOf_any (k v : ByteArray) (hv : v.size ≤ 1000000) (w : World) : Calls Try.prog 16 #[.string k, .string v] w (EntR w (k, v.data.toList)) := by
  go_enter Try.func16, Try.ntmps16
  go_upto_region 0 with (fail)
  refine wp_region_seq [1] (fun _ => True) (by rfl) (by rfl) trivial ?_
  simp only [List.zip_cons_cons, List.zip_nil_right]
  refine wpPi_do rfl (fun K hK => ?_)
  refine wp_alloc 35 _ (by rfl) entryZ (fun w1 hB1 hm1 hs1 => ?_)
  replace hB1 : w1.heap[w.heap.size]? = some (.cells #[.string ⟨#[]⟩, .slice none 0 0] 35 (0, 0)) := hB1
  refine hK _ _ trivial ?_
  clear hK K
  try simp only [pl, pn, el, ec, sz, ss, gz, gs, if_true, if_false, Bool.false_eq_true, Bool.not_true, Bool.not_false, Nat.add_zero, Nat.zero_add, Nat.reduceAdd]
  refine wpPi_nil ?_
  go_upto_region 1 with (fail)
  refine wp_region_seq [3, 3, 1, 0, 1] (fun _ => True) (by rfl) (by rfl) trivial ?_
  simp only [List.zip_cons_cons, List.zip_nil_right]
  refine wpPi_move _ rfl rfl ?_
  simp only [pl, pn, el, ec, sz, ss, gz, gs, if_true, if_false, Bool.false_eq_true, Bool.not_true, Bool.not_false, Nat.add_zero, Nat.zero_add, Nat.reduceAdd]
  refine wpPi_move _ rfl rfl ?_
  simp only [pl, pn, el, ec, sz, ss, gz, gs, if_true, if_false, Bool.false_eq_true, Bool.not_true, Bool.not_false, Nat.add_zero, Nat.zero_add, Nat.reduceAdd]
  refine wpPi_do rfl (fun K hK => ?_)
  refine wp_bytesOf 9 33 5 _ v (by rfl) (by rfl) Try.underlying9 Try.underlying33 Try.underlying5 (by unfold maxLen; omega) (fun v7 w7 hs7 hm7 => ?_)
  have hv7 := hs7.one
  have hvc : v7.cells = #[v7] := by
    obtain ⟨_, _, rfl, -⟩ := hs7; rfl
  have hbE := built_ent2 k v7 hvc
  have h1c := entC_one (w := w7) (G := fun q => w1.heap.size ≤ q) (e := (k, v.data.toList)) ⟨v7, rfl, hs7⟩
  replace hB1 := hm7.obj id hB1
  have hM7 := hm1.trans0 hm7
  refine hK _ _ trivial ?_
  clear hK K
  try simp only [pl, pn, el, ec, sz, ss, gz, gs, if_true, if_false, Bool.false_eq_true, Bool.not_true, Bool.not_false, Nat.add_zero, Nat.zero_add, Nat.reduceAdd]
  refine wpPi_val rfl (fun w' hS => exec_build_of 35 [(0, _), (1, _)] [(0, .string k), (1, v7)] _ (by rfl) (by rfl) hbE) ?_
  simp only [pl, pn, el, ec, sz, ss, gz, gs, if_true, if_false, Bool.false_eq_true, Bool.not_true, Bool.not_false, Nat.add_zero, Nat.zero_add, Nat.reduceAdd]
  refine wpPi_do rfl (fun K hK => ?_)
  refine wp_storeA 35 _ _ w.heap.size 0 #[.string k, v7] (by rfl) (by rfl) (by rfl) h1c 2 (by kernel_rfl) rfl _ _ hB1 (by simp) (fun w9 hB9 hm9 => ?_)
  rw [putRow_whole (by rfl)] at hB9
  refine hK _ _ trivial ?_
  clear hK K
  try simp only [pl, pn, el, ec, sz, ss, gz, gs, if_true, if_false, Bool.false_eq_true, Bool.not_true, Bool.not_false, Nat.add_zero, Nat.zero_add, Nat.reduceAdd]
  refine wpPi_nil ?_
  have hlt : w.heap.size < w7.heap.size := (Array.getElem?_eq_some_iff.1 hB1).1
  have hM9 : Mod NoB w w9 := hM7.transB hm9 (Nat.le_refl _)
  have hout : EntC w9 (fun _ => True) #[.string k, v7] (k, v.data.toList) := ⟨v7, rfl, (hs7.keepB hm9 (fun q hq => by omega)).mono (fun _ _ => trivial) (fun _ _ h => h)⟩
  clear hm9 hB1
  go_wp2
  refine bodyPost_ret (results_cell_row rfl _ _ w.heap.size _ _ _ _ (by rfl) hB9 Try.underlying35 rfl (by kernel_rfl)) rfl ?_
  exact ⟨_, rfl, hout, hM9⟩
def riseOf (l : List ByteArray) : List ByteArray := compB (sortB l)
theorem riseOf_rise (l : List ByteArray) : Rise l (riseOf l) := rise_sorted l
/-- What differs answers. -/
noncomputable def difB (a b : List Ent) (places : Int) (want : List ByteArray) : Bool := decide (errD a b = 0) && (decide (((difE a b).2 : Int) = places) && decide (riseOf (difE a b).1 = want))
set_option maxRecDepth 10000 in
theorem differs_any {own own' o2 : Bool} {w : World} {G G' G2 : Nat → Prop} {va vb vw : Value} {a b : List Ent} {want : List ByteArray} (ha : Es own w G va a) (hb : Es own' w G' vb b) (hw : Txt o2 w G2 vw want) (hsa : Short a) (hsb : Short b) (hla : a.length ≤ 4096) (hlb : b.length ≤ 4096) (places : Int) :
    Calls Try.prog 19 #[va, vb, .int .i64 places, vw] w (RetM (.bool (difB a b places want)) w) := by
  have HW := Lib.hid hw
  have hdf := treeDiffer_any ha hb hsa hsb hla hlb
  obtain ⟨aa, ca, rfl, -, -⟩ := Sl.at ha
  obtain ⟨ab, cb, rfl, -, -⟩ := Sl.at hb
  obtain ⟨aw, cw, rfl, -, -⟩ := Sl.at hw
  clear ha hb hw
  go_enter Try.func19, Try.ntmps19
  go_upto_region 1 with (fail)
  refine wp_region_seq [3, 3, 1, 3, 3, 3, 3, 3, 3, 3] (fun _ => True) (by rfl) (by rfl) trivial ?_
  simp only [List.zip_cons_cons, List.zip_nil_right]
  refine wpPi_move _ rfl rfl ?_
  simp only [pl, pn, el, ec, sz, ss, gz, gs, if_true, if_false, Bool.false_eq_true, Bool.not_true, Bool.not_false, Nat.add_zero, Nat.zero_add, Nat.reduceAdd]
  refine wpPi_move _ rfl rfl ?_
  simp only [pl, pn, el, ec, sz, ss, gz, gs, if_true, if_false, Bool.false_eq_true, Bool.not_true, Bool.not_false, Nat.add_zero, Nat.zero_add, Nat.reduceAdd]
  refine wpPi_do rfl (fun K hK => ?_)
  refine wp_enterQ (run_call 11 [.tmp 13, .tmp 14] _ rfl _ Try.func11 rfl (by kernel_rfl) [.slice aa a.length ca, .slice ab b.length cb] rfl _) hdf ?_
  rintro e w2 ⟨v2, ks, n, rfl, hg2, hok, hm2⟩
  refine ⟨_, rfl, hK _ _ trivial ?_⟩
  clear hK K
  try simp only [pl, pn, el, ec, sz, ss, gz, gs, if_true, if_false, Bool.false_eq_true, Bool.not_true, Bool.not_false, Nat.add_zero, Nat.zero_add, Nat.reduceAdd]
  refine wpPi_move _ rfl rfl ?_
  simp only [pl, pn, el, ec, sz, ss, gz, gs, if_true, if_false, Bool.false_eq_true, Bool.not_true, Bool.not_false, Nat.add_zero, Nat.zero_add, Nat.reduceAdd]
  refine wpPi_any (v := ?_) rfl (fun w' => ?_) ?_; rotate_left; · (go_simp; try with_reducible rfl)
  simp only [pl, pn, el, ec, sz, ss, gz, gs, if_true, if_false, Bool.false_eq_true, Bool.not_true, Bool.not_false, Nat.add_zero, Nat.zero_add, Nat.reduceAdd]
  refine wpPi_any (v := ?_) rfl (fun w' => ?_) ?_; rotate_left; · (go_simp; try with_reducible rfl)
  simp only [pl, pn, el, ec, sz, ss, gz, gs, if_true, if_false, Bool.false_eq_true, Bool.not_true, Bool.not_false, Nat.add_zero, Nat.zero_add, Nat.reduceAdd]
  refine wpPi_any (v := ?_) rfl (fun w' => ?_) ?_; rotate_left; · (go_simp; try with_reducible rfl)
  simp only [pl, pn, el, ec, sz, ss, gz, gs, if_true, if_false, Bool.false_eq_true, Bool.not_true, Bool.not_false, Nat.add_zero, Nat.zero_add, Nat.reduceAdd]
  refine wpPi_assign _ rfl rfl ?_
  simp only [pl, pn, el, ec, sz, ss, gz, gs, if_true, if_false, Bool.false_eq_true, Bool.not_true, Bool.not_false, Nat.add_zero, Nat.zero_add, Nat.reduceAdd]
  refine wpPi_assign _ rfl rfl ?_
  simp only [pl, pn, el, ec, sz, ss, gz, gs, if_true, if_false, Bool.false_eq_true, Bool.not_true, Bool.not_false, Nat.add_zero, Nat.zero_add, Nat.reduceAdd]
  refine wpPi_assign _ rfl rfl ?_
  simp only [pl, pn, el, ec, sz, ss, gz, gs, if_true, if_false, Bool.false_eq_true, Bool.not_true, Bool.not_false, Nat.add_zero, Nat.zero_add, Nat.reduceAdd]
  refine wpPi_nil ?_
  by_cases he : errD a b = 0
  · obtain ⟨hr, rfl⟩ := hok.1 he
    have hks : riseOf (difE a b).1 = ks := (riseOf_rise _).uniq hr (fun _ => Iff.rfl)
    by_cases hn : ((difE a b).2 : Int) = places
    · have hres : difB a b places want = decide (ks = want) := by unfold difB; rw [decide_eq_true he, decide_eq_true hn, hks]; rfl
      have hg2t := hg2.txt
      obtain ⟨ad2, cap2, rfl⟩ := hg2.slice
      have HRES := Lib.hid hres
      rw [he]
      clear hres hks hok he
      go_upto_region 2 with (fail)
      refine wp_region_seq [3, 3, 3, 3, 3, 3, 3, 3, 3, 3, 1, 3, 3] (fun _ => True) (by rfl) (by rfl) trivial ?_
      simp only [List.zip_cons_cons, List.zip_nil_right]
      refine wpPi_move _ rfl rfl ?_
      simp only [pl, pn, el, ec, sz, ss, gz, gs, if_true, if_false, Bool.false_eq_true, Bool.not_true, Bool.not_false, Nat.add_zero, Nat.zero_add, Nat.reduceAdd]
      refine wpPi_any (v := ?_) rfl (fun w' => ?_) ?_; rotate_left; · (go_simp; try with_reducible rfl)
      simp only [pl, pn, el, ec, sz, ss, gz, gs, if_true, if_false, Bool.false_eq_true, Bool.not_true, Bool.not_false, Nat.add_zero, Nat.zero_add, Nat.reduceAdd]
      refine wpPi_move _ rfl rfl ?_
      simp only [pl, pn, el, ec, sz, ss, gz, gs, if_true, if_false, Bool.false_eq_true, Bool.not_true, Bool.not_false, Nat.add_zero, Nat.zero_add, Nat.reduceAdd]
      refine wpPi_move _ rfl rfl ?_
      simp only [pl, pn, el, ec, sz, ss, gz, gs, if_true, if_false, Bool.false_eq_true, Bool.not_true, Bool.not_false, Nat.add_zero, Nat.zero_add, Nat.reduceAdd]
      refine wpPi_move _ rfl rfl ?_
      simp only [pl, pn, el, ec, sz, ss, gz, gs, if_true, if_false, Bool.false_eq_true, Bool.not_true, Bool.not_false, Nat.add_zero, Nat.zero_add, Nat.reduceAdd]
      refine wpPi_cmp _ _ _ _ _ _ _ _ rfl rfl rfl rfl rfl true (decide_eq_true hn) ?_
      simp only [pl, pn, el, ec, sz, ss, gz, gs, if_true, if_false, Bool.false_eq_true, Bool.not_true, Bool.not_false, Nat.add_zero, Nat.zero_add, Nat.reduceAdd]
      refine wpPi_pick _ _ _ _ rfl rfl rfl ?_
      simp only [pl, pn, el, ec, sz, ss, gz, gs, if_true, if_false, Bool.false_eq_true, Bool.not_true, Bool.not_false, Nat.add_zero, Nat.zero_add, Nat.reduceAdd]
      refine wpPi_move _ rfl rfl ?_
      simp only [pl, pn, el, ec, sz, ss, gz, gs, if_true, if_false, Bool.false_eq_true, Bool.not_true, Bool.not_false, Nat.add_zero, Nat.zero_add, Nat.reduceAdd]
      refine wpPi_move _ rfl rfl ?_
      simp only [pl, pn, el, ec, sz, ss, gz, gs, if_true, if_false, Bool.false_eq_true, Bool.not_true, Bool.not_false, Nat.add_zero, Nat.zero_add, Nat.reduceAdd]
      refine wpPi_move _ rfl rfl ?_
      simp only [pl, pn, el, ec, sz, ss, gz, gs, if_true, if_false, Bool.false_eq_true, Bool.not_true, Bool.not_false, Nat.add_zero, Nat.zero_add, Nat.reduceAdd]
      refine wpPi_do rfl (fun K hK => ?_)
      refine wp_enterQ (run_call 13 [.tmp 27, .tmp 28] _ rfl _ Try.func13 rfl (by kernel_rfl) [.slice ad2 ks.length cap2, .slice aw want.length cw] rfl _) (sameTexts_any hg2t (Sl.keep0 HW.out hm2)) ?_
      rintro e w3 ⟨rfl, hm3⟩
      refine ⟨_, rfl, hK _ _ trivial ?_⟩
      clear hK K
      try simp only [pl, pn, el, ec, sz, ss, gz, gs, if_true, if_false, Bool.false_eq_true, Bool.not_true, Bool.not_false, Nat.add_zero, Nat.zero_add, Nat.reduceAdd]
      refine wpPi_pick _ _ _ _ rfl rfl rfl ?_
      simp only [pl, pn, el, ec, sz, ss, gz, gs, if_true, if_false, Bool.false_eq_true, Bool.not_true, Bool.not_false, Nat.add_zero, Nat.zero_add, Nat.reduceAdd]
      refine wpPi_assign _ rfl rfl ?_
      simp only [pl, pn, el, ec, sz, ss, gz, gs, if_true, if_false, Bool.false_eq_true, Bool.not_true, Bool.not_false, Nat.add_zero, Nat.zero_add, Nat.reduceAdd]
      refine wpPi_nil ?_
      have hMr := hm2.trans0 hm3
      clear hm2 hm3
      go_wp2
      go_ret
      exact ⟨by rw [HRES.out]; rfl, hMr⟩
    · have hres : difB a b places want = false := by unfold difB; rw [decide_eq_false hn]; simp
      have HRES := Lib.hid hres
      rw [he]
      clear hres hks hok he
      go_upto_region 2 with (fail)
      refine wp_region_seq [3, 3, 3, 3, 3, 3, 3, 3, 3, 3, 1, 3, 3] (fun _ => True) (by rfl) (by rfl) trivial ?_
      simp only [List.zip_cons_cons, List.zip_nil_right]
      refine wpPi_move _ rfl rfl ?_
      simp only [pl, pn, el, ec, sz, ss, gz, gs, if_true, if_false, Bool.false_eq_true, Bool.not_true, Bool.not_false, Nat.add_zero, Nat.zero_add, Nat.reduceAdd]
      refine wpPi_any (v := ?_) rfl (fun w' => ?_) ?_; rotate_left; · (go_simp; try with_reducible rfl)
      simp only [pl, pn, el, ec, sz, ss, gz, gs, if_true, if_false, Bool.false_eq_true, Bool.not_true, Bool.not_false, Nat.add_zero, Nat.zero_add, Nat.reduceAdd]
      refine wpPi_move _ rfl rfl ?_
      simp only [pl, pn, el, ec, sz, ss, gz, gs, if_true, if_false, Bool.false_eq_true, Bool.not_true, Bool.not_false, Nat.add_zero, Nat.zero_add, Nat.reduceAdd]
      refine wpPi_move _ rfl rfl ?_
      simp only [pl, pn, el, ec, sz, ss, gz, gs, if_true, if_false, Bool.false_eq_true, Bool.not_true, Bool.not_false, Nat.add_zero, Nat.zero_add, Nat.reduceAdd]
      refine wpPi_move _ rfl rfl ?_
      simp only [pl, pn, el, ec, sz, ss, gz, gs, if_true, if_false, Bool.false_eq_true, Bool.not_true, Bool.not_false, Nat.add_zero, Nat.zero_add, Nat.reduceAdd]
      refine wpPi_cmp _ _ _ _ _ _ _ _ rfl rfl rfl rfl rfl false (decide_eq_false hn) ?_
      simp only [pl, pn, el, ec, sz, ss, gz, gs, if_true, if_false, Bool.false_eq_true, Bool.not_true, Bool.not_false, Nat.add_zero, Nat.zero_add, Nat.reduceAdd]
      refine wpPi_pick _ _ _ _ rfl rfl rfl ?_
      simp only [pl, pn, el, ec, sz, ss, gz, gs, if_true, if_false, Bool.false_eq_true, Bool.not_true, Bool.not_false, Nat.add_zero, Nat.zero_add, Nat.reduceAdd]
      refine wpPi_move _ rfl rfl ?_
      simp only [pl, pn, el, ec, sz, ss, gz, gs, if_true, if_false, Bool.false_eq_true, Bool.not_true, Bool.not_false, Nat.add_zero, Nat.zero_add, Nat.reduceAdd]
      refine wpPi_skip rfl ?_
      simp only [pl, pn, el, ec, sz, ss, gz, gs, if_true, if_false, Bool.false_eq_true, Bool.not_true, Bool.not_false, Nat.add_zero, Nat.zero_add, Nat.reduceAdd]
      refine wpPi_skip rfl ?_
      simp only [pl, pn, el, ec, sz, ss, gz, gs, if_true, if_false, Bool.false_eq_true, Bool.not_true, Bool.not_false, Nat.add_zero, Nat.zero_add, Nat.reduceAdd]
      refine wpPi_do_skip rfl trivial ?_
      simp only [pl, pn, el, ec, sz, ss, gz, gs, if_true, if_false, Bool.false_eq_true, Bool.not_true, Bool.not_false, Nat.add_zero, Nat.zero_add, Nat.reduceAdd]
      refine wpPi_pick _ _ _ _ rfl rfl rfl ?_
      simp only [pl, pn, el, ec, sz, ss, gz, gs, if_true, if_false, Bool.false_eq_true, Bool.not_true, Bool.not_false, Nat.add_zero, Nat.zero_add, Nat.reduceAdd]
      refine wpPi_assign _ rfl rfl ?_
      simp only [pl, pn, el, ec, sz, ss, gz, gs, if_true, if_false, Bool.false_eq_true, Bool.not_true, Bool.not_false, Nat.add_zero, Nat.zero_add, Nat.reduceAdd]
      refine wpPi_nil ?_
      go_wp2
      go_ret
      exact ⟨by rw [HRES.out]; rfl, hm2⟩
  · have hres : difB a b places want = false := by unfold difB; rw [decide_eq_false he]; simp
    have he2 : ¬ ((errD a b : Nat) : Int) = 0 := by omega
    have HRES := Lib.hid hres
    clear hres hok he
    go_upto_region 2 with (fail)
    refine wp_region_seq [3, 3, 3, 3, 3, 3, 3, 3, 3, 3, 1, 3, 3] (fun _ => True) (by rfl) (by rfl) trivial ?_
    simp only [List.zip_cons_cons, List.zip_nil_right]
    refine wpPi_move _ rfl rfl ?_
    simp only [pl, pn, el, ec, sz, ss, gz, gs, if_true, if_false, Bool.false_eq_true, Bool.not_true, Bool.not_false, Nat.add_zero, Nat.zero_add, Nat.reduceAdd]
    refine wpPi_cmp _ _ _ _ _ _ _ _ rfl rfl rfl rfl rfl false (decide_eq_false he2) ?_
    simp only [pl, pn, el, ec, sz, ss, gz, gs, if_true, if_false, Bool.false_eq_true, Bool.not_true, Bool.not_false, Nat.add_zero, Nat.zero_add, Nat.reduceAdd]
    refine wpPi_move _ rfl rfl ?_
    simp only [pl, pn, el, ec, sz, ss, gz, gs, if_true, if_false, Bool.false_eq_true, Bool.not_true, Bool.not_false, Nat.add_zero, Nat.zero_add, Nat.reduceAdd]
    refine wpPi_skip rfl ?_
    simp only [pl, pn, el, ec, sz, ss, gz, gs, if_true, if_false, Bool.false_eq_true, Bool.not_true, Bool.not_false, Nat.add_zero, Nat.zero_add, Nat.reduceAdd]
    refine wpPi_skip rfl ?_
    simp only [pl, pn, el, ec, sz, ss, gz, gs, if_true, if_false, Bool.false_eq_true, Bool.not_true, Bool.not_false, Nat.add_zero, Nat.zero_add, Nat.reduceAdd]
    refine wpPi_skip rfl ?_
    simp only [pl, pn, el, ec, sz, ss, gz, gs, if_true, if_false, Bool.false_eq_true, Bool.not_true, Bool.not_false, Nat.add_zero, Nat.zero_add, Nat.reduceAdd]
    refine wpPi_pick _ _ _ _ rfl rfl rfl ?_
    simp only [pl, pn, el, ec, sz, ss, gz, gs, if_true, if_false, Bool.false_eq_true, Bool.not_true, Bool.not_false, Nat.add_zero, Nat.zero_add, Nat.reduceAdd]
    refine wpPi_move _ rfl rfl ?_
    simp only [pl, pn, el, ec, sz, ss, gz, gs, if_true, if_false, Bool.false_eq_true, Bool.not_true, Bool.not_false, Nat.add_zero, Nat.zero_add, Nat.reduceAdd]
    refine wpPi_skip rfl ?_
    simp only [pl, pn, el, ec, sz, ss, gz, gs, if_true, if_false, Bool.false_eq_true, Bool.not_true, Bool.not_false, Nat.add_zero, Nat.zero_add, Nat.reduceAdd]
    refine wpPi_skip rfl ?_
    simp only [pl, pn, el, ec, sz, ss, gz, gs, if_true, if_false, Bool.false_eq_true, Bool.not_true, Bool.not_false, Nat.add_zero, Nat.zero_add, Nat.reduceAdd]
    refine wpPi_do_skip rfl trivial ?_
    simp only [pl, pn, el, ec, sz, ss, gz, gs, if_true, if_false, Bool.false_eq_true, Bool.not_true, Bool.not_false, Nat.add_zero, Nat.zero_add, Nat.reduceAdd]
    refine wpPi_pick _ _ _ _ rfl rfl rfl ?_
    simp only [pl, pn, el, ec, sz, ss, gz, gs, if_true, if_false, Bool.false_eq_true, Bool.not_true, Bool.not_false, Nat.add_zero, Nat.zero_add, Nat.reduceAdd]
    refine wpPi_assign _ rfl rfl ?_
    simp only [pl, pn, el, ec, sz, ss, gz, gs, if_true, if_false, Bool.false_eq_true, Bool.not_true, Bool.not_false, Nat.add_zero, Nat.zero_add, Nat.reduceAdd]
    refine wpPi_nil ?_
    go_wp2
    go_ret
    exact ⟨by rw [HRES.out]; rfl, hm2⟩
end Go.Proofs.Ytchkikmmcmjcgaa

/- The chapter's examples: awake. -/
namespace Go.Proofs.Ytchkikmmcmjcgaa
set_option linter.unusedSimpArgs false
set_option linter.unusedVariables false
set_option linter.unnecessarySimpa false
set_option linter.unusedSectionVars false
open Go.RowKit Go.Shelf


abbrev Ever : Nat → Prop := fun _ => True
theorem EntC.ever {w : World} {G : Nat → Prop} {cs : Array Value} {e : Ent} (h : EntC w G cs e) : EntC w Ever cs e := by
  obtain ⟨v, e1, hs⟩ := h
  exact ⟨v, e1, hs.mono (fun _ _ => trivial) (fun _ _ h => h)⟩
theorem es_one {w : World} {b : Nat} {T : TypeId} {cs : Array Value} {e : Ent} (hb : w.heap[b]? = some (.cells cs T (0, 0))) (h : EntC w Ever cs e) : Es false w Ever (.slice (some ⟨b, 0, none⟩) 1 1) [e] := by
  have hcs : cs.size = 2 := by obtain ⟨v, rfl, -⟩ := h; rfl
  refine ⟨_, _, rfl, Nat.le_refl _, by unfold maxLen; omega, fun _ => ⟨b, 0, rfl, trivial, by simp [Owned], fun i hi => ?_⟩⟩
  match i, hi with
  | 0, _ => exact ⟨cs, hcs, h, by simpa using CellsAt.whole hb⟩
theorem txt_one {w : World} {b : Nat} {T : TypeId} {s : ByteArray} (hb : w.heap[b]? = some (.cells #[.string s] T (0, 0))) : Txt false w Ever (.slice (some ⟨b, 0, none⟩) 1 1) [s] := by
  refine ⟨_, _, rfl, Nat.le_refl _, by unfold maxLen; omega, fun _ => ⟨b, 0, rfl, trivial, by simp [Owned], fun i hi => ?_⟩⟩
  match i, hi with
  | 0, _ => exact ⟨_, rfl, rfl, by simpa using CellsAt.whole hb⟩
theorem entF_keep (e : Ent) : ∀ (v : Value) (w w' : World), (∃ cs, v = .agg cs ∧ EntC w Ever cs e) → Mod NoB w w' → (∃ cs, v = .agg cs ∧ EntC w' Ever cs e) := fun _ _ _ ⟨cs, h1, h2⟩ hm => ⟨cs, h1, h2.keep hm (fun _ _ => id)⟩
theorem esF_keep (l : List Ent) : ∀ (v : Value) (w w' : World), Es false w Ever v l → Mod NoB w w' → Es false w' Ever v l := fun _ _ _ h hm => h.keep0 hm
theorem txtF_keep (l : List ByteArray) : ∀ (v : Value) (w w' : World), Txt false w Ever v l → Mod NoB w w' → Txt false w' Ever v l := fun _ _ _ h hm => Sl.keep0 h hm
theorem entry_i2 : (Try.prog.info? 35).map (fun i => (i.zero, i.size)) = some (some (.agg #[.string ⟨#[]⟩, .slice none 0 0]), 2) := by kernel_rfl
theorem EntC.size {w : World} {G : Nat → Prop} {cs : Array Value} {e : Ent} (h : EntC w G cs e) : cs.size = 2 := by obtain ⟨v, rfl, -⟩ := h; rfl
/-- '[]byte("..")' of a constant: a mark behind the literal's row. -/
theorem wp_bytesConst {P : Program} {o : Oper} {a : Act} {w : World} {K : Act → World → Prop} {Q : Exit → Act → World → Prop} (t e : TypeId) (x : Operand) (b n c : Nat) (C : Array Value) (ho : o.op = .convert t t x) (hx : a.eval x = .slice (some ⟨b, 0, none⟩) n c)
    (ht : P.underlying t = some (.slice e)) (he : P.underlying e = some (.int .u8)) (hb : w.heap[b]? = some (.cells C e (0, 0)))
    (h : ∀ w', w'.heap[b]? = some (.cells C e (C.size, C.size + 1)) → Mod (fun k => k = b) w w' → K (a.put o.dst (.slice (some ⟨b, 0, none⟩) n c)) w') : o.wp P a w K Q := by
  have hsh : w.shape? b = some (e, C.size) := by unfold World.shape?; rw [hb]
  have hr : (convert t t (.slice (some ⟨b, 0, none⟩) n c)).run P w = .ok (.slice (some ⟨b, 0, none⟩) n c) (w.freeze ⟨b, C.size, none⟩ 1) := by
    simp [convert, run_underlying ht, run_underlying he, markStringish, hsh]
  unfold Oper.wp execOp
  simp only [ho, hx, Sem.run_bind, hr, Result.andThen_ok, Sem.run_pure]
  refine h _ ?_ ⟨rfl, rfl, rfl, ?_, fun k hk hne => ?_⟩
  · unfold World.freeze
    rw [if_neg (by decide)]
    show (w.heap.modify b _)[b]? = _
    rw [Array.getElem?_modify, if_pos rfl, hb]
    rfl
  · unfold World.freeze
    rw [if_neg (by decide)]
    simp
  · unfold World.freeze
    rw [if_neg (by decide)]
    show (w.heap.modify b _)[k]? = _
    rw [Array.getElem?_modify, if_neg (fun e => hne e.symm)]
/-- "a", "x", "y". -/
def sA : ByteArray := ⟨#[97]⟩
def eAX : Ent := (sA, [120])
def eAY : Ent := (sA, [121])
theorem short_one {e : Ent} (h1 : e.1.size ≤ 1000000) (h2 : e.2.length ≤ 1000000) : Short [e] := fun x hx => by rw [List.mem_singleton.1 hx]; exact ⟨h1, h2⟩
theorem short_nil : Short [] := fun x hx => by cases hx
theorem root_nil : rootOut [] = shaL [0] := by
  unfold rootOut
  rw [if_pos (chkE_few [] (by simp))]
  unfold rootE leavesE
  rw [List.map_nil, dig_nil]
theorem root_one (e : Ent) : rootOut [e] = shaL (1 :: (shaL e.1.data.toList ++ shaL e.2)) := by
  unfold rootOut
  rw [if_pos (chkE_few [e] (by simp))]
  unfold rootE leavesE
  rw [List.map_cons, List.map_nil, dig_one]
  rfl
set_option maxRecDepth 100000 in
theorem one_ne : oneD (leafOf eAX) ≠ oneD (leafOf eAY) := by decide +kernel
theorem dif_ax_ay : difB [eAX] [eAY] 1 [sA] = true := by
  have h1 : chkE [eAX] = 0 := chkE_few _ (by simp)
  have h2 : chkE [eAY] = 0 := chkE_few _ (by simp)
  have hcl : ¬ clash [eAX] [eAY] := by
    rintro ⟨x, hx, y, hy, -, h⟩
    unfold leavesE at hx hy
    rw [List.map_cons, List.map_nil, List.mem_singleton] at hx hy
    subst hx; subst hy
    exact h rfl
  have he : errD [eAX] [eAY] = 0 := errD_zero.2 ⟨h1, h2, hcl⟩
  have hne : leafOf eAX ≠ leafOf eAY := fun e => one_ne (by rw [e])
  have hd : difE [eAX] [eAY] = ([sA, sA], 1) := by
    unfold difE leavesE
    rw [List.map_cons, List.map_nil, List.map_cons, List.map_nil, dif_few (by rw [dig_one, dig_one]; exact one_ne) (by simp)]
    simp only [lackL, List.filter_cons, List.filter_nil, List.mem_singleton, hne, Ne.symm hne, not_false_iff, decide_true, if_true, List.map_cons, List.map_nil]
    rfl
  have hr : riseOf [sA, sA] = [sA] := (riseOf_rise _).one (fun x hx => by simpa using hx) (by simp)
  unfold difB
  rw [he, hd, hr]
  simp
end Go.Proofs.Ytchkikmmcmjcgaa

/- awake holds. -/
namespace Go.Proofs.Ytchkikmmcmjcgaa
set_option linter.unusedSimpArgs false
set_option linter.unusedVariables false
set_option linter.unnecessarySimpa false
set_option linter.unusedSectionVars false
open Go.RowKit Go.Shelf


set_option maxRecDepth 10000 in
set_option maxHeartbeats 2000000 in
theorem awake_any (w : World) : Calls Try.prog 9 #[] w (RetM (.bool true) w) := by
  have hr0 := root_nil
  have hr1 := root_one eAX
  have hc0 : chkE [] = 0 := chkE_few _ (by simp)
  have hc1 : chkE [eAX] = 0 := chkE_few _ (by simp)
  have hl0 : (idCells (shaL [0])).size = 32 := by rw [idCells_size]; exact shaL_len _
  have HDF := Lib.hid dif_ax_ay
  have hkl : (shaL [97]).length = 32 := shaL_len _
  have hvl : (shaL [120]).length = 32 := shaL_len _
  have hkr : (idCells (shaL [97])).size = 32 := by rw [idCells_size]; exact hkl
  have hvr : (idCells (shaL [120])).size = 32 := by rw [idCells_size]; exact hvl
  go_enter Try.func9, Try.ntmps9
  go_upto_region 1 with (fail)
  refine wp_region_seq [1, 3, 3, 3, 1, 1, 3] (fun _ => True) (by rfl) (by rfl) trivial ?_
  simp only [List.zip_cons_cons, List.zip_nil_right]
  refine wpPi_do rfl (fun K hK => ?_)
  refine wp_enterQ (run_call 17 [.const (.slice none 0 0)] _ rfl _ Try.func17 rfl (by kernel_rfl) [.slice none 0 0] rfl _) (root_any (own := false) (G := Ever) (es := []) (Sl.nil _ _ _ _ _) short_nil (by simp)) ?_
  rintro e w1 ⟨rfl, hm1⟩
  rw [hr0, hc0]
  refine ⟨_, rfl, hK _ _ trivial ?_⟩
  clear hK K
  try simp only [pl, pn, el, ec, sz, ss, gz, gs, if_true, if_false, Bool.false_eq_true, Bool.not_true, Bool.not_false, Nat.add_zero, Nat.zero_add, Nat.reduceAdd]
  refine wpPi_move _ rfl rfl ?_
  simp only [pl, pn, el, ec, sz, ss, gz, gs, if_true, if_false, Bool.false_eq_true, Bool.not_true, Bool.not_false, Nat.add_zero, Nat.zero_add, Nat.reduceAdd]
  refine wpPi_any (v := ?_) rfl (fun w' => ?_) ?_; rotate_left; · (go_simp; try with_reducible rfl)
  simp only [pl, pn, el, ec, sz, ss, gz, gs, if_true, if_false, Bool.false_eq_true, Bool.not_true, Bool.not_false, Nat.add_zero, Nat.zero_add, Nat.reduceAdd]
  refine wpPi_any (v := ?_) rfl (fun w' => ?_) ?_; rotate_left; · (go_simp; try with_reducible rfl)
  simp only [pl, pn, el, ec, sz, ss, gz, gs, if_true, if_false, Bool.false_eq_true, Bool.not_true, Bool.not_false, Nat.add_zero, Nat.zero_add, Nat.reduceAdd]
  refine wpPi_do rfl (fun K hK => ?_)
  refine wp_alloc 38 _ (by rfl) idZ (fun w2 hB2 hm2 hs2 => ?_)
  replace hB2 : w2.heap[w1.heap.size]? = some (.cells (idCells (List.replicate 32 0)) 38 (0, 0)) := hB2
  refine hK _ _ trivial ?_
  clear hK K
  try simp only [pl, pn, el, ec, sz, ss, gz, gs, if_true, if_false, Bool.false_eq_true, Bool.not_true, Bool.not_false, Nat.add_zero, Nat.zero_add, Nat.reduceAdd]
  refine wpPi_do rfl (fun K hK => ?_)
  refine wp_storeA 38 _ _ w1.heap.size 0 (idCells (shaL [0])) (by rfl) (by rfl) (by rfl) (idCells_one _) 32 (by kernel_rfl) hl0 _ _ hB2 (by rw [hl0, idCells_size]; simp) (fun w3 hB3 hm3 => ?_)
  rw [putRow_whole (by rw [hl0, idCells_size]; rfl)] at hB3
  refine hK _ _ trivial ?_
  clear hK K
  try simp only [pl, pn, el, ec, sz, ss, gz, gs, if_true, if_false, Bool.false_eq_true, Bool.not_true, Bool.not_false, Nat.add_zero, Nat.zero_add, Nat.reduceAdd]
  refine wpPi_assign _ rfl rfl ?_
  simp only [pl, pn, el, ec, sz, ss, gz, gs, if_true, if_false, Bool.false_eq_true, Bool.not_true, Bool.not_false, Nat.add_zero, Nat.zero_add, Nat.reduceAdd]
  refine wpPi_nil ?_
  have hM3 : Mod NoB w w3 := (hm1.trans0 hm2).transB hm3 hm1.size
  generalize w1.heap.size = b1 at *
  clear hm1 hm2 hm3 hB2 hr0 hc0
  go_upto_region 2 with (fail)
  refine wp_region_seq [1, 1, 1, 3, 3, 3, 1, 1, 3] (fun _ => True) (by rfl) (by rfl) trivial ?_
  simp only [List.zip_cons_cons, List.zip_nil_right]
  refine wpPi_do rfl (fun K hK => ?_)
  refine wp_enterQ (run_call 16 [.const (.string ⟨#[97]⟩), .const (.string ⟨#[120]⟩)] _ rfl _ Try.func16 rfl (by kernel_rfl) [.string ⟨#[97]⟩, .string ⟨#[120]⟩] rfl _) (lawOf_any ⟨#[97]⟩ ⟨#[120]⟩ (by decide) _) ?_
  rintro e w4 ⟨cs, rfl, hec, hm4⟩
  replace hec : EntC w4 Ever cs eAX := hec
  have hcs2 := hec.size
  refine ⟨_, rfl, hK _ _ trivial ?_⟩
  clear hK K
  try simp only [pl, pn, el, ec, sz, ss, gz, gs, if_true, if_false, Bool.false_eq_true, Bool.not_true, Bool.not_false, Nat.add_zero, Nat.zero_add, Nat.reduceAdd]
  refine wpPi_do rfl (fun K hK => ?_)
  refine wp_buildSlice1 22 35 _ (.agg cs) (.agg #[.string ⟨#[]⟩, .slice none 0 0]) 2 (by rfl) (by rfl) Try.underlying22 entry_i2 (by omega) (by omega) hcs2 (fun w5 hB5 hm5 hs5 => ?_)
  replace hB5 : w5.heap[w4.heap.size]? = some (.cells cs 35 (0, 0)) := hB5
  have hes := es_one hB5 (hec.keep hm5 (fun _ _ => id))
  refine hK _ _ trivial ?_
  clear hK K
  try simp only [pl, pn, el, ec, sz, ss, gz, gs, if_true, if_false, Bool.false_eq_true, Bool.not_true, Bool.not_false, Nat.add_zero, Nat.zero_add, Nat.reduceAdd]
  refine wpPi_do rfl (fun K hK => ?_)
  refine wp_enterQ (run_call 17 [.tmp 13] _ rfl _ Try.func17 rfl (by kernel_rfl) [.slice (some ⟨w4.heap.size, 0, none⟩) 1 1] rfl _) (root_any hes (short_one (by decide) (by decide)) (by simp)) ?_
  rintro e w6 ⟨rfl, hm6⟩
  rw [hc1, hr1]
  have hM6 := ((hM3.trans0 hm4).trans0 hm5).trans0 hm6
  replace hB3 := ((hm4.trans0 hm5).trans0 hm6).obj id hB3
  have hlt1 := (Array.getElem?_eq_some_iff.1 hB3).1
  obtain ⟨R, hR⟩ : ∃ R, shaL (1 :: (shaL eAX.1.data.toList ++ shaL eAX.2)) = R := ⟨_, rfl⟩
  have hRl : R.length = 32 := by rw [← hR]; exact shaL_len _
  have hRr : (idCells R).size = 32 := by rw [idCells_size, hRl]
  rw [hR]
  have HR := Lib.hid hR
  refine ⟨_, rfl, hK _ _ trivial ?_⟩
  clear hK K hR
  try simp only [pl, pn, el, ec, sz, ss, gz, gs, if_true, if_false, Bool.false_eq_true, Bool.not_true, Bool.not_false, Nat.add_zero, Nat.zero_add, Nat.reduceAdd]
  refine wpPi_move _ rfl rfl ?_
  simp only [pl, pn, el, ec, sz, ss, gz, gs, if_true, if_false, Bool.false_eq_true, Bool.not_true, Bool.not_false, Nat.add_zero, Nat.zero_add, Nat.reduceAdd]
  refine wpPi_any (v := ?_) rfl (fun w' => ?_) ?_; rotate_left; · (go_simp; try with_reducible rfl)
  simp only [pl, pn, el, ec, sz, ss, gz, gs, if_true, if_false, Bool.false_eq_true, Bool.not_true, Bool.not_false, Nat.add_zero, Nat.zero_add, Nat.reduceAdd]
  refine wpPi_any (v := ?_) rfl (fun w' => ?_) ?_; rotate_left; · (go_simp; try with_reducible rfl)
  simp only [pl, pn, el, ec, sz, ss, gz, gs, if_true, if_false, Bool.false_eq_true, Bool.not_true, Bool.not_false, Nat.add_zero, Nat.zero_add, Nat.reduceAdd]
  refine wpPi_do rfl (fun K hK => ?_)
  refine wp_alloc 38 _ (by rfl) idZ (fun w7 hB7 hm7 hs7 => ?_)
  replace hB7 : w7.heap[w6.heap.size]? = some (.cells (idCells (List.replicate 32 0)) 38 (0, 0)) := hB7
  replace hB3 := hm7.obj id hB3
  refine hK _ _ trivial ?_
  clear hK K
  try simp only [pl, pn, el, ec, sz, ss, gz, gs, if_true, if_false, Bool.false_eq_true, Bool.not_true, Bool.not_false, Nat.add_zero, Nat.zero_add, Nat.reduceAdd]
  refine wpPi_do rfl (fun K hK => ?_)
  refine wp_storeA 38 _ _ w6.heap.size 0 (idCells R) (by rfl) (by rfl) (by rfl) (idCells_one _) 32 (by kernel_rfl) hRr _ _ hB7 (by rw [hRr, idCells_size]; simp) (fun w8 hB8 hm8 => ?_)
  rw [putRow_whole (by rw [hRr, idCells_size]; rfl)] at hB8
  refine hK _ _ trivial ?_
  clear hK K
  try simp only [pl, pn, el, ec, sz, ss, gz, gs, if_true, if_false, Bool.false_eq_true, Bool.not_true, Bool.not_false, Nat.add_zero, Nat.zero_add, Nat.reduceAdd]
  refine wpPi_assign _ rfl rfl ?_
  simp only [pl, pn, el, ec, sz, ss, gz, gs, if_true, if_false, Bool.false_eq_true, Bool.not_true, Bool.not_false, Nat.add_zero, Nat.zero_add, Nat.reduceAdd]
  refine wpPi_nil ?_
  replace hB3 := hm8.objB (by omega) hB3
  have hM8 : Mod NoB w w8 := (hM6.trans0 hm7).transB hm8 hM6.size
  generalize w6.heap.size = b3 at *
  clear hm4 hm5 hm6 hm7 hm8 hB5 hB7 hM3 hM6 hes hec hr1 hc1 hcs2
  go_upto_region 3 with (fail)
  refine wp_region_seq [1, 1, 1, 1, 1, 1, 1, 1, 1, 1] (fun _ => True) (by rfl) (by rfl) trivial ?_
  simp only [List.zip_cons_cons, List.zip_nil_right]
  refine wpPi_do rfl (fun K hK => ?_)
  refine wp_buildSlice1 33 5 _ (byteV 97) (.int .u8 0) 1 (by rfl) (by rfl) Try.underlying33 (by kernel_rfl) (by omega) (by omega) (by rfl) (fun w9 hB9 hm9 hs9 => ?_)
  replace hB9 : w9.heap[w8.heap.size]? = some (.cells (idCells [97]) 5 (0, 0)) := hB9
  refine hK _ _ trivial ?_
  clear hK K
  try simp only [pl, pn, el, ec, sz, ss, gz, gs, if_true, if_false, Bool.false_eq_true, Bool.not_true, Bool.not_false, Nat.add_zero, Nat.zero_add, Nat.reduceAdd]
  refine wpPi_do rfl (fun K hK => ?_)
  refine wp_bytesConst 33 5 _ w8.heap.size 1 1 _ (by rfl) (by rfl) Try.underlying33 Try.underlying5 hB9 (fun w9b hB9b hm9b => ?_)
  replace hm9 : Mod NoB w8 w9b := hm9.transB hm9b (Nat.le_refl _)
  clear hB9 hm9b
  refine hK _ _ trivial ?_
  clear hK K
  try simp only [pl, pn, el, ec, sz, ss, gz, gs, if_true, if_false, Bool.false_eq_true, Bool.not_true, Bool.not_false, Nat.add_zero, Nat.zero_add, Nat.reduceAdd]
  refine wpPi_do rfl (fun K hK => ?_)
  refine wp_enterQ (run_call 23 [.tmp 18] _ rfl _ Try.func23 rfl (by kernel_rfl) [.slice (some ⟨w8.heap.size, 0, none⟩) 1 1] rfl _) (shaSum_any (sl_of_cells (x := [97]) (CellsAt.whole hB9b) (by simp)) (by simp)) ?_
  rintro e w10 ⟨rfl, hm10⟩
  clear hB9b
  refine ⟨_, rfl, hK _ _ trivial ?_⟩
  clear hK K
  try simp only [pl, pn, el, ec, sz, ss, gz, gs, if_true, if_false, Bool.false_eq_true, Bool.not_true, Bool.not_false, Nat.add_zero, Nat.zero_add, Nat.reduceAdd]
  refine wpPi_do rfl (fun K hK => ?_)
  refine wp_buildSlice1 33 5 _ (byteV 120) (.int .u8 0) 1 (by rfl) (by rfl) Try.underlying33 (by kernel_rfl) (by omega) (by omega) (by rfl) (fun w11 hB11 hm11 hs11 => ?_)
  replace hB11 : w11.heap[w10.heap.size]? = some (.cells (idCells [120]) 5 (0, 0)) := hB11
  refine hK _ _ trivial ?_
  clear hK K
  try simp only [pl, pn, el, ec, sz, ss, gz, gs, if_true, if_false, Bool.false_eq_true, Bool.not_true, Bool.not_false, Nat.add_zero, Nat.zero_add, Nat.reduceAdd]
  refine wpPi_do rfl (fun K hK => ?_)
  refine wp_bytesConst 33 5 _ w10.heap.size 1 1 _ (by rfl) (by rfl) Try.underlying33 Try.underlying5 hB11 (fun w11b hB11b hm11b => ?_)
  replace hm11 : Mod NoB w10 w11b := hm11.transB hm11b (Nat.le_refl _)
  clear hB11 hm11b
  refine hK _ _ trivial ?_
  clear hK K
  try simp only [pl, pn, el, ec, sz, ss, gz, gs, if_true, if_false, Bool.false_eq_true, Bool.not_true, Bool.not_false, Nat.add_zero, Nat.zero_add, Nat.reduceAdd]
  refine wpPi_do rfl (fun K hK => ?_)
  refine wp_enterQ (run_call 23 [.tmp 21] _ rfl _ Try.func23 rfl (by kernel_rfl) [.slice (some ⟨w10.heap.size, 0, none⟩) 1 1] rfl _) (shaSum_any (sl_of_cells (x := [120]) (CellsAt.whole hB11b) (by simp)) (by simp)) ?_
  rintro e w12 ⟨rfl, hm12⟩
  clear hB11b
  have hM12 := ((hm9.trans0 hm10).trans0 hm11).trans0 hm12
  refine ⟨_, rfl, hK _ _ trivial ?_⟩
  clear hK K
  try simp only [pl, pn, el, ec, sz, ss, gz, gs, if_true, if_false, Bool.false_eq_true, Bool.not_true, Bool.not_false, Nat.add_zero, Nat.zero_add, Nat.reduceAdd]
  refine wpPi_do rfl (fun K hK => ?_)
  refine wp_alloc 38 _ (by rfl) idZ (fun w13 hB13 hm13 hs13 => ?_)
  replace hB13 : w13.heap[w12.heap.size]? = some (.cells (idCells (List.replicate 32 0)) 38 (0, 0)) := hB13
  refine hK _ _ trivial ?_
  clear hK K
  try simp only [pl, pn, el, ec, sz, ss, gz, gs, if_true, if_false, Bool.false_eq_true, Bool.not_true, Bool.not_false, Nat.add_zero, Nat.zero_add, Nat.reduceAdd]
  refine wpPi_do rfl (fun K hK => ?_)
  refine wp_alloc 38 _ (by rfl) idZ (fun w14 hB14 hm14 hs14 => ?_)
  replace hB14 : w14.heap[w13.heap.size]? = some (.cells (idCells (List.replicate 32 0)) 38 (0, 0)) := hB14
  replace hB13 := hm14.obj id hB13
  have hM14 := (hM12.trans0 hm13).trans0 hm14
  have hs12 := hM12.size
  refine hK _ _ trivial ?_
  clear hK K
  try simp only [pl, pn, el, ec, sz, ss, gz, gs, if_true, if_false, Bool.false_eq_true, Bool.not_true, Bool.not_false, Nat.add_zero, Nat.zero_add, Nat.reduceAdd]
  refine wpPi_do rfl (fun K hK => ?_)
  refine wp_storeA 38 _ _ w12.heap.size 0 (idCells (shaL [97])) (by rfl) (by rfl) (by rfl) (idCells_one _) 32 (by kernel_rfl) hkr _ _ hB13 (by rw [hkr, idCells_size]; simp) (fun w15 hB15 hm15 => ?_)
  rw [putRow_whole (by rw [hkr, idCells_size]; rfl)] at hB15
  replace hB14 := hm15.objB (by omega) hB14
  refine hK _ _ trivial ?_
  clear hK K
  try simp only [pl, pn, el, ec, sz, ss, gz, gs, if_true, if_false, Bool.false_eq_true, Bool.not_true, Bool.not_false, Nat.add_zero, Nat.zero_add, Nat.reduceAdd]
  refine wpPi_do rfl (fun K hK => ?_)
  refine wp_storeA 38 _ _ w13.heap.size 0 (idCells (shaL [120])) (by rfl) (by rfl) (by rfl) (idCells_one _) 32 (by kernel_rfl) hvr _ _ hB14 (by rw [hvr, idCells_size]; simp) (fun w16 hB16 hm16 => ?_)
  rw [putRow_whole (by rw [hvr, idCells_size]; rfl)] at hB16
  replace hB15 := hm16.objB (by omega) hB15
  refine hK _ _ trivial ?_
  clear hK K
  try simp only [pl, pn, el, ec, sz, ss, gz, gs, if_true, if_false, Bool.false_eq_true, Bool.not_true, Bool.not_false, Nat.add_zero, Nat.zero_add, Nat.reduceAdd]
  refine wpPi_nil ?_
  have hM16 : Mod NoB w8 w16 := (hM14.transB hm15 hs12).transB hm16 (by omega)
  replace hB3 := CellsAt.whole (hM16.obj id hB3)
  replace hB8 := CellsAt.whole (hM16.obj id hB8)
  have hMw := hM8.trans0 hM16
  have hsk := sl_of_cells (CellsAt.whole hB15) (by omega)
  have hsv := sl_of_cells (CellsAt.whole hB16) (by omega)
  rw [hkl] at hsk
  rw [hvl] at hsv
  generalize w12.heap.size = b5 at *
  generalize w13.heap.size = b6 at *
  clear hm9 hm10 hm11 hm12 hm13 hm14 hm15 hm16 hB13 hB14 hB15 hB16 hM8 hM12 hM14 hM16 hkr hvr
  go_upto_region 4 with (fail)
  have hS : Mod NoB w16 w16.drew := (Mod.refl _ _).drew
  refine wp_region_plan [.inl [(0, 3), (1, 3), (2, 3), (3, 0)], .inr (.inl 4), .inr (.inl 5), .inl [(6, 0), (7, 3), (8, 3), (9, 3), (10, 3), (11, 3), (12, 3), (13, 0), (15, 3), (17, 3)], .inr (.inl 14), .inr (.inl 16), .inr (.inl 18), .inr (.inl 19), .inl [(20, 0), (21, 3), (22, 3)], .inr (.inr (5, #[true, true, true, true, true, true, true, true, true, true, true, true, true, true, true, true, true, true, true, true, true, true, true, false, false, false, false, false, false, false, false])), .inr (.inl 28), .inl [(29, 3), (30, 3)]] (fun w' => Mod NoB w16 w') (by kernel_rfl) (by kernel_rfl) (by kernel_rfl) (fun _ _ _ _ hd h => ⟨hd.trans h.1, h.2⟩) hS ?_
  refine wpPlan_seg ?_
  simp only [List.map_cons, List.map_nil, Array.getD_eq_getD_getElem?, List.getElem?_toArray, List.getElem?_cons_succ, List.getElem?_cons_zero, Option.getD_some]
  refine wpPi_move _ rfl rfl ?_
  simp only [pl, pn, el, ec, sz, ss, gz, gs, if_true, if_false, Bool.false_eq_true, Bool.not_true, Bool.not_false, Nat.add_zero, Nat.zero_add, Nat.reduceAdd]
  refine wpPi_any (v := ?_) rfl (fun w' => ?_) ?_; rotate_left; · (go_simp; try with_reducible rfl)
  simp only [pl, pn, el, ec, sz, ss, gz, gs, if_true, if_false, Bool.false_eq_true, Bool.not_true, Bool.not_false, Nat.add_zero, Nat.zero_add, Nat.reduceAdd]
  refine wpPi_move _ rfl rfl ?_
  simp only [pl, pn, el, ec, sz, ss, gz, gs, if_true, if_false, Bool.false_eq_true, Bool.not_true, Bool.not_false, Nat.add_zero, Nat.zero_add, Nat.reduceAdd]
  refine wpPi_val rfl (fun w' hS => exec_loadA 38 _ (by rfl) b1 0 (by rfl) (idCells (shaL [0])) (hB3.keep hS id) _ Try.underlying38 rfl 32 (by kernel_rfl) hl0) ?_
  simp only [pl, pn, el, ec, sz, ss, gz, gs, if_true, if_false, Bool.false_eq_true, Bool.not_true, Bool.not_false, Nat.add_zero, Nat.zero_add, Nat.reduceAdd]
  refine wpPi_nil ?_
  refine planQ_normal ?_
  refine wpPlan_one rfl (fun K hK => ?_)
  simp only [Array.getD_eq_getD_getElem?, List.getElem?_toArray, List.getElem?_cons_succ, List.getElem?_cons_zero, Option.getD_some]
  refine wp_buildSlice1 33 5 _ (byteV 0) (.int .u8 0) 1 (by rfl) (by rfl) Try.underlying33 (by kernel_rfl) (by omega) (by omega) (by rfl) (fun wa hBa hma hsa => ?_)
  replace hBa : wa.heap[w16.heap.size]? = some (.cells (idCells [0]) 5 (0, 0)) := hBa
  have hSa := hS.trans0 hma
  refine hK _ _ hSa ?_
  clear hK K
  try simp only [pl, pn, el, ec, sz, ss, gz, gs, if_true, if_false, Bool.false_eq_true, Bool.not_true, Bool.not_false, Nat.add_zero, Nat.zero_add, Nat.reduceAdd]
  refine wpPlan_one rfl (fun K hK => ?_)
  simp only [Array.getD_eq_getD_getElem?, List.getElem?_toArray, List.getElem?_cons_succ, List.getElem?_cons_zero, Option.getD_some]
  refine wp_enterQ (run_call 23 [.tmp 27] _ rfl _ Try.func23 rfl (by kernel_rfl) [.slice (some ⟨w16.heap.size, 0, none⟩) 1 1] rfl _) (shaSum_any (sl_of_cells (x := [0]) (CellsAt.whole hBa) (by simp)) (by simp)) ?_
  rintro e wb ⟨rfl, hmb⟩
  have hSb := hSa.trans0 hmb
  refine ⟨_, rfl, hK _ _ hSb ?_⟩
  clear hK K
  try simp only [pl, pn, el, ec, sz, ss, gz, gs, if_true, if_false, Bool.false_eq_true, Bool.not_true, Bool.not_false, Nat.add_zero, Nat.zero_add, Nat.reduceAdd]
  refine wpPlan_seg ?_
  simp only [List.map_cons, List.map_nil, Array.getD_eq_getD_getElem?, List.getElem?_toArray, List.getElem?_cons_succ, List.getElem?_cons_zero, Option.getD_some]
  refine wpPi_val rfl (fun w' hS => exec_eql_id _ _ _ _ rfl (shaL [0]) (shaL [0]) rfl rfl 32 5 Try.underlying38 Try.underlying5 (by kernel_rfl) (by kernel_rfl) (shaL_len _) (shaL_len _) true (decide_eq_true rfl)) ?_
  simp only [pl, pn, el, ec, sz, ss, gz, gs, if_true, if_false, Bool.false_eq_true, Bool.not_true, Bool.not_false, Nat.add_zero, Nat.zero_add, Nat.reduceAdd]
  refine wpPi_pick _ _ _ _ rfl rfl rfl ?_
  simp only [pl, pn, el, ec, sz, ss, gz, gs, if_true, if_false, Bool.false_eq_true, Bool.not_true, Bool.not_false, Nat.add_zero, Nat.zero_add, Nat.reduceAdd]
  refine wpPi_move _ rfl rfl ?_
  simp only [pl, pn, el, ec, sz, ss, gz, gs, if_true, if_false, Bool.false_eq_true, Bool.not_true, Bool.not_false, Nat.add_zero, Nat.zero_add, Nat.reduceAdd]
  refine wpPi_move _ rfl rfl ?_
  simp only [pl, pn, el, ec, sz, ss, gz, gs, if_true, if_false, Bool.false_eq_true, Bool.not_true, Bool.not_false, Nat.add_zero, Nat.zero_add, Nat.reduceAdd]
  refine wpPi_any (v := ?_) rfl (fun w' => ?_) ?_; rotate_left; · (go_simp; try with_reducible rfl)
  simp only [pl, pn, el, ec, sz, ss, gz, gs, if_true, if_false, Bool.false_eq_true, Bool.not_true, Bool.not_false, Nat.add_zero, Nat.zero_add, Nat.reduceAdd]
  refine wpPi_pick _ _ _ _ rfl rfl rfl ?_
  simp only [pl, pn, el, ec, sz, ss, gz, gs, if_true, if_false, Bool.false_eq_true, Bool.not_true, Bool.not_false, Nat.add_zero, Nat.zero_add, Nat.reduceAdd]
  refine wpPi_move _ rfl rfl ?_
  simp only [pl, pn, el, ec, sz, ss, gz, gs, if_true, if_false, Bool.false_eq_true, Bool.not_true, Bool.not_false, Nat.add_zero, Nat.zero_add, Nat.reduceAdd]
  refine wpPi_val rfl (fun w' hS => exec_loadA 38 _ (by rfl) b3 0 (by rfl) (idCells R) (hB8.keep hS id) _ Try.underlying38 rfl 32 (by kernel_rfl) hRr) ?_
  simp only [pl, pn, el, ec, sz, ss, gz, gs, if_true, if_false, Bool.false_eq_true, Bool.not_true, Bool.not_false, Nat.add_zero, Nat.zero_add, Nat.reduceAdd]
  refine wpPi_sliceArr 38 5 _ _ _ 32 rfl rfl rfl Try.underlying38 (by kernel_rfl) ?_
  simp only [pl, pn, el, ec, sz, ss, gz, gs, if_true, if_false, Bool.false_eq_true, Bool.not_true, Bool.not_false, Nat.add_zero, Nat.zero_add, Nat.reduceAdd]
  refine wpPi_sliceArr 38 5 _ _ _ 32 rfl rfl rfl Try.underlying38 (by kernel_rfl) ?_
  simp only [pl, pn, el, ec, sz, ss, gz, gs, if_true, if_false, Bool.false_eq_true, Bool.not_true, Bool.not_false, Nat.add_zero, Nat.zero_add, Nat.reduceAdd]
  refine wpPi_nil ?_
  refine planQ_normal ?_
  refine wpPlan_one rfl (fun K hK => ?_)
  simp only [Array.getD_eq_getD_getElem?, List.getElem?_toArray, List.getElem?_cons_succ, List.getElem?_cons_zero, Option.getD_some]
  refine wp_buildSlice1 33 5 _ (byteV 1) (.int .u8 0) 1 (by rfl) (by rfl) Try.underlying33 (by kernel_rfl) (by omega) (by omega) (by rfl) (fun wc hBc hmc hsc => ?_)
  have hbt : Bts wb.heap.size wc (.slice (some ⟨wb.heap.size, 0, none⟩) 1 1) [1] := owns_lit hBc
  have hSc := hSb.trans0 hmc
  have hsbc := hSb.size
  have hscc := hSc.size
  refine hK _ _ hSc ?_
  clear hK K
  try simp only [pl, pn, el, ec, sz, ss, gz, gs, if_true, if_false, Bool.false_eq_true, Bool.not_true, Bool.not_false, Nat.add_zero, Nat.zero_add, Nat.reduceAdd]
  refine wpPlan_one rfl (fun K hK => ?_)
  simp only [Array.getD_eq_getD_getElem?, List.getElem?_toArray, List.getElem?_cons_succ, List.getElem?_cons_zero, Option.getD_some]
  refine wp_bytes _ _ (by rfl) wb.heap.size _ [1] (by rfl) hbt _ (shaL [97]) (by rfl) (by have := (hsk.keep0 hSc).bsrc; rwa [hkl] at this ⊢) (by rw [hkl]; simp) (by have := hmc.size; omega) (fun vd wd hbd hmd => ?_)
  have hSd : Mod NoB w16 wd := hSc.trans hmd (fun k hk e => by have := (hbt.lt e).1; omega)
  refine hK _ _ hSd ?_
  clear hK K
  try simp only [pl, pn, el, ec, sz, ss, gz, gs, if_true, if_false, Bool.false_eq_true, Bool.not_true, Bool.not_false, Nat.add_zero, Nat.zero_add, Nat.reduceAdd]
  refine wpPlan_one rfl (fun K hK => ?_)
  simp only [Array.getD_eq_getD_getElem?, List.getElem?_toArray, List.getElem?_cons_succ, List.getElem?_cons_zero, Option.getD_some]
  refine wp_bytes _ _ (by rfl) wb.heap.size _ _ (by rfl) hbd _ (shaL [120]) (by rfl) (by have := (hsv.keep0 hSd).bsrc; rwa [hvl] at this ⊢) (by rw [hvl, List.length_append, hkl]; simp) (by have := hmc.size; have := hmd.size; omega) (fun ve we hbe hme => ?_)
  have hSe : Mod NoB w16 we := hSd.trans hme (fun k hk e => by have := (hbd.lt e).1; omega)
  refine hK _ _ hSe ?_
  clear hK K
  try simp only [pl, pn, el, ec, sz, ss, gz, gs, if_true, if_false, Bool.false_eq_true, Bool.not_true, Bool.not_false, Nat.add_zero, Nat.zero_add, Nat.reduceAdd]
  refine wpPlan_one rfl (fun K hK => ?_)
  simp only [Array.getD_eq_getD_getElem?, List.getElem?_toArray, List.getElem?_cons_succ, List.getElem?_cons_zero, Option.getD_some]
  refine wp_enterQ (run_call 23 [.tmp 41] _ rfl _ Try.func23 rfl (by kernel_rfl) [ve] rfl _) (shaSum_any hbe.sl (by rw [List.length_append, List.length_append, hkl, hvl]; simp)) ?_
  rintro e wf ⟨rfl, hmf⟩
  have hSf := hSe.trans0 hmf
  have heR : shaL ([1] ++ shaL [97] ++ shaL [120]) = R := by rw [← HR.out, List.append_assoc]; rfl
  rw [heR]
  refine ⟨_, rfl, hK _ _ hSf ?_⟩
  clear hK K
  try simp only [pl, pn, el, ec, sz, ss, gz, gs, if_true, if_false, Bool.false_eq_true, Bool.not_true, Bool.not_false, Nat.add_zero, Nat.zero_add, Nat.reduceAdd]
  refine wpPlan_seg ?_
  simp only [List.map_cons, List.map_nil, Array.getD_eq_getD_getElem?, List.getElem?_toArray, List.getElem?_cons_succ, List.getElem?_cons_zero, Option.getD_some]
  refine wpPi_val rfl (fun w' hS => exec_eql_id _ _ _ _ rfl R R rfl rfl 32 5 Try.underlying38 Try.underlying5 (by kernel_rfl) (by kernel_rfl) hRl hRl true (decide_eq_true rfl)) ?_
  simp only [pl, pn, el, ec, sz, ss, gz, gs, if_true, if_false, Bool.false_eq_true, Bool.not_true, Bool.not_false, Nat.add_zero, Nat.zero_add, Nat.reduceAdd]
  refine wpPi_pick _ _ _ _ rfl rfl rfl ?_
  simp only [pl, pn, el, ec, sz, ss, gz, gs, if_true, if_false, Bool.false_eq_true, Bool.not_true, Bool.not_false, Nat.add_zero, Nat.zero_add, Nat.reduceAdd]
  refine wpPi_move _ rfl rfl ?_
  simp only [pl, pn, el, ec, sz, ss, gz, gs, if_true, if_false, Bool.false_eq_true, Bool.not_true, Bool.not_false, Nat.add_zero, Nat.zero_add, Nat.reduceAdd]
  refine wpPi_nil ?_
  refine planQ_normal ?_
  refine wpPlan_dep [(46, (fun v w' => ∃ cs, v = .agg cs ∧ EntC w' Ever cs eAX)), (47, (fun v w' => Es false w' Ever v [eAX])), (48, (fun v w' => ∃ cs, v = .agg cs ∧ EntC w' Ever cs eAY)), (49, (fun v w' => Es false w' Ever v [eAY])), (50, (fun v w' => Txt false w' Ever v [sA]))] [(23, 46, []), (24, 47, [46]), (25, 48, []), (26, 49, [48]), (27, 50, [])] ?hF ?hS (by decide) (by kernel_rfl) (by kernel_rfl) (by kernel_rfl) ?hw ?hend ?hop
  case hF =>
    intro x hx
    simp only [List.mem_cons, List.not_mem_nil, or_false] at hx
    rcases hx with rfl | rfl | rfl | rfl | rfl
    · exact entF_keep eAX
    · exact esF_keep [eAX]
    · exact entF_keep eAY
    · exact esF_keep [eAY]
    · exact txtF_keep [sA]
  case hS => exact (fun _ hm => hSf.trans0 hm)
  case hw =>
    intro q hq
    simp only [List.mem_cons, List.not_mem_nil, or_false] at hq
    rcases hq with rfl | rfl | rfl | rfl | rfl <;> rfl
  case hop =>
    intro q hq ps w1 hm hps hds hnd hpn K hK
    simp only [List.mem_cons, List.not_mem_nil, or_false] at hq
    rcases hq with rfl | rfl | rfl | rfl | rfl
    · simp only [depF, Nat.reduceEqDiff, if_true, if_false, reduceIte] at hK
      simp only [Array.getD_eq_getD_getElem?, List.getElem?_toArray, List.getElem?_cons_succ, List.getElem?_cons_zero, Option.getD_some]
      clear hps hds
      refine wp_enterQ (run_call 16 [.const (.string ⟨#[97]⟩), .const (.string ⟨#[120]⟩)] _ rfl _ Try.func16 rfl (by kernel_rfl) [.string ⟨#[97]⟩, .string ⟨#[120]⟩] rfl _) (lawOf_any ⟨#[97]⟩ ⟨#[120]⟩ (by decide) _) ?_
      rintro e wg ⟨cs, rfl, hec, hmg⟩
      exact ⟨_, rfl, hK _ _ hmg ⟨cs, rfl, hec⟩⟩
    · simp only [depF, Nat.reduceEqDiff, if_true, if_false, reduceIte] at hK
      simp only [Array.getD_eq_getD_getElem?, List.getElem?_toArray, List.getElem?_cons_succ, List.getElem?_cons_zero, Option.getD_some]
      obtain ⟨v46, hv46⟩ := hds 46 (by simp)
      have hf46 := hps (46, v46) hv46
      simp only [depF, Nat.reduceEqDiff, if_true, if_false, reduceIte] at hf46
      clear hps hds
      obtain ⟨cs, rfl, hec⟩ := hf46
      refine wp_buildSlice1 22 35 _ (.agg cs) (.agg #[.string ⟨#[]⟩, .slice none 0 0]) 2 (by rfl) (puts_get hv46 hnd (of_decide_eq_true (by rfl))) Try.underlying22 entry_i2 (by omega) (by omega) hec.size (fun wg hBg hmg hsg => ?_)
      exact hK _ _ hmg (es_one hBg (hec.keep hmg (fun _ _ => id)))
    · simp only [depF, Nat.reduceEqDiff, if_true, if_false, reduceIte] at hK
      simp only [Array.getD_eq_getD_getElem?, List.getElem?_toArray, List.getElem?_cons_succ, List.getElem?_cons_zero, Option.getD_some]
      clear hps hds
      refine wp_enterQ (run_call 16 [.const (.string ⟨#[97]⟩), .const (.string ⟨#[121]⟩)] _ rfl _ Try.func16 rfl (by kernel_rfl) [.string ⟨#[97]⟩, .string ⟨#[121]⟩] rfl _) (lawOf_any ⟨#[97]⟩ ⟨#[121]⟩ (by decide) _) ?_
      rintro e wg ⟨cs, rfl, hec, hmg⟩
      exact ⟨_, rfl, hK _ _ hmg ⟨cs, rfl, hec⟩⟩
    · simp only [depF, Nat.reduceEqDiff, if_true, if_false, reduceIte] at hK
      simp only [Array.getD_eq_getD_getElem?, List.getElem?_toArray, List.getElem?_cons_succ, List.getElem?_cons_zero, Option.getD_some]
      obtain ⟨v48, hv48⟩ := hds 48 (by simp)
      have hf48 := hps (48, v48) hv48
      simp only [depF, Nat.reduceEqDiff, if_true, if_false, reduceIte] at hf48
      clear hps hds
      obtain ⟨cs, rfl, hec⟩ := hf48
      refine wp_buildSlice1 22 35 _ (.agg cs) (.agg #[.string ⟨#[]⟩, .slice none 0 0]) 2 (by rfl) (puts_get hv48 hnd (of_decide_eq_true (by rfl))) Try.underlying22 entry_i2 (by omega) (by omega) hec.size (fun wg hBg hmg hsg => ?_)
      exact hK _ _ hmg (es_one hBg (hec.keep hmg (fun _ _ => id)))
    · simp only [depF, Nat.reduceEqDiff, if_true, if_false, reduceIte] at hK
      simp only [Array.getD_eq_getD_getElem?, List.getElem?_toArray, List.getElem?_cons_succ, List.getElem?_cons_zero, Option.getD_some]
      clear hps hds
      refine wp_buildSlice1 26 9 _ (.string sA) (.string ⟨#[]⟩) 1 (by rfl) (by rfl) Try.underlying26 str_i2 (by omega) (by omega) rfl (fun wg hBg hmg hsg => ?_)
      exact hK _ _ hmg (txt_one hBg)
  case hend =>
    intro vals wz hvl hGM hJ
    obtain ⟨v46, vals1, rfl, hvl1⟩ := vals_cons hvl
    obtain ⟨v47, vals2, rfl, hvl2⟩ := vals_cons hvl1
    obtain ⟨v48, vals3, rfl, hvl3⟩ := vals_cons hvl2
    obtain ⟨v49, vals4, rfl, hvl4⟩ := vals_cons hvl3
    obtain ⟨v50, vals5, rfl, hvl5⟩ := vals_cons hvl4
    obtain rfl := List.eq_nil_of_length_eq_zero hvl5
    simp only [List.map_cons, List.map_nil, List.zip_cons_cons, List.zip_nil_left] at hJ ⊢
    have h46 := hJ (46, v46) (by simp)
    simp only [depF, Nat.reduceEqDiff, if_true, if_false, reduceIte] at h46
    have h47 := hJ (47, v47) (by simp)
    simp only [depF, Nat.reduceEqDiff, if_true, if_false, reduceIte] at h47
    have h48 := hJ (48, v48) (by simp)
    simp only [depF, Nat.reduceEqDiff, if_true, if_false, reduceIte] at h48
    have h49 := hJ (49, v49) (by simp)
    simp only [depF, Nat.reduceEqDiff, if_true, if_false, reduceIte] at h49
    have h50 := hJ (50, v50) (by simp)
    simp only [depF, Nat.reduceEqDiff, if_true, if_false, reduceIte] at h50
    clear hJ hvl hvl1 hvl2 hvl3 hvl4 hvl5
    simp only [puts]
    try simp only [pl, pn, el, ec, sz, ss, gz, gs, if_true, if_false, Bool.false_eq_true, Bool.not_true, Bool.not_false, Nat.add_zero, Nat.zero_add, Nat.reduceAdd]
    refine wpPlan_one rfl (fun K hK => ?_)
    simp only [Array.getD_eq_getD_getElem?, List.getElem?_toArray, List.getElem?_cons_succ, List.getElem?_cons_zero, Option.getD_some]
    refine wp_enterQ (run_call 19 [.tmp 47, .tmp 49, .const (.int .i64 1), .tmp 50] _ rfl _ Try.func19 rfl (by kernel_rfl) [v47, v49, .int .i64 1, v50] rfl _) (differs_any h47 h49 h50 (short_one (by decide) (by decide)) (short_one (by decide) (by decide)) (by simp) (by simp) 1) ?_
    rintro e wh ⟨rfl, hmh⟩
    rw [HDF.out]
    have hSh := (hSf.trans0 hGM).trans0 hmh
    refine ⟨_, rfl, hK _ _ hSh ?_⟩
    clear hK K
    try simp only [pl, pn, el, ec, sz, ss, gz, gs, if_true, if_false, Bool.false_eq_true, Bool.not_true, Bool.not_false, Nat.add_zero, Nat.zero_add, Nat.reduceAdd]
    refine wpPlan_seg ?_
    simp only [List.map_cons, List.map_nil, Array.getD_eq_getD_getElem?, List.getElem?_toArray, List.getElem?_cons_succ, List.getElem?_cons_zero, Option.getD_some]
    refine wpPi_pick _ _ _ _ rfl rfl rfl ?_
    simp only [pl, pn, el, ec, sz, ss, gz, gs, if_true, if_false, Bool.false_eq_true, Bool.not_true, Bool.not_false, Nat.add_zero, Nat.zero_add, Nat.reduceAdd]
    refine wpPi_assign _ rfl rfl ?_
    simp only [pl, pn, el, ec, sz, ss, gz, gs, if_true, if_false, Bool.false_eq_true, Bool.not_true, Bool.not_false, Nat.add_zero, Nat.zero_add, Nat.reduceAdd]
    refine wpPi_nil ?_
    refine planQ_normal ?_
    refine wpPlan_fin ?_
    have hMr := hMw.trans0 hSh
    clear hSh hSf hSe hSd hSc hSb hSa hS
    go_wp2
    go_ret
    exact ⟨rfl, hMr⟩
end Go.Proofs.Ytchkikmmcmjcgaa

/- A path's sides in memory; what the deferred closure appends. -/
namespace Go.Proofs.Ytchkikmmcmjcgaa
set_option linter.unusedSimpArgs false
set_option linter.unusedVariables false
set_option linter.unnecessarySimpa false
set_option linter.unusedSectionVars false
open Go.RowKit Go.Shelf


abbrev SideL := Bool × List UInt8
def fit32 (x : List UInt8) : List UInt8 := (x ++ List.replicate 32 0).take 32
theorem fit32_len (x : List UInt8) : (fit32 x).length = 32 := by simp [fit32]
theorem fit32_eq {x : List UInt8} (h : x.length = 32) : fit32 x = x := by unfold fit32; rw [List.take_append_of_le_length (by omega), List.take_of_length_le (by omega)]
def sideEnc (s : SideL) : List Value := Value.bool s.1 :: (fit32 s.2).map byteV
theorem sideEnc_len (s : SideL) : (sideEnc s).length = 33 := by simp [sideEnc, fit32_len]
theorem sideEnc_one (s : SideL) : ∀ c ∈ sideEnc s, c.oneCell' = true := by
  intro c hc
  simp only [sideEnc, List.mem_cons, List.mem_map] at hc
  rcases hc with rfl | ⟨b, _, rfl⟩ <;> rfl
def sideCells (s : SideL) : Array Value := (sideEnc s).toArray
theorem sideCells_size (s : SideL) : (sideCells s).size = 33 := by simp [sideCells, sideEnc_len]
theorem sideCells_one (s : SideL) : ∀ c ∈ sideCells s, c.oneCell' = true := fun c hc => sideEnc_one s c (by simpa [sideCells] using hc)
theorem sideZ : (Try.prog.info? 84).bind (·.zero) = some (.agg (sideCells (false, zeroID))) := by kernel_rfl
theorem side_i : (Try.prog.info? 84).map (fun i => (i.zero, i.size, i.bytes)) = some (some (.agg (sideCells (false, zeroID))), 33, 33) := by kernel_rfl
theorem side_i2 : (Try.prog.info? 84).map (fun i => (i.zero, i.size)) = some (some (.agg (sideCells (false, zeroID))), 33) := by kernel_rfl
theorem sidePlaces : placesOf Try.prog 84 = some [(0, 1), (1, 32)] := by kernel_rfl
theorem put_side {b : Bool} {y x : List UInt8} (hx : x.length = 32) : putRow (sideCells (b, y)) 1 (idCells x) = sideCells (b, x) := by
  have h1 := fit32_len y
  simp only [putRow, sideCells, sideEnc, idCells, List.size_toArray, List.length_map, hx]
  congr 1
  have h2 : (Value.bool b :: (fit32 y).map byteV).drop (1 + 32) = [] := by apply List.drop_of_length_le; simp [h1]
  rw [h2, List.append_nil, fit32_eq hx]
  rfl
theorem built_side0 (x : List UInt8) (hx : x.length = 32) : Try.prog.built 84 [(1, .agg (idCells x))] = some (sideCells (false, x)) := by
  rw [built_struct sideZ sidePlaces, fill_cons (off := 1) (size := 32) rfl (by simp [Value.cells, idCells_size, hx]) (by rw [sideCells_size]; omega), fill_nil]
  show some (putRow _ _ (idCells x)) = _
  rw [put_side hx]
theorem built_side1 (x : List UInt8) (hx : x.length = 32) : Try.prog.built 84 [(0, .bool true), (1, .agg (idCells x))] = some (sideCells (true, x)) := by
  have e : putRow (sideCells (false, zeroID)) 0 (Value.bool true).cells = sideCells (true, zeroID) := by kernel_rfl
  rw [built_struct sideZ sidePlaces, fill_cons (off := 0) (size := 1) rfl rfl (by rw [sideCells_size]; omega), e, fill_cons (off := 1) (size := 32) rfl (by simp [Value.cells, idCells_size, hx]) (by rw [sideCells_size]; omega), fill_nil]
  show some (putRow _ _ (idCells x)) = _
  rw [put_side hx]
theorem wp_gatB {α : Type} {P : Program} {o : Oper} {a : Act} {w : World} {K : Act → World → Prop} {Q : Exit → Act → World → Prop} (enc : α → List Value) (s x : Operand) (t e : TypeId) (z : Value) (k bytes : Nat) (ho : o.op = .call { callee := .builtin .append, args := #[s, x], argTypes := #[t, t] })
    (ht : P.underlying t = some (.slice e)) (hi : (P.info? e).map (fun i => (i.zero, i.size, i.bytes)) = some (some z, k, bytes)) (hzs : z.cells.size = k) (hk0 : 0 < k) (h1 : ∀ x, ∀ c ∈ enc x, c.oneCell' = true)
    (base : Nat) (v : Value) (l : List α) (hs : a.eval s = v) (hown : Gat enc e k base w v l) (u : Value) (m : List α) (hx : a.eval x = u) (hsrc : Src w k u m.length (m.flatMap enc)) (h63 : l.length + m.length ≤ maxLen) (hlen : (l.length + m.length) * bytes ≤ 140737488355328) (hbase : base ≤ w.heap.size)
    (h : ∀ v' w', Gat enc e k base w' v' (l ++ m) → Mod (fun q => v.ownBlock = some q) w w' → (∀ g, v'.ownBlock = some g → v.ownBlock = some g ∨ w.heap.size ≤ g) → K (a.put o.dst v') w') : o.wp P a w K Q := by
  refine wp_append s x t e z k bytes ho ht hi hzs hk0 base v l.length _ hs hown u m.length _ hx hsrc (fun c hc => ?_) h63 hlen hbase (fun v' w' ho' hg hv => ?_)
  · obtain ⟨y, _, hy⟩ := List.mem_flatMap.1 hc
    exact h1 y c hy
  · refine h v' w' ?_ ((Mod.refl _ _).grown hg (fun k e _ => e)) (fun g hg' => ?_)
    · unfold Gat
      rw [List.length_append, List.flatMap_append]
      exact ho'
    · rcases hv with hv | hv
      · exact .inl (by rw [← hv]; exact hg')
      · rw [hv] at hg'; cases hg'; exact .inr (Nat.le_refl _)
/-- What out holds behind a call that has appended some sides. -/
def OutR (w : World) (bo : Nat) (v : Value) (ps : List SideL) (w' : World) : Prop := ∃ v', w'.heap[bo]? = some (.cells #[v'] 41 (0, 0)) ∧ Gat sideEnc 84 33 0 w' v' ps ∧ (∀ g, v'.ownBlock = some g → v.ownBlock = some g ∨ w.heap.size ≤ g) ∧ Mod (fun k => k = bo ∨ v.ownBlock = some k) w w'
theorem own_ne {w : World} {v : Value} {ps : List SideL} {b : Nat} {cs : Array Value} {T : TypeId} (hg : Gat sideEnc 84 33 0 w v ps) (hb : w.heap[b]? = some (.cells cs T (0, 0))) (hT : T ≠ 84) : v.ownBlock ≠ some b := by
  intro e
  rcases hg.2 with ⟨rfl, h0⟩ | ⟨g, cap, cur, rfl, -, hg', -⟩
  · cases e
  · cases e
    rw [hg'] at hb
    cases hb
    exact hT rfl
set_option maxRecDepth 10000 in
theorem pathD_any {w : World} {bo b7 b10 : Nat} {v : Value} {ps : List SideL} (s : SideL) (hbo : w.heap[bo]? = some (.cells #[v] 41 (0, 0))) (hg : Gat sideEnc 84 33 0 w v ps) (h7 : w.heap[b7]? = some (.cells #[.pointer (some ⟨bo, 0, none⟩)] 81 (0, 0)))
    (h10 : w.heap[b10]? = some (.cells (sideCells s) 84 (0, 0))) (hne : v.ownBlock ≠ some b10) (hlen : ps.length ≤ 1000000) (u : FrameMode) :
    CallsD Try.prog 63 #[.pointer (some ⟨b7, 0, none⟩), .pointer (some ⟨b10, 0, none⟩)] u w (fun e u' w' => u' = u ∧ e = .returned (.tuple #[]) ∧ OutR w bo v (ps ++ [s]) w') := by
  have ho7 := own_ne hg h7 (by decide)
  have hoo := own_ne hg hbo (by decide)
  have h7o : b7 ≠ bo := fun e => by subst e; rw [h7] at hbo; cases hbo
  have h10o : b10 ≠ bo := fun e => by
    subst e
    have h := Option.some.inj (h10.symm.trans hbo)
    injection h with _ hT _
    exact absurd hT (by decide)
  have hc7 := CellsAt.one.1 (CellsAt.whole h7)
  have hco := CellsAt.one.1 (CellsAt.whole hbo)
  have hc10 := CellsAt.whole h10
  have hss := sideCells_size s
  have HG := Lib.hid hg
  have hlt : bo < w.heap.size := (Array.getElem?_eq_some_iff.1 hbo).1
  have hv1 : v.oneCell' = true := owns_one hg
  obtain ⟨C, hC⟩ : ∃ C, sideCells s = C := ⟨_, rfl⟩
  have HC := Lib.hid hC
  rw [hC] at hss hc10
  clear hg h7 h10 hC
  go_enter_d Try.func63, Try.ntmps63
  go_upto_region 0 with (fail)
  have hT : Mod NoB w w.drew := (Mod.refl _ _).drew
  have hS : Mod (fun k => k = bo ∨ v.ownBlock = some k) w w.drew := (Mod.refl _ _).drew
  refine wp_region_tree [(0, 0), (1, 0), (2, 3), (4, 0)] 2 [(6, 1), (7, 3), (8, 1)] [] (fun w' => Mod (fun k => k = bo ∨ v.ownBlock = some k) w w') #[true, true, true, false, true, false, false, false, false] (by kernel_rfl) (by kernel_rfl) (by kernel_rfl) (by kernel_rfl) (by kernel_rfl) (fun _ _ _ _ hd h => ⟨hd.trans h.1, h.2⟩) hS ?_
  simp only [List.map_cons, List.map_nil, List.getD_cons_zero, List.getD_cons_succ]
  refine wpPi_val rfl (fun w' hS => exec_load1 81 _ (by rfl) b7 0 (by rfl) _ (hS.cell (fun h => h.elim h7o ho7) hc7) _ Try.underlying81 rfl) ?_
  simp only [pl, pn, el, ec, sz, ss, gz, gs, if_true, if_false, Bool.false_eq_true, Bool.not_true, Bool.not_false, Nat.add_zero, Nat.zero_add, Nat.reduceAdd]
  refine wpPi_val rfl (fun w' hS => exec_load1 81 _ (by rfl) b7 0 (by rfl) _ (hS.cell (fun h => h.elim h7o ho7) hc7) _ Try.underlying81 rfl) ?_
  simp only [pl, pn, el, ec, sz, ss, gz, gs, if_true, if_false, Bool.false_eq_true, Bool.not_true, Bool.not_false, Nat.add_zero, Nat.zero_add, Nat.reduceAdd]
  refine wpPi_nilCheck _ _ rfl rfl rfl ?_
  simp only [pl, pn, el, ec, sz, ss, gz, gs, if_true, if_false, Bool.false_eq_true, Bool.not_true, Bool.not_false, Nat.add_zero, Nat.zero_add, Nat.reduceAdd]
  refine wpPi_val rfl (fun w' hS => exec_loadA 84 _ (by rfl) b10 0 (by rfl) C (hc10.keep hS (fun h => h.elim h10o hne)) _ Try.underlying84 rfl 33 (by kernel_rfl) hss) ?_
  simp only [pl, pn, el, ec, sz, ss, gz, gs, if_true, if_false, Bool.false_eq_true, Bool.not_true, Bool.not_false, Nat.add_zero, Nat.zero_add, Nat.reduceAdd]
  refine wpPi_nil ?_
  refine wpTree_part [3, 5] (by kernel_rfl) ?_
  simp only [List.forall_mem_cons, List.not_mem_nil, false_implies, implies_true, and_true]
  refine ⟨?_, ?_⟩
  · intro K hK
    simp only [List.getElem?_toArray, Array.getD_eq_getD_getElem?, List.getElem?_cons_succ, List.getElem?_cons_zero, Option.getD_some]
    refine wp_exec (exec_load1 41 _ (by rfl) bo 0 (by rfl) v (hT.cell id hco) _ Try.underlying41 rfl) ?_
    refine hK _ _ (hT.mono fun _ _ h => h.elim) ?_
    clear hK K
    try simp only [pl, pn, el, ec, sz, ss, gz, gs, if_true, if_false, Bool.false_eq_true, Bool.not_true, Bool.not_false, Nat.add_zero, Nat.zero_add, Nat.reduceAdd]
    refine wpTree_part [5] (by kernel_rfl) ?_
    simp only [List.forall_mem_cons, List.not_mem_nil, false_implies, implies_true, and_true]
    intro K hK
    simp only [List.getElem?_toArray, Array.getD_eq_getD_getElem?, List.getElem?_cons_succ, List.getElem?_cons_zero, Option.getD_some]
    refine wp_buildSlice1 41 84 _ (.agg C) (.agg (sideCells (false, zeroID))) 33 (by rfl) (by rfl) Try.underlying41 side_i2 (by omega) (by omega) hss (fun w7 hB7 hm7 hs7 => ?_)
    replace hB7 : w7.heap[w.heap.size]? = some (.cells (sideEnc s).toArray 84 (0, 0)) := by rw [← HC.out] at hB7; exact hB7
    replace hT := hT.trans0 hm7
    refine hK _ _ (hT.mono fun _ _ h => h.elim) ?_
    clear hK K
    try simp only [pl, pn, el, ec, sz, ss, gz, gs, if_true, if_false, Bool.false_eq_true, Bool.not_true, Bool.not_false, Nat.add_zero, Nat.zero_add, Nat.reduceAdd]
    refine wpTree_done ?_
    try simp only [List.map_cons, List.map_nil, List.getD_cons_zero, List.getD_cons_succ]
    try simp only [pl, pn, el, ec, sz, ss, gz, gs, if_true, if_false, Bool.false_eq_true, Bool.not_true, Bool.not_false, Nat.add_zero, Nat.zero_add, Nat.reduceAdd]
    refine wpPi_do rfl (fun K hK => ?_)
    refine wp_gatB sideEnc _ _ 41 84 (.agg (sideCells (false, zeroID))) 33 33 (by rfl) Try.underlying41 side_i (by kernel_rfl) (by omega) sideEnc_one 0 _ _ (by rfl) (HG.out.keep0 hT) (.slice (some ⟨w.heap.size, 0, none⟩) 1 1) [s] (by rfl) (src_lit (enc := sideEnc) (x := s) (e := 84) sideEnc_len hB7) (by simp only [List.length_singleton]; unfold maxLen; omega) (by simp only [List.length_singleton]; omega) (Nat.zero_le _) (fun v8 w8 hg8 hm8 hn8 => ?_)
    have hM8 : Mod (fun k => v.ownBlock = some k) w w8 := (hT.mono (fun _ _ h => h.elim)).trans hm8 (fun _ _ h => h)
    have hv8 : v8.oneCell' = true := owns_one hg8
    have hbo8 := hM8.obj hoo hbo
    have hsz7 := hT.size
    refine hK _ _ (hM8.mono fun _ _ h => .inr h) ?_
    clear hK K
    try simp only [pl, pn, el, ec, sz, ss, gz, gs, if_true, if_false, Bool.false_eq_true, Bool.not_true, Bool.not_false, Nat.add_zero, Nat.zero_add, Nat.reduceAdd]
    refine wpPi_nilCheck _ _ rfl rfl rfl ?_
    simp only [pl, pn, el, ec, sz, ss, gz, gs, if_true, if_false, Bool.false_eq_true, Bool.not_true, Bool.not_false, Nat.add_zero, Nat.zero_add, Nat.reduceAdd]
    refine wpPi_do rfl (fun K hK => ?_)
    refine wp_store1 41 _ _ bo 0 v8 (by rfl) (by rfl) (by rfl) hv8 (by kernel_rfl) _ _ hbo8 (by simp) (fun w9 hB9 hm9 => ?_)
    replace hB9 : w9.heap[bo]? = some (.cells #[v8] 41 (0, 0)) := hB9
    have hM9 : Mod (fun k => k = bo ∨ v.ownBlock = some k) w w9 := (hM8.mono fun _ _ h => .inr h).trans hm9 (fun _ _ h => .inl h)
    refine hK _ _ hM9 ?_
    clear hK K
    try simp only [pl, pn, el, ec, sz, ss, gz, gs, if_true, if_false, Bool.false_eq_true, Bool.not_true, Bool.not_false, Nat.add_zero, Nat.zero_add, Nat.reduceAdd]
    refine wpPi_nil ?_
    have hg9 := hg8.keep hm9 (fun q hq e => by
      subst e
      rcases hn8 _ hq with h | h
      · exact hoo h
      · have h' : w.heap.size ≤ _ := Nat.le_trans hsz7 h
        omega)
    go_end0
    exact ⟨rfl, v8, hB9, hg9, fun g hg => (hn8 g hg).imp id fun h => by have := hsz7; omega, hM9⟩
  · intro K hK
    simp only [List.getElem?_toArray, Array.getD_eq_getD_getElem?, List.getElem?_cons_succ, List.getElem?_cons_zero, Option.getD_some]
    refine wp_buildSlice1 41 84 _ (.agg C) (.agg (sideCells (false, zeroID))) 33 (by rfl) (by rfl) Try.underlying41 side_i2 (by omega) (by omega) hss (fun w7 hB7 hm7 hs7 => ?_)
    replace hB7 : w7.heap[w.heap.size]? = some (.cells (sideEnc s).toArray 84 (0, 0)) := by rw [← HC.out] at hB7; exact hB7
    replace hT := hT.trans0 hm7
    refine hK _ _ (hT.mono fun _ _ h => h.elim) ?_
    clear hK K
    try simp only [pl, pn, el, ec, sz, ss, gz, gs, if_true, if_false, Bool.false_eq_true, Bool.not_true, Bool.not_false, Nat.add_zero, Nat.zero_add, Nat.reduceAdd]
    refine wpTree_part [3] (by kernel_rfl) ?_
    simp only [List.forall_mem_cons, List.not_mem_nil, false_implies, implies_true, and_true]
    intro K hK
    simp only [List.getElem?_toArray, Array.getD_eq_getD_getElem?, List.getElem?_cons_succ, List.getElem?_cons_zero, Option.getD_some]
    refine wp_exec (exec_load1 41 _ (by rfl) bo 0 (by rfl) v (hT.cell id hco) _ Try.underlying41 rfl) ?_
    refine hK _ _ (hT.mono fun _ _ h => h.elim) ?_
    clear hK K
    try simp only [pl, pn, el, ec, sz, ss, gz, gs, if_true, if_false, Bool.false_eq_true, Bool.not_true, Bool.not_false, Nat.add_zero, Nat.zero_add, Nat.reduceAdd]
    refine wpTree_done ?_
    try simp only [List.map_cons, List.map_nil, List.getD_cons_zero, List.getD_cons_succ]
    try simp only [pl, pn, el, ec, sz, ss, gz, gs, if_true, if_false, Bool.false_eq_true, Bool.not_true, Bool.not_false, Nat.add_zero, Nat.zero_add, Nat.reduceAdd]
    refine wpPi_do rfl (fun K hK => ?_)
    refine wp_gatB sideEnc _ _ 41 84 (.agg (sideCells (false, zeroID))) 33 33 (by rfl) Try.underlying41 side_i (by kernel_rfl) (by omega) sideEnc_one 0 _ _ (by rfl) (HG.out.keep0 hT) (.slice (some ⟨w.heap.size, 0, none⟩) 1 1) [s] (by rfl) (src_lit (enc := sideEnc) (x := s) (e := 84) sideEnc_len hB7) (by simp only [List.length_singleton]; unfold maxLen; omega) (by simp only [List.length_singleton]; omega) (Nat.zero_le _) (fun v8 w8 hg8 hm8 hn8 => ?_)
    have hM8 : Mod (fun k => v.ownBlock = some k) w w8 := (hT.mono (fun _ _ h => h.elim)).trans hm8 (fun _ _ h => h)
    have hv8 : v8.oneCell' = true := owns_one hg8
    have hbo8 := hM8.obj hoo hbo
    have hsz7 := hT.size
    refine hK _ _ (hM8.mono fun _ _ h => .inr h) ?_
    clear hK K
    try simp only [pl, pn, el, ec, sz, ss, gz, gs, if_true, if_false, Bool.false_eq_true, Bool.not_true, Bool.not_false, Nat.add_zero, Nat.zero_add, Nat.reduceAdd]
    refine wpPi_nilCheck _ _ rfl rfl rfl ?_
    simp only [pl, pn, el, ec, sz, ss, gz, gs, if_true, if_false, Bool.false_eq_true, Bool.not_true, Bool.not_false, Nat.add_zero, Nat.zero_add, Nat.reduceAdd]
    refine wpPi_do rfl (fun K hK => ?_)
    refine wp_store1 41 _ _ bo 0 v8 (by rfl) (by rfl) (by rfl) hv8 (by kernel_rfl) _ _ hbo8 (by simp) (fun w9 hB9 hm9 => ?_)
    replace hB9 : w9.heap[bo]? = some (.cells #[v8] 41 (0, 0)) := hB9
    have hM9 : Mod (fun k => k = bo ∨ v.ownBlock = some k) w w9 := (hM8.mono fun _ _ h => .inr h).trans hm9 (fun _ _ h => .inl h)
    refine hK _ _ hM9 ?_
    clear hK K
    try simp only [pl, pn, el, ec, sz, ss, gz, gs, if_true, if_false, Bool.false_eq_true, Bool.not_true, Bool.not_false, Nat.add_zero, Nat.zero_add, Nat.reduceAdd]
    refine wpPi_nil ?_
    have hg9 := hg8.keep hm9 (fun q hq e => by
      subst e
      rcases hn8 _ hq with h | h
      · exact hoo h
      · have h' : w.heap.size ≤ _ := Nat.le_trans hsz7 h
        omega)
    go_end0
    exact ⟨rfl, v8, hB9, hg9, fun g hg => (hn8 g hg).imp id fun h => by have := hsz7; omega, hM9⟩
end Go.Proofs.Ytchkikmmcmjcgaa

/- (tree.leaves).path: the sides of a way, from the leaf up. -/
namespace Go.Proofs.Ytchkikmmcmjcgaa
set_option linter.unusedSimpArgs false
set_option linter.unusedVariables false
set_option linter.unnecessarySimpa false
set_option linter.unusedSectionVars false
open Go.RowKit Go.Shelf


theorem out_keep {w w1 w' : World} {bo : Nat} {v : Value} {ps qs : List SideL} (hg : Gat sideEnc 84 33 0 w v ps) (hm : Mod NoB w w1) (h : OutR w1 bo v qs w') : OutR w bo v qs w' := by
  obtain ⟨v', h1, h2, h3, h4⟩ := h
  have hs := hm.size
  exact ⟨v', h1, h2, fun g hg => (h3 g hg).imp id fun h => Nat.le_trans hs h, (hm.mono fun _ _ h => h.elim).trans h4 (fun _ _ h => h)⟩
set_option maxRecDepth 10000 in
theorem path_none {w : World} {G : Nat → Prop} {vl v : Value} {l : List Leaf} {ps : List SideL} (hl : Ls w G vl l) (way : List UInt8) (i bo : Nat) (h2 : l.length < 2) (hbo : w.heap[bo]? = some (.cells #[v] 41 (0, 0))) (hg : Gat sideEnc 84 33 0 w v ps) :
    Calls Try.prog 42 #[vl, .agg (idCells way), .int .i64 (i : Int), .pointer (some ⟨bo, 0, none⟩)] w (fun e w' => e = .returned (.tuple #[]) ∧ OutR w bo v ps w') := by
  obtain ⟨ad, cap, rfl, -, -⟩ := Sl.at hl
  have hz : (l.length : Int) < 2 := by omega
  obtain ⟨C, hC⟩ : ∃ C, idCells way = C := ⟨_, rfl⟩
  rw [hC]
  clear hl hC
  go_enter_defers Try.func42, Try.ntmps42
  go_upto_region 0 with (fail)
  refine wp_region_seq [1, 1] (fun _ => True) (by rfl) (by rfl) trivial ?_
  simp only [List.zip_cons_cons, List.zip_nil_right]
  refine wpPi_do rfl (fun K hK => ?_)
  refine wp_box 38 _ _ (by rfl) (by rfl) (fun w1 hB1 hm1 hs1 => ?_)
  refine hK _ _ trivial ?_
  clear hK K
  try simp only [pl, pn, el, ec, sz, ss, gz, gs, if_true, if_false, Bool.false_eq_true, Bool.not_true, Bool.not_false, Nat.add_zero, Nat.zero_add, Nat.reduceAdd]
  refine wpPi_do rfl (fun K hK => ?_)
  refine wp_box 81 _ _ (by rfl) (by rfl) (fun w2 hB2 hm2 hs2 => ?_)
  refine hK _ _ trivial ?_
  clear hK K
  try simp only [pl, pn, el, ec, sz, ss, gz, gs, if_true, if_false, Bool.false_eq_true, Bool.not_true, Bool.not_false, Nat.add_zero, Nat.zero_add, Nat.reduceAdd]
  refine wpPi_nil ?_
  have hM := hm1.trans0 hm2
  clear hB1 hB2
  go_wp2
  exact ⟨_, results_none rfl _ _ _, rfl, out_keep hg hM ⟨v, hM.obj id hbo, hg.keep0 hM, fun g h => .inl h, Mod.refl _ _⟩⟩
set_option maxRecDepth 10000 in
set_option maxHeartbeats 2000000 in
theorem path_two (f i : Nat) (hi : f + 1 + i = 256) {w : World} {G : Nat → Prop} {vl v : Value} {l : List Leaf} {ps : List SideL} (hl : Ls w G vl l) (hp : Placed i l) (hlen : l.length ≤ 65536) (way : List UInt8) (hway : way.length = 32) (bo : Nat) (h2 : 2 ≤ l.length) (hbo : w.heap[bo]? = some (.cells #[v] 41 (0, 0))) (hg : Gat sideEnc 84 33 0 w v ps) (hps : ps.length + (f + 1) ≤ 1000000)
    (ih : ∀ (l' : List Leaf) (vl : Value) (w : World), Ls w (fun _ => True) vl l' → Placed (i + 1) l' → l'.length ≤ 65536 → w.heap[bo]? = some (.cells #[v] 41 (0, 0)) → Gat sideEnc 84 33 0 w v ps →
      Calls Try.prog 42 #[vl, .agg (idCells way), .int .i64 ((i + 1 : Nat) : Int), .pointer (some ⟨bo, 0, none⟩)] w (fun e w' => e = .returned (.tuple #[]) ∧ OutR w bo v (ps ++ pathL way f (i + 1) l') w')) :
    Calls Try.prog 42 #[vl, .agg (idCells way), .int .i64 (i : Int), .pointer (some ⟨bo, 0, none⟩)] w (fun e w' => e = .returned (.tuple #[]) ∧ OutR w bo v (ps ++ pathL way (f + 1) i l) w') := by
  rw [path_more h2]
  have HL := Lib.hid hl.bound
  have IH := Lib.hid ih
  have HP := Lib.hid hp
  have HG := Lib.hid hg
  have HBO := Lib.hid hbo
  obtain ⟨ad, cap, rfl, -, -⟩ := Sl.at hl
  have hz : ¬ (l.length : Int) < 2 := by omega
  have hsl := side_len i l
  have hpa := hp.side false
  have hpb := hp.side true
  have hda : (dig f (i + 1) (sideL false i l)).length = 32 := dig_len (by omega) hpa.lie
  have hdb : (dig f (i + 1) (sideL true i l)).length = 32 := dig_len (by omega) hpb.lie
  have hpl := path_len way f (i + 1) (sideL (bitAt way i) i l)
  have hmf : ∀ (fn : Fn) (first cap : Array Value) (w : World), (Instr.makeFunc fn first cap).run Try.prog w = .ok (.func fn first cap) w := fun _ _ _ _ => rfl
  have hsz32 : (idCells way).size = 32 := by rw [idCells_size, hway]
  obtain ⟨C, hC⟩ : ∃ C, idCells way = C := ⟨_, rfl⟩
  have HC := Lib.hid hC
  rw [hC] at hsz32 ⊢
  clear hl ih hp hg hbo hC
  go_enter_defers Try.func42, Try.ntmps42
  go_upto_region 0 with (fail)
  refine wp_region_seq [1, 1] (fun _ => True) (by rfl) (by rfl) trivial ?_
  simp only [List.zip_cons_cons, List.zip_nil_right]
  refine wpPi_do rfl (fun K hK => ?_)
  refine wp_box 38 _ _ (by rfl) (by rfl) (fun w1 hB1 hm1 hs1 => ?_)
  replace hB1 : w1.heap[w.heap.size]? = some (.cells C 38 (0, 0)) := hB1
  refine hK _ _ trivial ?_
  clear hK K
  try simp only [pl, pn, el, ec, sz, ss, gz, gs, if_true, if_false, Bool.false_eq_true, Bool.not_true, Bool.not_false, Nat.add_zero, Nat.zero_add, Nat.reduceAdd]
  refine wpPi_do rfl (fun K hK => ?_)
  refine wp_box 81 _ _ (by rfl) (by rfl) (fun w2 hB2 hm2 hs2 => ?_)
  replace hB2 : w2.heap[w1.heap.size]? = some (.cells #[.pointer (some ⟨bo, 0, none⟩)] 81 (0, 0)) := hB2
  replace hB1 := hm2.obj id hB1
  refine hK _ _ trivial ?_
  clear hK K
  try simp only [pl, pn, el, ec, sz, ss, gz, gs, if_true, if_false, Bool.false_eq_true, Bool.not_true, Bool.not_false, Nat.add_zero, Nat.zero_add, Nat.reduceAdd]
  refine wpPi_nil ?_
  have hM2 := hm1.trans0 hm2
  have hb5 : w.heap.size < w2.heap.size := by omega
  have hb7 : w1.heap.size < w2.heap.size := hs2
  have hb7' : w.heap.size ≤ w1.heap.size := by omega
  generalize hb5e : w.heap.size = b5 at *
  generalize w1.heap.size = b7 at *
  clear hm1 hm2
  go_upto_region 2 with (fail)
  refine wp_region_seq [3, 3, 1, 3, 3, 3, 3, 3] (fun _ => True) (by rfl) (by rfl) trivial ?_
  simp only [List.zip_cons_cons, List.zip_nil_right]
  refine wpPi_move _ rfl rfl ?_
  simp only [pl, pn, el, ec, sz, ss, gz, gs, if_true, if_false, Bool.false_eq_true, Bool.not_true, Bool.not_false, Nat.add_zero, Nat.zero_add, Nat.reduceAdd]
  refine wpPi_move _ rfl rfl ?_
  simp only [pl, pn, el, ec, sz, ss, gz, gs, if_true, if_false, Bool.false_eq_true, Bool.not_true, Bool.not_false, Nat.add_zero, Nat.zero_add, Nat.reduceAdd]
  refine wpPi_do rfl (fun K hK => ?_)
  refine wp_enterQ (run_call 54 [.tmp 16, .tmp 17] _ rfl _ Try.func54 rfl (by kernel_rfl) [.slice ad l.length cap, .int .i64 (i : Int)] rfl _) (cut_any (HL.out.keep0 hM2) i (by omega) HP.out (by omega)) ?_
  rintro e w3 ⟨v1, v2, rfl, hc1, hc2, hm3⟩
  replace hB1 := hm3.obj id hB1
  replace hB2 := hm3.obj id hB2
  have hM3 := hM2.trans0 hm3
  have hs3 := hm3.size
  refine ⟨_, rfl, hK _ _ trivial ?_⟩
  clear hK K hm3
  try simp only [pl, pn, el, ec, sz, ss, gz, gs, if_true, if_false, Bool.false_eq_true, Bool.not_true, Bool.not_false, Nat.add_zero, Nat.zero_add, Nat.reduceAdd]
  refine wpPi_move _ rfl rfl ?_
  simp only [pl, pn, el, ec, sz, ss, gz, gs, if_true, if_false, Bool.false_eq_true, Bool.not_true, Bool.not_false, Nat.add_zero, Nat.zero_add, Nat.reduceAdd]
  refine wpPi_any (v := ?_) rfl (fun w' => ?_) ?_; rotate_left; · (go_simp; try with_reducible rfl)
  simp only [pl, pn, el, ec, sz, ss, gz, gs, if_true, if_false, Bool.false_eq_true, Bool.not_true, Bool.not_false, Nat.add_zero, Nat.zero_add, Nat.reduceAdd]
  refine wpPi_any (v := ?_) rfl (fun w' => ?_) ?_; rotate_left; · (go_simp; try with_reducible rfl)
  simp only [pl, pn, el, ec, sz, ss, gz, gs, if_true, if_false, Bool.false_eq_true, Bool.not_true, Bool.not_false, Nat.add_zero, Nat.zero_add, Nat.reduceAdd]
  refine wpPi_assign _ rfl rfl ?_
  simp only [pl, pn, el, ec, sz, ss, gz, gs, if_true, if_false, Bool.false_eq_true, Bool.not_true, Bool.not_false, Nat.add_zero, Nat.zero_add, Nat.reduceAdd]
  refine wpPi_assign _ rfl rfl ?_
  simp only [pl, pn, el, ec, sz, ss, gz, gs, if_true, if_false, Bool.false_eq_true, Bool.not_true, Bool.not_false, Nat.add_zero, Nat.zero_add, Nat.reduceAdd]
  refine wpPi_nil ?_
  have hbs := built_side0 (dig f (i + 1) (sideL true i l)) hdb
  have hss := sideCells_size (false, dig f (i + 1) (sideL true i l))
  go_upto_region 3 with (fail)
  refine wp_region_seq [3, 3, 3, 1, 0, 3, 1, 1, 3] (fun _ => True) (by rfl) (by rfl) trivial ?_
  simp only [List.zip_cons_cons, List.zip_nil_right]
  refine wpPi_move _ rfl rfl ?_
  simp only [pl, pn, el, ec, sz, ss, gz, gs, if_true, if_false, Bool.false_eq_true, Bool.not_true, Bool.not_false, Nat.add_zero, Nat.zero_add, Nat.reduceAdd]
  refine wpPi_move _ rfl rfl ?_
  simp only [pl, pn, el, ec, sz, ss, gz, gs, if_true, if_false, Bool.false_eq_true, Bool.not_true, Bool.not_false, Nat.add_zero, Nat.zero_add, Nat.reduceAdd]
  refine wpPi_addR _ _ _ _ (i : Int) 1 ((i + 1 : Nat) : Int) rfl rfl rfl rfl (by omega) (by omega) (by omega) ?_
  simp only [pl, pn, el, ec, sz, ss, gz, gs, if_true, if_false, Bool.false_eq_true, Bool.not_true, Bool.not_false, Nat.add_zero, Nat.zero_add, Nat.reduceAdd]
  refine wpPi_do rfl (fun K hK => ?_)
  refine wp_enterQ (run_call 39 [.tmp 21, .tmp 23] _ rfl _ Try.func39 rfl (by kernel_rfl) [v2, .int .i64 ((i + 1 : Nat) : Int)] rfl _) (digest_any _ f (i + 1) _ v2 _ (by omega) hc2 hpb (by omega)) ?_
  rintro e w4 ⟨rfl, hm4⟩
  replace hB1 := hm4.obj id hB1
  replace hB2 := hm4.obj id hB2
  have hM4 := hM3.trans0 hm4
  have hs4 := hm4.size
  replace hc1 := hc1.keep0 hm4
  replace hc2 := hc2.keep0 hm4
  refine ⟨_, rfl, hK _ _ trivial ?_⟩
  clear hK K hm4
  try simp only [pl, pn, el, ec, sz, ss, gz, gs, if_true, if_false, Bool.false_eq_true, Bool.not_true, Bool.not_false, Nat.add_zero, Nat.zero_add, Nat.reduceAdd]
  refine wpPi_val rfl (fun w' hS => exec_build_of 84 [(1, _)] [(1, .agg (idCells (dig f (i + 1) (sideL true i l))))] _ (by rfl) (by rfl) hbs) ?_
  simp only [pl, pn, el, ec, sz, ss, gz, gs, if_true, if_false, Bool.false_eq_true, Bool.not_true, Bool.not_false, Nat.add_zero, Nat.zero_add, Nat.reduceAdd]
  refine wpPi_move _ rfl rfl ?_
  simp only [pl, pn, el, ec, sz, ss, gz, gs, if_true, if_false, Bool.false_eq_true, Bool.not_true, Bool.not_false, Nat.add_zero, Nat.zero_add, Nat.reduceAdd]
  refine wpPi_do rfl (fun K hK => ?_)
  refine wp_alloc 84 _ (by rfl) sideZ (fun w5 hB5 hm5 hs5 => ?_)
  replace hB5 : w5.heap[w4.heap.size]? = some (.cells (sideCells (false, zeroID)) 84 (0, 0)) := hB5
  refine hK _ _ trivial ?_
  clear hK K
  try simp only [pl, pn, el, ec, sz, ss, gz, gs, if_true, if_false, Bool.false_eq_true, Bool.not_true, Bool.not_false, Nat.add_zero, Nat.zero_add, Nat.reduceAdd]
  refine wpPi_do rfl (fun K hK => ?_)
  refine wp_storeA 84 _ _ w4.heap.size 0 (sideCells (false, dig f (i + 1) (sideL true i l))) (by rfl) (by rfl) (by rfl) (sideCells_one _) 33 (by kernel_rfl) hss _ _ hB5 (by rw [hss, sideCells_size]; exact Nat.le_refl _) (fun w6 hB6 hm6 => ?_)
  rw [putRow_whole (by rw [hss, sideCells_size])] at hB6
  refine hK _ _ trivial ?_
  clear hK K
  try simp only [pl, pn, el, ec, sz, ss, gz, gs, if_true, if_false, Bool.false_eq_true, Bool.not_true, Bool.not_false, Nat.add_zero, Nat.zero_add, Nat.reduceAdd]
  refine wpPi_assign _ rfl rfl ?_
  simp only [pl, pn, el, ec, sz, ss, gz, gs, if_true, if_false, Bool.false_eq_true, Bool.not_true, Bool.not_false, Nat.add_zero, Nat.zero_add, Nat.reduceAdd]
  refine wpPi_nil ?_
  have hm46 : Mod NoB w4 w6 := hm5.transB hm6 (Nat.le_refl _)
  have hM6 := hM4.trans0 hm46
  replace hB1 := hm46.obj id hB1
  replace hB2 := hm46.obj id hB2
  replace hc1 := hc1.keep0 hm46
  replace hc2 := hc2.keep0 hm46
  have hs6 : w4.heap.size < w6.heap.size := Nat.lt_of_lt_of_le hs5 hm6.size
  have hb10 : b7 < w4.heap.size := by omega
  generalize w4.heap.size = b10 at *
  clear hm5 hm6 hm46 hB5 hM4 hM3 hM2 hbs
  have hw5 := CellsAt.whole hB1
  have hptr := CellsAt.one.1 (CellsAt.whole hB2)
  cases hbit : bitAt way i with
  | true =>
    have HBB := Lib.hid hbit
    rw [hbit] at hpl
    go_upto_region 4 with (fail)
    refine wp_region_seq [1, 3, 1] (fun _ => True) (by rfl) (by rfl) trivial ?_
    simp only [List.zip_cons_cons, List.zip_nil_right]
    refine wpPi_do rfl (fun K hK => ?_)
    refine wp_exec (exec_loadA 38 _ (by rfl) b5 0 (by rfl) C hw5 _ Try.underlying38 rfl 32 (by kernel_rfl) hsz32) ?_
    refine hK _ _ trivial ?_
    clear hK K
    try simp only [pl, pn, el, ec, sz, ss, gz, gs, if_true, if_false, Bool.false_eq_true, Bool.not_true, Bool.not_false, Nat.add_zero, Nat.zero_add, Nat.reduceAdd]
    refine wpPi_move _ rfl rfl ?_
    simp only [pl, pn, el, ec, sz, ss, gz, gs, if_true, if_false, Bool.false_eq_true, Bool.not_true, Bool.not_false, Nat.add_zero, Nat.zero_add, Nat.reduceAdd]
    refine wpPi_do rfl (fun K hK => ?_)
    refine wp_enterQ (run_call 62 [.tmp 27, .tmp 28] _ rfl _ Try.func62 rfl (by kernel_rfl) [.agg C, .int .i64 (i : Int)] rfl _) (by rw [← HC.out]; exact right_any way hway i (by omega) _) ?_
    rintro e w7 ⟨rfl, hm7⟩
    rw [hbit]
    have hM7 := hM6.trans0 hm7
    have hs7 := hm7.size
    replace hw5 := hw5.keep hm7 id
    replace hptr := hm7.cell id hptr
    replace hB2 := hm7.obj id hB2
    replace hB6 := hm7.obj id hB6
    replace hc1 := hc1.keep0 hm7
    replace hc2 := hc2.keep0 hm7
    refine ⟨_, rfl, hK _ _ trivial ?_⟩
    clear hK K hm7
    try simp only [pl, pn, el, ec, sz, ss, gz, gs, if_true, if_false, Bool.false_eq_true, Bool.not_true, Bool.not_false, Nat.add_zero, Nat.zero_add, Nat.reduceAdd]
    refine wpPi_nil ?_
    clear hM6 hbit
    have hbs := built_side1 (dig f (i + 1) (sideL false i l)) hda
    have hss1 := sideCells_size (true, dig f (i + 1) (sideL false i l))
    go_upto_region 5 with (fail)
    refine wp_region_seq [3, 3, 3, 1, 0, 3, 1, 3] (fun _ => True) (by rfl) (by rfl) trivial ?_
    simp only [List.zip_cons_cons, List.zip_nil_right]
    refine wpPi_move _ rfl rfl ?_
    simp only [pl, pn, el, ec, sz, ss, gz, gs, if_true, if_false, Bool.false_eq_true, Bool.not_true, Bool.not_false, Nat.add_zero, Nat.zero_add, Nat.reduceAdd]
    refine wpPi_move _ rfl rfl ?_
    simp only [pl, pn, el, ec, sz, ss, gz, gs, if_true, if_false, Bool.false_eq_true, Bool.not_true, Bool.not_false, Nat.add_zero, Nat.zero_add, Nat.reduceAdd]
    refine wpPi_addR _ _ _ _ (i : Int) 1 ((i + 1 : Nat) : Int) rfl rfl rfl rfl (by omega) (by omega) (by omega) ?_
    simp only [pl, pn, el, ec, sz, ss, gz, gs, if_true, if_false, Bool.false_eq_true, Bool.not_true, Bool.not_false, Nat.add_zero, Nat.zero_add, Nat.reduceAdd]
    refine wpPi_do rfl (fun K hK => ?_)
    refine wp_enterQ (run_call 39 [.tmp 30, .tmp 32] _ rfl _ Try.func39 rfl (by kernel_rfl) [v1, .int .i64 ((i + 1 : Nat) : Int)] rfl _) (digest_any _ f (i + 1) _ v1 _ (by omega) hc1 hpa (by omega)) ?_
    rintro e w8 ⟨rfl, hm8⟩
    replace hB6 := hm8.obj id hB6
    refine ⟨_, rfl, hK _ _ trivial ?_⟩
    clear hK K
    try simp only [pl, pn, el, ec, sz, ss, gz, gs, if_true, if_false, Bool.false_eq_true, Bool.not_true, Bool.not_false, Nat.add_zero, Nat.zero_add, Nat.reduceAdd]
    refine wpPi_val rfl (fun w' hS => exec_build_of 84 [(0, _), (1, _)] [(0, .bool true), (1, .agg (idCells (dig f (i + 1) (sideL false i l))))] _ (by rfl) (by rfl) hbs) ?_
    simp only [pl, pn, el, ec, sz, ss, gz, gs, if_true, if_false, Bool.false_eq_true, Bool.not_true, Bool.not_false, Nat.add_zero, Nat.zero_add, Nat.reduceAdd]
    refine wpPi_move _ rfl rfl ?_
    simp only [pl, pn, el, ec, sz, ss, gz, gs, if_true, if_false, Bool.false_eq_true, Bool.not_true, Bool.not_false, Nat.add_zero, Nat.zero_add, Nat.reduceAdd]
    refine wpPi_do rfl (fun K hK => ?_)
    refine wp_storeA 84 _ _ b10 0 (sideCells (true, dig f (i + 1) (sideL false i l))) (by rfl) (by rfl) (by rfl) (sideCells_one _) 33 (by kernel_rfl) hss1 _ _ hB6 (by rw [hss1, sideCells_size]; exact Nat.le_refl _) (fun w9 hB9 hm9 => ?_)
    rw [putRow_whole (by rw [hss1, sideCells_size])] at hB9
    refine hK _ _ trivial ?_
    clear hK K
    try simp only [pl, pn, el, ec, sz, ss, gz, gs, if_true, if_false, Bool.false_eq_true, Bool.not_true, Bool.not_false, Nat.add_zero, Nat.zero_add, Nat.reduceAdd]
    refine wpPi_assign _ rfl rfl ?_
    simp only [pl, pn, el, ec, sz, ss, gz, gs, if_true, if_false, Bool.false_eq_true, Bool.not_true, Bool.not_false, Nat.add_zero, Nat.zero_add, Nat.reduceAdd]
    refine wpPi_nil ?_
    have hM9 : Mod NoB w w9 := (hM7.trans0 hm8).transB hm9 (by omega)
    have hs9 : w7.heap.size ≤ w9.heap.size := Nat.le_trans hm8.size hm9.size
    replace hw5 := (hw5.keep hm8 id).keep hm9 (by omega)
    replace hB2 := hm9.objB (by omega) (hm8.obj id hB2)
    replace hptr := CellsAt.one.1 (CellsAt.whole hB2)
    replace hc2 := (hc2.keep0 hm8).keepB hm9 (fun k hk => by omega)
    clear hm8 hm9 hB6 hM7 hbs
    have hbo9 := hM9.obj id HBO.out
    have hg9 := HG.out.keep0 hM9
    have hog : ∀ g, v.ownBlock = some g → g < b5 := fun g e => by have := (HG.out.lt e).2; omega
    have hboL : bo < b5 := by rw [← hb5e]; exact (Array.getElem?_eq_some_iff.1 HBO.out).1
    go_upto_region 7 with (fail)
    refine wp_region_seq [3, 1, 3, 3, 1, 1] (fun _ => True) (by rfl) (by rfl) trivial ?_
    simp only [List.zip_cons_cons, List.zip_nil_right]
    refine wpPi_move _ rfl rfl ?_
    simp only [pl, pn, el, ec, sz, ss, gz, gs, if_true, if_false, Bool.false_eq_true, Bool.not_true, Bool.not_false, Nat.add_zero, Nat.zero_add, Nat.reduceAdd]
    refine wpPi_do rfl (fun K hK => ?_)
    refine wp_exec (exec_loadA 38 _ (by rfl) b5 0 (by rfl) C hw5 _ Try.underlying38 rfl 32 (by kernel_rfl) hsz32) ?_
    refine hK _ _ trivial ?_
    clear hK K
    try simp only [pl, pn, el, ec, sz, ss, gz, gs, if_true, if_false, Bool.false_eq_true, Bool.not_true, Bool.not_false, Nat.add_zero, Nat.zero_add, Nat.reduceAdd]
    refine wpPi_move _ rfl rfl ?_
    simp only [pl, pn, el, ec, sz, ss, gz, gs, if_true, if_false, Bool.false_eq_true, Bool.not_true, Bool.not_false, Nat.add_zero, Nat.zero_add, Nat.reduceAdd]
    refine wpPi_addR _ _ _ _ (i : Int) 1 ((i + 1 : Nat) : Int) rfl rfl rfl rfl (by omega) (by omega) (by omega) ?_
    simp only [pl, pn, el, ec, sz, ss, gz, gs, if_true, if_false, Bool.false_eq_true, Bool.not_true, Bool.not_false, Nat.add_zero, Nat.zero_add, Nat.reduceAdd]
    refine wpPi_do rfl (fun K hK => ?_)
    refine wp_exec (exec_load1 81 _ (by rfl) b7 0 (by rfl) _ hptr _ Try.underlying81 rfl) ?_
    refine hK _ _ trivial ?_
    clear hK K
    try simp only [pl, pn, el, ec, sz, ss, gz, gs, if_true, if_false, Bool.false_eq_true, Bool.not_true, Bool.not_false, Nat.add_zero, Nat.zero_add, Nat.reduceAdd]
    refine wpPi_do rfl (fun K hK => ?_)
    refine wp_enterQ (run_call 42 [.tmp 37, .tmp 38, .tmp 40, .tmp 41] _ rfl _ Try.func42 rfl (by kernel_rfl) [v2, .agg C, .int .i64 ((i + 1 : Nat) : Int), .pointer (some ⟨bo, 0, none⟩)] rfl _) (by rw [← HC.out]; exact IH.out (sideL true i l) v2 w9 hc2.all hpb (by omega) hbo9 hg9) ?_
    rintro e w10 ⟨rfl, v10, h10a, h10b, h10c, h10d⟩
    refine ⟨_, rfl, hK _ _ trivial ?_⟩
    clear hK K
    try simp only [pl, pn, el, ec, sz, ss, gz, gs, if_true, if_false, Bool.false_eq_true, Bool.not_true, Bool.not_false, Nat.add_zero, Nat.zero_add, Nat.reduceAdd]
    refine wpPi_nil ?_
    have hsz10 := h10d.size
    have hB2' := h10d.obj (fun h => h.elim (by omega) (fun e => by have := hog _ e; omega)) hB2
    have hB10' := h10d.obj (fun h => h.elim (by omega) (fun e => by have := hog _ e; omega)) hB9
    have hne : v10.ownBlock ≠ some b10 := fun e => (h10c _ e).elim (fun e => by have := hog _ e; omega) (fun h => by omega)
    have HOUT : Hid (∀ ps' w', OutR w10 bo v10 ps' w' → OutR w bo v ps' w') := by
      rintro ps' w' ⟨v', k1, k2, k3, k4⟩
      have hsM := hM9.size
      refine ⟨v', k1, k2, fun g hg => ?_, ((hM9.mono fun _ _ h => h.elim).trans h10d (fun _ _ h => h)).trans k4 (fun k hk h => ?_)⟩
      · rcases k3 g hg with h | h
        · exact (h10c g h).imp id (fun h => by omega)
        · right; omega
      · rcases h with h | h
        · exact .inl h
        · rcases h10c k h with h | h
          · exact .inr h
          · omega
    go_wp2
    refine leaves_cons (f := 63) (args := #[.pointer (some ⟨b7, 0, none⟩), .pointer (some ⟨b10, 0, none⟩)]) (by simp) (by simp [go_sem]) ?_
    refine (pathD_any (true, dig f (i + 1) (sideL false i l)) h10a h10b hB2' hB10' hne (by rw [List.length_append]; omega) .returning).mono ?_
    rintro e u' w'' ⟨rfl, rfl, hout⟩
    exact ⟨_, results_none rfl _ _ _, rfl, by rw [← List.append_assoc, HBB.out]; exact HOUT.out _ _ hout⟩
  | false =>
    have HBB := Lib.hid hbit
    rw [hbit] at hpl
    go_upto_region 4 with (fail)
    refine wp_region_seq [1, 3, 1] (fun _ => True) (by rfl) (by rfl) trivial ?_
    simp only [List.zip_cons_cons, List.zip_nil_right]
    refine wpPi_do rfl (fun K hK => ?_)
    refine wp_exec (exec_loadA 38 _ (by rfl) b5 0 (by rfl) C hw5 _ Try.underlying38 rfl 32 (by kernel_rfl) hsz32) ?_
    refine hK _ _ trivial ?_
    clear hK K
    try simp only [pl, pn, el, ec, sz, ss, gz, gs, if_true, if_false, Bool.false_eq_true, Bool.not_true, Bool.not_false, Nat.add_zero, Nat.zero_add, Nat.reduceAdd]
    refine wpPi_move _ rfl rfl ?_
    simp only [pl, pn, el, ec, sz, ss, gz, gs, if_true, if_false, Bool.false_eq_true, Bool.not_true, Bool.not_false, Nat.add_zero, Nat.zero_add, Nat.reduceAdd]
    refine wpPi_do rfl (fun K hK => ?_)
    refine wp_enterQ (run_call 62 [.tmp 27, .tmp 28] _ rfl _ Try.func62 rfl (by kernel_rfl) [.agg C, .int .i64 (i : Int)] rfl _) (by rw [← HC.out]; exact right_any way hway i (by omega) _) ?_
    rintro e w7 ⟨rfl, hm7⟩
    rw [hbit]
    have hM7 := hM6.trans0 hm7
    have hs7 := hm7.size
    replace hw5 := hw5.keep hm7 id
    replace hptr := hm7.cell id hptr
    replace hB2 := hm7.obj id hB2
    replace hB6 := hm7.obj id hB6
    replace hc1 := hc1.keep0 hm7
    replace hc2 := hc2.keep0 hm7
    refine ⟨_, rfl, hK _ _ trivial ?_⟩
    clear hK K hm7
    try simp only [pl, pn, el, ec, sz, ss, gz, gs, if_true, if_false, Bool.false_eq_true, Bool.not_true, Bool.not_false, Nat.add_zero, Nat.zero_add, Nat.reduceAdd]
    refine wpPi_nil ?_
    clear hM6 hbit
    have hbo9 := hM7.obj id HBO.out
    have hg9 := HG.out.keep0 hM7
    have hog : ∀ g, v.ownBlock = some g → g < b5 := fun g e => by have := (HG.out.lt e).2; omega
    have hboL : bo < b5 := by rw [← hb5e]; exact (Array.getElem?_eq_some_iff.1 HBO.out).1
    go_upto_region 7 with (fail)
    refine wp_region_seq [3, 1, 3, 3, 1, 1] (fun _ => True) (by rfl) (by rfl) trivial ?_
    simp only [List.zip_cons_cons, List.zip_nil_right]
    refine wpPi_move _ rfl rfl ?_
    simp only [pl, pn, el, ec, sz, ss, gz, gs, if_true, if_false, Bool.false_eq_true, Bool.not_true, Bool.not_false, Nat.add_zero, Nat.zero_add, Nat.reduceAdd]
    refine wpPi_do rfl (fun K hK => ?_)
    refine wp_exec (exec_loadA 38 _ (by rfl) b5 0 (by rfl) C hw5 _ Try.underlying38 rfl 32 (by kernel_rfl) hsz32) ?_
    refine hK _ _ trivial ?_
    clear hK K
    try simp only [pl, pn, el, ec, sz, ss, gz, gs, if_true, if_false, Bool.false_eq_true, Bool.not_true, Bool.not_false, Nat.add_zero, Nat.zero_add, Nat.reduceAdd]
    refine wpPi_move _ rfl rfl ?_
    simp only [pl, pn, el, ec, sz, ss, gz, gs, if_true, if_false, Bool.false_eq_true, Bool.not_true, Bool.not_false, Nat.add_zero, Nat.zero_add, Nat.reduceAdd]
    refine wpPi_addR _ _ _ _ (i : Int) 1 ((i + 1 : Nat) : Int) rfl rfl rfl rfl (by omega) (by omega) (by omega) ?_
    simp only [pl, pn, el, ec, sz, ss, gz, gs, if_true, if_false, Bool.false_eq_true, Bool.not_true, Bool.not_false, Nat.add_zero, Nat.zero_add, Nat.reduceAdd]
    refine wpPi_do rfl (fun K hK => ?_)
    refine wp_exec (exec_load1 81 _ (by rfl) b7 0 (by rfl) _ hptr _ Try.underlying81 rfl) ?_
    refine hK _ _ trivial ?_
    clear hK K
    try simp only [pl, pn, el, ec, sz, ss, gz, gs, if_true, if_false, Bool.false_eq_true, Bool.not_true, Bool.not_false, Nat.add_zero, Nat.zero_add, Nat.reduceAdd]
    refine wpPi_do rfl (fun K hK => ?_)
    refine wp_enterQ (run_call 42 [.tmp 37, .tmp 38, .tmp 40, .tmp 41] _ rfl _ Try.func42 rfl (by kernel_rfl) [v1, .agg C, .int .i64 ((i + 1 : Nat) : Int), .pointer (some ⟨bo, 0, none⟩)] rfl _) (by rw [← HC.out]; exact IH.out (sideL false i l) v1 w7 hc1.all hpa (by omega) hbo9 hg9) ?_
    rintro e w10 ⟨rfl, v10, h10a, h10b, h10c, h10d⟩
    refine ⟨_, rfl, hK _ _ trivial ?_⟩
    clear hK K
    try simp only [pl, pn, el, ec, sz, ss, gz, gs, if_true, if_false, Bool.false_eq_true, Bool.not_true, Bool.not_false, Nat.add_zero, Nat.zero_add, Nat.reduceAdd]
    refine wpPi_nil ?_
    have hsz10 := h10d.size
    have hB2' := h10d.obj (fun h => h.elim (by omega) (fun e => by have := hog _ e; omega)) hB2
    have hB10' := h10d.obj (fun h => h.elim (by omega) (fun e => by have := hog _ e; omega)) hB6
    have hne : v10.ownBlock ≠ some b10 := fun e => (h10c _ e).elim (fun e => by have := hog _ e; omega) (fun h => by omega)
    have HOUT : Hid (∀ ps' w', OutR w10 bo v10 ps' w' → OutR w bo v ps' w') := by
      rintro ps' w' ⟨v', k1, k2, k3, k4⟩
      have hsM := hM7.size
      refine ⟨v', k1, k2, fun g hg => ?_, ((hM7.mono fun _ _ h => h.elim).trans h10d (fun _ _ h => h)).trans k4 (fun k hk h => ?_)⟩
      · rcases k3 g hg with h | h
        · exact (h10c g h).imp id (fun h => by omega)
        · right; omega
      · rcases h with h | h
        · exact .inl h
        · rcases h10c k h with h | h
          · exact .inr h
          · omega
    go_wp2
    refine leaves_cons (f := 63) (args := #[.pointer (some ⟨b7, 0, none⟩), .pointer (some ⟨b10, 0, none⟩)]) (by simp) (by simp [go_sem]) ?_
    refine (pathD_any (false, dig f (i + 1) (sideL true i l)) h10a h10b hB2' hB10' hne (by rw [List.length_append]; omega) .returning).mono ?_
    rintro e u' w'' ⟨rfl, rfl, hout⟩
    exact ⟨_, results_none rfl _ _ _, rfl, by rw [← List.append_assoc, HBB.out]; exact HOUT.out _ _ hout⟩
theorem path_any : ∀ (f i : Nat) (l : List Leaf) (vl v : Value) (w : World) (ps : List SideL) (way : List UInt8) (bo : Nat), f + i = 256 → Ls w (fun _ => True) vl l → Placed i l → l.length ≤ 65536 → way.length = 32 → w.heap[bo]? = some (.cells #[v] 41 (0, 0)) → Gat sideEnc 84 33 0 w v ps → ps.length + f ≤ 1000000 →
    Calls Try.prog 42 #[vl, .agg (idCells way), .int .i64 (i : Int), .pointer (some ⟨bo, 0, none⟩)] w (fun e w' => e = .returned (.tuple #[]) ∧ OutR w bo v (ps ++ pathL way f i l) w') := by
  intro f
  induction f with
  | zero =>
    intro i l vl v w ps way bo hi hl hp hlen hway hbo hg hps
    rcases Nat.lt_or_ge l.length 2 with h | h
    · rw [path_few h, List.append_nil]; exact path_none hl way i bo h hbo hg
    · have := hp.bits h; omega
  | succ f ih =>
    intro i l vl v w ps way bo hi hl hp hlen hway hbo hg hps
    rcases Nat.lt_or_ge l.length 2 with h | h
    · rw [path_few h, List.append_nil]; exact path_none hl way i bo h hbo hg
    · exact path_two f i hi hl hp hlen way hway bo h hbo hg hps (fun l' vl' w' h1 h2 h3 h4 h5 => ih (i + 1) l' vl' v w' ps way bo (by omega) h1 h2 h3 hway h4 h5 (by omega))
end Go.Proofs.Ytchkikmmcmjcgaa

/- slices.ContainsFunc over entries; tree.Path. -/
namespace Go.Proofs.Ytchkikmmcmjcgaa
set_option linter.unusedSimpArgs false
set_option linter.unusedVariables false
set_option linter.unnecessarySimpa false
set_option linter.unusedSectionVars false
open Go.RowKit Go.Shelf


def keysE (es : List Ent) : List ByteArray := es.map (·.1)
def hasK (es : List Ent) (key : ByteArray) : Bool := (keysE es).any fun k => decide (k = key)
theorem hasK_iff {es : List Ent} {key : ByteArray} : hasK es key = true ↔ key ∈ keysE es := by simp [hasK]
set_option maxRecDepth 10000 in
theorem pathF_any {w : World} {G : Nat → Prop} {cs : Array Value} {e : Ent} (he : EntC w G cs e) (key : ByteArray) (b : Nat) (hb : w.heap[b]? = some (.cells #[.string key] 9 (0, 0))) :
    Calls Try.prog 41 #[.agg cs, .pointer (some ⟨b, 0, none⟩)] w (RetM (.bool (decide (e.1 = key))) w) := by
  obtain ⟨v, rfl, -⟩ := he
  have hcb := CellsAt.one.1 (CellsAt.whole hb)
  obtain ⟨k, val⟩ := e
  change Calls Try.prog 41 #[.agg #[.string k, v], .pointer (some ⟨b, 0, none⟩)] w (RetM (.bool (decide (k = key))) w)
  clear hb
  go_enter Try.func41, Try.ntmps41
  go_upto_region 0 with (fail)
  refine wp_region_seq [1, 3] (fun _ => True) (by rfl) (by rfl) trivial ?_
  simp only [List.zip_cons_cons, List.zip_nil_right]
  refine wpPi_do rfl (fun K hK => ?_)
  refine wp_box 35 _ _ (by rfl) (by rfl) (fun w1 hB1 hm1 hs1 => ?_)
  replace hB1 : w1.heap[w.heap.size]? = some (.cells #[.string k, v] 35 (0, 0)) := hB1
  refine hK _ _ trivial ?_
  clear hK K
  try simp only [pl, pn, el, ec, sz, ss, gz, gs, if_true, if_false, Bool.false_eq_true, Bool.not_true, Bool.not_false, Nat.add_zero, Nat.zero_add, Nat.reduceAdd]
  refine wpPi_assign _ rfl rfl ?_
  simp only [pl, pn, el, ec, sz, ss, gz, gs, if_true, if_false, Bool.false_eq_true, Bool.not_true, Bool.not_false, Nat.add_zero, Nat.zero_add, Nat.reduceAdd]
  refine wpPi_nil ?_
  have hck := (CellsAt.whole hB1).cell (j := 0) (v := .string k) rfl
  replace hcb := hm1.cell id hcb
  generalize w.heap.size = b2 at *
  clear hB1
  go_upto_region 1 with (fail)
  refine wp_region_seq [3, 1, 1, 0, 3] (fun _ => True) (by rfl) (by rfl) trivial ?_
  simp only [List.zip_cons_cons, List.zip_nil_right]
  refine wpPi_field _ _ _ _ _ _ rfl rfl rfl fo_35_0 ?_
  simp only [pl, pn, el, ec, sz, ss, gz, gs, if_true, if_false, Bool.false_eq_true, Bool.not_true, Bool.not_false, Nat.add_zero, Nat.zero_add, Nat.reduceAdd]
  refine wpPi_do rfl (fun K hK => ?_)
  refine wp_exec (exec_load1 9 _ (by rfl) b2 0 (by rfl) _ hck _ Try.underlying9 rfl) ?_
  refine hK _ _ trivial ?_
  clear hK K
  try simp only [pl, pn, el, ec, sz, ss, gz, gs, if_true, if_false, Bool.false_eq_true, Bool.not_true, Bool.not_false, Nat.add_zero, Nat.zero_add, Nat.reduceAdd]
  refine wpPi_do rfl (fun K hK => ?_)
  refine wp_exec (exec_load1 9 _ (by rfl) b 0 (by rfl) _ hcb _ Try.underlying9 rfl) ?_
  refine hK _ _ trivial ?_
  clear hK K
  try simp only [pl, pn, el, ec, sz, ss, gz, gs, if_true, if_false, Bool.false_eq_true, Bool.not_true, Bool.not_false, Nat.add_zero, Nat.zero_add, Nat.reduceAdd]
  refine wpPi_val rfl (fun w' hS => exec_eql_str _ _ _ _ rfl k key rfl rfl _ rfl) ?_
  simp only [pl, pn, el, ec, sz, ss, gz, gs, if_true, if_false, Bool.false_eq_true, Bool.not_true, Bool.not_false, Nat.add_zero, Nat.zero_add, Nat.reduceAdd]
  refine wpPi_assign _ rfl rfl ?_
  simp only [pl, pn, el, ec, sz, ss, gz, gs, if_true, if_false, Bool.false_eq_true, Bool.not_true, Bool.not_false, Nat.add_zero, Nat.zero_add, Nat.reduceAdd]
  refine wpPi_nil ?_
  go_wp2
  go_ret
  exact ⟨rfl, hm1⟩
theorem eg_pathF : ∀ args w, (callFunc 41 args).run Try.prog w = .ok (.enter 41 args) w := enters_of Try.func41 (by kernel_rfl) rfl
def IdxFRel (key : ByteArray) (es : List Ent) (w0 : World) (i : Value) (w : World) : Prop := ∃ k : Nat, k ≤ es.length ∧ i = .int .i64 k ∧ (∀ j (_ : j < k) (h : j < es.length), es[j].1 ≠ key) ∧ Mod NoB w0 w
def IdxFR (key : ByteArray) (es : List Ent) (w : World) : Ending → World → Prop := fun e w' => ∃ r : Int, e = .returned (.int .i64 r) ∧ (0 ≤ r ↔ key ∈ keysE es) ∧ Mod NoB w w'
set_option maxRecDepth 10000 in
theorem indexFn_any {own : Bool} {w : World} {G : Nat → Prop} {v : Value} {es : List Ent} (h : Es own w G v es) (key : ByteArray) (b : Nat) (hb : w.heap[b]? = some (.cells #[.string key] 9 (0, 0))) :
    Calls Try.prog 61 #[v, .func (.func 41) #[] #[.pointer (some ⟨b, 0, none⟩)]] w (IdxFR key es w) := by
  have HS := Lib.hid h
  obtain ⟨ad, cap, rfl, hlm, -⟩ := Sl.at h
  have HB := Lib.hid hb
  clear h hb
  go_enter Try.func61, Try.ntmps61
  go_wp2
  go_loopw [8] (IdxFRel key es w) (fun i _ => es.length - (intOf i).toNat)
  case atStart => exact ⟨0, by omega, rfl, fun j h1 h2 => by omega, Mod.refl _ _⟩
  case round =>
    rename World => wr
    obtain ⟨k, hk, rfl, hne, hm⟩ := hrel
    have HNE := Lib.hid hne
    clear hne
    by_cases hlt : k < es.length
    · have hz : (k : Int) < (es.length : Int) := by omega
      obtain ⟨_, _, hv, -, hat⟩ := Sl.at (HS.out.keep0 hm)
      cases hv
      obtain ⟨bq, off, rfl, -, -, hc⟩ := hat k hlt
      obtain ⟨cs, hcs2, hec, hc⟩ := hc k hlt
      clear hat
      go_upto_region 4 with (fail)
      by_cases heq : es[k].1 = key
      · have hmem : key ∈ keysE es := List.mem_map.2 ⟨es[k], List.getElem_mem hlt, heq⟩
        generalize es[k] = x at *
        refine wp_region_seq [3, 3, 3, 3, 1, 1] (fun _ => True) (by rfl) (by rfl) trivial ?_
        simp only [List.zip_cons_cons, List.zip_nil_right]
        refine wpPi_move _ rfl rfl ?_
        simp only [pl, pn, el, ec, sz, ss, gz, gs, if_true, if_false, Bool.false_eq_true, Bool.not_true, Bool.not_false, Nat.add_zero, Nat.zero_add, Nat.reduceAdd]
        refine wpPi_move _ rfl rfl ?_
        simp only [pl, pn, el, ec, sz, ss, gz, gs, if_true, if_false, Bool.false_eq_true, Bool.not_true, Bool.not_false, Nat.add_zero, Nat.zero_add, Nat.reduceAdd]
        refine wpPi_move _ rfl rfl ?_
        simp only [pl, pn, el, ec, sz, ss, gz, gs, if_true, if_false, Bool.false_eq_true, Bool.not_true, Bool.not_false, Nat.add_zero, Nat.zero_add, Nat.reduceAdd]
        refine wpPi_index _ _ _ _ _ _ _ _ _ rfl rfl rfl rfl Try.underlying22 (n := 2) (by kernel_rfl) hlt ?_
        simp only [pl, pn, el, ec, sz, ss, gz, gs, if_true, if_false, Bool.false_eq_true, Bool.not_true, Bool.not_false, Nat.add_zero, Nat.zero_add, Nat.reduceAdd]
        refine wpPi_do rfl (fun K hK => ?_)
        refine wp_exec (exec_loadA 35 _ (by rfl) bq (off + k * 2) (by rfl) cs hc _ Try.underlying35 rfl 2 (by kernel_rfl) hcs2) ?_
        refine hK _ _ trivial ?_
        clear hK K
        try simp only [pl, pn, el, ec, sz, ss, gz, gs, if_true, if_false, Bool.false_eq_true, Bool.not_true, Bool.not_false, Nat.add_zero, Nat.zero_add, Nat.reduceAdd]
        refine wpPi_do rfl (fun K hK => ?_)
        refine wp_enterQ (run_callV 41 _ [.tmp 15] _ #[.pointer (some ⟨b, 0, none⟩)] rfl rfl eg_pathF [.agg cs] rfl _) (pathF_any hec key b (hm.obj id HB.out)) ?_
        rintro e w2 ⟨rfl, hm2⟩
        rw [decide_eq_true heq]
        have hMr := hm.trans0 hm2
        refine ⟨_, rfl, hK _ _ trivial ?_⟩
        clear hK K
        try simp only [pl, pn, el, ec, sz, ss, gz, gs, if_true, if_false, Bool.false_eq_true, Bool.not_true, Bool.not_false, Nat.add_zero, Nat.zero_add, Nat.reduceAdd]
        refine wpPi_nil ?_
        clear hm hm2
        go_wp2
        go_ret
        exact ⟨k, rfl, ⟨fun _ => hmem, fun _ => by omega⟩, hMr⟩
      · have hstep : ∀ j (_ : j < k + 1) (h : j < es.length), es[j].1 ≠ key := fun j h1 h2 => by
          rcases Nat.lt_or_ge j k with h4 | h4
          · exact HNE.out j h4 h2
          · obtain rfl : j = k := by omega
            exact heq
        have HSTEP := Lib.hid hstep
        clear hstep
        generalize es[k] = x at *
        refine wp_region_seq [3, 3, 3, 3, 1, 1] (fun _ => True) (by rfl) (by rfl) trivial ?_
        simp only [List.zip_cons_cons, List.zip_nil_right]
        refine wpPi_move _ rfl rfl ?_
        simp only [pl, pn, el, ec, sz, ss, gz, gs, if_true, if_false, Bool.false_eq_true, Bool.not_true, Bool.not_false, Nat.add_zero, Nat.zero_add, Nat.reduceAdd]
        refine wpPi_move _ rfl rfl ?_
        simp only [pl, pn, el, ec, sz, ss, gz, gs, if_true, if_false, Bool.false_eq_true, Bool.not_true, Bool.not_false, Nat.add_zero, Nat.zero_add, Nat.reduceAdd]
        refine wpPi_move _ rfl rfl ?_
        simp only [pl, pn, el, ec, sz, ss, gz, gs, if_true, if_false, Bool.false_eq_true, Bool.not_true, Bool.not_false, Nat.add_zero, Nat.zero_add, Nat.reduceAdd]
        refine wpPi_index _ _ _ _ _ _ _ _ _ rfl rfl rfl rfl Try.underlying22 (n := 2) (by kernel_rfl) hlt ?_
        simp only [pl, pn, el, ec, sz, ss, gz, gs, if_true, if_false, Bool.false_eq_true, Bool.not_true, Bool.not_false, Nat.add_zero, Nat.zero_add, Nat.reduceAdd]
        refine wpPi_do rfl (fun K hK => ?_)
        refine wp_exec (exec_loadA 35 _ (by rfl) bq (off + k * 2) (by rfl) cs hc _ Try.underlying35 rfl 2 (by kernel_rfl) hcs2) ?_
        refine hK _ _ trivial ?_
        clear hK K
        try simp only [pl, pn, el, ec, sz, ss, gz, gs, if_true, if_false, Bool.false_eq_true, Bool.not_true, Bool.not_false, Nat.add_zero, Nat.zero_add, Nat.reduceAdd]
        refine wpPi_do rfl (fun K hK => ?_)
        refine wp_enterQ (run_callV 41 _ [.tmp 15] _ #[.pointer (some ⟨b, 0, none⟩)] rfl rfl eg_pathF [.agg cs] rfl _) (pathF_any hec key b (hm.obj id HB.out)) ?_
        rintro e w2 ⟨rfl, hm2⟩
        rw [decide_eq_false heq]
        have hMr := hm.trans0 hm2
        refine ⟨_, rfl, hK _ _ trivial ?_⟩
        clear hK K
        try simp only [pl, pn, el, ec, sz, ss, gz, gs, if_true, if_false, Bool.false_eq_true, Bool.not_true, Bool.not_false, Nat.add_zero, Nat.zero_add, Nat.reduceAdd]
        refine wpPi_nil ?_
        clear hm hm2
        go_wp2
        go_roundw
        case rel => exact ⟨k + 1, by omega, by go_num, HSTEP.out, hMr⟩
        case measure => simp [intOf]; omega
    · have hz : ¬ (k : Int) < (es.length : Int) := by omega
      have hnm : key ∉ keysE es := fun hm => by
        obtain ⟨x, hx, rfl⟩ := List.mem_map.1 hm
        obtain ⟨j, hj, rfl⟩ := List.getElem_of_mem hx
        exact HNE.out j (by omega) hj rfl
      go_wp2
      go_ret
      exact ⟨-1, rfl, ⟨fun h => by omega, fun h => absurd h hnm⟩, hm⟩
set_option maxRecDepth 10000 in
theorem containsFn_any {own : Bool} {w : World} {G : Nat → Prop} {v : Value} {es : List Ent} (h : Es own w G v es) (key : ByteArray) (b : Nat) (hb : w.heap[b]? = some (.cells #[.string key] 9 (0, 0))) :
    Calls Try.prog 40 #[v, .func (.func 41) #[] #[.pointer (some ⟨b, 0, none⟩)]] w (RetM (.bool (hasK es key)) w) := by
  go_enter Try.func40, Try.ntmps40
  go_upto_region 1 with (fail)
  refine wp_region_seq [3, 3, 1, 3, 3] (fun _ => True) (by rfl) (by rfl) trivial ?_
  simp only [List.zip_cons_cons, List.zip_nil_right]
  refine wpPi_move _ rfl rfl ?_
  simp only [pl, pn, el, ec, sz, ss, gz, gs, if_true, if_false, Bool.false_eq_true, Bool.not_true, Bool.not_false, Nat.add_zero, Nat.zero_add, Nat.reduceAdd]
  refine wpPi_move _ rfl rfl ?_
  simp only [pl, pn, el, ec, sz, ss, gz, gs, if_true, if_false, Bool.false_eq_true, Bool.not_true, Bool.not_false, Nat.add_zero, Nat.zero_add, Nat.reduceAdd]
  refine wpPi_do rfl (fun K hK => ?_)
  refine wp_enterQ (run_call 61 [.tmp 5, .tmp 6] _ rfl _ Try.func61 rfl (by kernel_rfl) [v, .func (.func 41) #[] #[.pointer (some ⟨b, 0, none⟩)]] rfl _) (indexFn_any h key b hb) ?_
  rintro e w2 ⟨r, rfl, hr, hm2⟩
  refine ⟨_, rfl, hK _ _ trivial ?_⟩
  clear hK K
  try simp only [pl, pn, el, ec, sz, ss, gz, gs, if_true, if_false, Bool.false_eq_true, Bool.not_true, Bool.not_false, Nat.add_zero, Nat.zero_add, Nat.reduceAdd]
  refine wpPi_cmp _ _ _ _ _ _ _ _ rfl rfl rfl rfl rfl (hasK es key) (by simp only [cmpB]; rw [Bool.eq_iff_iff, decide_eq_true_iff, hasK_iff]; exact hr) ?_
  simp only [pl, pn, el, ec, sz, ss, gz, gs, if_true, if_false, Bool.false_eq_true, Bool.not_true, Bool.not_false, Nat.add_zero, Nat.zero_add, Nat.reduceAdd]
  refine wpPi_assign _ rfl rfl ?_
  simp only [pl, pn, el, ec, sz, ss, gz, gs, if_true, if_false, Bool.false_eq_true, Bool.not_true, Bool.not_false, Nat.add_zero, Nat.zero_add, Nat.reduceAdd]
  refine wpPi_nil ?_
  go_wp2
  go_ret
  exact ⟨rfl, hm2⟩
def errP (es : List Ent) (key : ByteArray) : Nat := if chkE es ≠ 0 then chkE es else if hasK es key then 0 else 26
def pathOut (es : List Ent) (key : ByteArray) : List SideL := if errP es key = 0 then pathL (shaL key.data.toList) 256 0 (leavesE es) else []
def PtR (w : World) (es : List Ent) (key : ByteArray) : Ending → World → Prop := fun e w' => ∃ v, e = .returned (.tuple #[v, .int .i64 ((errP es key : Nat) : Int)]) ∧ Gat sideEnc 84 33 w.heap.size w' v (pathOut es key) ∧ Mod NoB w w'
theorem Gat.rebase {α : Type} {enc : α → List Value} {e k base b' : Nat} {w : World} {v : Value} {l : List α} (h : Gat enc e k base w v l) (hb : ∀ g, v.ownBlock = some g → b' ≤ g) : Gat enc e k b' w v l := by
  refine ⟨h.1, ?_⟩
  rcases h.2 with h2 | ⟨g, cap, cur, rfl, h1, h2⟩
  · exact .inl h2
  · exact .inr ⟨g, cap, cur, rfl, hb g rfl, h2⟩
theorem sSideZ : (Try.prog.info? 41).bind (·.zero) = some (.slice none 0 0) := by kernel_rfl
theorem built_entK (key : ByteArray) : Try.prog.built 35 [(0, .string key)] = some #[.string key, .slice none 0 0] := by kernel_rfl
set_option maxRecDepth 20000 in
theorem exec_field_way {w : World} {o : Oper} {a : Act} (x : Operand) (u : Leaf) (hu : LeafOk u) (ho : o.op = .field 63 x 1) (hx : a.eval x = .agg (leafCells u)) : (execOp a.eval o).run Try.prog w = .ok (.value (.agg (idCells u.way))) w := by
  unfold execOp
  simp only [ho, hx]
  have hr : (Instr.field 63 (.agg (leafCells u)) 1).run Try.prog w = .ok (.agg (idCells u.way)) w := by
    unfold Instr.field
    simp only [Sem.run_bind, run_underlying Try.underlying63, Result.andThen_ok]
    show ((asAgg (.agg (leafCells u))).run Try.prog w).andThen (fun cs w => (part 38 cs 1).run Try.prog w) = _
    simp [asAgg, part_way hu]
  simp only [Sem.run_bind, hr, Result.andThen_ok, Sem.run_pure]
end Go.Proofs.Ytchkikmmcmjcgaa

/- tree.Path: a key's path. -/
namespace Go.Proofs.Ytchkikmmcmjcgaa
set_option linter.unusedSimpArgs false
set_option linter.unusedVariables false
set_option linter.unnecessarySimpa false
set_option linter.unusedSectionVars false
open Go.RowKit Go.Shelf


theorem results_one_tmp {P : Program} {fn : Func} {p u : Tmp} {ty : TypeId} (h : fn.results = #[.cell p ty, .tmp u]) (tmps : Array Value) (w : World) (g : Nat) (v : Value) (d : TypeDesc)
    (hp : tmps.getD p undef = .pointer (some ⟨g, 0, none⟩)) (hg : w.cell? ⟨g, 0, none⟩ = some v)
    (hu : P.underlying ty = some d) (hd : (match d with | .struct _ | .array _ _ => true | _ => false) = false) :
    (results fn tmps).run P w = .ok (.tuple #[v, tmps.getD u undef]) w := by
  have hp' : tmps[p]?.getD undef = .pointer (some ⟨g, 0, none⟩) := by simpa using hp
  have hagg : (isAgg ty).run P w = .ok false w := by
    unfold isAgg
    rw [Sem.run_bind, run_underlying hu w]
    cases d <;> simp_all
  have hl : (loadVar ty ⟨g, 0, none⟩).run P w = .ok v w := by
    simp only [loadVar, Sem.run_bind, hagg, Result.andThen_ok, Bool.false_eq_true, if_false]
    simp [load, Sem.run, hg]
  simp [results, h, hp', asAddr, hl]
set_option maxRecDepth 10000 in
set_option maxHeartbeats 1000000 in
theorem treePath_any {own : Bool} {w : World} {G : Nat → Prop} {v : Value} {es : List Ent} (h : Es own w G v es) (hs : Short es) (hlen : es.length ≤ 4096) (key : ByteArray) (hkey : key.size ≤ 1000000) : Calls Try.prog 18 #[v, .string key] w (PtR w es key) := by
  have HS := Lib.hid h
  have HSH := Lib.hid hs
  obtain ⟨ad, cap, rfl, -, -⟩ := Sl.at h
  clear h hs
  go_enter Try.func18, Try.ntmps18
  go_upto_region 0 with (fail)
  refine wp_region_seq [1, 1, 3] (fun _ => True) (by rfl) (by rfl) trivial ?_
  simp only [List.zip_cons_cons, List.zip_nil_right]
  refine wpPi_do rfl (fun K hK => ?_)
  refine wp_box 9 _ _ (by rfl) (by rfl) (fun w1 hB1 hm1 hs1 => ?_)
  replace hB1 : w1.heap[w.heap.size]? = some (.cells #[.string key] 9 (0, 0)) := hB1
  refine hK _ _ trivial ?_
  clear hK K
  try simp only [pl, pn, el, ec, sz, ss, gz, gs, if_true, if_false, Bool.false_eq_true, Bool.not_true, Bool.not_false, Nat.add_zero, Nat.zero_add, Nat.reduceAdd]
  refine wpPi_do rfl (fun K hK => ?_)
  refine wp_alloc 41 _ (by rfl) sSideZ (fun w2 hB2 hm2 hs2 => ?_)
  replace hB2 : w2.heap[w1.heap.size]? = some (.cells #[.slice none 0 0] 41 (0, 0)) := hB2
  refine hK _ _ trivial ?_
  clear hK K
  try simp only [pl, pn, el, ec, sz, ss, gz, gs, if_true, if_false, Bool.false_eq_true, Bool.not_true, Bool.not_false, Nat.add_zero, Nat.zero_add, Nat.reduceAdd]
  refine wpPi_assign _ rfl rfl ?_
  simp only [pl, pn, el, ec, sz, ss, gz, gs, if_true, if_false, Bool.false_eq_true, Bool.not_true, Bool.not_false, Nat.add_zero, Nat.zero_add, Nat.reduceAdd]
  refine wpPi_nil ?_
  replace hB1 := hm2.obj id hB1
  have hM2 := hm1.trans0 hm2
  have hb3 : w.heap.size < w1.heap.size := hs1
  have hb4 : w1.heap.size < w2.heap.size := hs2
  generalize hb3e : w.heap.size = b3 at *
  generalize hb4e : w1.heap.size = b4 at *
  clear hm1 hm2
  go_upto_region 1 with (fail)
  refine wp_region_seq [3, 1, 3] (fun _ => True) (by rfl) (by rfl) trivial ?_
  simp only [List.zip_cons_cons, List.zip_nil_right]
  refine wpPi_move _ rfl rfl ?_
  simp only [pl, pn, el, ec, sz, ss, gz, gs, if_true, if_false, Bool.false_eq_true, Bool.not_true, Bool.not_false, Nat.add_zero, Nat.zero_add, Nat.reduceAdd]
  refine wpPi_do rfl (fun K hK => ?_)
  refine wp_enterQ (run_call 21 [.tmp 7] _ rfl _ Try.func21 rfl (by kernel_rfl) [.slice ad es.length cap] rfl _) (check_any (HS.out.keep0 hM2) HSH.out hlen) ?_
  rintro e w3 ⟨rfl, hm3⟩
  have hM3 := hM2.trans0 hm3
  replace hB1 := hm3.obj id hB1
  replace hB2 := hm3.obj id hB2
  have hs3 := hm3.size
  refine ⟨_, rfl, hK _ _ trivial ?_⟩
  clear hK K hm3
  try simp only [pl, pn, el, ec, sz, ss, gz, gs, if_true, if_false, Bool.false_eq_true, Bool.not_true, Bool.not_false, Nat.add_zero, Nat.zero_add, Nat.reduceAdd]
  refine wpPi_assign _ rfl rfl ?_
  simp only [pl, pn, el, ec, sz, ss, gz, gs, if_true, if_false, Bool.false_eq_true, Bool.not_true, Bool.not_false, Nat.add_zero, Nat.zero_add, Nat.reduceAdd]
  refine wpPi_nil ?_
  by_cases hc : chkE es = 0
  · have HC := Lib.hid hc
    rw [hc]
    clear hc hM2
    cases hh : hasK es key with
    | true =>
      have HH := Lib.hid hh
      have herr : errP es key = 0 := by unfold errP; rw [if_neg (by rw [HC.out]; simp), if_pos hh]
      have HE := Lib.hid herr
      go_upto_region 4 with (fail)
      refine wp_region_seq [3, 1, 1, 3] (fun _ => True) (by rfl) (by rfl) trivial ?_
      simp only [List.zip_cons_cons, List.zip_nil_right]
      refine wpPi_move _ rfl rfl ?_
      simp only [pl, pn, el, ec, sz, ss, gz, gs, if_true, if_false, Bool.false_eq_true, Bool.not_true, Bool.not_false, Nat.add_zero, Nat.zero_add, Nat.reduceAdd]
      refine wpPi_do rfl (fun K hK => ?_)
      refine wp_exec (exec_makeFunc 41 [.tmp 3] (by rfl) [.pointer (some ⟨b3, 0, none⟩)] (by rfl)) ?_
      refine hK _ _ trivial ?_
      clear hK K
      try simp only [pl, pn, el, ec, sz, ss, gz, gs, if_true, if_false, Bool.false_eq_true, Bool.not_true, Bool.not_false, Nat.add_zero, Nat.zero_add, Nat.reduceAdd]
      refine wpPi_do rfl (fun K hK => ?_)
      refine wp_enterQ (run_call 40 [.tmp 12, .tmp 13] _ rfl _ Try.func40 rfl (by kernel_rfl) [.slice ad es.length cap, .func (.func 41) #[] #[.pointer (some ⟨b3, 0, none⟩)]] rfl _) (containsFn_any (HS.out.keep0 hM3) key b3 hB1) ?_
      rintro e w4 ⟨rfl, hm4⟩
      rw [hh]
      have hM4 := hM3.trans0 hm4
      replace hB1 := hm4.obj id hB1
      replace hB2 := hm4.obj id hB2
      have hs4 := hm4.size
      refine ⟨_, rfl, hK _ _ trivial ?_⟩
      clear hK K hm4
      try simp only [pl, pn, el, ec, sz, ss, gz, gs, if_true, if_false, Bool.false_eq_true, Bool.not_true, Bool.not_false, Nat.add_zero, Nat.zero_add, Nat.reduceAdd]
      refine wpPi_not _ _ _ rfl rfl rfl ?_
      simp only [pl, pn, el, ec, sz, ss, gz, gs, if_true, if_false, Bool.false_eq_true, Bool.not_true, Bool.not_false, Nat.add_zero, Nat.zero_add, Nat.reduceAdd]
      refine wpPi_nil ?_
      have hkc := CellsAt.one.1 (CellsAt.whole hB1)
      have hoc := hB2
      have hlz : (shaL key.data.toList).length = 32 := shaL_len _
      have hbE := built_entK key
      clear hM3 hh herr
      go_upto_region 6 with (fail)
      have hd : Mod NoB w4 w4.drew := (Mod.refl _ _).drew
      have hS : Mod (fun k => k = b4) w4 w4.drew := (Mod.refl _ _).drew
      refine wp_region_pi [(0, 3), (2, 0), (3, 0), (1, 1), (4, 1), (5, 0), (6, 1)] [] (fun w' => Mod (fun k => k = b4) w4 w') (by kernel_rfl) (by kernel_rfl) (by kernel_rfl) (by kernel_rfl) (fun _ _ _ _ hd h => ⟨hd.trans h.1, h.2⟩) hS ?_
      simp only [List.map_cons, List.map_nil, List.getD_cons_zero, List.getD_cons_succ]
      refine wpPi_move _ rfl rfl ?_
      simp only [pl, pn, el, ec, sz, ss, gz, gs, if_true, if_false, Bool.false_eq_true, Bool.not_true, Bool.not_false, Nat.add_zero, Nat.zero_add, Nat.reduceAdd]
      refine wpPi_val rfl (fun w' hS => exec_load1 9 _ (by rfl) b3 0 (by rfl) (.string key) (hS.cell (by omega) hkc) _ Try.underlying9 rfl) ?_
      simp only [pl, pn, el, ec, sz, ss, gz, gs, if_true, if_false, Bool.false_eq_true, Bool.not_true, Bool.not_false, Nat.add_zero, Nat.zero_add, Nat.reduceAdd]
      refine wpPi_val rfl (fun w' hS => exec_build_of 35 [(0, _)] [(0, .string key)] _ (by rfl) (by rfl) hbE) ?_
      simp only [pl, pn, el, ec, sz, ss, gz, gs, if_true, if_false, Bool.false_eq_true, Bool.not_true, Bool.not_false, Nat.add_zero, Nat.zero_add, Nat.reduceAdd]
      refine wpPi_do rfl (fun K hK => ?_)
      refine wp_enterQ (run_call 28 [.tmp 16] _ rfl _ Try.func28 rfl (by kernel_rfl) [.slice ad es.length cap] rfl _) (sorted_any (HS.out.keep0 (hM4.trans0 hd)) HSH.out (by omega)) ?_
      rintro e w5 ⟨v5, ls, rfl, hl5, hsr5, hm5⟩
      have hd5 := hd.trans0 hm5
      refine ⟨_, rfl, hK _ _ (hd5.mono fun _ _ h => h.elim) ?_⟩
      clear hK K
      try simp only [pl, pn, el, ec, sz, ss, gz, gs, if_true, if_false, Bool.false_eq_true, Bool.not_true, Bool.not_false, Nat.add_zero, Nat.zero_add, Nat.reduceAdd]
      refine wpPi_do rfl (fun K hK => ?_)
      refine wp_enterQ (run_call 43 [.tmp 19] _ rfl _ Try.func43 rfl (by kernel_rfl) [.agg #[.string key, .slice none 0 0]] rfl _) (of_any (G := fun _ => True) (e := (key, [])) ⟨_, rfl, Sl.nil _ _ _ _ _⟩ hkey (by simp)) ?_
      rintro e w6 ⟨rfl, hm6⟩
      have hd6 := hd5.trans0 hm6
      refine ⟨_, rfl, hK _ _ (hd6.mono fun _ _ h => h.elim) ?_⟩
      clear hK K
      try simp only [pl, pn, el, ec, sz, ss, gz, gs, if_true, if_false, Bool.false_eq_true, Bool.not_true, Bool.not_false, Nat.add_zero, Nat.zero_add, Nat.reduceAdd]
      refine wpPi_val rfl (fun w' hS => exec_field_way _ (leafOf (key, [])) (leaf_len _) rfl rfl) ?_
      simp only [pl, pn, el, ec, sz, ss, gz, gs, if_true, if_false, Bool.false_eq_true, Bool.not_true, Bool.not_false, Nat.add_zero, Nat.zero_add, Nat.reduceAdd]
      refine wpPi_do rfl (fun K hK => ?_)
      refine wp_enterQ (run_call 42 [.tmp 17, .tmp 21, .const (.int .i64 0), .tmp 4] _ rfl _ Try.func42 rfl (by kernel_rfl) [v5, .agg (idCells (shaL key.data.toList)), .int .i64 ((0 : Nat) : Int), .pointer (some ⟨b4, 0, none⟩)] rfl _) (path_any 256 0 ls v5 (.slice none 0 0) _ [] (shaL key.data.toList) b4 rfl (Ls.keep0 hl5 hm6).all (placed_of hsr5 HC.out) (by rw [sorted_len hsr5]; omega) hlz (hd6.obj id hoc) (Gat.nil _ _ _ _ _) (by simp)) ?_
      rintro e w7 ⟨rfl, v7, h7a, h7b, h7c, h7d⟩
      have hsz6 := hd6.size
      have h7m : Mod (fun k => k = b4) _ w7 := h7d.mono (fun k _ h => h.elim id (fun e => by cases e))
      have hS7 : Mod (fun k => k = b4) w4 w7 := (hd6.mono fun _ _ h => h.elim).trans h7m (fun _ _ h => h)
      have hpp : [] ++ pathL (shaL key.data.toList) 256 0 ls = pathOut es key := by unfold pathOut; rw [if_pos HE.out, List.nil_append]; exact path_perm _ _ _ hsr5.1
      rw [hpp] at h7b
      have hv7 : v7.oneCell' = true := owns_one h7b
      have hg7 : Gat sideEnc 84 33 w.heap.size w7 v7 (pathOut es key) := h7b.rebase (fun g hg => (h7c g hg).elim (fun e => by cases e) (fun h => by omega))
      refine ⟨_, rfl, hK _ _ hS7 ?_⟩
      clear hK K
      try simp only [pl, pn, el, ec, sz, ss, gz, gs, if_true, if_false, Bool.false_eq_true, Bool.not_true, Bool.not_false, Nat.add_zero, Nat.zero_add, Nat.reduceAdd]
      refine wpPi_nil ?_
      have hM7 : Mod NoB w w7 := hM4.trans hS7 (fun k hk e => by have e' : k = b4 := e; omega)
      have hg74 : ∀ g, v7.ownBlock = some g → g ≠ b4 := fun g hg e => by
        subst e
        exact own_ne h7b h7a (by decide) hg
      clear h7m h7d hS7 hd hd5 hd6 hS hm5 hm6 hl5 hM4 hB2 hoc
      have h7cell := CellsAt.one.1 (CellsAt.whole h7a)
      go_upto_region 7 with (fail)
      refine wp_region_seq [1, 1, 3] (fun _ => True) (by rfl) (by rfl) trivial ?_
      simp only [List.zip_cons_cons, List.zip_nil_right]
      refine wpPi_do rfl (fun K hK => ?_)
      refine wp_exec (exec_load1 41 _ (by rfl) b4 0 (by rfl) v7 h7cell _ Try.underlying41 rfl) ?_
      refine hK _ _ trivial ?_
      clear hK K
      try simp only [pl, pn, el, ec, sz, ss, gz, gs, if_true, if_false, Bool.false_eq_true, Bool.not_true, Bool.not_false, Nat.add_zero, Nat.zero_add, Nat.reduceAdd]
      refine wpPi_do rfl (fun K hK => ?_)
      refine wp_store1 41 _ _ b4 0 v7 (by rfl) (by rfl) (by rfl) hv7 (by kernel_rfl) _ _ h7a (by simp) (fun w8 hB8 hm8 => ?_)
      replace hB8 : w8.heap[b4]? = some (.cells #[v7] 41 (0, 0)) := hB8
      refine hK _ _ trivial ?_
      clear hK K
      try simp only [pl, pn, el, ec, sz, ss, gz, gs, if_true, if_false, Bool.false_eq_true, Bool.not_true, Bool.not_false, Nat.add_zero, Nat.zero_add, Nat.reduceAdd]
      refine wpPi_assign _ rfl rfl ?_
      simp only [pl, pn, el, ec, sz, ss, gz, gs, if_true, if_false, Bool.false_eq_true, Bool.not_true, Bool.not_false, Nat.add_zero, Nat.zero_add, Nat.reduceAdd]
      refine wpPi_nil ?_
      have hM8 : Mod NoB w w8 := hM7.transB hm8 (by omega)
      have hg8 := hg7.keep hm8 hg74
      have h8c := CellsAt.one.1 (CellsAt.whole hB8)
      clear hm8 hM7 hg7 h7b h7a
      go_wp2
      refine bodyPost_ret (results_one_tmp (P := Try.prog) (ty := 41) rfl _ _ b4 _ _ (by rfl) h8c Try.underlying41 rfl) rfl ?_
      exact ⟨_, by rw [HE.out]; rfl, hg8, hM8⟩
    | false =>
      have herr : errP es key = 26 := by unfold errP; rw [if_neg (by rw [HC.out]; simp), if_neg (by rw [hh]; simp)]
      have hout : pathOut es key = [] := by unfold pathOut; rw [if_neg (by rw [herr]; simp)]
      have HE := Lib.hid herr
      have HO := Lib.hid hout
      go_upto_region 4 with (fail)
      refine wp_region_seq [3, 1, 1, 3] (fun _ => True) (by rfl) (by rfl) trivial ?_
      simp only [List.zip_cons_cons, List.zip_nil_right]
      refine wpPi_move _ rfl rfl ?_
      simp only [pl, pn, el, ec, sz, ss, gz, gs, if_true, if_false, Bool.false_eq_true, Bool.not_true, Bool.not_false, Nat.add_zero, Nat.zero_add, Nat.reduceAdd]
      refine wpPi_do rfl (fun K hK => ?_)
      refine wp_exec (exec_makeFunc 41 [.tmp 3] (by rfl) [.pointer (some ⟨b3, 0, none⟩)] (by rfl)) ?_
      refine hK _ _ trivial ?_
      clear hK K
      try simp only [pl, pn, el, ec, sz, ss, gz, gs, if_true, if_false, Bool.false_eq_true, Bool.not_true, Bool.not_false, Nat.add_zero, Nat.zero_add, Nat.reduceAdd]
      refine wpPi_do rfl (fun K hK => ?_)
      refine wp_enterQ (run_call 40 [.tmp 12, .tmp 13] _ rfl _ Try.func40 rfl (by kernel_rfl) [.slice ad es.length cap, .func (.func 41) #[] #[.pointer (some ⟨b3, 0, none⟩)]] rfl _) (containsFn_any (HS.out.keep0 hM3) key b3 hB1) ?_
      rintro e w4 ⟨rfl, hm4⟩
      rw [hh]
      have hM4 := hM3.trans0 hm4
      replace hB2 := hm4.obj id hB2
      refine ⟨_, rfl, hK _ _ trivial ?_⟩
      clear hK K hm4
      try simp only [pl, pn, el, ec, sz, ss, gz, gs, if_true, if_false, Bool.false_eq_true, Bool.not_true, Bool.not_false, Nat.add_zero, Nat.zero_add, Nat.reduceAdd]
      refine wpPi_not _ _ _ rfl rfl rfl ?_
      simp only [pl, pn, el, ec, sz, ss, gz, gs, if_true, if_false, Bool.false_eq_true, Bool.not_true, Bool.not_false, Nat.add_zero, Nat.zero_add, Nat.reduceAdd]
      refine wpPi_nil ?_
      clear hM3 hh herr hout hB1
      go_upto_region 5 with (fail)
      refine wp_region_seq [1, 3] (fun _ => True) (by rfl) (by rfl) trivial ?_
      simp only [List.zip_cons_cons, List.zip_nil_right]
      refine wpPi_do rfl (fun K hK => ?_)
      refine wp_store1 41 _ _ b4 0 (.slice none 0 0) (by rfl) (by rfl) (by rfl) rfl (by kernel_rfl) _ _ hB2 (by simp) (fun w8 hB8 hm8 => ?_)
      replace hB8 : w8.heap[b4]? = some (.cells #[.slice none 0 0] 41 (0, 0)) := hB8
      refine hK _ _ trivial ?_
      clear hK K
      try simp only [pl, pn, el, ec, sz, ss, gz, gs, if_true, if_false, Bool.false_eq_true, Bool.not_true, Bool.not_false, Nat.add_zero, Nat.zero_add, Nat.reduceAdd]
      refine wpPi_assign _ rfl rfl ?_
      simp only [pl, pn, el, ec, sz, ss, gz, gs, if_true, if_false, Bool.false_eq_true, Bool.not_true, Bool.not_false, Nat.add_zero, Nat.zero_add, Nat.reduceAdd]
      refine wpPi_nil ?_
      have hM8 : Mod NoB w w8 := hM4.transB hm8 (by omega)
      have h8c := CellsAt.one.1 (CellsAt.whole hB8)
      clear hm8 hM4 hB2
      go_wp2
      refine bodyPost_ret (results_one_tmp (P := Try.prog) (ty := 41) rfl _ _ b4 _ _ (by rfl) h8c Try.underlying41 rfl) rfl ?_
      exact ⟨_, by rw [HE.out]; rfl, by rw [HO.out]; exact Gat.nil _ _ _ _ _, hM8⟩
  · have hc2 : ¬ ((chkE es : Nat) : Int) = 0 := by omega
    have herr : errP es key = chkE es := by unfold errP; rw [if_pos hc]
    have hout : pathOut es key = [] := by unfold pathOut; rw [if_neg (by rw [herr]; exact hc)]
    have HE := Lib.hid herr
    have HO := Lib.hid hout
    clear hc herr hout hB1 hM2
    go_upto_region 3 with (fail)
    refine wp_region_seq [3, 1, 3] (fun _ => True) (by rfl) (by rfl) trivial ?_
    simp only [List.zip_cons_cons, List.zip_nil_right]
    refine wpPi_move _ rfl rfl ?_
    simp only [pl, pn, el, ec, sz, ss, gz, gs, if_true, if_false, Bool.false_eq_true, Bool.not_true, Bool.not_false, Nat.add_zero, Nat.zero_add, Nat.reduceAdd]
    refine wpPi_do rfl (fun K hK => ?_)
    refine wp_store1 41 _ _ b4 0 (.slice none 0 0) (by rfl) (by rfl) (by rfl) rfl (by kernel_rfl) _ _ hB2 (by simp) (fun w8 hB8 hm8 => ?_)
    replace hB8 : w8.heap[b4]? = some (.cells #[.slice none 0 0] 41 (0, 0)) := hB8
    refine hK _ _ trivial ?_
    clear hK K
    try simp only [pl, pn, el, ec, sz, ss, gz, gs, if_true, if_false, Bool.false_eq_true, Bool.not_true, Bool.not_false, Nat.add_zero, Nat.zero_add, Nat.reduceAdd]
    refine wpPi_assign _ rfl rfl ?_
    simp only [pl, pn, el, ec, sz, ss, gz, gs, if_true, if_false, Bool.false_eq_true, Bool.not_true, Bool.not_false, Nat.add_zero, Nat.zero_add, Nat.reduceAdd]
    refine wpPi_nil ?_
    have hM8 : Mod NoB w w8 := hM3.transB hm8 (by omega)
    have h8c := CellsAt.one.1 (CellsAt.whole hB8)
    clear hm8 hM3 hB2
    go_wp2
    refine bodyPost_ret (results_one_tmp (P := Try.prog) (ty := 41) rfl _ _ b4 _ _ (by rfl) h8c Try.underlying41 rfl) rfl ?_
    exact ⟨_, by rw [HE.out]; rfl, by rw [HO.out]; exact Gat.nil _ _ _ _ _, hM8⟩
end Go.Proofs.Ytchkikmmcmjcgaa
