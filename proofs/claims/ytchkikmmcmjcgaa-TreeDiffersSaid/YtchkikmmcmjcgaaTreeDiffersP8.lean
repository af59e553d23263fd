/- What the statement TreeDiffers needs, part 8. -/
import Derived.WalkKit
import Derived.ProofKit
import Derived.OpenShut
import Derived.ChangeStays
import Derived.ChangeBook
import Derived.ChangeSlices
import Derived.Test.YtchkikmmcmjcgaaTreeDiffersP7
/- The document's tree: Differ. (Printed by RtrJ.gen.py.) -/
namespace Go.Proofs.Ytchkikmmcmjcgaa
set_option linter.unusedSimpArgs false
set_option linter.unusedVariables false
set_option linter.unnecessarySimpa false
set_option linter.unusedSectionVars false
open Go.RowKit Go.Shelf


def Cls (x y : Leaf) : Prop := x.way = y.way ∧ x.key ≠ y.key
def DfOut (xs ys : List Leaf) (w0 : World) (i : Value) (w : World) : Prop := ∃ k : Nat, k ≤ xs.length ∧ i = .int .i64 k ∧ (∀ p (hp : p < xs.length), p < k → ∀ y ∈ ys, ¬ Cls xs[p] y) ∧ Mod NoB w0 w
def DfIn (x : Leaf) (ys : List Leaf) (w0 : World) (i : Value) (w : World) : Prop := ∃ j : Nat, j ≤ ys.length ∧ i = .int .i64 j ∧ (∀ p (hp : p < ys.length), p < j → ¬ Cls x ys[p]) ∧ Mod NoB w0 w
theorem dfIn_succ {x : Leaf} {ys : List Leaf} {j : Nat} (h : ∀ p (hp : p < ys.length), p < j → ¬ Cls x ys[p]) (hj : j < ys.length) (e : ¬ Cls x ys[j]) : ∀ p (hp : p < ys.length), p < j + 1 → ¬ Cls x ys[p] := fun p hp h1 => by
  rcases Nat.lt_or_ge p j with h2 | h2
  · exact h p hp h2
  · obtain rfl : p = j := by omega
    exact e
theorem dfOut_succ {xs ys : List Leaf} {k : Nat} (h : ∀ p (hp : p < xs.length), p < k → ∀ y ∈ ys, ¬ Cls xs[p] y) (hk : k < xs.length) (e : ∀ p (hp : p < ys.length), p < ys.length → ¬ Cls xs[k] ys[p]) : ∀ p (hp : p < xs.length), p < k + 1 → ∀ y ∈ ys, ¬ Cls xs[p] y := fun p hp h1 y hy => by
  rcases Nat.lt_or_ge p k with h2 | h2
  · exact h p hp h2 y hy
  · obtain rfl : p = k := by omega
    obtain ⟨q, hq, rfl⟩ := List.getElem_of_mem hy
    exact e q hq hq
theorem errD_a {a b : List Ent} (h : chkE a ≠ 0) : errD a b = chkE a := by unfold errD; rw [if_pos h]
theorem errD_b {a b : List Ent} (h : chkE a = 0) (h2 : chkE b ≠ 0) : errD a b = chkE b := by unfold errD; rw [if_neg (fun k => k h), if_pos h2]
theorem errD_cls {a b : List Ent} (h : chkE a = 0) (h2 : chkE b = 0) {x y : Leaf} (hx : x ∈ leavesE a) (hy : y ∈ leavesE b) (hc : Cls x y) : errD a b = 9 := by
  unfold errD
  rw [if_neg (fun k => k h), if_neg (fun k => k h2), if_pos ⟨x, hx, y, hy, hc.1, hc.2⟩]
theorem errD_no {a b : List Ent} (h : chkE a = 0) (h2 : chkE b = 0) (hn : ∀ p (hp : p < (leavesE a).length), p < (leavesE a).length → ∀ y ∈ leavesE b, ¬ Cls (leavesE a)[p] y) : errD a b = 0 := by
  rw [errD_zero]
  refine ⟨h, h2, ?_⟩
  rintro ⟨x, hx, y, hy, h3, h4⟩
  obtain ⟨p, hp, rfl⟩ := List.getElem_of_mem hx
  exact hn p hp hp y hy ⟨h3, h4⟩
theorem difOk_err {a b : List Ent} (h : errD a b ≠ 0) : DifOk a b [] 0 := ⟨fun k => absurd k h, fun _ => ⟨rfl, rfl⟩⟩
set_option maxRecDepth 10000 in
set_option maxHeartbeats 2000000 in
theorem refDiffer_any {own own' : Bool} {w : World} {G G' : Nat → Prop} {va vb : Value} {a b : List Ent} (ha : Es own w G va a) (hb : Es own' w G' vb b) (hsa : Short a) (hsb : Short b) (hla : a.length ≤ 4096) (hlb : b.length ≤ 4096) :
    Calls Try.prog 12 #[va, vb] w (DfR w a b) := by
  have HA := Lib.hid ha
  have HB := Lib.hid hb
  have HSA := Lib.hid hsa
  have HSB := Lib.hid hsb
  obtain ⟨aa, ca, rfl, -, -⟩ := Sl.at ha
  obtain ⟨ab, cb, rfl, -, -⟩ := Sl.at hb
  clear ha hb hsa hsb
  go_enter Try.func12, Try.ntmps12
  go_upto_region 1 with (fail)
  refine wp_region_seq [3, 1, 3] (fun _ => True) (by rfl) (by rfl) trivial ?_
  simp only [List.zip_cons_cons, List.zip_nil_right]
  refine wpPi_move _ rfl rfl ?_
  simp only [pl, pn, el, ec, sz, ss, gz, gs, if_true, if_false, Bool.false_eq_true, Bool.not_true, Bool.not_false, Nat.add_zero, Nat.zero_add, Nat.reduceAdd]
  refine wpPi_do rfl (fun K hK => ?_)
  refine wp_enterQ (run_call 35 [.tmp 14] _ rfl _ Try.func35 rfl (by kernel_rfl) [.slice aa a.length ca] rfl _) (refCheck_any HA.out HSA.out hla) ?_
  rintro e w1 ⟨rfl, hm1⟩
  refine ⟨_, rfl, hK _ _ trivial ?_⟩
  clear hK K
  try simp only [pl, pn, el, ec, sz, ss, gz, gs, if_true, if_false, Bool.false_eq_true, Bool.not_true, Bool.not_false, Nat.add_zero, Nat.zero_add, Nat.reduceAdd]
  refine wpPi_assign _ rfl rfl ?_
  simp only [pl, pn, el, ec, sz, ss, gz, gs, if_true, if_false, Bool.false_eq_true, Bool.not_true, Bool.not_false, Nat.add_zero, Nat.zero_add, Nat.reduceAdd]
  refine wpPi_nil ?_
  by_cases hca : chkE a = 0
  rotate_left
  · have hze : ¬ ((chkE a : Nat) : Int) = 0 := by omega
    have hE := errD_a (b := b) hca
    have HO := Lib.hid (difOk_err (a := a) (b := b) (by rw [hE]; exact hca))
    have HE := Lib.hid hE
    clear hE hca
    go_wp2
    go_ret3
    exact ⟨_, [], 0, by rw [HE.out]; rfl, Gat.nil _ _ _ _ _, HO.out, hm1⟩
  have hzA : ((chkE a : Nat) : Int) = 0 := by omega
  rw [hca]
  clear hzA
  go_upto_region 3 with (fail)
  refine wp_region_seq [3, 1, 3] (fun _ => True) (by rfl) (by rfl) trivial ?_
  simp only [List.zip_cons_cons, List.zip_nil_right]
  refine wpPi_move _ rfl rfl ?_
  simp only [pl, pn, el, ec, sz, ss, gz, gs, if_true, if_false, Bool.false_eq_true, Bool.not_true, Bool.not_false, Nat.add_zero, Nat.zero_add, Nat.reduceAdd]
  refine wpPi_do rfl (fun K hK => ?_)
  refine wp_enterQ (run_call 35 [.tmp 18] _ rfl _ Try.func35 rfl (by kernel_rfl) [.slice ab b.length cb] rfl _) (refCheck_any (HB.out.keep0 hm1) HSB.out hlb) ?_
  rintro e w2 ⟨rfl, hm2⟩
  refine ⟨_, rfl, hK _ _ trivial ?_⟩
  clear hK K
  try simp only [pl, pn, el, ec, sz, ss, gz, gs, if_true, if_false, Bool.false_eq_true, Bool.not_true, Bool.not_false, Nat.add_zero, Nat.zero_add, Nat.reduceAdd]
  refine wpPi_assign _ rfl rfl ?_
  simp only [pl, pn, el, ec, sz, ss, gz, gs, if_true, if_false, Bool.false_eq_true, Bool.not_true, Bool.not_false, Nat.add_zero, Nat.zero_add, Nat.reduceAdd]
  refine wpPi_nil ?_
  have hM2 := hm1.trans0 hm2
  clear hm1 hm2
  by_cases hcb : chkE b = 0
  rotate_left
  · have hze : ¬ ((chkE b : Nat) : Int) = 0 := by omega
    have hE := errD_b hca hcb
    have HO := Lib.hid (difOk_err (a := a) (b := b) (by rw [hE]; exact hcb))
    have HE := Lib.hid hE
    clear hE hca hcb
    go_wp2
    go_ret3
    exact ⟨_, [], 0, by rw [HE.out]; rfl, Gat.nil _ _ _ _ _, HO.out, hM2⟩
  rw [hcb]
  have HCA := Lib.hid hca
  have HCB := Lib.hid hcb
  clear hca hcb
  go_upto_region 6 with (fail)
  refine wp_region_seq [3, 1, 3, 1, 3, 3] (fun _ => True) (by rfl) (by rfl) trivial ?_
  simp only [List.zip_cons_cons, List.zip_nil_right]
  refine wpPi_move _ rfl rfl ?_
  simp only [pl, pn, el, ec, sz, ss, gz, gs, if_true, if_false, Bool.false_eq_true, Bool.not_true, Bool.not_false, Nat.add_zero, Nat.zero_add, Nat.reduceAdd]
  refine wpPi_do rfl (fun K hK => ?_)
  refine wp_enterQ (run_call 36 [.tmp 23] _ rfl _ Try.func36 rfl (by kernel_rfl) [.slice aa a.length ca] rfl _) (refLeaves_any (HA.out.keep0 hM2) HSA.out hla) ?_
  rintro e w3 ⟨v8, rfl, hg8, hm3⟩
  refine ⟨_, rfl, hK _ _ trivial ?_⟩
  clear hK K
  try simp only [pl, pn, el, ec, sz, ss, gz, gs, if_true, if_false, Bool.false_eq_true, Bool.not_true, Bool.not_false, Nat.add_zero, Nat.zero_add, Nat.reduceAdd]
  refine wpPi_move _ rfl rfl ?_
  simp only [pl, pn, el, ec, sz, ss, gz, gs, if_true, if_false, Bool.false_eq_true, Bool.not_true, Bool.not_false, Nat.add_zero, Nat.zero_add, Nat.reduceAdd]
  refine wpPi_do rfl (fun K hK => ?_)
  refine wp_enterQ (run_call 36 [.tmp 25] _ rfl _ Try.func36 rfl (by kernel_rfl) [.slice ab b.length cb] rfl _) (refLeaves_any (HB.out.keep0 (hM2.trans0 hm3)) HSB.out hlb) ?_
  rintro e w4 ⟨v9, rfl, hg9, hm4⟩
  refine ⟨_, rfl, hK _ _ trivial ?_⟩
  clear hK K
  try simp only [pl, pn, el, ec, sz, ss, gz, gs, if_true, if_false, Bool.false_eq_true, Bool.not_true, Bool.not_false, Nat.add_zero, Nat.zero_add, Nat.reduceAdd]
  refine wpPi_assign _ rfl rfl ?_
  simp only [pl, pn, el, ec, sz, ss, gz, gs, if_true, if_false, Bool.false_eq_true, Bool.not_true, Bool.not_false, Nat.add_zero, Nat.zero_add, Nat.reduceAdd]
  refine wpPi_assign _ rfl rfl ?_
  simp only [pl, pn, el, ec, sz, ss, gz, gs, if_true, if_false, Bool.false_eq_true, Bool.not_true, Bool.not_false, Nat.add_zero, Nat.zero_add, Nat.reduceAdd]
  refine wpPi_nil ?_
  have hM4 := (hM2.trans0 hm3).trans0 hm4
  have hl8 := (gat_ls hg8).keep0 hm4
  have hl9 := gat_ls hg9
  rw [leafS_leaves] at hl8 hl9
  have hln8 : (leavesE a).length ≤ 4096 := by unfold leavesE; rw [List.length_map]; exact hla
  have hln9 : (leavesE b).length ≤ 4096 := by unfold leavesE; rw [List.length_map]; exact hlb
  have HLX := Lib.hid (lie_of_chk HCA.out)
  have HLY := Lib.hid (lie_of_chk HCB.out)
  have HMX := Lib.hid (made_leaves a)
  have HMY := Lib.hid (made_leaves b)
  have HCLS := Lib.hid (fun (x y : Leaf) (hx : x ∈ leavesE a) (hy : y ∈ leavesE b) (hc : Cls x y) => errD_cls HCA.out HCB.out hx hy hc)
  have HNO := Lib.hid (fun hn => errD_no HCA.out HCB.out hn)
  have HDF := Lib.hid (show difE a b = dif 256 0 (leavesE a) (leavesE b) from rfl)
  have HKY := Lib.hid (dif_keys 256 0 (leavesE a) (leavesE b))
  obtain ⟨xs, hxs⟩ : ∃ q, leavesE a = q := ⟨_, rfl⟩
  obtain ⟨ys, hys⟩ : ∃ q, leavesE b = q := ⟨_, rfl⟩
  rw [hxs] at hl8 hln8 HLX HMX HCLS HNO HDF HKY
  rw [hys] at hl9 hln9 HLY HMY HCLS HNO HDF HKY
  obtain ⟨ad8, cap8, rfl, -, -⟩ := Sl.at hl8
  obtain ⟨ad9, cap9, rfl, -, -⟩ := Sl.at hl9
  have HX := Lib.hid hl8
  have HY := Lib.hid hl9
  clear hg8 hg9 hl8 hl9 hxs hys hm3 hm4 hM2
  go_wp2
  go_loopw [10] (DfOut xs ys w4) (fun i _ => xs.length - (intOf i).toNat)
  case atStart => exact ⟨0, by omega, rfl, fun p _ h => by omega, Mod.refl _ _⟩
  case round =>
    rename World => wo
    obtain ⟨k, hk, rfl, hall, hmo⟩ := hrel
    have HALL := Lib.hid hall
    clear hall
    by_cases hlt : k < xs.length
    · have hz : (k : Int) < (xs.length : Int) := by omega
      obtain ⟨_, _, hv, -, hat⟩ := Sl.at (HX.out.keep0 hmo)
      cases hv
      obtain ⟨b1, off1, rfl, -, -, hc⟩ := hat k hlt
      obtain ⟨_, -, ⟨rfl, hok⟩, hc⟩ := hc k hlt
      have hkx0 := leaf_key hc
      have hwx0 := leaf_way hok hc
      have hxl := hok.1
      rw [Nat.add_zero] at hkx0
      have HXM := Lib.hid (show xs[k] ∈ xs from List.getElem_mem hlt)
      have HOS := Lib.hid (fun e => dfOut_succ HALL.out hlt e)
      obtain ⟨x, hx⟩ : ∃ q, xs[k] = q := ⟨_, rfl⟩
      rw [hx] at hkx0 hwx0 hxl HXM HOS
      have hxr : (idCells x.way).size = 32 := by rw [idCells_size, hxl]
      clear hat hc hok hx HALL
      go_wp2
      go_loopw [11] (DfIn x ys wo) (fun i _ => ys.length - (intOf i).toNat)
      case atStart => exact ⟨0, by omega, rfl, fun p _ h => by omega, Mod.refl _ _⟩
      case round =>
        rename World => wq
        obtain ⟨j, hj, rfl, hin, hmi⟩ := hrel
        have HIN := Lib.hid hin
        clear hin
        by_cases hlj : j < ys.length
        · have hz2 : (j : Int) < (ys.length : Int) := by omega
          obtain ⟨_, _, hv, -, hat⟩ := Sl.at (HY.out.keep0 (hmo.trans0 hmi))
          cases hv
          obtain ⟨b2, off2, rfl, -, -, hc⟩ := hat j hlj
          obtain ⟨_, -, ⟨rfl, hok⟩, hc⟩ := hc j hlj
          have hky := leaf_key hc
          have hwy := leaf_way hok hc
          have hyl := hok.1
          rw [Nat.add_zero] at hky
          have HYM := Lib.hid (show ys[j] ∈ ys from List.getElem_mem hlj)
          have HIS := Lib.hid (fun e => dfIn_succ HIN.out hlj e)
          obtain ⟨y, hy⟩ : ∃ q, ys[j] = q := ⟨_, rfl⟩
          rw [hy] at hky hwy hyl HYM HIS
          have hyr : (idCells y.way).size = 32 := by rw [idCells_size, hyl]
          have hkx := hmi.cell id hkx0
          have hwx := hwx0.keep hmi id
          clear hat hc hok hy HIN
          go_upto_region 13 with (fail)
          have hS : Mod NoB wq wq.drew := (Mod.refl _ _).drew
          by_cases hww : x.way = y.way
          · by_cases hkk : x.key ≠ y.key
            · have hE := HCLS.out x y HXM.out HYM.out ⟨hww, hkk⟩
              have HE := Lib.hid hE
              have HO := Lib.hid (difOk_err (a := a) (b := b) (by rw [hE]; simp))
              clear hE HIS HOS
              refine wp_region_pi [(0, 3), (1, 3), (2, 3), (3, 3), (4, 0), (5, 3), (6, 3), (7, 3), (8, 3), (9, 0), (10, 0), (11, 3), (12, 3), (13, 3), (14, 3), (15, 3), (16, 0), (17, 3), (18, 3), (19, 3), (20, 3), (21, 0), (22, 0), (23, 3)] [] (fun w' => Mod NoB wq w') (by kernel_rfl) (by kernel_rfl) (by kernel_rfl) (by kernel_rfl) (fun _ _ _ _ hd h => ⟨hd.trans h.1, h.2⟩) hS ?_
              simp only [List.map_cons, List.map_nil, List.getD_cons_zero, List.getD_cons_succ]
              refine wpPi_move _ rfl rfl ?_
              simp only [pl, pn, el, ec, sz, ss, gz, gs, if_true, if_false, Bool.false_eq_true, Bool.not_true, Bool.not_false, Nat.add_zero, Nat.zero_add, Nat.reduceAdd]
              refine wpPi_move _ rfl rfl ?_
              simp only [pl, pn, el, ec, sz, ss, gz, gs, if_true, if_false, Bool.false_eq_true, Bool.not_true, Bool.not_false, Nat.add_zero, Nat.zero_add, Nat.reduceAdd]
              refine wpPi_index _ _ _ _ _ _ _ _ _ rfl rfl rfl rfl Try.underlying71 (n := 65) (by kernel_rfl) hlt ?_
              simp only [pl, pn, el, ec, sz, ss, gz, gs, if_true, if_false, Bool.false_eq_true, Bool.not_true, Bool.not_false, Nat.add_zero, Nat.zero_add, Nat.reduceAdd]
              refine wpPi_field _ _ _ _ _ _ rfl rfl rfl fo_74_1 ?_
              simp only [pl, pn, el, ec, sz, ss, gz, gs, if_true, if_false, Bool.false_eq_true, Bool.not_true, Bool.not_false, Nat.add_zero, Nat.zero_add, Nat.reduceAdd]
              refine wpPi_val rfl (fun w' hS => exec_loadA 38 _ (by rfl) b1 (off1 + k * 65 + 1) (by rfl) (idCells x.way) (hwx.keep hS id) _ Try.underlying38 rfl 32 (by kernel_rfl) hxr) ?_
              simp only [pl, pn, el, ec, sz, ss, gz, gs, if_true, if_false, Bool.false_eq_true, Bool.not_true, Bool.not_false, Nat.add_zero, Nat.zero_add, Nat.reduceAdd]
              refine wpPi_move _ rfl rfl ?_
              simp only [pl, pn, el, ec, sz, ss, gz, gs, if_true, if_false, Bool.false_eq_true, Bool.not_true, Bool.not_false, Nat.add_zero, Nat.zero_add, Nat.reduceAdd]
              refine wpPi_move _ rfl rfl ?_
              simp only [pl, pn, el, ec, sz, ss, gz, gs, if_true, if_false, Bool.false_eq_true, Bool.not_true, Bool.not_false, Nat.add_zero, Nat.zero_add, Nat.reduceAdd]
              refine wpPi_index _ _ _ _ _ _ _ _ _ rfl rfl rfl rfl Try.underlying71 (n := 65) (by kernel_rfl) hlj ?_
              simp only [pl, pn, el, ec, sz, ss, gz, gs, if_true, if_false, Bool.false_eq_true, Bool.not_true, Bool.not_false, Nat.add_zero, Nat.zero_add, Nat.reduceAdd]
              refine wpPi_field _ _ _ _ _ _ rfl rfl rfl fo_74_1 ?_
              simp only [pl, pn, el, ec, sz, ss, gz, gs, if_true, if_false, Bool.false_eq_true, Bool.not_true, Bool.not_false, Nat.add_zero, Nat.zero_add, Nat.reduceAdd]
              refine wpPi_val rfl (fun w' hS => exec_loadA 38 _ (by rfl) b2 (off2 + j * 65 + 1) (by rfl) (idCells y.way) (hwy.keep hS id) _ Try.underlying38 rfl 32 (by kernel_rfl) hyr) ?_
              simp only [pl, pn, el, ec, sz, ss, gz, gs, if_true, if_false, Bool.false_eq_true, Bool.not_true, Bool.not_false, Nat.add_zero, Nat.zero_add, Nat.reduceAdd]
              refine wpPi_val rfl (fun w' hS => exec_eql_id _ _ _ _ rfl x.way y.way rfl rfl 32 5 Try.underlying38 Try.underlying5 (by kernel_rfl) (by kernel_rfl) hxl hyl true (decide_eq_true hww)) ?_
              simp only [pl, pn, el, ec, sz, ss, gz, gs, if_true, if_false, Bool.false_eq_true, Bool.not_true, Bool.not_false, Nat.add_zero, Nat.zero_add, Nat.reduceAdd]
              refine wpPi_move _ rfl rfl ?_
              simp only [pl, pn, el, ec, sz, ss, gz, gs, if_true, if_false, Bool.false_eq_true, Bool.not_true, Bool.not_false, Nat.add_zero, Nat.zero_add, Nat.reduceAdd]
              refine wpPi_move _ rfl rfl ?_
              simp only [pl, pn, el, ec, sz, ss, gz, gs, if_true, if_false, Bool.false_eq_true, Bool.not_true, Bool.not_false, Nat.add_zero, Nat.zero_add, Nat.reduceAdd]
              refine wpPi_move _ rfl rfl ?_
              simp only [pl, pn, el, ec, sz, ss, gz, gs, if_true, if_false, Bool.false_eq_true, Bool.not_true, Bool.not_false, Nat.add_zero, Nat.zero_add, Nat.reduceAdd]
              refine wpPi_index _ _ _ _ _ _ _ _ _ rfl rfl rfl rfl Try.underlying71 (n := 65) (by kernel_rfl) hlt ?_
              simp only [pl, pn, el, ec, sz, ss, gz, gs, if_true, if_false, Bool.false_eq_true, Bool.not_true, Bool.not_false, Nat.add_zero, Nat.zero_add, Nat.reduceAdd]
              refine wpPi_field _ _ _ _ _ _ rfl rfl rfl fo_74_0 ?_
              simp only [pl, pn, el, ec, sz, ss, gz, gs, if_true, if_false, Bool.false_eq_true, Bool.not_true, Bool.not_false, Nat.add_zero, Nat.zero_add, Nat.reduceAdd]
              refine wpPi_val rfl (fun w' hS => exec_load1 9 _ (by rfl) b1 (off1 + k * 65) (by rfl) (.string x.key) (hS.cell id hkx) _ Try.underlying9 rfl) ?_
              simp only [pl, pn, el, ec, sz, ss, gz, gs, if_true, if_false, Bool.false_eq_true, Bool.not_true, Bool.not_false, Nat.add_zero, Nat.zero_add, Nat.reduceAdd]
              refine wpPi_move _ rfl rfl ?_
              simp only [pl, pn, el, ec, sz, ss, gz, gs, if_true, if_false, Bool.false_eq_true, Bool.not_true, Bool.not_false, Nat.add_zero, Nat.zero_add, Nat.reduceAdd]
              refine wpPi_move _ rfl rfl ?_
              simp only [pl, pn, el, ec, sz, ss, gz, gs, if_true, if_false, Bool.false_eq_true, Bool.not_true, Bool.not_false, Nat.add_zero, Nat.zero_add, Nat.reduceAdd]
              refine wpPi_index _ _ _ _ _ _ _ _ _ rfl rfl rfl rfl Try.underlying71 (n := 65) (by kernel_rfl) hlj ?_
              simp only [pl, pn, el, ec, sz, ss, gz, gs, if_true, if_false, Bool.false_eq_true, Bool.not_true, Bool.not_false, Nat.add_zero, Nat.zero_add, Nat.reduceAdd]
              refine wpPi_field _ _ _ _ _ _ rfl rfl rfl fo_74_0 ?_
              simp only [pl, pn, el, ec, sz, ss, gz, gs, if_true, if_false, Bool.false_eq_true, Bool.not_true, Bool.not_false, Nat.add_zero, Nat.zero_add, Nat.reduceAdd]
              refine wpPi_val rfl (fun w' hS => exec_load1 9 _ (by rfl) b2 (off2 + j * 65) (by rfl) (.string y.key) (hS.cell id hky) _ Try.underlying9 rfl) ?_
              simp only [pl, pn, el, ec, sz, ss, gz, gs, if_true, if_false, Bool.false_eq_true, Bool.not_true, Bool.not_false, Nat.add_zero, Nat.zero_add, Nat.reduceAdd]
              refine wpPi_val rfl (fun w' hS => exec_neq_str _ _ _ _ rfl x.key y.key rfl rfl true (decide_eq_true hkk)) ?_
              simp only [pl, pn, el, ec, sz, ss, gz, gs, if_true, if_false, Bool.false_eq_true, Bool.not_true, Bool.not_false, Nat.add_zero, Nat.zero_add, Nat.reduceAdd]
              refine wpPi_pick _ _ _ _ rfl rfl rfl ?_
              simp only [pl, pn, el, ec, sz, ss, gz, gs, if_true, if_false, Bool.false_eq_true, Bool.not_true, Bool.not_false, Nat.add_zero, Nat.zero_add, Nat.reduceAdd]
              refine wpPi_nil ?_
              have hMr := ((hM4.trans0 hmo).trans0 hmi).trans0 hS
              clear hS hmi hmo
              go_wp2
              go_ret3
              exact ⟨_, [], 0, by rw [HE.out]; rfl, Gat.nil _ _ _ _ _, HO.out, hMr⟩
            · have HN := Lib.hid (HIS.out (fun h => hkk h.2))
              clear HIS
              refine wp_region_pi [(0, 3), (1, 3), (2, 3), (3, 3), (4, 0), (5, 3), (6, 3), (7, 3), (8, 3), (9, 0), (10, 0), (11, 3), (12, 3), (13, 3), (14, 3), (15, 3), (16, 0), (17, 3), (18, 3), (19, 3), (20, 3), (21, 0), (22, 0), (23, 3)] [] (fun w' => Mod NoB wq w') (by kernel_rfl) (by kernel_rfl) (by kernel_rfl) (by kernel_rfl) (fun _ _ _ _ hd h => ⟨hd.trans h.1, h.2⟩) hS ?_
              simp only [List.map_cons, List.map_nil, List.getD_cons_zero, List.getD_cons_succ]
              refine wpPi_move _ rfl rfl ?_
              simp only [pl, pn, el, ec, sz, ss, gz, gs, if_true, if_false, Bool.false_eq_true, Bool.not_true, Bool.not_false, Nat.add_zero, Nat.zero_add, Nat.reduceAdd]
              refine wpPi_move _ rfl rfl ?_
              simp only [pl, pn, el, ec, sz, ss, gz, gs, if_true, if_false, Bool.false_eq_true, Bool.not_true, Bool.not_false, Nat.add_zero, Nat.zero_add, Nat.reduceAdd]
              refine wpPi_index _ _ _ _ _ _ _ _ _ rfl rfl rfl rfl Try.underlying71 (n := 65) (by kernel_rfl) hlt ?_
              simp only [pl, pn, el, ec, sz, ss, gz, gs, if_true, if_false, Bool.false_eq_true, Bool.not_true, Bool.not_false, Nat.add_zero, Nat.zero_add, Nat.reduceAdd]
              refine wpPi_field _ _ _ _ _ _ rfl rfl rfl fo_74_1 ?_
              simp only [pl, pn, el, ec, sz, ss, gz, gs, if_true, if_false, Bool.false_eq_true, Bool.not_true, Bool.not_false, Nat.add_zero, Nat.zero_add, Nat.reduceAdd]
              refine wpPi_val rfl (fun w' hS => exec_loadA 38 _ (by rfl) b1 (off1 + k * 65 + 1) (by rfl) (idCells x.way) (hwx.keep hS id) _ Try.underlying38 rfl 32 (by kernel_rfl) hxr) ?_
              simp only [pl, pn, el, ec, sz, ss, gz, gs, if_true, if_false, Bool.false_eq_true, Bool.not_true, Bool.not_false, Nat.add_zero, Nat.zero_add, Nat.reduceAdd]
              refine wpPi_move _ rfl rfl ?_
              simp only [pl, pn, el, ec, sz, ss, gz, gs, if_true, if_false, Bool.false_eq_true, Bool.not_true, Bool.not_false, Nat.add_zero, Nat.zero_add, Nat.reduceAdd]
              refine wpPi_move _ rfl rfl ?_
              simp only [pl, pn, el, ec, sz, ss, gz, gs, if_true, if_false, Bool.false_eq_true, Bool.not_true, Bool.not_false, Nat.add_zero, Nat.zero_add, Nat.reduceAdd]
              refine wpPi_index _ _ _ _ _ _ _ _ _ rfl rfl rfl rfl Try.underlying71 (n := 65) (by kernel_rfl) hlj ?_
              simp only [pl, pn, el, ec, sz, ss, gz, gs, if_true, if_false, Bool.false_eq_true, Bool.not_true, Bool.not_false, Nat.add_zero, Nat.zero_add, Nat.reduceAdd]
              refine wpPi_field _ _ _ _ _ _ rfl rfl rfl fo_74_1 ?_
              simp only [pl, pn, el, ec, sz, ss, gz, gs, if_true, if_false, Bool.false_eq_true, Bool.not_true, Bool.not_false, Nat.add_zero, Nat.zero_add, Nat.reduceAdd]
              refine wpPi_val rfl (fun w' hS => exec_loadA 38 _ (by rfl) b2 (off2 + j * 65 + 1) (by rfl) (idCells y.way) (hwy.keep hS id) _ Try.underlying38 rfl 32 (by kernel_rfl) hyr) ?_
              simp only [pl, pn, el, ec, sz, ss, gz, gs, if_true, if_false, Bool.false_eq_true, Bool.not_true, Bool.not_false, Nat.add_zero, Nat.zero_add, Nat.reduceAdd]
              refine wpPi_val rfl (fun w' hS => exec_eql_id _ _ _ _ rfl x.way y.way rfl rfl 32 5 Try.underlying38 Try.underlying5 (by kernel_rfl) (by kernel_rfl) hxl hyl true (decide_eq_true hww)) ?_
              simp only [pl, pn, el, ec, sz, ss, gz, gs, if_true, if_false, Bool.false_eq_true, Bool.not_true, Bool.not_false, Nat.add_zero, Nat.zero_add, Nat.reduceAdd]
              refine wpPi_move _ rfl rfl ?_
              simp only [pl, pn, el, ec, sz, ss, gz, gs, if_true, if_false, Bool.false_eq_true, Bool.not_true, Bool.not_false, Nat.add_zero, Nat.zero_add, Nat.reduceAdd]
              refine wpPi_move _ rfl rfl ?_
              simp only [pl, pn, el, ec, sz, ss, gz, gs, if_true, if_false, Bool.false_eq_true, Bool.not_true, Bool.not_false, Nat.add_zero, Nat.zero_add, Nat.reduceAdd]
              refine wpPi_move _ rfl rfl ?_
              simp only [pl, pn, el, ec, sz, ss, gz, gs, if_true, if_false, Bool.false_eq_true, Bool.not_true, Bool.not_false, Nat.add_zero, Nat.zero_add, Nat.reduceAdd]
              refine wpPi_index _ _ _ _ _ _ _ _ _ rfl rfl rfl rfl Try.underlying71 (n := 65) (by kernel_rfl) hlt ?_
              simp only [pl, pn, el, ec, sz, ss, gz, gs, if_true, if_false, Bool.false_eq_true, Bool.not_true, Bool.not_false, Nat.add_zero, Nat.zero_add, Nat.reduceAdd]
              refine wpPi_field _ _ _ _ _ _ rfl rfl rfl fo_74_0 ?_
              simp only [pl, pn, el, ec, sz, ss, gz, gs, if_true, if_false, Bool.false_eq_true, Bool.not_true, Bool.not_false, Nat.add_zero, Nat.zero_add, Nat.reduceAdd]
              refine wpPi_val rfl (fun w' hS => exec_load1 9 _ (by rfl) b1 (off1 + k * 65) (by rfl) (.string x.key) (hS.cell id hkx) _ Try.underlying9 rfl) ?_
              simp only [pl, pn, el, ec, sz, ss, gz, gs, if_true, if_false, Bool.false_eq_true, Bool.not_true, Bool.not_false, Nat.add_zero, Nat.zero_add, Nat.reduceAdd]
              refine wpPi_move _ rfl rfl ?_
              simp only [pl, pn, el, ec, sz, ss, gz, gs, if_true, if_false, Bool.false_eq_true, Bool.not_true, Bool.not_false, Nat.add_zero, Nat.zero_add, Nat.reduceAdd]
              refine wpPi_move _ rfl rfl ?_
              simp only [pl, pn, el, ec, sz, ss, gz, gs, if_true, if_false, Bool.false_eq_true, Bool.not_true, Bool.not_false, Nat.add_zero, Nat.zero_add, Nat.reduceAdd]
              refine wpPi_index _ _ _ _ _ _ _ _ _ rfl rfl rfl rfl Try.underlying71 (n := 65) (by kernel_rfl) hlj ?_
              simp only [pl, pn, el, ec, sz, ss, gz, gs, if_true, if_false, Bool.false_eq_true, Bool.not_true, Bool.not_false, Nat.add_zero, Nat.zero_add, Nat.reduceAdd]
              refine wpPi_field _ _ _ _ _ _ rfl rfl rfl fo_74_0 ?_
              simp only [pl, pn, el, ec, sz, ss, gz, gs, if_true, if_false, Bool.false_eq_true, Bool.not_true, Bool.not_false, Nat.add_zero, Nat.zero_add, Nat.reduceAdd]
              refine wpPi_val rfl (fun w' hS => exec_load1 9 _ (by rfl) b2 (off2 + j * 65) (by rfl) (.string y.key) (hS.cell id hky) _ Try.underlying9 rfl) ?_
              simp only [pl, pn, el, ec, sz, ss, gz, gs, if_true, if_false, Bool.false_eq_true, Bool.not_true, Bool.not_false, Nat.add_zero, Nat.zero_add, Nat.reduceAdd]
              refine wpPi_val rfl (fun w' hS => exec_neq_str _ _ _ _ rfl x.key y.key rfl rfl false (decide_eq_false hkk)) ?_
              simp only [pl, pn, el, ec, sz, ss, gz, gs, if_true, if_false, Bool.false_eq_true, Bool.not_true, Bool.not_false, Nat.add_zero, Nat.zero_add, Nat.reduceAdd]
              refine wpPi_pick _ _ _ _ rfl rfl rfl ?_
              simp only [pl, pn, el, ec, sz, ss, gz, gs, if_true, if_false, Bool.false_eq_true, Bool.not_true, Bool.not_false, Nat.add_zero, Nat.zero_add, Nat.reduceAdd]
              refine wpPi_nil ?_
              go_wp2
              go_roundw
              case rel => exact ⟨j + 1, by omega, by go_num, HN.out, hmi.trans0 hS⟩
              case measure => simp [intOf]; omega
          · have HN := Lib.hid (HIS.out (fun h => hww h.1))
            clear HIS
            refine wp_region_pi [(0, 3), (1, 3), (2, 3), (3, 3), (4, 0), (5, 3), (6, 3), (7, 3), (8, 3), (9, 0), (10, 0), (11, 3), (12, 3), (13, 3), (14, 3), (15, 3), (16, 0), (17, 3), (18, 3), (19, 3), (20, 3), (21, 0), (22, 3), (23, 3)] [] (fun w' => Mod NoB wq w') (by kernel_rfl) (by kernel_rfl) (by kernel_rfl) (by kernel_rfl) (fun _ _ _ _ hd h => ⟨hd.trans h.1, h.2⟩) hS ?_
            simp only [List.map_cons, List.map_nil, List.getD_cons_zero, List.getD_cons_succ]
            refine wpPi_move _ rfl rfl ?_
            simp only [pl, pn, el, ec, sz, ss, gz, gs, if_true, if_false, Bool.false_eq_true, Bool.not_true, Bool.not_false, Nat.add_zero, Nat.zero_add, Nat.reduceAdd]
            refine wpPi_move _ rfl rfl ?_
            simp only [pl, pn, el, ec, sz, ss, gz, gs, if_true, if_false, Bool.false_eq_true, Bool.not_true, Bool.not_false, Nat.add_zero, Nat.zero_add, Nat.reduceAdd]
            refine wpPi_index _ _ _ _ _ _ _ _ _ rfl rfl rfl rfl Try.underlying71 (n := 65) (by kernel_rfl) hlt ?_
            simp only [pl, pn, el, ec, sz, ss, gz, gs, if_true, if_false, Bool.false_eq_true, Bool.not_true, Bool.not_false, Nat.add_zero, Nat.zero_add, Nat.reduceAdd]
            refine wpPi_field _ _ _ _ _ _ rfl rfl rfl fo_74_1 ?_
            simp only [pl, pn, el, ec, sz, ss, gz, gs, if_true, if_false, Bool.false_eq_true, Bool.not_true, Bool.not_false, Nat.add_zero, Nat.zero_add, Nat.reduceAdd]
            refine wpPi_val rfl (fun w' hS => exec_loadA 38 _ (by rfl) b1 (off1 + k * 65 + 1) (by rfl) (idCells x.way) (hwx.keep hS id) _ Try.underlying38 rfl 32 (by kernel_rfl) hxr) ?_
            simp only [pl, pn, el, ec, sz, ss, gz, gs, if_true, if_false, Bool.false_eq_true, Bool.not_true, Bool.not_false, Nat.add_zero, Nat.zero_add, Nat.reduceAdd]
            refine wpPi_move _ rfl rfl ?_
            simp only [pl, pn, el, ec, sz, ss, gz, gs, if_true, if_false, Bool.false_eq_true, Bool.not_true, Bool.not_false, Nat.add_zero, Nat.zero_add, Nat.reduceAdd]
            refine wpPi_move _ rfl rfl ?_
            simp only [pl, pn, el, ec, sz, ss, gz, gs, if_true, if_false, Bool.false_eq_true, Bool.not_true, Bool.not_false, Nat.add_zero, Nat.zero_add, Nat.reduceAdd]
            refine wpPi_index _ _ _ _ _ _ _ _ _ rfl rfl rfl rfl Try.underlying71 (n := 65) (by kernel_rfl) hlj ?_
            simp only [pl, pn, el, ec, sz, ss, gz, gs, if_true, if_false, Bool.false_eq_true, Bool.not_true, Bool.not_false, Nat.add_zero, Nat.zero_add, Nat.reduceAdd]
            refine wpPi_field _ _ _ _ _ _ rfl rfl rfl fo_74_1 ?_
            simp only [pl, pn, el, ec, sz, ss, gz, gs, if_true, if_false, Bool.false_eq_true, Bool.not_true, Bool.not_false, Nat.add_zero, Nat.zero_add, Nat.reduceAdd]
            refine wpPi_val rfl (fun w' hS => exec_loadA 38 _ (by rfl) b2 (off2 + j * 65 + 1) (by rfl) (idCells y.way) (hwy.keep hS id) _ Try.underlying38 rfl 32 (by kernel_rfl) hyr) ?_
            simp only [pl, pn, el, ec, sz, ss, gz, gs, if_true, if_false, Bool.false_eq_true, Bool.not_true, Bool.not_false, Nat.add_zero, Nat.zero_add, Nat.reduceAdd]
            refine wpPi_val rfl (fun w' hS => exec_eql_id _ _ _ _ rfl x.way y.way rfl rfl 32 5 Try.underlying38 Try.underlying5 (by kernel_rfl) (by kernel_rfl) hxl hyl false (decide_eq_false hww)) ?_
            simp only [pl, pn, el, ec, sz, ss, gz, gs, if_true, if_false, Bool.false_eq_true, Bool.not_true, Bool.not_false, Nat.add_zero, Nat.zero_add, Nat.reduceAdd]
            refine wpPi_move _ rfl rfl ?_
            simp only [pl, pn, el, ec, sz, ss, gz, gs, if_true, if_false, Bool.false_eq_true, Bool.not_true, Bool.not_false, Nat.add_zero, Nat.zero_add, Nat.reduceAdd]
            refine wpPi_skip rfl ?_
            simp only [pl, pn, el, ec, sz, ss, gz, gs, if_true, if_false, Bool.false_eq_true, Bool.not_true, Bool.not_false, Nat.add_zero, Nat.zero_add, Nat.reduceAdd]
            refine wpPi_skip rfl ?_
            simp only [pl, pn, el, ec, sz, ss, gz, gs, if_true, if_false, Bool.false_eq_true, Bool.not_true, Bool.not_false, Nat.add_zero, Nat.zero_add, Nat.reduceAdd]
            refine wpPi_skip rfl ?_
            simp only [pl, pn, el, ec, sz, ss, gz, gs, if_true, if_false, Bool.false_eq_true, Bool.not_true, Bool.not_false, Nat.add_zero, Nat.zero_add, Nat.reduceAdd]
            refine wpPi_skip rfl ?_
            simp only [pl, pn, el, ec, sz, ss, gz, gs, if_true, if_false, Bool.false_eq_true, Bool.not_true, Bool.not_false, Nat.add_zero, Nat.zero_add, Nat.reduceAdd]
            refine wpPi_skip0 rfl ?_
            simp only [pl, pn, el, ec, sz, ss, gz, gs, if_true, if_false, Bool.false_eq_true, Bool.not_true, Bool.not_false, Nat.add_zero, Nat.zero_add, Nat.reduceAdd]
            refine wpPi_skip rfl ?_
            simp only [pl, pn, el, ec, sz, ss, gz, gs, if_true, if_false, Bool.false_eq_true, Bool.not_true, Bool.not_false, Nat.add_zero, Nat.zero_add, Nat.reduceAdd]
            refine wpPi_skip rfl ?_
            simp only [pl, pn, el, ec, sz, ss, gz, gs, if_true, if_false, Bool.false_eq_true, Bool.not_true, Bool.not_false, Nat.add_zero, Nat.zero_add, Nat.reduceAdd]
            refine wpPi_skip rfl ?_
            simp only [pl, pn, el, ec, sz, ss, gz, gs, if_true, if_false, Bool.false_eq_true, Bool.not_true, Bool.not_false, Nat.add_zero, Nat.zero_add, Nat.reduceAdd]
            refine wpPi_skip rfl ?_
            simp only [pl, pn, el, ec, sz, ss, gz, gs, if_true, if_false, Bool.false_eq_true, Bool.not_true, Bool.not_false, Nat.add_zero, Nat.zero_add, Nat.reduceAdd]
            refine wpPi_skip0 rfl ?_
            simp only [pl, pn, el, ec, sz, ss, gz, gs, if_true, if_false, Bool.false_eq_true, Bool.not_true, Bool.not_false, Nat.add_zero, Nat.zero_add, Nat.reduceAdd]
            refine wpPi_skip rfl ?_
            simp only [pl, pn, el, ec, sz, ss, gz, gs, if_true, if_false, Bool.false_eq_true, Bool.not_true, Bool.not_false, Nat.add_zero, Nat.zero_add, Nat.reduceAdd]
            refine wpPi_pick _ _ _ _ rfl rfl rfl ?_
            simp only [pl, pn, el, ec, sz, ss, gz, gs, if_true, if_false, Bool.false_eq_true, Bool.not_true, Bool.not_false, Nat.add_zero, Nat.zero_add, Nat.reduceAdd]
            refine wpPi_nil ?_
            go_wp2
            go_roundw
            case rel => exact ⟨j + 1, by omega, by go_num, HN.out, hmi.trans0 hS⟩
            case measure => simp [intOf]; omega
        · have hz2 : ¬ (j : Int) < (ys.length : Int) := by omega
          obtain rfl : j = ys.length := by omega
          have HN := Lib.hid (HOS.out HIN.out)
          clear HOS HIN
          go_wp2
          go_roundw
          case rel => exact ⟨k + 1, by omega, by go_num, HN.out, hmo.trans0 hmi⟩
          case measure => simp [intOf]; omega
    · have hz : ¬ (k : Int) < (xs.length : Int) := by omega
      obtain rfl : k = xs.length := by omega
      have hE := HNO.out HALL.out
      have HE := Lib.hid hE
      have hM := hM4.trans0 hmo
      clear HALL HNO HCLS
      go_upto_region 15 with (fail)
      refine wp_region_seq [3, 3, 1, 3, 3, 3, 3, 3] (fun _ => True) (by rfl) (by rfl) trivial ?_
      simp only [List.zip_cons_cons, List.zip_nil_right]
      refine wpPi_move _ rfl rfl ?_
      simp only [pl, pn, el, ec, sz, ss, gz, gs, if_true, if_false, Bool.false_eq_true, Bool.not_true, Bool.not_false, Nat.add_zero, Nat.zero_add, Nat.reduceAdd]
      refine wpPi_move _ rfl rfl ?_
      simp only [pl, pn, el, ec, sz, ss, gz, gs, if_true, if_false, Bool.false_eq_true, Bool.not_true, Bool.not_false, Nat.add_zero, Nat.zero_add, Nat.reduceAdd]
      refine wpPi_do rfl (fun K hK => ?_)
      refine wp_enterQ (run_call 37 [.tmp 64, .tmp 65, .const (.int .i64 0)] _ rfl _ Try.func37 rfl (by kernel_rfl) [.slice ad8 xs.length cap8, .slice ad9 ys.length cap9, .int .i64 ((0 : Nat) : Int)] rfl _) (refDifferR_any 256 0 xs ys _ _ _ rfl (HX.out.keep0 hmo) (HY.out.keep0 hmo) HLX.out HLY.out HMX.out HMY.out (by omega) (by omega)) ?_
      rintro e w6 ⟨v12, rfl, hg12, hm6⟩
      refine ⟨_, rfl, hK _ _ trivial ?_⟩
      clear hK K
      try simp only [pl, pn, el, ec, sz, ss, gz, gs, if_true, if_false, Bool.false_eq_true, Bool.not_true, Bool.not_false, Nat.add_zero, Nat.zero_add, Nat.reduceAdd]
      refine wpPi_move _ rfl rfl ?_
      simp only [pl, pn, el, ec, sz, ss, gz, gs, if_true, if_false, Bool.false_eq_true, Bool.not_true, Bool.not_false, Nat.add_zero, Nat.zero_add, Nat.reduceAdd]
      refine wpPi_any (v := ?_) rfl (fun w' => ?_) ?_; rotate_left; · (go_simp; try with_reducible rfl)
      simp only [pl, pn, el, ec, sz, ss, gz, gs, if_true, if_false, Bool.false_eq_true, Bool.not_true, Bool.not_false, Nat.add_zero, Nat.zero_add, Nat.reduceAdd]
      refine wpPi_any (v := ?_) rfl (fun w' => ?_) ?_; rotate_left; · (go_simp; try with_reducible rfl)
      simp only [pl, pn, el, ec, sz, ss, gz, gs, if_true, if_false, Bool.false_eq_true, Bool.not_true, Bool.not_false, Nat.add_zero, Nat.zero_add, Nat.reduceAdd]
      refine wpPi_assign _ rfl rfl ?_
      simp only [pl, pn, el, ec, sz, ss, gz, gs, if_true, if_false, Bool.false_eq_true, Bool.not_true, Bool.not_false, Nat.add_zero, Nat.zero_add, Nat.reduceAdd]
      refine wpPi_assign _ rfl rfl ?_
      simp only [pl, pn, el, ec, sz, ss, gz, gs, if_true, if_false, Bool.false_eq_true, Bool.not_true, Bool.not_false, Nat.add_zero, Nat.zero_add, Nat.reduceAdd]
      refine wpPi_nil ?_
      have hdl := HKY.out
      rw [← HDF.out] at hg12 hdl ⊢
      go_upto_region 16 with (fail)
      refine wp_region_seq [3, 1, 3, 3, 3, 3] (fun _ => True) (by rfl) (by rfl) trivial ?_
      simp only [List.zip_cons_cons, List.zip_nil_right]
      refine wpPi_move _ rfl rfl ?_
      simp only [pl, pn, el, ec, sz, ss, gz, gs, if_true, if_false, Bool.false_eq_true, Bool.not_true, Bool.not_false, Nat.add_zero, Nat.zero_add, Nat.reduceAdd]
      refine wpPi_do rfl (fun K hK => ?_)
      refine wp_enterQ (run_call 38 [.tmp 69] _ rfl _ Try.func38 rfl (by kernel_rfl) [v12] rfl _) (refRising_any hg12.txt (by omega)) ?_
      rintro e w7 ⟨v13, ks, rfl, hg13, hri, hm7⟩
      refine ⟨_, rfl, hK _ _ trivial ?_⟩
      clear hK K
      try simp only [pl, pn, el, ec, sz, ss, gz, gs, if_true, if_false, Bool.false_eq_true, Bool.not_true, Bool.not_false, Nat.add_zero, Nat.zero_add, Nat.reduceAdd]
      refine wpPi_move _ rfl rfl ?_
      simp only [pl, pn, el, ec, sz, ss, gz, gs, if_true, if_false, Bool.false_eq_true, Bool.not_true, Bool.not_false, Nat.add_zero, Nat.zero_add, Nat.reduceAdd]
      refine wpPi_assign _ rfl rfl ?_
      simp only [pl, pn, el, ec, sz, ss, gz, gs, if_true, if_false, Bool.false_eq_true, Bool.not_true, Bool.not_false, Nat.add_zero, Nat.zero_add, Nat.reduceAdd]
      refine wpPi_assign _ rfl rfl ?_
      simp only [pl, pn, el, ec, sz, ss, gz, gs, if_true, if_false, Bool.false_eq_true, Bool.not_true, Bool.not_false, Nat.add_zero, Nat.zero_add, Nat.reduceAdd]
      refine wpPi_assign _ rfl rfl ?_
      simp only [pl, pn, el, ec, sz, ss, gz, gs, if_true, if_false, Bool.false_eq_true, Bool.not_true, Bool.not_false, Nat.add_zero, Nat.zero_add, Nat.reduceAdd]
      refine wpPi_nil ?_
      have hMx := hM.trans0 hm6
      have hgx := hg13.base (b' := w.heap.size) hMx.size
      have hMr := hMx.trans0 hm7
      have HO := Lib.hid (show DifOk a b ks (difE a b).2 from ⟨fun _ => ⟨hri, rfl⟩, fun h => absurd hE h⟩)
      clear hM hm6 hm7 hMx hg12 hg13 hri hE hmo hM4
      go_wp2
      go_ret3
      exact ⟨_, ks, _, by rw [HE.out]; rfl, hgx, HO.out, hMr⟩
end Go.Proofs.Ytchkikmmcmjcgaa

/- awake holds. -/
namespace Go.Proofs.Ytchkikmmcmjcgaa
set_option linter.unusedSimpArgs false
set_option linter.unusedVariables false
set_option linter.unnecessarySimpa false
set_option linter.unusedSectionVars false
open Go.RowKit Go.Shelf


set_option maxRecDepth 10000 in
set_option maxHeartbeats 2000000 in
theorem awake_any (w : World) : Calls Try.prog 9 #[] w (RetM (.bool true) w) := by
  have hr0 := root_nil
  have hr1 := root_one eAX
  have hc0 : chkE [] = 0 := chkE_few _ (by simp)
  have hc1 : chkE [eAX] = 0 := chkE_few _ (by simp)
  have hl0 : (idCells (shaL [0])).size = 32 := by rw [idCells_size]; exact shaL_len _
  have HDF := Lib.hid dif_ax_ay
  have hkl : (shaL [97]).length = 32 := shaL_len _
  have hvl : (shaL [120]).length = 32 := shaL_len _
  have hkr : (idCells (shaL [97])).size = 32 := by rw [idCells_size]; exact hkl
  have hvr : (idCells (shaL [120])).size = 32 := by rw [idCells_size]; exact hvl
  go_enter Try.func9, Try.ntmps9
  go_upto_region 1 with (fail)
  refine wp_region_seq [1, 3, 3, 3, 1, 1, 3] (fun _ => True) (by rfl) (by rfl) trivial ?_
  simp only [List.zip_cons_cons, List.zip_nil_right]
  refine wpPi_do rfl (fun K hK => ?_)
  refine wp_enterQ (run_call 17 [.const (.slice none 0 0)] _ rfl _ Try.func17 rfl (by kernel_rfl) [.slice none 0 0] rfl _) (root_any (own := false) (G := Ever) (es := []) (Sl.nil _ _ _ _ _) short_nil (by simp)) ?_
  rintro e w1 ⟨rfl, hm1⟩
  rw [hr0, hc0]
  refine ⟨_, rfl, hK _ _ trivial ?_⟩
  clear hK K
  try simp only [pl, pn, el, ec, sz, ss, gz, gs, if_true, if_false, Bool.false_eq_true, Bool.not_true, Bool.not_false, Nat.add_zero, Nat.zero_add, Nat.reduceAdd]
  refine wpPi_move _ rfl rfl ?_
  simp only [pl, pn, el, ec, sz, ss, gz, gs, if_true, if_false, Bool.false_eq_true, Bool.not_true, Bool.not_false, Nat.add_zero, Nat.zero_add, Nat.reduceAdd]
  refine wpPi_any (v := ?_) rfl (fun w' => ?_) ?_; rotate_left; · (go_simp; try with_reducible rfl)
  simp only [pl, pn, el, ec, sz, ss, gz, gs, if_true, if_false, Bool.false_eq_true, Bool.not_true, Bool.not_false, Nat.add_zero, Nat.zero_add, Nat.reduceAdd]
  refine wpPi_any (v := ?_) rfl (fun w' => ?_) ?_; rotate_left; · (go_simp; try with_reducible rfl)
  simp only [pl, pn, el, ec, sz, ss, gz, gs, if_true, if_false, Bool.false_eq_true, Bool.not_true, Bool.not_false, Nat.add_zero, Nat.zero_add, Nat.reduceAdd]
  refine wpPi_do rfl (fun K hK => ?_)
  refine wp_alloc 38 _ (by rfl) idZ (fun w2 hB2 hm2 hs2 => ?_)
  replace hB2 : w2.heap[w1.heap.size]? = some (.cells (idCells (List.replicate 32 0)) 38 (0, 0)) := hB2
  refine hK _ _ trivial ?_
  clear hK K
  try simp only [pl, pn, el, ec, sz, ss, gz, gs, if_true, if_false, Bool.false_eq_true, Bool.not_true, Bool.not_false, Nat.add_zero, Nat.zero_add, Nat.reduceAdd]
  refine wpPi_do rfl (fun K hK => ?_)
  refine wp_storeA 38 _ _ w1.heap.size 0 (idCells (shaL [0])) (by rfl) (by rfl) (by rfl) (idCells_one _) 32 (by kernel_rfl) hl0 _ _ hB2 (by rw [hl0, idCells_size]; simp) (fun w3 hB3 hm3 => ?_)
  rw [putRow_whole (by rw [hl0, idCells_size]; rfl)] at hB3
  refine hK _ _ trivial ?_
  clear hK K
  try simp only [pl, pn, el, ec, sz, ss, gz, gs, if_true, if_false, Bool.false_eq_true, Bool.not_true, Bool.not_false, Nat.add_zero, Nat.zero_add, Nat.reduceAdd]
  refine wpPi_assign _ rfl rfl ?_
  simp only [pl, pn, el, ec, sz, ss, gz, gs, if_true, if_false, Bool.false_eq_true, Bool.not_true, Bool.not_false, Nat.add_zero, Nat.zero_add, Nat.reduceAdd]
  refine wpPi_nil ?_
  have hM3 : Mod NoB w w3 := (hm1.trans0 hm2).transB hm3 hm1.size
  generalize w1.heap.size = b1 at *
  clear hm1 hm2 hm3 hB2 hr0 hc0
  go_upto_region 2 with (fail)
  refine wp_region_seq [1, 1, 1, 3, 3, 3, 1, 1, 3] (fun _ => True) (by rfl) (by rfl) trivial ?_
  simp only [List.zip_cons_cons, List.zip_nil_right]
  refine wpPi_do rfl (fun K hK => ?_)
  refine wp_enterQ (run_call 16 [.const (.string ⟨#[97]⟩), .const (.string ⟨#[120]⟩)] _ rfl _ Try.func16 rfl (by kernel_rfl) [.string ⟨#[97]⟩, .string ⟨#[120]⟩] rfl _) (lawOf_any ⟨#[97]⟩ ⟨#[120]⟩ (by decide) _) ?_
  rintro e w4 ⟨cs, rfl, hec, hm4⟩
  replace hec : EntC w4 Ever cs eAX := hec
  have hcs2 := hec.size
  refine ⟨_, rfl, hK _ _ trivial ?_⟩
  clear hK K
  try simp only [pl, pn, el, ec, sz, ss, gz, gs, if_true, if_false, Bool.false_eq_true, Bool.not_true, Bool.not_false, Nat.add_zero, Nat.zero_add, Nat.reduceAdd]
  refine wpPi_do rfl (fun K hK => ?_)
  refine wp_buildSlice1 22 35 _ (.agg cs) (.agg #[.string ⟨#[]⟩, .slice none 0 0]) 2 (by rfl) (by rfl) Try.underlying22 entry_i2 (by omega) (by omega) hcs2 (fun w5 hB5 hm5 hs5 => ?_)
  replace hB5 : w5.heap[w4.heap.size]? = some (.cells cs 35 (0, 0)) := hB5
  have hes := es_one hB5 (hec.keep hm5 (fun _ _ => id))
  refine hK _ _ trivial ?_
  clear hK K
  try simp only [pl, pn, el, ec, sz, ss, gz, gs, if_true, if_false, Bool.false_eq_true, Bool.not_true, Bool.not_false, Nat.add_zero, Nat.zero_add, Nat.reduceAdd]
  refine wpPi_do rfl (fun K hK => ?_)
  refine wp_enterQ (run_call 17 [.tmp 13] _ rfl _ Try.func17 rfl (by kernel_rfl) [.slice (some ⟨w4.heap.size, 0, none⟩) 1 1] rfl _) (root_any hes (short_one (by decide) (by decide)) (by simp)) ?_
  rintro e w6 ⟨rfl, hm6⟩
  rw [hc1, hr1]
  have hM6 := ((hM3.trans0 hm4).trans0 hm5).trans0 hm6
  replace hB3 := ((hm4.trans0 hm5).trans0 hm6).obj id hB3
  have hlt1 := (Array.getElem?_eq_some_iff.1 hB3).1
  obtain ⟨R, hR⟩ : ∃ R, shaL (1 :: (shaL eAX.1.data.toList ++ shaL eAX.2)) = R := ⟨_, rfl⟩
  have hRl : R.length = 32 := by rw [← hR]; exact shaL_len _
  have hRr : (idCells R).size = 32 := by rw [idCells_size, hRl]
  rw [hR]
  have HR := Lib.hid hR
  refine ⟨_, rfl, hK _ _ trivial ?_⟩
  clear hK K hR
  try simp only [pl, pn, el, ec, sz, ss, gz, gs, if_true, if_false, Bool.false_eq_true, Bool.not_true, Bool.not_false, Nat.add_zero, Nat.zero_add, Nat.reduceAdd]
  refine wpPi_move _ rfl rfl ?_
  simp only [pl, pn, el, ec, sz, ss, gz, gs, if_true, if_false, Bool.false_eq_true, Bool.not_true, Bool.not_false, Nat.add_zero, Nat.zero_add, Nat.reduceAdd]
  refine wpPi_any (v := ?_) rfl (fun w' => ?_) ?_; rotate_left; · (go_simp; try with_reducible rfl)
  simp only [pl, pn, el, ec, sz, ss, gz, gs, if_true, if_false, Bool.false_eq_true, Bool.not_true, Bool.not_false, Nat.add_zero, Nat.zero_add, Nat.reduceAdd]
  refine wpPi_any (v := ?_) rfl (fun w' => ?_) ?_; rotate_left; · (go_simp; try with_reducible rfl)
  simp only [pl, pn, el, ec, sz, ss, gz, gs, if_true, if_false, Bool.false_eq_true, Bool.not_true, Bool.not_false, Nat.add_zero, Nat.zero_add, Nat.reduceAdd]
  refine wpPi_do rfl (fun K hK => ?_)
  refine wp_alloc 38 _ (by rfl) idZ (fun w7 hB7 hm7 hs7 => ?_)
  replace hB7 : w7.heap[w6.heap.size]? = some (.cells (idCells (List.replicate 32 0)) 38 (0, 0)) := hB7
  replace hB3 := hm7.obj id hB3
  refine hK _ _ trivial ?_
  clear hK K
  try simp only [pl, pn, el, ec, sz, ss, gz, gs, if_true, if_false, Bool.false_eq_true, Bool.not_true, Bool.not_false, Nat.add_zero, Nat.zero_add, Nat.reduceAdd]
  refine wpPi_do rfl (fun K hK => ?_)
  refine wp_storeA 38 _ _ w6.heap.size 0 (idCells R) (by rfl) (by rfl) (by rfl) (idCells_one _) 32 (by kernel_rfl) hRr _ _ hB7 (by rw [hRr, idCells_size]; simp) (fun w8 hB8 hm8 => ?_)
  rw [putRow_whole (by rw [hRr, idCells_size]; rfl)] at hB8
  refine hK _ _ trivial ?_
  clear hK K
  try simp only [pl, pn, el, ec, sz, ss, gz, gs, if_true, if_false, Bool.false_eq_true, Bool.not_true, Bool.not_false, Nat.add_zero, Nat.zero_add, Nat.reduceAdd]
  refine wpPi_assign _ rfl rfl ?_
  simp only [pl, pn, el, ec, sz, ss, gz, gs, if_true, if_false, Bool.false_eq_true, Bool.not_true, Bool.not_false, Nat.add_zero, Nat.zero_add, Nat.reduceAdd]
  refine wpPi_nil ?_
  replace hB3 := hm8.objB (by omega) hB3
  have hM8 : Mod NoB w w8 := (hM6.trans0 hm7).transB hm8 hM6.size
  generalize w6.heap.size = b3 at *
  clear hm4 hm5 hm6 hm7 hm8 hB5 hB7 hM3 hM6 hes hec hr1 hc1 hcs2
  go_upto_region 3 with (fail)
  refine wp_region_seq [1, 1, 1, 1, 1, 1, 1, 1, 1, 1] (fun _ => True) (by rfl) (by rfl) trivial ?_
  simp only [List.zip_cons_cons, List.zip_nil_right]
  refine wpPi_do rfl (fun K hK => ?_)
  refine wp_buildSlice1 33 5 _ (byteV 97) (.int .u8 0) 1 (by rfl) (by rfl) Try.underlying33 (by kernel_rfl) (by omega) (by omega) (by rfl) (fun w9 hB9 hm9 hs9 => ?_)
  replace hB9 : w9.heap[w8.heap.size]? = some (.cells (idCells [97]) 5 (0, 0)) := hB9
  refine hK _ _ trivial ?_
  clear hK K
  try simp only [pl, pn, el, ec, sz, ss, gz, gs, if_true, if_false, Bool.false_eq_true, Bool.not_true, Bool.not_false, Nat.add_zero, Nat.zero_add, Nat.reduceAdd]
  refine wpPi_do rfl (fun K hK => ?_)
  refine wp_bytesConst 33 5 _ w8.heap.size 1 1 _ (by rfl) (by rfl) Try.underlying33 Try.underlying5 hB9 (fun w9b hB9b hm9b => ?_)
  replace hm9 : Mod NoB w8 w9b := hm9.transB hm9b (Nat.le_refl _)
  clear hB9 hm9b
  refine hK _ _ trivial ?_
  clear hK K
  try simp only [pl, pn, el, ec, sz, ss, gz, gs, if_true, if_false, Bool.false_eq_true, Bool.not_true, Bool.not_false, Nat.add_zero, Nat.zero_add, Nat.reduceAdd]
  refine wpPi_do rfl (fun K hK => ?_)
  refine wp_enterQ (run_call 23 [.tmp 18] _ rfl _ Try.func23 rfl (by kernel_rfl) [.slice (some ⟨w8.heap.size, 0, none⟩) 1 1] rfl _) (shaSum_any (sl_of_cells (x := [97]) (CellsAt.whole hB9b) (by simp)) (by simp)) ?_
  rintro e w10 ⟨rfl, hm10⟩
  clear hB9b
  refine ⟨_, rfl, hK _ _ trivial ?_⟩
  clear hK K
  try simp only [pl, pn, el, ec, sz, ss, gz, gs, if_true, if_false, Bool.false_eq_true, Bool.not_true, Bool.not_false, Nat.add_zero, Nat.zero_add, Nat.reduceAdd]
  refine wpPi_do rfl (fun K hK => ?_)
  refine wp_buildSlice1 33 5 _ (byteV 120) (.int .u8 0) 1 (by rfl) (by rfl) Try.underlying33 (by kernel_rfl) (by omega) (by omega) (by rfl) (fun w11 hB11 hm11 hs11 => ?_)
  replace hB11 : w11.heap[w10.heap.size]? = some (.cells (idCells [120]) 5 (0, 0)) := hB11
  refine hK _ _ trivial ?_
  clear hK K
  try simp only [pl, pn, el, ec, sz, ss, gz, gs, if_true, if_false, Bool.false_eq_true, Bool.not_true, Bool.not_false, Nat.add_zero, Nat.zero_add, Nat.reduceAdd]
  refine wpPi_do rfl (fun K hK => ?_)
  refine wp_bytesConst 33 5 _ w10.heap.size 1 1 _ (by rfl) (by rfl) Try.underlying33 Try.underlying5 hB11 (fun w11b hB11b hm11b => ?_)
  replace hm11 : Mod NoB w10 w11b := hm11.transB hm11b (Nat.le_refl _)
  clear hB11 hm11b
  refine hK _ _ trivial ?_
  clear hK K
  try simp only [pl, pn, el, ec, sz, ss, gz, gs, if_true, if_false, Bool.false_eq_true, Bool.not_true, Bool.not_false, Nat.add_zero, Nat.zero_add, Nat.reduceAdd]
  refine wpPi_do rfl (fun K hK => ?_)
  refine wp_enterQ (run_call 23 [.tmp 21] _ rfl _ Try.func23 rfl (by kernel_rfl) [.slice (some ⟨w10.heap.size, 0, none⟩) 1 1] rfl _) (shaSum_any (sl_of_cells (x := [120]) (CellsAt.whole hB11b) (by simp)) (by simp)) ?_
  rintro e w12 ⟨rfl, hm12⟩
  clear hB11b
  have hM12 := ((hm9.trans0 hm10).trans0 hm11).trans0 hm12
  refine ⟨_, rfl, hK _ _ trivial ?_⟩
  clear hK K
  try simp only [pl, pn, el, ec, sz, ss, gz, gs, if_true, if_false, Bool.false_eq_true, Bool.not_true, Bool.not_false, Nat.add_zero, Nat.zero_add, Nat.reduceAdd]
  refine wpPi_do rfl (fun K hK => ?_)
  refine wp_alloc 38 _ (by rfl) idZ (fun w13 hB13 hm13 hs13 => ?_)
  replace hB13 : w13.heap[w12.heap.size]? = some (.cells (idCells (List.replicate 32 0)) 38 (0, 0)) := hB13
  refine hK _ _ trivial ?_
  clear hK K
  try simp only [pl, pn, el, ec, sz, ss, gz, gs, if_true, if_false, Bool.false_eq_true, Bool.not_true, Bool.not_false, Nat.add_zero, Nat.zero_add, Nat.reduceAdd]
  refine wpPi_do rfl (fun K hK => ?_)
  refine wp_alloc 38 _ (by rfl) idZ (fun w14 hB14 hm14 hs14 => ?_)
  replace hB14 : w14.heap[w13.heap.size]? = some (.cells (idCells (List.replicate 32 0)) 38 (0, 0)) := hB14
  replace hB13 := hm14.obj id hB13
  have hM14 := (hM12.trans0 hm13).trans0 hm14
  have hs12 := hM12.size
  refine hK _ _ trivial ?_
  clear hK K
  try simp only [pl, pn, el, ec, sz, ss, gz, gs, if_true, if_false, Bool.false_eq_true, Bool.not_true, Bool.not_false, Nat.add_zero, Nat.zero_add, Nat.reduceAdd]
  refine wpPi_do rfl (fun K hK => ?_)
  refine wp_storeA 38 _ _ w12.heap.size 0 (idCells (shaL [97])) (by rfl) (by rfl) (by rfl) (idCells_one _) 32 (by kernel_rfl) hkr _ _ hB13 (by rw [hkr, idCells_size]; simp) (fun w15 hB15 hm15 => ?_)
  rw [putRow_whole (by rw [hkr, idCells_size]; rfl)] at hB15
  replace hB14 := hm15.objB (by omega) hB14
  refine hK _ _ trivial ?_
  clear hK K
  try simp only [pl, pn, el, ec, sz, ss, gz, gs, if_true, if_false, Bool.false_eq_true, Bool.not_true, Bool.not_false, Nat.add_zero, Nat.zero_add, Nat.reduceAdd]
  refine wpPi_do rfl (fun K hK => ?_)
  refine wp_storeA 38 _ _ w13.heap.size 0 (idCells (shaL [120])) (by rfl) (by rfl) (by rfl) (idCells_one _) 32 (by kernel_rfl) hvr _ _ hB14 (by rw [hvr, idCells_size]; simp) (fun w16 hB16 hm16 => ?_)
  rw [putRow_whole (by rw [hvr, idCells_size]; rfl)] at hB16
  replace hB15 := hm16.objB (by omega) hB15
  refine hK _ _ trivial ?_
  clear hK K
  try simp only [pl, pn, el, ec, sz, ss, gz, gs, if_true, if_false, Bool.false_eq_true, Bool.not_true, Bool.not_false, Nat.add_zero, Nat.zero_add, Nat.reduceAdd]
  refine wpPi_nil ?_
  have hM16 : Mod NoB w8 w16 := (hM14.transB hm15 hs12).transB hm16 (by omega)
  replace hB3 := CellsAt.whole (hM16.obj id hB3)
  replace hB8 := CellsAt.whole (hM16.obj id hB8)
  have hMw := hM8.trans0 hM16
  have hsk := sl_of_cells (CellsAt.whole hB15) (by omega)
  have hsv := sl_of_cells (CellsAt.whole hB16) (by omega)
  rw [hkl] at hsk
  rw [hvl] at hsv
  generalize w12.heap.size = b5 at *
  generalize w13.heap.size = b6 at *
  clear hm9 hm10 hm11 hm12 hm13 hm14 hm15 hm16 hB13 hB14 hB15 hB16 hM8 hM12 hM14 hM16 hkr hvr
  go_upto_region 4 with (fail)
  have hS : Mod NoB w16 w16.drew := (Mod.refl _ _).drew
  refine wp_region_plan [.inl [(0, 3), (1, 3), (2, 3), (3, 0)], .inr (.inl 4), .inr (.inl 5), .inl [(6, 0), (7, 3), (8, 3), (9, 3), (10, 3), (11, 3), (12, 3), (13, 0), (15, 3), (17, 3)], .inr (.inl 14), .inr (.inl 16), .inr (.inl 18), .inr (.inl 19), .inl [(20, 0), (21, 3), (22, 3)], .inr (.inr (5, #[true, true, true, true, true, true, true, true, true, true, true, true, true, true, true, true, true, true, true, true, true, true, true, false, false, false, false, false, false, false, false])), .inr (.inl 28), .inl [(29, 3), (30, 3)]] (fun w' => Mod NoB w16 w') (by kernel_rfl) (by kernel_rfl) (by kernel_rfl) (fun _ _ _ _ hd h => ⟨hd.trans h.1, h.2⟩) hS ?_
  refine wpPlan_seg ?_
  simp only [List.map_cons, List.map_nil, Array.getD_eq_getD_getElem?, List.getElem?_toArray, List.getElem?_cons_succ, List.getElem?_cons_zero, Option.getD_some]
  refine wpPi_move _ rfl rfl ?_
  simp only [pl, pn, el, ec, sz, ss, gz, gs, if_true, if_false, Bool.false_eq_true, Bool.not_true, Bool.not_false, Nat.add_zero, Nat.zero_add, Nat.reduceAdd]
  refine wpPi_any (v := ?_) rfl (fun w' => ?_) ?_; rotate_left; · (go_simp; try with_reducible rfl)
  simp only [pl, pn, el, ec, sz, ss, gz, gs, if_true, if_false, Bool.false_eq_true, Bool.not_true, Bool.not_false, Nat.add_zero, Nat.zero_add, Nat.reduceAdd]
  refine wpPi_move _ rfl rfl ?_
  simp only [pl, pn, el, ec, sz, ss, gz, gs, if_true, if_false, Bool.false_eq_true, Bool.not_true, Bool.not_false, Nat.add_zero, Nat.zero_add, Nat.reduceAdd]
  refine wpPi_val rfl (fun w' hS => exec_loadA 38 _ (by rfl) b1 0 (by rfl) (idCells (shaL [0])) (hB3.keep hS id) _ Try.underlying38 rfl 32 (by kernel_rfl) hl0) ?_
  simp only [pl, pn, el, ec, sz, ss, gz, gs, if_true, if_false, Bool.false_eq_true, Bool.not_true, Bool.not_false, Nat.add_zero, Nat.zero_add, Nat.reduceAdd]
  refine wpPi_nil ?_
  refine planQ_normal ?_
  refine wpPlan_one rfl (fun K hK => ?_)
  simp only [Array.getD_eq_getD_getElem?, List.getElem?_toArray, List.getElem?_cons_succ, List.getElem?_cons_zero, Option.getD_some]
  refine wp_buildSlice1 33 5 _ (byteV 0) (.int .u8 0) 1 (by rfl) (by rfl) Try.underlying33 (by kernel_rfl) (by omega) (by omega) (by rfl) (fun wa hBa hma hsa => ?_)
  replace hBa : wa.heap[w16.heap.size]? = some (.cells (idCells [0]) 5 (0, 0)) := hBa
  have hSa := hS.trans0 hma
  refine hK _ _ hSa ?_
  clear hK K
  try simp only [pl, pn, el, ec, sz, ss, gz, gs, if_true, if_false, Bool.false_eq_true, Bool.not_true, Bool.not_false, Nat.add_zero, Nat.zero_add, Nat.reduceAdd]
  refine wpPlan_one rfl (fun K hK => ?_)
  simp only [Array.getD_eq_getD_getElem?, List.getElem?_toArray, List.getElem?_cons_succ, List.getElem?_cons_zero, Option.getD_some]
  refine wp_enterQ (run_call 23 [.tmp 27] _ rfl _ Try.func23 rfl (by kernel_rfl) [.slice (some ⟨w16.heap.size, 0, none⟩) 1 1] rfl _) (shaSum_any (sl_of_cells (x := [0]) (CellsAt.whole hBa) (by simp)) (by simp)) ?_
  rintro e wb ⟨rfl, hmb⟩
  have hSb := hSa.trans0 hmb
  refine ⟨_, rfl, hK _ _ hSb ?_⟩
  clear hK K
  try simp only [pl, pn, el, ec, sz, ss, gz, gs, if_true, if_false, Bool.false_eq_true, Bool.not_true, Bool.not_false, Nat.add_zero, Nat.zero_add, Nat.reduceAdd]
  refine wpPlan_seg ?_
  simp only [List.map_cons, List.map_nil, Array.getD_eq_getD_getElem?, List.getElem?_toArray, List.getElem?_cons_succ, List.getElem?_cons_zero, Option.getD_some]
  refine wpPi_val rfl (fun w' hS => exec_eql_id _ _ _ _ rfl (shaL [0]) (shaL [0]) rfl rfl 32 5 Try.underlying38 Try.underlying5 (by kernel_rfl) (by kernel_rfl) (shaL_len _) (shaL_len _) true (decide_eq_true rfl)) ?_
  simp only [pl, pn, el, ec, sz, ss, gz, gs, if_true, if_false, Bool.false_eq_true, Bool.not_true, Bool.not_false, Nat.add_zero, Nat.zero_add, Nat.reduceAdd]
  refine wpPi_pick _ _ _ _ rfl rfl rfl ?_
  simp only [pl, pn, el, ec, sz, ss, gz, gs, if_true, if_false, Bool.false_eq_true, Bool.not_true, Bool.not_false, Nat.add_zero, Nat.zero_add, Nat.reduceAdd]
  refine wpPi_move _ rfl rfl ?_
  simp only [pl, pn, el, ec, sz, ss, gz, gs, if_true, if_false, Bool.false_eq_true, Bool.not_true, Bool.not_false, Nat.add_zero, Nat.zero_add, Nat.reduceAdd]
  refine wpPi_move _ rfl rfl ?_
  simp only [pl, pn, el, ec, sz, ss, gz, gs, if_true, if_false, Bool.false_eq_true, Bool.not_true, Bool.not_false, Nat.add_zero, Nat.zero_add, Nat.reduceAdd]
  refine wpPi_any (v := ?_) rfl (fun w' => ?_) ?_; rotate_left; · (go_simp; try with_reducible rfl)
  simp only [pl, pn, el, ec, sz, ss, gz, gs, if_true, if_false, Bool.false_eq_true, Bool.not_true, Bool.not_false, Nat.add_zero, Nat.zero_add, Nat.reduceAdd]
  refine wpPi_pick _ _ _ _ rfl rfl rfl ?_
  simp only [pl, pn, el, ec, sz, ss, gz, gs, if_true, if_false, Bool.false_eq_true, Bool.not_true, Bool.not_false, Nat.add_zero, Nat.zero_add, Nat.reduceAdd]
  refine wpPi_move _ rfl rfl ?_
  simp only [pl, pn, el, ec, sz, ss, gz, gs, if_true, if_false, Bool.false_eq_true, Bool.not_true, Bool.not_false, Nat.add_zero, Nat.zero_add, Nat.reduceAdd]
  refine wpPi_val rfl (fun w' hS => exec_loadA 38 _ (by rfl) b3 0 (by rfl) (idCells R) (hB8.keep hS id) _ Try.underlying38 rfl 32 (by kernel_rfl) hRr) ?_
  simp only [pl, pn, el, ec, sz, ss, gz, gs, if_true, if_false, Bool.false_eq_true, Bool.not_true, Bool.not_false, Nat.add_zero, Nat.zero_add, Nat.reduceAdd]
  refine wpPi_sliceArr 38 5 _ _ _ 32 rfl rfl rfl Try.underlying38 (by kernel_rfl) ?_
  simp only [pl, pn, el, ec, sz, ss, gz, gs, if_true, if_false, Bool.false_eq_true, Bool.not_true, Bool.not_false, Nat.add_zero, Nat.zero_add, Nat.reduceAdd]
  refine wpPi_sliceArr 38 5 _ _ _ 32 rfl rfl rfl Try.underlying38 (by kernel_rfl) ?_
  simp only [pl, pn, el, ec, sz, ss, gz, gs, if_true, if_false, Bool.false_eq_true, Bool.not_true, Bool.not_false, Nat.add_zero, Nat.zero_add, Nat.reduceAdd]
  refine wpPi_nil ?_
  refine planQ_normal ?_
  refine wpPlan_one rfl (fun K hK => ?_)
  simp only [Array.getD_eq_getD_getElem?, List.getElem?_toArray, List.getElem?_cons_succ, List.getElem?_cons_zero, Option.getD_some]
  refine wp_buildSlice1 33 5 _ (byteV 1) (.int .u8 0) 1 (by rfl) (by rfl) Try.underlying33 (by kernel_rfl) (by omega) (by omega) (by rfl) (fun wc hBc hmc hsc => ?_)
  have hbt : Bts wb.heap.size wc (.slice (some ⟨wb.heap.size, 0, none⟩) 1 1) [1] := owns_lit hBc
  have hSc := hSb.trans0 hmc
  have hsbc := hSb.size
  have hscc := hSc.size
  refine hK _ _ hSc ?_
  clear hK K
  try simp only [pl, pn, el, ec, sz, ss, gz, gs, if_true, if_false, Bool.false_eq_true, Bool.not_true, Bool.not_false, Nat.add_zero, Nat.zero_add, Nat.reduceAdd]
  refine wpPlan_one rfl (fun K hK => ?_)
  simp only [Array.getD_eq_getD_getElem?, List.getElem?_toArray, List.getElem?_cons_succ, List.getElem?_cons_zero, Option.getD_some]
  refine wp_bytes _ _ (by rfl) wb.heap.size _ [1] (by rfl) hbt _ (shaL [97]) (by rfl) (by have := (hsk.keep0 hSc).bsrc; rwa [hkl] at this ⊢) (by rw [hkl]; simp) (by have := hmc.size; omega) (fun vd wd hbd hmd => ?_)
  have hSd : Mod NoB w16 wd := hSc.trans hmd (fun k hk e => by have := (hbt.lt e).1; omega)
  refine hK _ _ hSd ?_
  clear hK K
  try simp only [pl, pn, el, ec, sz, ss, gz, gs, if_true, if_false, Bool.false_eq_true, Bool.not_true, Bool.not_false, Nat.add_zero, Nat.zero_add, Nat.reduceAdd]
  refine wpPlan_one rfl (fun K hK => ?_)
  simp only [Array.getD_eq_getD_getElem?, List.getElem?_toArray, List.getElem?_cons_succ, List.getElem?_cons_zero, Option.getD_some]
  refine wp_bytes _ _ (by rfl) wb.heap.size _ _ (by rfl) hbd _ (shaL [120]) (by rfl) (by have := (hsv.keep0 hSd).bsrc; rwa [hvl] at this ⊢) (by rw [hvl, List.length_append, hkl]; simp) (by have := hmc.size; have := hmd.size; omega) (fun ve we hbe hme => ?_)
  have hSe : Mod NoB w16 we := hSd.trans hme (fun k hk e => by have := (hbd.lt e).1; omega)
  refine hK _ _ hSe ?_
  clear hK K
  try simp only [pl, pn, el, ec, sz, ss, gz, gs, if_true, if_false, Bool.false_eq_true, Bool.not_true, Bool.not_false, Nat.add_zero, Nat.zero_add, Nat.reduceAdd]
  refine wpPlan_one rfl (fun K hK => ?_)
  simp only [Array.getD_eq_getD_getElem?, List.getElem?_toArray, List.getElem?_cons_succ, List.getElem?_cons_zero, Option.getD_some]
  refine wp_enterQ (run_call 23 [.tmp 41] _ rfl _ Try.func23 rfl (by kernel_rfl) [ve] rfl _) (shaSum_any hbe.sl (by rw [List.length_append, List.length_append, hkl, hvl]; simp)) ?_
  rintro e wf ⟨rfl, hmf⟩
  have hSf := hSe.trans0 hmf
  have heR : shaL ([1] ++ shaL [97] ++ shaL [120]) = R := by rw [← HR.out, List.append_assoc]; rfl
  rw [heR]
  refine ⟨_, rfl, hK _ _ hSf ?_⟩
  clear hK K
  try simp only [pl, pn, el, ec, sz, ss, gz, gs, if_true, if_false, Bool.false_eq_true, Bool.not_true, Bool.not_false, Nat.add_zero, Nat.zero_add, Nat.reduceAdd]
  refine wpPlan_seg ?_
  simp only [List.map_cons, List.map_nil, Array.getD_eq_getD_getElem?, List.getElem?_toArray, List.getElem?_cons_succ, List.getElem?_cons_zero, Option.getD_some]
  refine wpPi_val rfl (fun w' hS => exec_eql_id _ _ _ _ rfl R R rfl rfl 32 5 Try.underlying38 Try.underlying5 (by kernel_rfl) (by kernel_rfl) hRl hRl true (decide_eq_true rfl)) ?_
  simp only [pl, pn, el, ec, sz, ss, gz, gs, if_true, if_false, Bool.false_eq_true, Bool.not_true, Bool.not_false, Nat.add_zero, Nat.zero_add, Nat.reduceAdd]
  refine wpPi_pick _ _ _ _ rfl rfl rfl ?_
  simp only [pl, pn, el, ec, sz, ss, gz, gs, if_true, if_false, Bool.false_eq_true, Bool.not_true, Bool.not_false, Nat.add_zero, Nat.zero_add, Nat.reduceAdd]
  refine wpPi_move _ rfl rfl ?_
  simp only [pl, pn, el, ec, sz, ss, gz, gs, if_true, if_false, Bool.false_eq_true, Bool.not_true, Bool.not_false, Nat.add_zero, Nat.zero_add, Nat.reduceAdd]
  refine wpPi_nil ?_
  refine planQ_normal ?_
  refine wpPlan_dep [(46, (fun v w' => ∃ cs, v = .agg cs ∧ EntC w' Ever cs eAX)), (47, (fun v w' => Es false w' Ever v [eAX])), (48, (fun v w' => ∃ cs, v = .agg cs ∧ EntC w' Ever cs eAY)), (49, (fun v w' => Es false w' Ever v [eAY])), (50, (fun v w' => Txt false w' Ever v [sA]))] [(23, 46, []), (24, 47, [46]), (25, 48, []), (26, 49, [48]), (27, 50, [])] ?hF ?hS (by decide) (by kernel_rfl) (by kernel_rfl) (by kernel_rfl) ?hw ?hend ?hop
  case hF =>
    intro x hx
    simp only [List.mem_cons, List.not_mem_nil, or_false] at hx
    rcases hx with rfl | rfl | rfl | rfl | rfl
    · exact entF_keep eAX
    · exact esF_keep [eAX]
    · exact entF_keep eAY
    · exact esF_keep [eAY]
    · exact txtF_keep [sA]
  case hS => exact (fun _ hm => hSf.trans0 hm)
  case hw =>
    intro q hq
    simp only [List.mem_cons, List.not_mem_nil, or_false] at hq
    rcases hq with rfl | rfl | rfl | rfl | rfl <;> rfl
  case hop =>
    intro q hq ps w1 hm hps hds hnd hpn K hK
    simp only [List.mem_cons, List.not_mem_nil, or_false] at hq
    rcases hq with rfl | rfl | rfl | rfl | rfl
    · simp only [depF, Nat.reduceEqDiff, if_true, if_false, reduceIte] at hK
      simp only [Array.getD_eq_getD_getElem?, List.getElem?_toArray, List.getElem?_cons_succ, List.getElem?_cons_zero, Option.getD_some]
      clear hps hds
      refine wp_enterQ (run_call 16 [.const (.string ⟨#[97]⟩), .const (.string ⟨#[120]⟩)] _ rfl _ Try.func16 rfl (by kernel_rfl) [.string ⟨#[97]⟩, .string ⟨#[120]⟩] rfl _) (lawOf_any ⟨#[97]⟩ ⟨#[120]⟩ (by decide) _) ?_
      rintro e wg ⟨cs, rfl, hec, hmg⟩
      exact ⟨_, rfl, hK _ _ hmg ⟨cs, rfl, hec⟩⟩
    · simp only [depF, Nat.reduceEqDiff, if_true, if_false, reduceIte] at hK
      simp only [Array.getD_eq_getD_getElem?, List.getElem?_toArray, List.getElem?_cons_succ, List.getElem?_cons_zero, Option.getD_some]
      obtain ⟨v46, hv46⟩ := hds 46 (by simp)
      have hf46 := hps (46, v46) hv46
      simp only [depF, Nat.reduceEqDiff, if_true, if_false, reduceIte] at hf46
      clear hps hds
      obtain ⟨cs, rfl, hec⟩ := hf46
      refine wp_buildSlice1 22 35 _ (.agg cs) (.agg #[.string ⟨#[]⟩, .slice none 0 0]) 2 (by rfl) (puts_get hv46 hnd (of_decide_eq_true (by rfl))) Try.underlying22 entry_i2 (by omega) (by omega) hec.size (fun wg hBg hmg hsg => ?_)
      exact hK _ _ hmg (es_one hBg (hec.keep hmg (fun _ _ => id)))
    · simp only [depF, Nat.reduceEqDiff, if_true, if_false, reduceIte] at hK
      simp only [Array.getD_eq_getD_getElem?, List.getElem?_toArray, List.getElem?_cons_succ, List.getElem?_cons_zero, Option.getD_some]
      clear hps hds
      refine wp_enterQ (run_call 16 [.const (.string ⟨#[97]⟩), .const (.string ⟨#[121]⟩)] _ rfl _ Try.func16 rfl (by kernel_rfl) [.string ⟨#[97]⟩, .string ⟨#[121]⟩] rfl _) (lawOf_any ⟨#[97]⟩ ⟨#[121]⟩ (by decide) _) ?_
      rintro e wg ⟨cs, rfl, hec, hmg⟩
      exact ⟨_, rfl, hK _ _ hmg ⟨cs, rfl, hec⟩⟩
    · simp only [depF, Nat.reduceEqDiff, if_true, if_false, reduceIte] at hK
      simp only [Array.getD_eq_getD_getElem?, List.getElem?_toArray, List.getElem?_cons_succ, List.getElem?_cons_zero, Option.getD_some]
      obtain ⟨v48, hv48⟩ := hds 48 (by simp)
      have hf48 := hps (48, v48) hv48
      simp only [depF, Nat.reduceEqDiff, if_true, if_false, reduceIte] at hf48
      clear hps hds
      obtain ⟨cs, rfl, hec⟩ := hf48
      refine wp_buildSlice1 22 35 _ (.agg cs) (.agg #[.string ⟨#[]⟩, .slice none 0 0]) 2 (by rfl) (puts_get hv48 hnd (of_decide_eq_true (by rfl))) Try.underlying22 entry_i2 (by omega) (by omega) hec.size (fun wg hBg hmg hsg => ?_)
      exact hK _ _ hmg (es_one hBg (hec.keep hmg (fun _ _ => id)))
    · simp only [depF, Nat.reduceEqDiff, if_true, if_false, reduceIte] at hK
      simp only [Array.getD_eq_getD_getElem?, List.getElem?_toArray, List.getElem?_cons_succ, List.getElem?_cons_zero, Option.getD_some]
      clear hps hds
      refine wp_buildSlice1 26 9 _ (.string sA) (.string ⟨#[]⟩) 1 (by rfl) (by rfl) Try.underlying26 str_i2 (by omega) (by omega) rfl (fun wg hBg hmg hsg => ?_)
      exact hK _ _ hmg (txt_one hBg)
  case hend =>
    intro vals wz hvl hGM hJ
    obtain ⟨v46, vals1, rfl, hvl1⟩ := vals_cons hvl
    obtain ⟨v47, vals2, rfl, hvl2⟩ := vals_cons hvl1
    obtain ⟨v48, vals3, rfl, hvl3⟩ := vals_cons hvl2
    obtain ⟨v49, vals4, rfl, hvl4⟩ := vals_cons hvl3
    obtain ⟨v50, vals5, rfl, hvl5⟩ := vals_cons hvl4
    obtain rfl := List.eq_nil_of_length_eq_zero hvl5
    simp only [List.map_cons, List.map_nil, List.zip_cons_cons, List.zip_nil_left] at hJ ⊢
    have h46 := hJ (46, v46) (by simp)
    simp only [depF, Nat.reduceEqDiff, if_true, if_false, reduceIte] at h46
    have h47 := hJ (47, v47) (by simp)
    simp only [depF, Nat.reduceEqDiff, if_true, if_false, reduceIte] at h47
    have h48 := hJ (48, v48) (by simp)
    simp only [depF, Nat.reduceEqDiff, if_true, if_false, reduceIte] at h48
    have h49 := hJ (49, v49) (by simp)
    simp only [depF, Nat.reduceEqDiff, if_true, if_false, reduceIte] at h49
    have h50 := hJ (50, v50) (by simp)
    simp only [depF, Nat.reduceEqDiff, if_true, if_false, reduceIte] at h50
    clear hJ hvl hvl1 hvl2 hvl3 hvl4 hvl5
    simp only [puts]
    try simp only [pl, pn, el, ec, sz, ss, gz, gs, if_true, if_false, Bool.false_eq_true, Bool.not_true, Bool.not_false, Nat.add_zero, Nat.zero_add, Nat.reduceAdd]
    refine wpPlan_one rfl (fun K hK => ?_)
    simp only [Array.getD_eq_getD_getElem?, List.getElem?_toArray, List.getElem?_cons_succ, List.getElem?_cons_zero, Option.getD_some]
    refine wp_enterQ (run_call 19 [.tmp 47, .tmp 49, .const (.int .i64 1), .tmp 50] _ rfl _ Try.func19 rfl (by kernel_rfl) [v47, v49, .int .i64 1, v50] rfl _) (differs_any h47 h49 h50 (short_one (by decide) (by decide)) (short_one (by decide) (by decide)) (by simp) (by simp) 1) ?_
    rintro e wh ⟨rfl, hmh⟩
    rw [HDF.out]
    have hSh := (hSf.trans0 hGM).trans0 hmh
    refine ⟨_, rfl, hK _ _ hSh ?_⟩
    clear hK K
    try simp only [pl, pn, el, ec, sz, ss, gz, gs, if_true, if_false, Bool.false_eq_true, Bool.not_true, Bool.not_false, Nat.add_zero, Nat.zero_add, Nat.reduceAdd]
    refine wpPlan_seg ?_
    simp only [List.map_cons, List.map_nil, Array.getD_eq_getD_getElem?, List.getElem?_toArray, List.getElem?_cons_succ, List.getElem?_cons_zero, Option.getD_some]
    refine wpPi_pick _ _ _ _ rfl rfl rfl ?_
    simp only [pl, pn, el, ec, sz, ss, gz, gs, if_true, if_false, Bool.false_eq_true, Bool.not_true, Bool.not_false, Nat.add_zero, Nat.zero_add, Nat.reduceAdd]
    refine wpPi_assign _ rfl rfl ?_
    simp only [pl, pn, el, ec, sz, ss, gz, gs, if_true, if_false, Bool.false_eq_true, Bool.not_true, Bool.not_false, Nat.add_zero, Nat.zero_add, Nat.reduceAdd]
    refine wpPi_nil ?_
    refine planQ_normal ?_
    refine wpPlan_fin ?_
    have hMr := hMw.trans0 hSh
    clear hSh hSf hSe hSd hSc hSb hSa hS
    go_wp2
    go_ret
    exact ⟨rfl, hMr⟩
end Go.Proofs.Ytchkikmmcmjcgaa

/- The walk of TreeDiffers. (Printed by DifW.gen.py.) -/
namespace Go.Proofs.Ytchkikmmcmjcgaa
set_option linter.unusedSimpArgs false
set_option linter.unusedVariables false
set_option linter.unnecessarySimpa false
set_option linter.unusedSectionVars false
open Go.RowKit Go.Shelf


theorem CpX.ent {base : Nat} {w : World} {x : EnS} {e : Ent} (h : CpX base w x e) : EntC w Ever (entEnc x).toArray e := ⟨x.val, by unfold entEnc; rw [h.1], h.2.sl.weak.mono (fun _ _ => trivial) (fun _ _ h => h)⟩
theorem difOk_same {a b : List Ent} {ks ms : List ByteArray} {n m : Nat} (h : DifOk a b ks n) (k : DifOk a b ms m) : ks = ms ∧ n = m := by
  by_cases he : errD a b = 0
  · exact ⟨(h.1 he).1.uniq (k.1 he).1 (fun _ => Iff.rfl), by rw [(h.1 he).2, (k.1 he).2]⟩
  · exact ⟨by rw [(h.2 he).1, (k.2 he).1], by rw [(h.2 he).2, (k.2 he).2]⟩
set_option maxRecDepth 10000 in
set_option maxHeartbeats 2000000 in
theorem treeDiffers_any {own own' : Bool} {G G' : Nat → Prop} (w : World) (va : Value) (a : List Ent) (vb : Value) (b : List Ent) (ha : Es own w G va a) (hb : Es own' w G' vb b) : Calls Try.prog 3 #[va, vb] w (RetM (.bool true) w) := by
  have HA := Lib.hid ha
  have HB := Lib.hid hb
  obtain ⟨aa, ca, rfl, -, -⟩ := Sl.at ha
  obtain ⟨ab, cb, rfl, -, -⟩ := Sl.at hb
  clear ha hb
  go_enter Try.func3, Try.ntmps3
  go_upto_region 1 with (fail)
  by_cases hSA : SmallE a
  rotate_left
  · have HLA := Lib.hid (longB_true hSA)
    clear hSA
    refine wp_region_seq [3, 1, 3, 3, 1, 3] (fun _ => True) (by rfl) (by rfl) trivial ?_
    simp only [List.zip_cons_cons, List.zip_nil_right]
    refine wpPi_move _ rfl rfl ?_
    simp only [pl, pn, el, ec, sz, ss, gz, gs, if_true, if_false, Bool.false_eq_true, Bool.not_true, Bool.not_false, Nat.add_zero, Nat.zero_add, Nat.reduceAdd]
    refine wpPi_do rfl (fun K hK => ?_)
    refine wp_enterQ (run_call 8 [.tmp 14] _ rfl _ Try.func8 rfl (by kernel_rfl) [.slice aa a.length ca] rfl _) (long_any HA.out) ?_
    rintro e w2 ⟨rfl, hm2⟩
    rw [HLA.out]
    refine ⟨_, rfl, hK _ _ trivial ?_⟩
    clear hK K
    try simp only [pl, pn, el, ec, sz, ss, gz, gs, if_true, if_false, Bool.false_eq_true, Bool.not_true, Bool.not_false, Nat.add_zero, Nat.zero_add, Nat.reduceAdd]
    refine wpPi_move _ rfl rfl ?_
    simp only [pl, pn, el, ec, sz, ss, gz, gs, if_true, if_false, Bool.false_eq_true, Bool.not_true, Bool.not_false, Nat.add_zero, Nat.zero_add, Nat.reduceAdd]
    refine wpPi_skip rfl ?_
    simp only [pl, pn, el, ec, sz, ss, gz, gs, if_true, if_false, Bool.false_eq_true, Bool.not_true, Bool.not_false, Nat.add_zero, Nat.zero_add, Nat.reduceAdd]
    refine wpPi_do_skip rfl trivial ?_
    simp only [pl, pn, el, ec, sz, ss, gz, gs, if_true, if_false, Bool.false_eq_true, Bool.not_true, Bool.not_false, Nat.add_zero, Nat.zero_add, Nat.reduceAdd]
    refine wpPi_pick _ _ _ _ rfl rfl rfl ?_
    simp only [pl, pn, el, ec, sz, ss, gz, gs, if_true, if_false, Bool.false_eq_true, Bool.not_true, Bool.not_false, Nat.add_zero, Nat.zero_add, Nat.reduceAdd]
    refine wpPi_nil ?_
    have hMe := hm2
    clear hm2
    go_upto_region 2 with (fail)
    refine wp_region_seq [1, 3] (fun _ => True) (by rfl) (by rfl) trivial ?_
    simp only [List.zip_cons_cons, List.zip_nil_right]
    refine wpPi_do rfl (fun K hK => ?_)
    refine wp_enterQ (run_call 9 [] _ rfl _ Try.func9 rfl (by kernel_rfl) [] rfl _) (awake_any _) ?_
    rintro e wa ⟨rfl, hma⟩
    refine ⟨_, rfl, hK _ _ trivial ?_⟩
    clear hK K
    try simp only [pl, pn, el, ec, sz, ss, gz, gs, if_true, if_false, Bool.false_eq_true, Bool.not_true, Bool.not_false, Nat.add_zero, Nat.zero_add, Nat.reduceAdd]
    refine wpPi_assign _ rfl rfl ?_
    simp only [pl, pn, el, ec, sz, ss, gz, gs, if_true, if_false, Bool.false_eq_true, Bool.not_true, Bool.not_false, Nat.add_zero, Nat.zero_add, Nat.reduceAdd]
    refine wpPi_nil ?_
    have hMr := hMe.trans0 hma
    clear hMe hma
    go_wp2
    go_ret
    exact ⟨rfl, hMr⟩
  have HLA := Lib.hid (longB_false hSA)
  by_cases hSB : SmallE b
  rotate_left
  · have HLB := Lib.hid (longB_true hSB)
    clear hSA hSB
    refine wp_region_seq [3, 1, 3, 3, 1, 3] (fun _ => True) (by rfl) (by rfl) trivial ?_
    simp only [List.zip_cons_cons, List.zip_nil_right]
    refine wpPi_move _ rfl rfl ?_
    simp only [pl, pn, el, ec, sz, ss, gz, gs, if_true, if_false, Bool.false_eq_true, Bool.not_true, Bool.not_false, Nat.add_zero, Nat.zero_add, Nat.reduceAdd]
    refine wpPi_do rfl (fun K hK => ?_)
    refine wp_enterQ (run_call 8 [.tmp 14] _ rfl _ Try.func8 rfl (by kernel_rfl) [.slice aa a.length ca] rfl _) (long_any HA.out) ?_
    rintro e w2 ⟨rfl, hm2⟩
    rw [HLA.out]
    refine ⟨_, rfl, hK _ _ trivial ?_⟩
    clear hK K
    try simp only [pl, pn, el, ec, sz, ss, gz, gs, if_true, if_false, Bool.false_eq_true, Bool.not_true, Bool.not_false, Nat.add_zero, Nat.zero_add, Nat.reduceAdd]
    refine wpPi_move _ rfl rfl ?_
    simp only [pl, pn, el, ec, sz, ss, gz, gs, if_true, if_false, Bool.false_eq_true, Bool.not_true, Bool.not_false, Nat.add_zero, Nat.zero_add, Nat.reduceAdd]
    refine wpPi_move _ rfl rfl ?_
    simp only [pl, pn, el, ec, sz, ss, gz, gs, if_true, if_false, Bool.false_eq_true, Bool.not_true, Bool.not_false, Nat.add_zero, Nat.zero_add, Nat.reduceAdd]
    refine wpPi_do rfl (fun K hK => ?_)
    refine wp_enterQ (run_call 8 [.tmp 17] _ rfl _ Try.func8 rfl (by kernel_rfl) [.slice ab b.length cb] rfl _) (long_any (HB.out.keep0 hm2)) ?_
    rintro e w3 ⟨rfl, hm3⟩
    rw [HLB.out]
    refine ⟨_, rfl, hK _ _ trivial ?_⟩
    clear hK K
    try simp only [pl, pn, el, ec, sz, ss, gz, gs, if_true, if_false, Bool.false_eq_true, Bool.not_true, Bool.not_false, Nat.add_zero, Nat.zero_add, Nat.reduceAdd]
    refine wpPi_pick _ _ _ _ rfl rfl rfl ?_
    simp only [pl, pn, el, ec, sz, ss, gz, gs, if_true, if_false, Bool.false_eq_true, Bool.not_true, Bool.not_false, Nat.add_zero, Nat.zero_add, Nat.reduceAdd]
    refine wpPi_nil ?_
    have hMe := hm2.trans0 hm3
    clear hm2 hm3
    go_upto_region 2 with (fail)
    refine wp_region_seq [1, 3] (fun _ => True) (by rfl) (by rfl) trivial ?_
    simp only [List.zip_cons_cons, List.zip_nil_right]
    refine wpPi_do rfl (fun K hK => ?_)
    refine wp_enterQ (run_call 9 [] _ rfl _ Try.func9 rfl (by kernel_rfl) [] rfl _) (awake_any _) ?_
    rintro e wa ⟨rfl, hma⟩
    refine ⟨_, rfl, hK _ _ trivial ?_⟩
    clear hK K
    try simp only [pl, pn, el, ec, sz, ss, gz, gs, if_true, if_false, Bool.false_eq_true, Bool.not_true, Bool.not_false, Nat.add_zero, Nat.zero_add, Nat.reduceAdd]
    refine wpPi_assign _ rfl rfl ?_
    simp only [pl, pn, el, ec, sz, ss, gz, gs, if_true, if_false, Bool.false_eq_true, Bool.not_true, Bool.not_false, Nat.add_zero, Nat.zero_add, Nat.reduceAdd]
    refine wpPi_nil ?_
    have hMr := hMe.trans0 hma
    clear hMe hma
    go_wp2
    go_ret
    exact ⟨rfl, hMr⟩
  have HLB := Lib.hid (longB_false hSB)
  have hsa := hSA.short
  have hsb := hSB.short
  have hla : a.length ≤ 4096 := by have := hSA.1; omega
  have hlb : b.length ≤ 4096 := by have := hSB.1; omega
  clear hSA hSB
  refine wp_region_seq [3, 1, 3, 3, 1, 3] (fun _ => True) (by rfl) (by rfl) trivial ?_
  simp only [List.zip_cons_cons, List.zip_nil_right]
  refine wpPi_move _ rfl rfl ?_
  simp only [pl, pn, el, ec, sz, ss, gz, gs, if_true, if_false, Bool.false_eq_true, Bool.not_true, Bool.not_false, Nat.add_zero, Nat.zero_add, Nat.reduceAdd]
  refine wpPi_do rfl (fun K hK => ?_)
  refine wp_enterQ (run_call 8 [.tmp 14] _ rfl _ Try.func8 rfl (by kernel_rfl) [.slice aa a.length ca] rfl _) (long_any HA.out) ?_
  rintro e w2 ⟨rfl, hm2⟩
  rw [HLA.out]
  refine ⟨_, rfl, hK _ _ trivial ?_⟩
  clear hK K
  try simp only [pl, pn, el, ec, sz, ss, gz, gs, if_true, if_false, Bool.false_eq_true, Bool.not_true, Bool.not_false, Nat.add_zero, Nat.zero_add, Nat.reduceAdd]
  refine wpPi_move _ rfl rfl ?_
  simp only [pl, pn, el, ec, sz, ss, gz, gs, if_true, if_false, Bool.false_eq_true, Bool.not_true, Bool.not_false, Nat.add_zero, Nat.zero_add, Nat.reduceAdd]
  refine wpPi_move _ rfl rfl ?_
  simp only [pl, pn, el, ec, sz, ss, gz, gs, if_true, if_false, Bool.false_eq_true, Bool.not_true, Bool.not_false, Nat.add_zero, Nat.zero_add, Nat.reduceAdd]
  refine wpPi_do rfl (fun K hK => ?_)
  refine wp_enterQ (run_call 8 [.tmp 17] _ rfl _ Try.func8 rfl (by kernel_rfl) [.slice ab b.length cb] rfl _) (long_any (HB.out.keep0 hm2)) ?_
  rintro e w3 ⟨rfl, hm3⟩
  rw [HLB.out]
  refine ⟨_, rfl, hK _ _ trivial ?_⟩
  clear hK K
  try simp only [pl, pn, el, ec, sz, ss, gz, gs, if_true, if_false, Bool.false_eq_true, Bool.not_true, Bool.not_false, Nat.add_zero, Nat.zero_add, Nat.reduceAdd]
  refine wpPi_pick _ _ _ _ rfl rfl rfl ?_
  simp only [pl, pn, el, ec, sz, ss, gz, gs, if_true, if_false, Bool.false_eq_true, Bool.not_true, Bool.not_false, Nat.add_zero, Nat.zero_add, Nat.reduceAdd]
  refine wpPi_nil ?_
  have hM3 := hm2.trans0 hm3
  replace HA := Lib.hid (HA.out.keep0 hM3)
  replace HB := Lib.hid (HB.out.keep0 hM3)
  clear hm2 hm3 HLA HLB
  go_upto_region 3 with (fail)
  refine wp_region_seq [3, 1, 3, 1, 3, 3] (fun _ => True) (by rfl) (by rfl) trivial ?_
  simp only [List.zip_cons_cons, List.zip_nil_right]
  refine wpPi_move _ rfl rfl ?_
  simp only [pl, pn, el, ec, sz, ss, gz, gs, if_true, if_false, Bool.false_eq_true, Bool.not_true, Bool.not_false, Nat.add_zero, Nat.zero_add, Nat.reduceAdd]
  refine wpPi_do rfl (fun K hK => ?_)
  refine wp_enterQ (run_call 10 [.tmp 21] _ rfl _ Try.func10 rfl (by kernel_rfl) [.slice aa a.length ca] rfl _) (copyEs_any HA.out hsa hla) ?_
  rintro e w4 ⟨v5, rfl, hg5, hm4⟩
  refine ⟨_, rfl, hK _ _ trivial ?_⟩
  clear hK K
  try simp only [pl, pn, el, ec, sz, ss, gz, gs, if_true, if_false, Bool.false_eq_true, Bool.not_true, Bool.not_false, Nat.add_zero, Nat.zero_add, Nat.reduceAdd]
  refine wpPi_move _ rfl rfl ?_
  simp only [pl, pn, el, ec, sz, ss, gz, gs, if_true, if_false, Bool.false_eq_true, Bool.not_true, Bool.not_false, Nat.add_zero, Nat.zero_add, Nat.reduceAdd]
  refine wpPi_do rfl (fun K hK => ?_)
  refine wp_enterQ (run_call 10 [.tmp 23] _ rfl _ Try.func10 rfl (by kernel_rfl) [.slice ab b.length cb] rfl _) (copyEs_any (HB.out.keep0 hm4) hsb hlb) ?_
  rintro e w5 ⟨v6, rfl, hg6, hm5⟩
  refine ⟨_, rfl, hK _ _ trivial ?_⟩
  clear hK K
  try simp only [pl, pn, el, ec, sz, ss, gz, gs, if_true, if_false, Bool.false_eq_true, Bool.not_true, Bool.not_false, Nat.add_zero, Nat.zero_add, Nat.reduceAdd]
  refine wpPi_assign _ rfl rfl ?_
  simp only [pl, pn, el, ec, sz, ss, gz, gs, if_true, if_false, Bool.false_eq_true, Bool.not_true, Bool.not_false, Nat.add_zero, Nat.zero_add, Nat.reduceAdd]
  refine wpPi_assign _ rfl rfl ?_
  simp only [pl, pn, el, ec, sz, ss, gz, gs, if_true, if_false, Bool.false_eq_true, Bool.not_true, Bool.not_false, Nat.add_zero, Nat.zero_add, Nat.reduceAdd]
  refine wpPi_nil ?_
  have hM45 := hm4.trans0 hm5
  have hM5 := hM3.trans0 hM45
  replace HA := Lib.hid (HA.out.keep0 hM45)
  replace HB := Lib.hid (HB.out.keep0 hM45)
  have HX := Lib.hid ((hg5.keep0 hm5 (fun x e h => h.keep0 hm5)).es (fun _ _ h => h.ent))
  have HY := Lib.hid (hg6.es (fun _ _ h => h.ent))
  obtain ⟨a5, c5, rfl⟩ := hg5.slice
  obtain ⟨a6, c6, rfl⟩ := hg6.slice
  clear hm4 hm5 hM45 hM3 hg5 hg6
  go_upto_region 4 with (fail)
  refine wp_region_seq [3, 3, 1, 3, 3, 3, 3, 3, 3, 3] (fun _ => True) (by rfl) (by rfl) trivial ?_
  simp only [List.zip_cons_cons, List.zip_nil_right]
  refine wpPi_move _ rfl rfl ?_
  simp only [pl, pn, el, ec, sz, ss, gz, gs, if_true, if_false, Bool.false_eq_true, Bool.not_true, Bool.not_false, Nat.add_zero, Nat.zero_add, Nat.reduceAdd]
  refine wpPi_move _ rfl rfl ?_
  simp only [pl, pn, el, ec, sz, ss, gz, gs, if_true, if_false, Bool.false_eq_true, Bool.not_true, Bool.not_false, Nat.add_zero, Nat.zero_add, Nat.reduceAdd]
  refine wpPi_do rfl (fun K hK => ?_)
  refine wp_enterQ (run_call 11 [.tmp 26, .tmp 27] _ rfl _ Try.func11 rfl (by kernel_rfl) [.slice a5 a.length c5, .slice a6 b.length c6] rfl _) (treeDiffer_any HX.out HY.out hsa hsb hla hlb) ?_
  rintro e w6 ⟨v7, ks, n, rfl, hg7, hok7, hm6⟩
  refine ⟨_, rfl, hK _ _ trivial ?_⟩
  clear hK K
  try simp only [pl, pn, el, ec, sz, ss, gz, gs, if_true, if_false, Bool.false_eq_true, Bool.not_true, Bool.not_false, Nat.add_zero, Nat.zero_add, Nat.reduceAdd]
  refine wpPi_move _ rfl rfl ?_
  simp only [pl, pn, el, ec, sz, ss, gz, gs, if_true, if_false, Bool.false_eq_true, Bool.not_true, Bool.not_false, Nat.add_zero, Nat.zero_add, Nat.reduceAdd]
  refine wpPi_any (v := ?_) rfl (fun w' => ?_) ?_; rotate_left; · (go_simp; try with_reducible rfl)
  simp only [pl, pn, el, ec, sz, ss, gz, gs, if_true, if_false, Bool.false_eq_true, Bool.not_true, Bool.not_false, Nat.add_zero, Nat.zero_add, Nat.reduceAdd]
  refine wpPi_any (v := ?_) rfl (fun w' => ?_) ?_; rotate_left; · (go_simp; try with_reducible rfl)
  simp only [pl, pn, el, ec, sz, ss, gz, gs, if_true, if_false, Bool.false_eq_true, Bool.not_true, Bool.not_false, Nat.add_zero, Nat.zero_add, Nat.reduceAdd]
  refine wpPi_any (v := ?_) rfl (fun w' => ?_) ?_; rotate_left; · (go_simp; try with_reducible rfl)
  simp only [pl, pn, el, ec, sz, ss, gz, gs, if_true, if_false, Bool.false_eq_true, Bool.not_true, Bool.not_false, Nat.add_zero, Nat.zero_add, Nat.reduceAdd]
  refine wpPi_assign _ rfl rfl ?_
  simp only [pl, pn, el, ec, sz, ss, gz, gs, if_true, if_false, Bool.false_eq_true, Bool.not_true, Bool.not_false, Nat.add_zero, Nat.zero_add, Nat.reduceAdd]
  refine wpPi_assign _ rfl rfl ?_
  simp only [pl, pn, el, ec, sz, ss, gz, gs, if_true, if_false, Bool.false_eq_true, Bool.not_true, Bool.not_false, Nat.add_zero, Nat.zero_add, Nat.reduceAdd]
  refine wpPi_assign _ rfl rfl ?_
  simp only [pl, pn, el, ec, sz, ss, gz, gs, if_true, if_false, Bool.false_eq_true, Bool.not_true, Bool.not_false, Nat.add_zero, Nat.zero_add, Nat.reduceAdd]
  refine wpPi_nil ?_
  have HK7 := Lib.hid hg7.txt
  obtain ⟨ad7, cap7, rfl⟩ := hg7.slice
  clear hg7
  go_upto_region 5 with (fail)
  refine wp_region_seq [3, 3, 1, 3, 3, 3, 3, 3, 3, 3] (fun _ => True) (by rfl) (by rfl) trivial ?_
  simp only [List.zip_cons_cons, List.zip_nil_right]
  refine wpPi_move _ rfl rfl ?_
  simp only [pl, pn, el, ec, sz, ss, gz, gs, if_true, if_false, Bool.false_eq_true, Bool.not_true, Bool.not_false, Nat.add_zero, Nat.zero_add, Nat.reduceAdd]
  refine wpPi_move _ rfl rfl ?_
  simp only [pl, pn, el, ec, sz, ss, gz, gs, if_true, if_false, Bool.false_eq_true, Bool.not_true, Bool.not_false, Nat.add_zero, Nat.zero_add, Nat.reduceAdd]
  refine wpPi_do rfl (fun K hK => ?_)
  refine wp_enterQ (run_call 12 [.tmp 33, .tmp 34] _ rfl _ Try.func12 rfl (by kernel_rfl) [.slice aa a.length ca, .slice ab b.length cb] rfl _) (refDiffer_any (HA.out.keep0 hm6) (HB.out.keep0 hm6) hsa hsb hla hlb) ?_
  rintro e w7 ⟨v10, ms, m, rfl, hg10, hok10, hm7⟩
  refine ⟨_, rfl, hK _ _ trivial ?_⟩
  clear hK K
  try simp only [pl, pn, el, ec, sz, ss, gz, gs, if_true, if_false, Bool.false_eq_true, Bool.not_true, Bool.not_false, Nat.add_zero, Nat.zero_add, Nat.reduceAdd]
  refine wpPi_move _ rfl rfl ?_
  simp only [pl, pn, el, ec, sz, ss, gz, gs, if_true, if_false, Bool.false_eq_true, Bool.not_true, Bool.not_false, Nat.add_zero, Nat.zero_add, Nat.reduceAdd]
  refine wpPi_any (v := ?_) rfl (fun w' => ?_) ?_; rotate_left; · (go_simp; try with_reducible rfl)
  simp only [pl, pn, el, ec, sz, ss, gz, gs, if_true, if_false, Bool.false_eq_true, Bool.not_true, Bool.not_false, Nat.add_zero, Nat.zero_add, Nat.reduceAdd]
  refine wpPi_any (v := ?_) rfl (fun w' => ?_) ?_; rotate_left; · (go_simp; try with_reducible rfl)
  simp only [pl, pn, el, ec, sz, ss, gz, gs, if_true, if_false, Bool.false_eq_true, Bool.not_true, Bool.not_false, Nat.add_zero, Nat.zero_add, Nat.reduceAdd]
  refine wpPi_any (v := ?_) rfl (fun w' => ?_) ?_; rotate_left; · (go_simp; try with_reducible rfl)
  simp only [pl, pn, el, ec, sz, ss, gz, gs, if_true, if_false, Bool.false_eq_true, Bool.not_true, Bool.not_false, Nat.add_zero, Nat.zero_add, Nat.reduceAdd]
  refine wpPi_assign _ rfl rfl ?_
  simp only [pl, pn, el, ec, sz, ss, gz, gs, if_true, if_false, Bool.false_eq_true, Bool.not_true, Bool.not_false, Nat.add_zero, Nat.zero_add, Nat.reduceAdd]
  refine wpPi_assign _ rfl rfl ?_
  simp only [pl, pn, el, ec, sz, ss, gz, gs, if_true, if_false, Bool.false_eq_true, Bool.not_true, Bool.not_false, Nat.add_zero, Nat.zero_add, Nat.reduceAdd]
  refine wpPi_assign _ rfl rfl ?_
  simp only [pl, pn, el, ec, sz, ss, gz, gs, if_true, if_false, Bool.false_eq_true, Bool.not_true, Bool.not_false, Nat.add_zero, Nat.zero_add, Nat.reduceAdd]
  refine wpPi_nil ?_
  have hkm := difOk_same hok7 hok10
  obtain ⟨rfl, rfl⟩ := hkm
  have HK10 := Lib.hid hg10.txt
  obtain ⟨ad10, cap10, rfl⟩ := hg10.slice
  replace HK7 := Lib.hid (Sl.keep0 HK7.out hm7)
  have hM67 := hm6.trans0 hm7
  clear hg10 hok7 hok10 hm6 hm7
  go_upto_region 6 with (fail)
  refine wp_region_seq [3, 3, 1, 3, 3, 3, 3, 3, 3, 3, 3, 3, 3, 3] (fun _ => True) (by rfl) (by rfl) trivial ?_
  simp only [List.zip_cons_cons, List.zip_nil_right]
  refine wpPi_move _ rfl rfl ?_
  simp only [pl, pn, el, ec, sz, ss, gz, gs, if_true, if_false, Bool.false_eq_true, Bool.not_true, Bool.not_false, Nat.add_zero, Nat.zero_add, Nat.reduceAdd]
  refine wpPi_move _ rfl rfl ?_
  simp only [pl, pn, el, ec, sz, ss, gz, gs, if_true, if_false, Bool.false_eq_true, Bool.not_true, Bool.not_false, Nat.add_zero, Nat.zero_add, Nat.reduceAdd]
  refine wpPi_do rfl (fun K hK => ?_)
  refine wp_enterQ (run_call 13 [.tmp 39, .tmp 40] _ rfl _ Try.func13 rfl (by kernel_rfl) [.slice ad7 ks.length cap7, .slice ad10 ks.length cap10] rfl _) (sameTexts_any HK7.out HK10.out) ?_
  rintro e w8 ⟨rfl, hm8⟩
  rw [decide_eq_true (show ks = ks from rfl)]
  refine ⟨_, rfl, hK _ _ trivial ?_⟩
  clear hK K
  try simp only [pl, pn, el, ec, sz, ss, gz, gs, if_true, if_false, Bool.false_eq_true, Bool.not_true, Bool.not_false, Nat.add_zero, Nat.zero_add, Nat.reduceAdd]
  refine wpPi_move _ rfl rfl ?_
  simp only [pl, pn, el, ec, sz, ss, gz, gs, if_true, if_false, Bool.false_eq_true, Bool.not_true, Bool.not_false, Nat.add_zero, Nat.zero_add, Nat.reduceAdd]
  refine wpPi_move _ rfl rfl ?_
  simp only [pl, pn, el, ec, sz, ss, gz, gs, if_true, if_false, Bool.false_eq_true, Bool.not_true, Bool.not_false, Nat.add_zero, Nat.zero_add, Nat.reduceAdd]
  refine wpPi_move _ rfl rfl ?_
  simp only [pl, pn, el, ec, sz, ss, gz, gs, if_true, if_false, Bool.false_eq_true, Bool.not_true, Bool.not_false, Nat.add_zero, Nat.zero_add, Nat.reduceAdd]
  refine wpPi_cmp _ _ _ _ _ _ _ _ rfl rfl rfl rfl rfl true (decide_eq_true rfl) ?_
  simp only [pl, pn, el, ec, sz, ss, gz, gs, if_true, if_false, Bool.false_eq_true, Bool.not_true, Bool.not_false, Nat.add_zero, Nat.zero_add, Nat.reduceAdd]
  refine wpPi_pick _ _ _ _ rfl rfl rfl ?_
  simp only [pl, pn, el, ec, sz, ss, gz, gs, if_true, if_false, Bool.false_eq_true, Bool.not_true, Bool.not_false, Nat.add_zero, Nat.zero_add, Nat.reduceAdd]
  refine wpPi_move _ rfl rfl ?_
  simp only [pl, pn, el, ec, sz, ss, gz, gs, if_true, if_false, Bool.false_eq_true, Bool.not_true, Bool.not_false, Nat.add_zero, Nat.zero_add, Nat.reduceAdd]
  refine wpPi_move _ rfl rfl ?_
  simp only [pl, pn, el, ec, sz, ss, gz, gs, if_true, if_false, Bool.false_eq_true, Bool.not_true, Bool.not_false, Nat.add_zero, Nat.zero_add, Nat.reduceAdd]
  refine wpPi_move _ rfl rfl ?_
  simp only [pl, pn, el, ec, sz, ss, gz, gs, if_true, if_false, Bool.false_eq_true, Bool.not_true, Bool.not_false, Nat.add_zero, Nat.zero_add, Nat.reduceAdd]
  refine wpPi_cmp _ _ _ _ _ _ _ _ rfl rfl rfl rfl rfl true (decide_eq_true rfl) ?_
  simp only [pl, pn, el, ec, sz, ss, gz, gs, if_true, if_false, Bool.false_eq_true, Bool.not_true, Bool.not_false, Nat.add_zero, Nat.zero_add, Nat.reduceAdd]
  refine wpPi_pick _ _ _ _ rfl rfl rfl ?_
  simp only [pl, pn, el, ec, sz, ss, gz, gs, if_true, if_false, Bool.false_eq_true, Bool.not_true, Bool.not_false, Nat.add_zero, Nat.zero_add, Nat.reduceAdd]
  refine wpPi_assign _ rfl rfl ?_
  simp only [pl, pn, el, ec, sz, ss, gz, gs, if_true, if_false, Bool.false_eq_true, Bool.not_true, Bool.not_false, Nat.add_zero, Nat.zero_add, Nat.reduceAdd]
  refine wpPi_nil ?_
  replace HK7 := Lib.hid (Sl.keep0 HK7.out hm8)
  have hM8 := hM67.trans0 hm8
  clear hm8 hM67 HK10
  go_upto_region 7 with (fail)
  refine wp_region_seq [3, 1] (fun _ => True) (by rfl) (by rfl) trivial ?_
  simp only [List.zip_cons_cons, List.zip_nil_right]
  refine wpPi_move _ rfl rfl ?_
  simp only [pl, pn, el, ec, sz, ss, gz, gs, if_true, if_false, Bool.false_eq_true, Bool.not_true, Bool.not_false, Nat.add_zero, Nat.zero_add, Nat.reduceAdd]
  refine wpPi_do rfl (fun K hK => ?_)
  refine wp_enterQ (run_call 14 [.tmp 52] _ rfl _ Try.func14 rfl (by kernel_rfl) [.slice ad7 ks.length cap7] rfl _) (overTexts_any HK7.out) ?_
  rintro e w9 ⟨rfl, hm9⟩
  refine ⟨_, rfl, hK _ _ trivial ?_⟩
  clear hK K
  try simp only [pl, pn, el, ec, sz, ss, gz, gs, if_true, if_false, Bool.false_eq_true, Bool.not_true, Bool.not_false, Nat.add_zero, Nat.zero_add, Nat.reduceAdd]
  refine wpPi_nil ?_
  have hM9 : Mod NoB w5 w9 := hM8.trans hm9 (fun k hk e => by have h1 := e.1; omega)
  have hMw := hM5.trans0 hM9
  replace HA := Lib.hid (HA.out.keep0 hM9)
  replace HB := Lib.hid (HB.out.keep0 hM9)
  replace HX := Lib.hid (HX.out.keep0 hM9)
  replace HY := Lib.hid (HY.out.keep0 hM9)
  clear hM8 hm9 hM9 hM5 HK7
  go_upto_region 8 with (fail)
  refine wp_region_seq [3, 3, 3, 3, 1, 3, 3, 3, 3, 1, 3, 3, 1, 3, 3] (fun _ => True) (by rfl) (by rfl) trivial ?_
  simp only [List.zip_cons_cons, List.zip_nil_right]
  refine wpPi_move _ rfl rfl ?_
  simp only [pl, pn, el, ec, sz, ss, gz, gs, if_true, if_false, Bool.false_eq_true, Bool.not_true, Bool.not_false, Nat.add_zero, Nat.zero_add, Nat.reduceAdd]
  refine wpPi_move _ rfl rfl ?_
  simp only [pl, pn, el, ec, sz, ss, gz, gs, if_true, if_false, Bool.false_eq_true, Bool.not_true, Bool.not_false, Nat.add_zero, Nat.zero_add, Nat.reduceAdd]
  refine wpPi_move _ rfl rfl ?_
  simp only [pl, pn, el, ec, sz, ss, gz, gs, if_true, if_false, Bool.false_eq_true, Bool.not_true, Bool.not_false, Nat.add_zero, Nat.zero_add, Nat.reduceAdd]
  refine wpPi_move _ rfl rfl ?_
  simp only [pl, pn, el, ec, sz, ss, gz, gs, if_true, if_false, Bool.false_eq_true, Bool.not_true, Bool.not_false, Nat.add_zero, Nat.zero_add, Nat.reduceAdd]
  refine wpPi_do rfl (fun K hK => ?_)
  refine wp_enterQ (run_call 15 [.tmp 56, .tmp 57] _ rfl _ Try.func15 rfl (by kernel_rfl) [.slice a5 a.length c5, .slice aa a.length ca] rfl _) (sameEs_any HX.out HA.out rfl) ?_
  rintro e w10 ⟨rfl, hm10⟩
  rw [decide_eq_true (show a = a from rfl)]
  refine ⟨_, rfl, hK _ _ trivial ?_⟩
  clear hK K
  try simp only [pl, pn, el, ec, sz, ss, gz, gs, if_true, if_false, Bool.false_eq_true, Bool.not_true, Bool.not_false, Nat.add_zero, Nat.zero_add, Nat.reduceAdd]
  refine wpPi_pick _ _ _ _ rfl rfl rfl ?_
  simp only [pl, pn, el, ec, sz, ss, gz, gs, if_true, if_false, Bool.false_eq_true, Bool.not_true, Bool.not_false, Nat.add_zero, Nat.zero_add, Nat.reduceAdd]
  refine wpPi_move _ rfl rfl ?_
  simp only [pl, pn, el, ec, sz, ss, gz, gs, if_true, if_false, Bool.false_eq_true, Bool.not_true, Bool.not_false, Nat.add_zero, Nat.zero_add, Nat.reduceAdd]
  refine wpPi_move _ rfl rfl ?_
  simp only [pl, pn, el, ec, sz, ss, gz, gs, if_true, if_false, Bool.false_eq_true, Bool.not_true, Bool.not_false, Nat.add_zero, Nat.zero_add, Nat.reduceAdd]
  refine wpPi_move _ rfl rfl ?_
  simp only [pl, pn, el, ec, sz, ss, gz, gs, if_true, if_false, Bool.false_eq_true, Bool.not_true, Bool.not_false, Nat.add_zero, Nat.zero_add, Nat.reduceAdd]
  refine wpPi_do rfl (fun K hK => ?_)
  refine wp_enterQ (run_call 15 [.tmp 61, .tmp 62] _ rfl _ Try.func15 rfl (by kernel_rfl) [.slice a6 b.length c6, .slice ab b.length cb] rfl _) (sameEs_any (HY.out.keep0 hm10) (HB.out.keep0 hm10) rfl) ?_
  rintro e w11 ⟨rfl, hm11⟩
  rw [decide_eq_true (show b = b from rfl)]
  refine ⟨_, rfl, hK _ _ trivial ?_⟩
  clear hK K
  try simp only [pl, pn, el, ec, sz, ss, gz, gs, if_true, if_false, Bool.false_eq_true, Bool.not_true, Bool.not_false, Nat.add_zero, Nat.zero_add, Nat.reduceAdd]
  refine wpPi_pick _ _ _ _ rfl rfl rfl ?_
  simp only [pl, pn, el, ec, sz, ss, gz, gs, if_true, if_false, Bool.false_eq_true, Bool.not_true, Bool.not_false, Nat.add_zero, Nat.zero_add, Nat.reduceAdd]
  refine wpPi_move _ rfl rfl ?_
  simp only [pl, pn, el, ec, sz, ss, gz, gs, if_true, if_false, Bool.false_eq_true, Bool.not_true, Bool.not_false, Nat.add_zero, Nat.zero_add, Nat.reduceAdd]
  refine wpPi_do rfl (fun K hK => ?_)
  refine wp_enterQ (run_call 9 [] _ rfl _ Try.func9 rfl (by kernel_rfl) [] rfl _) (awake_any _) ?_
  rintro e w12 ⟨rfl, hm12⟩
  refine ⟨_, rfl, hK _ _ trivial ?_⟩
  clear hK K
  try simp only [pl, pn, el, ec, sz, ss, gz, gs, if_true, if_false, Bool.false_eq_true, Bool.not_true, Bool.not_false, Nat.add_zero, Nat.zero_add, Nat.reduceAdd]
  refine wpPi_pick _ _ _ _ rfl rfl rfl ?_
  simp only [pl, pn, el, ec, sz, ss, gz, gs, if_true, if_false, Bool.false_eq_true, Bool.not_true, Bool.not_false, Nat.add_zero, Nat.zero_add, Nat.reduceAdd]
  refine wpPi_assign _ rfl rfl ?_
  simp only [pl, pn, el, ec, sz, ss, gz, gs, if_true, if_false, Bool.false_eq_true, Bool.not_true, Bool.not_false, Nat.add_zero, Nat.zero_add, Nat.reduceAdd]
  refine wpPi_nil ?_
  have hMr := ((hMw.trans0 hm10).trans0 hm11).trans0 hm12
  clear hMw hm10 hm11 hm12
  go_wp2
  go_ret
  exact ⟨rfl, hMr⟩
end Go.Proofs.Ytchkikmmcmjcgaa

/- From a walk that turns nothing to what a row asks: the post-condition of a statement that is not asked again. -/
namespace Go.Proofs.Ytchkikmmcmjcgaa
set_option linter.unusedSimpArgs false
set_option linter.unusedVariables false
set_option linter.unnecessarySimpa false
set_option linter.unusedSectionVars false
open Go.ChangeShapes Go.WideShapes Go.ChangeAt Go.RowKit

theorem Mod.kept {w w' : World} (h : Mod NoB w w') (may : MemPlace → Prop) : w.keptBut w' may := by
  refine ⟨h.os, h.output, fun i hi => ?_⟩
  have e := h.block i hi id
  cases hw : w.heap[i]? with
  | none => rw [hw] at e; simp [e]
  | some o =>
    rw [hw] at e
    cases o <;> simp [e]

/-- Nothing has turned, and the results and arguments read as they should: so the post-condition holds. -/
theorem post_of_mod {H : Type} {enc : TypeId × Value → H} {P : Program} {f : Func} {s : ChangeSpec} {apart fresh handsOn : Bool} {W W' : World} {args : Array Value} {v : Value} {ds gs : List (DataW H)} {before pa pv : List MemPlace}
    (hold : DataW.Whole enc P f.params.toList s.vars apart W args.toList ds gs before) (hm : Mod NoB W W')
    (hr : ∀ (b : Nat), DataW.TrodAll enc P W' b (fun _ => false) handsOn f.resultTypes.toList (v.resultList f.resultTypes.size) (s.fn H (ds ++ gs)).results [])
    (ha : DataW.TrodAll enc P W' 0 (fun b => decide (b < W.heap.size)) true f.params.toList args.toList (s.fn H (ds ++ gs)).args pa)
    (hv : DataW.TrodVars enc P W' (fun b => decide (b < W.heap.size)) s.vars (s.fn H (ds ++ gs)).vars pv) : s.post enc P f apart fresh handsOn false W args v W' := by
  unfold ChangeSpec.post
  exact ⟨ds, gs, before, [], pa, pv, hold, hr _, ha, hv, hm.kept _, fun h => Bool.noConfusion h⟩

theorem laidOut : laidOutB Try.prog = true := by kernel_rfl
/-- What is read of an argument is read as before, where nothing has turned. -/
theorem carry {H : Type} {enc : TypeId × Value → H} {t : TypeId} (hr : Try.prog.readableRec t = true) (hrow : t < Try.prog.types.size) {W W' : World} (hm : Mod NoB W W') {v : Value} {d : DataW H} {ps : List MemPlace}
    (h : DataW.Trod enc Try.prog W 0 (fun _ => true) true t v d ps) : DataW.Trod enc Try.prog W' 0 (fun b => decide (b < W.heap.size)) true t v d ps := by
  obtain ⟨n, h⟩ := h
  have hlt := DataW.trod_lt n t _ _ h
  refine ⟨n, DataW.trod_stays (kids_book laidOut hr) (book_sized hr) (fun h => by cases h) ⟨hrow, book_self t⟩ h (fun p hp => ?_) (fun p hp => by simpa using hlt p hp)⟩
  have hb := hlt p hp
  cases p with
  | cell b off => exact World.cell?_of_block (w := W) (hm.block b hb id)
  | map b => exact hm.block b hb id
end Go.Proofs.Ytchkikmmcmjcgaa

/- Arguments, read: entries, bytes, sides, digests. -/
namespace Go.Proofs.Ytchkikmmcmjcgaa
set_option linter.unusedSimpArgs false
set_option linter.unusedVariables false
set_option linter.unnecessarySimpa false
set_option linter.unusedSectionVars false
open Go.ChangeShapes Go.WideShapes Go.ChangeAt Go.RowKit

theorem fit_i64 {n : Int} (h : (Lit.int .i64 n).wf = true) : -9223372036854775808 ≤ n ∧ n ≤ 9223372036854775807 := bounds_i64 h

theorem addr_add {w : World} {a : Addr} {v : Value} (i : Nat) (h0 : ∃ u, w.cell? (a.add 0) = some u) (h : w.cell? (a.add i) = some v) : a = ⟨a.block, a.off, none⟩ ∧ w.cell? ⟨a.block, a.off + i, none⟩ = some v := by
  obtain ⟨u, h0⟩ := h0
  obtain ⟨b, off, spot⟩ := a
  have hs : spot = none := by
    simp only [Addr.add, if_true] at h0
    unfold World.cell? at h0
    cases spot with
    | none => rfl
    | some s => cases hw : w.heap[b]? with
      | none => simp [hw] at h0
      | some o => cases o <;> simp [hw] at h0
  subst hs
  refine ⟨rfl, ?_⟩
  unfold Addr.add at h
  split at h
  · rename_i hi; subst hi; exact h
  · exact h

theorem list_of_all {α : Type} {n : Nat} {Q : Nat → α → Prop} (h : ∀ i, i < n → ∃ a, Q i a) : ∃ l : List α, l.length = n ∧ ∀ i (hi : i < l.length), Q i l[i] := by
  refine ⟨List.ofFn fun i : Fin n => Classical.choose (h i.1 i.2), by simp, fun i hi => ?_⟩
  rw [List.getElem_ofFn]
  exact Classical.choose_spec (h i (by simpa using hi))

theorem addr_cells {w : World} {a : Addr} {i j : Nat} {u v : Value} (h0 : w.cell? ((a.add 0).add 0) = some u) (h : w.cell? ((a.add i).add j) = some v) : a = ⟨a.block, a.off, none⟩ ∧ w.cell? ⟨a.block, a.off + i + j, none⟩ = some v := by
  have e0 : (a.add 0).add 0 = a.add 0 := by simp [Addr.add]
  have h1 := (addr_add 0 ⟨u, e0 ▸ h0⟩ (e0 ▸ h0)).1
  refine ⟨h1, ?_⟩
  rw [h1] at h
  have e : ∀ (b o k : Nat), Addr.add ⟨b, o, none⟩ k = ⟨b, o + k, none⟩ := fun b o k => by
    unfold Addr.add
    split
    · rename_i hk; subst hk; rfl
    · rfl
  rwa [e, e] at h

section
variable {H : Type} {enc : TypeId × Value → H} {P : Program} {W : World} {sp : Nat → Bool} {held : Bool}

theorem sl_of_trod {α : Type} {R : Array Value → α → Prop} {t e : TypeId} {sz fuel : Nat} {cs : List Value} {x : DataW H × List MemPlace} (ht : P.underlying t = some (.slice e)) (hsz : P.cellsOf e = sz) (hpos : 0 < sz)
    (hR : ∀ n cs x, DataW.trod enc P W 0 sp held n e cs = some x → ∃ a, R cs.toArray a) (h : DataW.trod enc P W 0 sp held fuel t cs = some x) : ∃ v l, cs = [v] ∧ Sl false W (fun k => k < W.heap.size) sz R v l := by
  rcases DataW.trod_slice ht h with ⟨rfl, _⟩ | ⟨a, len, cap, elems, rest, n, _, rfl, _, _, hlc, hcm, hel, helem, _, _⟩
  · exact ⟨_, [], rfl, Sl.nil _ _ _ _ _⟩
  · subst hsz
    have hall : ∀ i, i < len → ∃ y : α, ∃ cs : List Value, cs.length = P.cellsOf e ∧ R cs.toArray y ∧ ∀ j, j < P.cellsOf e → W.cell? ((a.add (i * P.cellsOf e)).add j) = cs[j]? := by
      intro i hi
      have h1 := helem i hi
      rw [List.getElem?_eq_getElem (by omega)] at h1
      obtain ⟨cs, h2, h3⟩ := Option.bind_eq_some_iff.1 h1
      obtain ⟨_, hl, hc⟩ := World.cells?_some h2
      obtain ⟨y, hy⟩ := hR _ _ _ h3
      exact ⟨y, cs, hl, hy, hc⟩
    obtain ⟨l, hl, hq⟩ := list_of_all hall
    refine ⟨_, l, rfl, some a, cap, by rw [hl], by omega, hcm, fun hne => ?_⟩
    have hp : 0 < l.length := List.length_pos_iff.2 hne
    have h0 : ∃ u, W.cell? ((a.add 0).add 0) = some u := by
      obtain ⟨cs, h1, _, h3⟩ := hq 0 hp
      have := h3 0 hpos
      rw [List.getElem?_eq_getElem (by omega), Nat.zero_mul] at this
      exact ⟨_, this⟩
    obtain ⟨u, h0⟩ := h0
    refine ⟨a.block, a.off, by rw [← (addr_cells h0 h0).1], (block_lt_of_cell (a := ⟨a.block, a.off + 0 + 0, none⟩) (addr_cells h0 h0).2), fun h => (by cases h), fun i hi => ?_⟩
    obtain ⟨cs, h1, h2, h3⟩ := hq i hi
    refine ⟨cs.toArray, by simpa using h1, h2, fun j hj => ?_⟩
    have hj' : j < cs.length := by simpa using hj
    have := h3 j (by omega)
    rw [List.getElem?_eq_getElem hj'] at this
    rw [(addr_cells h0 this).2]
    simp [List.getElem?_eq_getElem hj']

theorem field_of_trod {t : TypeId} {fs : Array Field} {fuel : Nat} {cs : List Value} {x : DataW H × List MemPlace} (ht : P.underlying t = some (.struct fs)) (h : DataW.trod enc P W 0 sp held fuel t cs = some x) :
    cs.length = P.cellsOf t ∧ ∀ (i : Nat) (f : Field), fs[i]? = some f → ∃ n y, DataW.trod enc P W 0 sp held n f.type ((cs.drop f.offset).take (P.cellsOf f.type)) = some y := by
  obtain ⟨xs, n, _, _, hl, hx, hf⟩ := DataW.trod_struct ht h
  refine ⟨hl, fun i f hi => ⟨n, ?_⟩⟩
  have hi' : i < xs.length := by
    rcases Nat.lt_or_ge i fs.size with h | h
    · omega
    · rw [Array.getElem?_eq_none h] at hi; cases hi
  have := hf i f hi
  rw [List.getElem?_eq_getElem hi'] at this
  exact ⟨_, this⟩

theorem drop_step (cs : List Value) (k n : Nat) : cs.drop k = (cs.drop k).take n ++ cs.drop (k + n) := by
  rw [← List.drop_drop, List.take_append_drop]
end


theorem okWide_array {P : Program} {w : World} {r : Reach} {base : Nat} {t : TypeId} {v : Value} {n : Nat} {e : TypeId} (ht : P.underlying t = some (.array n e)) (h : Value.okWide P w r base t v) : ∃ cs, v = .agg cs ∧ cs.size = P.cellsOf t := by
  simp only [Value.okWide, ht] at h
  obtain ⟨cs, h1, h2, _⟩ := h
  exact ⟨cs, h1, h2⟩



section
variable {H : Type} {enc : TypeId × Value → H} {W : World} {sp : Nat → Bool} {held : Bool} {fuel : Nat} {cs : List Value} {x : DataW H × List MemPlace}

theorem read_u8 (h : DataW.trod enc Try.prog W 0 sp held fuel 5 cs = some x) : ∃ b, cs = [byteV b] := by
  obtain ⟨n, rfl, _, hw⟩ := DataW.trod_int Try.underlying5 h
  have := bounds_u8 hw
  refine ⟨UInt8.ofNat n.toNat, ?_⟩
  unfold byteV
  rw [UInt8.toNat_ofNat_of_lt' (by rw [show UInt8.size = 256 from rfl]; omega), Int.toNat_of_nonneg this.1]

theorem read_bytes (h : DataW.trod enc Try.prog W 0 sp held fuel 33 cs = some x) : ∃ v l, cs = [v] ∧ Sl false W (fun k => k < W.heap.size) 1 ByteC v l :=
  sl_of_trod Try.underlying33 (by kernel_rfl) (by decide) (fun _ _ _ h => by
    obtain ⟨b, rfl⟩ := read_u8 h
    exact ⟨b, rfl⟩) h
theorem read_entry (h : DataW.trod enc Try.prog W 0 sp held fuel 35 cs = some x) : ∃ e, EntC W (fun k => k < W.heap.size) cs.toArray e := by
  obtain ⟨hl, hf⟩ := field_of_trod Try.underlying35 h
  have c9 : Try.prog.cellsOf 9 = 1 := by kernel_rfl
  have c33 : Try.prog.cellsOf 33 = 1 := by kernel_rfl
  have hc : Try.prog.cellsOf 35 = 2 := by kernel_rfl
  obtain ⟨_, _, h0⟩ : ∃ n y, DataW.trod enc Try.prog W 0 sp held n 9 ((cs.drop 0).take (Try.prog.cellsOf 9)) = some y := hf 0 _ rfl
  obtain ⟨_, _, h1⟩ : ∃ n y, DataW.trod enc Try.prog W 0 sp held n 33 ((cs.drop 1).take (Try.prog.cellsOf 33)) = some y := hf 1 _ rfl
  obtain ⟨r, e0, _, b0⟩ := DataW.trod_string Try.underlying9 h0
  obtain ⟨v, l, e1, hs⟩ := read_bytes h1
  rw [hc] at hl
  rw [c9] at e0
  rw [c33] at e1
  refine ⟨(r, l), v, ?_, hs⟩
  have := drop_step cs 0 1
  rw [e0, drop_step cs (0 + 1) 1, e1, show 0 + 1 + 1 = 2 from rfl, List.drop_of_length_le (i := 2) (by omega), List.drop_zero] at this
  rw [this]
  rfl
theorem read_entries (h : DataW.trod enc Try.prog W 0 sp held fuel 22 cs = some x) : ∃ v l, cs = [v] ∧ Es false W (fun k => k < W.heap.size) v l :=
  sl_of_trod Try.underlying22 (by kernel_rfl) (by decide) (fun _ _ _ h => read_entry h) h
end

section
variable {H : Type} {enc : TypeId × Value → H} {W W0 : World} {sp : Nat → Bool} {r : Reach} {b0 : Nat} {v : Value} {d : DataW H} {ps : List MemPlace}
set_option maxRecDepth 10000 in
theorem open_bytes (hval : Value.okWide Try.prog W0 r b0 33 v) (h : DataW.Trod enc Try.prog W 0 sp true 33 v d ps) : ∃ l, Sl false W (fun k => k < W.heap.size) 1 ByteC v l := by
  obtain ⟨a0, n0, c0, rfl⟩ := okWide_slice Try.underlying33 hval
  obtain ⟨fuel, h⟩ := h
  obtain ⟨v, l, hv, hl⟩ := read_bytes h
  have : Value.slice a0 n0 c0 = v := by simpa [Value.cells] using hv
  rw [this]
  exact ⟨l, hl⟩
set_option maxRecDepth 10000 in
theorem open_entries (hval : Value.okWide Try.prog W0 r b0 22 v) (h : DataW.Trod enc Try.prog W 0 sp true 22 v d ps) : ∃ l, Es false W (fun k => k < W.heap.size) v l := by
  obtain ⟨a0, n0, c0, rfl⟩ := okWide_slice Try.underlying22 hval
  obtain ⟨fuel, h⟩ := h
  obtain ⟨v, l, hv, hl⟩ := read_entries h
  have : Value.slice a0 n0 c0 = v := by simpa [Value.cells] using hv
  rw [this]
  exact ⟨l, hl⟩
end
end Go.Proofs.Ytchkikmmcmjcgaa
