/- What the statement TreeRoots needs, part 8. -/
import Derived.WalkKit
import Derived.ProofKit
import Derived.OpenShut
import Derived.ChangeStays
import Derived.ChangeBook
import Derived.ChangeSlices
import Derived.Test.YtchkikmmcmjcgaaGreatTreeRootsP7
/- The walk of TreeRoots. (Printed by RtsW.gen.py.) -/
namespace Go.Proofs.YtchkikmmcmjcgaaGreat
set_option linter.unusedSimpArgs false
set_option linter.unusedVariables false
set_option linter.unnecessarySimpa false
set_option linter.unusedSectionVars false
open Go.RowKit Go.Shelf


theorem CpX.ent {base : Nat} {w : World} {x : EnS} {e : Ent} (h : CpX base w x e) : EntC w Ever (entEnc x).toArray e := ⟨x.val, by unfold entEnc; rw [h.1], h.2.sl.weak.mono (fun _ _ => trivial) (fun _ _ h => h)⟩
theorem EntC.keep0 {w w' : World} {cs : Array Value} {e : Ent} (h : EntC w Ever cs e) (hm : Mod NoB w w') : EntC w' Ever cs e := h.keep hm (fun _ _ => id)
theorem rootOut_len (l : List Ent) : (rootOut l).length = 32 := by
  unfold rootOut
  split
  · rename_i h; exact dig_len rfl (lie_of_chk h)
  · rfl
theorem Ss.src {own : Bool} {w : World} {G : Nat → Prop} {v : Value} {ps : List SideL} (h : Ss own w G v ps) : Src w 33 v ps.length (ps.flatMap sideEnc) := by
  obtain ⟨css, h1, _, h2⟩ := Sl.src h (by omega)
  have e : css = ps.map sideCells := by
    apply List.ext_getElem
    · simp [h1.1]
    · intro i h3 h4
      rw [(h1.2 i h3 (by rw [← h1.1]; exact h3)).1, List.getElem_map]
  rw [e, List.flatMap_map] at h2
  exact h2
theorem gat_ss {base : Nat} {w : World} {v : Value} {ps : List SideL} (h : Gat sideEnc 41 33 base w v ps) (hl : ∀ s ∈ ps, s.2.length = 32) : Ss true w (fun q => base ≤ q ∧ q < w.heap.size) v ps := by
  obtain ⟨a, cap, hv, h1, h2, h3⟩ := h.sl sideEnc_len
  refine ⟨a, cap, hv, h1, h2, fun hne => ?_⟩
  obtain ⟨b, off, ha, hG, ho, h4⟩ := h3 hne
  refine ⟨b, off, ha, ⟨hG.1, hG.2.1⟩, ho, fun i hi => ?_⟩
  obtain ⟨cs, hs, hR, hc⟩ := h4 i hi
  exact ⟨cs, hs, ⟨hR, hl _ (List.getElem_mem hi)⟩, hc⟩
theorem Ss.ok {own : Bool} {w : World} {G : Nat → Prop} {v : Value} {ps : List SideL} (h : Ss own w G v ps) : ∀ s ∈ ps, s.2.length = 32 := by
  intro s hs
  obtain ⟨i, hi, rfl⟩ := List.getElem_of_mem hs
  obtain ⟨_, _, _, -, hat⟩ := Sl.at h
  obtain ⟨_, _, _, -, -, hc⟩ := hat i hi
  obtain ⟨_, -, hR, -⟩ := hc i hi
  exact hR.2
theorem pathOut_ok (l : List Ent) (key : ByteArray) : ∀ s ∈ pathOut l key, s.2.length = 32 := by
  unfold pathOut
  split
  · rename_i h
    intro s hs
    refine path_val _ 256 0 (leavesE l) rfl (lie_of_chk ?_) s hs
    unfold errP at h
    split at h
    · rename_i h2; exact absurd h h2
    · rename_i h2; exact Classical.not_not.1 h2
  · intro s hs; cases hs
theorem pathOut_len (l : List Ent) (key : ByteArray) : (pathOut l key).length ≤ 256 := by
  unfold pathOut
  split
  · exact path_len _ 256 0 _
  · simp
theorem exec_eql_bool {w : World} {o : Oper} {a : Act} (x y : Operand) (yt : TypeId) (b : Bool) (ho : o.op = .binOp .eql 4 x y yt) (hx : a.eval x = .bool b) (hy : a.eval y = .bool b) :
    (execOp a.eval o).run Tryz.prog w = .ok (.value (.bool true)) w := by
  unfold execOp
  simp only [ho, hx, hy]
  cases b <;> go_simp
theorem puts_args {ps : List (Nat × Value)} {G : List Nat} {t0 : Nat} (h : ∀ p ∈ ps, p.1 ≠ t0 ∧ p.1 ∈ G) (a : Act) (l : List Operand) (hl : (l.all fun o => match o with | .tmp t => !G.contains t | _ => true) = true) : l.map (puts ps a).eval = l.map a.eval := by
  refine List.map_congr_left fun o ho => ?_
  have h1 := List.all_eq_true.1 hl o ho
  cases o with
  | tmp t =>
    refine puts_eval (fun p hp e => ?_) a
    have h2 := (h p hp).2
    rw [e] at h2
    simp [h2] at h1
  | const v => rfl
  | func f => rfl
  | _ => rfl
def seven : List UInt8 := 7 :: List.replicate 31 0
theorem built_seven : Tryz.prog.built 24 [(0, .int .u8 7)] = some (idCells seven) := by kernel_rfl
def OvRel (g : Nat) (m : Nat) (w : World) (n : Nat) (i : Value) (w' : World) : Prop := ∃ (k : Nat) (cur : Array Value), k ≤ n ∧ i = .int .i64 k ∧ (0 < n → w'.heap[g]? = some (.cells cur 41 (0, 0)) ∧ cur.size = m) ∧ Mod (fun j => j = g) w w'
theorem gat_room {base : Nat} {w : World} {v : Value} {ps : List SideL} (h : Gat sideEnc 41 33 base w v ps) (hb : base ≤ w.heap.size) : ∃ g cap cur, (0 < ps.length → v = .slice (some ⟨g, 0, none⟩) ps.length cap ∧ w.heap[g]? = some (.cells cur 41 (0, 0)) ∧ ps.length * 33 ≤ cur.size) ∧ base ≤ g := by
  rcases h.2 with ⟨_, h2⟩ | ⟨g, cap, cur, rfl, h1, hg, hc, -, hcs, -⟩
  · exact ⟨base, 0, #[], fun h => by omega, Nat.le_refl _⟩
  · refine ⟨g, cap, cur, fun _ => ⟨rfl, hg, ?_⟩, h1⟩
    rw [hcs]
    exact Nat.mul_le_mul_right _ hc
theorem cpx_es {base : Nat} {w : World} {v : Value} {l : List Ent} (h : Gs (CpX base) base w v l) : Es false w Ever v l := h.es (fun _ _ h => h.ent)
set_option maxRecDepth 10000 in
set_option maxHeartbeats 4000000 in
theorem treeRoots_any {own own' : Bool} {G G' G2 : Nat → Prop} (w : World) (va : Value) (l : List Ent) (key : ByteArray) (root : List UInt8) (cs : Array Value) (x : Ent) (vp : Value) (path : List SideL) (ha : Es own w G va l) (hroot : root.length = 32) (hx : EntC w G' cs x) (hp : Ss own' w G2 vp path) :
    Calls Tryz.prog 3 #[va, .string key, .agg (idCells root), .agg cs, vp] w (RetM (.bool true) w) := by
  have HA := Lib.hid ha
  have HX := Lib.hid hx.ever
  have HP := Lib.hid hp
  have hcs2 := hx.size
  have hrs : (idCells root).size = 32 := by rw [idCells_size, hroot]
  obtain ⟨aa, ca, rfl, -, -⟩ := Sl.at ha
  obtain ⟨ap, cp, rfl, -, -⟩ := Sl.at hp
  obtain ⟨C, hC⟩ : ∃ C, idCells root = C := ⟨_, rfl⟩
  have HC := Lib.hid hC
  rw [hC] at hrs ⊢
  clear ha hp hx hC
  go_enter Tryz.func3, Tryz.ntmps3
  go_upto_region 0 with (fail)
  refine wp_region_seq [1, 1, 3] (fun _ => True) (by rfl) (by rfl) trivial ?_
  simp only [List.zip_cons_cons, List.zip_nil_right]
  refine wpPi_do rfl (fun K hK => ?_)
  refine wp_box 24 _ _ (by rfl) (by rfl) (fun w1 hB1 hm1 hs1 => ?_)
  replace hB1 : w1.heap[w.heap.size]? = some (.cells C 24 (0, 0)) := hB1
  refine hK _ _ trivial ?_
  clear hK K
  try simp only [pl, pn, el, ec, sz, ss, gz, gs, if_true, if_false, Bool.false_eq_true, Bool.not_true, Bool.not_false, Nat.add_zero, Nat.zero_add, Nat.reduceAdd]
  refine wpPi_do rfl (fun K hK => ?_)
  refine wp_box 27 _ _ (by rfl) (by rfl) (fun wa hBa hma hsa => ?_)
  replace hBa : wa.heap[w1.heap.size]? = some (.cells cs 27 (0, 0)) := hBa
  refine hK _ _ trivial ?_
  clear hK K
  try simp only [pl, pn, el, ec, sz, ss, gz, gs, if_true, if_false, Bool.false_eq_true, Bool.not_true, Bool.not_false, Nat.add_zero, Nat.zero_add, Nat.reduceAdd]
  refine wpPi_assign _ rfl rfl ?_
  simp only [pl, pn, el, ec, sz, ss, gz, gs, if_true, if_false, Bool.false_eq_true, Bool.not_true, Bool.not_false, Nat.add_zero, Nat.zero_add, Nat.reduceAdd]
  refine wpPi_nil ?_
  have hMa := hm1.trans0 hma
  have hBI := hma.obj id hB1
  have hBX : wa.heap[w1.heap.size]? = some (.cells cs 27 (0, 0)) := hBa
  have hbi : w.heap.size < wa.heap.size := by omega
  have hbx : w1.heap.size < wa.heap.size := hsa
  generalize hbie : w.heap.size = bi at *
  generalize w1.heap.size = bx at *
  clear hm1 hma hB1 hBa
  go_upto_region 1 with (fail)
  by_cases hSA : SmallE l
  rotate_left
  · have HLA := Lib.hid (longB_true hSA)
    clear hSA
    refine wp_region_seq [3, 1, 3, 3, 3, 3, 3, 3, 0, 1, 1, 3, 3, 3, 3, 3, 3] (fun _ => True) (by rfl) (by rfl) trivial ?_
    simp only [List.zip_cons_cons, List.zip_nil_right]
    refine wpPi_move _ rfl rfl ?_
    simp only [pl, pn, el, ec, sz, ss, gz, gs, if_true, if_false, Bool.false_eq_true, Bool.not_true, Bool.not_false, Nat.add_zero, Nat.zero_add, Nat.reduceAdd]
    refine wpPi_do rfl (fun K hK => ?_)
    refine wp_enterQ (run_call 4 [.tmp 23] _ rfl _ Tryz.func4 rfl (by kernel_rfl) [.slice aa l.length ca] rfl _) (long_any (HA.out.keep0 hMa)) ?_
    rintro e wb ⟨rfl, hmb⟩
    rw [HLA.out]
    refine ⟨_, rfl, hK _ _ trivial ?_⟩
    clear hK K
    try simp only [pl, pn, el, ec, sz, ss, gz, gs, if_true, if_false, Bool.false_eq_true, Bool.not_true, Bool.not_false, Nat.add_zero, Nat.zero_add, Nat.reduceAdd]
    refine wpPi_move _ rfl rfl ?_
    simp only [pl, pn, el, ec, sz, ss, gz, gs, if_true, if_false, Bool.false_eq_true, Bool.not_true, Bool.not_false, Nat.add_zero, Nat.zero_add, Nat.reduceAdd]
    refine wpPi_skip rfl ?_
    simp only [pl, pn, el, ec, sz, ss, gz, gs, if_true, if_false, Bool.false_eq_true, Bool.not_true, Bool.not_false, Nat.add_zero, Nat.zero_add, Nat.reduceAdd]
    refine wpPi_skip rfl ?_
    simp only [pl, pn, el, ec, sz, ss, gz, gs, if_true, if_false, Bool.false_eq_true, Bool.not_true, Bool.not_false, Nat.add_zero, Nat.zero_add, Nat.reduceAdd]
    refine wpPi_skip rfl ?_
    simp only [pl, pn, el, ec, sz, ss, gz, gs, if_true, if_false, Bool.false_eq_true, Bool.not_true, Bool.not_false, Nat.add_zero, Nat.zero_add, Nat.reduceAdd]
    refine wpPi_pick _ _ _ _ rfl rfl rfl ?_
    simp only [pl, pn, el, ec, sz, ss, gz, gs, if_true, if_false, Bool.false_eq_true, Bool.not_true, Bool.not_false, Nat.add_zero, Nat.zero_add, Nat.reduceAdd]
    refine wpPi_move _ rfl rfl ?_
    simp only [pl, pn, el, ec, sz, ss, gz, gs, if_true, if_false, Bool.false_eq_true, Bool.not_true, Bool.not_false, Nat.add_zero, Nat.zero_add, Nat.reduceAdd]
    refine wpPi_skip0 rfl ?_
    simp only [pl, pn, el, ec, sz, ss, gz, gs, if_true, if_false, Bool.false_eq_true, Bool.not_true, Bool.not_false, Nat.add_zero, Nat.zero_add, Nat.reduceAdd]
    refine wpPi_do_skip rfl trivial ?_
    simp only [pl, pn, el, ec, sz, ss, gz, gs, if_true, if_false, Bool.false_eq_true, Bool.not_true, Bool.not_false, Nat.add_zero, Nat.zero_add, Nat.reduceAdd]
    refine wpPi_do_skip rfl trivial ?_
    simp only [pl, pn, el, ec, sz, ss, gz, gs, if_true, if_false, Bool.false_eq_true, Bool.not_true, Bool.not_false, Nat.add_zero, Nat.zero_add, Nat.reduceAdd]
    refine wpPi_pick _ _ _ _ rfl rfl rfl ?_
    simp only [pl, pn, el, ec, sz, ss, gz, gs, if_true, if_false, Bool.false_eq_true, Bool.not_true, Bool.not_false, Nat.add_zero, Nat.zero_add, Nat.reduceAdd]
    refine wpPi_move _ rfl rfl ?_
    simp only [pl, pn, el, ec, sz, ss, gz, gs, if_true, if_false, Bool.false_eq_true, Bool.not_true, Bool.not_false, Nat.add_zero, Nat.zero_add, Nat.reduceAdd]
    refine wpPi_skip rfl ?_
    simp only [pl, pn, el, ec, sz, ss, gz, gs, if_true, if_false, Bool.false_eq_true, Bool.not_true, Bool.not_false, Nat.add_zero, Nat.zero_add, Nat.reduceAdd]
    refine wpPi_skip rfl ?_
    simp only [pl, pn, el, ec, sz, ss, gz, gs, if_true, if_false, Bool.false_eq_true, Bool.not_true, Bool.not_false, Nat.add_zero, Nat.zero_add, Nat.reduceAdd]
    refine wpPi_skip rfl ?_
    simp only [pl, pn, el, ec, sz, ss, gz, gs, if_true, if_false, Bool.false_eq_true, Bool.not_true, Bool.not_false, Nat.add_zero, Nat.zero_add, Nat.reduceAdd]
    refine wpPi_pick _ _ _ _ rfl rfl rfl ?_
    simp only [pl, pn, el, ec, sz, ss, gz, gs, if_true, if_false, Bool.false_eq_true, Bool.not_true, Bool.not_false, Nat.add_zero, Nat.zero_add, Nat.reduceAdd]
    refine wpPi_nil ?_
    have hMe := hmb
    clear hmb
    go_upto_region 2 with (fail)
    refine wp_region_seq [1, 3] (fun _ => True) (by rfl) (by rfl) trivial ?_
    simp only [List.zip_cons_cons, List.zip_nil_right]
    refine wpPi_do rfl (fun K hK => ?_)
    refine wp_enterQ (run_call 5 [] _ rfl _ Tryz.func5 rfl (by kernel_rfl) [] rfl _) (awake_any _) ?_
    rintro e wa ⟨rfl, hma⟩
    refine ⟨_, rfl, hK _ _ trivial ?_⟩
    clear hK K
    try simp only [pl, pn, el, ec, sz, ss, gz, gs, if_true, if_false, Bool.false_eq_true, Bool.not_true, Bool.not_false, Nat.add_zero, Nat.zero_add, Nat.reduceAdd]
    refine wpPi_assign _ rfl rfl ?_
    simp only [pl, pn, el, ec, sz, ss, gz, gs, if_true, if_false, Bool.false_eq_true, Bool.not_true, Bool.not_false, Nat.add_zero, Nat.zero_add, Nat.reduceAdd]
    refine wpPi_nil ?_
    have hMr := (hMa.trans0 hMe).trans0 hma
    clear hMe hma hMa
    go_wp2
    go_ret
    exact ⟨rfl, hMr⟩
  have HLA := Lib.hid (longB_false hSA)
  by_cases hkz : (key.size : Int) > 60
  · skip
    refine wp_region_seq [3, 1, 3, 3, 0, 3, 3, 3, 0, 1, 1, 3, 3, 3, 3, 3, 3] (fun _ => True) (by rfl) (by rfl) trivial ?_
    simp only [List.zip_cons_cons, List.zip_nil_right]
    refine wpPi_move _ rfl rfl ?_
    simp only [pl, pn, el, ec, sz, ss, gz, gs, if_true, if_false, Bool.false_eq_true, Bool.not_true, Bool.not_false, Nat.add_zero, Nat.zero_add, Nat.reduceAdd]
    refine wpPi_do rfl (fun K hK => ?_)
    refine wp_enterQ (run_call 4 [.tmp 23] _ rfl _ Tryz.func4 rfl (by kernel_rfl) [.slice aa l.length ca] rfl _) (long_any (HA.out.keep0 hMa)) ?_
    rintro e wb ⟨rfl, hmb⟩
    rw [HLA.out]
    refine ⟨_, rfl, hK _ _ trivial ?_⟩
    clear hK K
    try simp only [pl, pn, el, ec, sz, ss, gz, gs, if_true, if_false, Bool.false_eq_true, Bool.not_true, Bool.not_false, Nat.add_zero, Nat.zero_add, Nat.reduceAdd]
    refine wpPi_move _ rfl rfl ?_
    simp only [pl, pn, el, ec, sz, ss, gz, gs, if_true, if_false, Bool.false_eq_true, Bool.not_true, Bool.not_false, Nat.add_zero, Nat.zero_add, Nat.reduceAdd]
    refine wpPi_move _ rfl rfl ?_
    simp only [pl, pn, el, ec, sz, ss, gz, gs, if_true, if_false, Bool.false_eq_true, Bool.not_true, Bool.not_false, Nat.add_zero, Nat.zero_add, Nat.reduceAdd]
    refine wpPi_val rfl (fun w' hS => exec_len_str 9 _ key rfl rfl Tryz.underlying9) ?_
    simp only [pl, pn, el, ec, sz, ss, gz, gs, if_true, if_false, Bool.false_eq_true, Bool.not_true, Bool.not_false, Nat.add_zero, Nat.zero_add, Nat.reduceAdd]
    refine wpPi_cmp _ _ _ _ _ _ _ _ rfl rfl rfl rfl rfl true (decide_eq_true hkz) ?_
    simp only [pl, pn, el, ec, sz, ss, gz, gs, if_true, if_false, Bool.false_eq_true, Bool.not_true, Bool.not_false, Nat.add_zero, Nat.zero_add, Nat.reduceAdd]
    refine wpPi_pick _ _ _ _ rfl rfl rfl ?_
    simp only [pl, pn, el, ec, sz, ss, gz, gs, if_true, if_false, Bool.false_eq_true, Bool.not_true, Bool.not_false, Nat.add_zero, Nat.zero_add, Nat.reduceAdd]
    refine wpPi_move _ rfl rfl ?_
    simp only [pl, pn, el, ec, sz, ss, gz, gs, if_true, if_false, Bool.false_eq_true, Bool.not_true, Bool.not_false, Nat.add_zero, Nat.zero_add, Nat.reduceAdd]
    refine wpPi_skip0 rfl ?_
    simp only [pl, pn, el, ec, sz, ss, gz, gs, if_true, if_false, Bool.false_eq_true, Bool.not_true, Bool.not_false, Nat.add_zero, Nat.zero_add, Nat.reduceAdd]
    refine wpPi_do_skip rfl trivial ?_
    simp only [pl, pn, el, ec, sz, ss, gz, gs, if_true, if_false, Bool.false_eq_true, Bool.not_true, Bool.not_false, Nat.add_zero, Nat.zero_add, Nat.reduceAdd]
    refine wpPi_do_skip rfl trivial ?_
    simp only [pl, pn, el, ec, sz, ss, gz, gs, if_true, if_false, Bool.false_eq_true, Bool.not_true, Bool.not_false, Nat.add_zero, Nat.zero_add, Nat.reduceAdd]
    refine wpPi_pick _ _ _ _ rfl rfl rfl ?_
    simp only [pl, pn, el, ec, sz, ss, gz, gs, if_true, if_false, Bool.false_eq_true, Bool.not_true, Bool.not_false, Nat.add_zero, Nat.zero_add, Nat.reduceAdd]
    refine wpPi_move _ rfl rfl ?_
    simp only [pl, pn, el, ec, sz, ss, gz, gs, if_true, if_false, Bool.false_eq_true, Bool.not_true, Bool.not_false, Nat.add_zero, Nat.zero_add, Nat.reduceAdd]
    refine wpPi_skip rfl ?_
    simp only [pl, pn, el, ec, sz, ss, gz, gs, if_true, if_false, Bool.false_eq_true, Bool.not_true, Bool.not_false, Nat.add_zero, Nat.zero_add, Nat.reduceAdd]
    refine wpPi_skip rfl ?_
    simp only [pl, pn, el, ec, sz, ss, gz, gs, if_true, if_false, Bool.false_eq_true, Bool.not_true, Bool.not_false, Nat.add_zero, Nat.zero_add, Nat.reduceAdd]
    refine wpPi_skip rfl ?_
    simp only [pl, pn, el, ec, sz, ss, gz, gs, if_true, if_false, Bool.false_eq_true, Bool.not_true, Bool.not_false, Nat.add_zero, Nat.zero_add, Nat.reduceAdd]
    refine wpPi_pick _ _ _ _ rfl rfl rfl ?_
    simp only [pl, pn, el, ec, sz, ss, gz, gs, if_true, if_false, Bool.false_eq_true, Bool.not_true, Bool.not_false, Nat.add_zero, Nat.zero_add, Nat.reduceAdd]
    refine wpPi_nil ?_
    have hMe := hmb
    clear hmb hkz
    go_upto_region 2 with (fail)
    refine wp_region_seq [1, 3] (fun _ => True) (by rfl) (by rfl) trivial ?_
    simp only [List.zip_cons_cons, List.zip_nil_right]
    refine wpPi_do rfl (fun K hK => ?_)
    refine wp_enterQ (run_call 5 [] _ rfl _ Tryz.func5 rfl (by kernel_rfl) [] rfl _) (awake_any _) ?_
    rintro e wa ⟨rfl, hma⟩
    refine ⟨_, rfl, hK _ _ trivial ?_⟩
    clear hK K
    try simp only [pl, pn, el, ec, sz, ss, gz, gs, if_true, if_false, Bool.false_eq_true, Bool.not_true, Bool.not_false, Nat.add_zero, Nat.zero_add, Nat.reduceAdd]
    refine wpPi_assign _ rfl rfl ?_
    simp only [pl, pn, el, ec, sz, ss, gz, gs, if_true, if_false, Bool.false_eq_true, Bool.not_true, Bool.not_false, Nat.add_zero, Nat.zero_add, Nat.reduceAdd]
    refine wpPi_nil ?_
    have hMr := (hMa.trans0 hMe).trans0 hma
    clear hMe hma hMa
    go_wp2
    go_ret
    exact ⟨rfl, hMr⟩
  by_cases hSX : SmallE [x]
  rotate_left
  · have HLX := Lib.hid (longB_true hSX)
    clear hSX
    refine wp_region_seq [3, 1, 3, 3, 0, 3, 3, 3, 1, 1, 1, 3, 3, 3, 3, 3, 3] (fun _ => True) (by rfl) (by rfl) trivial ?_
    simp only [List.zip_cons_cons, List.zip_nil_right]
    refine wpPi_move _ rfl rfl ?_
    simp only [pl, pn, el, ec, sz, ss, gz, gs, if_true, if_false, Bool.false_eq_true, Bool.not_true, Bool.not_false, Nat.add_zero, Nat.zero_add, Nat.reduceAdd]
    refine wpPi_do rfl (fun K hK => ?_)
    refine wp_enterQ (run_call 4 [.tmp 23] _ rfl _ Tryz.func4 rfl (by kernel_rfl) [.slice aa l.length ca] rfl _) (long_any (HA.out.keep0 hMa)) ?_
    rintro e wb ⟨rfl, hmb⟩
    rw [HLA.out]
    refine ⟨_, rfl, hK _ _ trivial ?_⟩
    clear hK K
    try simp only [pl, pn, el, ec, sz, ss, gz, gs, if_true, if_false, Bool.false_eq_true, Bool.not_true, Bool.not_false, Nat.add_zero, Nat.zero_add, Nat.reduceAdd]
    refine wpPi_move _ rfl rfl ?_
    simp only [pl, pn, el, ec, sz, ss, gz, gs, if_true, if_false, Bool.false_eq_true, Bool.not_true, Bool.not_false, Nat.add_zero, Nat.zero_add, Nat.reduceAdd]
    refine wpPi_move _ rfl rfl ?_
    simp only [pl, pn, el, ec, sz, ss, gz, gs, if_true, if_false, Bool.false_eq_true, Bool.not_true, Bool.not_false, Nat.add_zero, Nat.zero_add, Nat.reduceAdd]
    refine wpPi_val rfl (fun w' hS => exec_len_str 9 _ key rfl rfl Tryz.underlying9) ?_
    simp only [pl, pn, el, ec, sz, ss, gz, gs, if_true, if_false, Bool.false_eq_true, Bool.not_true, Bool.not_false, Nat.add_zero, Nat.zero_add, Nat.reduceAdd]
    refine wpPi_cmp _ _ _ _ _ _ _ _ rfl rfl rfl rfl rfl false (decide_eq_false hkz) ?_
    simp only [pl, pn, el, ec, sz, ss, gz, gs, if_true, if_false, Bool.false_eq_true, Bool.not_true, Bool.not_false, Nat.add_zero, Nat.zero_add, Nat.reduceAdd]
    refine wpPi_pick _ _ _ _ rfl rfl rfl ?_
    simp only [pl, pn, el, ec, sz, ss, gz, gs, if_true, if_false, Bool.false_eq_true, Bool.not_true, Bool.not_false, Nat.add_zero, Nat.zero_add, Nat.reduceAdd]
    refine wpPi_move _ rfl rfl ?_
    simp only [pl, pn, el, ec, sz, ss, gz, gs, if_true, if_false, Bool.false_eq_true, Bool.not_true, Bool.not_false, Nat.add_zero, Nat.zero_add, Nat.reduceAdd]
    refine wpPi_do rfl (fun K hK => ?_)
    refine wp_exec (exec_loadA 27 _ (by rfl) bx 0 (by rfl) cs (CellsAt.whole (hmb.obj id hBX)) _ Tryz.underlying27 rfl 2 (by kernel_rfl) hcs2) ?_
    refine hK _ _ trivial ?_
    clear hK K
    try simp only [pl, pn, el, ec, sz, ss, gz, gs, if_true, if_false, Bool.false_eq_true, Bool.not_true, Bool.not_false, Nat.add_zero, Nat.zero_add, Nat.reduceAdd]
    refine wpPi_do rfl (fun K hK => ?_)
    refine wp_buildSlice1 22 27 _ (.agg cs) (.agg #[.string ⟨#[]⟩, .slice none 0 0]) 2 (by rfl) (by rfl) Tryz.underlying22 entry_i2 (by omega) (by omega) hcs2 (fun wc hBc hmc hsc => ?_)
    replace hBc : wc.heap[wb.heap.size]? = some (.cells cs 27 (0, 0)) := hBc
    have hes := es_one hBc ((EntC.keep0 HX.out ((hMa.trans0 hmb).trans0 hmc)))
    refine hK _ _ trivial ?_
    clear hK K
    try simp only [pl, pn, el, ec, sz, ss, gz, gs, if_true, if_false, Bool.false_eq_true, Bool.not_true, Bool.not_false, Nat.add_zero, Nat.zero_add, Nat.reduceAdd]
    refine wpPi_do rfl (fun K hK => ?_)
    refine wp_enterQ (run_call 4 [.tmp 32] _ rfl _ Tryz.func4 rfl (by kernel_rfl) [.slice (some ⟨wb.heap.size, 0, none⟩) 1 1] rfl _) (long_any hes) ?_
    rintro e wd ⟨rfl, hmd⟩
    rw [show longB [x] = _ from HLX.out]
    refine ⟨_, rfl, hK _ _ trivial ?_⟩
    clear hK K
    try simp only [pl, pn, el, ec, sz, ss, gz, gs, if_true, if_false, Bool.false_eq_true, Bool.not_true, Bool.not_false, Nat.add_zero, Nat.zero_add, Nat.reduceAdd]
    refine wpPi_pick _ _ _ _ rfl rfl rfl ?_
    simp only [pl, pn, el, ec, sz, ss, gz, gs, if_true, if_false, Bool.false_eq_true, Bool.not_true, Bool.not_false, Nat.add_zero, Nat.zero_add, Nat.reduceAdd]
    refine wpPi_move _ rfl rfl ?_
    simp only [pl, pn, el, ec, sz, ss, gz, gs, if_true, if_false, Bool.false_eq_true, Bool.not_true, Bool.not_false, Nat.add_zero, Nat.zero_add, Nat.reduceAdd]
    refine wpPi_skip rfl ?_
    simp only [pl, pn, el, ec, sz, ss, gz, gs, if_true, if_false, Bool.false_eq_true, Bool.not_true, Bool.not_false, Nat.add_zero, Nat.zero_add, Nat.reduceAdd]
    refine wpPi_skip rfl ?_
    simp only [pl, pn, el, ec, sz, ss, gz, gs, if_true, if_false, Bool.false_eq_true, Bool.not_true, Bool.not_false, Nat.add_zero, Nat.zero_add, Nat.reduceAdd]
    refine wpPi_skip rfl ?_
    simp only [pl, pn, el, ec, sz, ss, gz, gs, if_true, if_false, Bool.false_eq_true, Bool.not_true, Bool.not_false, Nat.add_zero, Nat.zero_add, Nat.reduceAdd]
    refine wpPi_pick _ _ _ _ rfl rfl rfl ?_
    simp only [pl, pn, el, ec, sz, ss, gz, gs, if_true, if_false, Bool.false_eq_true, Bool.not_true, Bool.not_false, Nat.add_zero, Nat.zero_add, Nat.reduceAdd]
    refine wpPi_nil ?_
    have hMe := (hmb.trans0 hmc).trans0 hmd
    clear hmb hmc hmd hkz
    go_upto_region 2 with (fail)
    refine wp_region_seq [1, 3] (fun _ => True) (by rfl) (by rfl) trivial ?_
    simp only [List.zip_cons_cons, List.zip_nil_right]
    refine wpPi_do rfl (fun K hK => ?_)
    refine wp_enterQ (run_call 5 [] _ rfl _ Tryz.func5 rfl (by kernel_rfl) [] rfl _) (awake_any _) ?_
    rintro e wa ⟨rfl, hma⟩
    refine ⟨_, rfl, hK _ _ trivial ?_⟩
    clear hK K
    try simp only [pl, pn, el, ec, sz, ss, gz, gs, if_true, if_false, Bool.false_eq_true, Bool.not_true, Bool.not_false, Nat.add_zero, Nat.zero_add, Nat.reduceAdd]
    refine wpPi_assign _ rfl rfl ?_
    simp only [pl, pn, el, ec, sz, ss, gz, gs, if_true, if_false, Bool.false_eq_true, Bool.not_true, Bool.not_false, Nat.add_zero, Nat.zero_add, Nat.reduceAdd]
    refine wpPi_nil ?_
    have hMr := (hMa.trans0 hMe).trans0 hma
    clear hMe hma hMa
    go_wp2
    go_ret
    exact ⟨rfl, hMr⟩
  have HLX := Lib.hid (longB_false hSX)
  by_cases hpz : (path.length : Int) > 300
  · skip
    refine wp_region_seq [3, 1, 3, 3, 0, 3, 3, 3, 1, 1, 1, 3, 3, 3, 3, 3, 3] (fun _ => True) (by rfl) (by rfl) trivial ?_
    simp only [List.zip_cons_cons, List.zip_nil_right]
    refine wpPi_move _ rfl rfl ?_
    simp only [pl, pn, el, ec, sz, ss, gz, gs, if_true, if_false, Bool.false_eq_true, Bool.not_true, Bool.not_false, Nat.add_zero, Nat.zero_add, Nat.reduceAdd]
    refine wpPi_do rfl (fun K hK => ?_)
    refine wp_enterQ (run_call 4 [.tmp 23] _ rfl _ Tryz.func4 rfl (by kernel_rfl) [.slice aa l.length ca] rfl _) (long_any (HA.out.keep0 hMa)) ?_
    rintro e wb ⟨rfl, hmb⟩
    rw [HLA.out]
    refine ⟨_, rfl, hK _ _ trivial ?_⟩
    clear hK K
    try simp only [pl, pn, el, ec, sz, ss, gz, gs, if_true, if_false, Bool.false_eq_true, Bool.not_true, Bool.not_false, Nat.add_zero, Nat.zero_add, Nat.reduceAdd]
    refine wpPi_move _ rfl rfl ?_
    simp only [pl, pn, el, ec, sz, ss, gz, gs, if_true, if_false, Bool.false_eq_true, Bool.not_true, Bool.not_false, Nat.add_zero, Nat.zero_add, Nat.reduceAdd]
    refine wpPi_move _ rfl rfl ?_
    simp only [pl, pn, el, ec, sz, ss, gz, gs, if_true, if_false, Bool.false_eq_true, Bool.not_true, Bool.not_false, Nat.add_zero, Nat.zero_add, Nat.reduceAdd]
    refine wpPi_val rfl (fun w' hS => exec_len_str 9 _ key rfl rfl Tryz.underlying9) ?_
    simp only [pl, pn, el, ec, sz, ss, gz, gs, if_true, if_false, Bool.false_eq_true, Bool.not_true, Bool.not_false, Nat.add_zero, Nat.zero_add, Nat.reduceAdd]
    refine wpPi_cmp _ _ _ _ _ _ _ _ rfl rfl rfl rfl rfl false (decide_eq_false hkz) ?_
    simp only [pl, pn, el, ec, sz, ss, gz, gs, if_true, if_false, Bool.false_eq_true, Bool.not_true, Bool.not_false, Nat.add_zero, Nat.zero_add, Nat.reduceAdd]
    refine wpPi_pick _ _ _ _ rfl rfl rfl ?_
    simp only [pl, pn, el, ec, sz, ss, gz, gs, if_true, if_false, Bool.false_eq_true, Bool.not_true, Bool.not_false, Nat.add_zero, Nat.zero_add, Nat.reduceAdd]
    refine wpPi_move _ rfl rfl ?_
    simp only [pl, pn, el, ec, sz, ss, gz, gs, if_true, if_false, Bool.false_eq_true, Bool.not_true, Bool.not_false, Nat.add_zero, Nat.zero_add, Nat.reduceAdd]
    refine wpPi_do rfl (fun K hK => ?_)
    refine wp_exec (exec_loadA 27 _ (by rfl) bx 0 (by rfl) cs (CellsAt.whole (hmb.obj id hBX)) _ Tryz.underlying27 rfl 2 (by kernel_rfl) hcs2) ?_
    refine hK _ _ trivial ?_
    clear hK K
    try simp only [pl, pn, el, ec, sz, ss, gz, gs, if_true, if_false, Bool.false_eq_true, Bool.not_true, Bool.not_false, Nat.add_zero, Nat.zero_add, Nat.reduceAdd]
    refine wpPi_do rfl (fun K hK => ?_)
    refine wp_buildSlice1 22 27 _ (.agg cs) (.agg #[.string ⟨#[]⟩, .slice none 0 0]) 2 (by rfl) (by rfl) Tryz.underlying22 entry_i2 (by omega) (by omega) hcs2 (fun wc hBc hmc hsc => ?_)
    replace hBc : wc.heap[wb.heap.size]? = some (.cells cs 27 (0, 0)) := hBc
    have hes := es_one hBc ((EntC.keep0 HX.out ((hMa.trans0 hmb).trans0 hmc)))
    refine hK _ _ trivial ?_
    clear hK K
    try simp only [pl, pn, el, ec, sz, ss, gz, gs, if_true, if_false, Bool.false_eq_true, Bool.not_true, Bool.not_false, Nat.add_zero, Nat.zero_add, Nat.reduceAdd]
    refine wpPi_do rfl (fun K hK => ?_)
    refine wp_enterQ (run_call 4 [.tmp 32] _ rfl _ Tryz.func4 rfl (by kernel_rfl) [.slice (some ⟨wb.heap.size, 0, none⟩) 1 1] rfl _) (long_any hes) ?_
    rintro e wd ⟨rfl, hmd⟩
    rw [show longB [x] = _ from HLX.out]
    refine ⟨_, rfl, hK _ _ trivial ?_⟩
    clear hK K
    try simp only [pl, pn, el, ec, sz, ss, gz, gs, if_true, if_false, Bool.false_eq_true, Bool.not_true, Bool.not_false, Nat.add_zero, Nat.zero_add, Nat.reduceAdd]
    refine wpPi_pick _ _ _ _ rfl rfl rfl ?_
    simp only [pl, pn, el, ec, sz, ss, gz, gs, if_true, if_false, Bool.false_eq_true, Bool.not_true, Bool.not_false, Nat.add_zero, Nat.zero_add, Nat.reduceAdd]
    refine wpPi_move _ rfl rfl ?_
    simp only [pl, pn, el, ec, sz, ss, gz, gs, if_true, if_false, Bool.false_eq_true, Bool.not_true, Bool.not_false, Nat.add_zero, Nat.zero_add, Nat.reduceAdd]
    refine wpPi_move _ rfl rfl ?_
    simp only [pl, pn, el, ec, sz, ss, gz, gs, if_true, if_false, Bool.false_eq_true, Bool.not_true, Bool.not_false, Nat.add_zero, Nat.zero_add, Nat.reduceAdd]
    refine wpPi_len _ _ _ _ _ rfl rfl rfl (by kernel_rfl) ?_
    simp only [pl, pn, el, ec, sz, ss, gz, gs, if_true, if_false, Bool.false_eq_true, Bool.not_true, Bool.not_false, Nat.add_zero, Nat.zero_add, Nat.reduceAdd]
    refine wpPi_cmp _ _ _ _ _ _ _ _ rfl rfl rfl rfl rfl true (decide_eq_true hpz) ?_
    simp only [pl, pn, el, ec, sz, ss, gz, gs, if_true, if_false, Bool.false_eq_true, Bool.not_true, Bool.not_false, Nat.add_zero, Nat.zero_add, Nat.reduceAdd]
    refine wpPi_pick _ _ _ _ rfl rfl rfl ?_
    simp only [pl, pn, el, ec, sz, ss, gz, gs, if_true, if_false, Bool.false_eq_true, Bool.not_true, Bool.not_false, Nat.add_zero, Nat.zero_add, Nat.reduceAdd]
    refine wpPi_nil ?_
    have hMe := (hmb.trans0 hmc).trans0 hmd
    clear hmb hmc hmd hkz hpz
    go_upto_region 2 with (fail)
    refine wp_region_seq [1, 3] (fun _ => True) (by rfl) (by rfl) trivial ?_
    simp only [List.zip_cons_cons, List.zip_nil_right]
    refine wpPi_do rfl (fun K hK => ?_)
    refine wp_enterQ (run_call 5 [] _ rfl _ Tryz.func5 rfl (by kernel_rfl) [] rfl _) (awake_any _) ?_
    rintro e wa ⟨rfl, hma⟩
    refine ⟨_, rfl, hK _ _ trivial ?_⟩
    clear hK K
    try simp only [pl, pn, el, ec, sz, ss, gz, gs, if_true, if_false, Bool.false_eq_true, Bool.not_true, Bool.not_false, Nat.add_zero, Nat.zero_add, Nat.reduceAdd]
    refine wpPi_assign _ rfl rfl ?_
    simp only [pl, pn, el, ec, sz, ss, gz, gs, if_true, if_false, Bool.false_eq_true, Bool.not_true, Bool.not_false, Nat.add_zero, Nat.zero_add, Nat.reduceAdd]
    refine wpPi_nil ?_
    have hMr := (hMa.trans0 hMe).trans0 hma
    clear hMe hma hMa
    go_wp2
    go_ret
    exact ⟨rfl, hMr⟩
  refine wp_region_seq [3, 1, 3, 3, 0, 3, 3, 3, 1, 1, 1, 3, 3, 3, 3, 3, 3] (fun _ => True) (by rfl) (by rfl) trivial ?_
  simp only [List.zip_cons_cons, List.zip_nil_right]
  refine wpPi_move _ rfl rfl ?_
  simp only [pl, pn, el, ec, sz, ss, gz, gs, if_true, if_false, Bool.false_eq_true, Bool.not_true, Bool.not_false, Nat.add_zero, Nat.zero_add, Nat.reduceAdd]
  refine wpPi_do rfl (fun K hK => ?_)
  refine wp_enterQ (run_call 4 [.tmp 23] _ rfl _ Tryz.func4 rfl (by kernel_rfl) [.slice aa l.length ca] rfl _) (long_any (HA.out.keep0 hMa)) ?_
  rintro e wb ⟨rfl, hmb⟩
  rw [HLA.out]
  refine ⟨_, rfl, hK _ _ trivial ?_⟩
  clear hK K
  try simp only [pl, pn, el, ec, sz, ss, gz, gs, if_true, if_false, Bool.false_eq_true, Bool.not_true, Bool.not_false, Nat.add_zero, Nat.zero_add, Nat.reduceAdd]
  refine wpPi_move _ rfl rfl ?_
  simp only [pl, pn, el, ec, sz, ss, gz, gs, if_true, if_false, Bool.false_eq_true, Bool.not_true, Bool.not_false, Nat.add_zero, Nat.zero_add, Nat.reduceAdd]
  refine wpPi_move _ rfl rfl ?_
  simp only [pl, pn, el, ec, sz, ss, gz, gs, if_true, if_false, Bool.false_eq_true, Bool.not_true, Bool.not_false, Nat.add_zero, Nat.zero_add, Nat.reduceAdd]
  refine wpPi_val rfl (fun w' hS => exec_len_str 9 _ key rfl rfl Tryz.underlying9) ?_
  simp only [pl, pn, el, ec, sz, ss, gz, gs, if_true, if_false, Bool.false_eq_true, Bool.not_true, Bool.not_false, Nat.add_zero, Nat.zero_add, Nat.reduceAdd]
  refine wpPi_cmp _ _ _ _ _ _ _ _ rfl rfl rfl rfl rfl false (decide_eq_false hkz) ?_
  simp only [pl, pn, el, ec, sz, ss, gz, gs, if_true, if_false, Bool.false_eq_true, Bool.not_true, Bool.not_false, Nat.add_zero, Nat.zero_add, Nat.reduceAdd]
  refine wpPi_pick _ _ _ _ rfl rfl rfl ?_
  simp only [pl, pn, el, ec, sz, ss, gz, gs, if_true, if_false, Bool.false_eq_true, Bool.not_true, Bool.not_false, Nat.add_zero, Nat.zero_add, Nat.reduceAdd]
  refine wpPi_move _ rfl rfl ?_
  simp only [pl, pn, el, ec, sz, ss, gz, gs, if_true, if_false, Bool.false_eq_true, Bool.not_true, Bool.not_false, Nat.add_zero, Nat.zero_add, Nat.reduceAdd]
  refine wpPi_do rfl (fun K hK => ?_)
  refine wp_exec (exec_loadA 27 _ (by rfl) bx 0 (by rfl) cs (CellsAt.whole (hmb.obj id hBX)) _ Tryz.underlying27 rfl 2 (by kernel_rfl) hcs2) ?_
  refine hK _ _ trivial ?_
  clear hK K
  try simp only [pl, pn, el, ec, sz, ss, gz, gs, if_true, if_false, Bool.false_eq_true, Bool.not_true, Bool.not_false, Nat.add_zero, Nat.zero_add, Nat.reduceAdd]
  refine wpPi_do rfl (fun K hK => ?_)
  refine wp_buildSlice1 22 27 _ (.agg cs) (.agg #[.string ⟨#[]⟩, .slice none 0 0]) 2 (by rfl) (by rfl) Tryz.underlying22 entry_i2 (by omega) (by omega) hcs2 (fun wc hBc hmc hsc => ?_)
  replace hBc : wc.heap[wb.heap.size]? = some (.cells cs 27 (0, 0)) := hBc
  have hes := es_one hBc ((EntC.keep0 HX.out ((hMa.trans0 hmb).trans0 hmc)))
  refine hK _ _ trivial ?_
  clear hK K
  try simp only [pl, pn, el, ec, sz, ss, gz, gs, if_true, if_false, Bool.false_eq_true, Bool.not_true, Bool.not_false, Nat.add_zero, Nat.zero_add, Nat.reduceAdd]
  refine wpPi_do rfl (fun K hK => ?_)
  refine wp_enterQ (run_call 4 [.tmp 32] _ rfl _ Tryz.func4 rfl (by kernel_rfl) [.slice (some ⟨wb.heap.size, 0, none⟩) 1 1] rfl _) (long_any hes) ?_
  rintro e wd ⟨rfl, hmd⟩
  rw [show longB [x] = _ from HLX.out]
  refine ⟨_, rfl, hK _ _ trivial ?_⟩
  clear hK K
  try simp only [pl, pn, el, ec, sz, ss, gz, gs, if_true, if_false, Bool.false_eq_true, Bool.not_true, Bool.not_false, Nat.add_zero, Nat.zero_add, Nat.reduceAdd]
  refine wpPi_pick _ _ _ _ rfl rfl rfl ?_
  simp only [pl, pn, el, ec, sz, ss, gz, gs, if_true, if_false, Bool.false_eq_true, Bool.not_true, Bool.not_false, Nat.add_zero, Nat.zero_add, Nat.reduceAdd]
  refine wpPi_move _ rfl rfl ?_
  simp only [pl, pn, el, ec, sz, ss, gz, gs, if_true, if_false, Bool.false_eq_true, Bool.not_true, Bool.not_false, Nat.add_zero, Nat.zero_add, Nat.reduceAdd]
  refine wpPi_move _ rfl rfl ?_
  simp only [pl, pn, el, ec, sz, ss, gz, gs, if_true, if_false, Bool.false_eq_true, Bool.not_true, Bool.not_false, Nat.add_zero, Nat.zero_add, Nat.reduceAdd]
  refine wpPi_len _ _ _ _ _ rfl rfl rfl (by kernel_rfl) ?_
  simp only [pl, pn, el, ec, sz, ss, gz, gs, if_true, if_false, Bool.false_eq_true, Bool.not_true, Bool.not_false, Nat.add_zero, Nat.zero_add, Nat.reduceAdd]
  refine wpPi_cmp _ _ _ _ _ _ _ _ rfl rfl rfl rfl rfl false (decide_eq_false hpz) ?_
  simp only [pl, pn, el, ec, sz, ss, gz, gs, if_true, if_false, Bool.false_eq_true, Bool.not_true, Bool.not_false, Nat.add_zero, Nat.zero_add, Nat.reduceAdd]
  refine wpPi_pick _ _ _ _ rfl rfl rfl ?_
  simp only [pl, pn, el, ec, sz, ss, gz, gs, if_true, if_false, Bool.false_eq_true, Bool.not_true, Bool.not_false, Nat.add_zero, Nat.zero_add, Nat.reduceAdd]
  refine wpPi_nil ?_
  have hMbd := (hmb.trans0 hmc).trans0 hmd
  have hM2 := hMa.trans0 hMbd
  replace HA := Lib.hid (HA.out.keep0 hM2)
  replace HX := Lib.hid (EntC.keep0 HX.out hM2)
  replace HP := Lib.hid (Sl.keep0 HP.out hM2)
  replace hBI := hMbd.obj id hBI
  replace hBX := hMbd.obj id hBX
  have hsl := hSA.short
  have hsx := hSX.short
  have hll : l.length ≤ 4096 := by have := hSA.1; omega
  have hkl : key.size ≤ 1000000 := by omega
  have hpl : path.length ≤ 300 := by omega
  have hx1 := (hsx x (by simp)).1
  have hx2 := (hsx x (by simp)).2
  have hrl : (idCells (rootOut l)).size = 32 := by rw [idCells_size, rootOut_len]
  have hszd := hM2.size
  clear hmb hmc hmd hMbd hMa HLA HLX hkz hpz hes hBc hSA hSX hsx
  go_upto_region 3 with (fail)
  refine wp_region_seq [3, 1, 1, 3, 1, 3, 3] (fun _ => True) (by rfl) (by rfl) trivial ?_
  simp only [List.zip_cons_cons, List.zip_nil_right]
  refine wpPi_move _ rfl rfl ?_
  simp only [pl, pn, el, ec, sz, ss, gz, gs, if_true, if_false, Bool.false_eq_true, Bool.not_true, Bool.not_false, Nat.add_zero, Nat.zero_add, Nat.reduceAdd]
  refine wpPi_do rfl (fun K hK => ?_)
  refine wp_enterQ (run_call 6 [.tmp 41] _ rfl _ Tryz.func6 rfl (by kernel_rfl) [.slice aa l.length ca] rfl _) (copyEs_any HA.out hsl hll) ?_
  rintro e w4 ⟨v11, rfl, hg11, hm4⟩
  refine ⟨_, rfl, hK _ _ trivial ?_⟩
  clear hK K
  try simp only [pl, pn, el, ec, sz, ss, gz, gs, if_true, if_false, Bool.false_eq_true, Bool.not_true, Bool.not_false, Nat.add_zero, Nat.zero_add, Nat.reduceAdd]
  refine wpPi_do rfl (fun K hK => ?_)
  refine wp_buildSlice0 28 41 (by rfl) Tryz.underlying28 (by kernel_rfl) (fun w5 hB5 hm5 hs5 => ?_)
  have hm45 := hm4.trans0 hm5
  refine hK _ _ trivial ?_
  clear hK K
  try simp only [pl, pn, el, ec, sz, ss, gz, gs, if_true, if_false, Bool.false_eq_true, Bool.not_true, Bool.not_false, Nat.add_zero, Nat.zero_add, Nat.reduceAdd]
  refine wpPi_move _ rfl rfl ?_
  simp only [pl, pn, el, ec, sz, ss, gz, gs, if_true, if_false, Bool.false_eq_true, Bool.not_true, Bool.not_false, Nat.add_zero, Nat.zero_add, Nat.reduceAdd]
  refine wpPi_do rfl (fun K hK => ?_)
  refine wp_gat sideEnc _ _ 28 41 (.agg (sideCells (false, zeroID))) 33 33 (by rfl) Tryz.underlying28 side_i (by kernel_rfl) (by omega) sideEnc_one w4.heap.size _ [] (by rfl) (owns_empty _ hB5 (Nat.le_refl _)) (.slice ap path.length cp) path (by rfl) (Ss.src (Sl.keep0 HP.out hm45)) (by simp only [List.length_nil]; unfold maxLen; omega) (by simp only [List.length_nil]; omega) hm5.size (fun v12 w6 hg12 hm6 => ?_)
  rw [List.nil_append] at hg12
  have hm46 : Mod NoB w4 w6 := hm5.trans hm6 (fun k hk e => by
    have e' : some w4.heap.size = some k := e
    injection e' with e'
    omega)
  refine hK _ _ trivial ?_
  clear hK K
  try simp only [pl, pn, el, ec, sz, ss, gz, gs, if_true, if_false, Bool.false_eq_true, Bool.not_true, Bool.not_false, Nat.add_zero, Nat.zero_add, Nat.reduceAdd]
  refine wpPi_assign _ rfl rfl ?_
  simp only [pl, pn, el, ec, sz, ss, gz, gs, if_true, if_false, Bool.false_eq_true, Bool.not_true, Bool.not_false, Nat.add_zero, Nat.zero_add, Nat.reduceAdd]
  refine wpPi_assign _ rfl rfl ?_
  simp only [pl, pn, el, ec, sz, ss, gz, gs, if_true, if_false, Bool.false_eq_true, Bool.not_true, Bool.not_false, Nat.add_zero, Nat.zero_add, Nat.reduceAdd]
  refine wpPi_nil ?_
  have hM26 := hm4.trans0 hm46
  have hM6 := hM2.trans0 hM26
  have HIN := Lib.hid ((cpx_es hg11).keep0 hm46)
  have HBY := Lib.hid (gat_ss hg12 (Ss.ok HP.out))
  obtain ⟨a11, c11, rfl⟩ := hg11.slice
  obtain ⟨a12, c12, rfl⟩ := hg12.slice
  replace HA := Lib.hid (HA.out.keep0 hM26)
  replace HX := Lib.hid (EntC.keep0 HX.out hM26)
  replace HP := Lib.hid (Sl.keep0 HP.out hM26)
  replace hBI := hM26.obj id hBI
  replace hBX := hM26.obj id hBX
  have hs6 := hM26.size
  clear hm4 hm5 hm45 hm46 hm6 hB5 hg11 hg12 hM26 hM2
  go_upto_region 4 with (fail)
  refine wp_region_seq [3, 1, 3, 3, 3, 1, 1, 3] (fun _ => True) (by rfl) (by rfl) trivial ?_
  simp only [List.zip_cons_cons, List.zip_nil_right]
  refine wpPi_move _ rfl rfl ?_
  simp only [pl, pn, el, ec, sz, ss, gz, gs, if_true, if_false, Bool.false_eq_true, Bool.not_true, Bool.not_false, Nat.add_zero, Nat.zero_add, Nat.reduceAdd]
  refine wpPi_do rfl (fun K hK => ?_)
  refine wp_enterQ (run_call 7 [.tmp 47] _ rfl _ Tryz.func7 rfl (by kernel_rfl) [.slice a11 l.length c11] rfl _) (root_any HIN.out hsl hll) ?_
  rintro e w7 ⟨rfl, hm7⟩
  refine ⟨_, rfl, hK _ _ trivial ?_⟩
  clear hK K
  try simp only [pl, pn, el, ec, sz, ss, gz, gs, if_true, if_false, Bool.false_eq_true, Bool.not_true, Bool.not_false, Nat.add_zero, Nat.zero_add, Nat.reduceAdd]
  refine wpPi_move _ rfl rfl ?_
  simp only [pl, pn, el, ec, sz, ss, gz, gs, if_true, if_false, Bool.false_eq_true, Bool.not_true, Bool.not_false, Nat.add_zero, Nat.zero_add, Nat.reduceAdd]
  refine wpPi_any (v := ?_) rfl (fun w' => ?_) ?_; rotate_left; · (go_simp; try with_reducible rfl)
  simp only [pl, pn, el, ec, sz, ss, gz, gs, if_true, if_false, Bool.false_eq_true, Bool.not_true, Bool.not_false, Nat.add_zero, Nat.zero_add, Nat.reduceAdd]
  refine wpPi_any (v := ?_) rfl (fun w' => ?_) ?_; rotate_left; · (go_simp; try with_reducible rfl)
  simp only [pl, pn, el, ec, sz, ss, gz, gs, if_true, if_false, Bool.false_eq_true, Bool.not_true, Bool.not_false, Nat.add_zero, Nat.zero_add, Nat.reduceAdd]
  refine wpPi_do rfl (fun K hK => ?_)
  refine wp_alloc 24 _ (by rfl) idZ (fun w8 hB8 hm8 hs8 => ?_)
  replace hB8 : w8.heap[w7.heap.size]? = some (.cells (idCells (List.replicate 32 0)) 24 (0, 0)) := hB8
  refine hK _ _ trivial ?_
  clear hK K
  try simp only [pl, pn, el, ec, sz, ss, gz, gs, if_true, if_false, Bool.false_eq_true, Bool.not_true, Bool.not_false, Nat.add_zero, Nat.zero_add, Nat.reduceAdd]
  refine wpPi_do rfl (fun K hK => ?_)
  refine wp_storeA 24 _ _ w7.heap.size 0 (idCells (rootOut l)) (by rfl) (by rfl) (by rfl) (idCells_one _) 32 (by kernel_rfl) hrl _ _ hB8 (by rw [hrl, idCells_size]; simp) (fun w9 hB9 hm9 => ?_)
  rw [putRow_whole (by rw [hrl, idCells_size]; rfl)] at hB9
  refine hK _ _ trivial ?_
  clear hK K
  try simp only [pl, pn, el, ec, sz, ss, gz, gs, if_true, if_false, Bool.false_eq_true, Bool.not_true, Bool.not_false, Nat.add_zero, Nat.zero_add, Nat.reduceAdd]
  refine wpPi_assign _ rfl rfl ?_
  simp only [pl, pn, el, ec, sz, ss, gz, gs, if_true, if_false, Bool.false_eq_true, Bool.not_true, Bool.not_false, Nat.add_zero, Nat.zero_add, Nat.reduceAdd]
  refine wpPi_nil ?_
  have hM69 : Mod NoB w6 w9 := (hm7.trans0 hm8).transB hm9 hm7.size
  have hs7 := hm7.size
  have hl13 := row_lt' hB9
  generalize w7.heap.size = b13 at *
  clear hm7 hm8 hm9 hB8
  go_upto_region 5 with (fail)
  refine wp_region_seq [3, 1, 3, 3, 3, 1, 1, 3] (fun _ => True) (by rfl) (by rfl) trivial ?_
  simp only [List.zip_cons_cons, List.zip_nil_right]
  refine wpPi_move _ rfl rfl ?_
  simp only [pl, pn, el, ec, sz, ss, gz, gs, if_true, if_false, Bool.false_eq_true, Bool.not_true, Bool.not_false, Nat.add_zero, Nat.zero_add, Nat.reduceAdd]
  refine wpPi_do rfl (fun K hK => ?_)
  refine wp_enterQ (run_call 8 [.tmp 52] _ rfl _ Tryz.func8 rfl (by kernel_rfl) [.slice aa l.length ca] rfl _) (refRoot_any (HA.out.keep0 hM69) hsl hll) ?_
  rintro e w10 ⟨rfl, hm10⟩
  refine ⟨_, rfl, hK _ _ trivial ?_⟩
  clear hK K
  try simp only [pl, pn, el, ec, sz, ss, gz, gs, if_true, if_false, Bool.false_eq_true, Bool.not_true, Bool.not_false, Nat.add_zero, Nat.zero_add, Nat.reduceAdd]
  refine wpPi_move _ rfl rfl ?_
  simp only [pl, pn, el, ec, sz, ss, gz, gs, if_true, if_false, Bool.false_eq_true, Bool.not_true, Bool.not_false, Nat.add_zero, Nat.zero_add, Nat.reduceAdd]
  refine wpPi_any (v := ?_) rfl (fun w' => ?_) ?_; rotate_left; · (go_simp; try with_reducible rfl)
  simp only [pl, pn, el, ec, sz, ss, gz, gs, if_true, if_false, Bool.false_eq_true, Bool.not_true, Bool.not_false, Nat.add_zero, Nat.zero_add, Nat.reduceAdd]
  refine wpPi_any (v := ?_) rfl (fun w' => ?_) ?_; rotate_left; · (go_simp; try with_reducible rfl)
  simp only [pl, pn, el, ec, sz, ss, gz, gs, if_true, if_false, Bool.false_eq_true, Bool.not_true, Bool.not_false, Nat.add_zero, Nat.zero_add, Nat.reduceAdd]
  refine wpPi_do rfl (fun K hK => ?_)
  refine wp_alloc 24 _ (by rfl) idZ (fun w11 hB11 hm11 hs11 => ?_)
  replace hB11 : w11.heap[w10.heap.size]? = some (.cells (idCells (List.replicate 32 0)) 24 (0, 0)) := hB11
  refine hK _ _ trivial ?_
  clear hK K
  try simp only [pl, pn, el, ec, sz, ss, gz, gs, if_true, if_false, Bool.false_eq_true, Bool.not_true, Bool.not_false, Nat.add_zero, Nat.zero_add, Nat.reduceAdd]
  refine wpPi_do rfl (fun K hK => ?_)
  refine wp_storeA 24 _ _ w10.heap.size 0 (idCells (rootOut l)) (by rfl) (by rfl) (by rfl) (idCells_one _) 32 (by kernel_rfl) hrl _ _ hB11 (by rw [hrl, idCells_size]; simp) (fun w12 hB12 hm12 => ?_)
  rw [putRow_whole (by rw [hrl, idCells_size]; rfl)] at hB12
  refine hK _ _ trivial ?_
  clear hK K
  try simp only [pl, pn, el, ec, sz, ss, gz, gs, if_true, if_false, Bool.false_eq_true, Bool.not_true, Bool.not_false, Nat.add_zero, Nat.zero_add, Nat.reduceAdd]
  refine wpPi_assign _ rfl rfl ?_
  simp only [pl, pn, el, ec, sz, ss, gz, gs, if_true, if_false, Bool.false_eq_true, Bool.not_true, Bool.not_false, Nat.add_zero, Nat.zero_add, Nat.reduceAdd]
  refine wpPi_nil ?_
  have hM9c : Mod NoB w9 w12 := (hm10.trans0 hm11).transB hm12 hm10.size
  have hM6c := hM69.trans0 hM9c
  have hR13 := hM9c.obj id hB9
  have hs10 := hm10.size
  generalize w10.heap.size = b15 at *
  clear hm10 hm11 hm12 hB11 hB9 hM69 hM9c
  go_upto_region 6 with (fail)
  refine wp_region_seq [3, 3, 1, 3, 3, 3, 3, 3] (fun _ => True) (by rfl) (by rfl) trivial ?_
  simp only [List.zip_cons_cons, List.zip_nil_right]
  refine wpPi_move _ rfl rfl ?_
  simp only [pl, pn, el, ec, sz, ss, gz, gs, if_true, if_false, Bool.false_eq_true, Bool.not_true, Bool.not_false, Nat.add_zero, Nat.zero_add, Nat.reduceAdd]
  refine wpPi_move _ rfl rfl ?_
  simp only [pl, pn, el, ec, sz, ss, gz, gs, if_true, if_false, Bool.false_eq_true, Bool.not_true, Bool.not_false, Nat.add_zero, Nat.zero_add, Nat.reduceAdd]
  refine wpPi_do rfl (fun K hK => ?_)
  refine wp_enterQ (run_call 9 [.tmp 57, .tmp 58] _ rfl _ Tryz.func9 rfl (by kernel_rfl) [.slice a11 l.length c11, .string key] rfl _) (treePath_any (HIN.out.keep0 hM6c) hsl hll key hkl) ?_
  rintro e w13 ⟨v17, rfl, hg17, hm13⟩
  refine ⟨_, rfl, hK _ _ trivial ?_⟩
  clear hK K
  try simp only [pl, pn, el, ec, sz, ss, gz, gs, if_true, if_false, Bool.false_eq_true, Bool.not_true, Bool.not_false, Nat.add_zero, Nat.zero_add, Nat.reduceAdd]
  refine wpPi_move _ rfl rfl ?_
  simp only [pl, pn, el, ec, sz, ss, gz, gs, if_true, if_false, Bool.false_eq_true, Bool.not_true, Bool.not_false, Nat.add_zero, Nat.zero_add, Nat.reduceAdd]
  refine wpPi_any (v := ?_) rfl (fun w' => ?_) ?_; rotate_left; · (go_simp; try with_reducible rfl)
  simp only [pl, pn, el, ec, sz, ss, gz, gs, if_true, if_false, Bool.false_eq_true, Bool.not_true, Bool.not_false, Nat.add_zero, Nat.zero_add, Nat.reduceAdd]
  refine wpPi_any (v := ?_) rfl (fun w' => ?_) ?_; rotate_left; · (go_simp; try with_reducible rfl)
  simp only [pl, pn, el, ec, sz, ss, gz, gs, if_true, if_false, Bool.false_eq_true, Bool.not_true, Bool.not_false, Nat.add_zero, Nat.zero_add, Nat.reduceAdd]
  refine wpPi_assign _ rfl rfl ?_
  simp only [pl, pn, el, ec, sz, ss, gz, gs, if_true, if_false, Bool.false_eq_true, Bool.not_true, Bool.not_false, Nat.add_zero, Nat.zero_add, Nat.reduceAdd]
  refine wpPi_assign _ rfl rfl ?_
  simp only [pl, pn, el, ec, sz, ss, gz, gs, if_true, if_false, Bool.false_eq_true, Bool.not_true, Bool.not_false, Nat.add_zero, Nat.zero_add, Nat.reduceAdd]
  refine wpPi_nil ?_
  go_upto_region 7 with (fail)
  refine wp_region_seq [3, 3, 1, 3, 3, 3, 3, 3] (fun _ => True) (by rfl) (by rfl) trivial ?_
  simp only [List.zip_cons_cons, List.zip_nil_right]
  refine wpPi_move _ rfl rfl ?_
  simp only [pl, pn, el, ec, sz, ss, gz, gs, if_true, if_false, Bool.false_eq_true, Bool.not_true, Bool.not_false, Nat.add_zero, Nat.zero_add, Nat.reduceAdd]
  refine wpPi_move _ rfl rfl ?_
  simp only [pl, pn, el, ec, sz, ss, gz, gs, if_true, if_false, Bool.false_eq_true, Bool.not_true, Bool.not_false, Nat.add_zero, Nat.zero_add, Nat.reduceAdd]
  refine wpPi_do rfl (fun K hK => ?_)
  refine wp_enterQ (run_call 10 [.tmp 63, .tmp 64] _ rfl _ Tryz.func10 rfl (by kernel_rfl) [.slice aa l.length ca, .string key] rfl _) (refPath_any (HA.out.keep0 (hM6c.trans0 hm13)) hsl hll key) ?_
  rintro e w14 ⟨v19, rfl, hg19, hm14⟩
  refine ⟨_, rfl, hK _ _ trivial ?_⟩
  clear hK K
  try simp only [pl, pn, el, ec, sz, ss, gz, gs, if_true, if_false, Bool.false_eq_true, Bool.not_true, Bool.not_false, Nat.add_zero, Nat.zero_add, Nat.reduceAdd]
  refine wpPi_move _ rfl rfl ?_
  simp only [pl, pn, el, ec, sz, ss, gz, gs, if_true, if_false, Bool.false_eq_true, Bool.not_true, Bool.not_false, Nat.add_zero, Nat.zero_add, Nat.reduceAdd]
  refine wpPi_any (v := ?_) rfl (fun w' => ?_) ?_; rotate_left; · (go_simp; try with_reducible rfl)
  simp only [pl, pn, el, ec, sz, ss, gz, gs, if_true, if_false, Bool.false_eq_true, Bool.not_true, Bool.not_false, Nat.add_zero, Nat.zero_add, Nat.reduceAdd]
  refine wpPi_any (v := ?_) rfl (fun w' => ?_) ?_; rotate_left; · (go_simp; try with_reducible rfl)
  simp only [pl, pn, el, ec, sz, ss, gz, gs, if_true, if_false, Bool.false_eq_true, Bool.not_true, Bool.not_false, Nat.add_zero, Nat.zero_add, Nat.reduceAdd]
  refine wpPi_assign _ rfl rfl ?_
  simp only [pl, pn, el, ec, sz, ss, gz, gs, if_true, if_false, Bool.false_eq_true, Bool.not_true, Bool.not_false, Nat.add_zero, Nat.zero_add, Nat.reduceAdd]
  refine wpPi_assign _ rfl rfl ?_
  simp only [pl, pn, el, ec, sz, ss, gz, gs, if_true, if_false, Bool.false_eq_true, Bool.not_true, Bool.not_false, Nat.add_zero, Nat.zero_add, Nat.reduceAdd]
  refine wpPi_nil ?_
  have hok := pathOut_ok l key
  have hpsl := pathOut_len l key
  have hG17 := hg17.keep0 hm14
  have HS17 := Lib.hid (gat_ss hG17 hok)
  have HS19 := Lib.hid (gat_ss hg19 hok)
  have hMce := hm13.trans0 hm14
  have hR13e := hMce.obj id hR13
  have hR15e := hMce.obj id hB12
  have hM6e := hM6c.trans0 hMce
  have hszc := hM6c.size
  have hszce := hMce.size
  have HROOM := Lib.hid (gat_room hG17 hszce)
  obtain ⟨a17, c17, rfl⟩ := hG17.slice
  obtain ⟨a19, c19, rfl⟩ := hg19.slice
  have hc13 := CellsAt.whole hR13e
  have hc15 := CellsAt.whole hR15e
  have hcI := CellsAt.whole (hM6e.obj id hBI)
  have hcX := CellsAt.whole (hM6e.obj id hBX)
  have hrt := rootOut_len l
  generalize hps : pathOut l key = ps at *
  obtain ⟨er, her⟩ : ∃ q, ((errP l key : Nat) : Int) = q := ⟨_, rfl⟩
  rw [her]
  obtain ⟨ck, hck⟩ : ∃ q, ((chkE l : Nat) : Int) = q := ⟨_, rfl⟩
  have HCK := Lib.hid hck
  rw [hck]
  obtain ⟨pv, hpv⟩ : ∃ q, provesL root (leafOf x) path = q := ⟨_, rfl⟩
  have HPV := Lib.hid hpv
  clear hG17 hg17 hg19 hm13 hm14 hR13 hB12 hok her hck hpv hps
  go_upto_region 8 with (fail)
  have hS : Mod NoB w14 w14.drew := (Mod.refl _ _).drew
  refine wp_region_plan [.inl [(0, 0), (1, 0), (2, 0), (3, 3), (4, 3), (5, 3), (6, 3), (7, 3), (8, 3), (9, 3), (10, 3)], .inr (.inl 11), .inl [(12, 3), (13, 3), (14, 3), (15, 3), (16, 3), (17, 3), (18, 3), (19, 3), (21, 3)], .inr (.inr (2, #[true, true, true, true, true, true, true, true, true, true, true, true, true, true, true, true, true, true, true, true, false, true, false, false, false, false, false, false, false, false, false, false, false, false, false, false, false])), .inl [(23, 0), (24, 3), (25, 3), (26, 0), (27, 0), (28, 3), (30, 0), (31, 0), (32, 3)], .inr (.inr (2, #[true, true, true, true, true, true, true, true, true, true, true, true, true, true, true, true, true, true, true, true, true, true, true, true, true, true, true, true, true, false, true, true, true, false, false, false, false])), .inl [(34, 0), (35, 3), (36, 3)]] (fun w' => Mod NoB w14 w') (by kernel_rfl) (by kernel_rfl) (by kernel_rfl) (fun _ _ _ _ hd h => ⟨hd.trans h.1, h.2⟩) hS ?_
  refine wpPlan_seg ?_
  simp only [List.map_cons, List.map_nil, Array.getD_eq_getD_getElem?, List.getElem?_toArray, List.getElem?_cons_succ, List.getElem?_cons_zero, Option.getD_some]
  refine wpPi_val rfl (fun w' hS => exec_loadA 24 _ (by rfl) b13 0 (by rfl) (idCells (rootOut l)) (hc13.keep hS id) _ Tryz.underlying24 rfl 32 (by kernel_rfl) hrl) ?_
  simp only [pl, pn, el, ec, sz, ss, gz, gs, if_true, if_false, Bool.false_eq_true, Bool.not_true, Bool.not_false, Nat.add_zero, Nat.zero_add, Nat.reduceAdd]
  refine wpPi_val rfl (fun w' hS => exec_loadA 24 _ (by rfl) b15 0 (by rfl) (idCells (rootOut l)) (hc15.keep hS id) _ Tryz.underlying24 rfl 32 (by kernel_rfl) hrl) ?_
  simp only [pl, pn, el, ec, sz, ss, gz, gs, if_true, if_false, Bool.false_eq_true, Bool.not_true, Bool.not_false, Nat.add_zero, Nat.zero_add, Nat.reduceAdd]
  refine wpPi_val rfl (fun w' hS => exec_eql_id _ _ _ _ rfl (rootOut l) (rootOut l) rfl rfl 32 5 Tryz.underlying24 Tryz.underlying5 (by kernel_rfl) (by kernel_rfl) hrt hrt true (decide_eq_true rfl)) ?_
  simp only [pl, pn, el, ec, sz, ss, gz, gs, if_true, if_false, Bool.false_eq_true, Bool.not_true, Bool.not_false, Nat.add_zero, Nat.zero_add, Nat.reduceAdd]
  refine wpPi_move _ rfl rfl ?_
  simp only [pl, pn, el, ec, sz, ss, gz, gs, if_true, if_false, Bool.false_eq_true, Bool.not_true, Bool.not_false, Nat.add_zero, Nat.zero_add, Nat.reduceAdd]
  refine wpPi_move _ rfl rfl ?_
  simp only [pl, pn, el, ec, sz, ss, gz, gs, if_true, if_false, Bool.false_eq_true, Bool.not_true, Bool.not_false, Nat.add_zero, Nat.zero_add, Nat.reduceAdd]
  refine wpPi_move _ rfl rfl ?_
  simp only [pl, pn, el, ec, sz, ss, gz, gs, if_true, if_false, Bool.false_eq_true, Bool.not_true, Bool.not_false, Nat.add_zero, Nat.zero_add, Nat.reduceAdd]
  refine wpPi_cmp _ _ _ _ _ _ _ _ rfl rfl rfl rfl rfl true (decide_eq_true rfl) ?_
  simp only [pl, pn, el, ec, sz, ss, gz, gs, if_true, if_false, Bool.false_eq_true, Bool.not_true, Bool.not_false, Nat.add_zero, Nat.zero_add, Nat.reduceAdd]
  refine wpPi_pick _ _ _ _ rfl rfl rfl ?_
  simp only [pl, pn, el, ec, sz, ss, gz, gs, if_true, if_false, Bool.false_eq_true, Bool.not_true, Bool.not_false, Nat.add_zero, Nat.zero_add, Nat.reduceAdd]
  refine wpPi_move _ rfl rfl ?_
  simp only [pl, pn, el, ec, sz, ss, gz, gs, if_true, if_false, Bool.false_eq_true, Bool.not_true, Bool.not_false, Nat.add_zero, Nat.zero_add, Nat.reduceAdd]
  refine wpPi_move _ rfl rfl ?_
  simp only [pl, pn, el, ec, sz, ss, gz, gs, if_true, if_false, Bool.false_eq_true, Bool.not_true, Bool.not_false, Nat.add_zero, Nat.zero_add, Nat.reduceAdd]
  refine wpPi_move _ rfl rfl ?_
  simp only [pl, pn, el, ec, sz, ss, gz, gs, if_true, if_false, Bool.false_eq_true, Bool.not_true, Bool.not_false, Nat.add_zero, Nat.zero_add, Nat.reduceAdd]
  refine wpPi_nil ?_
  refine planQ_normal ?_
  refine wpPlan_one rfl (fun K hK => ?_)
  simp only [Array.getD_eq_getD_getElem?, List.getElem?_toArray, List.getElem?_cons_succ, List.getElem?_cons_zero, Option.getD_some]
  refine wp_enterQ (run_call 11 [.tmp 77, .tmp 78] _ rfl _ Tryz.func11 rfl (by kernel_rfl) [.slice a17 ps.length c17, .slice a19 ps.length c19] rfl _) (sameSides_any (Sl.keep0 HS17.out hS) (Sl.keep0 HS19.out hS)) ?_
  rintro e w15 ⟨rfl, hm15⟩
  have hS15 := hS.trans0 hm15
  refine ⟨_, rfl, hK _ _ hS15 ?_⟩
  clear hK K
  try simp only [pl, pn, el, ec, sz, ss, gz, gs, if_true, if_false, Bool.false_eq_true, Bool.not_true, Bool.not_false, Nat.add_zero, Nat.zero_add, Nat.reduceAdd]
  refine wpPlan_seg ?_
  simp only [List.map_cons, List.map_nil, Array.getD_eq_getD_getElem?, List.getElem?_toArray, List.getElem?_cons_succ, List.getElem?_cons_zero, Option.getD_some]
  refine wpPi_pick _ _ _ _ rfl rfl rfl ?_
  simp only [pl, pn, el, ec, sz, ss, gz, gs, if_true, if_false, Bool.false_eq_true, Bool.not_true, Bool.not_false, Nat.add_zero, Nat.zero_add, Nat.reduceAdd]
  refine wpPi_move _ rfl rfl ?_
  simp only [pl, pn, el, ec, sz, ss, gz, gs, if_true, if_false, Bool.false_eq_true, Bool.not_true, Bool.not_false, Nat.add_zero, Nat.zero_add, Nat.reduceAdd]
  refine wpPi_move _ rfl rfl ?_
  simp only [pl, pn, el, ec, sz, ss, gz, gs, if_true, if_false, Bool.false_eq_true, Bool.not_true, Bool.not_false, Nat.add_zero, Nat.zero_add, Nat.reduceAdd]
  refine wpPi_move _ rfl rfl ?_
  simp only [pl, pn, el, ec, sz, ss, gz, gs, if_true, if_false, Bool.false_eq_true, Bool.not_true, Bool.not_false, Nat.add_zero, Nat.zero_add, Nat.reduceAdd]
  refine wpPi_cmp _ _ _ _ _ _ _ _ rfl rfl rfl rfl rfl true (decide_eq_true rfl) ?_
  simp only [pl, pn, el, ec, sz, ss, gz, gs, if_true, if_false, Bool.false_eq_true, Bool.not_true, Bool.not_false, Nat.add_zero, Nat.zero_add, Nat.reduceAdd]
  refine wpPi_pick _ _ _ _ rfl rfl rfl ?_
  simp only [pl, pn, el, ec, sz, ss, gz, gs, if_true, if_false, Bool.false_eq_true, Bool.not_true, Bool.not_false, Nat.add_zero, Nat.zero_add, Nat.reduceAdd]
  refine wpPi_move _ rfl rfl ?_
  simp only [pl, pn, el, ec, sz, ss, gz, gs, if_true, if_false, Bool.false_eq_true, Bool.not_true, Bool.not_false, Nat.add_zero, Nat.zero_add, Nat.reduceAdd]
  refine wpPi_move _ rfl rfl ?_
  simp only [pl, pn, el, ec, sz, ss, gz, gs, if_true, if_false, Bool.false_eq_true, Bool.not_true, Bool.not_false, Nat.add_zero, Nat.zero_add, Nat.reduceAdd]
  refine wpPi_move _ rfl rfl ?_
  simp only [pl, pn, el, ec, sz, ss, gz, gs, if_true, if_false, Bool.false_eq_true, Bool.not_true, Bool.not_false, Nat.add_zero, Nat.zero_add, Nat.reduceAdd]
  refine wpPi_nil ?_
  refine planQ_normal ?_
  refine wpPlan_dep [(88, (fun v _ => v = .int .i64 ck)), (90, (fun v _ => v = .int .i64 ck))] [(20, 88, []), (22, 90, [])] ?hF ?hS (by decide) (by kernel_rfl) (by kernel_rfl) (by kernel_rfl) ?hw ?hend ?hop
  case hF =>
    intro x hx
    simp only [List.mem_cons, List.not_mem_nil, or_false] at hx
    rcases hx with rfl | rfl
    · exact (fun _ _ _ h _ => h)
    · exact (fun _ _ _ h _ => h)
  case hS => exact (fun _ hm => hS15.trans0 hm)
  case hw =>
    intro q hq
    simp only [List.mem_cons, List.not_mem_nil, or_false] at hq
    rcases hq with rfl | rfl <;> rfl
  case hop =>
    intro q hq ps w1 hm hps hds hnd hpn K hK
    simp only [List.mem_cons, List.not_mem_nil, or_false] at hq
    rcases hq with rfl | rfl
    · simp only [depF, Nat.reduceEqDiff, if_true, if_false, reduceIte] at hK
      simp only [Array.getD_eq_getD_getElem?, List.getElem?_toArray, List.getElem?_cons_succ, List.getElem?_cons_zero, Option.getD_some]
      clear hps hds
      refine wp_enterQ (run_call 12 [.tmp 87] _ rfl _ Tryz.func12 rfl (by kernel_rfl) [.slice a11 l.length c11] ((puts_args hpn _ _ (by rfl)).trans rfl) _) (check_any (HIN.out.keep0 ((hM6e.trans0 hS15).trans0 hm)) hsl hll) ?_
      rintro e wg ⟨rfl, hmg⟩
      exact ⟨_, rfl, hK _ _ hmg (by rw [HCK.out])⟩
    · simp only [depF, Nat.reduceEqDiff, if_true, if_false, reduceIte] at hK
      simp only [Array.getD_eq_getD_getElem?, List.getElem?_toArray, List.getElem?_cons_succ, List.getElem?_cons_zero, Option.getD_some]
      clear hps hds
      refine wp_enterQ (run_call 13 [.tmp 89] _ rfl _ Tryz.func13 rfl (by kernel_rfl) [.slice aa l.length ca] ((puts_args hpn _ _ (by rfl)).trans rfl) _) (refCheck_any (HA.out.keep0 ((hM6e.trans0 hS15).trans0 hm)) hsl hll) ?_
      rintro e wg ⟨rfl, hmg⟩
      exact ⟨_, rfl, hK _ _ hmg (by rw [HCK.out])⟩
  case hend =>
    intro vals wz hvl hGM hJ
    obtain ⟨v88, vals1, rfl, hvl1⟩ := vals_cons hvl
    obtain ⟨v90, vals2, rfl, hvl2⟩ := vals_cons hvl1
    obtain rfl := List.eq_nil_of_length_eq_zero hvl2
    simp only [List.map_cons, List.map_nil, List.zip_cons_cons, List.zip_nil_left] at hJ ⊢
    have h88 := hJ (88, v88) (by simp)
    simp only [depF, Nat.reduceEqDiff, if_true, if_false, reduceIte] at h88
    have h90 := hJ (90, v90) (by simp)
    simp only [depF, Nat.reduceEqDiff, if_true, if_false, reduceIte] at h90
    clear hJ hvl hvl1 hvl2
    have hGM88 := hGM
    simp only [puts]
    try simp only [pl, pn, el, ec, sz, ss, gz, gs, if_true, if_false, Bool.false_eq_true, Bool.not_true, Bool.not_false, Nat.add_zero, Nat.zero_add, Nat.reduceAdd]
    refine wpPlan_seg ?_
    simp only [List.map_cons, List.map_nil, Array.getD_eq_getD_getElem?, List.getElem?_toArray, List.getElem?_cons_succ, List.getElem?_cons_zero, Option.getD_some]
    refine wpPi_val rfl (fun w' hS => exec_eql_int _ _ _ _ rfl .i64 ck ck (by exact h88) (by exact h90) true (decide_eq_true rfl)) ?_
    simp only [pl, pn, el, ec, sz, ss, gz, gs, if_true, if_false, Bool.false_eq_true, Bool.not_true, Bool.not_false, Nat.add_zero, Nat.zero_add, Nat.reduceAdd]
    refine wpPi_pick _ _ _ _ rfl rfl rfl ?_
    simp only [pl, pn, el, ec, sz, ss, gz, gs, if_true, if_false, Bool.false_eq_true, Bool.not_true, Bool.not_false, Nat.add_zero, Nat.zero_add, Nat.reduceAdd]
    refine wpPi_move _ rfl rfl ?_
    simp only [pl, pn, el, ec, sz, ss, gz, gs, if_true, if_false, Bool.false_eq_true, Bool.not_true, Bool.not_false, Nat.add_zero, Nat.zero_add, Nat.reduceAdd]
    refine wpPi_val rfl (fun w' hS => exec_loadA 24 _ (by rfl) bi 0 (by rfl) C (hcI.keep hS id) _ Tryz.underlying24 rfl 32 (by kernel_rfl) hrs) ?_
    simp only [pl, pn, el, ec, sz, ss, gz, gs, if_true, if_false, Bool.false_eq_true, Bool.not_true, Bool.not_false, Nat.add_zero, Nat.zero_add, Nat.reduceAdd]
    refine wpPi_val rfl (fun w' hS => exec_loadA 27 _ (by rfl) bx 0 (by rfl) cs (hcX.keep hS id) _ Tryz.underlying27 rfl 2 (by kernel_rfl) hcs2) ?_
    simp only [pl, pn, el, ec, sz, ss, gz, gs, if_true, if_false, Bool.false_eq_true, Bool.not_true, Bool.not_false, Nat.add_zero, Nat.zero_add, Nat.reduceAdd]
    refine wpPi_move _ rfl rfl ?_
    simp only [pl, pn, el, ec, sz, ss, gz, gs, if_true, if_false, Bool.false_eq_true, Bool.not_true, Bool.not_false, Nat.add_zero, Nat.zero_add, Nat.reduceAdd]
    refine wpPi_val rfl (fun w' hS => exec_loadA 24 _ (by rfl) bi 0 (by rfl) C (hcI.keep hS id) _ Tryz.underlying24 rfl 32 (by kernel_rfl) hrs) ?_
    simp only [pl, pn, el, ec, sz, ss, gz, gs, if_true, if_false, Bool.false_eq_true, Bool.not_true, Bool.not_false, Nat.add_zero, Nat.zero_add, Nat.reduceAdd]
    refine wpPi_val rfl (fun w' hS => exec_loadA 27 _ (by rfl) bx 0 (by rfl) cs (hcX.keep hS id) _ Tryz.underlying27 rfl 2 (by kernel_rfl) hcs2) ?_
    simp only [pl, pn, el, ec, sz, ss, gz, gs, if_true, if_false, Bool.false_eq_true, Bool.not_true, Bool.not_false, Nat.add_zero, Nat.zero_add, Nat.reduceAdd]
    refine wpPi_move _ rfl rfl ?_
    simp only [pl, pn, el, ec, sz, ss, gz, gs, if_true, if_false, Bool.false_eq_true, Bool.not_true, Bool.not_false, Nat.add_zero, Nat.zero_add, Nat.reduceAdd]
    refine wpPi_nil ?_
    refine planQ_normal ?_
    refine wpPlan_dep [(97, (fun v _ => v = .bool pv)), (101, (fun v _ => v = .bool pv))] [(29, 97, []), (33, 101, [])] ?hF ?hS (by decide) (by kernel_rfl) (by kernel_rfl) (by kernel_rfl) ?hw ?hend ?hop
    case hF =>
      intro x hx
      simp only [List.mem_cons, List.not_mem_nil, or_false] at hx
      rcases hx with rfl | rfl
      · exact (fun _ _ _ h _ => h)
      · exact (fun _ _ _ h _ => h)
    case hS => exact (fun _ hm => (hS15.trans0 hGM88).trans0 hm)
    case hw =>
      intro q hq
      simp only [List.mem_cons, List.not_mem_nil, or_false] at hq
      rcases hq with rfl | rfl <;> rfl
    case hop =>
      intro q hq ps w1 hm hps hds hnd hpn K hK
      simp only [List.mem_cons, List.not_mem_nil, or_false] at hq
      rcases hq with rfl | rfl
      · simp only [depF, Nat.reduceEqDiff, if_true, if_false, reduceIte] at hK
        simp only [Array.getD_eq_getD_getElem?, List.getElem?_toArray, List.getElem?_cons_succ, List.getElem?_cons_zero, Option.getD_some]
        clear hps hds
        have hMg := (hM6e.trans0 (hS15.trans0 hGM88)).trans0 hm
        have hprv := proves_any root hroot (EntC.keep0 HX.out hMg) hx1 hx2 (Sl.keep0 HBY.out hMg)
        rw [HC.out, HPV.out] at hprv
        refine wp_enterQ (run_call 14 [.tmp 94, .tmp 95, .tmp 96] _ rfl _ Tryz.func14 rfl (by kernel_rfl) [.agg C, .agg cs, .slice a12 path.length c12] ((puts_args hpn _ _ (by rfl)).trans rfl) _) hprv ?_
        rintro e wg ⟨rfl, hmg⟩
        exact ⟨_, rfl, hK _ _ hmg rfl⟩
      · simp only [depF, Nat.reduceEqDiff, if_true, if_false, reduceIte] at hK
        simp only [Array.getD_eq_getD_getElem?, List.getElem?_toArray, List.getElem?_cons_succ, List.getElem?_cons_zero, Option.getD_some]
        clear hps hds
        have hMg := (hM6e.trans0 (hS15.trans0 hGM88)).trans0 hm
        have hprv := refProves_any root hroot (EntC.keep0 HX.out hMg) hx1 hx2 (Sl.keep0 HP.out hMg)
        rw [HC.out, HPV.out] at hprv
        refine wp_enterQ (run_call 15 [.tmp 98, .tmp 99, .tmp 100] _ rfl _ Tryz.func15 rfl (by kernel_rfl) [.agg C, .agg cs, .slice ap path.length cp] ((puts_args hpn _ _ (by rfl)).trans rfl) _) hprv ?_
        rintro e wg ⟨rfl, hmg⟩
        exact ⟨_, rfl, hK _ _ hmg rfl⟩
    case hend =>
      intro vals wz hvl hGM hJ
      obtain ⟨v97, vals1, rfl, hvl1⟩ := vals_cons hvl
      obtain ⟨v101, vals2, rfl, hvl2⟩ := vals_cons hvl1
      obtain rfl := List.eq_nil_of_length_eq_zero hvl2
      simp only [List.map_cons, List.map_nil, List.zip_cons_cons, List.zip_nil_left] at hJ ⊢
      have h97 := hJ (97, v97) (by simp)
      simp only [depF, Nat.reduceEqDiff, if_true, if_false, reduceIte] at h97
      have h101 := hJ (101, v101) (by simp)
      simp only [depF, Nat.reduceEqDiff, if_true, if_false, reduceIte] at h101
      clear hJ hvl hvl1 hvl2
      have hGM97 := hGM
      simp only [puts]
      try simp only [pl, pn, el, ec, sz, ss, gz, gs, if_true, if_false, Bool.false_eq_true, Bool.not_true, Bool.not_false, Nat.add_zero, Nat.zero_add, Nat.reduceAdd]
      refine wpPlan_seg ?_
      simp only [List.map_cons, List.map_nil, Array.getD_eq_getD_getElem?, List.getElem?_toArray, List.getElem?_cons_succ, List.getElem?_cons_zero, Option.getD_some]
      refine wpPi_val rfl (fun w' hS => exec_eql_bool _ _ _ pv rfl (by exact h97) (by exact h101)) ?_
      simp only [pl, pn, el, ec, sz, ss, gz, gs, if_true, if_false, Bool.false_eq_true, Bool.not_true, Bool.not_false, Nat.add_zero, Nat.zero_add, Nat.reduceAdd]
      refine wpPi_pick _ _ _ _ rfl rfl rfl ?_
      simp only [pl, pn, el, ec, sz, ss, gz, gs, if_true, if_false, Bool.false_eq_true, Bool.not_true, Bool.not_false, Nat.add_zero, Nat.zero_add, Nat.reduceAdd]
      refine wpPi_assign _ rfl rfl ?_
      simp only [pl, pn, el, ec, sz, ss, gz, gs, if_true, if_false, Bool.false_eq_true, Bool.not_true, Bool.not_false, Nat.add_zero, Nat.zero_add, Nat.reduceAdd]
      refine wpPi_nil ?_
      refine planQ_normal ?_
      refine wpPlan_fin ?_
      have hMee := (hS15.trans0 hGM88).trans0 hGM97
      obtain ⟨g, cap, cur0, hroom, hgb⟩ := HROOM.out
      have HR := Lib.hid hroom
      have hMcw := hMce.trans0 hMee
      clear hroom HROOM h88 h90 h97 h101 hGM hGM88 hGM97 hS15 hS HS17 HS19 hc13 hc15 hcI hcX hR13e hR15e hM6e
      go_wp2
      go_loopw [22] (OvRel g cur0.size wz ps.length) (fun i _ => ps.length - (intOf i).toNat)
      case atStart => exact ⟨0, cur0, by omega, rfl, fun h => ⟨hMee.obj id (HR.out h).2.1, rfl⟩, Mod.refl _ _⟩
      case round =>
        rename World => wr
        obtain ⟨k, cur, hk, rfl, hrow, hm⟩ := hrel
        by_cases hlt : k < ps.length
        · have hz : (k : Int) < (ps.length : Int) := by omega
          obtain ⟨hv, -, hrm⟩ := HR.out (by omega)
          injection hv with hv1 hv2 hv3
          subst hv1 hv3
          obtain ⟨hrow, hcz⟩ := hrow (by omega)
          have h33 : k * 33 + 33 ≤ cur.size := by omega
          have hs7 := sideCells_size (false, seven)
          clear hv2
          go_upto_region 12 with (fail)
          refine wp_region_seq [3, 3, 0, 0, 3, 1] (fun _ => True) (by rfl) (by rfl) trivial ?_
          simp only [List.zip_cons_cons, List.zip_nil_right]
          refine wpPi_move _ rfl rfl ?_
          simp only [pl, pn, el, ec, sz, ss, gz, gs, if_true, if_false, Bool.false_eq_true, Bool.not_true, Bool.not_false, Nat.add_zero, Nat.zero_add, Nat.reduceAdd]
          refine wpPi_move _ rfl rfl ?_
          simp only [pl, pn, el, ec, sz, ss, gz, gs, if_true, if_false, Bool.false_eq_true, Bool.not_true, Bool.not_false, Nat.add_zero, Nat.zero_add, Nat.reduceAdd]
          refine wpPi_val rfl (fun w' hS => exec_build_of 24 [(0, _)] [(0, .int .u8 7)] (idCells seven) (by rfl) (by rfl) built_seven) ?_
          simp only [pl, pn, el, ec, sz, ss, gz, gs, if_true, if_false, Bool.false_eq_true, Bool.not_true, Bool.not_false, Nat.add_zero, Nat.zero_add, Nat.reduceAdd]
          refine wpPi_val rfl (fun w' hS => exec_build_of 41 [(1, _)] [(1, .agg (idCells seven))] (sideCells (false, seven)) (by rfl) (by rfl) (built_side0 seven rfl)) ?_
          simp only [pl, pn, el, ec, sz, ss, gz, gs, if_true, if_false, Bool.false_eq_true, Bool.not_true, Bool.not_false, Nat.add_zero, Nat.zero_add, Nat.reduceAdd]
          refine wpPi_index _ _ _ _ _ _ _ _ _ rfl rfl rfl rfl Tryz.underlying28 (n := 33) (by kernel_rfl) hlt ?_
          simp only [pl, pn, el, ec, sz, ss, gz, gs, if_true, if_false, Bool.false_eq_true, Bool.not_true, Bool.not_false, Nat.add_zero, Nat.zero_add, Nat.reduceAdd]
          refine wpPi_do rfl (fun K hK => ?_)
          refine wp_storeA 41 _ _ g (k * 33) (sideCells (false, seven)) (by rfl) (by rfl) (by rfl) (sideCells_one _) 33 (by kernel_rfl) hs7 _ _ hrow (by rw [hs7]; exact h33) (fun wn hBn hmn => ?_)
          have hsn := putRow_size (cur := cur) (off := k * 33) (cs := sideCells (false, seven)) (by rw [hs7]; exact h33)
          have hMn : Mod (fun j => j = g) wz wn := hm.trans hmn (fun _ _ h => h)
          refine hK _ _ trivial ?_
          clear hK K
          try simp only [pl, pn, el, ec, sz, ss, gz, gs, if_true, if_false, Bool.false_eq_true, Bool.not_true, Bool.not_false, Nat.add_zero, Nat.zero_add, Nat.reduceAdd]
          refine wpPi_nil ?_
          generalize putRow cur (k * 33) (sideCells (false, seven)) = cur' at *
          clear hm hmn hrow
          go_wp2
          go_roundw
          case rel => exact ⟨k + 1, cur', by omega, by go_num, fun _ => ⟨hBn, by omega⟩, hMn⟩
          case measure => simp [intOf]; omega
        · have hz : ¬ (k : Int) < (ps.length : Int) := by omega
          have hM12r : Mod NoB w12 wr := hMcw.trans hm (fun q hq e => by
            have e' : q = g := e
            omega)
          have hM6r := hM6c.trans0 hM12r
          have hMwr := hM6.trans0 hM6r
          clear hm hMcw hMee hMce hM12r HR
          go_upto_region 13 with (fail)
          refine wp_region_seq [3, 3, 3, 3, 1, 3, 3, 3, 3, 1, 3, 3, 1, 3, 3] (fun _ => True) (by rfl) (by rfl) trivial ?_
          simp only [List.zip_cons_cons, List.zip_nil_right]
          refine wpPi_move _ rfl rfl ?_
          simp only [pl, pn, el, ec, sz, ss, gz, gs, if_true, if_false, Bool.false_eq_true, Bool.not_true, Bool.not_false, Nat.add_zero, Nat.zero_add, Nat.reduceAdd]
          refine wpPi_move _ rfl rfl ?_
          simp only [pl, pn, el, ec, sz, ss, gz, gs, if_true, if_false, Bool.false_eq_true, Bool.not_true, Bool.not_false, Nat.add_zero, Nat.zero_add, Nat.reduceAdd]
          refine wpPi_move _ rfl rfl ?_
          simp only [pl, pn, el, ec, sz, ss, gz, gs, if_true, if_false, Bool.false_eq_true, Bool.not_true, Bool.not_false, Nat.add_zero, Nat.zero_add, Nat.reduceAdd]
          refine wpPi_move _ rfl rfl ?_
          simp only [pl, pn, el, ec, sz, ss, gz, gs, if_true, if_false, Bool.false_eq_true, Bool.not_true, Bool.not_false, Nat.add_zero, Nat.zero_add, Nat.reduceAdd]
          refine wpPi_do rfl (fun K hK => ?_)
          refine wp_enterQ (run_call 16 [.tmp 117, .tmp 118] _ rfl _ Tryz.func16 rfl (by kernel_rfl) [.slice a11 l.length c11, .slice aa l.length ca] rfl _) (sameEs_any (HIN.out.keep0 hM6r) (HA.out.keep0 hM6r) rfl) ?_
          rintro e wx ⟨rfl, hmx⟩
          rw [decide_eq_true (show l = l from rfl)]
          refine ⟨_, rfl, hK _ _ trivial ?_⟩
          clear hK K
          try simp only [pl, pn, el, ec, sz, ss, gz, gs, if_true, if_false, Bool.false_eq_true, Bool.not_true, Bool.not_false, Nat.add_zero, Nat.zero_add, Nat.reduceAdd]
          refine wpPi_pick _ _ _ _ rfl rfl rfl ?_
          simp only [pl, pn, el, ec, sz, ss, gz, gs, if_true, if_false, Bool.false_eq_true, Bool.not_true, Bool.not_false, Nat.add_zero, Nat.zero_add, Nat.reduceAdd]
          refine wpPi_move _ rfl rfl ?_
          simp only [pl, pn, el, ec, sz, ss, gz, gs, if_true, if_false, Bool.false_eq_true, Bool.not_true, Bool.not_false, Nat.add_zero, Nat.zero_add, Nat.reduceAdd]
          refine wpPi_move _ rfl rfl ?_
          simp only [pl, pn, el, ec, sz, ss, gz, gs, if_true, if_false, Bool.false_eq_true, Bool.not_true, Bool.not_false, Nat.add_zero, Nat.zero_add, Nat.reduceAdd]
          refine wpPi_move _ rfl rfl ?_
          simp only [pl, pn, el, ec, sz, ss, gz, gs, if_true, if_false, Bool.false_eq_true, Bool.not_true, Bool.not_false, Nat.add_zero, Nat.zero_add, Nat.reduceAdd]
          refine wpPi_do rfl (fun K hK => ?_)
          refine wp_enterQ (run_call 11 [.tmp 122, .tmp 123] _ rfl _ Tryz.func11 rfl (by kernel_rfl) [.slice a12 path.length c12, .slice ap path.length cp] rfl _) (sameSides_any (Sl.keep0 HBY.out (hM6r.trans0 hmx)) (Sl.keep0 HP.out (hM6r.trans0 hmx))) ?_
          rintro e wy ⟨rfl, hmy⟩
          refine ⟨_, rfl, hK _ _ trivial ?_⟩
          clear hK K
          try simp only [pl, pn, el, ec, sz, ss, gz, gs, if_true, if_false, Bool.false_eq_true, Bool.not_true, Bool.not_false, Nat.add_zero, Nat.zero_add, Nat.reduceAdd]
          refine wpPi_pick _ _ _ _ rfl rfl rfl ?_
          simp only [pl, pn, el, ec, sz, ss, gz, gs, if_true, if_false, Bool.false_eq_true, Bool.not_true, Bool.not_false, Nat.add_zero, Nat.zero_add, Nat.reduceAdd]
          refine wpPi_move _ rfl rfl ?_
          simp only [pl, pn, el, ec, sz, ss, gz, gs, if_true, if_false, Bool.false_eq_true, Bool.not_true, Bool.not_false, Nat.add_zero, Nat.zero_add, Nat.reduceAdd]
          refine wpPi_do rfl (fun K hK => ?_)
          refine wp_enterQ (run_call 5 [] _ rfl _ Tryz.func5 rfl (by kernel_rfl) [] rfl _) (awake_any _) ?_
          rintro e wv ⟨rfl, hmv⟩
          refine ⟨_, rfl, hK _ _ trivial ?_⟩
          clear hK K
          try simp only [pl, pn, el, ec, sz, ss, gz, gs, if_true, if_false, Bool.false_eq_true, Bool.not_true, Bool.not_false, Nat.add_zero, Nat.zero_add, Nat.reduceAdd]
          refine wpPi_pick _ _ _ _ rfl rfl rfl ?_
          simp only [pl, pn, el, ec, sz, ss, gz, gs, if_true, if_false, Bool.false_eq_true, Bool.not_true, Bool.not_false, Nat.add_zero, Nat.zero_add, Nat.reduceAdd]
          refine wpPi_assign _ rfl rfl ?_
          simp only [pl, pn, el, ec, sz, ss, gz, gs, if_true, if_false, Bool.false_eq_true, Bool.not_true, Bool.not_false, Nat.add_zero, Nat.zero_add, Nat.reduceAdd]
          refine wpPi_nil ?_
          have hMz := ((hMwr.trans0 hmx).trans0 hmy).trans0 hmv
          clear hMwr hmx hmy hmv hM6r
          go_wp2
          go_ret
          exact ⟨rfl, hMz⟩
end Go.Proofs.YtchkikmmcmjcgaaGreat

/- From a walk that turns nothing to what a row asks: the post-condition of a statement that is not asked again. -/
namespace Go.Proofs.YtchkikmmcmjcgaaGreat
set_option linter.unusedSimpArgs false
set_option linter.unusedVariables false
set_option linter.unnecessarySimpa false
set_option linter.unusedSectionVars false
open Go.ChangeShapes Go.WideShapes Go.ChangeAt Go.RowKit

theorem Mod.kept {w w' : World} (h : Mod NoB w w') (may : MemPlace → Prop) : w.keptBut w' may := by
  refine ⟨h.os, h.output, fun i hi => ?_⟩
  have e := h.block i hi id
  cases hw : w.heap[i]? with
  | none => rw [hw] at e; simp [e]
  | some o =>
    rw [hw] at e
    cases o <;> simp [e]

/-- Nothing has turned, and the results and arguments read as they should: so the post-condition holds. -/
theorem post_of_mod {H : Type} {enc : TypeId × Value → H} {P : Program} {f : Func} {s : ChangeSpec} {apart fresh handsOn : Bool} {W W' : World} {args : Array Value} {v : Value} {ds gs : List (DataW H)} {before pa pv : List MemPlace}
    (hold : DataW.Whole enc P f.params.toList s.vars apart W args.toList ds gs before) (hm : Mod NoB W W')
    (hr : ∀ (b : Nat), DataW.TrodAll enc P W' b (fun _ => false) handsOn f.resultTypes.toList (v.resultList f.resultTypes.size) (s.fn H (ds ++ gs)).results [])
    (ha : DataW.TrodAll enc P W' 0 (fun b => decide (b < W.heap.size)) true f.params.toList args.toList (s.fn H (ds ++ gs)).args pa)
    (hv : DataW.TrodVars enc P W' (fun b => decide (b < W.heap.size)) s.vars (s.fn H (ds ++ gs)).vars pv) : s.post enc P f apart fresh handsOn false W args v W' := by
  unfold ChangeSpec.post
  exact ⟨ds, gs, before, [], pa, pv, hold, hr _, ha, hv, hm.kept _, fun h => Bool.noConfusion h⟩

theorem laidOut : laidOutB Tryz.prog = true := by kernel_rfl
/-- What is read of an argument is read as before, where nothing has turned. -/
theorem carry {H : Type} {enc : TypeId × Value → H} {t : TypeId} (hr : Tryz.prog.readableRec t = true) (hrow : t < Tryz.prog.types.size) {W W' : World} (hm : Mod NoB W W') {v : Value} {d : DataW H} {ps : List MemPlace}
    (h : DataW.Trod enc Tryz.prog W 0 (fun _ => true) true t v d ps) : DataW.Trod enc Tryz.prog W' 0 (fun b => decide (b < W.heap.size)) true t v d ps := by
  obtain ⟨n, h⟩ := h
  have hlt := DataW.trod_lt n t _ _ h
  refine ⟨n, DataW.trod_stays (kids_book laidOut hr) (book_sized hr) (fun h => by cases h) ⟨hrow, book_self t⟩ h (fun p hp => ?_) (fun p hp => by simpa using hlt p hp)⟩
  have hb := hlt p hp
  cases p with
  | cell b off => exact World.cell?_of_block (w := W) (hm.block b hb id)
  | map b => exact hm.block b hb id
end Go.Proofs.YtchkikmmcmjcgaaGreat

/- Arguments, read: entries, bytes, sides, digests. -/
namespace Go.Proofs.YtchkikmmcmjcgaaGreat
set_option linter.unusedSimpArgs false
set_option linter.unusedVariables false
set_option linter.unnecessarySimpa false
set_option linter.unusedSectionVars false
open Go.ChangeShapes Go.WideShapes Go.ChangeAt Go.RowKit

theorem fit_i64 {n : Int} (h : (Lit.int .i64 n).wf = true) : -9223372036854775808 ≤ n ∧ n ≤ 9223372036854775807 := bounds_i64 h

theorem addr_add {w : World} {a : Addr} {v : Value} (i : Nat) (h0 : ∃ u, w.cell? (a.add 0) = some u) (h : w.cell? (a.add i) = some v) : a = ⟨a.block, a.off, none⟩ ∧ w.cell? ⟨a.block, a.off + i, none⟩ = some v := by
  obtain ⟨u, h0⟩ := h0
  obtain ⟨b, off, spot⟩ := a
  have hs : spot = none := by
    simp only [Addr.add, if_true] at h0
    unfold World.cell? at h0
    cases spot with
    | none => rfl
    | some s => cases hw : w.heap[b]? with
      | none => simp [hw] at h0
      | some o => cases o <;> simp [hw] at h0
  subst hs
  refine ⟨rfl, ?_⟩
  unfold Addr.add at h
  split at h
  · rename_i hi; subst hi; exact h
  · exact h

theorem list_of_all {α : Type} {n : Nat} {Q : Nat → α → Prop} (h : ∀ i, i < n → ∃ a, Q i a) : ∃ l : List α, l.length = n ∧ ∀ i (hi : i < l.length), Q i l[i] := by
  refine ⟨List.ofFn fun i : Fin n => Classical.choose (h i.1 i.2), by simp, fun i hi => ?_⟩
  rw [List.getElem_ofFn]
  exact Classical.choose_spec (h i (by simpa using hi))

theorem addr_cells {w : World} {a : Addr} {i j : Nat} {u v : Value} (h0 : w.cell? ((a.add 0).add 0) = some u) (h : w.cell? ((a.add i).add j) = some v) : a = ⟨a.block, a.off, none⟩ ∧ w.cell? ⟨a.block, a.off + i + j, none⟩ = some v := by
  have e0 : (a.add 0).add 0 = a.add 0 := by simp [Addr.add]
  have h1 := (addr_add 0 ⟨u, e0 ▸ h0⟩ (e0 ▸ h0)).1
  refine ⟨h1, ?_⟩
  rw [h1] at h
  have e : ∀ (b o k : Nat), Addr.add ⟨b, o, none⟩ k = ⟨b, o + k, none⟩ := fun b o k => by
    unfold Addr.add
    split
    · rename_i hk; subst hk; rfl
    · rfl
  rwa [e, e] at h

section
variable {H : Type} {enc : TypeId × Value → H} {P : Program} {W : World} {sp : Nat → Bool} {held : Bool}

theorem sl_of_trod {α : Type} {R : Array Value → α → Prop} {t e : TypeId} {sz fuel : Nat} {cs : List Value} {x : DataW H × List MemPlace} (ht : P.underlying t = some (.slice e)) (hsz : P.cellsOf e = sz) (hpos : 0 < sz)
    (hR : ∀ n cs x, DataW.trod enc P W 0 sp held n e cs = some x → ∃ a, R cs.toArray a) (h : DataW.trod enc P W 0 sp held fuel t cs = some x) : ∃ v l, cs = [v] ∧ Sl false W (fun k => k < W.heap.size) sz R v l := by
  rcases DataW.trod_slice ht h with ⟨rfl, _⟩ | ⟨a, len, cap, elems, rest, n, _, rfl, _, _, hlc, hcm, hel, helem, _, _⟩
  · exact ⟨_, [], rfl, Sl.nil _ _ _ _ _⟩
  · subst hsz
    have hall : ∀ i, i < len → ∃ y : α, ∃ cs : List Value, cs.length = P.cellsOf e ∧ R cs.toArray y ∧ ∀ j, j < P.cellsOf e → W.cell? ((a.add (i * P.cellsOf e)).add j) = cs[j]? := by
      intro i hi
      have h1 := helem i hi
      rw [List.getElem?_eq_getElem (by omega)] at h1
      obtain ⟨cs, h2, h3⟩ := Option.bind_eq_some_iff.1 h1
      obtain ⟨_, hl, hc⟩ := World.cells?_some h2
      obtain ⟨y, hy⟩ := hR _ _ _ h3
      exact ⟨y, cs, hl, hy, hc⟩
    obtain ⟨l, hl, hq⟩ := list_of_all hall
    refine ⟨_, l, rfl, some a, cap, by rw [hl], by omega, hcm, fun hne => ?_⟩
    have hp : 0 < l.length := List.length_pos_iff.2 hne
    have h0 : ∃ u, W.cell? ((a.add 0).add 0) = some u := by
      obtain ⟨cs, h1, _, h3⟩ := hq 0 hp
      have := h3 0 hpos
      rw [List.getElem?_eq_getElem (by omega), Nat.zero_mul] at this
      exact ⟨_, this⟩
    obtain ⟨u, h0⟩ := h0
    refine ⟨a.block, a.off, by rw [← (addr_cells h0 h0).1], (block_lt_of_cell (a := ⟨a.block, a.off + 0 + 0, none⟩) (addr_cells h0 h0).2), fun h => (by cases h), fun i hi => ?_⟩
    obtain ⟨cs, h1, h2, h3⟩ := hq i hi
    refine ⟨cs.toArray, by simpa using h1, h2, fun j hj => ?_⟩
    have hj' : j < cs.length := by simpa using hj
    have := h3 j (by omega)
    rw [List.getElem?_eq_getElem hj'] at this
    rw [(addr_cells h0 this).2]
    simp [List.getElem?_eq_getElem hj']

theorem field_of_trod {t : TypeId} {fs : Array Field} {fuel : Nat} {cs : List Value} {x : DataW H × List MemPlace} (ht : P.underlying t = some (.struct fs)) (h : DataW.trod enc P W 0 sp held fuel t cs = some x) :
    cs.length = P.cellsOf t ∧ ∀ (i : Nat) (f : Field), fs[i]? = some f → ∃ n y, DataW.trod enc P W 0 sp held n f.type ((cs.drop f.offset).take (P.cellsOf f.type)) = some y := by
  obtain ⟨xs, n, _, _, hl, hx, hf⟩ := DataW.trod_struct ht h
  refine ⟨hl, fun i f hi => ⟨n, ?_⟩⟩
  have hi' : i < xs.length := by
    rcases Nat.lt_or_ge i fs.size with h | h
    · omega
    · rw [Array.getElem?_eq_none h] at hi; cases hi
  have := hf i f hi
  rw [List.getElem?_eq_getElem hi'] at this
  exact ⟨_, this⟩

theorem drop_step (cs : List Value) (k n : Nat) : cs.drop k = (cs.drop k).take n ++ cs.drop (k + n) := by
  rw [← List.drop_drop, List.take_append_drop]
end


theorem okWide_array {P : Program} {w : World} {r : Reach} {base : Nat} {t : TypeId} {v : Value} {n : Nat} {e : TypeId} (ht : P.underlying t = some (.array n e)) (h : Value.okWide P w r base t v) : ∃ cs, v = .agg cs ∧ cs.size = P.cellsOf t := by
  simp only [Value.okWide, ht] at h
  obtain ⟨cs, h1, h2, _⟩ := h
  exact ⟨cs, h1, h2⟩



section
variable {H : Type} {enc : TypeId × Value → H} {W : World} {sp : Nat → Bool} {held : Bool} {fuel : Nat} {cs : List Value} {x : DataW H × List MemPlace}

theorem read_u8 (h : DataW.trod enc Tryz.prog W 0 sp held fuel 5 cs = some x) : ∃ b, cs = [byteV b] := by
  obtain ⟨n, rfl, _, hw⟩ := DataW.trod_int Tryz.underlying5 h
  have := bounds_u8 hw
  refine ⟨UInt8.ofNat n.toNat, ?_⟩
  unfold byteV
  rw [UInt8.toNat_ofNat_of_lt' (by rw [show UInt8.size = 256 from rfl]; omega), Int.toNat_of_nonneg this.1]

theorem read_bytes (h : DataW.trod enc Tryz.prog W 0 sp held fuel 25 cs = some x) : ∃ v l, cs = [v] ∧ Sl false W (fun k => k < W.heap.size) 1 ByteC v l :=
  sl_of_trod Tryz.underlying25 (by kernel_rfl) (by decide) (fun _ _ _ h => by
    obtain ⟨b, rfl⟩ := read_u8 h
    exact ⟨b, rfl⟩) h
theorem read_entry (h : DataW.trod enc Tryz.prog W 0 sp held fuel 27 cs = some x) : ∃ e, EntC W (fun k => k < W.heap.size) cs.toArray e := by
  obtain ⟨hl, hf⟩ := field_of_trod Tryz.underlying27 h
  have c9 : Tryz.prog.cellsOf 9 = 1 := by kernel_rfl
  have c33 : Tryz.prog.cellsOf 25 = 1 := by kernel_rfl
  have hc : Tryz.prog.cellsOf 27 = 2 := by kernel_rfl
  obtain ⟨_, _, h0⟩ : ∃ n y, DataW.trod enc Tryz.prog W 0 sp held n 9 ((cs.drop 0).take (Tryz.prog.cellsOf 9)) = some y := hf 0 _ rfl
  obtain ⟨_, _, h1⟩ : ∃ n y, DataW.trod enc Tryz.prog W 0 sp held n 25 ((cs.drop 1).take (Tryz.prog.cellsOf 25)) = some y := hf 1 _ rfl
  obtain ⟨r, e0, _, b0⟩ := DataW.trod_string Tryz.underlying9 h0
  obtain ⟨v, l, e1, hs⟩ := read_bytes h1
  rw [hc] at hl
  rw [c9] at e0
  rw [c33] at e1
  refine ⟨(r, l), v, ?_, hs⟩
  have := drop_step cs 0 1
  rw [e0, drop_step cs (0 + 1) 1, e1, show 0 + 1 + 1 = 2 from rfl, List.drop_of_length_le (i := 2) (by omega), List.drop_zero] at this
  rw [this]
  rfl
theorem read_entries (h : DataW.trod enc Tryz.prog W 0 sp held fuel 22 cs = some x) : ∃ v l, cs = [v] ∧ Es false W (fun k => k < W.heap.size) v l :=
  sl_of_trod Tryz.underlying22 (by kernel_rfl) (by decide) (fun _ _ _ h => read_entry h) h
end

section
variable {H : Type} {enc : TypeId × Value → H} {W W0 : World} {sp : Nat → Bool} {r : Reach} {b0 : Nat} {v : Value} {d : DataW H} {ps : List MemPlace}
set_option maxRecDepth 10000 in
theorem open_bytes (hval : Value.okWide Tryz.prog W0 r b0 25 v) (h : DataW.Trod enc Tryz.prog W 0 sp true 25 v d ps) : ∃ l, Sl false W (fun k => k < W.heap.size) 1 ByteC v l := by
  obtain ⟨a0, n0, c0, rfl⟩ := okWide_slice Tryz.underlying25 hval
  obtain ⟨fuel, h⟩ := h
  obtain ⟨v, l, hv, hl⟩ := read_bytes h
  have : Value.slice a0 n0 c0 = v := by simpa [Value.cells] using hv
  rw [this]
  exact ⟨l, hl⟩
set_option maxRecDepth 10000 in
theorem open_entries (hval : Value.okWide Tryz.prog W0 r b0 22 v) (h : DataW.Trod enc Tryz.prog W 0 sp true 22 v d ps) : ∃ l, Es false W (fun k => k < W.heap.size) v l := by
  obtain ⟨a0, n0, c0, rfl⟩ := okWide_slice Tryz.underlying22 hval
  obtain ⟨fuel, h⟩ := h
  obtain ⟨v, l, hv, hl⟩ := read_entries h
  have : Value.slice a0 n0 c0 = v := by simpa [Value.cells] using hv
  rw [this]
  exact ⟨l, hl⟩
end
end Go.Proofs.YtchkikmmcmjcgaaGreat

/- Arguments, read: a digest, an entry, sides. -/
namespace Go.Proofs.YtchkikmmcmjcgaaGreat
set_option linter.unusedSimpArgs false
set_option linter.unusedVariables false
set_option linter.unnecessarySimpa false
set_option linter.unusedSectionVars false
open Go.ChangeShapes Go.WideShapes Go.ChangeAt Go.RowKit

section
variable {H : Type} {enc : TypeId × Value → H} {W : World} {sp : Nat → Bool} {held : Bool} {fuel : Nat} {cs : List Value} {x : DataW H × List MemPlace}
theorem read_id (h : DataW.trod enc Tryz.prog W 0 sp held fuel 24 cs = some x) : ∃ i : List UInt8, i.length = 32 ∧ cs = i.map byteV := by
  obtain ⟨xs, m, _, _, hl, hx, hf⟩ := DataW.trod_array Tryz.underlying24 h
  have hc : Tryz.prog.cellsOf 24 = 32 := by kernel_rfl
  have h5 : Tryz.prog.cellsOf 5 = 1 := by kernel_rfl
  rw [hc] at hl
  have hall : ∀ i, i < 32 → ∃ b, cs[i]? = some (byteV b) := by
    intro i hi
    have h1 := hf i hi
    rw [List.getElem?_eq_getElem (by omega)] at h1
    obtain ⟨b, hb⟩ := read_u8 h1
    rw [h5, Nat.mul_one] at hb
    refine ⟨b, ?_⟩
    have := congrArg (fun l => l[0]?) hb
    simpa using this
  obtain ⟨l, hl', hq⟩ := list_of_all hall
  refine ⟨l, hl', List.ext_getElem (by simp; omega) fun i h1 h2 => ?_⟩
  have := hq i (by simpa using h2)
  rw [List.getElem?_eq_getElem h1] at this
  simpa using this
theorem read_side (h : DataW.trod enc Tryz.prog W 0 sp held fuel 41 cs = some x) : ∃ s : SideL, SideC cs.toArray s := by
  obtain ⟨hl, hf⟩ := field_of_trod Tryz.underlying41 h
  have c4 : Tryz.prog.cellsOf 4 = 1 := by kernel_rfl
  have c24 : Tryz.prog.cellsOf 24 = 32 := by kernel_rfl
  have hc : Tryz.prog.cellsOf 41 = 33 := by kernel_rfl
  obtain ⟨_, _, h0⟩ : ∃ n y, DataW.trod enc Tryz.prog W 0 sp held n 4 ((cs.drop 0).take (Tryz.prog.cellsOf 4)) = some y := hf 0 _ rfl
  obtain ⟨_, _, h1⟩ : ∃ n y, DataW.trod enc Tryz.prog W 0 sp held n 24 ((cs.drop 1).take (Tryz.prog.cellsOf 24)) = some y := hf 1 _ rfl
  obtain ⟨b, e0, _⟩ := DataW.trod_bool Tryz.underlying4 h0
  obtain ⟨i, hi, e1⟩ := read_id h1
  rw [hc] at hl
  rw [c4] at e0
  rw [c24] at e1
  refine ⟨(b, i), ?_, hi⟩
  have := drop_step cs 0 1
  rw [e0, drop_step cs (0 + 1) 32, e1, show 0 + 1 + 32 = 33 from rfl, List.drop_of_length_le (i := 33) (by omega), List.drop_zero] at this
  rw [this]
  simp [sideCells, sideEnc, fit32_eq hi]
theorem read_sides (h : DataW.trod enc Tryz.prog W 0 sp held fuel 28 cs = some x) : ∃ v l, cs = [v] ∧ Ss false W (fun k => k < W.heap.size) v l :=
  sl_of_trod Tryz.underlying28 (by kernel_rfl) (by decide) (fun _ _ _ h => read_side h) h
end
section
variable {H : Type} {enc : TypeId × Value → H} {W W0 : World} {sp : Nat → Bool} {r : Reach} {b0 : Nat} {v : Value} {d : DataW H} {ps : List MemPlace}
set_option maxRecDepth 10000 in
theorem open_sides (hval : Value.okWide Tryz.prog W0 r b0 28 v) (h : DataW.Trod enc Tryz.prog W 0 sp true 28 v d ps) : ∃ l, Ss false W (fun k => k < W.heap.size) v l := by
  obtain ⟨a0, n0, c0, rfl⟩ := okWide_slice Tryz.underlying28 hval
  obtain ⟨fuel, h⟩ := h
  obtain ⟨v, l, hv, hl⟩ := read_sides h
  have : Value.slice a0 n0 c0 = v := by simpa [Value.cells] using hv
  rw [this]
  exact ⟨l, hl⟩
set_option maxRecDepth 10000 in
theorem open_id (hval : Value.okWide Tryz.prog W0 r b0 24 v) (h : DataW.Trod enc Tryz.prog W 0 sp true 24 v d ps) : ∃ i : List UInt8, v = .agg (idCells i) ∧ i.length = 32 := by
  obtain ⟨cs, rfl, _⟩ := okWide_array Tryz.underlying24 hval
  obtain ⟨fuel, h⟩ := h
  obtain ⟨i, hi, hc⟩ := read_id h
  refine ⟨i, ?_, hi⟩
  congr 1
  have hc' : cs.toList = i.map byteV := hc
  rw [← Array.toArray_toList (xs := cs), hc']
  rfl
set_option maxRecDepth 10000 in
theorem open_entry (hval : Value.okWide Tryz.prog W0 r b0 27 v) (h : DataW.Trod enc Tryz.prog W 0 sp true 27 v d ps) : ∃ cs e, v = .agg cs ∧ EntC W (fun k => k < W.heap.size) cs e := by
  obtain ⟨cs, rfl, _⟩ := okWide_struct Tryz.underlying27 hval
  obtain ⟨fuel, h⟩ := h
  obtain ⟨l, hl⟩ := read_entry h
  exact ⟨cs, l, rfl, hl⟩
end
end Go.Proofs.YtchkikmmcmjcgaaGreat
