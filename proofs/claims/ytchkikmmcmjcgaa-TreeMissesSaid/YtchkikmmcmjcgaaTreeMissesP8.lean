/- What the statement TreeMisses needs, part 8. -/
import Derived.Test.YtchkikmmcmjcgaaTreeMissesP7
/- The walk of collides: a path put together by sha alone. (Printed by ColA.gen.py.) -/
namespace Go.Proofs.Ytchkikmmcmjcgaa
set_option linter.unusedSimpArgs false
set_option linter.unusedVariables false
set_option linter.unnecessarySimpa false
set_option linter.unusedSectionVars false
open Go.RowKit Go.Shelf


theorem wp_allocAt {P : Program} {o : Oper} {a : Act} {w : World} {K : Act → World → Prop} {Q : Exit → Act → World → Prop} (elem : TypeId) (z : Value) (ho : o.op = .alloc elem) (hz : (P.info? elem).bind (·.zero) = some z)
    (h : ∀ b w', b = w.heap.size → w'.heap[b]? = some (.cells z.cells elem (0, 0)) → Mod NoB w w' → b < w'.heap.size → K (a.put o.dst (.pointer (some ⟨b, 0, none⟩))) w') : o.wp P a w K Q :=
  wp_alloc elem z ho hz (fun w' h1 h2 h3 => h _ w' rfl h1 h2 h3)
theorem wp_byteAt {o : Oper} {a : Act} {w : World} {K : Act → World → Prop} {Q : Exit → Act → World → Prop} (x : Operand) (c : UInt8) (ho : o.op = .buildSlice 33 1 #[(0, x)]) (hx : a.eval x = byteV c) (base : Nat) (hb : base ≤ w.heap.size)
    (h : ∀ v w', v.ownBlock = some w.heap.size → Bts base w' v [c] → Mod NoB w w' → K (a.put o.dst v) w') : o.wp Try.prog a w K Q :=
  wp_buildSlice1 33 5 x (byteV c) (.int .u8 0) 1 ho hx Try.underlying33 (by kernel_rfl) (by omega) (by omega) rfl (fun w' h1 h2 _ => h _ w' rfl (owns_base (owns_lit h1) hb) h2)
theorem bts_ne {base b : Nat} {w : World} {v : Value} {xs : List UInt8} {cs : Array Value} {T : TypeId} (hg : Bts base w v xs) (hb : w.heap[b]? = some (.cells cs T (0, 0))) (hT : T ≠ 5) : v.ownBlock ≠ some b := by
  intro e
  rcases hg.2 with ⟨rfl, h0⟩ | ⟨g, cap, cur, rfl, -, hg', -⟩
  · cases e
  · cases e
    rw [hg'] at hb
    cases hb
    exact hT rfl
theorem row_lt {w : World} {b : Nat} {o : Obj} (h : w.heap[b]? = some o) : b < w.heap.size := (Array.getElem?_eq_some_iff.1 h).1
theorem id_slice {w : World} {b : Nat} {x : List UInt8} (h : w.heap[b]? = some (.cells (idCells x) 38 (0, 0))) (hx : x.length = 32) : Sl false w (fun _ => True) 1 ByteC (.slice (some ⟨b, 0, none⟩) 32 32) x := by
  have := sl_of_cells (CellsAt.whole h) (by omega)
  rwa [hx] at this
theorem one_is (e : Ent) : shaL ([1] ++ shaL e.1.data.toList ++ shaL e.2) = oneD (leafOf e) := by rw [List.append_assoc]; rfl
theorem two_is (x y : List UInt8) : shaL ([2] ++ x ++ y) = twoD x y := by rw [List.append_assoc]; rfl
set_option maxRecDepth 10000 in
set_option maxHeartbeats 1000000 in
theorem collides_any {own o2 : Bool} {w : World} {G G' : Nat → Prop} {vv vp : Value} {vs : List UInt8} {ps : List SideL} (root : List UInt8) (hroot : root.length = 32) (key : ByteArray) (hv : Sl o2 w G 1 ByteC vv vs) (h1 : key.size ≤ 1000000) (h2 : vs.length ≤ 1000000) (hp : Ss own w G' vp ps) :
    Calls Try.prog 24 #[.agg (idCells root), .string key, vv, vp] w (RetM (.bool (decide (ps.foldl climb (oneD (leafOf (key, vs))) = root))) w) := by
  have HP := Lib.hid hp
  have HV := Lib.hid hv
  obtain ⟨ap, cp, rfl, hpl, -⟩ := Sl.at hp
  have hrs : (idCells root).size = 32 := by rw [idCells_size, hroot]
  have h1' : key.data.toList.length = key.size := by rw [Array.length_toList]; rfl
  obtain ⟨C, hC⟩ : ∃ C, idCells root = C := ⟨_, rfl⟩
  have HC := Lib.hid hC
  rw [hC] at hrs ⊢
  clear hC hp hv
  go_enter Try.func24, Try.ntmps24
  go_upto_region 0 with (fail)
  refine wp_region_seq [1, 3] (fun _ => True) (by rfl) (by rfl) trivial ?_
  simp only [List.zip_cons_cons, List.zip_nil_right]
  refine wpPi_do rfl (fun K hK => ?_)
  refine wp_box 38 _ _ (by rfl) (by rfl) (fun w1 hB1 hm1 hs1 => ?_)
  replace hB1 : w1.heap[w.heap.size]? = some (.cells C 38 (0, 0)) := hB1
  refine hK _ _ trivial ?_
  clear hK K
  try simp only [pl, pn, el, ec, sz, ss, gz, gs, if_true, if_false, Bool.false_eq_true, Bool.not_true, Bool.not_false, Nat.add_zero, Nat.zero_add, Nat.reduceAdd]
  refine wpPi_assign _ rfl rfl ?_
  simp only [pl, pn, el, ec, sz, ss, gz, gs, if_true, if_false, Bool.false_eq_true, Bool.not_true, Bool.not_false, Nat.add_zero, Nat.zero_add, Nat.reduceAdd]
  refine wpPi_nil ?_
  go_upto_region 1 with (fail)
  have hk32 : (shaL key.data.toList).length = 32 := shaL_len _
  have hv32 : (shaL vs).length = 32 := shaL_len _
  have hkr : (idCells (shaL key.data.toList)).size = 32 := by rw [idCells_size, hk32]
  have hvr : (idCells (shaL vs)).size = 32 := by rw [idCells_size, hv32]
  obtain ⟨kd, hkd⟩ : ∃ x, shaL key.data.toList = x := ⟨_, rfl⟩
  obtain ⟨vd, hvd⟩ : ∃ x, shaL vs = x := ⟨_, rfl⟩
  refine wp_region_seq [3, 1, 1, 3, 1, 1, 1, 1, 1] (fun _ => True) (by rfl) (by rfl) trivial ?_
  simp only [List.zip_cons_cons, List.zip_nil_right]
  refine wpPi_move _ rfl rfl ?_
  simp only [pl, pn, el, ec, sz, ss, gz, gs, if_true, if_false, Bool.false_eq_true, Bool.not_true, Bool.not_false, Nat.add_zero, Nat.zero_add, Nat.reduceAdd]
  refine wpPi_do rfl (fun K hK => ?_)
  refine wp_bytesOf 9 33 5 _ key (by rfl) (by rfl) Try.underlying9 Try.underlying33 Try.underlying5 (by unfold maxLen; omega) (fun v2 w2 hs2 hm2 => ?_)
  refine hK _ _ trivial ?_
  clear hK K
  try simp only [pl, pn, el, ec, sz, ss, gz, gs, if_true, if_false, Bool.false_eq_true, Bool.not_true, Bool.not_false, Nat.add_zero, Nat.zero_add, Nat.reduceAdd]
  refine wpPi_do rfl (fun K hK => ?_)
  refine wp_enterQ (run_call 23 [.tmp 16] _ rfl _ Try.func23 rfl (by kernel_rfl) [v2] rfl _) (shaSum_any hs2 (by omega)) ?_
  rintro e w3 ⟨rfl, hm3⟩
  have hM3 := (hm1.trans0 hm2).trans0 hm3
  rw [hkd]
  refine ⟨_, rfl, hK _ _ trivial ?_⟩
  clear hK K
  try simp only [pl, pn, el, ec, sz, ss, gz, gs, if_true, if_false, Bool.false_eq_true, Bool.not_true, Bool.not_false, Nat.add_zero, Nat.zero_add, Nat.reduceAdd]
  refine wpPi_move _ rfl rfl ?_
  simp only [pl, pn, el, ec, sz, ss, gz, gs, if_true, if_false, Bool.false_eq_true, Bool.not_true, Bool.not_false, Nat.add_zero, Nat.zero_add, Nat.reduceAdd]
  refine wpPi_do rfl (fun K hK => ?_)
  refine wp_enterQ (run_call 23 [.tmp 18] _ rfl _ Try.func23 rfl (by kernel_rfl) [vv] rfl _) (shaSum_any (HV.out.keep0 hM3) (by omega)) ?_
  rintro e w4 ⟨rfl, hm4⟩
  have hM4 := hM3.trans0 hm4
  rw [hvd]
  refine ⟨_, rfl, hK _ _ trivial ?_⟩
  clear hK K
  try simp only [pl, pn, el, ec, sz, ss, gz, gs, if_true, if_false, Bool.false_eq_true, Bool.not_true, Bool.not_false, Nat.add_zero, Nat.zero_add, Nat.reduceAdd]
  refine wpPi_do rfl (fun K hK => ?_)
  refine wp_alloc 38 _ (by rfl) idZ (fun w5 hB5 hm5 hs5 => ?_)
  replace hB5 : w5.heap[w4.heap.size]? = some (.cells (idCells (List.replicate 32 0)) 38 (0, 0)) := hB5
  refine hK _ _ trivial ?_
  clear hK K
  try simp only [pl, pn, el, ec, sz, ss, gz, gs, if_true, if_false, Bool.false_eq_true, Bool.not_true, Bool.not_false, Nat.add_zero, Nat.zero_add, Nat.reduceAdd]
  refine wpPi_do rfl (fun K hK => ?_)
  refine wp_alloc 38 _ (by rfl) idZ (fun w6 hB6 hm6 hs6 => ?_)
  replace hB6 : w6.heap[w5.heap.size]? = some (.cells (idCells (List.replicate 32 0)) 38 (0, 0)) := hB6
  replace hB5 := hm6.obj id hB5
  refine hK _ _ trivial ?_
  clear hK K
  try simp only [pl, pn, el, ec, sz, ss, gz, gs, if_true, if_false, Bool.false_eq_true, Bool.not_true, Bool.not_false, Nat.add_zero, Nat.zero_add, Nat.reduceAdd]
  refine wpPi_do rfl (fun K hK => ?_)
  rw [hkd] at hkr
  refine wp_storeA 38 _ _ w4.heap.size 0 (idCells kd) (by rfl) (by rfl) (by rfl) (idCells_one _) 32 (by kernel_rfl) hkr _ _ hB5 (by rw [hkr, idCells_size]; simp) (fun w7 hB7 hm7 => ?_)
  rw [putRow_whole (by rw [hkr, idCells_size]; rfl)] at hB7
  replace hB6 := hm7.objB (by omega) hB6
  refine hK _ _ trivial ?_
  clear hK K
  try simp only [pl, pn, el, ec, sz, ss, gz, gs, if_true, if_false, Bool.false_eq_true, Bool.not_true, Bool.not_false, Nat.add_zero, Nat.zero_add, Nat.reduceAdd]
  refine wpPi_do rfl (fun K hK => ?_)
  rw [hvd] at hvr
  refine wp_storeA 38 _ _ w5.heap.size 0 (idCells vd) (by rfl) (by rfl) (by rfl) (idCells_one _) 32 (by kernel_rfl) hvr _ _ hB6 (by rw [hvr, idCells_size]; simp) (fun w8 hB8 hm8 => ?_)
  rw [putRow_whole (by rw [hvr, idCells_size]; rfl)] at hB8
  replace hB7 := hm8.objB (by omega) hB7
  refine hK _ _ trivial ?_
  clear hK K
  try simp only [pl, pn, el, ec, sz, ss, gz, gs, if_true, if_false, Bool.false_eq_true, Bool.not_true, Bool.not_false, Nat.add_zero, Nat.zero_add, Nat.reduceAdd]
  refine wpPi_nil ?_
  have hM6 := (hM4.trans0 hm5).trans0 hm6
  have hM8 : Mod NoB w w8 := (hM6.transB hm7 hM4.size).transB hm8 (by have := hM4.size; omega)
  have hq1 : Mod NoB w1 w8 := (((((hm2.trans0 hm3).trans0 hm4).trans0 hm5).trans0 hm6).transB hm7 (by have := ((hm2.trans0 hm3).trans0 hm4).size; omega)).transB hm8 (by have := ((hm2.trans0 hm3).trans0 hm4).size; omega)
  replace hB1 := hq1.obj id hB1
  rw [hkd] at hk32
  rw [hvd] at hv32
  have hsk := id_slice hB7 hk32
  have hsv := id_slice hB8 hv32
  have HKD := Lib.hid hkd
  have HVD := Lib.hid hvd
  have HP8 := Lib.hid (Sl.keep0 (Sl.inside HP.out (by omega)) hM8)
  generalize w4.heap.size = b9 at *
  generalize w5.heap.size = b10 at *
  clear hm1 hm2 hm3 hm4 hm5 hm6 hm7 hm8 hM3 hM4 hM6 hq1 hB5 hB6 hB7 hB8 hkd hvd hkr hvr
  have hws := hM8.size
  have hb1 := row_lt hB1
  have hone : shaL ([1] ++ kd ++ vd) = oneD (leafOf (key, vs)) := by rw [← HKD.out, ← HVD.out]; exact one_is (key, vs)
  have hd0 : (oneD (leafOf (key, vs))).length = 32 := shaL_len _
  obtain ⟨d0, hdd⟩ : ∃ x, oneD (leafOf (key, vs)) = x := ⟨_, rfl⟩
  rw [hdd] at hd0 hone
  have HDD := Lib.hid hdd
  have HONE := Lib.hid hone
  clear hone hdd
  go_upto_region 2 with (fail)
  go_cut [11] (fun p wx => ∃ b11, p = .pointer (some ⟨b11, 0, none⟩) ∧ w8.heap.size ≤ b11 ∧ wx.heap[b11]? = some (.cells (idCells (shaL ([1] ++ kd ++ vd))) 38 (0, 0)) ∧ Mod NoB w8 wx)
  case first =>
    have hT : Mod NoB w8 w8.drew := (Mod.refl _ _).drew
    have hS : True := trivial
    refine wp_region_tree [(1, 3), (3, 3)] 5 [(7, 1)] [] (fun _ => True) #[false, true, false, true, false, false, false, false] (by kernel_rfl) (by kernel_rfl) (by kernel_rfl) (by kernel_rfl) (by kernel_rfl) (fun _ _ _ _ hd h => ⟨hd.trans h.1, h.2⟩) hS ?_
    simp only [List.map_cons, List.map_nil, List.getD_cons_zero, List.getD_cons_succ]
    refine wpPi_sliceArr 38 5 _ _ _ 32 rfl rfl rfl Try.underlying38 (by kernel_rfl) ?_
    simp only [pl, pn, el, ec, sz, ss, gz, gs, if_true, if_false, Bool.false_eq_true, Bool.not_true, Bool.not_false, Nat.add_zero, Nat.zero_add, Nat.reduceAdd]
    refine wpPi_sliceArr 38 5 _ _ _ 32 rfl rfl rfl Try.underlying38 (by kernel_rfl) ?_
    simp only [pl, pn, el, ec, sz, ss, gz, gs, if_true, if_false, Bool.false_eq_true, Bool.not_true, Bool.not_false, Nat.add_zero, Nat.zero_add, Nat.reduceAdd]
    refine wpPi_nil ?_
    refine wpTree_part [0, 6] (by kernel_rfl) ?_
    simp only [List.forall_mem_cons, List.not_mem_nil, false_implies, implies_true, and_true]
    refine ⟨?_, ?_⟩
    · intro K hK
      simp only [List.getElem?_toArray, Array.getD_eq_getD_getElem?, List.getElem?_cons_succ, List.getElem?_cons_zero, Option.getD_some]
      refine wp_byteAt _ 1 (by rfl) (by rfl) w8.heap.size hT.size (fun v20 wa hob hbt hma => ?_)
      try replace hBq := hma.obj id hBq
      replace hT := hT.trans0 hma
      clear hma
      refine hK _ _ trivial ?_
      clear hK K
      try simp only [pl, pn, el, ec, sz, ss, gz, gs, if_true, if_false, Bool.false_eq_true, Bool.not_true, Bool.not_false, Nat.add_zero, Nat.zero_add, Nat.reduceAdd]
      refine wpTree_part [2, 6] (by kernel_rfl) ?_
      simp only [List.forall_mem_cons, List.not_mem_nil, false_implies, implies_true, and_true]
      refine ⟨?_, ?_⟩
      · intro K hK
        simp only [List.getElem?_toArray, Array.getD_eq_getD_getElem?, List.getElem?_cons_succ, List.getElem?_cons_zero, Option.getD_some]
        refine wp_bytes _ _ (by rfl) w8.heap.size _ [1] (by rfl) hbt _ kd (by rfl) (by have := (hsk.keep0 hT).bsrc; rwa [hk32] at this ⊢) (by rw [hk32]; simp) hT.size (fun v22 wb hbu hmb => ?_)
        try replace hBq := hmb.obj (bts_ne hbt hBq (by decide)) hBq
        replace hT : Mod NoB w8 wb := hT.trans hmb (fun k hk e => by have := (hbt.lt e).1; omega)
        clear hmb
        refine hK _ _ trivial ?_
        clear hK K
        try simp only [pl, pn, el, ec, sz, ss, gz, gs, if_true, if_false, Bool.false_eq_true, Bool.not_true, Bool.not_false, Nat.add_zero, Nat.zero_add, Nat.reduceAdd]
        refine wpTree_part [4, 6] (by kernel_rfl) ?_
        simp only [List.forall_mem_cons, List.not_mem_nil, false_implies, implies_true, and_true]
        refine ⟨?_, ?_⟩
        · intro K hK
          simp only [List.getElem?_toArray, Array.getD_eq_getD_getElem?, List.getElem?_cons_succ, List.getElem?_cons_zero, Option.getD_some]
          refine wp_bytes _ _ (by rfl) w8.heap.size _ _ (by rfl) hbu _ vd (by rfl) (by have := (hsv.keep0 hT).bsrc; rwa [hv32] at this ⊢) (by rw [hv32, List.length_append, hk32]; simp) hT.size (fun v24 wc hbx hmc => ?_)
          try replace hBq := hmc.obj (bts_ne hbu hBq (by decide)) hBq
          replace hT : Mod NoB w8 wc := hT.trans hmc (fun k hk e => by have := (hbu.lt e).1; omega)
          clear hmc
          refine hK _ _ trivial ?_
          clear hK K
          try simp only [pl, pn, el, ec, sz, ss, gz, gs, if_true, if_false, Bool.false_eq_true, Bool.not_true, Bool.not_false, Nat.add_zero, Nat.zero_add, Nat.reduceAdd]
          refine wpTree_part [5, 6] (by kernel_rfl) ?_
          simp only [List.forall_mem_cons, List.not_mem_nil, false_implies, implies_true, and_true]
          refine ⟨?_, ?_⟩
          · intro K hK
            simp only [List.getElem?_toArray, Array.getD_eq_getD_getElem?, List.getElem?_cons_succ, List.getElem?_cons_zero, Option.getD_some]
            refine wp_enterQ (run_call 23 [.tmp 24] _ rfl _ Try.func23 rfl (by kernel_rfl) [v24] rfl _) (shaSum_any hbx.sl (by rw [List.length_append, List.length_append, hk32, hv32]; simp)) ?_
            rintro e wd ⟨rfl, hmd⟩
            try replace hBq := hmd.obj id hBq
            replace hT := hT.trans0 hmd
            clear hmd
            refine ⟨_, rfl, hK _ _ trivial ?_⟩
            clear hK K
            try simp only [pl, pn, el, ec, sz, ss, gz, gs, if_true, if_false, Bool.false_eq_true, Bool.not_true, Bool.not_false, Nat.add_zero, Nat.zero_add, Nat.reduceAdd]
            refine wpTree_part [6] (by kernel_rfl) ?_
            simp only [List.forall_mem_cons, List.not_mem_nil, false_implies, implies_true, and_true]
            intro K hK
            simp only [List.getElem?_toArray, Array.getD_eq_getD_getElem?, List.getElem?_cons_succ, List.getElem?_cons_zero, Option.getD_some]
            refine wp_allocAt 38 _ (by rfl) idZ (fun b11 wq hbq hBq hmq hsq => ?_)
            replace hBq : wq.heap[b11]? = some (.cells (idCells (List.replicate 32 0)) 38 (0, 0)) := hBq
            have hb8 : w8.heap.size ≤ b11 := by have := hT.size; omega
            clear hbq
            try replace hbt := hbt.keep hmq (fun _ _ => id)
            try replace hbu := hbu.keep hmq (fun _ _ => id)
            try replace hbx := hbx.keep hmq (fun _ _ => id)
            replace hT := hT.trans0 hmq
            clear hmq hsq
            refine hK _ _ trivial ?_
            clear hK K
            try simp only [pl, pn, el, ec, sz, ss, gz, gs, if_true, if_false, Bool.false_eq_true, Bool.not_true, Bool.not_false, Nat.add_zero, Nat.zero_add, Nat.reduceAdd]
            refine wpTree_done ?_
            try simp only [List.map_cons, List.map_nil, List.getD_cons_zero, List.getD_cons_succ]
            try simp only [pl, pn, el, ec, sz, ss, gz, gs, if_true, if_false, Bool.false_eq_true, Bool.not_true, Bool.not_false, Nat.add_zero, Nat.zero_add, Nat.reduceAdd]
            refine wpPi_do rfl (fun K hK => ?_)
            have hrr : (idCells (shaL ([1] ++ kd ++ vd))).size = 32 := by rw [idCells_size]; exact shaL_len _
            refine wp_storeA 38 _ _ b11 0 (idCells (shaL ([1] ++ kd ++ vd))) (by rfl) (by rfl) (by rfl) (idCells_one _) 32 (by kernel_rfl) hrr _ _ hBq (by rw [hrr, idCells_size]; simp) (fun w9 hB9 hm9 => ?_)
            rw [putRow_whole (by rw [hrr, idCells_size]; rfl)] at hB9
            have hM9 : Mod NoB w8 w9 := hT.transB hm9 hb8
            clear hm9 hBq hT
            refine hK _ _ trivial ?_
            clear hK K
            try simp only [pl, pn, el, ec, sz, ss, gz, gs, if_true, if_false, Bool.false_eq_true, Bool.not_true, Bool.not_false, Nat.add_zero, Nat.zero_add, Nat.reduceAdd]
            refine wpPi_nil ?_
            go_wp2
            go_meet
            case rel => exact ⟨b11, rfl, hb8, hB9, hM9⟩
          · intro K hK
            simp only [List.getElem?_toArray, Array.getD_eq_getD_getElem?, List.getElem?_cons_succ, List.getElem?_cons_zero, Option.getD_some]
            refine wp_allocAt 38 _ (by rfl) idZ (fun b11 wq hbq hBq hmq hsq => ?_)
            replace hBq : wq.heap[b11]? = some (.cells (idCells (List.replicate 32 0)) 38 (0, 0)) := hBq
            have hb8 : w8.heap.size ≤ b11 := by have := hT.size; omega
            clear hbq
            try replace hbt := hbt.keep hmq (fun _ _ => id)
            try replace hbu := hbu.keep hmq (fun _ _ => id)
            try replace hbx := hbx.keep hmq (fun _ _ => id)
            replace hT := hT.trans0 hmq
            clear hmq hsq
            refine hK _ _ trivial ?_
            clear hK K
            try simp only [pl, pn, el, ec, sz, ss, gz, gs, if_true, if_false, Bool.false_eq_true, Bool.not_true, Bool.not_false, Nat.add_zero, Nat.zero_add, Nat.reduceAdd]
            refine wpTree_part [5] (by kernel_rfl) ?_
            simp only [List.forall_mem_cons, List.not_mem_nil, false_implies, implies_true, and_true]
            intro K hK
            simp only [List.getElem?_toArray, Array.getD_eq_getD_getElem?, List.getElem?_cons_succ, List.getElem?_cons_zero, Option.getD_some]
            refine wp_enterQ (run_call 23 [.tmp 24] _ rfl _ Try.func23 rfl (by kernel_rfl) [v24] rfl _) (shaSum_any hbx.sl (by rw [List.length_append, List.length_append, hk32, hv32]; simp)) ?_
            rintro e wd ⟨rfl, hmd⟩
            try replace hBq := hmd.obj id hBq
            replace hT := hT.trans0 hmd
            clear hmd
            refine ⟨_, rfl, hK _ _ trivial ?_⟩
            clear hK K
            try simp only [pl, pn, el, ec, sz, ss, gz, gs, if_true, if_false, Bool.false_eq_true, Bool.not_true, Bool.not_false, Nat.add_zero, Nat.zero_add, Nat.reduceAdd]
            refine wpTree_done ?_
            try simp only [List.map_cons, List.map_nil, List.getD_cons_zero, List.getD_cons_succ]
            try simp only [pl, pn, el, ec, sz, ss, gz, gs, if_true, if_false, Bool.false_eq_true, Bool.not_true, Bool.not_false, Nat.add_zero, Nat.zero_add, Nat.reduceAdd]
            refine wpPi_do rfl (fun K hK => ?_)
            have hrr : (idCells (shaL ([1] ++ kd ++ vd))).size = 32 := by rw [idCells_size]; exact shaL_len _
            refine wp_storeA 38 _ _ b11 0 (idCells (shaL ([1] ++ kd ++ vd))) (by rfl) (by rfl) (by rfl) (idCells_one _) 32 (by kernel_rfl) hrr _ _ hBq (by rw [hrr, idCells_size]; simp) (fun w9 hB9 hm9 => ?_)
            rw [putRow_whole (by rw [hrr, idCells_size]; rfl)] at hB9
            have hM9 : Mod NoB w8 w9 := hT.transB hm9 hb8
            clear hm9 hBq hT
            refine hK _ _ trivial ?_
            clear hK K
            try simp only [pl, pn, el, ec, sz, ss, gz, gs, if_true, if_false, Bool.false_eq_true, Bool.not_true, Bool.not_false, Nat.add_zero, Nat.zero_add, Nat.reduceAdd]
            refine wpPi_nil ?_
            go_wp2
            go_meet
            case rel => exact ⟨b11, rfl, hb8, hB9, hM9⟩
        · intro K hK
          simp only [List.getElem?_toArray, Array.getD_eq_getD_getElem?, List.getElem?_cons_succ, List.getElem?_cons_zero, Option.getD_some]
          refine wp_allocAt 38 _ (by rfl) idZ (fun b11 wq hbq hBq hmq hsq => ?_)
          replace hBq : wq.heap[b11]? = some (.cells (idCells (List.replicate 32 0)) 38 (0, 0)) := hBq
          have hb8 : w8.heap.size ≤ b11 := by have := hT.size; omega
          clear hbq
          try replace hbt := hbt.keep hmq (fun _ _ => id)
          try replace hbu := hbu.keep hmq (fun _ _ => id)
          try replace hbx := hbx.keep hmq (fun _ _ => id)
          replace hT := hT.trans0 hmq
          clear hmq hsq
          refine hK _ _ trivial ?_
          clear hK K
          try simp only [pl, pn, el, ec, sz, ss, gz, gs, if_true, if_false, Bool.false_eq_true, Bool.not_true, Bool.not_false, Nat.add_zero, Nat.zero_add, Nat.reduceAdd]
          refine wpTree_part [4] (by kernel_rfl) ?_
          simp only [List.forall_mem_cons, List.not_mem_nil, false_implies, implies_true, and_true]
          intro K hK
          simp only [List.getElem?_toArray, Array.getD_eq_getD_getElem?, List.getElem?_cons_succ, List.getElem?_cons_zero, Option.getD_some]
          refine wp_bytes _ _ (by rfl) w8.heap.size _ _ (by rfl) hbu _ vd (by rfl) (by have := (hsv.keep0 hT).bsrc; rwa [hv32] at this ⊢) (by rw [hv32, List.length_append, hk32]; simp) hT.size (fun v24 wc hbx hmc => ?_)
          try replace hBq := hmc.obj (bts_ne hbu hBq (by decide)) hBq
          replace hT : Mod NoB w8 wc := hT.trans hmc (fun k hk e => by have := (hbu.lt e).1; omega)
          clear hmc
          refine hK _ _ trivial ?_
          clear hK K
          try simp only [pl, pn, el, ec, sz, ss, gz, gs, if_true, if_false, Bool.false_eq_true, Bool.not_true, Bool.not_false, Nat.add_zero, Nat.zero_add, Nat.reduceAdd]
          refine wpTree_part [5] (by kernel_rfl) ?_
          simp only [List.forall_mem_cons, List.not_mem_nil, false_implies, implies_true, and_true]
          intro K hK
          simp only [List.getElem?_toArray, Array.getD_eq_getD_getElem?, List.getElem?_cons_succ, List.getElem?_cons_zero, Option.getD_some]
          refine wp_enterQ (run_call 23 [.tmp 24] _ rfl _ Try.func23 rfl (by kernel_rfl) [v24] rfl _) (shaSum_any hbx.sl (by rw [List.length_append, List.length_append, hk32, hv32]; simp)) ?_
          rintro e wd ⟨rfl, hmd⟩
          try replace hBq := hmd.obj id hBq
          replace hT := hT.trans0 hmd
          clear hmd
          refine ⟨_, rfl, hK _ _ trivial ?_⟩
          clear hK K
          try simp only [pl, pn, el, ec, sz, ss, gz, gs, if_true, if_false, Bool.false_eq_true, Bool.not_true, Bool.not_false, Nat.add_zero, Nat.zero_add, Nat.reduceAdd]
          refine wpTree_done ?_
          try simp only [List.map_cons, List.map_nil, List.getD_cons_zero, List.getD_cons_succ]
          try simp only [pl, pn, el, ec, sz, ss, gz, gs, if_true, if_false, Bool.false_eq_true, Bool.not_true, Bool.not_false, Nat.add_zero, Nat.zero_add, Nat.reduceAdd]
          refine wpPi_do rfl (fun K hK => ?_)
          have hrr : (idCells (shaL ([1] ++ kd ++ vd))).size = 32 := by rw [idCells_size]; exact shaL_len _
          refine wp_storeA 38 _ _ b11 0 (idCells (shaL ([1] ++ kd ++ vd))) (by rfl) (by rfl) (by rfl) (idCells_one _) 32 (by kernel_rfl) hrr _ _ hBq (by rw [hrr, idCells_size]; simp) (fun w9 hB9 hm9 => ?_)
          rw [putRow_whole (by rw [hrr, idCells_size]; rfl)] at hB9
          have hM9 : Mod NoB w8 w9 := hT.transB hm9 hb8
          clear hm9 hBq hT
          refine hK _ _ trivial ?_
          clear hK K
          try simp only [pl, pn, el, ec, sz, ss, gz, gs, if_true, if_false, Bool.false_eq_true, Bool.not_true, Bool.not_false, Nat.add_zero, Nat.zero_add, Nat.reduceAdd]
          refine wpPi_nil ?_
          go_wp2
          go_meet
          case rel => exact ⟨b11, rfl, hb8, hB9, hM9⟩
      · intro K hK
        simp only [List.getElem?_toArray, Array.getD_eq_getD_getElem?, List.getElem?_cons_succ, List.getElem?_cons_zero, Option.getD_some]
        refine wp_allocAt 38 _ (by rfl) idZ (fun b11 wq hbq hBq hmq hsq => ?_)
        replace hBq : wq.heap[b11]? = some (.cells (idCells (List.replicate 32 0)) 38 (0, 0)) := hBq
        have hb8 : w8.heap.size ≤ b11 := by have := hT.size; omega
        clear hbq
        try replace hbt := hbt.keep hmq (fun _ _ => id)
        try replace hbu := hbu.keep hmq (fun _ _ => id)
        try replace hbx := hbx.keep hmq (fun _ _ => id)
        replace hT := hT.trans0 hmq
        clear hmq hsq
        refine hK _ _ trivial ?_
        clear hK K
        try simp only [pl, pn, el, ec, sz, ss, gz, gs, if_true, if_false, Bool.false_eq_true, Bool.not_true, Bool.not_false, Nat.add_zero, Nat.zero_add, Nat.reduceAdd]
        refine wpTree_part [2] (by kernel_rfl) ?_
        simp only [List.forall_mem_cons, List.not_mem_nil, false_implies, implies_true, and_true]
        intro K hK
        simp only [List.getElem?_toArray, Array.getD_eq_getD_getElem?, List.getElem?_cons_succ, List.getElem?_cons_zero, Option.getD_some]
        refine wp_bytes _ _ (by rfl) w8.heap.size _ [1] (by rfl) hbt _ kd (by rfl) (by have := (hsk.keep0 hT).bsrc; rwa [hk32] at this ⊢) (by rw [hk32]; simp) hT.size (fun v22 wb hbu hmb => ?_)
        try replace hBq := hmb.obj (bts_ne hbt hBq (by decide)) hBq
        replace hT : Mod NoB w8 wb := hT.trans hmb (fun k hk e => by have := (hbt.lt e).1; omega)
        clear hmb
        refine hK _ _ trivial ?_
        clear hK K
        try simp only [pl, pn, el, ec, sz, ss, gz, gs, if_true, if_false, Bool.false_eq_true, Bool.not_true, Bool.not_false, Nat.add_zero, Nat.zero_add, Nat.reduceAdd]
        refine wpTree_part [4] (by kernel_rfl) ?_
        simp only [List.forall_mem_cons, List.not_mem_nil, false_implies, implies_true, and_true]
        intro K hK
        simp only [List.getElem?_toArray, Array.getD_eq_getD_getElem?, List.getElem?_cons_succ, List.getElem?_cons_zero, Option.getD_some]
        refine wp_bytes _ _ (by rfl) w8.heap.size _ _ (by rfl) hbu _ vd (by rfl) (by have := (hsv.keep0 hT).bsrc; rwa [hv32] at this ⊢) (by rw [hv32, List.length_append, hk32]; simp) hT.size (fun v24 wc hbx hmc => ?_)
        try replace hBq := hmc.obj (bts_ne hbu hBq (by decide)) hBq
        replace hT : Mod NoB w8 wc := hT.trans hmc (fun k hk e => by have := (hbu.lt e).1; omega)
        clear hmc
        refine hK _ _ trivial ?_
        clear hK K
        try simp only [pl, pn, el, ec, sz, ss, gz, gs, if_true, if_false, Bool.false_eq_true, Bool.not_true, Bool.not_false, Nat.add_zero, Nat.zero_add, Nat.reduceAdd]
        refine wpTree_part [5] (by kernel_rfl) ?_
        simp only [List.forall_mem_cons, List.not_mem_nil, false_implies, implies_true, and_true]
        intro K hK
        simp only [List.getElem?_toArray, Array.getD_eq_getD_getElem?, List.getElem?_cons_succ, List.getElem?_cons_zero, Option.getD_some]
        refine wp_enterQ (run_call 23 [.tmp 24] _ rfl _ Try.func23 rfl (by kernel_rfl) [v24] rfl _) (shaSum_any hbx.sl (by rw [List.length_append, List.length_append, hk32, hv32]; simp)) ?_
        rintro e wd ⟨rfl, hmd⟩
        try replace hBq := hmd.obj id hBq
        replace hT := hT.trans0 hmd
        clear hmd
        refine ⟨_, rfl, hK _ _ trivial ?_⟩
        clear hK K
        try simp only [pl, pn, el, ec, sz, ss, gz, gs, if_true, if_false, Bool.false_eq_true, Bool.not_true, Bool.not_false, Nat.add_zero, Nat.zero_add, Nat.reduceAdd]
        refine wpTree_done ?_
        try simp only [List.map_cons, List.map_nil, List.getD_cons_zero, List.getD_cons_succ]
        try simp only [pl, pn, el, ec, sz, ss, gz, gs, if_true, if_false, Bool.false_eq_true, Bool.not_true, Bool.not_false, Nat.add_zero, Nat.zero_add, Nat.reduceAdd]
        refine wpPi_do rfl (fun K hK => ?_)
        have hrr : (idCells (shaL ([1] ++ kd ++ vd))).size = 32 := by rw [idCells_size]; exact shaL_len _
        refine wp_storeA 38 _ _ b11 0 (idCells (shaL ([1] ++ kd ++ vd))) (by rfl) (by rfl) (by rfl) (idCells_one _) 32 (by kernel_rfl) hrr _ _ hBq (by rw [hrr, idCells_size]; simp) (fun w9 hB9 hm9 => ?_)
        rw [putRow_whole (by rw [hrr, idCells_size]; rfl)] at hB9
        have hM9 : Mod NoB w8 w9 := hT.transB hm9 hb8
        clear hm9 hBq hT
        refine hK _ _ trivial ?_
        clear hK K
        try simp only [pl, pn, el, ec, sz, ss, gz, gs, if_true, if_false, Bool.false_eq_true, Bool.not_true, Bool.not_false, Nat.add_zero, Nat.zero_add, Nat.reduceAdd]
        refine wpPi_nil ?_
        go_wp2
        go_meet
        case rel => exact ⟨b11, rfl, hb8, hB9, hM9⟩
    · intro K hK
      simp only [List.getElem?_toArray, Array.getD_eq_getD_getElem?, List.getElem?_cons_succ, List.getElem?_cons_zero, Option.getD_some]
      refine wp_allocAt 38 _ (by rfl) idZ (fun b11 wq hbq hBq hmq hsq => ?_)
      replace hBq : wq.heap[b11]? = some (.cells (idCells (List.replicate 32 0)) 38 (0, 0)) := hBq
      have hb8 : w8.heap.size ≤ b11 := by have := hT.size; omega
      clear hbq
      try replace hbt := hbt.keep hmq (fun _ _ => id)
      try replace hbu := hbu.keep hmq (fun _ _ => id)
      try replace hbx := hbx.keep hmq (fun _ _ => id)
      replace hT := hT.trans0 hmq
      clear hmq hsq
      refine hK _ _ trivial ?_
      clear hK K
      try simp only [pl, pn, el, ec, sz, ss, gz, gs, if_true, if_false, Bool.false_eq_true, Bool.not_true, Bool.not_false, Nat.add_zero, Nat.zero_add, Nat.reduceAdd]
      refine wpTree_part [0] (by kernel_rfl) ?_
      simp only [List.forall_mem_cons, List.not_mem_nil, false_implies, implies_true, and_true]
      intro K hK
      simp only [List.getElem?_toArray, Array.getD_eq_getD_getElem?, List.getElem?_cons_succ, List.getElem?_cons_zero, Option.getD_some]
      refine wp_byteAt _ 1 (by rfl) (by rfl) w8.heap.size hT.size (fun v20 wa hob hbt hma => ?_)
      try replace hBq := hma.obj id hBq
      replace hT := hT.trans0 hma
      clear hma
      refine hK _ _ trivial ?_
      clear hK K
      try simp only [pl, pn, el, ec, sz, ss, gz, gs, if_true, if_false, Bool.false_eq_true, Bool.not_true, Bool.not_false, Nat.add_zero, Nat.zero_add, Nat.reduceAdd]
      refine wpTree_part [2] (by kernel_rfl) ?_
      simp only [List.forall_mem_cons, List.not_mem_nil, false_implies, implies_true, and_true]
      intro K hK
      simp only [List.getElem?_toArray, Array.getD_eq_getD_getElem?, List.getElem?_cons_succ, List.getElem?_cons_zero, Option.getD_some]
      refine wp_bytes _ _ (by rfl) w8.heap.size _ [1] (by rfl) hbt _ kd (by rfl) (by have := (hsk.keep0 hT).bsrc; rwa [hk32] at this ⊢) (by rw [hk32]; simp) hT.size (fun v22 wb hbu hmb => ?_)
      try replace hBq := hmb.obj (bts_ne hbt hBq (by decide)) hBq
      replace hT : Mod NoB w8 wb := hT.trans hmb (fun k hk e => by have := (hbt.lt e).1; omega)
      clear hmb
      refine hK _ _ trivial ?_
      clear hK K
      try simp only [pl, pn, el, ec, sz, ss, gz, gs, if_true, if_false, Bool.false_eq_true, Bool.not_true, Bool.not_false, Nat.add_zero, Nat.zero_add, Nat.reduceAdd]
      refine wpTree_part [4] (by kernel_rfl) ?_
      simp only [List.forall_mem_cons, List.not_mem_nil, false_implies, implies_true, and_true]
      intro K hK
      simp only [List.getElem?_toArray, Array.getD_eq_getD_getElem?, List.getElem?_cons_succ, List.getElem?_cons_zero, Option.getD_some]
      refine wp_bytes _ _ (by rfl) w8.heap.size _ _ (by rfl) hbu _ vd (by rfl) (by have := (hsv.keep0 hT).bsrc; rwa [hv32] at this ⊢) (by rw [hv32, List.length_append, hk32]; simp) hT.size (fun v24 wc hbx hmc => ?_)
      try replace hBq := hmc.obj (bts_ne hbu hBq (by decide)) hBq
      replace hT : Mod NoB w8 wc := hT.trans hmc (fun k hk e => by have := (hbu.lt e).1; omega)
      clear hmc
      refine hK _ _ trivial ?_
      clear hK K
      try simp only [pl, pn, el, ec, sz, ss, gz, gs, if_true, if_false, Bool.false_eq_true, Bool.not_true, Bool.not_false, Nat.add_zero, Nat.zero_add, Nat.reduceAdd]
      refine wpTree_part [5] (by kernel_rfl) ?_
      simp only [List.forall_mem_cons, List.not_mem_nil, false_implies, implies_true, and_true]
      intro K hK
      simp only [List.getElem?_toArray, Array.getD_eq_getD_getElem?, List.getElem?_cons_succ, List.getElem?_cons_zero, Option.getD_some]
      refine wp_enterQ (run_call 23 [.tmp 24] _ rfl _ Try.func23 rfl (by kernel_rfl) [v24] rfl _) (shaSum_any hbx.sl (by rw [List.length_append, List.length_append, hk32, hv32]; simp)) ?_
      rintro e wd ⟨rfl, hmd⟩
      try replace hBq := hmd.obj id hBq
      replace hT := hT.trans0 hmd
      clear hmd
      refine ⟨_, rfl, hK _ _ trivial ?_⟩
      clear hK K
      try simp only [pl, pn, el, ec, sz, ss, gz, gs, if_true, if_false, Bool.false_eq_true, Bool.not_true, Bool.not_false, Nat.add_zero, Nat.zero_add, Nat.reduceAdd]
      refine wpTree_done ?_
      try simp only [List.map_cons, List.map_nil, List.getD_cons_zero, List.getD_cons_succ]
      try simp only [pl, pn, el, ec, sz, ss, gz, gs, if_true, if_false, Bool.false_eq_true, Bool.not_true, Bool.not_false, Nat.add_zero, Nat.zero_add, Nat.reduceAdd]
      refine wpPi_do rfl (fun K hK => ?_)
      have hrr : (idCells (shaL ([1] ++ kd ++ vd))).size = 32 := by rw [idCells_size]; exact shaL_len _
      refine wp_storeA 38 _ _ b11 0 (idCells (shaL ([1] ++ kd ++ vd))) (by rfl) (by rfl) (by rfl) (idCells_one _) 32 (by kernel_rfl) hrr _ _ hBq (by rw [hrr, idCells_size]; simp) (fun w9 hB9 hm9 => ?_)
      rw [putRow_whole (by rw [hrr, idCells_size]; rfl)] at hB9
      have hM9 : Mod NoB w8 w9 := hT.transB hm9 hb8
      clear hm9 hBq hT
      refine hK _ _ trivial ?_
      clear hK K
      try simp only [pl, pn, el, ec, sz, ss, gz, gs, if_true, if_false, Bool.false_eq_true, Bool.not_true, Bool.not_false, Nat.add_zero, Nat.zero_add, Nat.reduceAdd]
      refine wpPi_nil ?_
      go_wp2
      go_meet
      case rel => exact ⟨b11, rfl, hb8, hB9, hM9⟩
  case rest =>
    obtain ⟨b11, rfl, hb8, hB9, hM9⟩ := hcut
    rename World => w9
    rw [HONE.out] at hB9
    have hMw := hM8.trans0 hM9
    replace hB1 := hM9.obj id hB1
    replace HP8 := Lib.hid (Sl.keep0 HP8.out hM9)
    have hws9 := hM9.size
    clear hM9 hM8 hsk hsv
    go_wp2
    go_loopw [12] (PvRel ps d0 b11 w9) (fun i _ => ps.length - (intOf i).toNat)
    case atStart => exact ⟨0, by omega, rfl, by simpa using hB9, Mod.refl _ _⟩
    case round =>
      rename World => wr
      obtain ⟨k, hk, rfl, hrow, hm⟩ := hrel
      by_cases hlt : k < ps.length
      · have hz2 : (k : Int) < (ps.length : Int) := by omega
        have hpk := Sl.keepB HP8.out hm (fun q hq => by omega)
        obtain ⟨_, _, hv, -, hat⟩ := Sl.at hpk
        cases hv
        obtain ⟨bq, off, rfl, -, hgq, hc⟩ := hat k hlt
        obtain ⟨_, -, ⟨rfl, hso⟩, hc⟩ := hc k hlt
        have hfs := fold_succ hlt d0
        have hfl := fold_len (ps.take k) d0 hd0
        have hfl2 := climb_len ((ps.take k).foldl climb d0) ps[k]
        have HFS := Lib.hid hfs
        clear hat hpk hfs
        generalize ps[k] = s at *
        obtain ⟨d, hd⟩ : ∃ d, (ps.take k).foldl climb d0 = d := ⟨_, rfl⟩
        rw [hd] at hrow hfl hfl2 HFS
        clear hd
        have hm9s := hm.size
        have hrd : (idCells d).size = 32 := by rw [idCells_size, hfl]
        have hro : (idCells s.2).size = 32 := by rw [idCells_size, hso]
        have hrc : (idCells (climb d s)).size = 32 := by rw [idCells_size, hfl2]
        have hot := side_other hso hc
        have hfg := side_flag hc
        have hbr := row_lt hrow
        go_upto_region 6 with (fail)
        go_cut [13, 14] (fun p q wx => ∃ b13 b14, p = .pointer (some ⟨b13, 0, none⟩) ∧ q = .pointer (some ⟨b14, 0, none⟩) ∧ wr.heap.size ≤ b13 ∧ wr.heap.size ≤ b14 ∧ b13 ≠ b14 ∧ wx.heap[b13]? = some (.cells (idCells d) 38 (0, 0)) ∧ wx.heap[b14]? = some (.cells (idCells s.2) 38 (0, 0)) ∧ Mod NoB wr wx)
        case first =>
          have hS : Mod NoB wr wr.drew := (Mod.refl _ _).drew
          have hT := hS
          refine wp_region_tree [(0, 0), (1, 3), (2, 3), (3, 3), (4, 3), (5, 0)] 4 [] [] (fun w' => Mod NoB wr w') #[true, true, true, true, true, true, false, false, false, false] (by kernel_rfl) (by kernel_rfl) (by kernel_rfl) (by kernel_rfl) (by kernel_rfl) (fun _ _ _ _ hd h => ⟨hd.trans h.1, h.2⟩) hS ?_
          simp only [List.map_cons, List.map_nil, List.getD_cons_zero, List.getD_cons_succ]
          refine wpPi_val rfl (fun w' hS => exec_loadA 38 _ (by rfl) b11 0 (by rfl) (idCells d) ((CellsAt.whole hrow).keep hS id) _ Try.underlying38 rfl 32 (by kernel_rfl) hrd) ?_
          simp only [pl, pn, el, ec, sz, ss, gz, gs, if_true, if_false, Bool.false_eq_true, Bool.not_true, Bool.not_false, Nat.add_zero, Nat.zero_add, Nat.reduceAdd]
          refine wpPi_move _ rfl rfl ?_
          simp only [pl, pn, el, ec, sz, ss, gz, gs, if_true, if_false, Bool.false_eq_true, Bool.not_true, Bool.not_false, Nat.add_zero, Nat.zero_add, Nat.reduceAdd]
          refine wpPi_move _ rfl rfl ?_
          simp only [pl, pn, el, ec, sz, ss, gz, gs, if_true, if_false, Bool.false_eq_true, Bool.not_true, Bool.not_false, Nat.add_zero, Nat.zero_add, Nat.reduceAdd]
          refine wpPi_index _ _ _ _ _ _ _ _ _ rfl rfl rfl rfl Try.underlying41 (n := 33) (by kernel_rfl) hlt ?_
          simp only [pl, pn, el, ec, sz, ss, gz, gs, if_true, if_false, Bool.false_eq_true, Bool.not_true, Bool.not_false, Nat.add_zero, Nat.zero_add, Nat.reduceAdd]
          refine wpPi_field _ _ _ _ _ _ rfl rfl rfl fo_84_1 ?_
          simp only [pl, pn, el, ec, sz, ss, gz, gs, if_true, if_false, Bool.false_eq_true, Bool.not_true, Bool.not_false, Nat.add_zero, Nat.zero_add, Nat.reduceAdd]
          refine wpPi_val rfl (fun w' hS => exec_loadA 38 _ (by rfl) bq (off + k * 33 + 1) (by rfl) (idCells s.2) (hot.keep hS id) _ Try.underlying38 rfl 32 (by kernel_rfl) hro) ?_
          simp only [pl, pn, el, ec, sz, ss, gz, gs, if_true, if_false, Bool.false_eq_true, Bool.not_true, Bool.not_false, Nat.add_zero, Nat.zero_add, Nat.reduceAdd]
          refine wpPi_nil ?_
          refine wpTree_part [6, 7] (by kernel_rfl) ?_
          simp only [List.forall_mem_cons, List.not_mem_nil, false_implies, implies_true, and_true]
          refine ⟨?_, ?_⟩
          · intro K hK
            simp only [List.getElem?_toArray, Array.getD_eq_getD_getElem?, List.getElem?_cons_succ, List.getElem?_cons_zero, Option.getD_some]
            refine wp_allocAt 38 _ (by rfl) idZ (fun b13 wq hbq hBx hmq hsq => ?_)
            replace hBx : wq.heap[b13]? = some (.cells (idCells (List.replicate 32 0)) 38 (0, 0)) := hBx
            have hbx : wr.heap.size ≤ b13 := by have := hT.size; omega
            try have hne : b13 ≠ b14 := by have := row_lt hBy; omega
            try replace hBy := hmq.obj id hBy
            replace hT := hT.trans0 hmq
            clear hmq hsq hbq
            refine hK _ _ hT ?_
            clear hK K
            try simp only [pl, pn, el, ec, sz, ss, gz, gs, if_true, if_false, Bool.false_eq_true, Bool.not_true, Bool.not_false, Nat.add_zero, Nat.zero_add, Nat.reduceAdd]
            refine wpTree_part [7] (by kernel_rfl) ?_
            simp only [List.forall_mem_cons, List.not_mem_nil, false_implies, implies_true, and_true]
            intro K hK
            simp only [List.getElem?_toArray, Array.getD_eq_getD_getElem?, List.getElem?_cons_succ, List.getElem?_cons_zero, Option.getD_some]
            refine wp_allocAt 38 _ (by rfl) idZ (fun b14 wq hbq hBy hmq hsq => ?_)
            replace hBy : wq.heap[b14]? = some (.cells (idCells (List.replicate 32 0)) 38 (0, 0)) := hBy
            have hby : wr.heap.size ≤ b14 := by have := hT.size; omega
            try have hne : b13 ≠ b14 := by have := row_lt hBx; omega
            try replace hBx := hmq.obj id hBx
            replace hT := hT.trans0 hmq
            clear hmq hsq hbq
            refine hK _ _ hT ?_
            clear hK K
            try simp only [pl, pn, el, ec, sz, ss, gz, gs, if_true, if_false, Bool.false_eq_true, Bool.not_true, Bool.not_false, Nat.add_zero, Nat.zero_add, Nat.reduceAdd]
            refine wpTree_part [8] (by kernel_rfl) ?_
            simp only [List.forall_mem_cons, List.not_mem_nil, false_implies, implies_true, and_true]
            intro K hK
            simp only [List.getElem?_toArray, Array.getD_eq_getD_getElem?, List.getElem?_cons_succ, List.getElem?_cons_zero, Option.getD_some]
            refine wp_storeA 38 _ _ b13 0 (idCells d) (by rfl) (by rfl) (by rfl) (idCells_one _) 32 (by kernel_rfl) hrd _ _ hBx (by rw [hrd, idCells_size]; simp) (fun wq hBz hmq => ?_)
            rw [putRow_whole (by rw [hrd, idCells_size]; rfl)] at hBz
            clear hBx
            have hBx := hBz
            clear hBz
            try replace hBy := hmq.objB hne.symm hBy
            replace hT := hT.transB hmq hbx
            clear hmq
            refine hK _ _ hT ?_
            clear hK K
            try simp only [pl, pn, el, ec, sz, ss, gz, gs, if_true, if_false, Bool.false_eq_true, Bool.not_true, Bool.not_false, Nat.add_zero, Nat.zero_add, Nat.reduceAdd]
            refine wpTree_part [9] (by kernel_rfl) ?_
            simp only [List.forall_mem_cons, List.not_mem_nil, false_implies, implies_true, and_true]
            intro K hK
            simp only [List.getElem?_toArray, Array.getD_eq_getD_getElem?, List.getElem?_cons_succ, List.getElem?_cons_zero, Option.getD_some]
            refine wp_storeA 38 _ _ b14 0 (idCells s.2) (by rfl) (by rfl) (by rfl) (idCells_one _) 32 (by kernel_rfl) hro _ _ hBy (by rw [hro, idCells_size]; simp) (fun wq hBz hmq => ?_)
            rw [putRow_whole (by rw [hro, idCells_size]; rfl)] at hBz
            clear hBy
            have hBy := hBz
            clear hBz
            try replace hBx := hmq.objB hne hBx
            replace hT := hT.transB hmq hby
            clear hmq
            refine hK _ _ hT ?_
            clear hK K
            try simp only [pl, pn, el, ec, sz, ss, gz, gs, if_true, if_false, Bool.false_eq_true, Bool.not_true, Bool.not_false, Nat.add_zero, Nat.zero_add, Nat.reduceAdd]
            refine wpTree_done ?_
            try simp only [List.map_cons, List.map_nil, List.getD_cons_zero, List.getD_cons_succ]
            try simp only [pl, pn, el, ec, sz, ss, gz, gs, if_true, if_false, Bool.false_eq_true, Bool.not_true, Bool.not_false, Nat.add_zero, Nat.zero_add, Nat.reduceAdd]
            refine wpPi_nil ?_
            go_wp2
            go_meet
            case rel => exact ⟨b13, b14, rfl, rfl, hbx, hby, hne, hBx, hBy, hT⟩
          · intro K hK
            simp only [List.getElem?_toArray, Array.getD_eq_getD_getElem?, List.getElem?_cons_succ, List.getElem?_cons_zero, Option.getD_some]
            refine wp_allocAt 38 _ (by rfl) idZ (fun b14 wq hbq hBy hmq hsq => ?_)
            replace hBy : wq.heap[b14]? = some (.cells (idCells (List.replicate 32 0)) 38 (0, 0)) := hBy
            have hby : wr.heap.size ≤ b14 := by have := hT.size; omega
            try have hne : b13 ≠ b14 := by have := row_lt hBx; omega
            try replace hBx := hmq.obj id hBx
            replace hT := hT.trans0 hmq
            clear hmq hsq hbq
            refine hK _ _ hT ?_
            clear hK K
            try simp only [pl, pn, el, ec, sz, ss, gz, gs, if_true, if_false, Bool.false_eq_true, Bool.not_true, Bool.not_false, Nat.add_zero, Nat.zero_add, Nat.reduceAdd]
            refine wpTree_part [6] (by kernel_rfl) ?_
            simp only [List.forall_mem_cons, List.not_mem_nil, false_implies, implies_true, and_true]
            intro K hK
            simp only [List.getElem?_toArray, Array.getD_eq_getD_getElem?, List.getElem?_cons_succ, List.getElem?_cons_zero, Option.getD_some]
            refine wp_allocAt 38 _ (by rfl) idZ (fun b13 wq hbq hBx hmq hsq => ?_)
            replace hBx : wq.heap[b13]? = some (.cells (idCells (List.replicate 32 0)) 38 (0, 0)) := hBx
            have hbx : wr.heap.size ≤ b13 := by have := hT.size; omega
            try have hne : b13 ≠ b14 := by have := row_lt hBy; omega
            try replace hBy := hmq.obj id hBy
            replace hT := hT.trans0 hmq
            clear hmq hsq hbq
            refine hK _ _ hT ?_
            clear hK K
            try simp only [pl, pn, el, ec, sz, ss, gz, gs, if_true, if_false, Bool.false_eq_true, Bool.not_true, Bool.not_false, Nat.add_zero, Nat.zero_add, Nat.reduceAdd]
            refine wpTree_part [8] (by kernel_rfl) ?_
            simp only [List.forall_mem_cons, List.not_mem_nil, false_implies, implies_true, and_true]
            intro K hK
            simp only [List.getElem?_toArray, Array.getD_eq_getD_getElem?, List.getElem?_cons_succ, List.getElem?_cons_zero, Option.getD_some]
            refine wp_storeA 38 _ _ b13 0 (idCells d) (by rfl) (by rfl) (by rfl) (idCells_one _) 32 (by kernel_rfl) hrd _ _ hBx (by rw [hrd, idCells_size]; simp) (fun wq hBz hmq => ?_)
            rw [putRow_whole (by rw [hrd, idCells_size]; rfl)] at hBz
            clear hBx
            have hBx := hBz
            clear hBz
            try replace hBy := hmq.objB hne.symm hBy
            replace hT := hT.transB hmq hbx
            clear hmq
            refine hK _ _ hT ?_
            clear hK K
            try simp only [pl, pn, el, ec, sz, ss, gz, gs, if_true, if_false, Bool.false_eq_true, Bool.not_true, Bool.not_false, Nat.add_zero, Nat.zero_add, Nat.reduceAdd]
            refine wpTree_part [9] (by kernel_rfl) ?_
            simp only [List.forall_mem_cons, List.not_mem_nil, false_implies, implies_true, and_true]
            intro K hK
            simp only [List.getElem?_toArray, Array.getD_eq_getD_getElem?, List.getElem?_cons_succ, List.getElem?_cons_zero, Option.getD_some]
            refine wp_storeA 38 _ _ b14 0 (idCells s.2) (by rfl) (by rfl) (by rfl) (idCells_one _) 32 (by kernel_rfl) hro _ _ hBy (by rw [hro, idCells_size]; simp) (fun wq hBz hmq => ?_)
            rw [putRow_whole (by rw [hro, idCells_size]; rfl)] at hBz
            clear hBy
            have hBy := hBz
            clear hBz
            try replace hBx := hmq.objB hne hBx
            replace hT := hT.transB hmq hby
            clear hmq
            refine hK _ _ hT ?_
            clear hK K
            try simp only [pl, pn, el, ec, sz, ss, gz, gs, if_true, if_false, Bool.false_eq_true, Bool.not_true, Bool.not_false, Nat.add_zero, Nat.zero_add, Nat.reduceAdd]
            refine wpTree_done ?_
            try simp only [List.map_cons, List.map_nil, List.getD_cons_zero, List.getD_cons_succ]
            try simp only [pl, pn, el, ec, sz, ss, gz, gs, if_true, if_false, Bool.false_eq_true, Bool.not_true, Bool.not_false, Nat.add_zero, Nat.zero_add, Nat.reduceAdd]
            refine wpPi_nil ?_
            go_wp2
            go_meet
            case rel => exact ⟨b13, b14, rfl, rfl, hbx, hby, hne, hBx, hBy, hT⟩
        case rest =>
          obtain ⟨b13, b14, rfl, rfl, hbx, hby, hne, hBx, hBy, hT⟩ := hcut
          rename World => w6
          replace hrow := hT.obj id hrow
          replace hfg := hT.cell id hfg
          have hM6 : Mod (fun q => q = b11) w9 w6 := hm.trans (hT.mono fun _ _ h => h.elim) (fun _ _ h => h)
          clear hc hot hm hT
          go_upto_region 7 with (fail)
          cases hleft : s.1 with
          | true =>
            have hcl : climb d s = twoD s.2 d := by unfold climb; rw [if_pos hleft]
            refine wp_region_seq [3, 3, 3, 3, 1] (fun _ => True) (by rfl) (by rfl) trivial ?_
            simp only [List.zip_cons_cons, List.zip_nil_right]
            refine wpPi_move _ rfl rfl ?_
            simp only [pl, pn, el, ec, sz, ss, gz, gs, if_true, if_false, Bool.false_eq_true, Bool.not_true, Bool.not_false, Nat.add_zero, Nat.zero_add, Nat.reduceAdd]
            refine wpPi_move _ rfl rfl ?_
            simp only [pl, pn, el, ec, sz, ss, gz, gs, if_true, if_false, Bool.false_eq_true, Bool.not_true, Bool.not_false, Nat.add_zero, Nat.zero_add, Nat.reduceAdd]
            refine wpPi_index _ _ _ _ _ _ _ _ _ rfl rfl rfl rfl Try.underlying41 (n := 33) (by kernel_rfl) hlt ?_
            simp only [pl, pn, el, ec, sz, ss, gz, gs, if_true, if_false, Bool.false_eq_true, Bool.not_true, Bool.not_false, Nat.add_zero, Nat.zero_add, Nat.reduceAdd]
            refine wpPi_field _ _ _ _ _ _ rfl rfl rfl fo_84_0 ?_
            simp only [pl, pn, el, ec, sz, ss, gz, gs, if_true, if_false, Bool.false_eq_true, Bool.not_true, Bool.not_false, Nat.add_zero, Nat.zero_add, Nat.reduceAdd]
            refine wpPi_do rfl (fun K hK => ?_)
            refine wp_exec (exec_load1 4 _ (by rfl) bq (off + k * 33) (by rfl) (.bool true) (by rw [← hleft]; exact hfg) _ Try.underlying4 rfl) ?_
            refine hK _ _ trivial ?_
            clear hK K
            try simp only [pl, pn, el, ec, sz, ss, gz, gs, if_true, if_false, Bool.false_eq_true, Bool.not_true, Bool.not_false, Nat.add_zero, Nat.zero_add, Nat.reduceAdd]
            refine wpPi_nil ?_
            go_upto_region 8 with (fail)
            refine wp_region_seq [1, 1, 1, 1] (fun _ => True) (by rfl) (by rfl) trivial ?_
            simp only [List.zip_cons_cons, List.zip_nil_right]
            refine wpPi_do rfl (fun K hK => ?_)
            refine wp_exec (exec_loadA 38 _ (by rfl) b14 0 (by rfl) (idCells s.2) (CellsAt.whole hBy) _ Try.underlying38 rfl 32 (by kernel_rfl) hro) ?_
            refine hK _ _ trivial ?_
            clear hK K
            try simp only [pl, pn, el, ec, sz, ss, gz, gs, if_true, if_false, Bool.false_eq_true, Bool.not_true, Bool.not_false, Nat.add_zero, Nat.zero_add, Nat.reduceAdd]
            refine wpPi_do rfl (fun K hK => ?_)
            refine wp_exec (exec_loadA 38 _ (by rfl) b13 0 (by rfl) (idCells d) (CellsAt.whole hBx) _ Try.underlying38 rfl 32 (by kernel_rfl) hrd) ?_
            refine hK _ _ trivial ?_
            clear hK K
            try simp only [pl, pn, el, ec, sz, ss, gz, gs, if_true, if_false, Bool.false_eq_true, Bool.not_true, Bool.not_false, Nat.add_zero, Nat.zero_add, Nat.reduceAdd]
            refine wpPi_do rfl (fun K hK => ?_)
            refine wp_storeA 38 _ _ b13 0 (idCells s.2) (by rfl) (by rfl) (by rfl) (idCells_one _) 32 (by kernel_rfl) hro _ _ hBx (by rw [hro, idCells_size, hfl]; simp) (fun wa hBz hma => ?_)
            rw [putRow_whole (by rw [hro, idCells_size, hfl])] at hBz
            replace hBy := hma.objB hne.symm hBy
            replace hrow := hma.objB (by omega) hrow
            refine hK _ _ trivial ?_
            clear hK K hBx
            try simp only [pl, pn, el, ec, sz, ss, gz, gs, if_true, if_false, Bool.false_eq_true, Bool.not_true, Bool.not_false, Nat.add_zero, Nat.zero_add, Nat.reduceAdd]
            refine wpPi_do rfl (fun K hK => ?_)
            refine wp_storeA 38 _ _ b14 0 (idCells d) (by rfl) (by rfl) (by rfl) (idCells_one _) 32 (by kernel_rfl) hrd _ _ hBy (by rw [hrd, idCells_size, hso]; simp) (fun w7 hBu hmu => ?_)
            rw [putRow_whole (by rw [hrd, idCells_size, hso])] at hBu
            replace hBz := hmu.objB hne hBz
            replace hrow := hmu.objB (by omega) hrow
            refine hK _ _ trivial ?_
            clear hK K hBy
            try simp only [pl, pn, el, ec, sz, ss, gz, gs, if_true, if_false, Bool.false_eq_true, Bool.not_true, Bool.not_false, Nat.add_zero, Nat.zero_add, Nat.reduceAdd]
            refine wpPi_nil ?_
            have hBx := hBz
            have hBy := hBu
            have hM7 : Mod (fun q => q = b11) w9 w7 := (hM6.trans hma (fun q hq e => by have e' : q = b13 := e; omega)).trans hmu (fun q hq e => by have e' : q = b14 := e; omega)
            clear hBz hBu hma hmu hM6
            have hsx := id_slice hBx hso
            have hsy := id_slice hBy hfl
            have hba := row_lt hBx
            go_upto_region 9 with (fail)
            refine wp_region_pi [(1, 3), (3, 3), (0, 1), (2, 1), (4, 1), (5, 1), (6, 1)] [] (fun _ => True) (by kernel_rfl) (by kernel_rfl) (by kernel_rfl) (by kernel_rfl) (fun _ _ _ _ hd h => ⟨hd.trans h.1, h.2⟩) trivial ?_
            simp only [List.map_cons, List.map_nil, List.getD_cons_zero, List.getD_cons_succ]
            refine wpPi_sliceArr 38 5 _ _ _ 32 rfl rfl rfl Try.underlying38 (by kernel_rfl) ?_
            simp only [pl, pn, el, ec, sz, ss, gz, gs, if_true, if_false, Bool.false_eq_true, Bool.not_true, Bool.not_false, Nat.add_zero, Nat.zero_add, Nat.reduceAdd]
            refine wpPi_sliceArr 38 5 _ _ _ 32 rfl rfl rfl Try.underlying38 (by kernel_rfl) ?_
            simp only [pl, pn, el, ec, sz, ss, gz, gs, if_true, if_false, Bool.false_eq_true, Bool.not_true, Bool.not_false, Nat.add_zero, Nat.zero_add, Nat.reduceAdd]
            refine wpPi_do rfl (fun K hK => ?_)
            refine wp_byteAt _ 2 (by rfl) (by rfl) w7.heap.size (Nat.le_refl _) (fun v45 wa hob hbt hma => ?_)
            refine hK _ _ trivial ?_
            clear hK K
            try simp only [pl, pn, el, ec, sz, ss, gz, gs, if_true, if_false, Bool.false_eq_true, Bool.not_true, Bool.not_false, Nat.add_zero, Nat.zero_add, Nat.reduceAdd]
            refine wpPi_do rfl (fun K hK => ?_)
            have hU : Mod NoB w7 wa := (Mod.refl _ _).drew.trans0 hma
            refine wp_bytes _ _ (by rfl) w7.heap.size _ [2] (by rfl) hbt _ s.2 (by rfl) (by have := (hsx.keep0 hU).bsrc; rwa [hso] at this ⊢) (by rw [hso]; simp) hU.size (fun v47 wb hbu hmb => ?_)
            replace hU : Mod NoB w7 wb := hU.trans hmb (fun k hk e => by have := (hbt.lt e).1; omega)
            refine hK _ _ trivial ?_
            clear hK K
            try simp only [pl, pn, el, ec, sz, ss, gz, gs, if_true, if_false, Bool.false_eq_true, Bool.not_true, Bool.not_false, Nat.add_zero, Nat.zero_add, Nat.reduceAdd]
            refine wpPi_do rfl (fun K hK => ?_)
            refine wp_bytes _ _ (by rfl) w7.heap.size _ _ (by rfl) hbu _ d (by rfl) (by have := (hsy.keep0 hU).bsrc; rwa [hfl] at this ⊢) (by rw [hfl, List.length_append, hso]; simp) hU.size (fun v49 wc hbx' hmc => ?_)
            replace hU : Mod NoB w7 wc := hU.trans hmc (fun k hk e => by have := (hbu.lt e).1; omega)
            refine hK _ _ trivial ?_
            clear hK K
            try simp only [pl, pn, el, ec, sz, ss, gz, gs, if_true, if_false, Bool.false_eq_true, Bool.not_true, Bool.not_false, Nat.add_zero, Nat.zero_add, Nat.reduceAdd]
            refine wpPi_do rfl (fun K hK => ?_)
            refine wp_enterQ (run_call 23 [.tmp 49] _ rfl _ Try.func23 rfl (by kernel_rfl) [v49] rfl _) (shaSum_any hbx'.sl (by rw [List.length_append, List.length_append, hso, hfl]; simp)) ?_
            rintro e wd ⟨rfl, hmd⟩
            replace hU := hU.trans0 hmd
            rw [two_is, ← hcl]
            replace hrow := hU.obj id hrow
            refine ⟨_, rfl, hK _ _ trivial ?_⟩
            clear hK K
            try simp only [pl, pn, el, ec, sz, ss, gz, gs, if_true, if_false, Bool.false_eq_true, Bool.not_true, Bool.not_false, Nat.add_zero, Nat.zero_add, Nat.reduceAdd]
            refine wpPi_do rfl (fun K hK => ?_)
            generalize climb d s = y at *
            refine wp_storeA 38 _ _ b11 0 (idCells y) (by rfl) (by rfl) (by rfl) (idCells_one _) 32 (by kernel_rfl) hrc _ _ hrow (by rw [hrc, hrd]; exact Nat.le_refl _) (fun w10 hB10 hm10 => ?_)
            rw [putRow_whole (by rw [hrc, hrd])] at hB10
            have hM10 : Mod (fun q => q = b11) w9 w10 := (hM7.trans (hU.mono fun _ _ h => h.elim) (fun _ _ h => h)).trans hm10 (fun _ _ h => h)
            refine hK _ _ trivial ?_
            clear hK K
            try simp only [pl, pn, el, ec, sz, ss, gz, gs, if_true, if_false, Bool.false_eq_true, Bool.not_true, Bool.not_false, Nat.add_zero, Nat.zero_add, Nat.reduceAdd]
            refine wpPi_nil ?_
            clear hm10 hM7 hrow
            go_wp2
            go_roundw
            case rel => exact ⟨k + 1, by omega, by go_num, by rw [HFS.out]; exact hB10, hM10⟩
            case measure => simp [intOf]; omega
          | false =>
            have hcl : climb d s = twoD d s.2 := by unfold climb; rw [if_neg (by rw [hleft]; simp)]
            refine wp_region_seq [3, 3, 3, 3, 1] (fun _ => True) (by rfl) (by rfl) trivial ?_
            simp only [List.zip_cons_cons, List.zip_nil_right]
            refine wpPi_move _ rfl rfl ?_
            simp only [pl, pn, el, ec, sz, ss, gz, gs, if_true, if_false, Bool.false_eq_true, Bool.not_true, Bool.not_false, Nat.add_zero, Nat.zero_add, Nat.reduceAdd]
            refine wpPi_move _ rfl rfl ?_
            simp only [pl, pn, el, ec, sz, ss, gz, gs, if_true, if_false, Bool.false_eq_true, Bool.not_true, Bool.not_false, Nat.add_zero, Nat.zero_add, Nat.reduceAdd]
            refine wpPi_index _ _ _ _ _ _ _ _ _ rfl rfl rfl rfl Try.underlying41 (n := 33) (by kernel_rfl) hlt ?_
            simp only [pl, pn, el, ec, sz, ss, gz, gs, if_true, if_false, Bool.false_eq_true, Bool.not_true, Bool.not_false, Nat.add_zero, Nat.zero_add, Nat.reduceAdd]
            refine wpPi_field _ _ _ _ _ _ rfl rfl rfl fo_84_0 ?_
            simp only [pl, pn, el, ec, sz, ss, gz, gs, if_true, if_false, Bool.false_eq_true, Bool.not_true, Bool.not_false, Nat.add_zero, Nat.zero_add, Nat.reduceAdd]
            refine wpPi_do rfl (fun K hK => ?_)
            refine wp_exec (exec_load1 4 _ (by rfl) bq (off + k * 33) (by rfl) (.bool false) (by rw [← hleft]; exact hfg) _ Try.underlying4 rfl) ?_
            refine hK _ _ trivial ?_
            clear hK K
            try simp only [pl, pn, el, ec, sz, ss, gz, gs, if_true, if_false, Bool.false_eq_true, Bool.not_true, Bool.not_false, Nat.add_zero, Nat.zero_add, Nat.reduceAdd]
            refine wpPi_nil ?_
            obtain ⟨w7, hw7⟩ : ∃ x, x = w6 := ⟨_, rfl⟩
            rw [← hw7] at hBx hBy hrow hM6 ⊢
            have hM7 := hM6
            clear hM6 hw7
            have hsx := id_slice hBx hfl
            have hsy := id_slice hBy hso
            have hba := row_lt hBx
            go_upto_region 9 with (fail)
            refine wp_region_pi [(1, 3), (3, 3), (0, 1), (2, 1), (4, 1), (5, 1), (6, 1)] [] (fun _ => True) (by kernel_rfl) (by kernel_rfl) (by kernel_rfl) (by kernel_rfl) (fun _ _ _ _ hd h => ⟨hd.trans h.1, h.2⟩) trivial ?_
            simp only [List.map_cons, List.map_nil, List.getD_cons_zero, List.getD_cons_succ]
            refine wpPi_sliceArr 38 5 _ _ _ 32 rfl rfl rfl Try.underlying38 (by kernel_rfl) ?_
            simp only [pl, pn, el, ec, sz, ss, gz, gs, if_true, if_false, Bool.false_eq_true, Bool.not_true, Bool.not_false, Nat.add_zero, Nat.zero_add, Nat.reduceAdd]
            refine wpPi_sliceArr 38 5 _ _ _ 32 rfl rfl rfl Try.underlying38 (by kernel_rfl) ?_
            simp only [pl, pn, el, ec, sz, ss, gz, gs, if_true, if_false, Bool.false_eq_true, Bool.not_true, Bool.not_false, Nat.add_zero, Nat.zero_add, Nat.reduceAdd]
            refine wpPi_do rfl (fun K hK => ?_)
            refine wp_byteAt _ 2 (by rfl) (by rfl) w7.heap.size (Nat.le_refl _) (fun v45 wa hob hbt hma => ?_)
            refine hK _ _ trivial ?_
            clear hK K
            try simp only [pl, pn, el, ec, sz, ss, gz, gs, if_true, if_false, Bool.false_eq_true, Bool.not_true, Bool.not_false, Nat.add_zero, Nat.zero_add, Nat.reduceAdd]
            refine wpPi_do rfl (fun K hK => ?_)
            have hU : Mod NoB w7 wa := (Mod.refl _ _).drew.trans0 hma
            refine wp_bytes _ _ (by rfl) w7.heap.size _ [2] (by rfl) hbt _ d (by rfl) (by have := (hsx.keep0 hU).bsrc; rwa [hfl] at this ⊢) (by rw [hfl]; simp) hU.size (fun v47 wb hbu hmb => ?_)
            replace hU : Mod NoB w7 wb := hU.trans hmb (fun k hk e => by have := (hbt.lt e).1; omega)
            refine hK _ _ trivial ?_
            clear hK K
            try simp only [pl, pn, el, ec, sz, ss, gz, gs, if_true, if_false, Bool.false_eq_true, Bool.not_true, Bool.not_false, Nat.add_zero, Nat.zero_add, Nat.reduceAdd]
            refine wpPi_do rfl (fun K hK => ?_)
            refine wp_bytes _ _ (by rfl) w7.heap.size _ _ (by rfl) hbu _ s.2 (by rfl) (by have := (hsy.keep0 hU).bsrc; rwa [hso] at this ⊢) (by rw [hso, List.length_append, hfl]; simp) hU.size (fun v49 wc hbx' hmc => ?_)
            replace hU : Mod NoB w7 wc := hU.trans hmc (fun k hk e => by have := (hbu.lt e).1; omega)
            refine hK _ _ trivial ?_
            clear hK K
            try simp only [pl, pn, el, ec, sz, ss, gz, gs, if_true, if_false, Bool.false_eq_true, Bool.not_true, Bool.not_false, Nat.add_zero, Nat.zero_add, Nat.reduceAdd]
            refine wpPi_do rfl (fun K hK => ?_)
            refine wp_enterQ (run_call 23 [.tmp 49] _ rfl _ Try.func23 rfl (by kernel_rfl) [v49] rfl _) (shaSum_any hbx'.sl (by rw [List.length_append, List.length_append, hfl, hso]; simp)) ?_
            rintro e wd ⟨rfl, hmd⟩
            replace hU := hU.trans0 hmd
            rw [two_is, ← hcl]
            replace hrow := hU.obj id hrow
            refine ⟨_, rfl, hK _ _ trivial ?_⟩
            clear hK K
            try simp only [pl, pn, el, ec, sz, ss, gz, gs, if_true, if_false, Bool.false_eq_true, Bool.not_true, Bool.not_false, Nat.add_zero, Nat.zero_add, Nat.reduceAdd]
            refine wpPi_do rfl (fun K hK => ?_)
            generalize climb d s = y at *
            refine wp_storeA 38 _ _ b11 0 (idCells y) (by rfl) (by rfl) (by rfl) (idCells_one _) 32 (by kernel_rfl) hrc _ _ hrow (by rw [hrc, hrd]; exact Nat.le_refl _) (fun w10 hB10 hm10 => ?_)
            rw [putRow_whole (by rw [hrc, hrd])] at hB10
            have hM10 : Mod (fun q => q = b11) w9 w10 := (hM7.trans (hU.mono fun _ _ h => h.elim) (fun _ _ h => h)).trans hm10 (fun _ _ h => h)
            refine hK _ _ trivial ?_
            clear hK K
            try simp only [pl, pn, el, ec, sz, ss, gz, gs, if_true, if_false, Bool.false_eq_true, Bool.not_true, Bool.not_false, Nat.add_zero, Nat.zero_add, Nat.reduceAdd]
            refine wpPi_nil ?_
            clear hm10 hM7 hrow
            go_wp2
            go_roundw
            case rel => exact ⟨k + 1, by omega, by go_num, by rw [HFS.out]; exact hB10, hM10⟩
            case measure => simp [intOf]; omega
      · have hz2 : ¬ (k : Int) < (ps.length : Int) := by omega
        obtain rfl : k = ps.length := by omega
        rw [List.take_length] at hrow
        have hfl := fold_len ps d0 hd0
        obtain ⟨d, hd⟩ : ∃ d, ps.foldl climb d0 = d := ⟨_, rfl⟩
        rw [hd] at hrow hfl
        have HD := Lib.hid hd
        clear hd
        have hrd : (idCells d).size = 32 := by rw [idCells_size, hfl]
        have hb1' := hm.obj (by omega) hB1
        have hMr : Mod NoB w wr := hMw.transB hm (by omega)
        clear hm
        go_upto_region 10 with (fail)
        refine wp_region_seq [1, 1, 0, 3] (fun _ => True) (by rfl) (by rfl) trivial ?_
        simp only [List.zip_cons_cons, List.zip_nil_right]
        refine wpPi_do rfl (fun K hK => ?_)
        refine wp_exec (exec_loadA 38 _ (by rfl) b11 0 (by rfl) (idCells d) (CellsAt.whole hrow) _ Try.underlying38 rfl 32 (by kernel_rfl) hrd) ?_
        refine hK _ _ trivial ?_
        clear hK K
        try simp only [pl, pn, el, ec, sz, ss, gz, gs, if_true, if_false, Bool.false_eq_true, Bool.not_true, Bool.not_false, Nat.add_zero, Nat.zero_add, Nat.reduceAdd]
        refine wpPi_do rfl (fun K hK => ?_)
        refine wp_exec (exec_loadA 38 _ (by rfl) w.heap.size 0 (by rfl) C (CellsAt.whole hb1') _ Try.underlying38 rfl 32 (by kernel_rfl) hrs) ?_
        refine hK _ _ trivial ?_
        clear hK K
        try simp only [pl, pn, el, ec, sz, ss, gz, gs, if_true, if_false, Bool.false_eq_true, Bool.not_true, Bool.not_false, Nat.add_zero, Nat.zero_add, Nat.reduceAdd]
        refine wpPi_val rfl (fun w' hS => exec_eql_id _ _ _ _ rfl d root rfl (by rw [HC.out]; rfl) 32 5 Try.underlying38 Try.underlying5 (by kernel_rfl) (by kernel_rfl) hfl hroot _ rfl) ?_
        simp only [pl, pn, el, ec, sz, ss, gz, gs, if_true, if_false, Bool.false_eq_true, Bool.not_true, Bool.not_false, Nat.add_zero, Nat.zero_add, Nat.reduceAdd]
        refine wpPi_assign _ rfl rfl ?_
        simp only [pl, pn, el, ec, sz, ss, gz, gs, if_true, if_false, Bool.false_eq_true, Bool.not_true, Bool.not_false, Nat.add_zero, Nat.zero_add, Nat.reduceAdd]
        refine wpPi_nil ?_
        go_wp2
        go_ret
        exact ⟨by rw [HDD.out, HD.out]; rfl, hMr⟩
end Go.Proofs.Ytchkikmmcmjcgaa

/- Entries gathered in a row; lists turned round; what a path proves. -/
namespace Go.Proofs.Ytchkikmmcmjcgaa
set_option linter.unusedSimpArgs false
set_option linter.unusedVariables false
set_option linter.unnecessarySimpa false
set_option linter.unusedSectionVars false
open Go.RowKit Go.Shelf

/-- An entry's two cells. -/
abbrev EnS := ByteArray × (Option Addr × Nat × Nat)
def EnS.val (x : EnS) : Value := .slice x.2.1 x.2.2.1 x.2.2.2
def entEnc (x : EnS) : List Value := [.string x.1, x.val]
theorem entEnc_len : ∀ x, (entEnc x).length = 2 := fun _ => rfl
theorem entEnc_one : ∀ x, ∀ c ∈ entEnc x, c.oneCell' = true := by
  intro x c hc
  simp only [entEnc, List.mem_cons, List.not_mem_nil, or_false] at hc
  rcases hc with rfl | rfl <;> rfl
def EntX (G : Nat → Prop) (w : World) (x : EnS) (e : Ent) : Prop := x.1 = e.1 ∧ Sl false w G 1 ByteC x.val e.2
theorem EntX.keep {S : Nat → Prop} {w w' : World} {G : Nat → Prop} {x : EnS} {e : Ent} (h : EntX G w x e) (hm : Mod S w w') (hd : ∀ k, G k → ¬ S k) : EntX G w' x e := ⟨h.1, h.2.keep hm hd (fun _ _ h => h)⟩
theorem EntC.ens {w : World} {G : Nat → Prop} {cs : Array Value} {e : Ent} (h : EntC w G cs e) : ∃ x : EnS, cs = (entEnc x).toArray ∧ EntX G w x e := by
  obtain ⟨v, rfl, hs⟩ := h
  obtain ⟨ad, cap, rfl, -, -⟩ := Sl.at hs
  exact ⟨(e.1, ad, e.2.length, cap), rfl, rfl, hs⟩
theorem EntX.ent {w : World} {G : Nat → Prop} {x : EnS} {e : Ent} (h : EntX G w x e) : EntC w Ever (entEnc x).toArray e := ⟨x.val, by unfold entEnc; rw [h.1], h.2.mono (fun _ _ => trivial) (fun _ _ h => h)⟩
theorem entry_i : (Try.prog.info? 35).map (fun i => (i.zero, i.size, i.bytes)) = some (some (.agg #[.string ⟨#[]⟩, .slice none 0 0]), 2, 40) := by kernel_rfl
/-- Entries that a call has gathered; X reads one. -/
def Gs (X : World → EnS → Ent → Prop) (base : Nat) (w : World) (v : Value) (l : List Ent) : Prop := ∃ xs, Gat entEnc 35 2 base w v xs ∧ All2 (X w) xs l
section
variable {X : World → EnS → Ent → Prop} {base : Nat} {w : World} {v : Value} {l : List Ent}
theorem Gs.nil (X : World → EnS → Ent → Prop) (base : Nat) (w : World) : Gs X base w (.slice none 0 0) [] := ⟨[], Gat.nil _ _ _ _ _, All2.nil⟩
theorem Gs.keep0 {w' : World} (h : Gs X base w v l) (hm : Mod NoB w w') (hX : ∀ x e, X w x e → X w' x e) : Gs X base w' v l := by
  obtain ⟨xs, h1, h2⟩ := h
  exact ⟨xs, h1.keep0 hm, h2.imp hX⟩
theorem sl_map {α β : Type} {own : Bool} {G : Nat → Prop} {sz : Nat} {R : Array Value → α → Prop} {R' : Array Value → β → Prop} {xs : List α} {l : List β} (h : Sl own w G sz R v xs) (hl : xs.length = l.length)
    (hr : ∀ i (h : i < xs.length) (h' : i < l.length) cs, R cs xs[i] → R' cs l[i]) : Sl own w G sz R' v l := by
  obtain ⟨a, cap, hv, h1, h2, h3⟩ := h
  refine ⟨a, cap, by rw [← hl]; exact hv, by omega, h2, fun hne => ?_⟩
  obtain ⟨b, off, ha, hG, ho, h4⟩ := h3 (by rintro rfl; exact hne (List.length_eq_zero_iff.1 hl.symm))
  refine ⟨b, off, ha, hG, ho, fun i hi => ?_⟩
  obtain ⟨cs, hs, hR, hc⟩ := h4 i (by omega)
  exact ⟨cs, hs, hr i _ hi cs hR, hc⟩
theorem Gs.es (h : Gs X base w v l) (hX : ∀ x e, X w x e → EntC w Ever (entEnc x).toArray e) : Es false w Ever v l := by
  obtain ⟨xs, h1, h2⟩ := h
  have h3 := ((h1.sl entEnc_len).mono (fun _ _ => trivial) (fun _ _ h => h) : Sl true w Ever 2 (fun cs x => cs = (entEnc x).toArray) v xs).weak
  exact sl_map h3 h2.1 (fun i hi hi' cs hR => by subst hR; exact hX _ _ (h2.2 i hi hi'))
theorem Gs.slice (h : Gs X base w v l) : ∃ ad cap, v = .slice ad l.length cap := by
  obtain ⟨xs, h1, h2⟩ := h
  rw [← h2.1]
  exact h1.slice
theorem Gs.lt (h : Gs X base w v l) {q : Nat} (hq : v.ownBlock = some q) : base ≤ q ∧ q < w.heap.size := by
  obtain ⟨xs, h1, h2⟩ := h
  exact h1.lt hq
/-- One entry more. -/
theorem wp_gs {o : Oper} {a : Act} {K : Act → World → Prop} {Q : Exit → Act → World → Prop} (s x : Operand) (ho : o.op = .call { callee := .builtin .append, args := #[s, x], argTypes := #[22, 22] })
    (hs : a.eval s = v) (hg : Gs X base w v l) (b : Nat) (y : EnS) (e : Ent) (hx : a.eval x = .slice (some ⟨b, 0, none⟩) 1 1) (hb : w.heap[b]? = some (.cells (entEnc y).toArray 35 (0, 0))) (hy : X w y e)
    (hlen : l.length ≤ 4096) (hbase : base ≤ w.heap.size) (hX : ∀ xs w' x e, Gat entEnc 35 2 base w v xs → Mod (fun q => v.ownBlock = some q) w w' → X w x e → X w' x e)
    (h : ∀ v' w', Gs X base w' v' (l ++ [e]) → Mod (fun q => v.ownBlock = some q) w w' → K (a.put o.dst v') w') : o.wp Try.prog a w K Q := by
  obtain ⟨xs, h1, h2⟩ := hg
  have hcl := h2.1
  refine wp_gat entEnc s x 22 35 (.agg #[.string ⟨#[]⟩, .slice none 0 0]) 2 40 ho Try.underlying22 entry_i rfl (by omega) entEnc_one base v xs hs h1 _ [y] hx (src_lit entEnc_len hb) (by simp only [List.length_singleton]; unfold maxLen; omega) (by simp only [List.length_singleton]; omega) hbase (fun v' w' hg' hm => ?_)
  exact h v' w' ⟨_, hg', (h2.snoc hy).imp fun x e => hX xs w' x e h1 hm⟩ hm
end
theorem exec_neq_id {P : Program} {w : World} {o : Oper} {a : Act} (t : TypeId) (x y : Operand) (yt : TypeId) (ho : o.op = .binOp .neq t x y yt) (xs ys : List UInt8)
    (hx : a.eval x = .agg (idCells xs)) (hy : a.eval y = .agg (idCells ys)) (n : Nat) (e : TypeId) (ht : P.underlying t = some (.array n e)) (he : P.underlying e = some (.int .u8))
    (hsz : (P.info? e).map (·.size) = some 1) (hg : P.eqGuardType P.depth t = false) (hxs : xs.length = n) (hys : ys.length = n) (b : Bool) (hb : decide (xs ≠ ys) = b) :
    (execOp a.eval o).run P w = .ok (.value (.bool b)) w := by
  subst hb
  have hs : ∀ w, (sizeOf e).run P w = .ok 1 w := fun w => by
    cases hq : P.info? e with
    | none => simp [hq] at hsz
    | some i => simp [hq] at hsz; simp [sizeOf, typeInfo, hq, hsz]
  have h1 := run_eqGuard_agg (P := P) w .neq t x y (idCells xs) (idCells ys) hg
  have h2 : (binOp .neq t (.agg (xs.map Extern.Stop.cell).toArray) (.agg (ys.map Extern.Stop.cell).toArray)).run P w = .ok (.bool (!(xs == ys))) w := by
    rw [run_neq_struct, run_equalIn_bytes w 9998 t e n ht he hs xs ys hxs hys]; rfl
  unfold execOp
  simp only [ho, hx, hy, Sem.run_bind, h1, Result.andThen_ok]
  rw [show idCells xs = (xs.map Extern.Stop.cell).toArray from rfl, show idCells ys = (ys.map Extern.Stop.cell).toArray from rfl, h2]
  simp only [Result.andThen_ok, Sem.run_pure]
  have h3 : (!(xs == ys)) = decide (xs ≠ ys) := by rw [Bool.eq_iff_iff]; simp
  rw [h3]
theorem hasK_rev (l : List Ent) (k : ByteArray) : hasK (l.reverse.take l.length) k = hasK l k := by
  rw [show l.length = l.reverse.length by simp, List.take_length]
  unfold hasK keysE
  rw [List.map_reverse, List.any_reverse]
theorem rev_at {l : List Ent} {m j : Nat} (h : l.length = m + 1 + j) : ∃ h1 : j < l.length, l.reverse.take (m + 1) = l.reverse.take m ++ [l[j]] := by
  refine ⟨by omega, ?_⟩
  rw [List.take_add_one, List.getElem?_reverse (by omega), show l.length - 1 - m = j by omega, List.getElem?_eq_getElem (by omega)]
  rfl
theorem hasK_succ (m : List Ent) (x : Ent) (k : ByteArray) : hasK (m ++ [x]) k = (hasK m k || decide (x.1 = k)) := by simp [hasK, keysE]
theorem root_rev (l : List Ent) : rootE l.reverse = rootE l := dig_perm _ _ ((List.reverse_perm l).map _)
theorem chk_rev (l : List Ent) : chkE l.reverse = chkE l := chkE_perm (List.reverse_perm l)
theorem errP_of {l : List Ent} (h : chkE l = 0) (k : ByteArray) : errP l k = if hasK l k then 0 else 26 := by
  unfold errP
  rw [if_neg (by rw [h]; simp)]
theorem hasK_mem {l : List Ent} {x : Ent} (h : x ∈ l) : hasK l x.1 = true := hasK_iff.2 (List.mem_map_of_mem h)
/-- An entry's path, and what it proves. -/
theorem path_fold {l : List Ent} (h : chkE l = 0) {x : Ent} (hx : x ∈ l) : (pathOut l x.1).foldl climb (oneD (leafOf x)) = rootE l ∧ (pathOut l x.1).length ≤ 256 := by
  have he : errP l x.1 = 0 := by rw [errP_of h, if_pos (hasK_mem hx)]
  have hp : pathOut l x.1 = pathL (leafOf x).way 256 0 (leavesE l) := by unfold pathOut; rw [if_pos he]; rfl
  rw [hp]
  exact ⟨path_proves 256 0 rfl (lie_of_chk h) (List.mem_map_of_mem hx), path_len _ _ _ _⟩
theorem proves_fold {r : List UInt8} {x : Leaf} {ps : List SideL} (h : ps.length ≤ 256) : provesL r x ps = decide (ps.foldl climb (oneD x) = r) := by unfold provesL; rw [decide_eq_true h]; rfl
theorem leaf_same {k : ByteArray} {a b : List UInt8} (h : shaL a = shaL b) : oneD (leafOf (k, a)) = oneD (leafOf (k, b)) := by unfold oneD leafOf; rw [h]
end Go.Proofs.Ytchkikmmcmjcgaa

/- The walk of TreeOrder. (Printed by OrdB.gen.py.) -/
namespace Go.Proofs.Ytchkikmmcmjcgaa
set_option linter.unusedSimpArgs false
set_option linter.unusedVariables false
set_option linter.unnecessarySimpa false
set_option linter.unusedSectionVars false
open Go.RowKit Go.Shelf


theorem Es.inside {own : Bool} {w : World} {G : Nat → Prop} {v : Value} {l : List Ent} (h : Es own w G v l) : Es own w (fun k => k < w.heap.size) v l := (Sl.inside h (by omega)).mono (fun _ h => h) (fun _ _ ⟨v, e, hs⟩ => ⟨v, e, Sl.inside hs (by omega)⟩)
theorem gat_sides {base : Nat} {w : World} {v : Value} {ps : List SideL} (h : Gat sideEnc 84 33 base w v ps) (hp : ∀ s ∈ ps, s.2.length = 32) : Ss true w (fun q => base ≤ q ∧ q < w.heap.size ∧ v.ownBlock = some q) v ps :=
  sl_map (h.sl sideEnc_len) rfl (fun i h1 h2 cs hR => ⟨hR, hp _ (List.getElem_mem h2)⟩)
theorem path_sides {l : List Ent} (h : chkE l = 0) (k : ByteArray) : ∀ s ∈ pathOut l k, s.2.length = 32 := by
  unfold pathOut
  split
  · exact path_val _ 256 0 _ rfl (lie_of_chk h)
  · intro s hs; cases hs
def OrdX (base : Nat) : World → EnS → Ent → Prop := EntX (fun q => q < base)
def OrdRel (l : List Ent) (key : ByteArray) (base : Nat) (w0 : World) (back there i : Value) (w : World) : Prop :=
  ∃ m : Nat, m ≤ l.length ∧ i = .int .i64 ((l.length : Int) - 1 - m) ∧ there = .bool (hasK (l.reverse.take m) key) ∧ Gs (OrdX base) base w back (l.reverse.take m) ∧ Mod NoB w0 w
set_option maxRecDepth 10000 in
set_option maxHeartbeats 4000000 in
theorem treeOrder_any {own o2 : Bool} {G G2 : Nat → Prop} (w : World) (va : Value) (l : List Ent) (which : Int) (vv : Value) (vs : List UInt8) (key : ByteArray) (ha : Es own w G va l) (hwh : -9223372036854775808 ≤ which ∧ which ≤ 9223372036854775807) (hv : Sl o2 w G2 1 ByteC vv vs) (hks : key.size ≤ maxLen) :
    Calls Try.prog 5 #[va, .int .i64 which, vv, .string key] w (RetM (.bool true) w) := by
  have HA := Lib.hid ha
  have HV := Lib.hid hv
  obtain ⟨aa, ca, rfl, hal, -⟩ := Sl.at ha
  obtain ⟨av, cv, rfl, hvl, -⟩ := Sl.at hv
  have HWH := Lib.hid hwh
  clear ha hv hks hwh
  go_enter Try.func5, Try.ntmps5
  go_upto_region 1 with (fail)
  refine wp_region_seq [1, 3] (fun _ => True) (by rfl) (by rfl) trivial ?_
  simp only [List.zip_cons_cons, List.zip_nil_right]
  refine wpPi_do rfl (fun K hK => ?_)
  refine wp_enterQ (run_call 4 [] _ rfl _ Try.func4 rfl (by kernel_rfl) [] rfl _) (treeKnown_any _) ?_
  rintro e w1 ⟨rfl, hm1⟩
  refine ⟨_, rfl, hK _ _ trivial ?_⟩
  clear hK K
  try simp only [pl, pn, el, ec, sz, ss, gz, gs, if_true, if_false, Bool.false_eq_true, Bool.not_true, Bool.not_false, Nat.add_zero, Nat.zero_add, Nat.reduceAdd]
  refine wpPi_assign _ rfl rfl ?_
  simp only [pl, pn, el, ec, sz, ss, gz, gs, if_true, if_false, Bool.false_eq_true, Bool.not_true, Bool.not_false, Nat.add_zero, Nat.zero_add, Nat.reduceAdd]
  refine wpPi_nil ?_
  replace HA := Lib.hid (HA.out.keep0 hm1)
  replace HV := Lib.hid (HV.out.keep0 hm1)
  go_upto_region 2 with (fail)
  by_cases hSA : SmallE l
  rotate_left
  · have HLA := Lib.hid (longB_true hSA)
    clear hSA
    refine wp_region_seq [3, 1, 3, 3, 3, 3, 3, 3, 3, 3, 3, 3, 3, 3, 1, 3, 3] (fun _ => True) (by rfl) (by rfl) trivial ?_
    simp only [List.zip_cons_cons, List.zip_nil_right]
    refine wpPi_move _ rfl rfl ?_
    simp only [pl, pn, el, ec, sz, ss, gz, gs, if_true, if_false, Bool.false_eq_true, Bool.not_true, Bool.not_false, Nat.add_zero, Nat.zero_add, Nat.reduceAdd]
    refine wpPi_do rfl (fun K hK => ?_)
    refine wp_enterQ (run_call 8 [.tmp 24] _ rfl _ Try.func8 rfl (by kernel_rfl) [.slice aa l.length ca] rfl _) (long_any HA.out) ?_
    rintro e w2 ⟨rfl, hm2⟩
    rw [HLA.out]
    refine ⟨_, rfl, hK _ _ trivial ?_⟩
    clear hK K
    try simp only [pl, pn, el, ec, sz, ss, gz, gs, if_true, if_false, Bool.false_eq_true, Bool.not_true, Bool.not_false, Nat.add_zero, Nat.zero_add, Nat.reduceAdd]
    refine wpPi_move _ rfl rfl ?_
    simp only [pl, pn, el, ec, sz, ss, gz, gs, if_true, if_false, Bool.false_eq_true, Bool.not_true, Bool.not_false, Nat.add_zero, Nat.zero_add, Nat.reduceAdd]
    refine wpPi_skip rfl ?_
    simp only [pl, pn, el, ec, sz, ss, gz, gs, if_true, if_false, Bool.false_eq_true, Bool.not_true, Bool.not_false, Nat.add_zero, Nat.zero_add, Nat.reduceAdd]
    refine wpPi_skip rfl ?_
    simp only [pl, pn, el, ec, sz, ss, gz, gs, if_true, if_false, Bool.false_eq_true, Bool.not_true, Bool.not_false, Nat.add_zero, Nat.zero_add, Nat.reduceAdd]
    refine wpPi_skip rfl ?_
    simp only [pl, pn, el, ec, sz, ss, gz, gs, if_true, if_false, Bool.false_eq_true, Bool.not_true, Bool.not_false, Nat.add_zero, Nat.zero_add, Nat.reduceAdd]
    refine wpPi_pick _ _ _ _ rfl rfl rfl ?_
    simp only [pl, pn, el, ec, sz, ss, gz, gs, if_true, if_false, Bool.false_eq_true, Bool.not_true, Bool.not_false, Nat.add_zero, Nat.zero_add, Nat.reduceAdd]
    refine wpPi_move _ rfl rfl ?_
    simp only [pl, pn, el, ec, sz, ss, gz, gs, if_true, if_false, Bool.false_eq_true, Bool.not_true, Bool.not_false, Nat.add_zero, Nat.zero_add, Nat.reduceAdd]
    refine wpPi_skip rfl ?_
    simp only [pl, pn, el, ec, sz, ss, gz, gs, if_true, if_false, Bool.false_eq_true, Bool.not_true, Bool.not_false, Nat.add_zero, Nat.zero_add, Nat.reduceAdd]
    refine wpPi_skip rfl ?_
    simp only [pl, pn, el, ec, sz, ss, gz, gs, if_true, if_false, Bool.false_eq_true, Bool.not_true, Bool.not_false, Nat.add_zero, Nat.zero_add, Nat.reduceAdd]
    refine wpPi_skip rfl ?_
    simp only [pl, pn, el, ec, sz, ss, gz, gs, if_true, if_false, Bool.false_eq_true, Bool.not_true, Bool.not_false, Nat.add_zero, Nat.zero_add, Nat.reduceAdd]
    refine wpPi_pick _ _ _ _ rfl rfl rfl ?_
    simp only [pl, pn, el, ec, sz, ss, gz, gs, if_true, if_false, Bool.false_eq_true, Bool.not_true, Bool.not_false, Nat.add_zero, Nat.zero_add, Nat.reduceAdd]
    refine wpPi_move _ rfl rfl ?_
    simp only [pl, pn, el, ec, sz, ss, gz, gs, if_true, if_false, Bool.false_eq_true, Bool.not_true, Bool.not_false, Nat.add_zero, Nat.zero_add, Nat.reduceAdd]
    refine wpPi_skip rfl ?_
    simp only [pl, pn, el, ec, sz, ss, gz, gs, if_true, if_false, Bool.false_eq_true, Bool.not_true, Bool.not_false, Nat.add_zero, Nat.zero_add, Nat.reduceAdd]
    refine wpPi_do_skip rfl trivial ?_
    simp only [pl, pn, el, ec, sz, ss, gz, gs, if_true, if_false, Bool.false_eq_true, Bool.not_true, Bool.not_false, Nat.add_zero, Nat.zero_add, Nat.reduceAdd]
    refine wpPi_skip rfl ?_
    simp only [pl, pn, el, ec, sz, ss, gz, gs, if_true, if_false, Bool.false_eq_true, Bool.not_true, Bool.not_false, Nat.add_zero, Nat.zero_add, Nat.reduceAdd]
    refine wpPi_pick _ _ _ _ rfl rfl rfl ?_
    simp only [pl, pn, el, ec, sz, ss, gz, gs, if_true, if_false, Bool.false_eq_true, Bool.not_true, Bool.not_false, Nat.add_zero, Nat.zero_add, Nat.reduceAdd]
    refine wpPi_nil ?_
    have hMe := hm1.trans0 hm2
    clear hm1 hm2
    go_wp2
    go_ret
    exact ⟨rfl, hMe⟩
  have HLA := Lib.hid (longB_false hSA)
  by_cases hbv : 60 < vs.length
  · have hzv : ((vs.length : Nat) : Int) > 60 := by omega
    refine wp_region_seq [3, 1, 3, 3, 3, 3, 3, 3, 3, 3, 3, 3, 3, 3, 1, 3, 3] (fun _ => True) (by rfl) (by rfl) trivial ?_
    simp only [List.zip_cons_cons, List.zip_nil_right]
    refine wpPi_move _ rfl rfl ?_
    simp only [pl, pn, el, ec, sz, ss, gz, gs, if_true, if_false, Bool.false_eq_true, Bool.not_true, Bool.not_false, Nat.add_zero, Nat.zero_add, Nat.reduceAdd]
    refine wpPi_do rfl (fun K hK => ?_)
    refine wp_enterQ (run_call 8 [.tmp 24] _ rfl _ Try.func8 rfl (by kernel_rfl) [.slice aa l.length ca] rfl _) (long_any HA.out) ?_
    rintro e w2 ⟨rfl, hm2⟩
    rw [HLA.out]
    refine ⟨_, rfl, hK _ _ trivial ?_⟩
    clear hK K
    try simp only [pl, pn, el, ec, sz, ss, gz, gs, if_true, if_false, Bool.false_eq_true, Bool.not_true, Bool.not_false, Nat.add_zero, Nat.zero_add, Nat.reduceAdd]
    refine wpPi_move _ rfl rfl ?_
    simp only [pl, pn, el, ec, sz, ss, gz, gs, if_true, if_false, Bool.false_eq_true, Bool.not_true, Bool.not_false, Nat.add_zero, Nat.zero_add, Nat.reduceAdd]
    refine wpPi_move _ rfl rfl ?_
    simp only [pl, pn, el, ec, sz, ss, gz, gs, if_true, if_false, Bool.false_eq_true, Bool.not_true, Bool.not_false, Nat.add_zero, Nat.zero_add, Nat.reduceAdd]
    refine wpPi_len _ _ _ _ _ rfl rfl rfl (by kernel_rfl) ?_
    simp only [pl, pn, el, ec, sz, ss, gz, gs, if_true, if_false, Bool.false_eq_true, Bool.not_true, Bool.not_false, Nat.add_zero, Nat.zero_add, Nat.reduceAdd]
    refine wpPi_cmp _ _ _ _ _ _ _ _ rfl rfl rfl rfl rfl true (decide_eq_true hzv) ?_
    simp only [pl, pn, el, ec, sz, ss, gz, gs, if_true, if_false, Bool.false_eq_true, Bool.not_true, Bool.not_false, Nat.add_zero, Nat.zero_add, Nat.reduceAdd]
    refine wpPi_pick _ _ _ _ rfl rfl rfl ?_
    simp only [pl, pn, el, ec, sz, ss, gz, gs, if_true, if_false, Bool.false_eq_true, Bool.not_true, Bool.not_false, Nat.add_zero, Nat.zero_add, Nat.reduceAdd]
    refine wpPi_move _ rfl rfl ?_
    simp only [pl, pn, el, ec, sz, ss, gz, gs, if_true, if_false, Bool.false_eq_true, Bool.not_true, Bool.not_false, Nat.add_zero, Nat.zero_add, Nat.reduceAdd]
    refine wpPi_skip rfl ?_
    simp only [pl, pn, el, ec, sz, ss, gz, gs, if_true, if_false, Bool.false_eq_true, Bool.not_true, Bool.not_false, Nat.add_zero, Nat.zero_add, Nat.reduceAdd]
    refine wpPi_skip rfl ?_
    simp only [pl, pn, el, ec, sz, ss, gz, gs, if_true, if_false, Bool.false_eq_true, Bool.not_true, Bool.not_false, Nat.add_zero, Nat.zero_add, Nat.reduceAdd]
    refine wpPi_skip rfl ?_
    simp only [pl, pn, el, ec, sz, ss, gz, gs, if_true, if_false, Bool.false_eq_true, Bool.not_true, Bool.not_false, Nat.add_zero, Nat.zero_add, Nat.reduceAdd]
    refine wpPi_pick _ _ _ _ rfl rfl rfl ?_
    simp only [pl, pn, el, ec, sz, ss, gz, gs, if_true, if_false, Bool.false_eq_true, Bool.not_true, Bool.not_false, Nat.add_zero, Nat.zero_add, Nat.reduceAdd]
    refine wpPi_move _ rfl rfl ?_
    simp only [pl, pn, el, ec, sz, ss, gz, gs, if_true, if_false, Bool.false_eq_true, Bool.not_true, Bool.not_false, Nat.add_zero, Nat.zero_add, Nat.reduceAdd]
    refine wpPi_skip rfl ?_
    simp only [pl, pn, el, ec, sz, ss, gz, gs, if_true, if_false, Bool.false_eq_true, Bool.not_true, Bool.not_false, Nat.add_zero, Nat.zero_add, Nat.reduceAdd]
    refine wpPi_do_skip rfl trivial ?_
    simp only [pl, pn, el, ec, sz, ss, gz, gs, if_true, if_false, Bool.false_eq_true, Bool.not_true, Bool.not_false, Nat.add_zero, Nat.zero_add, Nat.reduceAdd]
    refine wpPi_skip rfl ?_
    simp only [pl, pn, el, ec, sz, ss, gz, gs, if_true, if_false, Bool.false_eq_true, Bool.not_true, Bool.not_false, Nat.add_zero, Nat.zero_add, Nat.reduceAdd]
    refine wpPi_pick _ _ _ _ rfl rfl rfl ?_
    simp only [pl, pn, el, ec, sz, ss, gz, gs, if_true, if_false, Bool.false_eq_true, Bool.not_true, Bool.not_false, Nat.add_zero, Nat.zero_add, Nat.reduceAdd]
    refine wpPi_nil ?_
    have hMe := hm1.trans0 hm2
    clear hm1 hm2
    go_wp2
    go_ret
    exact ⟨rfl, hMe⟩
  have hzv : ¬ ((vs.length : Nat) : Int) > 60 := by omega
  by_cases hbk : 60 < key.size
  · have hzk : ((key.size : Nat) : Int) > 60 := by omega
    refine wp_region_seq [3, 1, 3, 3, 3, 3, 3, 3, 3, 3, 3, 3, 3, 3, 1, 3, 3] (fun _ => True) (by rfl) (by rfl) trivial ?_
    simp only [List.zip_cons_cons, List.zip_nil_right]
    refine wpPi_move _ rfl rfl ?_
    simp only [pl, pn, el, ec, sz, ss, gz, gs, if_true, if_false, Bool.false_eq_true, Bool.not_true, Bool.not_false, Nat.add_zero, Nat.zero_add, Nat.reduceAdd]
    refine wpPi_do rfl (fun K hK => ?_)
    refine wp_enterQ (run_call 8 [.tmp 24] _ rfl _ Try.func8 rfl (by kernel_rfl) [.slice aa l.length ca] rfl _) (long_any HA.out) ?_
    rintro e w2 ⟨rfl, hm2⟩
    rw [HLA.out]
    refine ⟨_, rfl, hK _ _ trivial ?_⟩
    clear hK K
    try simp only [pl, pn, el, ec, sz, ss, gz, gs, if_true, if_false, Bool.false_eq_true, Bool.not_true, Bool.not_false, Nat.add_zero, Nat.zero_add, Nat.reduceAdd]
    refine wpPi_move _ rfl rfl ?_
    simp only [pl, pn, el, ec, sz, ss, gz, gs, if_true, if_false, Bool.false_eq_true, Bool.not_true, Bool.not_false, Nat.add_zero, Nat.zero_add, Nat.reduceAdd]
    refine wpPi_move _ rfl rfl ?_
    simp only [pl, pn, el, ec, sz, ss, gz, gs, if_true, if_false, Bool.false_eq_true, Bool.not_true, Bool.not_false, Nat.add_zero, Nat.zero_add, Nat.reduceAdd]
    refine wpPi_len _ _ _ _ _ rfl rfl rfl (by kernel_rfl) ?_
    simp only [pl, pn, el, ec, sz, ss, gz, gs, if_true, if_false, Bool.false_eq_true, Bool.not_true, Bool.not_false, Nat.add_zero, Nat.zero_add, Nat.reduceAdd]
    refine wpPi_cmp _ _ _ _ _ _ _ _ rfl rfl rfl rfl rfl false (decide_eq_false hzv) ?_
    simp only [pl, pn, el, ec, sz, ss, gz, gs, if_true, if_false, Bool.false_eq_true, Bool.not_true, Bool.not_false, Nat.add_zero, Nat.zero_add, Nat.reduceAdd]
    refine wpPi_pick _ _ _ _ rfl rfl rfl ?_
    simp only [pl, pn, el, ec, sz, ss, gz, gs, if_true, if_false, Bool.false_eq_true, Bool.not_true, Bool.not_false, Nat.add_zero, Nat.zero_add, Nat.reduceAdd]
    refine wpPi_move _ rfl rfl ?_
    simp only [pl, pn, el, ec, sz, ss, gz, gs, if_true, if_false, Bool.false_eq_true, Bool.not_true, Bool.not_false, Nat.add_zero, Nat.zero_add, Nat.reduceAdd]
    refine wpPi_move _ rfl rfl ?_
    simp only [pl, pn, el, ec, sz, ss, gz, gs, if_true, if_false, Bool.false_eq_true, Bool.not_true, Bool.not_false, Nat.add_zero, Nat.zero_add, Nat.reduceAdd]
    refine wpPi_any rfl (fun w' => exec_len_str _ _ key rfl rfl Try.underlying9) ?_
    simp only [pl, pn, el, ec, sz, ss, gz, gs, if_true, if_false, Bool.false_eq_true, Bool.not_true, Bool.not_false, Nat.add_zero, Nat.zero_add, Nat.reduceAdd]
    refine wpPi_cmp _ _ _ _ _ _ _ _ rfl rfl rfl rfl rfl true (decide_eq_true hzk) ?_
    simp only [pl, pn, el, ec, sz, ss, gz, gs, if_true, if_false, Bool.false_eq_true, Bool.not_true, Bool.not_false, Nat.add_zero, Nat.zero_add, Nat.reduceAdd]
    refine wpPi_pick _ _ _ _ rfl rfl rfl ?_
    simp only [pl, pn, el, ec, sz, ss, gz, gs, if_true, if_false, Bool.false_eq_true, Bool.not_true, Bool.not_false, Nat.add_zero, Nat.zero_add, Nat.reduceAdd]
    refine wpPi_move _ rfl rfl ?_
    simp only [pl, pn, el, ec, sz, ss, gz, gs, if_true, if_false, Bool.false_eq_true, Bool.not_true, Bool.not_false, Nat.add_zero, Nat.zero_add, Nat.reduceAdd]
    refine wpPi_skip rfl ?_
    simp only [pl, pn, el, ec, sz, ss, gz, gs, if_true, if_false, Bool.false_eq_true, Bool.not_true, Bool.not_false, Nat.add_zero, Nat.zero_add, Nat.reduceAdd]
    refine wpPi_do_skip rfl trivial ?_
    simp only [pl, pn, el, ec, sz, ss, gz, gs, if_true, if_false, Bool.false_eq_true, Bool.not_true, Bool.not_false, Nat.add_zero, Nat.zero_add, Nat.reduceAdd]
    refine wpPi_skip rfl ?_
    simp only [pl, pn, el, ec, sz, ss, gz, gs, if_true, if_false, Bool.false_eq_true, Bool.not_true, Bool.not_false, Nat.add_zero, Nat.zero_add, Nat.reduceAdd]
    refine wpPi_pick _ _ _ _ rfl rfl rfl ?_
    simp only [pl, pn, el, ec, sz, ss, gz, gs, if_true, if_false, Bool.false_eq_true, Bool.not_true, Bool.not_false, Nat.add_zero, Nat.zero_add, Nat.reduceAdd]
    refine wpPi_nil ?_
    have hMe := hm1.trans0 hm2
    clear hm1 hm2
    go_wp2
    go_ret
    exact ⟨rfl, hMe⟩
  have hzk : ¬ ((key.size : Nat) : Int) > 60 := by omega
  have hsh := hSA.short
  have hla : l.length ≤ 4096 := by have := hSA.1; omega
  have HSM := Lib.hid hSA
  clear hSA
  by_cases hck : chkE l = 0
  rotate_left
  · have hzc : ¬ ((chkE l : Nat) : Int) = 0 := by omega
    refine wp_region_seq [3, 1, 3, 3, 3, 3, 3, 3, 3, 3, 3, 3, 3, 3, 1, 3, 3] (fun _ => True) (by rfl) (by rfl) trivial ?_
    simp only [List.zip_cons_cons, List.zip_nil_right]
    refine wpPi_move _ rfl rfl ?_
    simp only [pl, pn, el, ec, sz, ss, gz, gs, if_true, if_false, Bool.false_eq_true, Bool.not_true, Bool.not_false, Nat.add_zero, Nat.zero_add, Nat.reduceAdd]
    refine wpPi_do rfl (fun K hK => ?_)
    refine wp_enterQ (run_call 8 [.tmp 24] _ rfl _ Try.func8 rfl (by kernel_rfl) [.slice aa l.length ca] rfl _) (long_any HA.out) ?_
    rintro e w2 ⟨rfl, hm2⟩
    rw [HLA.out]
    refine ⟨_, rfl, hK _ _ trivial ?_⟩
    clear hK K
    try simp only [pl, pn, el, ec, sz, ss, gz, gs, if_true, if_false, Bool.false_eq_true, Bool.not_true, Bool.not_false, Nat.add_zero, Nat.zero_add, Nat.reduceAdd]
    refine wpPi_move _ rfl rfl ?_
    simp only [pl, pn, el, ec, sz, ss, gz, gs, if_true, if_false, Bool.false_eq_true, Bool.not_true, Bool.not_false, Nat.add_zero, Nat.zero_add, Nat.reduceAdd]
    refine wpPi_move _ rfl rfl ?_
    simp only [pl, pn, el, ec, sz, ss, gz, gs, if_true, if_false, Bool.false_eq_true, Bool.not_true, Bool.not_false, Nat.add_zero, Nat.zero_add, Nat.reduceAdd]
    refine wpPi_len _ _ _ _ _ rfl rfl rfl (by kernel_rfl) ?_
    simp only [pl, pn, el, ec, sz, ss, gz, gs, if_true, if_false, Bool.false_eq_true, Bool.not_true, Bool.not_false, Nat.add_zero, Nat.zero_add, Nat.reduceAdd]
    refine wpPi_cmp _ _ _ _ _ _ _ _ rfl rfl rfl rfl rfl false (decide_eq_false hzv) ?_
    simp only [pl, pn, el, ec, sz, ss, gz, gs, if_true, if_false, Bool.false_eq_true, Bool.not_true, Bool.not_false, Nat.add_zero, Nat.zero_add, Nat.reduceAdd]
    refine wpPi_pick _ _ _ _ rfl rfl rfl ?_
    simp only [pl, pn, el, ec, sz, ss, gz, gs, if_true, if_false, Bool.false_eq_true, Bool.not_true, Bool.not_false, Nat.add_zero, Nat.zero_add, Nat.reduceAdd]
    refine wpPi_move _ rfl rfl ?_
    simp only [pl, pn, el, ec, sz, ss, gz, gs, if_true, if_false, Bool.false_eq_true, Bool.not_true, Bool.not_false, Nat.add_zero, Nat.zero_add, Nat.reduceAdd]
    refine wpPi_move _ rfl rfl ?_
    simp only [pl, pn, el, ec, sz, ss, gz, gs, if_true, if_false, Bool.false_eq_true, Bool.not_true, Bool.not_false, Nat.add_zero, Nat.zero_add, Nat.reduceAdd]
    refine wpPi_any rfl (fun w' => exec_len_str _ _ key rfl rfl Try.underlying9) ?_
    simp only [pl, pn, el, ec, sz, ss, gz, gs, if_true, if_false, Bool.false_eq_true, Bool.not_true, Bool.not_false, Nat.add_zero, Nat.zero_add, Nat.reduceAdd]
    refine wpPi_cmp _ _ _ _ _ _ _ _ rfl rfl rfl rfl rfl false (decide_eq_false hzk) ?_
    simp only [pl, pn, el, ec, sz, ss, gz, gs, if_true, if_false, Bool.false_eq_true, Bool.not_true, Bool.not_false, Nat.add_zero, Nat.zero_add, Nat.reduceAdd]
    refine wpPi_pick _ _ _ _ rfl rfl rfl ?_
    simp only [pl, pn, el, ec, sz, ss, gz, gs, if_true, if_false, Bool.false_eq_true, Bool.not_true, Bool.not_false, Nat.add_zero, Nat.zero_add, Nat.reduceAdd]
    refine wpPi_move _ rfl rfl ?_
    simp only [pl, pn, el, ec, sz, ss, gz, gs, if_true, if_false, Bool.false_eq_true, Bool.not_true, Bool.not_false, Nat.add_zero, Nat.zero_add, Nat.reduceAdd]
    refine wpPi_move _ rfl rfl ?_
    simp only [pl, pn, el, ec, sz, ss, gz, gs, if_true, if_false, Bool.false_eq_true, Bool.not_true, Bool.not_false, Nat.add_zero, Nat.zero_add, Nat.reduceAdd]
    refine wpPi_do rfl (fun K hK => ?_)
    refine wp_enterQ (run_call 21 [.tmp 37] _ rfl _ Try.func21 rfl (by kernel_rfl) [.slice aa l.length ca] rfl _) (check_any (HA.out.keep0 hm2) hsh hla) ?_
    rintro e w3 ⟨rfl, hm3⟩
    refine ⟨_, rfl, hK _ _ trivial ?_⟩
    clear hK K
    try simp only [pl, pn, el, ec, sz, ss, gz, gs, if_true, if_false, Bool.false_eq_true, Bool.not_true, Bool.not_false, Nat.add_zero, Nat.zero_add, Nat.reduceAdd]
    refine wpPi_cmp _ _ _ _ _ _ _ _ rfl rfl rfl rfl rfl true (decide_eq_true hzc) ?_
    simp only [pl, pn, el, ec, sz, ss, gz, gs, if_true, if_false, Bool.false_eq_true, Bool.not_true, Bool.not_false, Nat.add_zero, Nat.zero_add, Nat.reduceAdd]
    refine wpPi_pick _ _ _ _ rfl rfl rfl ?_
    simp only [pl, pn, el, ec, sz, ss, gz, gs, if_true, if_false, Bool.false_eq_true, Bool.not_true, Bool.not_false, Nat.add_zero, Nat.zero_add, Nat.reduceAdd]
    refine wpPi_nil ?_
    have hMe := (hm1.trans0 hm2).trans0 hm3
    clear hm1 hm2 hm3
    go_wp2
    go_ret
    exact ⟨rfl, hMe⟩
  have hzc : ¬ ¬ ((chkE l : Nat) : Int) = 0 := by omega
  refine wp_region_seq [3, 1, 3, 3, 3, 3, 3, 3, 3, 3, 3, 3, 3, 3, 1, 3, 3] (fun _ => True) (by rfl) (by rfl) trivial ?_
  simp only [List.zip_cons_cons, List.zip_nil_right]
  refine wpPi_move _ rfl rfl ?_
  simp only [pl, pn, el, ec, sz, ss, gz, gs, if_true, if_false, Bool.false_eq_true, Bool.not_true, Bool.not_false, Nat.add_zero, Nat.zero_add, Nat.reduceAdd]
  refine wpPi_do rfl (fun K hK => ?_)
  refine wp_enterQ (run_call 8 [.tmp 24] _ rfl _ Try.func8 rfl (by kernel_rfl) [.slice aa l.length ca] rfl _) (long_any HA.out) ?_
  rintro e w2 ⟨rfl, hm2⟩
  rw [HLA.out]
  refine ⟨_, rfl, hK _ _ trivial ?_⟩
  clear hK K
  try simp only [pl, pn, el, ec, sz, ss, gz, gs, if_true, if_false, Bool.false_eq_true, Bool.not_true, Bool.not_false, Nat.add_zero, Nat.zero_add, Nat.reduceAdd]
  refine wpPi_move _ rfl rfl ?_
  simp only [pl, pn, el, ec, sz, ss, gz, gs, if_true, if_false, Bool.false_eq_true, Bool.not_true, Bool.not_false, Nat.add_zero, Nat.zero_add, Nat.reduceAdd]
  refine wpPi_move _ rfl rfl ?_
  simp only [pl, pn, el, ec, sz, ss, gz, gs, if_true, if_false, Bool.false_eq_true, Bool.not_true, Bool.not_false, Nat.add_zero, Nat.zero_add, Nat.reduceAdd]
  refine wpPi_len _ _ _ _ _ rfl rfl rfl (by kernel_rfl) ?_
  simp only [pl, pn, el, ec, sz, ss, gz, gs, if_true, if_false, Bool.false_eq_true, Bool.not_true, Bool.not_false, Nat.add_zero, Nat.zero_add, Nat.reduceAdd]
  refine wpPi_cmp _ _ _ _ _ _ _ _ rfl rfl rfl rfl rfl false (decide_eq_false hzv) ?_
  simp only [pl, pn, el, ec, sz, ss, gz, gs, if_true, if_false, Bool.false_eq_true, Bool.not_true, Bool.not_false, Nat.add_zero, Nat.zero_add, Nat.reduceAdd]
  refine wpPi_pick _ _ _ _ rfl rfl rfl ?_
  simp only [pl, pn, el, ec, sz, ss, gz, gs, if_true, if_false, Bool.false_eq_true, Bool.not_true, Bool.not_false, Nat.add_zero, Nat.zero_add, Nat.reduceAdd]
  refine wpPi_move _ rfl rfl ?_
  simp only [pl, pn, el, ec, sz, ss, gz, gs, if_true, if_false, Bool.false_eq_true, Bool.not_true, Bool.not_false, Nat.add_zero, Nat.zero_add, Nat.reduceAdd]
  refine wpPi_move _ rfl rfl ?_
  simp only [pl, pn, el, ec, sz, ss, gz, gs, if_true, if_false, Bool.false_eq_true, Bool.not_true, Bool.not_false, Nat.add_zero, Nat.zero_add, Nat.reduceAdd]
  refine wpPi_any rfl (fun w' => exec_len_str _ _ key rfl rfl Try.underlying9) ?_
  simp only [pl, pn, el, ec, sz, ss, gz, gs, if_true, if_false, Bool.false_eq_true, Bool.not_true, Bool.not_false, Nat.add_zero, Nat.zero_add, Nat.reduceAdd]
  refine wpPi_cmp _ _ _ _ _ _ _ _ rfl rfl rfl rfl rfl false (decide_eq_false hzk) ?_
  simp only [pl, pn, el, ec, sz, ss, gz, gs, if_true, if_false, Bool.false_eq_true, Bool.not_true, Bool.not_false, Nat.add_zero, Nat.zero_add, Nat.reduceAdd]
  refine wpPi_pick _ _ _ _ rfl rfl rfl ?_
  simp only [pl, pn, el, ec, sz, ss, gz, gs, if_true, if_false, Bool.false_eq_true, Bool.not_true, Bool.not_false, Nat.add_zero, Nat.zero_add, Nat.reduceAdd]
  refine wpPi_move _ rfl rfl ?_
  simp only [pl, pn, el, ec, sz, ss, gz, gs, if_true, if_false, Bool.false_eq_true, Bool.not_true, Bool.not_false, Nat.add_zero, Nat.zero_add, Nat.reduceAdd]
  refine wpPi_move _ rfl rfl ?_
  simp only [pl, pn, el, ec, sz, ss, gz, gs, if_true, if_false, Bool.false_eq_true, Bool.not_true, Bool.not_false, Nat.add_zero, Nat.zero_add, Nat.reduceAdd]
  refine wpPi_do rfl (fun K hK => ?_)
  refine wp_enterQ (run_call 21 [.tmp 37] _ rfl _ Try.func21 rfl (by kernel_rfl) [.slice aa l.length ca] rfl _) (check_any (HA.out.keep0 hm2) hsh hla) ?_
  rintro e w3 ⟨rfl, hm3⟩
  refine ⟨_, rfl, hK _ _ trivial ?_⟩
  clear hK K
  try simp only [pl, pn, el, ec, sz, ss, gz, gs, if_true, if_false, Bool.false_eq_true, Bool.not_true, Bool.not_false, Nat.add_zero, Nat.zero_add, Nat.reduceAdd]
  refine wpPi_cmp _ _ _ _ _ _ _ _ rfl rfl rfl rfl rfl false (decide_eq_false hzc) ?_
  simp only [pl, pn, el, ec, sz, ss, gz, gs, if_true, if_false, Bool.false_eq_true, Bool.not_true, Bool.not_false, Nat.add_zero, Nat.zero_add, Nat.reduceAdd]
  refine wpPi_pick _ _ _ _ rfl rfl rfl ?_
  simp only [pl, pn, el, ec, sz, ss, gz, gs, if_true, if_false, Bool.false_eq_true, Bool.not_true, Bool.not_false, Nat.add_zero, Nat.zero_add, Nat.reduceAdd]
  refine wpPi_nil ?_
  have hM3 := (hm1.trans0 hm2).trans0 hm3
  replace HA := Lib.hid (Es.inside (HA.out.keep0 (hm2.trans0 hm3)))
  replace HV := Lib.hid (HV.out.keep0 (hm2.trans0 hm3))
  have HCK := Lib.hid hck
  clear hm1 hm2 hm3 HLA hzc hck hzv hzk hvl hal
  go_wp2
  go_loopw [10, 11, 12] (OrdRel l key w3.heap.size w3) (fun _ _ i _ => (intOf i + 1).toNat)
  case atStart => exact ⟨0, by omega, by go_num, rfl, Gs.nil _ _ _, Mod.refl _ _⟩
  case round =>
    rename World => wr
    obtain ⟨m, hm, rfl, rfl, hgs, hmr⟩ := hrel
    have HGS := Lib.hid hgs
    obtain ⟨adb, capb, rfl⟩ := hgs.slice
    obtain ⟨th, hth⟩ : ∃ b, hasK (l.reverse.take m) key = b := ⟨_, rfl⟩
    by_cases hlt : m < l.length
    · obtain ⟨j, hj⟩ : ∃ j, l.length = m + 1 + j := ⟨l.length - 1 - m, by omega⟩
      obtain ⟨hjl, htk⟩ := rev_at hj
      have hi : ((l.length : Int) - 1 - m) = (j : Int) := by omega
      rw [hth, hi]
      have hz0 : (j : Int) ≥ 0 := by omega
      have HSU := Lib.hid (show hasK (l.reverse.take (m + 1)) key = (th || decide (l[j].1 = key)) by rw [htk, hasK_succ, hth])
      have HTK := Lib.hid htk
      have hbl : (l.reverse.take m).length ≤ 4096 := by rw [List.length_take, List.length_reverse]; omega
      obtain ⟨_, _, hv, -, hat⟩ := Sl.at (HA.out.keep0 hmr)
      cases hv
      obtain ⟨ba, offa, rfl, hgb, -, hc⟩ := hat j hjl
      obtain ⟨cs, hcs2, hec, hc⟩ := hc j hjl
      obtain ⟨y, rfl, hy⟩ := hec.ens
      have hc0 := hc.cell (j := 0) (v := .string y.1) rfl
      rw [Nat.add_zero] at hc0
      have hy1 := Lib.hid hy.1
      have HY := Lib.hid hy
      obtain ⟨bq, hbq⟩ : ∃ bk, bk = l.reverse.take m := ⟨_, rfl⟩
      rw [← hbq] at HGS HTK hbl ⊢
      obtain ⟨x, hx⟩ : ∃ x, l[j] = x := ⟨_, rfl⟩
      rw [hx] at HY HTK HSU hy1
      clear hat hec hy hth htk hbq hgs hx hi
      go_upto_region 9 with (fail)
      refine wp_region_seq [3, 3, 3, 3, 1, 1, 1, 3] (fun _ => True) (by rfl) (by rfl) trivial ?_
      simp only [List.zip_cons_cons, List.zip_nil_right]
      refine wpPi_move _ rfl rfl ?_
      simp only [pl, pn, el, ec, sz, ss, gz, gs, if_true, if_false, Bool.false_eq_true, Bool.not_true, Bool.not_false, Nat.add_zero, Nat.zero_add, Nat.reduceAdd]
      refine wpPi_move _ rfl rfl ?_
      simp only [pl, pn, el, ec, sz, ss, gz, gs, if_true, if_false, Bool.false_eq_true, Bool.not_true, Bool.not_false, Nat.add_zero, Nat.zero_add, Nat.reduceAdd]
      refine wpPi_move _ rfl rfl ?_
      simp only [pl, pn, el, ec, sz, ss, gz, gs, if_true, if_false, Bool.false_eq_true, Bool.not_true, Bool.not_false, Nat.add_zero, Nat.zero_add, Nat.reduceAdd]
      refine wpPi_index _ _ _ _ _ _ _ _ _ rfl rfl rfl rfl Try.underlying22 (n := 2) (by kernel_rfl) hjl ?_
      simp only [pl, pn, el, ec, sz, ss, gz, gs, if_true, if_false, Bool.false_eq_true, Bool.not_true, Bool.not_false, Nat.add_zero, Nat.zero_add, Nat.reduceAdd]
      refine wpPi_do rfl (fun K hK => ?_)
      refine wp_exec (exec_loadA 35 _ (by rfl) ba (offa + j * 2) (by rfl) (entEnc y).toArray hc _ Try.underlying35 rfl 2 (by kernel_rfl) rfl) ?_
      refine hK _ _ trivial ?_
      clear hK K
      try simp only [pl, pn, el, ec, sz, ss, gz, gs, if_true, if_false, Bool.false_eq_true, Bool.not_true, Bool.not_false, Nat.add_zero, Nat.zero_add, Nat.reduceAdd]
      refine wpPi_do rfl (fun K hK => ?_)
      refine wp_buildSlice1 22 35 _ (.agg (entEnc y).toArray) (.agg #[.string ⟨#[]⟩, .slice none 0 0]) 2 (by rfl) (by rfl) Try.underlying22 entry_i2 (by omega) (by omega) rfl (fun w5 hB5 hm5 hs5 => ?_)
      replace hB5 : w5.heap[wr.heap.size]? = some (.cells (entEnc y).toArray 35 (0, 0)) := hB5
      refine hK _ _ trivial ?_
      clear hK K
      try simp only [pl, pn, el, ec, sz, ss, gz, gs, if_true, if_false, Bool.false_eq_true, Bool.not_true, Bool.not_false, Nat.add_zero, Nat.zero_add, Nat.reduceAdd]
      refine wpPi_do rfl (fun K hK => ?_)
      refine wp_gs _ _ (by rfl) (by rfl) (HGS.out.keep0 hm5 (fun x e h => EntX.keep h hm5 (fun _ _ => id))) wr.heap.size y x (by rfl) hB5 (EntX.keep HY.out hm5 (fun _ _ => id)) hbl (by have := hmr.size; have := hm5.size; omega) (fun xs w' x e hg hm h => EntX.keep h hm (fun k hk e => by have := (hg.lt e).1; omega)) (fun v6 w6 hg6 hm6 => ?_)
      rw [← HTK.out] at hg6
      have hM6 : Mod NoB w3 w6 := (hmr.trans0 hm5).trans hm6 (fun k hk e => by
        have h1 := (HGS.out.lt e).1
        omega)
      replace hc0 := hm6.cell (fun e => by have h1 := (HGS.out.lt e).1; omega) (hm5.cell id hc0)
      refine hK _ _ trivial ?_
      clear hK K
      try simp only [pl, pn, el, ec, sz, ss, gz, gs, if_true, if_false, Bool.false_eq_true, Bool.not_true, Bool.not_false, Nat.add_zero, Nat.zero_add, Nat.reduceAdd]
      refine wpPi_assign _ rfl rfl ?_
      simp only [pl, pn, el, ec, sz, ss, gz, gs, if_true, if_false, Bool.false_eq_true, Bool.not_true, Bool.not_false, Nat.add_zero, Nat.zero_add, Nat.reduceAdd]
      refine wpPi_nil ?_
      clear hmr hm5 hm6 hB5 HGS HY HTK hc
      go_upto_region 10 with (fail)
      cases th
      · skip
        refine wp_region_seq [3, 3, 3, 3, 3, 3, 1, 3, 0, 3, 3] (fun _ => True) (by rfl) (by rfl) trivial ?_
        simp only [List.zip_cons_cons, List.zip_nil_right]
        refine wpPi_move _ rfl rfl ?_
        simp only [pl, pn, el, ec, sz, ss, gz, gs, if_true, if_false, Bool.false_eq_true, Bool.not_true, Bool.not_false, Nat.add_zero, Nat.zero_add, Nat.reduceAdd]
        refine wpPi_move _ rfl rfl ?_
        simp only [pl, pn, el, ec, sz, ss, gz, gs, if_true, if_false, Bool.false_eq_true, Bool.not_true, Bool.not_false, Nat.add_zero, Nat.zero_add, Nat.reduceAdd]
        refine wpPi_move _ rfl rfl ?_
        simp only [pl, pn, el, ec, sz, ss, gz, gs, if_true, if_false, Bool.false_eq_true, Bool.not_true, Bool.not_false, Nat.add_zero, Nat.zero_add, Nat.reduceAdd]
        refine wpPi_move _ rfl rfl ?_
        simp only [pl, pn, el, ec, sz, ss, gz, gs, if_true, if_false, Bool.false_eq_true, Bool.not_true, Bool.not_false, Nat.add_zero, Nat.zero_add, Nat.reduceAdd]
        refine wpPi_index _ _ _ _ _ _ _ _ _ rfl rfl rfl rfl Try.underlying22 (n := 2) (by kernel_rfl) hjl ?_
        simp only [pl, pn, el, ec, sz, ss, gz, gs, if_true, if_false, Bool.false_eq_true, Bool.not_true, Bool.not_false, Nat.add_zero, Nat.zero_add, Nat.reduceAdd]
        refine wpPi_field _ _ _ _ _ _ rfl rfl rfl fo_35_0 ?_
        simp only [pl, pn, el, ec, sz, ss, gz, gs, if_true, if_false, Bool.false_eq_true, Bool.not_true, Bool.not_false, Nat.add_zero, Nat.zero_add, Nat.reduceAdd]
        refine wpPi_do rfl (fun K hK => ?_)
        refine wp_exec (exec_load1 9 _ (by rfl) ba (offa + j * 2) (by rfl) _ hc0 _ Try.underlying9 rfl) ?_
        refine hK _ _ trivial ?_
        clear hK K
        try simp only [pl, pn, el, ec, sz, ss, gz, gs, if_true, if_false, Bool.false_eq_true, Bool.not_true, Bool.not_false, Nat.add_zero, Nat.zero_add, Nat.reduceAdd]
        refine wpPi_move _ rfl rfl ?_
        simp only [pl, pn, el, ec, sz, ss, gz, gs, if_true, if_false, Bool.false_eq_true, Bool.not_true, Bool.not_false, Nat.add_zero, Nat.zero_add, Nat.reduceAdd]
        refine wpPi_val rfl (fun w' hS => exec_eql_str _ _ _ _ rfl y.1 key rfl rfl (decide (x.1 = key)) (by rw [hy1.out])) ?_
        simp only [pl, pn, el, ec, sz, ss, gz, gs, if_true, if_false, Bool.false_eq_true, Bool.not_true, Bool.not_false, Nat.add_zero, Nat.zero_add, Nat.reduceAdd]
        refine wpPi_pick _ _ _ _ rfl rfl rfl ?_
        simp only [pl, pn, el, ec, sz, ss, gz, gs, if_true, if_false, Bool.false_eq_true, Bool.not_true, Bool.not_false, Nat.add_zero, Nat.zero_add, Nat.reduceAdd]
        refine wpPi_assign _ rfl rfl ?_
        simp only [pl, pn, el, ec, sz, ss, gz, gs, if_true, if_false, Bool.false_eq_true, Bool.not_true, Bool.not_false, Nat.add_zero, Nat.zero_add, Nat.reduceAdd]
        refine wpPi_nil ?_
        go_wp2
        go_roundw
        case rel => exact ⟨m + 1, by omega, by rw [show ((l.length : Int) - 1 - ((m + 1 : Nat) : Int)) = (j : Int) - 1 by omega], by rw [HSU.out]; rfl, hg6, hM6⟩
        case measure => simp [intOf] <;> omega
      · skip
        refine wp_region_seq [3, 3, 3, 3, 3, 3, 0, 3, 3, 3, 3] (fun _ => True) (by rfl) (by rfl) trivial ?_
        simp only [List.zip_cons_cons, List.zip_nil_right]
        refine wpPi_move _ rfl rfl ?_
        simp only [pl, pn, el, ec, sz, ss, gz, gs, if_true, if_false, Bool.false_eq_true, Bool.not_true, Bool.not_false, Nat.add_zero, Nat.zero_add, Nat.reduceAdd]
        refine wpPi_move _ rfl rfl ?_
        simp only [pl, pn, el, ec, sz, ss, gz, gs, if_true, if_false, Bool.false_eq_true, Bool.not_true, Bool.not_false, Nat.add_zero, Nat.zero_add, Nat.reduceAdd]
        refine wpPi_skip rfl ?_
        simp only [pl, pn, el, ec, sz, ss, gz, gs, if_true, if_false, Bool.false_eq_true, Bool.not_true, Bool.not_false, Nat.add_zero, Nat.zero_add, Nat.reduceAdd]
        refine wpPi_skip rfl ?_
        simp only [pl, pn, el, ec, sz, ss, gz, gs, if_true, if_false, Bool.false_eq_true, Bool.not_true, Bool.not_false, Nat.add_zero, Nat.zero_add, Nat.reduceAdd]
        refine wpPi_skip rfl ?_
        simp only [pl, pn, el, ec, sz, ss, gz, gs, if_true, if_false, Bool.false_eq_true, Bool.not_true, Bool.not_false, Nat.add_zero, Nat.zero_add, Nat.reduceAdd]
        refine wpPi_skip rfl ?_
        simp only [pl, pn, el, ec, sz, ss, gz, gs, if_true, if_false, Bool.false_eq_true, Bool.not_true, Bool.not_false, Nat.add_zero, Nat.zero_add, Nat.reduceAdd]
        refine wpPi_skip0 rfl ?_
        simp only [pl, pn, el, ec, sz, ss, gz, gs, if_true, if_false, Bool.false_eq_true, Bool.not_true, Bool.not_false, Nat.add_zero, Nat.zero_add, Nat.reduceAdd]
        refine wpPi_skip rfl ?_
        simp only [pl, pn, el, ec, sz, ss, gz, gs, if_true, if_false, Bool.false_eq_true, Bool.not_true, Bool.not_false, Nat.add_zero, Nat.zero_add, Nat.reduceAdd]
        refine wpPi_skip rfl ?_
        simp only [pl, pn, el, ec, sz, ss, gz, gs, if_true, if_false, Bool.false_eq_true, Bool.not_true, Bool.not_false, Nat.add_zero, Nat.zero_add, Nat.reduceAdd]
        refine wpPi_pick _ _ _ _ rfl rfl rfl ?_
        simp only [pl, pn, el, ec, sz, ss, gz, gs, if_true, if_false, Bool.false_eq_true, Bool.not_true, Bool.not_false, Nat.add_zero, Nat.zero_add, Nat.reduceAdd]
        refine wpPi_assign _ rfl rfl ?_
        simp only [pl, pn, el, ec, sz, ss, gz, gs, if_true, if_false, Bool.false_eq_true, Bool.not_true, Bool.not_false, Nat.add_zero, Nat.zero_add, Nat.reduceAdd]
        refine wpPi_nil ?_
        go_wp2
        go_roundw
        case rel => exact ⟨m + 1, by omega, by rw [show ((l.length : Int) - 1 - ((m + 1 : Nat) : Int)) = (j : Int) - 1 by omega], by rw [HSU.out]; rfl, hg6, hM6⟩
        case measure => simp [intOf] <;> omega
    · obtain rfl : m = l.length := by omega
      have hi : ((l.length : Int) - 1 - (l.length : Int)) = -1 := by omega
      rw [hasK_rev, hi]
      clear hth hlt hm hi
      have hes : Es false wr Ever (.slice adb (l.reverse.take l.length).length capb) (l.reverse.take l.length) := HGS.out.es (fun _ _ h => EntX.ent h)
      rw [show l.reverse.take l.length = l.reverse by rw [show l.length = l.reverse.length by simp, List.take_length]] at hes ⊢
      rw [List.length_reverse] at hes ⊢
      have HBK := Lib.hid hes
      replace HA := Lib.hid (HA.out.keep0 hmr)
      replace HV := Lib.hid (HV.out.keep0 hmr)
      have hM4 := hM3.trans0 hmr
      clear hes HGS hgs hmr hM3
      have hca := HCK.out
      have hcb : chkE l.reverse = 0 := by rw [chk_rev]; exact hca
      have hra := rootOut_zero hca
      have hrb : rootOut l.reverse = rootE l := by rw [rootOut_zero hcb, root_rev]
      have hRl : (rootE l).length = 32 := dig_len rfl (lie_of_chk hca)
      have hRb : (idCells (rootE l)).size = 32 := by rw [idCells_size, hRl]
      have hshb : Short l.reverse := fun e he => hsh e (List.mem_reverse.1 he)
      have hlb : l.reverse.length ≤ 4096 := by rw [List.length_reverse]; exact hla
      go_upto_region 11 with (fail)
      refine wp_region_seq [3, 1, 3, 3, 3, 1, 1, 3] (fun _ => True) (by rfl) (by rfl) trivial ?_
      simp only [List.zip_cons_cons, List.zip_nil_right]
      refine wpPi_move _ rfl rfl ?_
      simp only [pl, pn, el, ec, sz, ss, gz, gs, if_true, if_false, Bool.false_eq_true, Bool.not_true, Bool.not_false, Nat.add_zero, Nat.zero_add, Nat.reduceAdd]
      refine wpPi_do rfl (fun K hK => ?_)
      refine wp_enterQ (run_call 17 [.tmp 67] _ rfl _ Try.func17 rfl (by kernel_rfl) [.slice aa l.length ca] rfl _) (root_any HA.out hsh hla) ?_
      rintro e w6 ⟨rfl, hm6⟩
      rw [hca, hra]
      refine ⟨_, rfl, hK _ _ trivial ?_⟩
      clear hK K
      try simp only [pl, pn, el, ec, sz, ss, gz, gs, if_true, if_false, Bool.false_eq_true, Bool.not_true, Bool.not_false, Nat.add_zero, Nat.zero_add, Nat.reduceAdd]
      refine wpPi_move _ rfl rfl ?_
      simp only [pl, pn, el, ec, sz, ss, gz, gs, if_true, if_false, Bool.false_eq_true, Bool.not_true, Bool.not_false, Nat.add_zero, Nat.zero_add, Nat.reduceAdd]
      refine wpPi_any (v := ?_) rfl (fun w' => ?_) ?_; rotate_left; · (go_simp; try with_reducible rfl)
      simp only [pl, pn, el, ec, sz, ss, gz, gs, if_true, if_false, Bool.false_eq_true, Bool.not_true, Bool.not_false, Nat.add_zero, Nat.zero_add, Nat.reduceAdd]
      refine wpPi_any (v := ?_) rfl (fun w' => ?_) ?_; rotate_left; · (go_simp; try with_reducible rfl)
      simp only [pl, pn, el, ec, sz, ss, gz, gs, if_true, if_false, Bool.false_eq_true, Bool.not_true, Bool.not_false, Nat.add_zero, Nat.zero_add, Nat.reduceAdd]
      refine wpPi_do rfl (fun K hK => ?_)
      refine wp_alloc 38 _ (by rfl) idZ (fun w7 hB7 hm7 hs7 => ?_)
      replace hB7 : w7.heap[w6.heap.size]? = some (.cells (idCells (List.replicate 32 0)) 38 (0, 0)) := hB7
      refine hK _ _ trivial ?_
      clear hK K
      try simp only [pl, pn, el, ec, sz, ss, gz, gs, if_true, if_false, Bool.false_eq_true, Bool.not_true, Bool.not_false, Nat.add_zero, Nat.zero_add, Nat.reduceAdd]
      refine wpPi_do rfl (fun K hK => ?_)
      refine wp_storeA 38 _ _ w6.heap.size 0 (idCells (rootE l)) (by rfl) (by rfl) (by rfl) (idCells_one _) 32 (by kernel_rfl) hRb _ _ hB7 (by rw [hRb, idCells_size]; simp) (fun w8 hB13 hm8 => ?_)
      rw [putRow_whole (by rw [hRb, idCells_size]; rfl)] at hB13
      refine hK _ _ trivial ?_
      clear hK K
      try simp only [pl, pn, el, ec, sz, ss, gz, gs, if_true, if_false, Bool.false_eq_true, Bool.not_true, Bool.not_false, Nat.add_zero, Nat.zero_add, Nat.reduceAdd]
      refine wpPi_assign _ rfl rfl ?_
      simp only [pl, pn, el, ec, sz, ss, gz, gs, if_true, if_false, Bool.false_eq_true, Bool.not_true, Bool.not_false, Nat.add_zero, Nat.zero_add, Nat.reduceAdd]
      refine wpPi_nil ?_
      have hM8 : Mod NoB wr w8 := (hm6.trans0 hm7).transB hm8 hm6.size
      have hMw8 := hM4.trans0 hM8
      replace HA := Lib.hid (HA.out.keep0 hM8)
      replace HBK := Lib.hid (HBK.out.keep0 hM8)
      replace HV := Lib.hid (HV.out.keep0 hM8)
      generalize w6.heap.size = b13 at *
      clear hm6 hm7 hm8 hB7 hM8 hM4 hra
      go_upto_region 12 with (fail)
      refine wp_region_seq [3, 1, 3, 3, 3, 1, 1, 3] (fun _ => True) (by rfl) (by rfl) trivial ?_
      simp only [List.zip_cons_cons, List.zip_nil_right]
      refine wpPi_move _ rfl rfl ?_
      simp only [pl, pn, el, ec, sz, ss, gz, gs, if_true, if_false, Bool.false_eq_true, Bool.not_true, Bool.not_false, Nat.add_zero, Nat.zero_add, Nat.reduceAdd]
      refine wpPi_do rfl (fun K hK => ?_)
      refine wp_enterQ (run_call 17 [.tmp 72] _ rfl _ Try.func17 rfl (by kernel_rfl) [.slice adb l.length capb] rfl _) (root_any HBK.out hshb hlb) ?_
      rintro e w6 ⟨rfl, hm6⟩
      rw [hcb, hrb]
      refine ⟨_, rfl, hK _ _ trivial ?_⟩
      clear hK K
      try simp only [pl, pn, el, ec, sz, ss, gz, gs, if_true, if_false, Bool.false_eq_true, Bool.not_true, Bool.not_false, Nat.add_zero, Nat.zero_add, Nat.reduceAdd]
      refine wpPi_move _ rfl rfl ?_
      simp only [pl, pn, el, ec, sz, ss, gz, gs, if_true, if_false, Bool.false_eq_true, Bool.not_true, Bool.not_false, Nat.add_zero, Nat.zero_add, Nat.reduceAdd]
      refine wpPi_any (v := ?_) rfl (fun w' => ?_) ?_; rotate_left; · (go_simp; try with_reducible rfl)
      simp only [pl, pn, el, ec, sz, ss, gz, gs, if_true, if_false, Bool.false_eq_true, Bool.not_true, Bool.not_false, Nat.add_zero, Nat.zero_add, Nat.reduceAdd]
      refine wpPi_any (v := ?_) rfl (fun w' => ?_) ?_; rotate_left; · (go_simp; try with_reducible rfl)
      simp only [pl, pn, el, ec, sz, ss, gz, gs, if_true, if_false, Bool.false_eq_true, Bool.not_true, Bool.not_false, Nat.add_zero, Nat.zero_add, Nat.reduceAdd]
      refine wpPi_do rfl (fun K hK => ?_)
      refine wp_alloc 38 _ (by rfl) idZ (fun w7 hB7 hm7 hs7 => ?_)
      replace hB7 : w7.heap[w6.heap.size]? = some (.cells (idCells (List.replicate 32 0)) 38 (0, 0)) := hB7
      refine hK _ _ trivial ?_
      clear hK K
      try simp only [pl, pn, el, ec, sz, ss, gz, gs, if_true, if_false, Bool.false_eq_true, Bool.not_true, Bool.not_false, Nat.add_zero, Nat.zero_add, Nat.reduceAdd]
      refine wpPi_do rfl (fun K hK => ?_)
      refine wp_storeA 38 _ _ w6.heap.size 0 (idCells (rootE l)) (by rfl) (by rfl) (by rfl) (idCells_one _) 32 (by kernel_rfl) hRb _ _ hB7 (by rw [hRb, idCells_size]; simp) (fun w9 hB15 hm9 => ?_)
      rw [putRow_whole (by rw [hRb, idCells_size]; rfl)] at hB15
      refine hK _ _ trivial ?_
      clear hK K
      try simp only [pl, pn, el, ec, sz, ss, gz, gs, if_true, if_false, Bool.false_eq_true, Bool.not_true, Bool.not_false, Nat.add_zero, Nat.zero_add, Nat.reduceAdd]
      refine wpPi_assign _ rfl rfl ?_
      simp only [pl, pn, el, ec, sz, ss, gz, gs, if_true, if_false, Bool.false_eq_true, Bool.not_true, Bool.not_false, Nat.add_zero, Nat.zero_add, Nat.reduceAdd]
      refine wpPi_nil ?_
      have hM9 : Mod NoB w8 w9 := (hm6.trans0 hm7).transB hm9 hm6.size
      generalize w6.heap.size = b15 at *
      clear hm6 hm7 hm9 hB7 hrb hcb HBK hshb hlb
      go_upto_region 13 with (fail)
      refine wp_region_seq [3, 3, 1, 3, 3, 3, 3, 3] (fun _ => True) (by rfl) (by rfl) trivial ?_
      simp only [List.zip_cons_cons, List.zip_nil_right]
      refine wpPi_move _ rfl rfl ?_
      simp only [pl, pn, el, ec, sz, ss, gz, gs, if_true, if_false, Bool.false_eq_true, Bool.not_true, Bool.not_false, Nat.add_zero, Nat.zero_add, Nat.reduceAdd]
      refine wpPi_move _ rfl rfl ?_
      simp only [pl, pn, el, ec, sz, ss, gz, gs, if_true, if_false, Bool.false_eq_true, Bool.not_true, Bool.not_false, Nat.add_zero, Nat.zero_add, Nat.reduceAdd]
      refine wpPi_do rfl (fun K hK => ?_)
      refine wp_enterQ (run_call 18 [.tmp 77, .tmp 78] _ rfl _ Try.func18 rfl (by kernel_rfl) [.slice aa l.length ca, .string key] rfl _) (treePath_any (HA.out.keep0 hM9) hsh hla key (by omega)) ?_
      rintro e w10 ⟨v10, rfl, hg10, hm10⟩
      obtain ⟨ad10, cap10, rfl⟩ := hg10.slice
      refine ⟨_, rfl, hK _ _ trivial ?_⟩
      clear hK K
      try simp only [pl, pn, el, ec, sz, ss, gz, gs, if_true, if_false, Bool.false_eq_true, Bool.not_true, Bool.not_false, Nat.add_zero, Nat.zero_add, Nat.reduceAdd]
      refine wpPi_move _ rfl rfl ?_
      simp only [pl, pn, el, ec, sz, ss, gz, gs, if_true, if_false, Bool.false_eq_true, Bool.not_true, Bool.not_false, Nat.add_zero, Nat.zero_add, Nat.reduceAdd]
      refine wpPi_any (v := ?_) rfl (fun w' => ?_) ?_; rotate_left; · (go_simp; try with_reducible rfl)
      simp only [pl, pn, el, ec, sz, ss, gz, gs, if_true, if_false, Bool.false_eq_true, Bool.not_true, Bool.not_false, Nat.add_zero, Nat.zero_add, Nat.reduceAdd]
      refine wpPi_any (v := ?_) rfl (fun w' => ?_) ?_; rotate_left; · (go_simp; try with_reducible rfl)
      simp only [pl, pn, el, ec, sz, ss, gz, gs, if_true, if_false, Bool.false_eq_true, Bool.not_true, Bool.not_false, Nat.add_zero, Nat.zero_add, Nat.reduceAdd]
      refine wpPi_assign _ rfl rfl ?_
      simp only [pl, pn, el, ec, sz, ss, gz, gs, if_true, if_false, Bool.false_eq_true, Bool.not_true, Bool.not_false, Nat.add_zero, Nat.zero_add, Nat.reduceAdd]
      refine wpPi_assign _ rfl rfl ?_
      simp only [pl, pn, el, ec, sz, ss, gz, gs, if_true, if_false, Bool.false_eq_true, Bool.not_true, Bool.not_false, Nat.add_zero, Nat.zero_add, Nat.reduceAdd]
      refine wpPi_nil ?_
      have hM10 := hM9.trans0 hm10
      have hMw10 := hMw8.trans0 hM10
      replace hB13 := hM10.obj id hB13
      replace hB15 := hm10.obj id hB15
      replace HA := Lib.hid (HA.out.keep0 hM10)
      replace HV := Lib.hid (HV.out.keep0 hM10)
      have hep := errP_of hca key
      obtain ⟨hk, hhk⟩ : ∃ b, hasK l key = b := ⟨_, rfl⟩
      obtain ⟨ep, hee⟩ : ∃ b, errP l key = b := ⟨_, rfl⟩
      rw [hhk, hee] at hep ⊢
      have HEP := Lib.hid hep
      clear hg10 hm10 hM9 hM10 hMw8 hca hep hhk hee
      go_upto_region 14 with (fail)
      go_cut [106] (fun s wx => s = .bool false ∧ wx = w10)
      case first =>
        have hep := HEP.out
        have hS : Mod NoB w10 w10 := Mod.refl _ _
        cases hk
        · obtain rfl : ep = 26 := hep
          refine wp_region_seq [3, 3, 3, 3, 3, 3, 3, 0, 0, 0, 3, 3, 3, 3, 3, 3, 3, 3, 3, 3, 3, 3, 3, 3, 3] (fun w' => Mod NoB w10 w') (by rfl) (by rfl) hS ?_
          simp only [List.zip_cons_cons, List.zip_nil_right]
          refine wpPi_move _ rfl rfl ?_
          simp only [pl, pn, el, ec, sz, ss, gz, gs, if_true, if_false, Bool.false_eq_true, Bool.not_true, Bool.not_false, Nat.add_zero, Nat.zero_add, Nat.reduceAdd]
          refine wpPi_cmp _ _ _ _ _ _ _ _ rfl rfl rfl rfl rfl false rfl ?_
          simp only [pl, pn, el, ec, sz, ss, gz, gs, if_true, if_false, Bool.false_eq_true, Bool.not_true, Bool.not_false, Nat.add_zero, Nat.zero_add, Nat.reduceAdd]
          refine wpPi_move _ rfl rfl ?_
          simp only [pl, pn, el, ec, sz, ss, gz, gs, if_true, if_false, Bool.false_eq_true, Bool.not_true, Bool.not_false, Nat.add_zero, Nat.zero_add, Nat.reduceAdd]
          refine wpPi_move _ rfl rfl ?_
          simp only [pl, pn, el, ec, sz, ss, gz, gs, if_true, if_false, Bool.false_eq_true, Bool.not_true, Bool.not_false, Nat.add_zero, Nat.zero_add, Nat.reduceAdd]
          refine wpPi_cmp _ _ _ _ _ _ _ _ rfl rfl rfl rfl rfl false rfl ?_
          simp only [pl, pn, el, ec, sz, ss, gz, gs, if_true, if_false, Bool.false_eq_true, Bool.not_true, Bool.not_false, Nat.add_zero, Nat.zero_add, Nat.reduceAdd]
          refine wpPi_pick _ _ _ _ rfl rfl rfl ?_
          simp only [pl, pn, el, ec, sz, ss, gz, gs, if_true, if_false, Bool.false_eq_true, Bool.not_true, Bool.not_false, Nat.add_zero, Nat.zero_add, Nat.reduceAdd]
          refine wpPi_move _ rfl rfl ?_
          simp only [pl, pn, el, ec, sz, ss, gz, gs, if_true, if_false, Bool.false_eq_true, Bool.not_true, Bool.not_false, Nat.add_zero, Nat.zero_add, Nat.reduceAdd]
          refine wpPi_val rfl (fun w' hS => exec_loadA 38 _ (by rfl) b13 0 (by rfl) (idCells (rootE l)) ((CellsAt.whole hB13).keep hS id) _ Try.underlying38 rfl 32 (by kernel_rfl) hRb) ?_
          simp only [pl, pn, el, ec, sz, ss, gz, gs, if_true, if_false, Bool.false_eq_true, Bool.not_true, Bool.not_false, Nat.add_zero, Nat.zero_add, Nat.reduceAdd]
          refine wpPi_val rfl (fun w' hS => exec_loadA 38 _ (by rfl) b15 0 (by rfl) (idCells (rootE l)) ((CellsAt.whole hB15).keep hS id) _ Try.underlying38 rfl 32 (by kernel_rfl) hRb) ?_
          simp only [pl, pn, el, ec, sz, ss, gz, gs, if_true, if_false, Bool.false_eq_true, Bool.not_true, Bool.not_false, Nat.add_zero, Nat.zero_add, Nat.reduceAdd]
          refine wpPi_val rfl (fun w' hS => exec_neq_id _ _ _ _ rfl _ _ rfl rfl 32 5 Try.underlying38 Try.underlying5 (by kernel_rfl) (by kernel_rfl) hRl hRl false (decide_eq_false (fun h => h rfl))) ?_
          simp only [pl, pn, el, ec, sz, ss, gz, gs, if_true, if_false, Bool.false_eq_true, Bool.not_true, Bool.not_false, Nat.add_zero, Nat.zero_add, Nat.reduceAdd]
          refine wpPi_pick _ _ _ _ rfl rfl rfl ?_
          simp only [pl, pn, el, ec, sz, ss, gz, gs, if_true, if_false, Bool.false_eq_true, Bool.not_true, Bool.not_false, Nat.add_zero, Nat.zero_add, Nat.reduceAdd]
          refine wpPi_move _ rfl rfl ?_
          simp only [pl, pn, el, ec, sz, ss, gz, gs, if_true, if_false, Bool.false_eq_true, Bool.not_true, Bool.not_false, Nat.add_zero, Nat.zero_add, Nat.reduceAdd]
          refine wpPi_move _ rfl rfl ?_
          simp only [pl, pn, el, ec, sz, ss, gz, gs, if_true, if_false, Bool.false_eq_true, Bool.not_true, Bool.not_false, Nat.add_zero, Nat.zero_add, Nat.reduceAdd]
          refine wpPi_move _ rfl rfl ?_
          simp only [pl, pn, el, ec, sz, ss, gz, gs, if_true, if_false, Bool.false_eq_true, Bool.not_true, Bool.not_false, Nat.add_zero, Nat.zero_add, Nat.reduceAdd]
          refine wpPi_cmp _ _ _ _ _ _ _ _ rfl rfl rfl rfl rfl false rfl ?_
          simp only [pl, pn, el, ec, sz, ss, gz, gs, if_true, if_false, Bool.false_eq_true, Bool.not_true, Bool.not_false, Nat.add_zero, Nat.zero_add, Nat.reduceAdd]
          refine wpPi_any rfl (fun w' => exec_neq_bool _ _ _ false rfl rfl rfl) ?_
          simp only [pl, pn, el, ec, sz, ss, gz, gs, if_true, if_false, Bool.false_eq_true, Bool.not_true, Bool.not_false, Nat.add_zero, Nat.zero_add, Nat.reduceAdd]
          refine wpPi_pick _ _ _ _ rfl rfl rfl ?_
          simp only [pl, pn, el, ec, sz, ss, gz, gs, if_true, if_false, Bool.false_eq_true, Bool.not_true, Bool.not_false, Nat.add_zero, Nat.zero_add, Nat.reduceAdd]
          refine wpPi_move _ rfl rfl ?_
          simp only [pl, pn, el, ec, sz, ss, gz, gs, if_true, if_false, Bool.false_eq_true, Bool.not_true, Bool.not_false, Nat.add_zero, Nat.zero_add, Nat.reduceAdd]
          refine wpPi_move _ rfl rfl ?_
          simp only [pl, pn, el, ec, sz, ss, gz, gs, if_true, if_false, Bool.false_eq_true, Bool.not_true, Bool.not_false, Nat.add_zero, Nat.zero_add, Nat.reduceAdd]
          refine wpPi_not _ _ _ rfl rfl rfl ?_
          simp only [pl, pn, el, ec, sz, ss, gz, gs, if_true, if_false, Bool.false_eq_true, Bool.not_true, Bool.not_false, Nat.add_zero, Nat.zero_add, Nat.reduceAdd]
          refine wpPi_move _ rfl rfl ?_
          simp only [pl, pn, el, ec, sz, ss, gz, gs, if_true, if_false, Bool.false_eq_true, Bool.not_true, Bool.not_false, Nat.add_zero, Nat.zero_add, Nat.reduceAdd]
          refine wpPi_move _ rfl rfl ?_
          simp only [pl, pn, el, ec, sz, ss, gz, gs, if_true, if_false, Bool.false_eq_true, Bool.not_true, Bool.not_false, Nat.add_zero, Nat.zero_add, Nat.reduceAdd]
          refine wpPi_cmp _ _ _ _ _ _ _ _ rfl rfl rfl rfl rfl false rfl ?_
          simp only [pl, pn, el, ec, sz, ss, gz, gs, if_true, if_false, Bool.false_eq_true, Bool.not_true, Bool.not_false, Nat.add_zero, Nat.zero_add, Nat.reduceAdd]
          refine wpPi_pick _ _ _ _ rfl rfl rfl ?_
          simp only [pl, pn, el, ec, sz, ss, gz, gs, if_true, if_false, Bool.false_eq_true, Bool.not_true, Bool.not_false, Nat.add_zero, Nat.zero_add, Nat.reduceAdd]
          refine wpPi_pick _ _ _ _ rfl rfl rfl ?_
          simp only [pl, pn, el, ec, sz, ss, gz, gs, if_true, if_false, Bool.false_eq_true, Bool.not_true, Bool.not_false, Nat.add_zero, Nat.zero_add, Nat.reduceAdd]
          refine wpPi_nil ?_
          go_wp2
          go_meet
          case rel => exact ⟨rfl, rfl⟩
        · obtain rfl : ep = 0 := hep
          refine wp_region_seq [3, 3, 3, 3, 3, 3, 3, 0, 0, 0, 3, 3, 3, 3, 3, 3, 3, 3, 3, 3, 3, 3, 3, 3, 3] (fun w' => Mod NoB w10 w') (by rfl) (by rfl) hS ?_
          simp only [List.zip_cons_cons, List.zip_nil_right]
          refine wpPi_move _ rfl rfl ?_
          simp only [pl, pn, el, ec, sz, ss, gz, gs, if_true, if_false, Bool.false_eq_true, Bool.not_true, Bool.not_false, Nat.add_zero, Nat.zero_add, Nat.reduceAdd]
          refine wpPi_cmp _ _ _ _ _ _ _ _ rfl rfl rfl rfl rfl false rfl ?_
          simp only [pl, pn, el, ec, sz, ss, gz, gs, if_true, if_false, Bool.false_eq_true, Bool.not_true, Bool.not_false, Nat.add_zero, Nat.zero_add, Nat.reduceAdd]
          refine wpPi_move _ rfl rfl ?_
          simp only [pl, pn, el, ec, sz, ss, gz, gs, if_true, if_false, Bool.false_eq_true, Bool.not_true, Bool.not_false, Nat.add_zero, Nat.zero_add, Nat.reduceAdd]
          refine wpPi_move _ rfl rfl ?_
          simp only [pl, pn, el, ec, sz, ss, gz, gs, if_true, if_false, Bool.false_eq_true, Bool.not_true, Bool.not_false, Nat.add_zero, Nat.zero_add, Nat.reduceAdd]
          refine wpPi_cmp _ _ _ _ _ _ _ _ rfl rfl rfl rfl rfl false rfl ?_
          simp only [pl, pn, el, ec, sz, ss, gz, gs, if_true, if_false, Bool.false_eq_true, Bool.not_true, Bool.not_false, Nat.add_zero, Nat.zero_add, Nat.reduceAdd]
          refine wpPi_pick _ _ _ _ rfl rfl rfl ?_
          simp only [pl, pn, el, ec, sz, ss, gz, gs, if_true, if_false, Bool.false_eq_true, Bool.not_true, Bool.not_false, Nat.add_zero, Nat.zero_add, Nat.reduceAdd]
          refine wpPi_move _ rfl rfl ?_
          simp only [pl, pn, el, ec, sz, ss, gz, gs, if_true, if_false, Bool.false_eq_true, Bool.not_true, Bool.not_false, Nat.add_zero, Nat.zero_add, Nat.reduceAdd]
          refine wpPi_val rfl (fun w' hS => exec_loadA 38 _ (by rfl) b13 0 (by rfl) (idCells (rootE l)) ((CellsAt.whole hB13).keep hS id) _ Try.underlying38 rfl 32 (by kernel_rfl) hRb) ?_
          simp only [pl, pn, el, ec, sz, ss, gz, gs, if_true, if_false, Bool.false_eq_true, Bool.not_true, Bool.not_false, Nat.add_zero, Nat.zero_add, Nat.reduceAdd]
          refine wpPi_val rfl (fun w' hS => exec_loadA 38 _ (by rfl) b15 0 (by rfl) (idCells (rootE l)) ((CellsAt.whole hB15).keep hS id) _ Try.underlying38 rfl 32 (by kernel_rfl) hRb) ?_
          simp only [pl, pn, el, ec, sz, ss, gz, gs, if_true, if_false, Bool.false_eq_true, Bool.not_true, Bool.not_false, Nat.add_zero, Nat.zero_add, Nat.reduceAdd]
          refine wpPi_val rfl (fun w' hS => exec_neq_id _ _ _ _ rfl _ _ rfl rfl 32 5 Try.underlying38 Try.underlying5 (by kernel_rfl) (by kernel_rfl) hRl hRl false (decide_eq_false (fun h => h rfl))) ?_
          simp only [pl, pn, el, ec, sz, ss, gz, gs, if_true, if_false, Bool.false_eq_true, Bool.not_true, Bool.not_false, Nat.add_zero, Nat.zero_add, Nat.reduceAdd]
          refine wpPi_pick _ _ _ _ rfl rfl rfl ?_
          simp only [pl, pn, el, ec, sz, ss, gz, gs, if_true, if_false, Bool.false_eq_true, Bool.not_true, Bool.not_false, Nat.add_zero, Nat.zero_add, Nat.reduceAdd]
          refine wpPi_move _ rfl rfl ?_
          simp only [pl, pn, el, ec, sz, ss, gz, gs, if_true, if_false, Bool.false_eq_true, Bool.not_true, Bool.not_false, Nat.add_zero, Nat.zero_add, Nat.reduceAdd]
          refine wpPi_move _ rfl rfl ?_
          simp only [pl, pn, el, ec, sz, ss, gz, gs, if_true, if_false, Bool.false_eq_true, Bool.not_true, Bool.not_false, Nat.add_zero, Nat.zero_add, Nat.reduceAdd]
          refine wpPi_move _ rfl rfl ?_
          simp only [pl, pn, el, ec, sz, ss, gz, gs, if_true, if_false, Bool.false_eq_true, Bool.not_true, Bool.not_false, Nat.add_zero, Nat.zero_add, Nat.reduceAdd]
          refine wpPi_cmp _ _ _ _ _ _ _ _ rfl rfl rfl rfl rfl true rfl ?_
          simp only [pl, pn, el, ec, sz, ss, gz, gs, if_true, if_false, Bool.false_eq_true, Bool.not_true, Bool.not_false, Nat.add_zero, Nat.zero_add, Nat.reduceAdd]
          refine wpPi_any rfl (fun w' => exec_neq_bool _ _ _ true rfl rfl rfl) ?_
          simp only [pl, pn, el, ec, sz, ss, gz, gs, if_true, if_false, Bool.false_eq_true, Bool.not_true, Bool.not_false, Nat.add_zero, Nat.zero_add, Nat.reduceAdd]
          refine wpPi_pick _ _ _ _ rfl rfl rfl ?_
          simp only [pl, pn, el, ec, sz, ss, gz, gs, if_true, if_false, Bool.false_eq_true, Bool.not_true, Bool.not_false, Nat.add_zero, Nat.zero_add, Nat.reduceAdd]
          refine wpPi_move _ rfl rfl ?_
          simp only [pl, pn, el, ec, sz, ss, gz, gs, if_true, if_false, Bool.false_eq_true, Bool.not_true, Bool.not_false, Nat.add_zero, Nat.zero_add, Nat.reduceAdd]
          refine wpPi_move _ rfl rfl ?_
          simp only [pl, pn, el, ec, sz, ss, gz, gs, if_true, if_false, Bool.false_eq_true, Bool.not_true, Bool.not_false, Nat.add_zero, Nat.zero_add, Nat.reduceAdd]
          refine wpPi_not _ _ _ rfl rfl rfl ?_
          simp only [pl, pn, el, ec, sz, ss, gz, gs, if_true, if_false, Bool.false_eq_true, Bool.not_true, Bool.not_false, Nat.add_zero, Nat.zero_add, Nat.reduceAdd]
          refine wpPi_move _ rfl rfl ?_
          simp only [pl, pn, el, ec, sz, ss, gz, gs, if_true, if_false, Bool.false_eq_true, Bool.not_true, Bool.not_false, Nat.add_zero, Nat.zero_add, Nat.reduceAdd]
          refine wpPi_skip rfl ?_
          simp only [pl, pn, el, ec, sz, ss, gz, gs, if_true, if_false, Bool.false_eq_true, Bool.not_true, Bool.not_false, Nat.add_zero, Nat.zero_add, Nat.reduceAdd]
          refine wpPi_skip rfl ?_
          simp only [pl, pn, el, ec, sz, ss, gz, gs, if_true, if_false, Bool.false_eq_true, Bool.not_true, Bool.not_false, Nat.add_zero, Nat.zero_add, Nat.reduceAdd]
          refine wpPi_pick _ _ _ _ rfl rfl rfl ?_
          simp only [pl, pn, el, ec, sz, ss, gz, gs, if_true, if_false, Bool.false_eq_true, Bool.not_true, Bool.not_false, Nat.add_zero, Nat.zero_add, Nat.reduceAdd]
          refine wpPi_pick _ _ _ _ rfl rfl rfl ?_
          simp only [pl, pn, el, ec, sz, ss, gz, gs, if_true, if_false, Bool.false_eq_true, Bool.not_true, Bool.not_false, Nat.add_zero, Nat.zero_add, Nat.reduceAdd]
          refine wpPi_nil ?_
          go_wp2
          go_meet
          case rel => exact ⟨rfl, rfl⟩
      case rest =>
        obtain ⟨rfl, hw⟩ := hcut
        obtain rfl := hw.symm
        clear HEP hB15
        by_cases hl0 : l.length = 0
        · have hz0 : ((l.length : Nat) : Int) = 0 := by omega
          go_wp2
          go_ret
          exact ⟨rfl, hMw10⟩
        have hz0 : ¬ ((l.length : Nat) : Int) = 0 := by omega
        have hpk := pickZ_lt which (l.length : Int) (by omega)
        obtain ⟨p, hp⟩ : ∃ p : Nat, pickZ which (l.length : Int) = (p : Int) := ⟨(pickZ which (l.length : Int)).toNat, by omega⟩
        have hpl : p < l.length := by omega
        have HPK := Lib.hid hp
        obtain ⟨_, _, hv, -, hat⟩ := Sl.at HA.out
        cases hv
        obtain ⟨ba, offa, rfl, -, -, hc⟩ := hat p hpl
        obtain ⟨cs, hcs2, hec, hc⟩ := hc p hpl
        have hxm : l[p] ∈ l := List.getElem_mem hpl
        generalize l[p] = x at *
        have hxs := HSM.out.2 x hxm
        have hec1 : ∀ c ∈ cs, c.oneCell' = true := entC_one hec
        have HEC := Lib.hid hec
        obtain ⟨vx, rfl, hsx⟩ := hec
        obtain ⟨ax, cx, rfl, -, -⟩ := Sl.at hsx
        have hEPX : errP l x.1 = 0 := by rw [errP_of HCK.out, if_pos (hasK_mem hxm)]
        have hpf := path_fold HCK.out hxm
        have hps := path_sides HCK.out x.1
        have HPF := Lib.hid hpf.1
        have hpl2 := hpf.2
        have HPS := Lib.hid hps
        clear hat hp hpk hsx hpf hps
        go_upto_region 18 with (fail)
        refine wp_region_seq [3, 3, 3, 3, 1, 3, 1, 1, 1] (fun _ => True) (by rfl) (by rfl) trivial ?_
        simp only [List.zip_cons_cons, List.zip_nil_right]
        refine wpPi_move _ rfl rfl ?_
        simp only [pl, pn, el, ec, sz, ss, gz, gs, if_true, if_false, Bool.false_eq_true, Bool.not_true, Bool.not_false, Nat.add_zero, Nat.zero_add, Nat.reduceAdd]
        refine wpPi_move _ rfl rfl ?_
        simp only [pl, pn, el, ec, sz, ss, gz, gs, if_true, if_false, Bool.false_eq_true, Bool.not_true, Bool.not_false, Nat.add_zero, Nat.zero_add, Nat.reduceAdd]
        refine wpPi_move _ rfl rfl ?_
        simp only [pl, pn, el, ec, sz, ss, gz, gs, if_true, if_false, Bool.false_eq_true, Bool.not_true, Bool.not_false, Nat.add_zero, Nat.zero_add, Nat.reduceAdd]
        refine wpPi_len _ _ _ _ _ rfl rfl rfl (by kernel_rfl) ?_
        simp only [pl, pn, el, ec, sz, ss, gz, gs, if_true, if_false, Bool.false_eq_true, Bool.not_true, Bool.not_false, Nat.add_zero, Nat.zero_add, Nat.reduceAdd]
        refine wpPi_do rfl (fun K hK => ?_)
        refine wp_enterQ (run_call 22 [.tmp 112, .tmp 114] _ rfl _ Try.func22 rfl (by kernel_rfl) [.int .i64 which, .int .i64 (l.length : Int)] rfl _) (pick_any which (l.length : Int) HWH.out (by omega) _) ?_
        rintro e w11 ⟨rfl, hw⟩
        obtain rfl := hw.symm
        rw [HPK.out]
        refine ⟨_, rfl, hK _ _ trivial ?_⟩
        clear hK K
        try simp only [pl, pn, el, ec, sz, ss, gz, gs, if_true, if_false, Bool.false_eq_true, Bool.not_true, Bool.not_false, Nat.add_zero, Nat.zero_add, Nat.reduceAdd]
        refine wpPi_index _ _ _ _ _ _ _ _ _ rfl rfl rfl rfl Try.underlying22 (n := 2) (by kernel_rfl) hpl ?_
        simp only [pl, pn, el, ec, sz, ss, gz, gs, if_true, if_false, Bool.false_eq_true, Bool.not_true, Bool.not_false, Nat.add_zero, Nat.zero_add, Nat.reduceAdd]
        refine wpPi_do rfl (fun K hK => ?_)
        refine wp_exec (exec_loadA 35 _ (by rfl) ba (offa + p * 2) (by rfl) #[.string x.1, .slice ax x.2.length cx] hc _ Try.underlying35 rfl 2 (by kernel_rfl) rfl) ?_
        refine hK _ _ trivial ?_
        clear hK K
        try simp only [pl, pn, el, ec, sz, ss, gz, gs, if_true, if_false, Bool.false_eq_true, Bool.not_true, Bool.not_false, Nat.add_zero, Nat.zero_add, Nat.reduceAdd]
        refine wpPi_do rfl (fun K hK => ?_)
        refine wp_alloc 35 _ (by rfl) entryZ (fun w12 hB12 hm12 hs12 => ?_)
        replace hB12 : w12.heap[w10.heap.size]? = some (.cells #[.string ⟨#[]⟩, .slice none 0 0] 35 (0, 0)) := hB12
        refine hK _ _ trivial ?_
        clear hK K
        try simp only [pl, pn, el, ec, sz, ss, gz, gs, if_true, if_false, Bool.false_eq_true, Bool.not_true, Bool.not_false, Nat.add_zero, Nat.zero_add, Nat.reduceAdd]
        refine wpPi_do rfl (fun K hK => ?_)
        refine wp_storeA 35 _ _ w10.heap.size 0 #[.string x.1, .slice ax x.2.length cx] (by rfl) (by rfl) (by rfl) hec1 2 (by kernel_rfl) rfl _ _ hB12 (by simp) (fun w13 hB19 hm13 => ?_)
        rw [putRow_whole (by rfl)] at hB19
        refine hK _ _ trivial ?_
        clear hK K
        try simp only [pl, pn, el, ec, sz, ss, gz, gs, if_true, if_false, Bool.false_eq_true, Bool.not_true, Bool.not_false, Nat.add_zero, Nat.zero_add, Nat.reduceAdd]
        refine wpPi_nil ?_
        have hM13 := hm12.transB hm13 (Nat.le_refl _)
        have hMw13 := hMw10.trans0 hM13
        replace hB13 := hM13.obj id hB13
        replace HA := Lib.hid (HA.out.keep0 hM13)
        replace HV := Lib.hid (HV.out.keep0 hM13)
        replace HEC := Lib.hid (HEC.out.keep hM13 (fun _ _ => id))
        generalize w10.heap.size = b19 at *
        clear hm12 hm13 hB12 hM13 hMw10 hc HPK
        have hcb := CellsAt.whole hB19
        have hc190 := hcb.cell (j := 0) (v := .string x.1) rfl
        have hc191 := hcb.cell (j := 1) (v := .slice ax x.2.length cx) rfl
        simp only [Nat.zero_add] at hc190 hc191
        go_upto_region 19 with (fail)
        refine wp_region_seq [3, 3, 1, 1, 3, 3, 3, 3, 3] (fun _ => True) (by rfl) (by rfl) trivial ?_
        simp only [List.zip_cons_cons, List.zip_nil_right]
        refine wpPi_move _ rfl rfl ?_
        simp only [pl, pn, el, ec, sz, ss, gz, gs, if_true, if_false, Bool.false_eq_true, Bool.not_true, Bool.not_false, Nat.add_zero, Nat.zero_add, Nat.reduceAdd]
        refine wpPi_field _ _ _ _ _ _ rfl rfl rfl fo_35_0 ?_
        simp only [pl, pn, el, ec, sz, ss, gz, gs, if_true, if_false, Bool.false_eq_true, Bool.not_true, Bool.not_false, Nat.add_zero, Nat.zero_add, Nat.reduceAdd]
        refine wpPi_do rfl (fun K hK => ?_)
        refine wp_exec (exec_load1 9 _ (by rfl) b19 0 (by rfl) _ hc190 _ Try.underlying9 rfl) ?_
        refine hK _ _ trivial ?_
        clear hK K
        try simp only [pl, pn, el, ec, sz, ss, gz, gs, if_true, if_false, Bool.false_eq_true, Bool.not_true, Bool.not_false, Nat.add_zero, Nat.zero_add, Nat.reduceAdd]
        refine wpPi_do rfl (fun K hK => ?_)
        refine wp_enterQ (run_call 18 [.tmp 119, .tmp 121] _ rfl _ Try.func18 rfl (by kernel_rfl) [.slice (some ⟨ba, offa, none⟩) l.length ca, .string x.1] rfl _) (treePath_any HA.out hsh hla x.1 (by omega)) ?_
        rintro e w14 ⟨v14, rfl, hg14, hm14⟩
        rw [hEPX]
        have hss := gat_sides hg14 HPS.out
        obtain ⟨ad14, cap14, rfl⟩ := hg14.slice
        refine ⟨_, rfl, hK _ _ trivial ?_⟩
        clear hK K
        try simp only [pl, pn, el, ec, sz, ss, gz, gs, if_true, if_false, Bool.false_eq_true, Bool.not_true, Bool.not_false, Nat.add_zero, Nat.zero_add, Nat.reduceAdd]
        refine wpPi_move _ rfl rfl ?_
        simp only [pl, pn, el, ec, sz, ss, gz, gs, if_true, if_false, Bool.false_eq_true, Bool.not_true, Bool.not_false, Nat.add_zero, Nat.zero_add, Nat.reduceAdd]
        refine wpPi_any (v := ?_) rfl (fun w' => ?_) ?_; rotate_left; · (go_simp; try with_reducible rfl)
        simp only [pl, pn, el, ec, sz, ss, gz, gs, if_true, if_false, Bool.false_eq_true, Bool.not_true, Bool.not_false, Nat.add_zero, Nat.zero_add, Nat.reduceAdd]
        refine wpPi_any (v := ?_) rfl (fun w' => ?_) ?_; rotate_left; · (go_simp; try with_reducible rfl)
        simp only [pl, pn, el, ec, sz, ss, gz, gs, if_true, if_false, Bool.false_eq_true, Bool.not_true, Bool.not_false, Nat.add_zero, Nat.zero_add, Nat.reduceAdd]
        refine wpPi_assign _ rfl rfl ?_
        simp only [pl, pn, el, ec, sz, ss, gz, gs, if_true, if_false, Bool.false_eq_true, Bool.not_true, Bool.not_false, Nat.add_zero, Nat.zero_add, Nat.reduceAdd]
        refine wpPi_assign _ rfl rfl ?_
        simp only [pl, pn, el, ec, sz, ss, gz, gs, if_true, if_false, Bool.false_eq_true, Bool.not_true, Bool.not_false, Nat.add_zero, Nat.zero_add, Nat.reduceAdd]
        refine wpPi_nil ?_
        have HSS := Lib.hid hss
        obtain ⟨ps, hpp⟩ : ∃ q, pathOut l x.1 = q := ⟨_, rfl⟩
        rw [hpp] at HSS HPF hpl2 ⊢
        have hMw14 := hMw13.trans0 hm14
        replace hB13 := hm14.obj id hB13
        replace hB19 := hm14.obj id hB19
        replace hc190 := hm14.cell id hc190
        replace hc191 := hm14.cell id hc191
        replace HV := Lib.hid (HV.out.keep0 hm14)
        replace HEC := Lib.hid (HEC.out.keep hm14 (fun _ _ => id))
        have HPT := Lib.hid (show provesL (rootE l) (leafOf x) ps = true by rw [proves_fold hpl2, HPF.out]; exact decide_eq_true rfl)
        clear hm14 hMw13 hg14 hss HPS hpp hcb HA hEPX
        go_upto_region 20 with (fail)
        refine wp_region_seq [3, 3, 3, 1, 1, 3, 1, 3, 3] (fun _ => True) (by rfl) (by rfl) trivial ?_
        simp only [List.zip_cons_cons, List.zip_nil_right]
        refine wpPi_move _ rfl rfl ?_
        simp only [pl, pn, el, ec, sz, ss, gz, gs, if_true, if_false, Bool.false_eq_true, Bool.not_true, Bool.not_false, Nat.add_zero, Nat.zero_add, Nat.reduceAdd]
        refine wpPi_cmp _ _ _ _ _ _ _ _ rfl rfl rfl rfl rfl false rfl ?_
        simp only [pl, pn, el, ec, sz, ss, gz, gs, if_true, if_false, Bool.false_eq_true, Bool.not_true, Bool.not_false, Nat.add_zero, Nat.zero_add, Nat.reduceAdd]
        refine wpPi_move _ rfl rfl ?_
        simp only [pl, pn, el, ec, sz, ss, gz, gs, if_true, if_false, Bool.false_eq_true, Bool.not_true, Bool.not_false, Nat.add_zero, Nat.zero_add, Nat.reduceAdd]
        refine wpPi_do rfl (fun K hK => ?_)
        refine wp_exec (exec_loadA 38 _ (by rfl) b13 0 (by rfl) (idCells (rootE l)) (CellsAt.whole hB13) _ Try.underlying38 rfl 32 (by kernel_rfl) hRb) ?_
        refine hK _ _ trivial ?_
        clear hK K
        try simp only [pl, pn, el, ec, sz, ss, gz, gs, if_true, if_false, Bool.false_eq_true, Bool.not_true, Bool.not_false, Nat.add_zero, Nat.zero_add, Nat.reduceAdd]
        refine wpPi_do rfl (fun K hK => ?_)
        refine wp_exec (exec_loadA 35 _ (by rfl) b19 0 (by rfl) #[.string x.1, .slice ax x.2.length cx] (CellsAt.whole hB19) _ Try.underlying35 rfl 2 (by kernel_rfl) rfl) ?_
        refine hK _ _ trivial ?_
        clear hK K
        try simp only [pl, pn, el, ec, sz, ss, gz, gs, if_true, if_false, Bool.false_eq_true, Bool.not_true, Bool.not_false, Nat.add_zero, Nat.zero_add, Nat.reduceAdd]
        refine wpPi_move _ rfl rfl ?_
        simp only [pl, pn, el, ec, sz, ss, gz, gs, if_true, if_false, Bool.false_eq_true, Bool.not_true, Bool.not_false, Nat.add_zero, Nat.zero_add, Nat.reduceAdd]
        refine wpPi_do rfl (fun K hK => ?_)
        refine wp_enterQ (run_call 20 [.tmp 128, .tmp 129, .tmp 130] _ rfl _ Try.func20 rfl (by kernel_rfl) [.agg (idCells (rootE l)), .agg #[.string x.1, .slice ax x.2.length cx], .slice ad14 ps.length cap14] rfl _) (proves_any (rootE l) hRl HEC.out (by omega) (by omega) HSS.out) ?_
        rintro e w15 ⟨rfl, hm15⟩
        rw [HPT.out]
        refine ⟨_, rfl, hK _ _ trivial ?_⟩
        clear hK K
        try simp only [pl, pn, el, ec, sz, ss, gz, gs, if_true, if_false, Bool.false_eq_true, Bool.not_true, Bool.not_false, Nat.add_zero, Nat.zero_add, Nat.reduceAdd]
        refine wpPi_not _ _ _ rfl rfl rfl ?_
        simp only [pl, pn, el, ec, sz, ss, gz, gs, if_true, if_false, Bool.false_eq_true, Bool.not_true, Bool.not_false, Nat.add_zero, Nat.zero_add, Nat.reduceAdd]
        refine wpPi_pick _ _ _ _ rfl rfl rfl ?_
        simp only [pl, pn, el, ec, sz, ss, gz, gs, if_true, if_false, Bool.false_eq_true, Bool.not_true, Bool.not_false, Nat.add_zero, Nat.zero_add, Nat.reduceAdd]
        refine wpPi_nil ?_
        have hMw15 := hMw14.trans0 hm15
        replace hB13 := hm15.obj id hB13
        replace hc190 := hm15.cell id hc190
        replace hc191 := hm15.cell id hc191
        replace HV := Lib.hid (HV.out.keep0 hm15)
        replace HEC := Lib.hid (HEC.out.keep hm15 (fun _ _ => id))
        replace HSS := Lib.hid (Sl.keep0 HSS.out hm15)
        clear hm15 hMw14 hB19 HPT
        obtain ⟨_, hvv, hsx⟩ := HEC.out
        injection hvv with hvv
        injection hvv with _ hvv
        injection hvv with hvv _
        subst hvv
        have HSX := Lib.hid hsx
        clear hsx HEC
        go_upto_region 22 with (fail)
        go_cut [22] (fun s wx => s = .bool (decide (shaL vs = shaL x.2)) ∧ Mod NoB w15 wx)
        case first =>
          have hS : Mod NoB w15 w15.drew := (Mod.refl _ _).drew
          have hT := hS
          refine wp_region_tree [(0, 3), (2, 3), (3, 0)] 2 [(5, 0), (6, 3)] [] (fun w' => Mod NoB w15 w') #[true, false, true, true, false, false, false] (by kernel_rfl) (by kernel_rfl) (by kernel_rfl) (by kernel_rfl) (by kernel_rfl) (fun _ _ _ _ hd h => ⟨hd.trans h.1, h.2⟩) hS ?_
          simp only [List.map_cons, List.map_nil, List.getD_cons_zero, List.getD_cons_succ]
          refine wpPi_move _ rfl rfl ?_
          simp only [pl, pn, el, ec, sz, ss, gz, gs, if_true, if_false, Bool.false_eq_true, Bool.not_true, Bool.not_false, Nat.add_zero, Nat.zero_add, Nat.reduceAdd]
          refine wpPi_field _ _ _ _ _ _ rfl rfl rfl fo_35_1 ?_
          simp only [pl, pn, el, ec, sz, ss, gz, gs, if_true, if_false, Bool.false_eq_true, Bool.not_true, Bool.not_false, Nat.add_zero, Nat.zero_add, Nat.reduceAdd]
          refine wpPi_val rfl (fun w' hS => exec_load1 33 _ (by rfl) b19 1 (by rfl) _ (hS.cell id hc191) _ Try.underlying33 rfl) ?_
          simp only [pl, pn, el, ec, sz, ss, gz, gs, if_true, if_false, Bool.false_eq_true, Bool.not_true, Bool.not_false, Nat.add_zero, Nat.zero_add, Nat.reduceAdd]
          refine wpPi_nil ?_
          refine wpTree_part [1] (by kernel_rfl) ?_
          simp only [List.forall_mem_cons, List.not_mem_nil, false_implies, implies_true, and_true]
          intro K hK
          simp only [List.getElem?_toArray, Array.getD_eq_getD_getElem?, List.getElem?_cons_succ, List.getElem?_cons_zero, Option.getD_some]
          refine wp_enterQ (run_call 23 [.tmp 134] _ rfl _ Try.func23 rfl (by kernel_rfl) [.slice av vs.length cv] rfl _) (shaSum_any (HV.out.keep0 hT) (by omega)) ?_
          rintro e wq ⟨rfl, hmq⟩
          replace hT := hT.trans0 hmq
          clear hmq
          refine ⟨_, rfl, hK _ _ hT ?_⟩
          clear hK K
          try simp only [pl, pn, el, ec, sz, ss, gz, gs, if_true, if_false, Bool.false_eq_true, Bool.not_true, Bool.not_false, Nat.add_zero, Nat.zero_add, Nat.reduceAdd]
          refine wpTree_part [4] (by kernel_rfl) ?_
          simp only [List.forall_mem_cons, List.not_mem_nil, false_implies, implies_true, and_true]
          intro K hK
          simp only [List.getElem?_toArray, Array.getD_eq_getD_getElem?, List.getElem?_cons_succ, List.getElem?_cons_zero, Option.getD_some]
          refine wp_enterQ (run_call 23 [.tmp 137] _ rfl _ Try.func23 rfl (by kernel_rfl) [.slice ax x.2.length cx] rfl _) (shaSum_any (HSX.out.keep0 hT) (by omega)) ?_
          rintro e wq ⟨rfl, hmq⟩
          replace hT := hT.trans0 hmq
          clear hmq
          refine ⟨_, rfl, hK _ _ hT ?_⟩
          clear hK K
          try simp only [pl, pn, el, ec, sz, ss, gz, gs, if_true, if_false, Bool.false_eq_true, Bool.not_true, Bool.not_false, Nat.add_zero, Nat.zero_add, Nat.reduceAdd]
          refine wpTree_done ?_
          try simp only [List.map_cons, List.map_nil, List.getD_cons_zero, List.getD_cons_succ]
          try simp only [pl, pn, el, ec, sz, ss, gz, gs, if_true, if_false, Bool.false_eq_true, Bool.not_true, Bool.not_false, Nat.add_zero, Nat.zero_add, Nat.reduceAdd]
          refine wpPi_val rfl (fun w' hS => exec_eql_id _ _ _ _ rfl (shaL vs) (shaL x.2) rfl rfl 32 5 Try.underlying38 Try.underlying5 (by kernel_rfl) (by kernel_rfl) (shaL_len _) (shaL_len _) _ rfl) ?_
          simp only [pl, pn, el, ec, sz, ss, gz, gs, if_true, if_false, Bool.false_eq_true, Bool.not_true, Bool.not_false, Nat.add_zero, Nat.zero_add, Nat.reduceAdd]
          refine wpPi_assign _ rfl rfl ?_
          simp only [pl, pn, el, ec, sz, ss, gz, gs, if_true, if_false, Bool.false_eq_true, Bool.not_true, Bool.not_false, Nat.add_zero, Nat.zero_add, Nat.reduceAdd]
          refine wpPi_nil ?_
          go_wp2
          go_meet
          case rel => exact ⟨rfl, hT⟩
        case rest =>
          obtain ⟨rfl, hT⟩ := hcut
          rename World => w16
          have hMw16 := hMw15.trans0 hT
          replace hB13 := hT.obj id hB13
          replace hc190 := hT.cell id hc190
          replace HV := Lib.hid (HV.out.keep0 hT)
          replace HSS := Lib.hid (Sl.keep0 HSS.out hT)
          have hbE := built_ent2 x.1 (.slice av vs.length cv) rfl
          have hev : EntC w16 G2 #[.string x.1, .slice av vs.length cv] (x.1, vs) := ⟨_, rfl, HV.out.weak⟩
          have HEV := Lib.hid hev
          have hpv : provesL (rootE l) (leafOf (x.1, vs)) ps = decide (ps.foldl climb (oneD (leafOf (x.1, vs))) = rootE l) := proves_fold hpl2
          clear hev hT hMw15 hc191 HSX
          go_upto_region 23 with (fail)
          by_cases hsame : shaL vs = shaL x.2
          · have HPV := Lib.hid (show provesL (rootE l) (leafOf (x.1, vs)) ps = true by rw [hpv, leaf_same hsame, show ((x.1, x.2) : Ent) = x from rfl, HPF.out]; exact decide_eq_true rfl)
            rw [decide_eq_true hsame]
            clear hsame hpv
            refine wp_region_seq [3, 3, 1, 3, 1, 3, 0, 3, 1, 3, 3, 0, 3, 0, 3, 3, 1, 3, 3, 3, 3] (fun _ => True) (by rfl) (by rfl) trivial ?_
            simp only [List.zip_cons_cons, List.zip_nil_right]
            refine wpPi_move _ rfl rfl ?_
            simp only [pl, pn, el, ec, sz, ss, gz, gs, if_true, if_false, Bool.false_eq_true, Bool.not_true, Bool.not_false, Nat.add_zero, Nat.zero_add, Nat.reduceAdd]
            refine wpPi_move _ rfl rfl ?_
            simp only [pl, pn, el, ec, sz, ss, gz, gs, if_true, if_false, Bool.false_eq_true, Bool.not_true, Bool.not_false, Nat.add_zero, Nat.zero_add, Nat.reduceAdd]
            refine wpPi_do rfl (fun K hK => ?_)
            refine wp_exec (exec_loadA 38 _ (by rfl) b13 0 (by rfl) (idCells (rootE l)) (CellsAt.whole hB13) _ Try.underlying38 rfl 32 (by kernel_rfl) hRb) ?_
            refine hK _ _ trivial ?_
            clear hK K
            try simp only [pl, pn, el, ec, sz, ss, gz, gs, if_true, if_false, Bool.false_eq_true, Bool.not_true, Bool.not_false, Nat.add_zero, Nat.zero_add, Nat.reduceAdd]
            refine wpPi_field _ _ _ _ _ _ rfl rfl rfl fo_35_0 ?_
            simp only [pl, pn, el, ec, sz, ss, gz, gs, if_true, if_false, Bool.false_eq_true, Bool.not_true, Bool.not_false, Nat.add_zero, Nat.zero_add, Nat.reduceAdd]
            refine wpPi_do rfl (fun K hK => ?_)
            refine wp_exec (exec_load1 9 _ (by rfl) b19 0 (by rfl) _ hc190 _ Try.underlying9 rfl) ?_
            refine hK _ _ trivial ?_
            clear hK K
            try simp only [pl, pn, el, ec, sz, ss, gz, gs, if_true, if_false, Bool.false_eq_true, Bool.not_true, Bool.not_false, Nat.add_zero, Nat.zero_add, Nat.reduceAdd]
            refine wpPi_move _ rfl rfl ?_
            simp only [pl, pn, el, ec, sz, ss, gz, gs, if_true, if_false, Bool.false_eq_true, Bool.not_true, Bool.not_false, Nat.add_zero, Nat.zero_add, Nat.reduceAdd]
            refine wpPi_val rfl (fun w' hS => exec_build_of 35 [(0, _), (1, _)] [(0, .string x.1), (1, .slice av vs.length cv)] _ (by rfl) (by rfl) hbE) ?_
            simp only [pl, pn, el, ec, sz, ss, gz, gs, if_true, if_false, Bool.false_eq_true, Bool.not_true, Bool.not_false, Nat.add_zero, Nat.zero_add, Nat.reduceAdd]
            refine wpPi_move _ rfl rfl ?_
            simp only [pl, pn, el, ec, sz, ss, gz, gs, if_true, if_false, Bool.false_eq_true, Bool.not_true, Bool.not_false, Nat.add_zero, Nat.zero_add, Nat.reduceAdd]
            refine wpPi_do rfl (fun K hK => ?_)
            refine wp_enterQ (run_call 20 [.tmp 142, .tmp 146, .tmp 147] _ rfl _ Try.func20 rfl (by kernel_rfl) [.agg (idCells (rootE l)), .agg #[.string x.1, .slice av vs.length cv], .slice ad14 ps.length cap14] rfl _) (proves_any (rootE l) hRl HEV.out (by show x.1.size ≤ 1000000; omega) (by show vs.length ≤ 1000000; omega) HSS.out) ?_
            rintro e w17 ⟨rfl, hm17⟩
            rw [HPV.out]
            refine ⟨_, rfl, hK _ _ trivial ?_⟩
            clear hK K
            try simp only [pl, pn, el, ec, sz, ss, gz, gs, if_true, if_false, Bool.false_eq_true, Bool.not_true, Bool.not_false, Nat.add_zero, Nat.zero_add, Nat.reduceAdd]
            refine wpPi_move _ rfl rfl ?_
            simp only [pl, pn, el, ec, sz, ss, gz, gs, if_true, if_false, Bool.false_eq_true, Bool.not_true, Bool.not_false, Nat.add_zero, Nat.zero_add, Nat.reduceAdd]
            refine wpPi_move _ rfl rfl ?_
            simp only [pl, pn, el, ec, sz, ss, gz, gs, if_true, if_false, Bool.false_eq_true, Bool.not_true, Bool.not_false, Nat.add_zero, Nat.zero_add, Nat.reduceAdd]
            refine wpPi_skip0 rfl ?_
            simp only [pl, pn, el, ec, sz, ss, gz, gs, if_true, if_false, Bool.false_eq_true, Bool.not_true, Bool.not_false, Nat.add_zero, Nat.zero_add, Nat.reduceAdd]
            refine wpPi_skip rfl ?_
            simp only [pl, pn, el, ec, sz, ss, gz, gs, if_true, if_false, Bool.false_eq_true, Bool.not_true, Bool.not_false, Nat.add_zero, Nat.zero_add, Nat.reduceAdd]
            refine wpPi_skip0 rfl ?_
            simp only [pl, pn, el, ec, sz, ss, gz, gs, if_true, if_false, Bool.false_eq_true, Bool.not_true, Bool.not_false, Nat.add_zero, Nat.zero_add, Nat.reduceAdd]
            refine wpPi_skip rfl ?_
            simp only [pl, pn, el, ec, sz, ss, gz, gs, if_true, if_false, Bool.false_eq_true, Bool.not_true, Bool.not_false, Nat.add_zero, Nat.zero_add, Nat.reduceAdd]
            refine wpPi_skip rfl ?_
            simp only [pl, pn, el, ec, sz, ss, gz, gs, if_true, if_false, Bool.false_eq_true, Bool.not_true, Bool.not_false, Nat.add_zero, Nat.zero_add, Nat.reduceAdd]
            refine wpPi_do_skip rfl trivial ?_
            simp only [pl, pn, el, ec, sz, ss, gz, gs, if_true, if_false, Bool.false_eq_true, Bool.not_true, Bool.not_false, Nat.add_zero, Nat.zero_add, Nat.reduceAdd]
            refine wpPi_pick _ _ _ _ rfl rfl rfl ?_
            simp only [pl, pn, el, ec, sz, ss, gz, gs, if_true, if_false, Bool.false_eq_true, Bool.not_true, Bool.not_false, Nat.add_zero, Nat.zero_add, Nat.reduceAdd]
            refine wpPi_any rfl (fun w' => exec_eql_bool _ _ _ true rfl rfl rfl) ?_
            simp only [pl, pn, el, ec, sz, ss, gz, gs, if_true, if_false, Bool.false_eq_true, Bool.not_true, Bool.not_false, Nat.add_zero, Nat.zero_add, Nat.reduceAdd]
            refine wpPi_pick _ _ _ _ rfl rfl rfl ?_
            simp only [pl, pn, el, ec, sz, ss, gz, gs, if_true, if_false, Bool.false_eq_true, Bool.not_true, Bool.not_false, Nat.add_zero, Nat.zero_add, Nat.reduceAdd]
            refine wpPi_assign _ rfl rfl ?_
            simp only [pl, pn, el, ec, sz, ss, gz, gs, if_true, if_false, Bool.false_eq_true, Bool.not_true, Bool.not_false, Nat.add_zero, Nat.zero_add, Nat.reduceAdd]
            refine wpPi_nil ?_
            have hMr := hMw16.trans0 hm17
            clear hm17 hMw16
            go_wp2
            go_ret
            exact ⟨rfl, hMr⟩
          · have HPV := Lib.hid hpv
            rw [decide_eq_false hsame]
            clear hsame hpv
            obtain ⟨pv, hpvb⟩ : ∃ b, decide (ps.foldl climb (oneD (leafOf (x.1, vs))) = rootE l) = b := ⟨_, rfl⟩
            rw [hpvb] at HPV
            have HPB := Lib.hid hpvb
            clear hpvb
            refine wp_region_seq [3, 3, 1, 3, 1, 3, 0, 3, 1, 3, 3, 1, 3, 1, 3, 3, 1, 3, 3, 3, 3] (fun _ => True) (by rfl) (by rfl) trivial ?_
            simp only [List.zip_cons_cons, List.zip_nil_right]
            refine wpPi_move _ rfl rfl ?_
            simp only [pl, pn, el, ec, sz, ss, gz, gs, if_true, if_false, Bool.false_eq_true, Bool.not_true, Bool.not_false, Nat.add_zero, Nat.zero_add, Nat.reduceAdd]
            refine wpPi_move _ rfl rfl ?_
            simp only [pl, pn, el, ec, sz, ss, gz, gs, if_true, if_false, Bool.false_eq_true, Bool.not_true, Bool.not_false, Nat.add_zero, Nat.zero_add, Nat.reduceAdd]
            refine wpPi_do rfl (fun K hK => ?_)
            refine wp_exec (exec_loadA 38 _ (by rfl) b13 0 (by rfl) (idCells (rootE l)) (CellsAt.whole hB13) _ Try.underlying38 rfl 32 (by kernel_rfl) hRb) ?_
            refine hK _ _ trivial ?_
            clear hK K
            try simp only [pl, pn, el, ec, sz, ss, gz, gs, if_true, if_false, Bool.false_eq_true, Bool.not_true, Bool.not_false, Nat.add_zero, Nat.zero_add, Nat.reduceAdd]
            refine wpPi_field _ _ _ _ _ _ rfl rfl rfl fo_35_0 ?_
            simp only [pl, pn, el, ec, sz, ss, gz, gs, if_true, if_false, Bool.false_eq_true, Bool.not_true, Bool.not_false, Nat.add_zero, Nat.zero_add, Nat.reduceAdd]
            refine wpPi_do rfl (fun K hK => ?_)
            refine wp_exec (exec_load1 9 _ (by rfl) b19 0 (by rfl) _ hc190 _ Try.underlying9 rfl) ?_
            refine hK _ _ trivial ?_
            clear hK K
            try simp only [pl, pn, el, ec, sz, ss, gz, gs, if_true, if_false, Bool.false_eq_true, Bool.not_true, Bool.not_false, Nat.add_zero, Nat.zero_add, Nat.reduceAdd]
            refine wpPi_move _ rfl rfl ?_
            simp only [pl, pn, el, ec, sz, ss, gz, gs, if_true, if_false, Bool.false_eq_true, Bool.not_true, Bool.not_false, Nat.add_zero, Nat.zero_add, Nat.reduceAdd]
            refine wpPi_val rfl (fun w' hS => exec_build_of 35 [(0, _), (1, _)] [(0, .string x.1), (1, .slice av vs.length cv)] _ (by rfl) (by rfl) hbE) ?_
            simp only [pl, pn, el, ec, sz, ss, gz, gs, if_true, if_false, Bool.false_eq_true, Bool.not_true, Bool.not_false, Nat.add_zero, Nat.zero_add, Nat.reduceAdd]
            refine wpPi_move _ rfl rfl ?_
            simp only [pl, pn, el, ec, sz, ss, gz, gs, if_true, if_false, Bool.false_eq_true, Bool.not_true, Bool.not_false, Nat.add_zero, Nat.zero_add, Nat.reduceAdd]
            refine wpPi_do rfl (fun K hK => ?_)
            refine wp_enterQ (run_call 20 [.tmp 142, .tmp 146, .tmp 147] _ rfl _ Try.func20 rfl (by kernel_rfl) [.agg (idCells (rootE l)), .agg #[.string x.1, .slice av vs.length cv], .slice ad14 ps.length cap14] rfl _) (proves_any (rootE l) hRl HEV.out (by show x.1.size ≤ 1000000; omega) (by show vs.length ≤ 1000000; omega) HSS.out) ?_
            rintro e w17 ⟨rfl, hm17⟩
            rw [HPV.out]
            refine ⟨_, rfl, hK _ _ trivial ?_⟩
            clear hK K
            try simp only [pl, pn, el, ec, sz, ss, gz, gs, if_true, if_false, Bool.false_eq_true, Bool.not_true, Bool.not_false, Nat.add_zero, Nat.zero_add, Nat.reduceAdd]
            refine wpPi_move _ rfl rfl ?_
            simp only [pl, pn, el, ec, sz, ss, gz, gs, if_true, if_false, Bool.false_eq_true, Bool.not_true, Bool.not_false, Nat.add_zero, Nat.zero_add, Nat.reduceAdd]
            refine wpPi_move _ rfl rfl ?_
            simp only [pl, pn, el, ec, sz, ss, gz, gs, if_true, if_false, Bool.false_eq_true, Bool.not_true, Bool.not_false, Nat.add_zero, Nat.zero_add, Nat.reduceAdd]
            refine wpPi_do rfl (fun K hK => ?_)
            refine wp_exec (exec_loadA 38 _ (by rfl) b13 0 (by rfl) (idCells (rootE l)) (CellsAt.whole (hm17.obj id hB13)) _ Try.underlying38 rfl 32 (by kernel_rfl) hRb) ?_
            refine hK _ _ trivial ?_
            clear hK K
            try simp only [pl, pn, el, ec, sz, ss, gz, gs, if_true, if_false, Bool.false_eq_true, Bool.not_true, Bool.not_false, Nat.add_zero, Nat.zero_add, Nat.reduceAdd]
            refine wpPi_field _ _ _ _ _ _ rfl rfl rfl fo_35_0 ?_
            simp only [pl, pn, el, ec, sz, ss, gz, gs, if_true, if_false, Bool.false_eq_true, Bool.not_true, Bool.not_false, Nat.add_zero, Nat.zero_add, Nat.reduceAdd]
            refine wpPi_do rfl (fun K hK => ?_)
            refine wp_exec (exec_load1 9 _ (by rfl) b19 0 (by rfl) _ (hm17.cell id hc190) _ Try.underlying9 rfl) ?_
            refine hK _ _ trivial ?_
            clear hK K
            try simp only [pl, pn, el, ec, sz, ss, gz, gs, if_true, if_false, Bool.false_eq_true, Bool.not_true, Bool.not_false, Nat.add_zero, Nat.zero_add, Nat.reduceAdd]
            refine wpPi_move _ rfl rfl ?_
            simp only [pl, pn, el, ec, sz, ss, gz, gs, if_true, if_false, Bool.false_eq_true, Bool.not_true, Bool.not_false, Nat.add_zero, Nat.zero_add, Nat.reduceAdd]
            refine wpPi_move _ rfl rfl ?_
            simp only [pl, pn, el, ec, sz, ss, gz, gs, if_true, if_false, Bool.false_eq_true, Bool.not_true, Bool.not_false, Nat.add_zero, Nat.zero_add, Nat.reduceAdd]
            refine wpPi_do rfl (fun K hK => ?_)
            refine wp_enterQ (run_call 24 [.tmp 151, .tmp 153, .tmp 154, .tmp 155] _ rfl _ Try.func24 rfl (by kernel_rfl) [.agg (idCells (rootE l)), .string x.1, .slice av vs.length cv, .slice ad14 ps.length cap14] rfl _) (collides_any (rootE l) hRl x.1 (HV.out.keep0 hm17) (by omega) (by omega) (Sl.keep0 HSS.out hm17)) ?_
            rintro e w18 ⟨rfl, hm18⟩
            rw [HPB.out]
            refine ⟨_, rfl, hK _ _ trivial ?_⟩
            clear hK K
            try simp only [pl, pn, el, ec, sz, ss, gz, gs, if_true, if_false, Bool.false_eq_true, Bool.not_true, Bool.not_false, Nat.add_zero, Nat.zero_add, Nat.reduceAdd]
            refine wpPi_pick _ _ _ _ rfl rfl rfl ?_
            simp only [pl, pn, el, ec, sz, ss, gz, gs, if_true, if_false, Bool.false_eq_true, Bool.not_true, Bool.not_false, Nat.add_zero, Nat.zero_add, Nat.reduceAdd]
            refine wpPi_any rfl (fun w' => exec_eql_bool _ _ _ pv rfl rfl rfl) ?_
            simp only [pl, pn, el, ec, sz, ss, gz, gs, if_true, if_false, Bool.false_eq_true, Bool.not_true, Bool.not_false, Nat.add_zero, Nat.zero_add, Nat.reduceAdd]
            refine wpPi_pick _ _ _ _ rfl rfl rfl ?_
            simp only [pl, pn, el, ec, sz, ss, gz, gs, if_true, if_false, Bool.false_eq_true, Bool.not_true, Bool.not_false, Nat.add_zero, Nat.zero_add, Nat.reduceAdd]
            refine wpPi_assign _ rfl rfl ?_
            simp only [pl, pn, el, ec, sz, ss, gz, gs, if_true, if_false, Bool.false_eq_true, Bool.not_true, Bool.not_false, Nat.add_zero, Nat.zero_add, Nat.reduceAdd]
            refine wpPi_nil ?_
            have hMr := (hMw16.trans0 hm17).trans0 hm18
            clear hm17 hm18 hMw16
            go_wp2
            go_ret
            exact ⟨rfl, hMr⟩
end Go.Proofs.Ytchkikmmcmjcgaa

/- Lists that are alike but for one key; entries copied, turned in place, cut out. -/
namespace Go.Proofs.Ytchkikmmcmjcgaa
set_option linter.unusedSimpArgs false
set_option linter.unusedVariables false
set_option linter.unnecessarySimpa false
set_option linter.unusedSectionVars false
open Go.RowKit Go.Shelf


theorem chkE_of {l : List Ent} (h1 : l.length ≤ 4096) (h2 : (l.map (·.1)).Nodup) (h3 : ((leavesE l).map (·.way)).Nodup) : chkE l = 0 := by
  unfold chkE
  rw [if_neg (by omega), if_neg (fun h => h h2), if_neg (fun h => h h3)]
/-- Alike but for one key. -/
structure Near (l m : List Ent) (k : ByteArray) : Prop where
  fore : ∀ x ∈ l, x.1 ≠ k → x ∈ m
  fro : ∀ y ∈ m, y.1 ≠ k → y ∈ l
  keys : ∀ y ∈ m, ∃ x ∈ l, x.1 = y.1
  chk : chkE m = 0
theorem ways_of (l : List Ent) : (leavesE l).map (·.way) = (l.map (·.1)).map (fun k => shaL k.data.toList) := by
  unfold leavesE
  rw [List.map_map, List.map_map]; rfl
theorem near_set {l : List Ent} (h : chkE l = 0) {p : Nat} (hp : p < l.length) (v : List UInt8) : Near l (l.set p (l[p].1, v)) l[p].1 := by
  have hk : (l.set p (l[p].1, v)).map (·.1) = l.map (·.1) := by
    rw [List.map_set]
    apply List.ext_getElem (by simp)
    intro i h1 h2
    rw [List.getElem_set]
    split
    · rename_i e; subst e; simp
    · rfl
  obtain ⟨c1, c2, c3⟩ := chkE_zero h
  refine ⟨fun x hx hne => ?_, fun y hy hne => ?_, fun y hy => ?_, chkE_of (by rw [List.length_set]; exact c1) (by rw [hk]; exact c2) (by rw [ways_of, hk, ← ways_of]; exact c3)⟩
  · obtain ⟨i, hi, rfl⟩ := List.getElem_of_mem hx
    have hip : p ≠ i := by rintro rfl; exact hne rfl
    have : (l.set p (l[p].1, v))[i]'(by simpa using hi) = l[i] := List.getElem_set_ne hip _
    rw [← this]; exact List.getElem_mem _
  · rcases List.mem_or_eq_of_mem_set hy with h1 | h1
    · exact h1
    · subst h1; exact absurd rfl hne
  · have : y.1 ∈ l.map (·.1) := by rw [← hk]; exact List.mem_map_of_mem hy
    exact List.mem_map.1 this
theorem near_cut {l : List Ent} (h : chkE l = 0) {p : Nat} (hp : p < l.length) : Near l (l.eraseIdx p) l[p].1 := by
  obtain ⟨c1, c2, c3⟩ := chkE_zero h
  have hs : (l.eraseIdx p).Sublist l := List.eraseIdx_sublist _ _
  refine ⟨fun x hx hne => ?_, fun y hy _ => hs.subset hy, fun y hy => ⟨y, hs.subset hy, rfl⟩, chkE_of (Nat.le_trans hs.length_le c1) (List.Nodup.sublist (hs.map _) c2) (by
    unfold leavesE at c3 ⊢
    exact List.Nodup.sublist ((hs.map _).map _) c3)⟩
  obtain ⟨i, hi, rfl⟩ := List.getElem_of_mem hx
  have hip : i ≠ p := by rintro rfl; exact hne rfl
  rw [List.mem_eraseIdx_iff_getElem]
  exact ⟨i, hi, hip, rfl⟩
section
variable {l m : List Ent} {k : ByteArray}
theorem Near.err (h : Near l m k) (hl : chkE l = 0) : errD l m = 0 := by
  rw [errD_zero]
  refine ⟨hl, h.chk, ?_⟩
  rintro ⟨x, hx, y, hy, h1, h2⟩
  obtain ⟨e, he, rfl⟩ := List.mem_map.1 hy
  obtain ⟨e', he', hk⟩ := h.keys e he
  have hw : x.way = (leafOf e').way := by rw [h1]; unfold leafOf; rw [hk]
  have := (lie_of_chk hl).eq_of_way hx (List.mem_map_of_mem he') hw
  subst this
  exact h2 hk
theorem Near.told (h : Near l m k) {x : ByteArray} (hx : x ∈ (difE l m).1) : x = k := by
  rcases dif_mem _ _ _ _ hx with ⟨y, hy, hn, rfl⟩ | ⟨y, hy, hn, rfl⟩
  · obtain ⟨e, he, rfl⟩ := List.mem_map.1 hy
    refine Classical.byContradiction fun hne => hn (List.mem_map_of_mem (h.fore e he hne))
  · obtain ⟨e, he, rfl⟩ := List.mem_map.1 hy
    refine Classical.byContradiction fun hne => hn (List.mem_map_of_mem (h.fro e he hne))
theorem Near.rise (h : Near l m k) {ks : List ByteArray} (hr : Rise (difE l m).1 ks) : ks = [] ∨ ks = [k] := by
  by_cases h0 : (difE l m).1 = []
  · exact .inl (hr.nil.2 h0)
  · exact .inr (hr.one (fun x hx => h.told hx) h0)
end
theorem set_same {l : List Ent} {p : Nat} (hp : p < l.length) {v : List UInt8} (h : v = l[p].2) : l.set p (l[p].1, v) = l := by
  subst h
  exact List.set_getElem_self hp
/-! ### In memory -/
theorem flat_set : ∀ (xs : List EnS) (p : Nat) (hp : p < xs.length) (y : Option Addr × Nat × Nat), (xs.flatMap entEnc).set (p * 2 + 1) (.slice y.1 y.2.1 y.2.2) = (xs.set p (xs[p].1, y)).flatMap entEnc
  | x :: xs, 0, _, y => by
    rw [List.flatMap_cons]
    simp [entEnc, EnS.val]
  | x :: xs, p + 1, hp, y => by
    rw [List.flatMap_cons, List.set_cons_succ, List.flatMap_cons, show (p + 1) * 2 + 1 = p * 2 + 1 + 2 by omega]
    have := flat_set xs p (by simpa using hp) y
    simp only [List.getElem_cons_succ]
    rw [← this]
    rfl
theorem flat_cut : ∀ (xs : List EnS) (p : Nat), p < xs.length → (xs.flatMap entEnc).take (p * 2) ++ (xs.flatMap entEnc).drop ((p + 1) * 2) = (xs.eraseIdx p).flatMap entEnc
  | x :: xs, 0, _ => by simp [entEnc]
  | x :: xs, p + 1, hp => by
    have := flat_cut xs p (by simpa using hp)
    rw [List.eraseIdx_cons_succ, List.flatMap_cons, List.flatMap_cons, ← this, show (p + 1) * 2 = p * 2 + 2 by omega, show (p + 1 + 1) * 2 = p * 2 + 2 + 2 by omega]
    rfl
theorem Gat.store {base : Nat} {w : World} {v : Value} {xs : List EnS} (h : Gat entEnc 35 2 base w v xs) {p : Nat} (hp : p < xs.length) :
    ∃ g cap cur, v = .slice (some ⟨g, 0, none⟩) xs.length cap ∧ base ≤ g ∧ xs.length ≤ cap ∧ w.heap[g]? = some (.cells cur 35 (0, 0)) ∧ p * 2 + 1 < cur.size ∧
      ∀ (y : Option Addr × Nat × Nat) w', w'.heap[g]? = some (.cells (cur.setIfInBounds (p * 2 + 1) (.slice y.1 y.2.1 y.2.2)) 35 (0, 0)) → Gat entEnc 35 2 base w' v (xs.set p (xs[p].1, y)) := by
  have hl := h.1
  rcases h.2 with ⟨h1, h2⟩ | ⟨g, cap, cur, rfl, hb, hg, hc, hm, hcs, ht⟩
  · omega
  · refine ⟨g, cap, cur, rfl, hb, hc, hg, by omega, fun y w' hw' => ?_⟩
    unfold Gat
    rw [List.length_set, ← flat_set xs p hp y]
    refine ⟨by rw [List.length_set]; exact hl, .inr ⟨g, cap, _, rfl, hb, hw', hc, hm, by rw [Array.size_setIfInBounds]; exact hcs, ?_⟩⟩
    rw [Array.toList_setIfInBounds, List.take_set, ht]
theorem all2_set {X : EnS → Ent → Prop} {xs : List EnS} {l : List Ent} (h : All2 X xs l) (p : Nat) {y : EnS} {e : Ent} (hy : X y e) : All2 X (xs.set p y) (l.set p e) := by
  refine ⟨by simpa using h.1, fun i h1 h2 => ?_⟩
  rw [List.getElem_set, List.getElem_set]
  split
  · exact hy
  · exact h.2 i _ _
theorem all2_cut {X : EnS → Ent → Prop} {xs : List EnS} {l : List Ent} (h : All2 X xs l) (p : Nat) : All2 X (xs.eraseIdx p) (l.eraseIdx p) := by
  have h0 := h.1
  refine ⟨by rw [List.length_eraseIdx, List.length_eraseIdx, h0], fun i h1 h2 => ?_⟩
  rw [List.getElem_eraseIdx, List.getElem_eraseIdx]
  split
  · exact h.2 i _ _
  · exact h.2 (i + 1) _ _
/-- The copies that a call has made. -/
def CpX (base : Nat) (w : World) (y : EnS) (e : Ent) : Prop := y.1 = e.1 ∧ Bts base w y.val e.2
theorem bts_sep {base base' : Nat} {w : World} {v u : Value} {xs : List EnS} {bs : List UInt8} (hg : Gat entEnc 35 2 base w v xs) (hb : Bts base' w u bs) : ∀ k, u.ownBlock = some k → ¬ v.ownBlock = some k := by
  intro k h1 h2
  rcases hb.2 with ⟨rfl, -⟩ | ⟨g, cap, cur, rfl, -, hg1, -⟩
  · cases h1
  · rcases hg.2 with ⟨rfl, -⟩ | ⟨g', cap', cur', rfl, -, hg2, -⟩
    · cases h2
    · cases h1; cases h2
      rw [hg1] at hg2
      injection hg2 with hg2
      injection hg2 with _ hT _
      exact absurd hT (by decide)
def CpRel (l : List Ent) (w0 : World) (s i : Value) (w : World) : Prop := ∃ k : Nat, k ≤ l.length ∧ i = .int .i64 k ∧ Gs (CpX w0.heap.size) w0.heap.size w s (l.take k) ∧ Mod NoB w0 w
def CpR (w : World) (l : List Ent) : Ending → World → Prop := fun e w' => ∃ v, e = .returned v ∧ Gs (CpX w.heap.size) w.heap.size w' v l ∧ Mod NoB w w'
theorem CpX.keep0 {base : Nat} {w w' : World} {y : EnS} {e : Ent} (h : CpX base w y e) (hm : Mod NoB w w') : CpX base w' y e := ⟨h.1, h.2.keep hm (fun _ _ => id)⟩
set_option maxRecDepth 10000 in
set_option maxHeartbeats 400000 in
theorem copyEs_any {own : Bool} {w : World} {G : Nat → Prop} {v : Value} {l : List Ent} (h : Es own w G v l) (hs : Short l) (hlen : l.length ≤ 4096) : Calls Try.prog 10 #[v] w (CpR w l) := by
  have HS := Lib.hid (Es.inside h)
  obtain ⟨ad, cap, rfl, hlm, -⟩ := Sl.at h
  clear h
  go_enter Try.func10, Try.ntmps10
  go_wp2
  go_loopw [3, 4] (CpRel l w) (fun _ i _ => l.length - (intOf i).toNat)
  case atStart => exact ⟨0, by omega, rfl, Gs.nil _ _ _, Mod.refl _ _⟩
  case round =>
    rename World => wr
    obtain ⟨k, hk, rfl, hgs, hm⟩ := hrel
    have HGS := Lib.hid hgs
    obtain ⟨adb, capb, rfl⟩ := hgs.slice
    clear hgs
    by_cases hlt : k < l.length
    · have hz : (k : Int) < (l.length : Int) := by omega
      have HTK := Lib.hid (show l.take (k + 1) = l.take k ++ [l[k]] by rw [List.take_add_one, List.getElem?_eq_getElem hlt]; rfl)
      have hbl : (l.take k).length ≤ 4096 := by rw [List.length_take]; omega
      obtain ⟨_, _, hv, -, hat⟩ := Sl.at (HS.out.keep0 hm)
      cases hv
      obtain ⟨b, off, rfl, hgb, -, hc⟩ := hat k hlt
      obtain ⟨cs, hcs2, ⟨vv, rfl, hsl⟩, hc⟩ := hc k hlt
      have hsh := hs l[k] (List.getElem_mem hlt)
      have hc0 := hc.cell (j := 0) (v := .string l[k].1) rfl
      have hc1 := hc.cell (j := 1) (v := vv) rfl
      obtain ⟨av, cv, rfl, -, -⟩ := Sl.at hsl
      rw [Nat.add_zero] at hc0
      have HSL := Lib.hid hsl
      clear hat hc hsl
      obtain ⟨bq, hbq⟩ : ∃ bk, bk = l.take k := ⟨_, rfl⟩
      rw [← hbq] at HGS HTK hbl ⊢
      obtain ⟨x, hx⟩ : ∃ x, l[k] = x := ⟨_, rfl⟩
      rw [hx] at hc0 hc1 HSL HTK hsh
      clear hbq hx
      go_upto_region 5 with (fail)
      have hD : Mod NoB wr wr.drew := (Mod.refl _ _).drew
      have hS : Mod (fun q => w.heap.size ≤ q) wr wr.drew := (Mod.refl _ _).drew
      have hnb : ¬ w.heap.size ≤ b := Nat.not_le.2 hgb
      have hsz := hm.size
      refine wp_region_pi [(0, 3), (1, 3), (2, 3), (3, 3), (4, 3), (5, 0), (6, 3), (7, 3), (8, 3), (9, 3), (10, 0), (11, 1), (12, 0), (13, 1), (14, 1), (15, 3)] [] (fun w' => Mod (fun q => w.heap.size ≤ q) wr w') (by kernel_rfl) (by kernel_rfl) (by kernel_rfl) (by kernel_rfl) (fun _ _ _ _ hd h => ⟨hd.trans h.1, h.2⟩) hS ?_
      simp only [List.map_cons, List.map_nil, List.getD_cons_zero, List.getD_cons_succ]
      refine wpPi_move _ rfl rfl ?_
      simp only [pl, pn, el, ec, sz, ss, gz, gs, if_true, if_false, Bool.false_eq_true, Bool.not_true, Bool.not_false, Nat.add_zero, Nat.zero_add, Nat.reduceAdd]
      refine wpPi_move _ rfl rfl ?_
      simp only [pl, pn, el, ec, sz, ss, gz, gs, if_true, if_false, Bool.false_eq_true, Bool.not_true, Bool.not_false, Nat.add_zero, Nat.zero_add, Nat.reduceAdd]
      refine wpPi_move _ rfl rfl ?_
      simp only [pl, pn, el, ec, sz, ss, gz, gs, if_true, if_false, Bool.false_eq_true, Bool.not_true, Bool.not_false, Nat.add_zero, Nat.zero_add, Nat.reduceAdd]
      refine wpPi_index _ _ _ _ _ _ _ _ _ rfl rfl rfl rfl Try.underlying22 (n := 2) (by kernel_rfl) hlt ?_
      simp only [pl, pn, el, ec, sz, ss, gz, gs, if_true, if_false, Bool.false_eq_true, Bool.not_true, Bool.not_false, Nat.add_zero, Nat.zero_add, Nat.reduceAdd]
      refine wpPi_field _ _ _ _ _ _ rfl rfl rfl fo_35_0 ?_
      simp only [pl, pn, el, ec, sz, ss, gz, gs, if_true, if_false, Bool.false_eq_true, Bool.not_true, Bool.not_false, Nat.add_zero, Nat.zero_add, Nat.reduceAdd]
      refine wpPi_val rfl (fun w' hS => exec_load1 9 _ (by rfl) b (off + k * 2) (by rfl) (.string x.1) (hS.cell hnb hc0) _ Try.underlying9 rfl) ?_
      simp only [pl, pn, el, ec, sz, ss, gz, gs, if_true, if_false, Bool.false_eq_true, Bool.not_true, Bool.not_false, Nat.add_zero, Nat.zero_add, Nat.reduceAdd]
      refine wpPi_move _ rfl rfl ?_
      simp only [pl, pn, el, ec, sz, ss, gz, gs, if_true, if_false, Bool.false_eq_true, Bool.not_true, Bool.not_false, Nat.add_zero, Nat.zero_add, Nat.reduceAdd]
      refine wpPi_move _ rfl rfl ?_
      simp only [pl, pn, el, ec, sz, ss, gz, gs, if_true, if_false, Bool.false_eq_true, Bool.not_true, Bool.not_false, Nat.add_zero, Nat.zero_add, Nat.reduceAdd]
      refine wpPi_index _ _ _ _ _ _ _ _ _ rfl rfl rfl rfl Try.underlying22 (n := 2) (by kernel_rfl) hlt ?_
      simp only [pl, pn, el, ec, sz, ss, gz, gs, if_true, if_false, Bool.false_eq_true, Bool.not_true, Bool.not_false, Nat.add_zero, Nat.zero_add, Nat.reduceAdd]
      refine wpPi_field _ _ _ _ _ _ rfl rfl rfl fo_35_1 ?_
      simp only [pl, pn, el, ec, sz, ss, gz, gs, if_true, if_false, Bool.false_eq_true, Bool.not_true, Bool.not_false, Nat.add_zero, Nat.zero_add, Nat.reduceAdd]
      refine wpPi_val rfl (fun w' hS => exec_load1 33 _ (by rfl) b (off + k * 2 + 1) (by rfl) _ (hS.cell hnb hc1) _ Try.underlying33 rfl) ?_
      simp only [pl, pn, el, ec, sz, ss, gz, gs, if_true, if_false, Bool.false_eq_true, Bool.not_true, Bool.not_false, Nat.add_zero, Nat.zero_add, Nat.reduceAdd]
      refine wpPi_do rfl (fun K hK => ?_)
      refine wp_enterQ (run_call 27 [.tmp 21] _ rfl _ Try.func27 rfl (by kernel_rfl) [.slice av x.2.length cv] rfl _) (copyBytes_any (HSL.out.keep0 hD) hsh.2) ?_
      rintro e w5 ⟨v5, rfl, hb5, hm5⟩
      replace hb5 : Bts w.heap.size w5 v5 x.2 := owns_base hb5 (by have := hD.size; omega)
      have hM5 := hD.trans0 hm5
      obtain ⟨a5, c5, rfl, -, -⟩ := Sl.at hb5.sl
      refine ⟨_, rfl, hK _ _ (hM5.mono fun _ _ h => h.elim) ?_⟩
      clear hK K
      try simp only [pl, pn, el, ec, sz, ss, gz, gs, if_true, if_false, Bool.false_eq_true, Bool.not_true, Bool.not_false, Nat.add_zero, Nat.zero_add, Nat.reduceAdd]
      refine wpPi_val rfl (fun w' hS => exec_build_of 35 [(0, _), (1, _)] [(0, .string x.1), (1, .slice a5 x.2.length c5)] _ (by rfl) (by rfl) (built_ent2 x.1 (.slice a5 x.2.length c5) rfl)) ?_
      simp only [pl, pn, el, ec, sz, ss, gz, gs, if_true, if_false, Bool.false_eq_true, Bool.not_true, Bool.not_false, Nat.add_zero, Nat.zero_add, Nat.reduceAdd]
      refine wpPi_do rfl (fun K hK => ?_)
      refine wp_buildSlice1 22 35 _ (.agg #[.string x.1, .slice a5 x.2.length c5]) (.agg #[.string ⟨#[]⟩, .slice none 0 0]) 2 (by rfl) (by rfl) Try.underlying22 entry_i2 (by omega) (by omega) rfl (fun w6 hB6 hm6 hs6 => ?_)
      replace hB6 : w6.heap[w5.heap.size]? = some (.cells (entEnc (x.1, a5, x.2.length, c5)).toArray 35 (0, 0)) := hB6
      have hM6 := hM5.trans0 hm6
      refine hK _ _ (hM6.mono fun _ _ h => h.elim) ?_
      clear hK K
      try simp only [pl, pn, el, ec, sz, ss, gz, gs, if_true, if_false, Bool.false_eq_true, Bool.not_true, Bool.not_false, Nat.add_zero, Nat.zero_add, Nat.reduceAdd]
      refine wpPi_do rfl (fun K hK => ?_)
      refine wp_gs (X := CpX w.heap.size) (base := w.heap.size) _ _ (by rfl) (by rfl) (HGS.out.keep0 hM6 (fun x e h => h.keep0 hM6)) w5.heap.size (x.1, a5, x.2.length, c5) x (by rfl) hB6 ⟨rfl, hb5.keep hm6 (fun _ _ => id)⟩ hbl (by have := hM6.size; omega) (fun xs w' x e hg hm h => ⟨h.1, h.2.keep hm (bts_sep hg h.2)⟩) (fun v7 w7 hg7 hm7 => ?_)
      rw [← HTK.out] at hg7
      have hM7 : Mod NoB w w7 := (hm.trans0 hM6).trans hm7 (fun k hk e => by have := (HGS.out.lt e).1; omega)
      refine hK _ _ ((hM6.mono fun _ _ h => h.elim).trans hm7 (fun k hk e => (HGS.out.lt e).1)) ?_
      clear hK K
      try simp only [pl, pn, el, ec, sz, ss, gz, gs, if_true, if_false, Bool.false_eq_true, Bool.not_true, Bool.not_false, Nat.add_zero, Nat.zero_add, Nat.reduceAdd]
      refine wpPi_assign _ rfl rfl ?_
      simp only [pl, pn, el, ec, sz, ss, gz, gs, if_true, if_false, Bool.false_eq_true, Bool.not_true, Bool.not_false, Nat.add_zero, Nat.zero_add, Nat.reduceAdd]
      refine wpPi_nil ?_
      clear hD hS hm hm5 hm6 hm7 hM5 hM6 hB6 hb5 HGS HSL HTK
      go_wp2
      go_roundw
      case rel => exact ⟨k + 1, by omega, by go_num, hg7, hM7⟩
      case measure => simp [intOf]; omega
    · obtain rfl : k = l.length := by omega
      rw [List.take_length] at HGS ⊢
      go_wp2
      go_ret
      exact ⟨_, rfl, HGS.out, hm⟩
end Go.Proofs.Ytchkikmmcmjcgaa
