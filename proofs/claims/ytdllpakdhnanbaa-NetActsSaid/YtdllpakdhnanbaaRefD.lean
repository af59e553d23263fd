/- The document's net: Copy, Take, Drop. -/
import Derived.Test.YtdllpakdhnanbaaRefC
import Derived.Laws.Slices
namespace Go.Proofs.Ytdllpakdhnanbaa
set_option linter.unusedSimpArgs false
set_option linter.unusedVariables false
set_option linter.unnecessarySimpa false
open Go.RowKit

section
variable {P : Program} {ops : Array Oper} {Q : Exit → Act → World → Prop} {S : World → Prop} {o : Oper} {r : List (Oper × Nat)} {a : Act} {w : World}
theorem wpPi_sliceTo (t e : TypeId) (x h : Operand) (ad : Option Addr) (len cap i n : Nat) (hw : Region.wanted o (yielded ops a.tmps) = true) (ho : o.op = .slice t x none (some h) none) (hx : a.eval x = .slice ad len cap) (hh : a.eval h = .int .i64 (i : Int))
    (hu : P.underlying t = some (.slice e)) (hs : (P.info? e).map (·.size) = some n) (hi : i ≤ cap) (hk : wpPi P ops Q S r (a.put o.dst (sliced ad 0 i cap n)) w) : wpPi P ops Q S ((o, 3) :: r) a w :=
  wpPi_any hw (fun w => by
    have he : P.elem t = e := by simp [Program.elem, hu]
    have hsz : (sizeOf e).run P w = .ok n w := by
      cases hq : P.info? e with
      | none => simp [hq] at hs
      | some i => simp [hq] at hs; simp [sizeOf, typeInfo, hq, hs]
    unfold execOp
    simp only [ho, hx, hh, Option.map_none, Option.map_some]
    have h1 := run_sliceAt_slice (P := P) (w := w) t (.slice ad len cap) none (some (.int .i64 (i : Int))) none (by rw [he]; exact hu)
    have h2 := run_slice_h (P := P) (w := w) t ad len cap (by rw [he]; exact hu) .i64 (i : Int) (by omega) (by omega)
    simp only [Sem.run_bind, h1, h2, he, hsz, Result.andThen_ok, Sem.run_pure, Int.toNat_natCast]) hk
theorem wpPi_sliceFrom (t e : TypeId) (x l : Operand) (ad : Option Addr) (len cap i n : Nat) (hw : Region.wanted o (yielded ops a.tmps) = true) (ho : o.op = .slice t x (some l) none none) (hx : a.eval x = .slice ad len cap) (hl : a.eval l = .int .i64 (i : Int))
    (hu : P.underlying t = some (.slice e)) (hs : (P.info? e).map (·.size) = some n) (hi : i ≤ len) (hk : wpPi P ops Q S r (a.put o.dst (sliced ad i len cap n)) w) : wpPi P ops Q S ((o, 3) :: r) a w :=
  wpPi_any hw (fun w => by
    have he : P.elem t = e := by simp [Program.elem, hu]
    have hsz : (sizeOf e).run P w = .ok n w := by
      cases hq : P.info? e with
      | none => simp [hq] at hs
      | some i => simp [hq] at hs; simp [sizeOf, typeInfo, hq, hs]
    unfold execOp
    simp only [ho, hx, hl, Option.map_none, Option.map_some]
    have h1 := run_sliceAt_slice (P := P) (w := w) t (.slice ad len cap) (some (.int .i64 (i : Int))) none none (by rw [he]; exact hu)
    have h2 := run_slice_l (P := P) (w := w) t ad len cap (by rw [he]; exact hu) .i64 (i : Int) (by omega) (by omega)
    simp only [Sem.run_bind, h1, h2, he, hsz, Result.andThen_ok, Sem.run_pure, Int.toNat_natCast]) hk
end

theorem addr_add0 (b off k : Nat) : Addr.add ⟨b, off, none⟩ k = ⟨b, off + k, none⟩ := by
  unfold Addr.add
  split
  · rename_i hk; subst hk; rfl
  · rfl

/-- The first i elements of a source; the elements from i on. -/
theorem Src.to {w : World} {sz m i cap : Nat} {ad : Option Addr} {css : List (Array Value)} (h : Src w sz (.slice ad m cap) m (css.flatMap Array.toList)) (hs : ∀ c ∈ css, c.size = sz) (hi : i ≤ m) (hl : css.length = m) :
    Src w sz (sliced ad 0 i cap sz) i ((css.take i).flatMap Array.toList) := by
  obtain ⟨h1, ad', c', e, h2⟩ := h
  obtain ⟨rfl, rfl⟩ : ad = ad' ∧ cap = c' := by simpa using e
  have hlen : ((css.take i).flatMap Array.toList).length = i * sz := by
    rw [flat_len _ (fun c hc => hs c (List.mem_of_mem_take hc)), List.length_take, hl, Nat.min_eq_left hi]
  refine ⟨hlen, _, _, by simp only [sliced, Nat.sub_zero]; rfl, fun hi0 => ?_⟩
  obtain ⟨b, off, rfl, hc⟩ := h2 (by omega)
  refine ⟨b, off, ?_, fun j x hj => hc j x ?_⟩
  · split
    · rfl
    · simp [addr_add0]
  · have hjl : j < ((css.take i).flatMap Array.toList).length := by
      rcases Nat.lt_or_ge j ((css.take i).flatMap Array.toList).length with h | h
      · exact h
      · rw [List.getElem?_eq_none h] at hj; cases hj
    have e : css.flatMap Array.toList = (css.take i).flatMap Array.toList ++ (css.drop i).flatMap Array.toList := by rw [← List.flatMap_append, List.take_append_drop]
    rw [e, List.getElem?_append_left hjl, hj]
theorem Src.from {w : World} {sz m i cap : Nat} {ad : Option Addr} {css : List (Array Value)} (h : Src w sz (.slice ad m cap) m (css.flatMap Array.toList)) (hs : ∀ c ∈ css, c.size = sz) (hi : i ≤ m) (hm : m ≤ cap) (hl : css.length = m) :
    Src w sz (sliced ad i m cap sz) (m - i) ((css.drop i).flatMap Array.toList) := by
  obtain ⟨h1, ad', c', e, h2⟩ := h
  obtain ⟨rfl, rfl⟩ : ad = ad' ∧ cap = c' := by simpa using e
  have hlen : ((css.drop i).flatMap Array.toList).length = (m - i) * sz := by
    rw [flat_len _ (fun c hc => hs c (List.mem_of_mem_drop hc))]; simp [hl]
  have hlen' : ((css.take i).flatMap Array.toList).length = i * sz := by
    rw [flat_len _ (fun c hc => hs c (List.mem_of_mem_take hc)), List.length_take, hl, Nat.min_eq_left hi]
  refine ⟨hlen, _, _, rfl, fun hi0 => ?_⟩
  obtain ⟨b, off, rfl, hc⟩ := h2 (by omega)
  refine ⟨b, off + i * sz, ?_, fun j x hj => ?_⟩
  · rw [if_neg (by omega)]
    simp [addr_add0]
  · have e : css.flatMap Array.toList = (css.take i).flatMap Array.toList ++ (css.drop i).flatMap Array.toList := by rw [← List.flatMap_append, List.take_append_drop]
    rw [Nat.add_assoc]
    refine hc _ _ ?_
    rw [e, List.getElem?_append_right (by omega), hlen', Nat.add_sub_cancel_left, hj]

section
variable {w0 w : World} {q : Value} {N : Ns} {R : Nat → Prop}

set_option maxRecDepth 10000 in
set_option maxHeartbeats 2000000 in
theorem refCopy_at (h : RefAt w0 w q N R) (i : Int) : Calls Try.prog 15 #[q, .int .i64 i] w fun e w' => e = .returned (.int .i64 (copyE N i)) ∧ RStep w0 w q R w' (copyN N i) := by
  have h' := h
  obtain ⟨hM, ⟨br, bw, Lv, ways, rfl, ho, ha, hne, hRr, hRw, hg⟩, hold, hlt⟩ := h
  have hbr := hlt br hRr
  have hc2 := ho.cell.2.2.1
  have hlen := ho.few
  obtain ⟨la, lc, hLv, hlm, hat⟩ := ha.done.at
  have HA := Lib.hid hat; clear hat
  have hcv : w.cell? ⟨br, 2, none⟩ = some (.slice la N.ls.length lc) := hLv ▸ hc2
  go_enter Try.func15, Try.ntmps15
  go_upto_region 1 with (fail)
  by_cases hi0 : i < 0
  · have hin : inR N i = false := decide_eq_false (by omega)
    refine wp_region_seq [3, 3, 3, 3, 3, 3, 3, 0, 3, 3, 3, 3] (fun _ => True) (by rfl) (by rfl) trivial ?_
    simp only [List.zip_cons_cons, List.zip_nil_right]
    refine wpPi_move _ rfl rfl ?_
    simp only [pl, pn, el, ec, sz, ss, gz, gs, if_true, if_false, Bool.false_eq_true, Bool.not_true, Bool.not_false, Nat.add_zero, Nat.zero_add, Nat.reduceAdd]
    refine wpPi_cmp _ _ _ _ _ _ _ _ rfl rfl rfl rfl rfl true (by simp only [cmpB]; simp; omega) ?_
    simp only [pl, pn, el, ec, sz, ss, gz, gs, if_true, if_false, Bool.false_eq_true, Bool.not_true, Bool.not_false, Nat.add_zero, Nat.zero_add, Nat.reduceAdd]
    refine wpPi_move _ rfl rfl ?_
    simp only [pl, pn, el, ec, sz, ss, gz, gs, if_true, if_false, Bool.false_eq_true, Bool.not_true, Bool.not_false, Nat.add_zero, Nat.zero_add, Nat.reduceAdd]
    refine wpPi_skip rfl ?_
    simp only [pl, pn, el, ec, sz, ss, gz, gs, if_true, if_false, Bool.false_eq_true, Bool.not_true, Bool.not_false, Nat.add_zero, Nat.zero_add, Nat.reduceAdd]
    refine wpPi_skip rfl ?_
    simp only [pl, pn, el, ec, sz, ss, gz, gs, if_true, if_false, Bool.false_eq_true, Bool.not_true, Bool.not_false, Nat.add_zero, Nat.zero_add, Nat.reduceAdd]
    refine wpPi_skip rfl ?_
    simp only [pl, pn, el, ec, sz, ss, gz, gs, if_true, if_false, Bool.false_eq_true, Bool.not_true, Bool.not_false, Nat.add_zero, Nat.zero_add, Nat.reduceAdd]
    refine wpPi_skip rfl ?_
    simp only [pl, pn, el, ec, sz, ss, gz, gs, if_true, if_false, Bool.false_eq_true, Bool.not_true, Bool.not_false, Nat.add_zero, Nat.zero_add, Nat.reduceAdd]
    refine wpPi_skip0 rfl ?_
    simp only [pl, pn, el, ec, sz, ss, gz, gs, if_true, if_false, Bool.false_eq_true, Bool.not_true, Bool.not_false, Nat.add_zero, Nat.zero_add, Nat.reduceAdd]
    refine wpPi_skip rfl ?_
    simp only [pl, pn, el, ec, sz, ss, gz, gs, if_true, if_false, Bool.false_eq_true, Bool.not_true, Bool.not_false, Nat.add_zero, Nat.zero_add, Nat.reduceAdd]
    refine wpPi_skip rfl ?_
    simp only [pl, pn, el, ec, sz, ss, gz, gs, if_true, if_false, Bool.false_eq_true, Bool.not_true, Bool.not_false, Nat.add_zero, Nat.zero_add, Nat.reduceAdd]
    refine wpPi_pick _ _ _ _ rfl rfl rfl ?_
    simp only [pl, pn, el, ec, sz, ss, gz, gs, if_true, if_false, Bool.false_eq_true, Bool.not_true, Bool.not_false, Nat.add_zero, Nat.zero_add, Nat.reduceAdd]
    refine wpPi_assign _ rfl rfl ?_
    simp only [pl, pn, el, ec, sz, ss, gz, gs, if_true, if_false, Bool.false_eq_true, Bool.not_true, Bool.not_false, Nat.add_zero, Nat.zero_add, Nat.reduceAdd]
    refine wpPi_nil ?_
    go_wp2
    go_ret
    refine ⟨by simp [copyE, hin], ?_⟩
    rw [show copyN N i = N by simp [copyN, hin]]
    exact h'.step (Mod.refl _ _)
  · by_cases hi1 : i < N.ls.length
    · have hin : inR N i = true := decide_eq_true (by omega)
      obtain ⟨k, hk⟩ : ∃ k : Nat, i = k := ⟨i.toNat, by omega⟩
      have hkl : k < N.ls.length := by omega
      subst hk
      obtain ⟨b, off, rfl, -, -, hat⟩ := HA.out k hkl
      obtain ⟨cs, hcs, hR, hcells⟩ := hat k hkl
      clear hat HA
      have hokk : LtrOk N.ls[k] := ho.oks _ (List.getElem_mem _)
      have hLk : copyN N k = (if 4096 ≤ N.ls.length then N else ⟨N.n, N.lost, N.cut, N.ls ++ [N.ls[k]]⟩) := by
        simp only [copyN, hin, if_true, Int.toNat_natCast]
        rw [List.getD, List.getElem?_eq_getElem hkl]; rfl
      obtain ⟨l, hl⟩ : ∃ l, l = N.ls[k] := ⟨_, rfl⟩
      rw [← hl] at hR hokk hLk
      clear hl
      have HLK := Lib.hid hLk; clear hLk
      refine wp_region_seq [3, 3, 3, 3, 3, 3, 3, 1, 3, 3, 3, 3] (fun _ => True) (by rfl) (by rfl) trivial ?_
      simp only [List.zip_cons_cons, List.zip_nil_right]
      refine wpPi_move _ rfl rfl ?_
      simp only [pl, pn, el, ec, sz, ss, gz, gs, if_true, if_false, Bool.false_eq_true, Bool.not_true, Bool.not_false, Nat.add_zero, Nat.zero_add, Nat.reduceAdd]
      refine wpPi_cmp _ _ _ _ _ _ _ _ rfl rfl rfl rfl rfl false (by simp only [cmpB]; simp) ?_
      simp only [pl, pn, el, ec, sz, ss, gz, gs, if_true, if_false, Bool.false_eq_true, Bool.not_true, Bool.not_false, Nat.add_zero, Nat.zero_add, Nat.reduceAdd]
      refine wpPi_move _ rfl rfl ?_
      simp only [pl, pn, el, ec, sz, ss, gz, gs, if_true, if_false, Bool.false_eq_true, Bool.not_true, Bool.not_false, Nat.add_zero, Nat.zero_add, Nat.reduceAdd]
      refine wpPi_move _ rfl rfl ?_
      simp only [pl, pn, el, ec, sz, ss, gz, gs, if_true, if_false, Bool.false_eq_true, Bool.not_true, Bool.not_false, Nat.add_zero, Nat.zero_add, Nat.reduceAdd]
      refine wpPi_move _ rfl rfl ?_
      simp only [pl, pn, el, ec, sz, ss, gz, gs, if_true, if_false, Bool.false_eq_true, Bool.not_true, Bool.not_false, Nat.add_zero, Nat.zero_add, Nat.reduceAdd]
      refine wpPi_nilCheck _ _ rfl rfl rfl ?_
      simp only [pl, pn, el, ec, sz, ss, gz, gs, if_true, if_false, Bool.false_eq_true, Bool.not_true, Bool.not_false, Nat.add_zero, Nat.zero_add, Nat.reduceAdd]
      refine wpPi_field _ _ _ _ _ _ rfl rfl rfl fo_46_2 ?_
      simp only [pl, pn, el, ec, sz, ss, gz, gs, if_true, if_false, Bool.false_eq_true, Bool.not_true, Bool.not_false, Nat.add_zero, Nat.zero_add, Nat.reduceAdd]
      refine wpPi_do rfl (fun K hK => ?_)
      refine wp_exec (exec_load1 43 _ (by rfl) br 2 (by rfl) _ hcv _ Try.underlying43 rfl) ?_
      refine hK _ _ trivial ?_
      clear hK K
      try simp only [pl, pn, el, ec, sz, ss, gz, gs, if_true, if_false, Bool.false_eq_true, Bool.not_true, Bool.not_false, Nat.add_zero, Nat.zero_add, Nat.reduceAdd]
      refine wpPi_len _ _ _ _ _ rfl rfl rfl (by kernel_rfl) ?_
      simp only [pl, pn, el, ec, sz, ss, gz, gs, if_true, if_false, Bool.false_eq_true, Bool.not_true, Bool.not_false, Nat.add_zero, Nat.zero_add, Nat.reduceAdd]
      refine wpPi_cmp _ _ _ _ _ _ _ _ rfl rfl rfl rfl rfl false (by simp only [cmpB]; simp; omega) ?_
      simp only [pl, pn, el, ec, sz, ss, gz, gs, if_true, if_false, Bool.false_eq_true, Bool.not_true, Bool.not_false, Nat.add_zero, Nat.zero_add, Nat.reduceAdd]
      refine wpPi_pick _ _ _ _ rfl rfl rfl ?_
      simp only [pl, pn, el, ec, sz, ss, gz, gs, if_true, if_false, Bool.false_eq_true, Bool.not_true, Bool.not_false, Nat.add_zero, Nat.zero_add, Nat.reduceAdd]
      refine wpPi_assign _ rfl rfl ?_
      simp only [pl, pn, el, ec, sz, ss, gz, gs, if_true, if_false, Bool.false_eq_true, Bool.not_true, Bool.not_false, Nat.add_zero, Nat.zero_add, Nat.reduceAdd]
      refine wpPi_nil ?_
      by_cases hfull : 4096 ≤ N.ls.length
      · go_upto_region 3 with (fail)
        refine wp_region_seq [3, 3, 3, 1, 3, 3, 3] (fun _ => True) (by rfl) (by rfl) trivial ?_
        simp only [List.zip_cons_cons, List.zip_nil_right]
        refine wpPi_move _ rfl rfl ?_
        simp only [pl, pn, el, ec, sz, ss, gz, gs, if_true, if_false, Bool.false_eq_true, Bool.not_true, Bool.not_false, Nat.add_zero, Nat.zero_add, Nat.reduceAdd]
        refine wpPi_nilCheck _ _ rfl rfl rfl ?_
        simp only [pl, pn, el, ec, sz, ss, gz, gs, if_true, if_false, Bool.false_eq_true, Bool.not_true, Bool.not_false, Nat.add_zero, Nat.zero_add, Nat.reduceAdd]
        refine wpPi_field _ _ _ _ _ _ rfl rfl rfl fo_46_2 ?_
        simp only [pl, pn, el, ec, sz, ss, gz, gs, if_true, if_false, Bool.false_eq_true, Bool.not_true, Bool.not_false, Nat.add_zero, Nat.zero_add, Nat.reduceAdd]
        refine wpPi_do rfl (fun K hK => ?_)
        refine wp_exec (exec_load1 43 _ (by rfl) br 2 (by rfl) _ hcv _ Try.underlying43 rfl) ?_
        refine hK _ _ trivial ?_
        clear hK K
        try simp only [pl, pn, el, ec, sz, ss, gz, gs, if_true, if_false, Bool.false_eq_true, Bool.not_true, Bool.not_false, Nat.add_zero, Nat.zero_add, Nat.reduceAdd]
        refine wpPi_len _ _ _ _ _ rfl rfl rfl (by kernel_rfl) ?_
        simp only [pl, pn, el, ec, sz, ss, gz, gs, if_true, if_false, Bool.false_eq_true, Bool.not_true, Bool.not_false, Nat.add_zero, Nat.zero_add, Nat.reduceAdd]
        refine wpPi_cmp _ _ _ _ _ _ _ _ rfl rfl rfl rfl rfl true (by simp only [cmpB]; simp; omega) ?_
        simp only [pl, pn, el, ec, sz, ss, gz, gs, if_true, if_false, Bool.false_eq_true, Bool.not_true, Bool.not_false, Nat.add_zero, Nat.zero_add, Nat.reduceAdd]
        refine wpPi_assign _ rfl rfl ?_
        simp only [pl, pn, el, ec, sz, ss, gz, gs, if_true, if_false, Bool.false_eq_true, Bool.not_true, Bool.not_false, Nat.add_zero, Nat.zero_add, Nat.reduceAdd]
        refine wpPi_nil ?_
        go_wp2
        go_ret
        refine ⟨by rw [show copyE N k = 10 by simp only [copyE, hin, if_true, if_pos hfull]]; rfl, ?_⟩
        rw [HLK.out, if_pos hfull]
        exact h'.step (Mod.refl _ _)
      · go_upto_region 3 with (fail)
        refine wp_region_seq [3, 3, 3, 1, 3, 3, 3] (fun _ => True) (by rfl) (by rfl) trivial ?_
        simp only [List.zip_cons_cons, List.zip_nil_right]
        refine wpPi_move _ rfl rfl ?_
        simp only [pl, pn, el, ec, sz, ss, gz, gs, if_true, if_false, Bool.false_eq_true, Bool.not_true, Bool.not_false, Nat.add_zero, Nat.zero_add, Nat.reduceAdd]
        refine wpPi_nilCheck _ _ rfl rfl rfl ?_
        simp only [pl, pn, el, ec, sz, ss, gz, gs, if_true, if_false, Bool.false_eq_true, Bool.not_true, Bool.not_false, Nat.add_zero, Nat.zero_add, Nat.reduceAdd]
        refine wpPi_field _ _ _ _ _ _ rfl rfl rfl fo_46_2 ?_
        simp only [pl, pn, el, ec, sz, ss, gz, gs, if_true, if_false, Bool.false_eq_true, Bool.not_true, Bool.not_false, Nat.add_zero, Nat.zero_add, Nat.reduceAdd]
        refine wpPi_do rfl (fun K hK => ?_)
        refine wp_exec (exec_load1 43 _ (by rfl) br 2 (by rfl) _ hcv _ Try.underlying43 rfl) ?_
        refine hK _ _ trivial ?_
        clear hK K
        try simp only [pl, pn, el, ec, sz, ss, gz, gs, if_true, if_false, Bool.false_eq_true, Bool.not_true, Bool.not_false, Nat.add_zero, Nat.zero_add, Nat.reduceAdd]
        refine wpPi_len _ _ _ _ _ rfl rfl rfl (by kernel_rfl) ?_
        simp only [pl, pn, el, ec, sz, ss, gz, gs, if_true, if_false, Bool.false_eq_true, Bool.not_true, Bool.not_false, Nat.add_zero, Nat.zero_add, Nat.reduceAdd]
        refine wpPi_cmp _ _ _ _ _ _ _ _ rfl rfl rfl rfl rfl false (by simp only [cmpB]; simp; omega) ?_
        simp only [pl, pn, el, ec, sz, ss, gz, gs, if_true, if_false, Bool.false_eq_true, Bool.not_true, Bool.not_false, Nat.add_zero, Nat.zero_add, Nat.reduceAdd]
        refine wpPi_assign _ rfl rfl ?_
        simp only [pl, pn, el, ec, sz, ss, gz, gs, if_true, if_false, Bool.false_eq_true, Bool.not_true, Bool.not_false, Nat.add_zero, Nat.zero_add, Nat.reduceAdd]
        refine wpPi_nil ?_
        go_upto_region 5 with (fail)
        have hS : w.drew.cell? ⟨br, 2, none⟩ = some (.slice (some ⟨b, off, none⟩) N.ls.length lc) := hcv
        have ha2 := ha.monoQ (Q' := RQ w R br bw) (fun k _ hk => ⟨.inl hk.1, hk.2⟩)
        refine wp_region_pi [(0, 3), (1, 3), (2, 3), (3, 3), (4, 0), (5, 3), (6, 3), (7, 3), (8, 0), (9, 3), (10, 3), (11, 1), (12, 1), (13, 1), (14, 1), (15, 3), (16, 3), (17, 2)] [17] (fun w' => w'.cell? ⟨br, 2, none⟩ = some (.slice (some ⟨b, off, none⟩) N.ls.length lc)) (by kernel_rfl) (by kernel_rfl) (by kernel_rfl) (by kernel_rfl) (fun _ _ _ _ hd h => ⟨hd.trans h.1, h.2⟩) hS ?_
        simp only [List.map_cons, List.map_nil, List.getD_cons_zero, List.getD_cons_succ]
        refine wpPi_move _ rfl rfl ?_
        simp only [pl, pn, el, ec, sz, ss, gz, gs, if_true, if_false, Bool.false_eq_true, Bool.not_true, Bool.not_false, Nat.add_zero, Nat.zero_add, Nat.reduceAdd]
        refine wpPi_move _ rfl rfl ?_
        simp only [pl, pn, el, ec, sz, ss, gz, gs, if_true, if_false, Bool.false_eq_true, Bool.not_true, Bool.not_false, Nat.add_zero, Nat.zero_add, Nat.reduceAdd]
        refine wpPi_nilCheck _ _ rfl rfl rfl ?_
        simp only [pl, pn, el, ec, sz, ss, gz, gs, if_true, if_false, Bool.false_eq_true, Bool.not_true, Bool.not_false, Nat.add_zero, Nat.zero_add, Nat.reduceAdd]
        refine wpPi_field _ _ _ _ _ _ rfl rfl rfl fo_46_2 ?_
        simp only [pl, pn, el, ec, sz, ss, gz, gs, if_true, if_false, Bool.false_eq_true, Bool.not_true, Bool.not_false, Nat.add_zero, Nat.zero_add, Nat.reduceAdd]
        refine wpPi_val rfl (fun w' hS => exec_load1 _ _ rfl _ _ rfl _ hS _ Try.underlying43 rfl) ?_
        simp only [pl, pn, el, ec, sz, ss, gz, gs, if_true, if_false, Bool.false_eq_true, Bool.not_true, Bool.not_false, Nat.add_zero, Nat.zero_add, Nat.reduceAdd]
        refine wpPi_move _ rfl rfl ?_
        simp only [pl, pn, el, ec, sz, ss, gz, gs, if_true, if_false, Bool.false_eq_true, Bool.not_true, Bool.not_false, Nat.add_zero, Nat.zero_add, Nat.reduceAdd]
        refine wpPi_nilCheck _ _ rfl rfl rfl ?_
        simp only [pl, pn, el, ec, sz, ss, gz, gs, if_true, if_false, Bool.false_eq_true, Bool.not_true, Bool.not_false, Nat.add_zero, Nat.zero_add, Nat.reduceAdd]
        refine wpPi_field _ _ _ _ _ _ rfl rfl rfl fo_46_2 ?_
        simp only [pl, pn, el, ec, sz, ss, gz, gs, if_true, if_false, Bool.false_eq_true, Bool.not_true, Bool.not_false, Nat.add_zero, Nat.zero_add, Nat.reduceAdd]
        refine wpPi_val rfl (fun w' hS => exec_load1 _ _ rfl _ _ rfl _ hS _ Try.underlying43 rfl) ?_
        simp only [pl, pn, el, ec, sz, ss, gz, gs, if_true, if_false, Bool.false_eq_true, Bool.not_true, Bool.not_false, Nat.add_zero, Nat.zero_add, Nat.reduceAdd]
        refine wpPi_move _ rfl rfl ?_
        simp only [pl, pn, el, ec, sz, ss, gz, gs, if_true, if_false, Bool.false_eq_true, Bool.not_true, Bool.not_false, Nat.add_zero, Nat.zero_add, Nat.reduceAdd]
        refine wpPi_index _ _ _ _ _ _ _ _ _ rfl rfl rfl rfl Try.underlying43 (n := 40) (by kernel_rfl) hkl ?_
        simp only [pl, pn, el, ec, sz, ss, gz, gs, if_true, if_false, Bool.false_eq_true, Bool.not_true, Bool.not_false, Nat.add_zero, Nat.zero_add, Nat.reduceAdd]
        refine wpPi_do rfl (fun K hK => ?_)
        refine wp_exec (exec_loadA 38 _ (by rfl) b (off + k * 40) (by rfl) _ (hcells.keep (Mod.refl NoB w).drew id) _ Try.underlying38 rfl 40 (by kernel_rfl) hcs) ?_
        refine hK _ _ hS ?_
        clear hK K
        try simp only [pl, pn, el, ec, sz, ss, gz, gs, if_true, if_false, Bool.false_eq_true, Bool.not_true, Bool.not_false, Nat.add_zero, Nat.zero_add, Nat.reduceAdd]
        refine wpPi_do rfl (fun K hK => ?_)
        go_wp2_with (go_at_call 30; refine (copyLetter_any false _ _ _ _ _ (hR.keep0 (Mod.refl NoB w).drew) hokk).mono ?_; rintro _ w3 ⟨_, rfl, hm3, cs', E3, G3, rfl, hl3, hE, hG, hEG⟩)
        replace hm3 := (Mod.refl NoB w).drew.trans0 hm3
        replace hS := hm3.cell id hcv
        have hsd : w.drew.heap.size = w.heap.size := rfl
        have hl4 : LetR false w3 (fun k => New w w3 k) (fun k => New w w3 k) cs' l := hl3.weak.mono (fun k hk => ⟨by have := (hE k hk).1; omega, (hE k hk).2⟩) (fun k hk => ⟨by have := (hG k hk).1; omega, (hG k hk).2⟩)
        refine hK _ _ hS ?_
        clear hK K hE hG hEG
        try simp only [pl, pn, el, ec, sz, ss, gz, gs, if_true, if_false, Bool.false_eq_true, Bool.not_true, Bool.not_false, Nat.add_zero, Nat.zero_add, Nat.reduceAdd]
        refine wpPi_do rfl (fun K hK => ?_)
        refine wp_buildSlice1 43 38 _ (.agg cs') ltrZero 40 (by rfl) (by rfl) Try.underlying43 (by kernel_rfl) (by omega) (by omega) hl4.size (fun w4 hb4 hm4 hs4 => ?_)
        replace hb4 : w4.heap[w3.heap.size]? = some (.cells cs' 38 (0, 0)) := hb4
        replace hS := hm4.cell id hS
        replace hl4 := (hl4.keep0 hm4).mono (fun k hk => (⟨hk.1, Nat.lt_of_lt_of_le hk.2 hm4.size⟩ : New w w4 k)) (fun k hk => (⟨hk.1, Nat.lt_of_lt_of_le hk.2 hm4.size⟩ : New w w4 k))
        have hM4 := hm3.trans0 hm4
        have ha4 := ha2.keep0 hM4
        refine hK _ _ hS ?_
        clear hK K
        try simp only [pl, pn, el, ec, sz, ss, gz, gs, if_true, if_false, Bool.false_eq_true, Bool.not_true, Bool.not_false, Nat.add_zero, Nat.zero_add, Nat.reduceAdd]
        refine wpPi_do rfl (fun K hK => ?_)
        obtain ⟨css, g1, g2, g3⟩ := ha4
        refine wp_append _ _ 43 38 ltrZero 40 144 (by rfl) Try.underlying43 info38 (by rfl) (by omega) w0.heap.size Lv N.ls.length (css.flatMap Array.toList) (by rw [hLv]; rfl) g1 _ 1 cs'.toList (by rfl)
          (⟨by simp [hl4.size], _, _, rfl, fun _ => ⟨_, _, rfl, fun j x hx => by rw [Nat.zero_add, cell_of_row w4 _ _ _ _ _ hb4]; simpa using hx⟩⟩ : Src w4 40 _ 1 cs'.toList)
          (fun c hc => hl4.one c (by simpa using hc)) (by unfold maxLen; omega) (by omega) (by have := hM.size; have := hM4.size; omega) (fun v1 w5 hown hgrow hvv => ?_)
        have hmo : Mod (fun k => Lv.ownBlock = some k) w4 w5 := (Mod.refl _ _).grown hgrow (fun k hk _ => hk)
        have hnb : Lv.ownBlock ≠ some br := fun e => (hg br e).2.1 rfl
        replace hS := hmo.cell hnb hS
        have ho5 := ((hmo.obj hnb (hM4.obj id ho.obj)))
        refine hK _ _ hS ?_
        clear hK K
        try simp only [pl, pn, el, ec, sz, ss, gz, gs, if_true, if_false, Bool.false_eq_true, Bool.not_true, Bool.not_false, Nat.add_zero, Nat.zero_add, Nat.reduceAdd]
        refine wpPi_nilCheck _ _ rfl rfl rfl ?_
        simp only [pl, pn, el, ec, sz, ss, gz, gs, if_true, if_false, Bool.false_eq_true, Bool.not_true, Bool.not_false, Nat.add_zero, Nat.zero_add, Nat.reduceAdd]
        refine wpPi_field _ _ _ _ _ _ rfl rfl rfl fo_46_2 ?_
        simp only [pl, pn, el, ec, sz, ss, gz, gs, if_true, if_false, Bool.false_eq_true, Bool.not_true, Bool.not_false, Nat.add_zero, Nat.zero_add, Nat.reduceAdd]
        refine wpPi_last rfl (fun K hK => ?_)
        refine wp_store1 43 _ _ br 2 v1 (by rfl) (by rfl) (by rfl) (owns_one hown) (by kernel_rfl) _ _ ho5 (by show 2 < 4; omega) (fun w6 hb6 hm6 => ?_)
        refine hK _ _ ?_
        clear hK K
        try simp only [pl, pn, el, ec, sz, ss, gz, gs, if_true, if_false, Bool.false_eq_true, Bool.not_true, Bool.not_false, Nat.add_zero, Nat.zero_add, Nat.reduceAdd]
        refine wpPi_nil ?_
        go_wp2
        go_ret
        refine ⟨by rw [show copyE N k = 0 by simp only [copyE, hin, if_true, if_neg hfull]]; rfl, ?_⟩
        rw [HLK.out, if_neg hfull]
        exact ref_push h' ho hne hRr hRw hg hM4 g2 g3 hl4 hown hgrow hvv hb6 hm6 (by omega) hokk
    · have hin : inR N i = false := decide_eq_false (by omega)
      clear HA
      refine wp_region_seq [3, 3, 3, 3, 3, 3, 3, 1, 3, 3, 3, 3] (fun _ => True) (by rfl) (by rfl) trivial ?_
      simp only [List.zip_cons_cons, List.zip_nil_right]
      refine wpPi_move _ rfl rfl ?_
      simp only [pl, pn, el, ec, sz, ss, gz, gs, if_true, if_false, Bool.false_eq_true, Bool.not_true, Bool.not_false, Nat.add_zero, Nat.zero_add, Nat.reduceAdd]
      refine wpPi_cmp _ _ _ _ _ _ _ _ rfl rfl rfl rfl rfl false (by simp only [cmpB]; simp; omega) ?_
      simp only [pl, pn, el, ec, sz, ss, gz, gs, if_true, if_false, Bool.false_eq_true, Bool.not_true, Bool.not_false, Nat.add_zero, Nat.zero_add, Nat.reduceAdd]
      refine wpPi_move _ rfl rfl ?_
      simp only [pl, pn, el, ec, sz, ss, gz, gs, if_true, if_false, Bool.false_eq_true, Bool.not_true, Bool.not_false, Nat.add_zero, Nat.zero_add, Nat.reduceAdd]
      refine wpPi_move _ rfl rfl ?_
      simp only [pl, pn, el, ec, sz, ss, gz, gs, if_true, if_false, Bool.false_eq_true, Bool.not_true, Bool.not_false, Nat.add_zero, Nat.zero_add, Nat.reduceAdd]
      refine wpPi_move _ rfl rfl ?_
      simp only [pl, pn, el, ec, sz, ss, gz, gs, if_true, if_false, Bool.false_eq_true, Bool.not_true, Bool.not_false, Nat.add_zero, Nat.zero_add, Nat.reduceAdd]
      refine wpPi_nilCheck _ _ rfl rfl rfl ?_
      simp only [pl, pn, el, ec, sz, ss, gz, gs, if_true, if_false, Bool.false_eq_true, Bool.not_true, Bool.not_false, Nat.add_zero, Nat.zero_add, Nat.reduceAdd]
      refine wpPi_field _ _ _ _ _ _ rfl rfl rfl fo_46_2 ?_
      simp only [pl, pn, el, ec, sz, ss, gz, gs, if_true, if_false, Bool.false_eq_true, Bool.not_true, Bool.not_false, Nat.add_zero, Nat.zero_add, Nat.reduceAdd]
      refine wpPi_do rfl (fun K hK => ?_)
      refine wp_exec (exec_load1 43 _ (by rfl) br 2 (by rfl) _ hcv _ Try.underlying43 rfl) ?_
      refine hK _ _ trivial ?_
      clear hK K
      try simp only [pl, pn, el, ec, sz, ss, gz, gs, if_true, if_false, Bool.false_eq_true, Bool.not_true, Bool.not_false, Nat.add_zero, Nat.zero_add, Nat.reduceAdd]
      refine wpPi_len _ _ _ _ _ rfl rfl rfl (by kernel_rfl) ?_
      simp only [pl, pn, el, ec, sz, ss, gz, gs, if_true, if_false, Bool.false_eq_true, Bool.not_true, Bool.not_false, Nat.add_zero, Nat.zero_add, Nat.reduceAdd]
      refine wpPi_cmp _ _ _ _ _ _ _ _ rfl rfl rfl rfl rfl true (by simp only [cmpB]; simp; omega) ?_
      simp only [pl, pn, el, ec, sz, ss, gz, gs, if_true, if_false, Bool.false_eq_true, Bool.not_true, Bool.not_false, Nat.add_zero, Nat.zero_add, Nat.reduceAdd]
      refine wpPi_pick _ _ _ _ rfl rfl rfl ?_
      simp only [pl, pn, el, ec, sz, ss, gz, gs, if_true, if_false, Bool.false_eq_true, Bool.not_true, Bool.not_false, Nat.add_zero, Nat.zero_add, Nat.reduceAdd]
      refine wpPi_assign _ rfl rfl ?_
      simp only [pl, pn, el, ec, sz, ss, gz, gs, if_true, if_false, Bool.false_eq_true, Bool.not_true, Bool.not_false, Nat.add_zero, Nat.zero_add, Nat.reduceAdd]
      refine wpPi_nil ?_
      go_wp2
      go_ret
      refine ⟨by simp [copyE, hin], ?_⟩
      rw [show copyN N i = N by simp [copyN, hin]]
      exact h'.step (Mod.refl _ _)
end
end Go.Proofs.Ytdllpakdhnanbaa
