/- The net's functions that go by a number: Drop, Copy. -/
import Derived.Test.YtdllpakdhnanbaaNetF
namespace Go.Proofs.Ytdllpakdhnanbaa
set_option linter.unusedSimpArgs false
set_option linter.unusedVariables false
set_option linter.unnecessarySimpa false
open Go.RowKit

section
variable {w : World} {bx mb : Nat} {n lost : Int} {cut : Int × Int → Bool} {its : List It}

theorem NetInv.lose {w' : World} (h : NetInv w bx mb n lost cut its) (c : Int) (hb : w'.heap[bx]? = some (.cells ((netCells n lost (its.map It.lk) mb).setIfInBounds 1 (.int .i64 c)) 72 (0, 0))) (hm : Mod (fun k => k = bx) w w') :
    NetInv w' bx mb n c cut its := by
  have hne : ∀ x ∈ its, x.b ≠ bx := fun x hx e => by
    obtain ⟨i, hi, rfl⟩ := List.getElem_of_mem hx
    have h1 := h.net.mid.ne i (by simpa using hi)
    simp only [List.getElem_map, It.lk] at h1
    exact h1 e
  obtain ⟨ps, hps, hq⟩ := h.map
  obtain ⟨h1, h2⟩ := h.lets_keep hm (fun k e => .inl e)
  refine ⟨⟨by rw [hb]; rfl, fun i hi => hm.objB ?_ (h.net.link i hi), h.net.size, h.net.nd, h.net.few⟩, ⟨ps, hps.keep hm (fun e => h.mb_ne.1 e), hq⟩, h1, h2, h.apart, h.pw, h.few, h.hn⟩
  simp only [List.getElem_map, It.lk]
  exact hne _ (List.getElem_mem _)

set_option maxRecDepth 10000 in
set_option maxHeartbeats 400000 in
theorem pull55 (h : NetInv w bx mb n lost cut its) (i : Nat) (hi : i < its.length) :
    Calls Try.prog 55 #[.pointer (some ⟨bx, 0, none⟩), .int .i64 i] w fun e w' => e = .returned (.int .i64 0) ∧ NetInv w' bx mb n lost cut (its.eraseIdx i) ∧ Mod (NetBl bx (its.map It.lk)) w w' := by
  go_enter Try.func55, Try.ntmps55
  go_wp2_with (go_at_call 48; refine (pull_inv h i hi).mono ?_; rintro _ w1 ⟨rfl, h1, hm1, _⟩)
  go_wp2
  go_ret
  exact ⟨rfl, h1, hm1⟩

/-- What Drop does. -/
def DropR (w : World) (bx mb : Nat) (n lost : Int) (cut : Int × Int → Bool) (its : List It) (i : Int) (e : Ending) (w' : World) : Prop :=
  (∃ (k : Nat), k < its.length ∧ i = (k : Int) ∧ e = .returned (.int .i64 0) ∧ NetInv w' bx mb n (lost + 1) cut (its.eraseIdx k) ∧ Mod (NetBl bx (its.map It.lk)) w w') ∨
  (¬ (0 ≤ i ∧ i < its.length) ∧ e = .returned (.int .i64 26) ∧ NetInv w' bx mb n lost cut its ∧ Mod NoB w w')

set_option maxRecDepth 10000 in
set_option maxHeartbeats 800000 in
theorem drop_any (h : NetInv w bx mb n lost cut its) (hl : 0 ≤ lost ∧ lost ≤ 1000000000) (i : Int) : Calls Try.prog 28 #[.pointer (some ⟨bx, 0, none⟩), .int .i64 i] w (DropR w bx mb n lost cut its i) := by
  have hc := h.cell
  have hat := at_55 w bx n i its.length (.pointer (some ⟨bx, 0, none⟩)) hc.1 h.hn0 hc.2.2.1
    (fun r w' => ∃ (k : Nat), k < its.length ∧ i = (k : Int) ∧ r = .int .i64 0 ∧ NetInv w' bx mb n lost cut (its.eraseIdx k) ∧ Mod (NetBl bx (its.map It.lk)) w w')
    (fun h0 h1 => by
      obtain ⟨k, rfl⟩ := Int.eq_ofNat_of_zero_le h0
      have hk : k < its.length := by omega
      refine (pull55 h k hk).mono ?_
      rintro e w' ⟨he, hr⟩
      exact ⟨_, he, k, hk, rfl, rfl, hr⟩)
  go_enter Try.func28, Try.ntmps28
  go_upto_region 1 with (fail)
  refine wp_region_seq [3, 3, 3, 1, 1, 3] (fun _ => True) (by rfl) (by rfl) trivial ?_
  simp only [List.zip_cons_cons, List.zip_nil_right]
  refine wpPi_move _ rfl rfl ?_
  simp only [pl, pn, el, ec, sz, ss, gz, gs, if_true, if_false, Bool.false_eq_true, Bool.not_true, Bool.not_false, Nat.add_zero, Nat.zero_add, Nat.reduceAdd]
  refine wpPi_move _ rfl rfl ?_
  simp only [pl, pn, el, ec, sz, ss, gz, gs, if_true, if_false, Bool.false_eq_true, Bool.not_true, Bool.not_false, Nat.add_zero, Nat.zero_add, Nat.reduceAdd]
  refine wpPi_move _ rfl rfl ?_
  simp only [pl, pn, el, ec, sz, ss, gz, gs, if_true, if_false, Bool.false_eq_true, Bool.not_true, Bool.not_false, Nat.add_zero, Nat.zero_add, Nat.reduceAdd]
  refine wpPi_do rfl (fun K hK => ?_)
  go_wp2
  refine hK _ _ trivial ?_
  clear hK K
  try simp only [pl, pn, el, ec, sz, ss, gz, gs, if_true, if_false, Bool.false_eq_true, Bool.not_true, Bool.not_false, Nat.add_zero, Nat.zero_add, Nat.reduceAdd]
  refine wpPi_do rfl (fun K hK => ?_)
  go_wp2_with (go_at_call 45; refine hat.mono ?_; rintro _ w1 ⟨r, rfl, hr⟩)
  refine hK _ _ trivial ?_
  clear hK K
  try simp only [pl, pn, el, ec, sz, ss, gz, gs, if_true, if_false, Bool.false_eq_true, Bool.not_true, Bool.not_false, Nat.add_zero, Nat.zero_add, Nat.reduceAdd]
  refine wpPi_assign _ rfl rfl ?_
  simp only [pl, pn, el, ec, sz, ss, gz, gs, if_true, if_false, Bool.false_eq_true, Bool.not_true, Bool.not_false, Nat.add_zero, Nat.zero_add, Nat.reduceAdd]
  refine wpPi_nil ?_
  rcases hr with ⟨_, _, k, hk, rfl, rfl, h1, hm1⟩ | ⟨hno, rfl, rfl⟩
  · go_upto_region 3 with (fail)
    have h1c := h1.cell
    refine wp_region_seq [3, 3, 3, 1, 3, 3, 3, 1] (fun _ => True) (by rfl) (by rfl) trivial ?_
    simp only [List.zip_cons_cons, List.zip_nil_right]
    refine wpPi_move _ rfl rfl ?_
    simp only [pl, pn, el, ec, sz, ss, gz, gs, if_true, if_false, Bool.false_eq_true, Bool.not_true, Bool.not_false, Nat.add_zero, Nat.zero_add, Nat.reduceAdd]
    refine wpPi_nilCheck _ _ rfl rfl rfl ?_
    simp only [pl, pn, el, ec, sz, ss, gz, gs, if_true, if_false, Bool.false_eq_true, Bool.not_true, Bool.not_false, Nat.add_zero, Nat.zero_add, Nat.reduceAdd]
    refine wpPi_field _ _ _ _ _ _ rfl rfl rfl fo_72_1 ?_
    simp only [pl, pn, el, ec, sz, ss, gz, gs, if_true, if_false, Bool.false_eq_true, Bool.not_true, Bool.not_false, Nat.add_zero, Nat.zero_add, Nat.reduceAdd]
    refine wpPi_do rfl (fun K hK => ?_)
    refine wp_exec (exec_load1 3 _ (by rfl) bx 1 (by rfl) _ h1c.2.1 _ Try.underlying3 rfl) ?_
    refine hK _ _ trivial ?_
    clear hK K
    try simp only [pl, pn, el, ec, sz, ss, gz, gs, if_true, if_false, Bool.false_eq_true, Bool.not_true, Bool.not_false, Nat.add_zero, Nat.zero_add, Nat.reduceAdd]
    refine wpPi_add _ _ _ _ _ _ rfl rfl rfl rfl (by omega) (by omega) ?_
    simp only [pl, pn, el, ec, sz, ss, gz, gs, if_true, if_false, Bool.false_eq_true, Bool.not_true, Bool.not_false, Nat.add_zero, Nat.zero_add, Nat.reduceAdd]
    refine wpPi_nilCheck _ _ rfl rfl rfl ?_
    simp only [pl, pn, el, ec, sz, ss, gz, gs, if_true, if_false, Bool.false_eq_true, Bool.not_true, Bool.not_false, Nat.add_zero, Nat.zero_add, Nat.reduceAdd]
    refine wpPi_field _ _ _ _ _ _ rfl rfl rfl fo_72_1 ?_
    simp only [pl, pn, el, ec, sz, ss, gz, gs, if_true, if_false, Bool.false_eq_true, Bool.not_true, Bool.not_false, Nat.add_zero, Nat.zero_add, Nat.reduceAdd]
    refine wpPi_do rfl (fun K hK => ?_)
    refine wp_store1 3 _ _ bx 1 (.int .i64 (lost + 1)) (by rfl) (by rfl) (by rfl) rfl (by kernel_rfl) _ _ h1.net.obj (by simp [netCells]) (fun w2 hb2 hm2 => ?_)
    have h2 := h1.lose _ hb2 hm2
    have hM2 : Mod (NetBl bx (its.map It.lk)) w w2 := hm1.trans hm2 (fun j hj e => .inl e)
    refine hK _ _ trivial ?_
    clear hK K
    try simp only [pl, pn, el, ec, sz, ss, gz, gs, if_true, if_false, Bool.false_eq_true, Bool.not_true, Bool.not_false, Nat.add_zero, Nat.zero_add, Nat.reduceAdd]
    refine wpPi_nil ?_
    go_wp2
    go_ret
    exact .inl ⟨k, hk, rfl, rfl, h2, hM2⟩
  · go_wp2
    go_ret
    exact .inr ⟨hno, rfl, h, Mod.refl _ _⟩

/-- A letter like l is laid behind all: its memory is new. -/
def PushR (w : World) (bx mb : Nat) (n lost : Int) (cut : Int × Int → Bool) (its : List It) (l : Ltr) (w' : World) : Prop :=
  ∃ x : It, x.l = l ∧ NetInv w' bx mb n lost cut (its ++ [x]) ∧ Mod (NetBl bx (its.map It.lk)) w w' ∧ ∀ k, k = x.b ∨ x.foot k → New w w' k

theorem PushR.mk {w1 w2 : World} (h1 : NetInv w1 bx mb n lost cut its) (hlt : ∀ k, NetFoot bx mb its k → k < w.heap.size) (hM : Mod NoB w w1) (hfew : its.length < 4096) {b : Nat} {cs : Array Value} {E G : Nat → Prop} {l : Ltr} (hl : LetR true w1 E G cs l) (hok : LtrOk l)
    (hE : ∀ k, E k → New w w1 k) (hG : ∀ k, G k → New w w1 k) (hEG : ∀ k, E k → ¬ G k)
    (hnet : NetW w2 bx mb n lost ((its.map It.lk) ++ [(b, cs)])) (hb : New w1 w2 b) (hm : Mod (NetBl bx (its.map It.lk)) w1 w2) : PushR w bx mb n lost cut its l w2 := by
  have hn : ∀ k, E k ∨ G k → New w w1 k := fun k hk => by rcases hk with hk | hk; exact hE k hk; exact hG k hk
  refine ⟨⟨b, cs, E, G, l⟩, rfl, h1.push hfew hnet hm hb hl hok hEG (fun k hk => (hn k hk).2) (fun k hk hf => ?_), ?_, fun k hk => ?_⟩
  · have h2 := hlt k hf
    have h3 := (hn k hk).1
    omega
  · exact (hM.mono (S' := NetBl bx (its.map It.lk)) (fun _ _ h => False.elim h)).trans hm (fun k _ h => h)
  · have hs1 := hM.size
    have hs2 := hm.size
    rcases hk with e | hk
    · have h3 := hb.1; have h4 := hb.2
      simp only at e
      exact ⟨by omega, by omega⟩
    · have h3 := hn k hk
      exact ⟨h3.1, by have := h3.2; omega⟩

/-- What copying a letter that is under way does. -/
def DoubleR (w : World) (bx mb : Nat) (n lost : Int) (cut : Int × Int → Bool) (its : List It) (i : Nat) (hi : i < its.length) (r : Value) (w' : World) : Prop :=
  (4096 ≤ its.length ∧ r = .int .i64 10 ∧ NetInv w' bx mb n lost cut its ∧ Mod NoB w w') ∨ (its.length < 4096 ∧ r = .int .i64 0 ∧ PushR w bx mb n lost cut its its[i].l w')

set_option maxRecDepth 10000 in
set_option maxHeartbeats 800000 in
theorem double46 (h : NetInv w bx mb n lost cut its) (i : Nat) (hi : i < its.length) :
    Calls Try.prog 46 #[.pointer (some ⟨bx, 0, none⟩), .int .i64 i] w fun e w' => ∃ r, e = .returned r ∧ DoubleR w bx mb n lost cut its i hi r w' := by
  have hc := h.cell
  obtain ⟨c, hce⟩ : ∃ c : Int, c = its.length := ⟨_, rfl⟩
  have hcnt : w.cell? ⟨bx, 3, none⟩ = some (.int .i64 c) := by rw [hce]; exact hc.2.2.1
  have HC := Lib.hid hce; clear hce
  clear hc
  go_enter Try.func46, Try.ntmps46
  by_cases hge : c < 4096
  · have hfew : its.length < 4096 := by have := HC.out; omega
    have hi' : i < (its.map It.lk).length := by simpa using hi
    have hcp : w.cell? ⟨plB bx (its.map It.lk) i, plO i, none⟩ = some (.pointer (some ⟨its[i].b, 0, none⟩)) := by
      rw [h.net.place i (by omega), ptrOf_drop hi', NetInv.lk i hi]
    have hL0 := h.net.link i hi'
    rw [NetInv.lk i hi] at hL0
    have hL : w.heap[its[i].b]? = some (.cells (its[i].cs.push (ptrOf ((its.map It.lk).drop (i + 1)))) 97 (0, 0)) := hL0
    have hsz := h.sz i hi
    have hCA : CellsAt w its[i].b 0 its[i].cs := CellsAt.of_obj hL (fun j hj => by rw [Nat.zero_add, Array.getElem?_push, if_neg (by omega)])
    obtain ⟨hlet, hok, _⟩ := h.lets _ (List.getElem_mem hi)
    have hlt := h.lt
    go_upto_region 3 with (fail)
    have hS : Mod NoB w w.drew := (Mod.refl _ _).drew
    refine wp_region_pi [(0, 3), (1, 3), (2, 3), (3, 3), (4, 3), (5, 3), (6, 3), (7, 1), (8, 3), (9, 1), (10, 3), (11, 3), (12, 1), (13, 1), (14, 1)] [] (fun _ => True) (by kernel_rfl) (by kernel_rfl) (by kernel_rfl) (by kernel_rfl) (fun _ _ _ _ hd h => ⟨hd.trans h.1, h.2⟩) trivial ?_
    simp only [List.map_cons, List.map_nil, List.getD_cons_zero, List.getD_cons_succ]
    refine wpPi_move _ rfl rfl ?_
    simp only [pl, pn, el, ec, sz, ss, gz, gs, if_true, if_false, Bool.false_eq_true, Bool.not_true, Bool.not_false, Nat.add_zero, Nat.zero_add, Nat.reduceAdd]
    refine wpPi_nilCheck _ _ rfl rfl rfl ?_
    simp only [pl, pn, el, ec, sz, ss, gz, gs, if_true, if_false, Bool.false_eq_true, Bool.not_true, Bool.not_false, Nat.add_zero, Nat.zero_add, Nat.reduceAdd]
    refine wpPi_field _ _ _ _ _ _ rfl rfl rfl fo_72_2 ?_
    simp only [pl, pn, el, ec, sz, ss, gz, gs, if_true, if_false, Bool.false_eq_true, Bool.not_true, Bool.not_false, Nat.add_zero, Nat.zero_add, Nat.reduceAdd]
    refine wpPi_move _ rfl rfl ?_
    simp only [pl, pn, el, ec, sz, ss, gz, gs, if_true, if_false, Bool.false_eq_true, Bool.not_true, Bool.not_false, Nat.add_zero, Nat.zero_add, Nat.reduceAdd]
    refine wpPi_nilCheck _ _ rfl rfl rfl ?_
    simp only [pl, pn, el, ec, sz, ss, gz, gs, if_true, if_false, Bool.false_eq_true, Bool.not_true, Bool.not_false, Nat.add_zero, Nat.zero_add, Nat.reduceAdd]
    refine wpPi_field _ _ _ _ _ _ rfl rfl rfl fo_72_2 ?_
    simp only [pl, pn, el, ec, sz, ss, gz, gs, if_true, if_false, Bool.false_eq_true, Bool.not_true, Bool.not_false, Nat.add_zero, Nat.zero_add, Nat.reduceAdd]
    refine wpPi_move _ rfl rfl ?_
    simp only [pl, pn, el, ec, sz, ss, gz, gs, if_true, if_false, Bool.false_eq_true, Bool.not_true, Bool.not_false, Nat.add_zero, Nat.zero_add, Nat.reduceAdd]
    refine wpPi_do rfl (fun K hK => ?_)
    go_wp2_with (go_at_call 64; refine (at_any w.drew bx mb n lost _ (h.net.keep0 hS) i (by simp; omega)).mono ?_; rintro _ _ ⟨rfl, rfl⟩)
    refine hK _ _ trivial ?_
    clear hK K
    try simp only [pl, pn, el, ec, sz, ss, gz, gs, if_true, if_false, Bool.false_eq_true, Bool.not_true, Bool.not_false, Nat.add_zero, Nat.zero_add, Nat.reduceAdd]
    refine wpPi_nilCheck _ _ rfl rfl rfl ?_
    simp only [pl, pn, el, ec, sz, ss, gz, gs, if_true, if_false, Bool.false_eq_true, Bool.not_true, Bool.not_false, Nat.add_zero, Nat.zero_add, Nat.reduceAdd]
    refine wpPi_do rfl (fun K hK => ?_)
    refine wp_exec (exec_load1 67 _ (by rfl) _ _ (by rfl) _ (hS.cell id hcp) _ Try.underlying67 rfl) ?_
    refine hK _ _ trivial ?_
    clear hK K
    try simp only [pl, pn, el, ec, sz, ss, gz, gs, if_true, if_false, Bool.false_eq_true, Bool.not_true, Bool.not_false, Nat.add_zero, Nat.zero_add, Nat.reduceAdd]
    refine wpPi_nilCheck _ _ rfl rfl rfl ?_
    simp only [pl, pn, el, ec, sz, ss, gz, gs, if_true, if_false, Bool.false_eq_true, Bool.not_true, Bool.not_false, Nat.add_zero, Nat.zero_add, Nat.reduceAdd]
    refine wpPi_field _ _ _ _ _ _ rfl rfl rfl fo_97_0 ?_
    simp only [pl, pn, el, ec, sz, ss, gz, gs, if_true, if_false, Bool.false_eq_true, Bool.not_true, Bool.not_false, Nat.add_zero, Nat.zero_add, Nat.reduceAdd]
    refine wpPi_do rfl (fun K hK => ?_)
    refine wp_exec (exec_loadA 38 _ (by rfl) _ _ (by rfl) _ (hCA.keep hS id) _ Try.underlying38 rfl 40 (by kernel_rfl) hsz) ?_
    refine hK _ _ trivial ?_
    clear hK K
    try simp only [pl, pn, el, ec, sz, ss, gz, gs, if_true, if_false, Bool.false_eq_true, Bool.not_true, Bool.not_false, Nat.add_zero, Nat.zero_add, Nat.reduceAdd]
    refine wpPi_do rfl (fun K hK => ?_)
    go_wp2_with (go_at_call 43; refine (copied_any true _ _ _ _ _ (hlet.keep0 hS) hok).mono ?_; rintro _ w2 ⟨_, rfl, hm2, cs', E, G, rfl, hl2, hE, hG, hEG⟩)
    refine hK _ _ trivial ?_
    clear hK K
    try simp only [pl, pn, el, ec, sz, ss, gz, gs, if_true, if_false, Bool.false_eq_true, Bool.not_true, Bool.not_false, Nat.add_zero, Nat.zero_add, Nat.reduceAdd]
    refine wpPi_do rfl (fun K hK => ?_)
    have hM2 := hS.trans0 hm2
    have h2 := h.keep0 hM2
    go_wp2_with (go_at_call 42; refine (push_any w2 bx mb n lost _ h2.net (by rw [List.length_map]; omega) cs' hl2.size).mono ?_; rintro _ w3 ⟨rfl, b3, hn3, hb3, hm3⟩)
    have hpush : PushR w bx mb n lost cut its its[i].l w3 := PushR.mk h2 hlt hM2 hfew hl2 hok (fun k hk => ⟨Nat.le_trans hS.size (hE k hk).1, (hE k hk).2⟩) (fun k hk => ⟨Nat.le_trans hS.size (hG k hk).1, (hG k hk).2⟩) hEG hn3 hb3 hm3
    refine hK _ _ trivial ?_
    clear hK K
    try simp only [pl, pn, el, ec, sz, ss, gz, gs, if_true, if_false, Bool.false_eq_true, Bool.not_true, Bool.not_false, Nat.add_zero, Nat.zero_add, Nat.reduceAdd]
    refine wpPi_nil ?_
    go_wp2
    go_ret
    exact ⟨_, rfl, .inr ⟨hfew, rfl, hpush⟩⟩
  · go_wp2
    go_ret
    exact ⟨_, rfl, .inl ⟨by have := HC.out; omega, rfl, h, Mod.refl _ _⟩⟩

/-- What Copy does. -/
def CopyR (w : World) (bx mb : Nat) (n lost : Int) (cut : Int × Int → Bool) (its : List It) (i : Int) (e : Ending) (w' : World) : Prop :=
  (∃ (k : Nat) (hk : k < its.length) (r : Value), i = (k : Int) ∧ e = .returned r ∧ DoubleR w bx mb n lost cut its k hk r w') ∨
  (¬ (0 ≤ i ∧ i < its.length) ∧ e = .returned (.int .i64 26) ∧ NetInv w' bx mb n lost cut its ∧ Mod NoB w w')

set_option maxRecDepth 10000 in
set_option maxHeartbeats 800000 in
theorem copy_any (h : NetInv w bx mb n lost cut its) (i : Int) : Calls Try.prog 14 #[.pointer (some ⟨bx, 0, none⟩), .int .i64 i] w (CopyR w bx mb n lost cut its i) := by
  have hc := h.cell
  have hat := at_46 w bx n i its.length (.pointer (some ⟨bx, 0, none⟩)) hc.1 h.hn0 hc.2.2.1
    (fun r w' => ∃ (k : Nat) (hk : k < its.length), i = (k : Int) ∧ DoubleR w bx mb n lost cut its k hk r w')
    (fun h0 h1 => by
      obtain ⟨k, rfl⟩ := Int.eq_ofNat_of_zero_le h0
      have hk : k < its.length := by omega
      refine (double46 h k hk).mono ?_
      rintro e w' ⟨r, he, hr⟩
      exact ⟨_, he, k, hk, rfl, hr⟩)
  go_enter Try.func14, Try.ntmps14
  go_upto_region 1 with (fail)
  refine wp_region_seq [3, 3, 3, 1, 1, 3] (fun _ => True) (by rfl) (by rfl) trivial ?_
  simp only [List.zip_cons_cons, List.zip_nil_right]
  refine wpPi_move _ rfl rfl ?_
  simp only [pl, pn, el, ec, sz, ss, gz, gs, if_true, if_false, Bool.false_eq_true, Bool.not_true, Bool.not_false, Nat.add_zero, Nat.zero_add, Nat.reduceAdd]
  refine wpPi_move _ rfl rfl ?_
  simp only [pl, pn, el, ec, sz, ss, gz, gs, if_true, if_false, Bool.false_eq_true, Bool.not_true, Bool.not_false, Nat.add_zero, Nat.zero_add, Nat.reduceAdd]
  refine wpPi_move _ rfl rfl ?_
  simp only [pl, pn, el, ec, sz, ss, gz, gs, if_true, if_false, Bool.false_eq_true, Bool.not_true, Bool.not_false, Nat.add_zero, Nat.zero_add, Nat.reduceAdd]
  refine wpPi_do rfl (fun K hK => ?_)
  go_wp2
  refine hK _ _ trivial ?_
  clear hK K
  try simp only [pl, pn, el, ec, sz, ss, gz, gs, if_true, if_false, Bool.false_eq_true, Bool.not_true, Bool.not_false, Nat.add_zero, Nat.zero_add, Nat.reduceAdd]
  refine wpPi_do rfl (fun K hK => ?_)
  go_wp2_with (go_at_call 45; refine hat.mono ?_; rintro _ w1 ⟨r, rfl, hr⟩)
  refine hK _ _ trivial ?_
  clear hK K
  try simp only [pl, pn, el, ec, sz, ss, gz, gs, if_true, if_false, Bool.false_eq_true, Bool.not_true, Bool.not_false, Nat.add_zero, Nat.zero_add, Nat.reduceAdd]
  refine wpPi_assign _ rfl rfl ?_
  simp only [pl, pn, el, ec, sz, ss, gz, gs, if_true, if_false, Bool.false_eq_true, Bool.not_true, Bool.not_false, Nat.add_zero, Nat.zero_add, Nat.reduceAdd]
  refine wpPi_nil ?_
  go_wp2
  go_ret
  rcases hr with ⟨_, _, k, hk, e, hr⟩ | ⟨hno, rfl, rfl⟩
  · exact .inl ⟨k, hk, r, e, rfl, hr⟩
  · exact .inr ⟨hno, rfl, h, Mod.refl _ _⟩
end
end Go.Proofs.Ytdllpakdhnanbaa
