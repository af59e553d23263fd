/- (*Net).List: copies of all letters that are under way. -/
import Derived.Test.YtdllpakdhnanbaaLawA
namespace Go.Proofs.Ytdllpakdhnanbaa
set_option linter.unusedSimpArgs false
set_option linter.unusedVariables false
set_option linter.unnecessarySimpa false
open Go.RowKit

/-- Where the letters of a list that is being gathered lie: not in the list's own row. -/
def Fp (Q : Nat → Prop) (v : Value) (w : World) : Nat → Prop := fun k => Q k ∧ k < w.heap.size ∧ v.ownBlock ≠ some k
/-- A list of letters, gathered by append. -/
def LtAcc (own : Bool) (base : Nat) (Q : Nat → Prop) (l : List Ltr) (v : Value) (w : World) : Prop :=
  ∃ css, w.ownsRow base 38 40 v l.length (css.flatMap Array.toList) ∧ (∀ c ∈ css, c.size = 40) ∧ All2 (LetR own w (Fp Q v w) (Fp Q v w)) css l

section
variable {own : Bool} {base : Nat} {Q : Nat → Prop} {l : List Ltr} {v v' : Value} {w w' : World}
theorem LtAcc.nil : LtAcc own base Q [] (.slice none 0 0) w := ⟨[], World.ownsRow_nil _ _ _ _, by simp, All2.nil⟩
theorem Fp.keep {S : Nat → Prop} (hm : Mod S w w') (k : Nat) (hk : Fp Q v w k) : Fp Q v w' k := ⟨hk.1, Nat.lt_of_lt_of_le hk.2.1 hm.size, hk.2.2⟩
theorem LtAcc.keep {S : Nat → Prop} (h : LtAcc own base Q l v w) (hm : Mod S w w') (hS : ∀ k, Fp Q v w k → ¬ S k) (ho : ∀ k, v.ownBlock = some k → ¬ S k) : LtAcc own base Q l v w' := by
  obtain ⟨css, h1, h2, h3⟩ := h
  refine ⟨css, ⟨h1.1, ?_⟩, h2, h3.imp fun _ _ h => (h.keep hm hS hS).mono (Fp.keep hm) (Fp.keep hm)⟩
  rcases h1.2 with h | ⟨g, cap, cur, rfl, hb, hg, r⟩
  · exact .inl h
  · exact .inr ⟨g, cap, cur, rfl, hb, hm.obj (ho g rfl) hg, r⟩
theorem LtAcc.keep0 (h : LtAcc own base Q l v w) (hm : Mod NoB w w') : LtAcc own base Q l v w' := h.keep hm (fun _ _ => id) (fun _ _ => id)
theorem LtAcc.lt (h : LtAcc own base Q l v w) (k : Nat) (hk : v.ownBlock = some k) : base ≤ k ∧ k < w.heap.size := by
  obtain ⟨css, h1, h2, h3⟩ := h
  exact h1.lt k hk
/-- One letter more. w: the world in which it is there; w': behind append. -/
theorem LtAcc.step {css : List (Array Value)} {cs : Array Value} {x : Ltr} (h2 : ∀ c ∈ css, c.size = 40)
    (h3 : All2 (LetR own w (Fp Q v w) (Fp Q v w)) css l) (hc : LetR own w (Fp Q v w) (Fp Q v w) cs x)
    (hown : w'.ownsRow base 38 40 v' (l.length + 1) (css.flatMap Array.toList ++ cs.toList)) (hg : w.grownBy w' v.ownBlock) (hv : v'.ownBlock = v.ownBlock ∨ v'.ownBlock = some w.heap.size) :
    LtAcc own base Q (l ++ [x]) v' w' := by
  have hm : Mod (fun k => v.ownBlock = some k) w w' := (Mod.refl _ _).grown hg (fun k hk _ => hk)
  have mv : ∀ k, Fp Q v w k → Fp Q v' w' k := fun k hk => ⟨hk.1, Nat.lt_of_lt_of_le hk.2.1 hm.size, by
      rcases hv with hv | hv <;> rw [hv]
      · exact hk.2.2
      · have := hk.2.1; intro e; cases e; omega⟩
  have up : ∀ x y, LetR own w (Fp Q v w) (Fp Q v w) x y → LetR own w' (Fp Q v' w') (Fp Q v' w') x y := fun x y h =>
    (h.keep hm (fun k hk => hk.2.2) (fun k hk => hk.2.2)).mono mv mv
  refine ⟨css ++ [cs], by simpa using hown, fun c hc' => ?_, (h3.imp up).snoc (up _ _ hc)⟩
  rcases List.mem_append.1 hc' with h | h
  · exact h2 c h
  · have : c = cs := by simpa using h
    rw [this]; exact hc.size
/-- What is gathered reads as the list. -/
theorem LtAcc.done (h : LtAcc own base Q l v w) :
    Sl true w (fun k => base ≤ k ∧ k < w.heap.size ∧ v.ownBlock = some k) 40 (LetR own w (Fp Q v w) (Fp Q v w)) v l := by
  obtain ⟨css, h1, h2, h3⟩ := h
  exact Sl.of_owns h1 rfl h2 h3 rfl
theorem LtAcc.shape (h : LtAcc own base Q l v w) : ∃ a c, v = .slice a l.length c := by
  obtain ⟨a, c, hv, _⟩ := h.done
  exact ⟨a, c, hv⟩
end

def sliceLen : Value → Nat
  | .slice _ n _ => n
  | _ => 0

def ListRel (w0 : World) (links : List (Nat × Array Value)) (ls : List Ltr) (o p : Value) (w : World) : Prop :=
  ∃ k : Nat, k ≤ ls.length ∧ p = ptrOf (links.drop k) ∧ LtAcc true w0.heap.size (fun k => w0.heap.size ≤ k) (ls.take k) o w ∧ Mod NoB w0 w

set_option maxRecDepth 10000 in
set_option maxHeartbeats 800000 in
theorem list_any {w : World} {bx mb : Nat} {n lost : Int} {cut : Int × Int → Bool} {its : List It} (h : NetInv w bx mb n lost cut its) :
    Calls Try.prog 35 #[.pointer (some ⟨bx, 0, none⟩)] w (RetN w fun v w' => LtAcc true w.heap.size (fun k => w.heap.size ≤ k) (its.map It.l) v w') := by
  have hc := h.cell
  have hn := h.hn0
  have hfew := h.few
  have hfirst : w.cell? ⟨bx, 2, none⟩ = some (ptrOf ((its.map It.lk).drop 0)) := by rw [cell_of_row w bx _ _ _ _ h.net.obj]; rfl
  go_enter Try.func35, Try.ntmps35
  go_upto_region 3 with (go_at_call 40; refine (none_eq bx n w hc.1).mono ?_; rintro _ w1 ⟨rfl, hw1⟩; obtain rfl := hw1.symm; simp only [hn])
  refine wp_region_seq [3, 3, 3, 3, 1, 3] (fun _ => True) (by rfl) (by rfl) trivial ?_
  simp only [List.zip_cons_cons, List.zip_nil_right]
  refine wpPi_move _ rfl rfl ?_
  simp only [pl, pn, el, ec, sz, ss, gz, gs, if_true, if_false, Bool.false_eq_true, Bool.not_true, Bool.not_false, Nat.add_zero, Nat.zero_add, Nat.reduceAdd]
  refine wpPi_nilCheck _ _ rfl rfl rfl ?_
  simp only [pl, pn, el, ec, sz, ss, gz, gs, if_true, if_false, Bool.false_eq_true, Bool.not_true, Bool.not_false, Nat.add_zero, Nat.zero_add, Nat.reduceAdd]
  refine wpPi_field _ _ _ _ _ _ rfl rfl rfl fo_72_2 ?_
  simp only [pl, pn, el, ec, sz, ss, gz, gs, if_true, if_false, Bool.false_eq_true, Bool.not_true, Bool.not_false, Nat.add_zero, Nat.zero_add, Nat.reduceAdd]
  refine wpPi_field _ _ _ _ _ _ rfl rfl rfl fo_69_0 ?_
  simp only [pl, pn, el, ec, sz, ss, gz, gs, if_true, if_false, Bool.false_eq_true, Bool.not_true, Bool.not_false, Nat.add_zero, Nat.zero_add, Nat.reduceAdd]
  refine wpPi_do rfl (fun K hK => ?_)
  refine wp_exec (exec_load1 67 _ (by rfl) bx 2 (by rfl) _ hfirst _ Try.underlying67 rfl) ?_
  refine hK _ _ trivial ?_
  clear hK K
  try simp only [pl, pn, el, ec, sz, ss, gz, gs, if_true, if_false, Bool.false_eq_true, Bool.not_true, Bool.not_false, Nat.add_zero, Nat.zero_add, Nat.reduceAdd]
  refine wpPi_assign _ rfl rfl ?_
  simp only [pl, pn, el, ec, sz, ss, gz, gs, if_true, if_false, Bool.false_eq_true, Bool.not_true, Bool.not_false, Nat.add_zero, Nat.zero_add, Nat.reduceAdd]
  refine wpPi_nil ?_
  go_wp2
  go_loopw [2, 3] (ListRel w (its.map It.lk) (its.map It.l)) (fun o _ _ => its.length - sliceLen o)
  case atStart => exact ⟨0, by omega, rfl, LtAcc.nil, Mod.refl _ _⟩
  case round =>
    obtain ⟨k, hk, rfl, hacc, hM⟩ := hrel
    rename_i wr
    rw [List.length_map] at hk
    have hlen : sliceLen u2 = k := by
      obtain ⟨a, c, hv⟩ := hacc.shape
      rw [hv]; simp [sliceLen]; omega
    by_cases hlt : k < its.length
    · have hlt' : k < (its.map It.lk).length := by simpa using hlt
      have ep : ptrOf ((its.map It.lk).drop k) = .pointer (some ⟨its[k].b, 0, none⟩) := by rw [ptrOf_drop hlt', NetInv.lk k hlt]
      have hL0 := h.net.link k hlt'
      rw [NetInv.lk k hlt] at hL0
      have hL : w.heap[its[k].b]? = some (.cells (its[k].cs.push (ptrOf ((its.map It.lk).drop (k + 1)))) 97 (0, 0)) := hL0
      have hsz := h.sz k hlt
      have hCA : CellsAt w its[k].b 0 its[k].cs := CellsAt.of_obj hL (fun j hj => by rw [Nat.zero_add, Array.getElem?_push, if_neg (by omega)])
      have hnx : w.cell? ⟨its[k].b, 40, none⟩ = some (ptrOf ((its.map It.lk).drop (k + 1))) := by rw [cell_of_row w _ _ _ _ _ hL, ← hsz]; simp
      obtain ⟨hlet, hok, _⟩ := h.lets _ (List.getElem_mem hlt)
      obtain ⟨nx, hnxe⟩ : ∃ nx, nx = ptrOf ((its.map It.lk).drop (k + 1)) := ⟨_, rfl⟩
      rw [← hnxe] at hnx
      have HN := Lib.hid hnxe; clear hnxe hL hL0
      have hszw := hM.size
      rw [ep]; clear ep
      go_upto_region 6 with (fail)
      refine wp_region_seq [3, 3, 3, 3, 1, 1, 1, 1, 3] (fun _ => True) (by rfl) (by rfl) trivial ?_
      simp only [List.zip_cons_cons, List.zip_nil_right]
      refine wpPi_move _ rfl rfl ?_
      simp only [pl, pn, el, ec, sz, ss, gz, gs, if_true, if_false, Bool.false_eq_true, Bool.not_true, Bool.not_false, Nat.add_zero, Nat.zero_add, Nat.reduceAdd]
      refine wpPi_move _ rfl rfl ?_
      simp only [pl, pn, el, ec, sz, ss, gz, gs, if_true, if_false, Bool.false_eq_true, Bool.not_true, Bool.not_false, Nat.add_zero, Nat.zero_add, Nat.reduceAdd]
      refine wpPi_nilCheck _ _ rfl rfl rfl ?_
      simp only [pl, pn, el, ec, sz, ss, gz, gs, if_true, if_false, Bool.false_eq_true, Bool.not_true, Bool.not_false, Nat.add_zero, Nat.zero_add, Nat.reduceAdd]
      refine wpPi_field _ _ _ _ _ _ rfl rfl rfl fo_97_0 ?_
      simp only [pl, pn, el, ec, sz, ss, gz, gs, if_true, if_false, Bool.false_eq_true, Bool.not_true, Bool.not_false, Nat.add_zero, Nat.zero_add, Nat.reduceAdd]
      refine wpPi_do rfl (fun K hK => ?_)
      refine wp_exec (exec_loadA 38 _ (by rfl) _ _ (by rfl) _ (hCA.keep hM id) _ Try.underlying38 rfl 40 (by kernel_rfl) hsz) ?_
      refine hK _ _ trivial ?_
      clear hK K
      try simp only [pl, pn, el, ec, sz, ss, gz, gs, if_true, if_false, Bool.false_eq_true, Bool.not_true, Bool.not_false, Nat.add_zero, Nat.zero_add, Nat.reduceAdd]
      refine wpPi_do rfl (fun K hK => ?_)
      go_wp2_with (go_at_call 43; refine (copied_any true _ _ _ _ _ (hlet.keep0 hM) hok).mono ?_; rintro _ w2 ⟨_, rfl, hm2, cs', E, G, rfl, hl2, hE, hG, hEG⟩)
      have hlow := fun g => (hacc.lt g)
      have hl2 : LetR true w2 (Fp (fun k => w.heap.size ≤ k) u2 w2) (Fp (fun k => w.heap.size ≤ k) u2 w2) cs' its[k].l := hl2.mono (fun j hj => ⟨by have := (hE j hj).1; omega, (hE j hj).2, fun e => by have h1 := (hlow j e).2; have h2 := (hE j hj).1; omega⟩)
        (fun j hj => ⟨by have := (hG j hj).1; omega, (hG j hj).2, fun e => by have h1 := (hlow j e).2; have h2 := (hG j hj).1; omega⟩)
      replace hacc := hacc.keep0 hm2
      have hM2 := hM.trans0 hm2
      refine hK _ _ trivial ?_
      clear hK K hlow hE hG hEG
      try simp only [pl, pn, el, ec, sz, ss, gz, gs, if_true, if_false, Bool.false_eq_true, Bool.not_true, Bool.not_false, Nat.add_zero, Nat.zero_add, Nat.reduceAdd]
      refine wpPi_do rfl (fun K hK => ?_)
      refine wp_buildSlice1 43 38 _ (.agg cs') ltrZero 40 (by rfl) (by rfl) Try.underlying43 (by kernel_rfl) (by omega) (by omega) hl2.size (fun w3 hb hm3 hs3 => ?_)
      replace hb : w3.heap[w2.heap.size]? = some (.cells cs' 38 (0, 0)) := hb
      replace hl2 := (hl2.keep0 hm3).mono (Fp.keep hm3) (Fp.keep hm3)
      replace hacc := hacc.keep0 hm3
      have hM3 := hM2.trans0 hm3
      refine hK _ _ trivial ?_
      clear hK K
      try simp only [pl, pn, el, ec, sz, ss, gz, gs, if_true, if_false, Bool.false_eq_true, Bool.not_true, Bool.not_false, Nat.add_zero, Nat.zero_add, Nat.reduceAdd]
      refine wpPi_do rfl (fun K hK => ?_)
      obtain ⟨css, h1, h2, h3⟩ := hacc
      have hk' : ((its.map It.l).take k).length = k := by simp; omega
      refine wp_append _ _ 43 38 ltrZero 40 144 (by rfl) Try.underlying43 info38 (by rfl) (by omega) w.heap.size u2 k (css.flatMap Array.toList) (by rfl) (by rw [← hk']; exact h1) _ 1 cs'.toList (by rfl)
        (⟨by simp [hl2.size], _, _, rfl, fun _ => ⟨_, _, rfl, fun j x hx => by rw [Nat.zero_add, cell_of_row w3 _ _ _ _ _ hb]; simpa using hx⟩⟩ : Src w3 40 _ 1 cs'.toList)
        (fun c hc => hl2.one c (by simpa using hc)) (by unfold maxLen; omega) (by omega) (by have := hM3.size; omega) (fun v1 w4 hown hgrow hvv => ?_)
      have hacc := LtAcc.step h2 h3 hl2 (by rw [hk']; exact hown) hgrow hvv
      have hM4 : Mod NoB w w4 := hM3.grown hgrow (fun k hk hlt => by have := (h1.lt k hk).1; omega)
      refine hK _ _ trivial ?_
      clear hK K
      try simp only [pl, pn, el, ec, sz, ss, gz, gs, if_true, if_false, Bool.false_eq_true, Bool.not_true, Bool.not_false, Nat.add_zero, Nat.zero_add, Nat.reduceAdd]
      refine wpPi_assign _ rfl rfl ?_
      simp only [pl, pn, el, ec, sz, ss, gz, gs, if_true, if_false, Bool.false_eq_true, Bool.not_true, Bool.not_false, Nat.add_zero, Nat.zero_add, Nat.reduceAdd]
      refine wpPi_nil ?_
      have hnx4 := hM4.cell id hnx
      go_wp2
      go_roundw
      case rel =>
        refine ⟨k + 1, by simp; omega, HN.out, ?_, hM4⟩
        have e : (its.map It.l).take (k + 1) = (its.map It.l).take k ++ [its[k].l] := by rw [List.take_succ_eq_append_getElem (by simpa using hlt)]; simp
        rw [e]; exact hacc
      case measure =>
        obtain ⟨a, c, hv⟩ := hacc.shape
        rw [hlen, hv]; simp [sliceLen]; omega
    · have hkl : k = its.length := by omega
      have ep : ptrOf ((its.map It.lk).drop k) = .pointer none := by rw [List.drop_of_length_le (by simp; omega)]; rfl
      rw [ep]
      have he : (its.map It.l).take k = its.map It.l := List.take_of_length_le (by simp; omega)
      rw [he] at hacc
      clear ep he
      have HK := Lib.hid hkl; clear hkl
      go_wp2
      go_ret
      exact ⟨_, rfl, hM, hacc⟩

theorem list_at {w0 w : World} {p : Value} {N : Ns} {F : Nat → Prop} (h : NetAt w0 w p N F) : Calls Try.prog 35 #[p] w (RetN w fun v w' => LtAcc true w.heap.size (fun k => w.heap.size ≤ k) N.ls v w') := by
  obtain ⟨hM, ⟨bx, mb, its, rfl, hi, hls, hF⟩, hF0, hlt⟩ := h
  rw [hls]
  exact list_any hi
end Go.Proofs.Ytdllpakdhnanbaa
