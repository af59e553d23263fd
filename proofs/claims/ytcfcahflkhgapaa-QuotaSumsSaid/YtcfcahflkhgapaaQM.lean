/- The links' functions, by what they are said to hold now. -/
import Derived.Test.YtcfcahflkhgapaaQF
import Derived.Test.YtcfcahflkhgapaaQL
import Derived.Test.YtcfcahflkhgapaaSameA
import Derived.Test.YtcfcahflkhgapaaCmpB
namespace Go.Proofs.Ytcfcahflkhgapaa
set_option linter.unusedSimpArgs false
set_option linter.unusedVariables false
set_option linter.unnecessarySimpa false
set_option linter.unusedSectionVars false
open Go.RowKit Go.Shelf

theorem sorted_ext {α : Type} {lt : α → α → Prop} (hi : ∀ a, ¬ lt a a) (ht : ∀ {a b c}, lt a b → lt b c → lt a c) {l m : List α} (hl : l.Pairwise lt) (hm : m.Pairwise lt) (h : ∀ x, x ∈ l ↔ x ∈ m) : l = m := by
  have n1 : l.Nodup := List.nodup_iff_pairwise_ne.2 (hl.imp fun {a b} hab e => by subst e; exact hi _ hab)
  have n2 : m.Nodup := List.nodup_iff_pairwise_ne.2 (hm.imp fun {a b} hab e => by subst e; exact hi _ hab)
  have hp := (List.perm_ext_iff_of_nodup n1 n2).2 h
  exact hp.eq_of_pairwise (fun a b _ _ h1 h2 => absurd (ht h1 h2) (hi a)) hl hm
theorem ba_trans {a b c : ByteArray} (h : a.data.toList < b.data.toList) (k : b.data.toList < c.data.toList) : a.data.toList < c.data.toList := List.lt_trans h k
theorem repos_uniq {l : LinkL} {a b : List ByteArray} (h : ReposOf l a) (k : ReposOf l b) : a = b :=
  sorted_ext (lt := fun a b : ByteArray => a.data.toList < b.data.toList) (fun _ => List.lt_irrefl _) ba_trans h.1 k.1 (fun x => (h.2 x).trans (k.2 x).symm)

section
variable {w0 w : World} {p : Value} {limit : Int} {l : LinkL}
theorem lay_now (h : LkNow w0 w p limit l) (k : Key) (hk : KeyOk k) (hsz : k.1.size ≤ maxLen) (size : Int) (R : Bool × Int) (hR : addE false limit l k size = R) (l' : LinkL) (hl : addL false limit l k size = l') :
    Calls Try.prog 9 #[p, .string k.1, .agg (idCells k.2), .int .i64 size] w (fun e w' => e = .returned (.tuple #[.bool R.1, .int .i64 R.2]) ∧ LkNow w0 w' p limit l') := by
  obtain ⟨F, h⟩ := h
  subst hR hl
  exact (lay_at h k hk hsz size).mono fun e w' ⟨he, hs⟩ => ⟨he, hs.now⟩
theorem link_now (h : LkNow w0 w p limit l) (k : Key) (hk : KeyOk k) (hsz : k.1.size ≤ maxLen) (size : Int) (R : Bool × Int) (hR : addE true limit l k size = R) (l' : LinkL) (hl : addL true limit l k size = l') :
    Calls Try.prog 8 #[p, .string k.1, .agg (idCells k.2), .int .i64 size] w (fun e w' => e = .returned (.tuple #[.bool R.1, .int .i64 R.2]) ∧ LkNow w0 w' p limit l') := by
  obtain ⟨F, h⟩ := h
  subst hR hl
  exact (link_at h k hk hsz size).mono fun e w' ⟨he, hs⟩ => ⟨he, hs.now⟩
theorem unlink_now (h : LkNow w0 w p limit l) (k : Key) (hk : KeyOk k) (b : Bool) (hb : (getL k l).isSome = b) (l' : LinkL) (hl : unL l k = l') :
    Calls Try.prog 12 #[p, .string k.1, .agg (idCells k.2)] w (fun e w' => e = .returned (.bool b) ∧ LkNow w0 w' p limit l') := by
  obtain ⟨F, h⟩ := h
  subst hb hl
  exact (unlink_at h k hk).mono fun e w' ⟨he, hs⟩ => ⟨he, hs.now⟩
theorem forget_now (h : LkNow w0 w p limit l) (x : List UInt8) (hx : x.length = 32) (n : Nat) (hn : forgetN l x = n) (l' : LinkL) (hl : forgetL l x = l') :
    Calls Try.prog 13 #[p, .agg (idCells x)] w (fun e w' => e = .returned (.int .i64 n) ∧ LkNow w0 w' p limit l') := by
  obtain ⟨F, h⟩ := h
  subst hn hl
  exact (forget_at h x hx).mono fun e w' ⟨he, hs⟩ => ⟨he, hs.now⟩
theorem repos_now (h : LkNow w0 w p limit l) : Calls Try.prog 15 #[p] w (fun e w' => ∃ v names, e = .returned v ∧ ReposOf l names ∧ Sl true w' (New w w') 1 StrC v names ∧ LkNow w0 w' p limit l) := by
  obtain ⟨F, h⟩ := h
  refine (repos_at h).mono ?_
  rintro e w' ⟨v, rfl, hm, names, h1, h2⟩
  exact ⟨v, names, rfl, h1, h2, F, h.keep0 hm⟩
theorem limit_now (h : LkNow w0 w p limit l) : Calls Try.prog 17 #[p] w (fun e w' => e = .returned (.int .i64 limit) ∧ LkNow w0 w' p limit l) := by
  obtain ⟨F, h⟩ := h
  refine (limit_at h).mono ?_
  rintro e w' ⟨rfl, rfl⟩
  exact ⟨rfl, F, h⟩
theorem mount_now (h : LkNow w0 w p limit l) (a b : ByteArray) (x : List UInt8) (hx : x.length = 32) (ha : a.size ≤ maxLen) (hb : b.size ≤ maxLen) (R : Bool × Int) (hR : mountE limit l a b x = R) (l' : LinkL) (hl : mountL limit l a b x = l') :
    Calls Try.prog 10 #[p, .string a, .string b, .agg (idCells x)] w (fun e w' => e = .returned (.tuple #[.bool R.1, .int .i64 R.2]) ∧ LkNow w0 w' p limit l') := by
  obtain ⟨F, h⟩ := h
  subst hR hl
  exact (mount_at h a b x hx ha hb).mono fun e w' ⟨he, hs⟩ => ⟨he, hs.now⟩

set_option maxRecDepth 10000 in
set_option maxHeartbeats 1000000 in
/-- mounts: likewise, of the first digest. -/
theorem mounts_now (h : LkNow w0 w p limit l) (a b : ByteArray) (ha : a.size ≤ maxLen) (hb : b.size ≤ maxLen) (want : Bool) (err : Int) (t : Bool) (ht : decide ((mountE limit l a b id1).1 = want ∧ (mountE limit l a b id1).2 = err) = t) (l' : LinkL) (hl : mountL limit l a b id1 = l') :
    Calls Try.prog 22 #[p, .string a, .string b, .bool want, .int .i64 err] w (fun e w' => e = .returned (.bool t) ∧ LkNow w0 w' p limit l') := by
  obtain ⟨⟨r1, r2⟩, hR⟩ : ∃ R, mountE limit l a b id1 = R := ⟨_, rfl⟩
  rw [hR] at ht
  have HT := Lib.hid ht
  have HR := Lib.hid hR
  clear ht hR
  go_enter Try.func22, Try.ntmps22
  go_upto_region 1 with (fail)
  refine wp_region_seq [3, 3, 3, 1, 1, 3, 3, 3, 3, 3] (fun _ => True) (by rfl) (by rfl) trivial ?_
  simp only [List.zip_cons_cons, List.zip_nil_right]
  refine wpPi_move _ rfl rfl ?_
  simp only [pl, pn, el, ec, sz, ss, gz, gs, if_true, if_false, Bool.false_eq_true, Bool.not_true, Bool.not_false, Nat.add_zero, Nat.zero_add, Nat.reduceAdd]
  refine wpPi_move _ rfl rfl ?_
  simp only [pl, pn, el, ec, sz, ss, gz, gs, if_true, if_false, Bool.false_eq_true, Bool.not_true, Bool.not_false, Nat.add_zero, Nat.zero_add, Nat.reduceAdd]
  refine wpPi_move _ rfl rfl ?_
  simp only [pl, pn, el, ec, sz, ss, gz, gs, if_true, if_false, Bool.false_eq_true, Bool.not_true, Bool.not_false, Nat.add_zero, Nat.zero_add, Nat.reduceAdd]
  refine wpPi_do rfl (fun K hK => ?_)
  go_wp2_with (go_at_call 20; refine (one_any _).mono ?_; rintro _ w1 ⟨rfl, hm⟩)
  replace h := h.keep0 hm
  clear hm
  refine hK _ _ trivial ?_
  clear hK K
  try simp only [pl, pn, el, ec, sz, ss, gz, gs, if_true, if_false, Bool.false_eq_true, Bool.not_true, Bool.not_false, Nat.add_zero, Nat.zero_add, Nat.reduceAdd]
  refine wpPi_do rfl (fun K hK => ?_)
  go_wp2_with (go_at_call 10; refine (mount_now h a b id1 (by kernel_rfl) ha hb _ HR.out l' hl).mono ?_; rintro _ w2 ⟨rfl, hN⟩)
  refine hK _ _ trivial ?_
  clear hK K
  try simp only [pl, pn, el, ec, sz, ss, gz, gs, if_true, if_false, Bool.false_eq_true, Bool.not_true, Bool.not_false, Nat.add_zero, Nat.zero_add, Nat.reduceAdd]
  refine wpPi_move _ rfl rfl ?_
  simp only [pl, pn, el, ec, sz, ss, gz, gs, if_true, if_false, Bool.false_eq_true, Bool.not_true, Bool.not_false, Nat.add_zero, Nat.zero_add, Nat.reduceAdd]
  refine wpPi_any (v := ?_) rfl (fun w' => ?_) ?_; rotate_left; · (go_simp; try with_reducible rfl)
  simp only [pl, pn, el, ec, sz, ss, gz, gs, if_true, if_false, Bool.false_eq_true, Bool.not_true, Bool.not_false, Nat.add_zero, Nat.zero_add, Nat.reduceAdd]
  refine wpPi_any (v := ?_) rfl (fun w' => ?_) ?_; rotate_left; · (go_simp; try with_reducible rfl)
  simp only [pl, pn, el, ec, sz, ss, gz, gs, if_true, if_false, Bool.false_eq_true, Bool.not_true, Bool.not_false, Nat.add_zero, Nat.zero_add, Nat.reduceAdd]
  refine wpPi_assign _ rfl rfl ?_
  simp only [pl, pn, el, ec, sz, ss, gz, gs, if_true, if_false, Bool.false_eq_true, Bool.not_true, Bool.not_false, Nat.add_zero, Nat.zero_add, Nat.reduceAdd]
  refine wpPi_assign _ rfl rfl ?_
  simp only [pl, pn, el, ec, sz, ss, gz, gs, if_true, if_false, Bool.false_eq_true, Bool.not_true, Bool.not_false, Nat.add_zero, Nat.zero_add, Nat.reduceAdd]
  refine wpPi_nil ?_
  clear h hl HR
  by_cases he : r2 = err
  · subst he
    cases r1 <;> cases want
    all_goals
      go_wp2
      go_ret
      exact ⟨ret_bool (by rw [← HT.out]; simp), hN⟩
  · cases r1 <;> cases want
    all_goals
      go_wp2
      go_ret
      exact ⟨ret_bool (by rw [← HT.out]; simp [he]), hN⟩
end
end Go.Proofs.Ytcfcahflkhgapaa
