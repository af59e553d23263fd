/- What the statement TreeKnown needs, part 5. -/
import Derived.Defers
import Derived.WalkKit
import Derived.ProofKit
import Derived.OpenShut
import Derived.ChangeStays
import Derived.ChangeBook
import Derived.ChangeSlices
import Derived.Test.YtchkikmmcmjcgaaTreeKnownP4
/- Lists of texts side by side; the statements' entries; do just these keys differ. -/
namespace Go.Proofs.Ytchkikmmcmjcgaa
set_option linter.unusedSimpArgs false
set_option linter.unusedVariables false
set_option linter.unnecessarySimpa false
set_option linter.unusedSectionVars false
open Go.RowKit Go.Shelf


def StrC (cs : Array Value) (x : ByteArray) : Prop := cs = #[.string x]
def Txt (own : Bool) (w : World) (G : Nat → Prop) (v : Value) (l : List ByteArray) : Prop := Sl own w G 1 StrC v l
theorem Gat.txt {base : Nat} {w : World} {v : Value} {l : List ByteArray} (h : Gat strEnc 9 1 base w v l) : Txt true w (fun q => base ≤ q ∧ q < w.heap.size ∧ v.ownBlock = some q) v l := (h.sl (fun _ => rfl)).mono (fun _ h => h) (fun _ _ h => h)
set_option maxHeartbeats 400000 in
theorem sameTexts_any {o o' : Bool} {G G' : Nat → Prop} {va vb : Value} {la lb : List ByteArray} {w : World} (ha : Txt o w G va la) (hb : Txt o' w G' vb lb) :
    Calls Try.prog 13 #[va, vb] w (RetM (.bool (decide (la = lb))) w) := by
  obtain ⟨aa, ca, rfl, hla, ha⟩ := Sl.at ha
  obtain ⟨ab, cb, rfl, hlb, hb⟩ := Sl.at hb
  by_cases hlen : la.length = lb.length
  · have e1 : ((la.length : Int) == (lb.length : Int)) = true := by simp [hlen]
    have H := Lib.hid hlen; have HA := Lib.hid ha; have HB := Lib.hid hb; clear hlen ha hb
    go_enter Try.func13, Try.ntmps13
    go_wp2
    go_loopw [5, 6] (SameRel la lb w) (fun _ i _ => la.length - (intOf i).toNat)
    case atStart => exact ⟨0, by omega, rfl, by rw [pre_zero], Mod.refl _ _⟩
    case round =>
      obtain ⟨k, hk, rfl, rfl, hm⟩ := hrel
      rename_i wr
      by_cases hs : pre k la lb = true
      · by_cases hlt : k < la.length
        · have hlt' : k < lb.length := by rw [← H.out]; exact hlt
          obtain ⟨ba, oa, rfl, -, -, hca⟩ := HA.out k hlt
          obtain ⟨bb, ob, rfl, -, -, hcb⟩ := HB.out k hlt'
          obtain ⟨_, -, rfl, hca⟩ := hca k hlt
          obtain ⟨_, -, rfl, hcb⟩ := hcb k hlt'
          have hps := Lib.hid (pre_succ hlt hlt' hs)
          clear HA HB
          go_wp2_with fail
          have hS := hm.drew
          refine wp_region_pi [(0, 3), (1, 3), (2, 3), (3, 0), (4, 3), (5, 3), (6, 3), (7, 0), (8, 0), (9, 3)] [] (fun w' => Mod NoB w w') (by kernel_rfl) (by kernel_rfl) (by kernel_rfl) (by kernel_rfl) (fun _ _ _ _ hd h => ⟨hd.trans h.1, h.2⟩) hS ?_
          simp only [List.map_cons, List.map_nil, List.getD_cons_zero, List.getD_cons_succ]
          refine wpPi_move _ rfl rfl ?_
          simp only [pl, pn, el, ec, sz, ss, gz, gs, if_true, if_false, Bool.false_eq_true, Bool.not_true, Bool.not_false, Nat.add_zero, Nat.zero_add, Nat.reduceAdd]
          refine wpPi_move _ rfl rfl ?_
          simp only [pl, pn, el, ec, sz, ss, gz, gs, if_true, if_false, Bool.false_eq_true, Bool.not_true, Bool.not_false, Nat.add_zero, Nat.zero_add, Nat.reduceAdd]
          refine wpPi_index _ _ _ _ _ _ _ _ _ rfl rfl rfl rfl Try.underlying26 (n := 1) (by kernel_rfl) hlt ?_
          simp only [pl, pn, el, ec, sz, ss, gz, gs, if_true, if_false, Bool.false_eq_true, Bool.not_true, Bool.not_false, Nat.add_zero, Nat.zero_add, Nat.reduceAdd]
          refine wpPi_val rfl (fun w' hS => exec_load1 _ _ rfl _ _ rfl _ (CellsAt.one.1 (hca.keep hS id)) _ Try.underlying9 rfl) ?_
          simp only [pl, pn, el, ec, sz, ss, gz, gs, if_true, if_false, Bool.false_eq_true, Bool.not_true, Bool.not_false, Nat.add_zero, Nat.zero_add, Nat.reduceAdd]
          refine wpPi_move _ rfl rfl ?_
          simp only [pl, pn, el, ec, sz, ss, gz, gs, if_true, if_false, Bool.false_eq_true, Bool.not_true, Bool.not_false, Nat.add_zero, Nat.zero_add, Nat.reduceAdd]
          refine wpPi_move _ rfl rfl ?_
          simp only [pl, pn, el, ec, sz, ss, gz, gs, if_true, if_false, Bool.false_eq_true, Bool.not_true, Bool.not_false, Nat.add_zero, Nat.zero_add, Nat.reduceAdd]
          refine wpPi_index _ _ _ _ _ _ _ _ _ rfl rfl rfl rfl Try.underlying26 (n := 1) (by kernel_rfl) hlt' ?_
          simp only [pl, pn, el, ec, sz, ss, gz, gs, if_true, if_false, Bool.false_eq_true, Bool.not_true, Bool.not_false, Nat.add_zero, Nat.zero_add, Nat.reduceAdd]
          refine wpPi_val rfl (fun w' hS => exec_load1 _ _ rfl _ _ rfl _ (CellsAt.one.1 (hcb.keep hS id)) _ Try.underlying9 rfl) ?_
          simp only [pl, pn, el, ec, sz, ss, gz, gs, if_true, if_false, Bool.false_eq_true, Bool.not_true, Bool.not_false, Nat.add_zero, Nat.zero_add, Nat.reduceAdd]
          refine wpPi_val rfl (fun w' hS => exec_eql_str _ _ _ _ rfl _ _ rfl rfl _ rfl) ?_
          simp only [pl, pn, el, ec, sz, ss, gz, gs, if_true, if_false, Bool.false_eq_true, Bool.not_true, Bool.not_false, Nat.add_zero, Nat.zero_add, Nat.reduceAdd]
          refine wpPi_assign _ rfl rfl ?_
          simp only [pl, pn, el, ec, sz, ss, gz, gs, if_true, if_false, Bool.false_eq_true, Bool.not_true, Bool.not_false, Nat.add_zero, Nat.zero_add, Nat.reduceAdd]
          refine wpPi_nil ?_
          go_wp2
          go_roundw
          case rel => exact ⟨k + 1, by omega, by go_num, by rw [hps.out], hS⟩
          case measure => simp [intOf]; omega
        · go_wp2
          go_ret
          exact ⟨by rw [← pre_full H.out (Nat.le_of_not_lt hlt), hs]; rfl, hm⟩
      · have hs' : pre k la lb = false := by simpa using hs
        have hps := Lib.hid (pre_false hs'); clear hs
        go_wp2
        go_ret
        exact ⟨by rw [hps.out]; rfl, hm⟩
  · have e1 : ((la.length : Int) == (lb.length : Int)) = false := by simp; omega
    have hps := Lib.hid (decide_eq_false (show ¬ la = lb by rintro rfl; exact hlen rfl)); clear hlen
    go_enter Try.func13, Try.ntmps13
    go_wp2
    refine wp_loop_once ?_
    go_wp2
    go_ret
    exact ⟨by rw [hps.out]; rfl, Mod.refl _ _⟩
def EntR (w : World) (e0 : Ent) : Ending → World → Prop := fun e w' => ∃ cs, e = .returned (.agg cs) ∧ EntC w' (fun _ => True) cs e0 ∧ Mod NoB w w'
theorem built_ent2 (k : ByteArray) (v : Value) (hv : v.cells = #[v]) : Try.prog.built 35 [(0, .string k), (1, v)] = some #[.string k, v] := by
  have hz : (Try.prog.info? 35).bind (·.zero) = some (.agg #[.string ⟨#[]⟩, .slice none 0 0]) := entryZ
  have hp : placesOf Try.prog 35 = some [(0, 1), (1, 1)] := by kernel_rfl
  rw [built_struct hz hp, fill_cons (off := 0) (size := 1) rfl rfl (by simp), fill_cons (off := 1) (size := 1) rfl (by simp [hv]) (by simp [putRow, Value.cells]), fill_nil, hv]
  rfl
set_option maxRecDepth 10000 in
theorem lawOf_any (k v : ByteArray) (hv : v.size ≤ 1000000) (w : World) : Calls Try.prog 16 #[.string k, .string v] w (EntR w (k, v.data.toList)) := by
  go_enter Try.func16, Try.ntmps16
  go_upto_region 0 with (fail)
  refine wp_region_seq [1] (fun _ => True) (by rfl) (by rfl) trivial ?_
  simp only [List.zip_cons_cons, List.zip_nil_right]
  refine wpPi_do rfl (fun K hK => ?_)
  refine wp_alloc 35 _ (by rfl) entryZ (fun w1 hB1 hm1 hs1 => ?_)
  replace hB1 : w1.heap[w.heap.size]? = some (.cells #[.string ⟨#[]⟩, .slice none 0 0] 35 (0, 0)) := hB1
  refine hK _ _ trivial ?_
  clear hK K
  try simp only [pl, pn, el, ec, sz, ss, gz, gs, if_true, if_false, Bool.false_eq_true, Bool.not_true, Bool.not_false, Nat.add_zero, Nat.zero_add, Nat.reduceAdd]
  refine wpPi_nil ?_
  go_upto_region 1 with (fail)
  refine wp_region_seq [3, 3, 1, 0, 1] (fun _ => True) (by rfl) (by rfl) trivial ?_
  simp only [List.zip_cons_cons, List.zip_nil_right]
  refine wpPi_move _ rfl rfl ?_
  simp only [pl, pn, el, ec, sz, ss, gz, gs, if_true, if_false, Bool.false_eq_true, Bool.not_true, Bool.not_false, Nat.add_zero, Nat.zero_add, Nat.reduceAdd]
  refine wpPi_move _ rfl rfl ?_
  simp only [pl, pn, el, ec, sz, ss, gz, gs, if_true, if_false, Bool.false_eq_true, Bool.not_true, Bool.not_false, Nat.add_zero, Nat.zero_add, Nat.reduceAdd]
  refine wpPi_do rfl (fun K hK => ?_)
  refine wp_bytesOf 9 33 5 _ v (by rfl) (by rfl) Try.underlying9 Try.underlying33 Try.underlying5 (by unfold maxLen; omega) (fun v7 w7 hs7 hm7 => ?_)
  have hv7 := hs7.one
  have hvc : v7.cells = #[v7] := by
    obtain ⟨_, _, rfl, -⟩ := hs7; rfl
  have hbE := built_ent2 k v7 hvc
  have h1c := entC_one (w := w7) (G := fun q => w1.heap.size ≤ q) (e := (k, v.data.toList)) ⟨v7, rfl, hs7⟩
  replace hB1 := hm7.obj id hB1
  have hM7 := hm1.trans0 hm7
  refine hK _ _ trivial ?_
  clear hK K
  try simp only [pl, pn, el, ec, sz, ss, gz, gs, if_true, if_false, Bool.false_eq_true, Bool.not_true, Bool.not_false, Nat.add_zero, Nat.zero_add, Nat.reduceAdd]
  refine wpPi_val rfl (fun w' hS => exec_build_of 35 [(0, _), (1, _)] [(0, .string k), (1, v7)] _ (by rfl) (by rfl) hbE) ?_
  simp only [pl, pn, el, ec, sz, ss, gz, gs, if_true, if_false, Bool.false_eq_true, Bool.not_true, Bool.not_false, Nat.add_zero, Nat.zero_add, Nat.reduceAdd]
  refine wpPi_do rfl (fun K hK => ?_)
  refine wp_storeA 35 _ _ w.heap.size 0 #[.string k, v7] (by rfl) (by rfl) (by rfl) h1c 2 (by kernel_rfl) rfl _ _ hB1 (by simp) (fun w9 hB9 hm9 => ?_)
  rw [putRow_whole (by rfl)] at hB9
  refine hK _ _ trivial ?_
  clear hK K
  try simp only [pl, pn, el, ec, sz, ss, gz, gs, if_true, if_false, Bool.false_eq_true, Bool.not_true, Bool.not_false, Nat.add_zero, Nat.zero_add, Nat.reduceAdd]
  refine wpPi_nil ?_
  have hlt : w.heap.size < w7.heap.size := (Array.getElem?_eq_some_iff.1 hB1).1
  have hM9 : Mod NoB w w9 := hM7.transB hm9 (Nat.le_refl _)
  have hout : EntC w9 (fun _ => True) #[.string k, v7] (k, v.data.toList) := ⟨v7, rfl, (hs7.keepB hm9 (fun q hq => by omega)).mono (fun _ _ => trivial) (fun _ _ h => h)⟩
  clear hm9 hB1
  go_wp2
  refine bodyPost_ret (results_cell_row rfl _ _ w.heap.size _ _ _ _ (by rfl) hB9 Try.underlying35 rfl (by kernel_rfl)) rfl ?_
  exact ⟨_, rfl, hout, hM9⟩
def riseOf (l : List ByteArray) : List ByteArray := compB (sortB l)
theorem riseOf_rise (l : List ByteArray) : Rise l (riseOf l) := rise_sorted l
/-- What differs answers. -/
noncomputable def difB (a b : List Ent) (places : Int) (want : List ByteArray) : Bool := decide (errD a b = 0) && (decide (((difE a b).2 : Int) = places) && decide (riseOf (difE a b).1 = want))
set_option maxRecDepth 10000 in
theorem differs_any {own own' o2 : Bool} {w : World} {G G' G2 : Nat → Prop} {va vb vw : Value} {a b : List Ent} {want : List ByteArray} (ha : Es own w G va a) (hb : Es own' w G' vb b) (hw : Txt o2 w G2 vw want) (hsa : Short a) (hsb : Short b) (hla : a.length ≤ 4096) (hlb : b.length ≤ 4096) (places : Int) :
    Calls Try.prog 19 #[va, vb, .int .i64 places, vw] w (RetM (.bool (difB a b places want)) w) := by
  have HW := Lib.hid hw
  have hdf := treeDiffer_any ha hb hsa hsb hla hlb
  obtain ⟨aa, ca, rfl, -, -⟩ := Sl.at ha
  obtain ⟨ab, cb, rfl, -, -⟩ := Sl.at hb
  obtain ⟨aw, cw, rfl, -, -⟩ := Sl.at hw
  clear ha hb hw
  go_enter Try.func19, Try.ntmps19
  go_upto_region 1 with (fail)
  refine wp_region_seq [3, 3, 1, 3, 3, 3, 3, 3, 3, 3] (fun _ => True) (by rfl) (by rfl) trivial ?_
  simp only [List.zip_cons_cons, List.zip_nil_right]
  refine wpPi_move _ rfl rfl ?_
  simp only [pl, pn, el, ec, sz, ss, gz, gs, if_true, if_false, Bool.false_eq_true, Bool.not_true, Bool.not_false, Nat.add_zero, Nat.zero_add, Nat.reduceAdd]
  refine wpPi_move _ rfl rfl ?_
  simp only [pl, pn, el, ec, sz, ss, gz, gs, if_true, if_false, Bool.false_eq_true, Bool.not_true, Bool.not_false, Nat.add_zero, Nat.zero_add, Nat.reduceAdd]
  refine wpPi_do rfl (fun K hK => ?_)
  refine wp_enterQ (run_call 11 [.tmp 13, .tmp 14] _ rfl _ Try.func11 rfl (by kernel_rfl) [.slice aa a.length ca, .slice ab b.length cb] rfl _) hdf ?_
  rintro e w2 ⟨v2, ks, n, rfl, hg2, hok, hm2⟩
  refine ⟨_, rfl, hK _ _ trivial ?_⟩
  clear hK K
  try simp only [pl, pn, el, ec, sz, ss, gz, gs, if_true, if_false, Bool.false_eq_true, Bool.not_true, Bool.not_false, Nat.add_zero, Nat.zero_add, Nat.reduceAdd]
  refine wpPi_move _ rfl rfl ?_
  simp only [pl, pn, el, ec, sz, ss, gz, gs, if_true, if_false, Bool.false_eq_true, Bool.not_true, Bool.not_false, Nat.add_zero, Nat.zero_add, Nat.reduceAdd]
  refine wpPi_any (v := ?_) rfl (fun w' => ?_) ?_; rotate_left; · (go_simp; try with_reducible rfl)
  simp only [pl, pn, el, ec, sz, ss, gz, gs, if_true, if_false, Bool.false_eq_true, Bool.not_true, Bool.not_false, Nat.add_zero, Nat.zero_add, Nat.reduceAdd]
  refine wpPi_any (v := ?_) rfl (fun w' => ?_) ?_; rotate_left; · (go_simp; try with_reducible rfl)
  simp only [pl, pn, el, ec, sz, ss, gz, gs, if_true, if_false, Bool.false_eq_true, Bool.not_true, Bool.not_false, Nat.add_zero, Nat.zero_add, Nat.reduceAdd]
  refine wpPi_any (v := ?_) rfl (fun w' => ?_) ?_; rotate_left; · (go_simp; try with_reducible rfl)
  simp only [pl, pn, el, ec, sz, ss, gz, gs, if_true, if_false, Bool.false_eq_true, Bool.not_true, Bool.not_false, Nat.add_zero, Nat.zero_add, Nat.reduceAdd]
  refine wpPi_assign _ rfl rfl ?_
  simp only [pl, pn, el, ec, sz, ss, gz, gs, if_true, if_false, Bool.false_eq_true, Bool.not_true, Bool.not_false, Nat.add_zero, Nat.zero_add, Nat.reduceAdd]
  refine wpPi_assign _ rfl rfl ?_
  simp only [pl, pn, el, ec, sz, ss, gz, gs, if_true, if_false, Bool.false_eq_true, Bool.not_true, Bool.not_false, Nat.add_zero, Nat.zero_add, Nat.reduceAdd]
  refine wpPi_assign _ rfl rfl ?_
  simp only [pl, pn, el, ec, sz, ss, gz, gs, if_true, if_false, Bool.false_eq_true, Bool.not_true, Bool.not_false, Nat.add_zero, Nat.zero_add, Nat.reduceAdd]
  refine wpPi_nil ?_
  by_cases he : errD a b = 0
  · obtain ⟨hr, rfl⟩ := hok.1 he
    have hks : riseOf (difE a b).1 = ks := (riseOf_rise _).uniq hr (fun _ => Iff.rfl)
    by_cases hn : ((difE a b).2 : Int) = places
    · have hres : difB a b places want = decide (ks = want) := by unfold difB; rw [decide_eq_true he, decide_eq_true hn, hks]; rfl
      have hg2t := hg2.txt
      obtain ⟨ad2, cap2, rfl⟩ := hg2.slice
      have HRES := Lib.hid hres
      rw [he]
      clear hres hks hok he
      go_upto_region 2 with (fail)
      refine wp_region_seq [3, 3, 3, 3, 3, 3, 3, 3, 3, 3, 1, 3, 3] (fun _ => True) (by rfl) (by rfl) trivial ?_
      simp only [List.zip_cons_cons, List.zip_nil_right]
      refine wpPi_move _ rfl rfl ?_
      simp only [pl, pn, el, ec, sz, ss, gz, gs, if_true, if_false, Bool.false_eq_true, Bool.not_true, Bool.not_false, Nat.add_zero, Nat.zero_add, Nat.reduceAdd]
      refine wpPi_any (v := ?_) rfl (fun w' => ?_) ?_; rotate_left; · (go_simp; try with_reducible rfl)
      simp only [pl, pn, el, ec, sz, ss, gz, gs, if_true, if_false, Bool.false_eq_true, Bool.not_true, Bool.not_false, Nat.add_zero, Nat.zero_add, Nat.reduceAdd]
      refine wpPi_move _ rfl rfl ?_
      simp only [pl, pn, el, ec, sz, ss, gz, gs, if_true, if_false, Bool.false_eq_true, Bool.not_true, Bool.not_false, Nat.add_zero, Nat.zero_add, Nat.reduceAdd]
      refine wpPi_move _ rfl rfl ?_
      simp only [pl, pn, el, ec, sz, ss, gz, gs, if_true, if_false, Bool.false_eq_true, Bool.not_true, Bool.not_false, Nat.add_zero, Nat.zero_add, Nat.reduceAdd]
      refine wpPi_move _ rfl rfl ?_
      simp only [pl, pn, el, ec, sz, ss, gz, gs, if_true, if_false, Bool.false_eq_true, Bool.not_true, Bool.not_false, Nat.add_zero, Nat.zero_add, Nat.reduceAdd]
      refine wpPi_cmp _ _ _ _ _ _ _ _ rfl rfl rfl rfl rfl true (decide_eq_true hn) ?_
      simp only [pl, pn, el, ec, sz, ss, gz, gs, if_true, if_false, Bool.false_eq_true, Bool.not_true, Bool.not_false, Nat.add_zero, Nat.zero_add, Nat.reduceAdd]
      refine wpPi_pick _ _ _ _ rfl rfl rfl ?_
      simp only [pl, pn, el, ec, sz, ss, gz, gs, if_true, if_false, Bool.false_eq_true, Bool.not_true, Bool.not_false, Nat.add_zero, Nat.zero_add, Nat.reduceAdd]
      refine wpPi_move _ rfl rfl ?_
      simp only [pl, pn, el, ec, sz, ss, gz, gs, if_true, if_false, Bool.false_eq_true, Bool.not_true, Bool.not_false, Nat.add_zero, Nat.zero_add, Nat.reduceAdd]
      refine wpPi_move _ rfl rfl ?_
      simp only [pl, pn, el, ec, sz, ss, gz, gs, if_true, if_false, Bool.false_eq_true, Bool.not_true, Bool.not_false, Nat.add_zero, Nat.zero_add, Nat.reduceAdd]
      refine wpPi_move _ rfl rfl ?_
      simp only [pl, pn, el, ec, sz, ss, gz, gs, if_true, if_false, Bool.false_eq_true, Bool.not_true, Bool.not_false, Nat.add_zero, Nat.zero_add, Nat.reduceAdd]
      refine wpPi_do rfl (fun K hK => ?_)
      refine wp_enterQ (run_call 13 [.tmp 27, .tmp 28] _ rfl _ Try.func13 rfl (by kernel_rfl) [.slice ad2 ks.length cap2, .slice aw want.length cw] rfl _) (sameTexts_any hg2t (Sl.keep0 HW.out hm2)) ?_
      rintro e w3 ⟨rfl, hm3⟩
      refine ⟨_, rfl, hK _ _ trivial ?_⟩
      clear hK K
      try simp only [pl, pn, el, ec, sz, ss, gz, gs, if_true, if_false, Bool.false_eq_true, Bool.not_true, Bool.not_false, Nat.add_zero, Nat.zero_add, Nat.reduceAdd]
      refine wpPi_pick _ _ _ _ rfl rfl rfl ?_
      simp only [pl, pn, el, ec, sz, ss, gz, gs, if_true, if_false, Bool.false_eq_true, Bool.not_true, Bool.not_false, Nat.add_zero, Nat.zero_add, Nat.reduceAdd]
      refine wpPi_assign _ rfl rfl ?_
      simp only [pl, pn, el, ec, sz, ss, gz, gs, if_true, if_false, Bool.false_eq_true, Bool.not_true, Bool.not_false, Nat.add_zero, Nat.zero_add, Nat.reduceAdd]
      refine wpPi_nil ?_
      have hMr := hm2.trans0 hm3
      clear hm2 hm3
      go_wp2
      go_ret
      exact ⟨by rw [HRES.out]; rfl, hMr⟩
    · have hres : difB a b places want = false := by unfold difB; rw [decide_eq_false hn]; simp
      have HRES := Lib.hid hres
      rw [he]
      clear hres hks hok he
      go_upto_region 2 with (fail)
      refine wp_region_seq [3, 3, 3, 3, 3, 3, 3, 3, 3, 3, 1, 3, 3] (fun _ => True) (by rfl) (by rfl) trivial ?_
      simp only [List.zip_cons_cons, List.zip_nil_right]
      refine wpPi_move _ rfl rfl ?_
      simp only [pl, pn, el, ec, sz, ss, gz, gs, if_true, if_false, Bool.false_eq_true, Bool.not_true, Bool.not_false, Nat.add_zero, Nat.zero_add, Nat.reduceAdd]
      refine wpPi_any (v := ?_) rfl (fun w' => ?_) ?_; rotate_left; · (go_simp; try with_reducible rfl)
      simp only [pl, pn, el, ec, sz, ss, gz, gs, if_true, if_false, Bool.false_eq_true, Bool.not_true, Bool.not_false, Nat.add_zero, Nat.zero_add, Nat.reduceAdd]
      refine wpPi_move _ rfl rfl ?_
      simp only [pl, pn, el, ec, sz, ss, gz, gs, if_true, if_false, Bool.false_eq_true, Bool.not_true, Bool.not_false, Nat.add_zero, Nat.zero_add, Nat.reduceAdd]
      refine wpPi_move _ rfl rfl ?_
      simp only [pl, pn, el, ec, sz, ss, gz, gs, if_true, if_false, Bool.false_eq_true, Bool.not_true, Bool.not_false, Nat.add_zero, Nat.zero_add, Nat.reduceAdd]
      refine wpPi_move _ rfl rfl ?_
      simp only [pl, pn, el, ec, sz, ss, gz, gs, if_true, if_false, Bool.false_eq_true, Bool.not_true, Bool.not_false, Nat.add_zero, Nat.zero_add, Nat.reduceAdd]
      refine wpPi_cmp _ _ _ _ _ _ _ _ rfl rfl rfl rfl rfl false (decide_eq_false hn) ?_
      simp only [pl, pn, el, ec, sz, ss, gz, gs, if_true, if_false, Bool.false_eq_true, Bool.not_true, Bool.not_false, Nat.add_zero, Nat.zero_add, Nat.reduceAdd]
      refine wpPi_pick _ _ _ _ rfl rfl rfl ?_
      simp only [pl, pn, el, ec, sz, ss, gz, gs, if_true, if_false, Bool.false_eq_true, Bool.not_true, Bool.not_false, Nat.add_zero, Nat.zero_add, Nat.reduceAdd]
      refine wpPi_move _ rfl rfl ?_
      simp only [pl, pn, el, ec, sz, ss, gz, gs, if_true, if_false, Bool.false_eq_true, Bool.not_true, Bool.not_false, Nat.add_zero, Nat.zero_add, Nat.reduceAdd]
      refine wpPi_skip rfl ?_
      simp only [pl, pn, el, ec, sz, ss, gz, gs, if_true, if_false, Bool.false_eq_true, Bool.not_true, Bool.not_false, Nat.add_zero, Nat.zero_add, Nat.reduceAdd]
      refine wpPi_skip rfl ?_
      simp only [pl, pn, el, ec, sz, ss, gz, gs, if_true, if_false, Bool.false_eq_true, Bool.not_true, Bool.not_false, Nat.add_zero, Nat.zero_add, Nat.reduceAdd]
      refine wpPi_do_skip rfl trivial ?_
      simp only [pl, pn, el, ec, sz, ss, gz, gs, if_true, if_false, Bool.false_eq_true, Bool.not_true, Bool.not_false, Nat.add_zero, Nat.zero_add, Nat.reduceAdd]
      refine wpPi_pick _ _ _ _ rfl rfl rfl ?_
      simp only [pl, pn, el, ec, sz, ss, gz, gs, if_true, if_false, Bool.false_eq_true, Bool.not_true, Bool.not_false, Nat.add_zero, Nat.zero_add, Nat.reduceAdd]
      refine wpPi_assign _ rfl rfl ?_
      simp only [pl, pn, el, ec, sz, ss, gz, gs, if_true, if_false, Bool.false_eq_true, Bool.not_true, Bool.not_false, Nat.add_zero, Nat.zero_add, Nat.reduceAdd]
      refine wpPi_nil ?_
      go_wp2
      go_ret
      exact ⟨by rw [HRES.out]; rfl, hm2⟩
  · have hres : difB a b places want = false := by unfold difB; rw [decide_eq_false he]; simp
    have he2 : ¬ ((errD a b : Nat) : Int) = 0 := by omega
    have HRES := Lib.hid hres
    clear hres hok he
    go_upto_region 2 with (fail)
    refine wp_region_seq [3, 3, 3, 3, 3, 3, 3, 3, 3, 3, 1, 3, 3] (fun _ => True) (by rfl) (by rfl) trivial ?_
    simp only [List.zip_cons_cons, List.zip_nil_right]
    refine wpPi_move _ rfl rfl ?_
    simp only [pl, pn, el, ec, sz, ss, gz, gs, if_true, if_false, Bool.false_eq_true, Bool.not_true, Bool.not_false, Nat.add_zero, Nat.zero_add, Nat.reduceAdd]
    refine wpPi_cmp _ _ _ _ _ _ _ _ rfl rfl rfl rfl rfl false (decide_eq_false he2) ?_
    simp only [pl, pn, el, ec, sz, ss, gz, gs, if_true, if_false, Bool.false_eq_true, Bool.not_true, Bool.not_false, Nat.add_zero, Nat.zero_add, Nat.reduceAdd]
    refine wpPi_move _ rfl rfl ?_
    simp only [pl, pn, el, ec, sz, ss, gz, gs, if_true, if_false, Bool.false_eq_true, Bool.not_true, Bool.not_false, Nat.add_zero, Nat.zero_add, Nat.reduceAdd]
    refine wpPi_skip rfl ?_
    simp only [pl, pn, el, ec, sz, ss, gz, gs, if_true, if_false, Bool.false_eq_true, Bool.not_true, Bool.not_false, Nat.add_zero, Nat.zero_add, Nat.reduceAdd]
    refine wpPi_skip rfl ?_
    simp only [pl, pn, el, ec, sz, ss, gz, gs, if_true, if_false, Bool.false_eq_true, Bool.not_true, Bool.not_false, Nat.add_zero, Nat.zero_add, Nat.reduceAdd]
    refine wpPi_skip rfl ?_
    simp only [pl, pn, el, ec, sz, ss, gz, gs, if_true, if_false, Bool.false_eq_true, Bool.not_true, Bool.not_false, Nat.add_zero, Nat.zero_add, Nat.reduceAdd]
    refine wpPi_pick _ _ _ _ rfl rfl rfl ?_
    simp only [pl, pn, el, ec, sz, ss, gz, gs, if_true, if_false, Bool.false_eq_true, Bool.not_true, Bool.not_false, Nat.add_zero, Nat.zero_add, Nat.reduceAdd]
    refine wpPi_move _ rfl rfl ?_
    simp only [pl, pn, el, ec, sz, ss, gz, gs, if_true, if_false, Bool.false_eq_true, Bool.not_true, Bool.not_false, Nat.add_zero, Nat.zero_add, Nat.reduceAdd]
    refine wpPi_skip rfl ?_
    simp only [pl, pn, el, ec, sz, ss, gz, gs, if_true, if_false, Bool.false_eq_true, Bool.not_true, Bool.not_false, Nat.add_zero, Nat.zero_add, Nat.reduceAdd]
    refine wpPi_skip rfl ?_
    simp only [pl, pn, el, ec, sz, ss, gz, gs, if_true, if_false, Bool.false_eq_true, Bool.not_true, Bool.not_false, Nat.add_zero, Nat.zero_add, Nat.reduceAdd]
    refine wpPi_do_skip rfl trivial ?_
    simp only [pl, pn, el, ec, sz, ss, gz, gs, if_true, if_false, Bool.false_eq_true, Bool.not_true, Bool.not_false, Nat.add_zero, Nat.zero_add, Nat.reduceAdd]
    refine wpPi_pick _ _ _ _ rfl rfl rfl ?_
    simp only [pl, pn, el, ec, sz, ss, gz, gs, if_true, if_false, Bool.false_eq_true, Bool.not_true, Bool.not_false, Nat.add_zero, Nat.zero_add, Nat.reduceAdd]
    refine wpPi_assign _ rfl rfl ?_
    simp only [pl, pn, el, ec, sz, ss, gz, gs, if_true, if_false, Bool.false_eq_true, Bool.not_true, Bool.not_false, Nat.add_zero, Nat.zero_add, Nat.reduceAdd]
    refine wpPi_nil ?_
    go_wp2
    go_ret
    exact ⟨by rw [HRES.out]; rfl, hm2⟩
end Go.Proofs.Ytchkikmmcmjcgaa

/- The chapter's examples: awake. -/
namespace Go.Proofs.Ytchkikmmcmjcgaa
set_option linter.unusedSimpArgs false
set_option linter.unusedVariables false
set_option linter.unnecessarySimpa false
set_option linter.unusedSectionVars false
open Go.RowKit Go.Shelf


abbrev Ever : Nat → Prop := fun _ => True
theorem EntC.ever {w : World} {G : Nat → Prop} {cs : Array Value} {e : Ent} (h : EntC w G cs e) : EntC w Ever cs e := by
  obtain ⟨v, e1, hs⟩ := h
  exact ⟨v, e1, hs.mono (fun _ _ => trivial) (fun _ _ h => h)⟩
theorem es_one {w : World} {b : Nat} {T : TypeId} {cs : Array Value} {e : Ent} (hb : w.heap[b]? = some (.cells cs T (0, 0))) (h : EntC w Ever cs e) : Es false w Ever (.slice (some ⟨b, 0, none⟩) 1 1) [e] := by
  have hcs : cs.size = 2 := by obtain ⟨v, rfl, -⟩ := h; rfl
  refine ⟨_, _, rfl, Nat.le_refl _, by unfold maxLen; omega, fun _ => ⟨b, 0, rfl, trivial, by simp [Owned], fun i hi => ?_⟩⟩
  match i, hi with
  | 0, _ => exact ⟨cs, hcs, h, by simpa using CellsAt.whole hb⟩
theorem txt_one {w : World} {b : Nat} {T : TypeId} {s : ByteArray} (hb : w.heap[b]? = some (.cells #[.string s] T (0, 0))) : Txt false w Ever (.slice (some ⟨b, 0, none⟩) 1 1) [s] := by
  refine ⟨_, _, rfl, Nat.le_refl _, by unfold maxLen; omega, fun _ => ⟨b, 0, rfl, trivial, by simp [Owned], fun i hi => ?_⟩⟩
  match i, hi with
  | 0, _ => exact ⟨_, rfl, rfl, by simpa using CellsAt.whole hb⟩
theorem entF_keep (e : Ent) : ∀ (v : Value) (w w' : World), (∃ cs, v = .agg cs ∧ EntC w Ever cs e) → Mod NoB w w' → (∃ cs, v = .agg cs ∧ EntC w' Ever cs e) := fun _ _ _ ⟨cs, h1, h2⟩ hm => ⟨cs, h1, h2.keep hm (fun _ _ => id)⟩
theorem esF_keep (l : List Ent) : ∀ (v : Value) (w w' : World), Es false w Ever v l → Mod NoB w w' → Es false w' Ever v l := fun _ _ _ h hm => h.keep0 hm
theorem txtF_keep (l : List ByteArray) : ∀ (v : Value) (w w' : World), Txt false w Ever v l → Mod NoB w w' → Txt false w' Ever v l := fun _ _ _ h hm => Sl.keep0 h hm
theorem entry_i2 : (Try.prog.info? 35).map (fun i => (i.zero, i.size)) = some (some (.agg #[.string ⟨#[]⟩, .slice none 0 0]), 2) := by kernel_rfl
theorem EntC.size {w : World} {G : Nat → Prop} {cs : Array Value} {e : Ent} (h : EntC w G cs e) : cs.size = 2 := by obtain ⟨v, rfl, -⟩ := h; rfl
/-- '[]byte("..")' of a constant: a mark behind the literal's row. -/
theorem wp_bytesConst {P : Program} {o : Oper} {a : Act} {w : World} {K : Act → World → Prop} {Q : Exit → Act → World → Prop} (t e : TypeId) (x : Operand) (b n c : Nat) (C : Array Value) (ho : o.op = .convert t t x) (hx : a.eval x = .slice (some ⟨b, 0, none⟩) n c)
    (ht : P.underlying t = some (.slice e)) (he : P.underlying e = some (.int .u8)) (hb : w.heap[b]? = some (.cells C e (0, 0)))
    (h : ∀ w', w'.heap[b]? = some (.cells C e (C.size, C.size + 1)) → Mod (fun k => k = b) w w' → K (a.put o.dst (.slice (some ⟨b, 0, none⟩) n c)) w') : o.wp P a w K Q := by
  have hsh : w.shape? b = some (e, C.size) := by unfold World.shape?; rw [hb]
  have hr : (convert t t (.slice (some ⟨b, 0, none⟩) n c)).run P w = .ok (.slice (some ⟨b, 0, none⟩) n c) (w.freeze ⟨b, C.size, none⟩ 1) := by
    simp [convert, run_underlying ht, run_underlying he, markStringish, hsh]
  unfold Oper.wp execOp
  simp only [ho, hx, Sem.run_bind, hr, Result.andThen_ok, Sem.run_pure]
  refine h _ ?_ ⟨rfl, rfl, rfl, ?_, fun k hk hne => ?_⟩
  · unfold World.freeze
    rw [if_neg (by decide)]
    show (w.heap.modify b _)[b]? = _
    rw [Array.getElem?_modify, if_pos rfl, hb]
    rfl
  · unfold World.freeze
    rw [if_neg (by decide)]
    simp
  · unfold World.freeze
    rw [if_neg (by decide)]
    show (w.heap.modify b _)[k]? = _
    rw [Array.getElem?_modify, if_neg (fun e => hne e.symm)]
/-- "a", "x", "y". -/
def sA : ByteArray := ⟨#[97]⟩
def eAX : Ent := (sA, [120])
def eAY : Ent := (sA, [121])
theorem short_one {e : Ent} (h1 : e.1.size ≤ 1000000) (h2 : e.2.length ≤ 1000000) : Short [e] := fun x hx => by rw [List.mem_singleton.1 hx]; exact ⟨h1, h2⟩
theorem short_nil : Short [] := fun x hx => by cases hx
theorem root_nil : rootOut [] = shaL [0] := by
  unfold rootOut
  rw [if_pos (chkE_few [] (by simp))]
  unfold rootE leavesE
  rw [List.map_nil, dig_nil]
theorem root_one (e : Ent) : rootOut [e] = shaL (1 :: (shaL e.1.data.toList ++ shaL e.2)) := by
  unfold rootOut
  rw [if_pos (chkE_few [e] (by simp))]
  unfold rootE leavesE
  rw [List.map_cons, List.map_nil, dig_one]
  rfl
set_option maxRecDepth 100000 in
theorem one_ne : oneD (leafOf eAX) ≠ oneD (leafOf eAY) := by decide +kernel
theorem dif_ax_ay : difB [eAX] [eAY] 1 [sA] = true := by
  have h1 : chkE [eAX] = 0 := chkE_few _ (by simp)
  have h2 : chkE [eAY] = 0 := chkE_few _ (by simp)
  have hcl : ¬ clash [eAX] [eAY] := by
    rintro ⟨x, hx, y, hy, -, h⟩
    unfold leavesE at hx hy
    rw [List.map_cons, List.map_nil, List.mem_singleton] at hx hy
    subst hx; subst hy
    exact h rfl
  have he : errD [eAX] [eAY] = 0 := errD_zero.2 ⟨h1, h2, hcl⟩
  have hne : leafOf eAX ≠ leafOf eAY := fun e => one_ne (by rw [e])
  have hd : difE [eAX] [eAY] = ([sA, sA], 1) := by
    unfold difE leavesE
    rw [List.map_cons, List.map_nil, List.map_cons, List.map_nil, dif_few (by rw [dig_one, dig_one]; exact one_ne) (by simp)]
    simp only [lackL, List.filter_cons, List.filter_nil, List.mem_singleton, hne, Ne.symm hne, not_false_iff, decide_true, if_true, List.map_cons, List.map_nil]
    rfl
  have hr : riseOf [sA, sA] = [sA] := (riseOf_rise _).one (fun x hx => by simpa using hx) (by simp)
  unfold difB
  rw [he, hd, hr]
  simp
end Go.Proofs.Ytchkikmmcmjcgaa

/- awake holds. -/
namespace Go.Proofs.Ytchkikmmcmjcgaa
set_option linter.unusedSimpArgs false
set_option linter.unusedVariables false
set_option linter.unnecessarySimpa false
set_option linter.unusedSectionVars false
open Go.RowKit Go.Shelf


set_option maxRecDepth 10000 in
set_option maxHeartbeats 2000000 in
theorem awake_any (w : World) : Calls Try.prog 9 #[] w (RetM (.bool true) w) := by
  have hr0 := root_nil
  have hr1 := root_one eAX
  have hc0 : chkE [] = 0 := chkE_few _ (by simp)
  have hc1 : chkE [eAX] = 0 := chkE_few _ (by simp)
  have hl0 : (idCells (shaL [0])).size = 32 := by rw [idCells_size]; exact shaL_len _
  have HDF := Lib.hid dif_ax_ay
  have hkl : (shaL [97]).length = 32 := shaL_len _
  have hvl : (shaL [120]).length = 32 := shaL_len _
  have hkr : (idCells (shaL [97])).size = 32 := by rw [idCells_size]; exact hkl
  have hvr : (idCells (shaL [120])).size = 32 := by rw [idCells_size]; exact hvl
  go_enter Try.func9, Try.ntmps9
  go_upto_region 1 with (fail)
  refine wp_region_seq [1, 3, 3, 3, 1, 1, 3] (fun _ => True) (by rfl) (by rfl) trivial ?_
  simp only [List.zip_cons_cons, List.zip_nil_right]
  refine wpPi_do rfl (fun K hK => ?_)
  refine wp_enterQ (run_call 17 [.const (.slice none 0 0)] _ rfl _ Try.func17 rfl (by kernel_rfl) [.slice none 0 0] rfl _) (root_any (own := false) (G := Ever) (es := []) (Sl.nil _ _ _ _ _) short_nil (by simp)) ?_
  rintro e w1 ⟨rfl, hm1⟩
  rw [hr0, hc0]
  refine ⟨_, rfl, hK _ _ trivial ?_⟩
  clear hK K
  try simp only [pl, pn, el, ec, sz, ss, gz, gs, if_true, if_false, Bool.false_eq_true, Bool.not_true, Bool.not_false, Nat.add_zero, Nat.zero_add, Nat.reduceAdd]
  refine wpPi_move _ rfl rfl ?_
  simp only [pl, pn, el, ec, sz, ss, gz, gs, if_true, if_false, Bool.false_eq_true, Bool.not_true, Bool.not_false, Nat.add_zero, Nat.zero_add, Nat.reduceAdd]
  refine wpPi_any (v := ?_) rfl (fun w' => ?_) ?_; rotate_left; · (go_simp; try with_reducible rfl)
  simp only [pl, pn, el, ec, sz, ss, gz, gs, if_true, if_false, Bool.false_eq_true, Bool.not_true, Bool.not_false, Nat.add_zero, Nat.zero_add, Nat.reduceAdd]
  refine wpPi_any (v := ?_) rfl (fun w' => ?_) ?_; rotate_left; · (go_simp; try with_reducible rfl)
  simp only [pl, pn, el, ec, sz, ss, gz, gs, if_true, if_false, Bool.false_eq_true, Bool.not_true, Bool.not_false, Nat.add_zero, Nat.zero_add, Nat.reduceAdd]
  refine wpPi_do rfl (fun K hK => ?_)
  refine wp_alloc 38 _ (by rfl) idZ (fun w2 hB2 hm2 hs2 => ?_)
  replace hB2 : w2.heap[w1.heap.size]? = some (.cells (idCells (List.replicate 32 0)) 38 (0, 0)) := hB2
  refine hK _ _ trivial ?_
  clear hK K
  try simp only [pl, pn, el, ec, sz, ss, gz, gs, if_true, if_false, Bool.false_eq_true, Bool.not_true, Bool.not_false, Nat.add_zero, Nat.zero_add, Nat.reduceAdd]
  refine wpPi_do rfl (fun K hK => ?_)
  refine wp_storeA 38 _ _ w1.heap.size 0 (idCells (shaL [0])) (by rfl) (by rfl) (by rfl) (idCells_one _) 32 (by kernel_rfl) hl0 _ _ hB2 (by rw [hl0, idCells_size]; simp) (fun w3 hB3 hm3 => ?_)
  rw [putRow_whole (by rw [hl0, idCells_size]; rfl)] at hB3
  refine hK _ _ trivial ?_
  clear hK K
  try simp only [pl, pn, el, ec, sz, ss, gz, gs, if_true, if_false, Bool.false_eq_true, Bool.not_true, Bool.not_false, Nat.add_zero, Nat.zero_add, Nat.reduceAdd]
  refine wpPi_assign _ rfl rfl ?_
  simp only [pl, pn, el, ec, sz, ss, gz, gs, if_true, if_false, Bool.false_eq_true, Bool.not_true, Bool.not_false, Nat.add_zero, Nat.zero_add, Nat.reduceAdd]
  refine wpPi_nil ?_
  have hM3 : Mod NoB w w3 := (hm1.trans0 hm2).transB hm3 hm1.size
  generalize w1.heap.size = b1 at *
  clear hm1 hm2 hm3 hB2 hr0 hc0
  go_upto_region 2 with (fail)
  refine wp_region_seq [1, 1, 1, 3, 3, 3, 1, 1, 3] (fun _ => True) (by rfl) (by rfl) trivial ?_
  simp only [List.zip_cons_cons, List.zip_nil_right]
  refine wpPi_do rfl (fun K hK => ?_)
  refine wp_enterQ (run_call 16 [.const (.string ⟨#[97]⟩), .const (.string ⟨#[120]⟩)] _ rfl _ Try.func16 rfl (by kernel_rfl) [.string ⟨#[97]⟩, .string ⟨#[120]⟩] rfl _) (lawOf_any ⟨#[97]⟩ ⟨#[120]⟩ (by decide) _) ?_
  rintro e w4 ⟨cs, rfl, hec, hm4⟩
  replace hec : EntC w4 Ever cs eAX := hec
  have hcs2 := hec.size
  refine ⟨_, rfl, hK _ _ trivial ?_⟩
  clear hK K
  try simp only [pl, pn, el, ec, sz, ss, gz, gs, if_true, if_false, Bool.false_eq_true, Bool.not_true, Bool.not_false, Nat.add_zero, Nat.zero_add, Nat.reduceAdd]
  refine wpPi_do rfl (fun K hK => ?_)
  refine wp_buildSlice1 22 35 _ (.agg cs) (.agg #[.string ⟨#[]⟩, .slice none 0 0]) 2 (by rfl) (by rfl) Try.underlying22 entry_i2 (by omega) (by omega) hcs2 (fun w5 hB5 hm5 hs5 => ?_)
  replace hB5 : w5.heap[w4.heap.size]? = some (.cells cs 35 (0, 0)) := hB5
  have hes := es_one hB5 (hec.keep hm5 (fun _ _ => id))
  refine hK _ _ trivial ?_
  clear hK K
  try simp only [pl, pn, el, ec, sz, ss, gz, gs, if_true, if_false, Bool.false_eq_true, Bool.not_true, Bool.not_false, Nat.add_zero, Nat.zero_add, Nat.reduceAdd]
  refine wpPi_do rfl (fun K hK => ?_)
  refine wp_enterQ (run_call 17 [.tmp 13] _ rfl _ Try.func17 rfl (by kernel_rfl) [.slice (some ⟨w4.heap.size, 0, none⟩) 1 1] rfl _) (root_any hes (short_one (by decide) (by decide)) (by simp)) ?_
  rintro e w6 ⟨rfl, hm6⟩
  rw [hc1, hr1]
  have hM6 := ((hM3.trans0 hm4).trans0 hm5).trans0 hm6
  replace hB3 := ((hm4.trans0 hm5).trans0 hm6).obj id hB3
  have hlt1 := (Array.getElem?_eq_some_iff.1 hB3).1
  obtain ⟨R, hR⟩ : ∃ R, shaL (1 :: (shaL eAX.1.data.toList ++ shaL eAX.2)) = R := ⟨_, rfl⟩
  have hRl : R.length = 32 := by rw [← hR]; exact shaL_len _
  have hRr : (idCells R).size = 32 := by rw [idCells_size, hRl]
  rw [hR]
  have HR := Lib.hid hR
  refine ⟨_, rfl, hK _ _ trivial ?_⟩
  clear hK K hR
  try simp only [pl, pn, el, ec, sz, ss, gz, gs, if_true, if_false, Bool.false_eq_true, Bool.not_true, Bool.not_false, Nat.add_zero, Nat.zero_add, Nat.reduceAdd]
  refine wpPi_move _ rfl rfl ?_
  simp only [pl, pn, el, ec, sz, ss, gz, gs, if_true, if_false, Bool.false_eq_true, Bool.not_true, Bool.not_false, Nat.add_zero, Nat.zero_add, Nat.reduceAdd]
  refine wpPi_any (v := ?_) rfl (fun w' => ?_) ?_; rotate_left; · (go_simp; try with_reducible rfl)
  simp only [pl, pn, el, ec, sz, ss, gz, gs, if_true, if_false, Bool.false_eq_true, Bool.not_true, Bool.not_false, Nat.add_zero, Nat.zero_add, Nat.reduceAdd]
  refine wpPi_any (v := ?_) rfl (fun w' => ?_) ?_; rotate_left; · (go_simp; try with_reducible rfl)
  simp only [pl, pn, el, ec, sz, ss, gz, gs, if_true, if_false, Bool.false_eq_true, Bool.not_true, Bool.not_false, Nat.add_zero, Nat.zero_add, Nat.reduceAdd]
  refine wpPi_do rfl (fun K hK => ?_)
  refine wp_alloc 38 _ (by rfl) idZ (fun w7 hB7 hm7 hs7 => ?_)
  replace hB7 : w7.heap[w6.heap.size]? = some (.cells (idCells (List.replicate 32 0)) 38 (0, 0)) := hB7
  replace hB3 := hm7.obj id hB3
  refine hK _ _ trivial ?_
  clear hK K
  try simp only [pl, pn, el, ec, sz, ss, gz, gs, if_true, if_false, Bool.false_eq_true, Bool.not_true, Bool.not_false, Nat.add_zero, Nat.zero_add, Nat.reduceAdd]
  refine wpPi_do rfl (fun K hK => ?_)
  refine wp_storeA 38 _ _ w6.heap.size 0 (idCells R) (by rfl) (by rfl) (by rfl) (idCells_one _) 32 (by kernel_rfl) hRr _ _ hB7 (by rw [hRr, idCells_size]; simp) (fun w8 hB8 hm8 => ?_)
  rw [putRow_whole (by rw [hRr, idCells_size]; rfl)] at hB8
  refine hK _ _ trivial ?_
  clear hK K
  try simp only [pl, pn, el, ec, sz, ss, gz, gs, if_true, if_false, Bool.false_eq_true, Bool.not_true, Bool.not_false, Nat.add_zero, Nat.zero_add, Nat.reduceAdd]
  refine wpPi_assign _ rfl rfl ?_
  simp only [pl, pn, el, ec, sz, ss, gz, gs, if_true, if_false, Bool.false_eq_true, Bool.not_true, Bool.not_false, Nat.add_zero, Nat.zero_add, Nat.reduceAdd]
  refine wpPi_nil ?_
  replace hB3 := hm8.objB (by omega) hB3
  have hM8 : Mod NoB w w8 := (hM6.trans0 hm7).transB hm8 hM6.size
  generalize w6.heap.size = b3 at *
  clear hm4 hm5 hm6 hm7 hm8 hB5 hB7 hM3 hM6 hes hec hr1 hc1 hcs2
  go_upto_region 3 with (fail)
  refine wp_region_seq [1, 1, 1, 1, 1, 1, 1, 1, 1, 1] (fun _ => True) (by rfl) (by rfl) trivial ?_
  simp only [List.zip_cons_cons, List.zip_nil_right]
  refine wpPi_do rfl (fun K hK => ?_)
  refine wp_buildSlice1 33 5 _ (byteV 97) (.int .u8 0) 1 (by rfl) (by rfl) Try.underlying33 (by kernel_rfl) (by omega) (by omega) (by rfl) (fun w9 hB9 hm9 hs9 => ?_)
  replace hB9 : w9.heap[w8.heap.size]? = some (.cells (idCells [97]) 5 (0, 0)) := hB9
  refine hK _ _ trivial ?_
  clear hK K
  try simp only [pl, pn, el, ec, sz, ss, gz, gs, if_true, if_false, Bool.false_eq_true, Bool.not_true, Bool.not_false, Nat.add_zero, Nat.zero_add, Nat.reduceAdd]
  refine wpPi_do rfl (fun K hK => ?_)
  refine wp_bytesConst 33 5 _ w8.heap.size 1 1 _ (by rfl) (by rfl) Try.underlying33 Try.underlying5 hB9 (fun w9b hB9b hm9b => ?_)
  replace hm9 : Mod NoB w8 w9b := hm9.transB hm9b (Nat.le_refl _)
  clear hB9 hm9b
  refine hK _ _ trivial ?_
  clear hK K
  try simp only [pl, pn, el, ec, sz, ss, gz, gs, if_true, if_false, Bool.false_eq_true, Bool.not_true, Bool.not_false, Nat.add_zero, Nat.zero_add, Nat.reduceAdd]
  refine wpPi_do rfl (fun K hK => ?_)
  refine wp_enterQ (run_call 23 [.tmp 18] _ rfl _ Try.func23 rfl (by kernel_rfl) [.slice (some ⟨w8.heap.size, 0, none⟩) 1 1] rfl _) (shaSum_any (sl_of_cells (x := [97]) (CellsAt.whole hB9b) (by simp)) (by simp)) ?_
  rintro e w10 ⟨rfl, hm10⟩
  clear hB9b
  refine ⟨_, rfl, hK _ _ trivial ?_⟩
  clear hK K
  try simp only [pl, pn, el, ec, sz, ss, gz, gs, if_true, if_false, Bool.false_eq_true, Bool.not_true, Bool.not_false, Nat.add_zero, Nat.zero_add, Nat.reduceAdd]
  refine wpPi_do rfl (fun K hK => ?_)
  refine wp_buildSlice1 33 5 _ (byteV 120) (.int .u8 0) 1 (by rfl) (by rfl) Try.underlying33 (by kernel_rfl) (by omega) (by omega) (by rfl) (fun w11 hB11 hm11 hs11 => ?_)
  replace hB11 : w11.heap[w10.heap.size]? = some (.cells (idCells [120]) 5 (0, 0)) := hB11
  refine hK _ _ trivial ?_
  clear hK K
  try simp only [pl, pn, el, ec, sz, ss, gz, gs, if_true, if_false, Bool.false_eq_true, Bool.not_true, Bool.not_false, Nat.add_zero, Nat.zero_add, Nat.reduceAdd]
  refine wpPi_do rfl (fun K hK => ?_)
  refine wp_bytesConst 33 5 _ w10.heap.size 1 1 _ (by rfl) (by rfl) Try.underlying33 Try.underlying5 hB11 (fun w11b hB11b hm11b => ?_)
  replace hm11 : Mod NoB w10 w11b := hm11.transB hm11b (Nat.le_refl _)
  clear hB11 hm11b
  refine hK _ _ trivial ?_
  clear hK K
  try simp only [pl, pn, el, ec, sz, ss, gz, gs, if_true, if_false, Bool.false_eq_true, Bool.not_true, Bool.not_false, Nat.add_zero, Nat.zero_add, Nat.reduceAdd]
  refine wpPi_do rfl (fun K hK => ?_)
  refine wp_enterQ (run_call 23 [.tmp 21] _ rfl _ Try.func23 rfl (by kernel_rfl) [.slice (some ⟨w10.heap.size, 0, none⟩) 1 1] rfl _) (shaSum_any (sl_of_cells (x := [120]) (CellsAt.whole hB11b) (by simp)) (by simp)) ?_
  rintro e w12 ⟨rfl, hm12⟩
  clear hB11b
  have hM12 := ((hm9.trans0 hm10).trans0 hm11).trans0 hm12
  refine ⟨_, rfl, hK _ _ trivial ?_⟩
  clear hK K
  try simp only [pl, pn, el, ec, sz, ss, gz, gs, if_true, if_false, Bool.false_eq_true, Bool.not_true, Bool.not_false, Nat.add_zero, Nat.zero_add, Nat.reduceAdd]
  refine wpPi_do rfl (fun K hK => ?_)
  refine wp_alloc 38 _ (by rfl) idZ (fun w13 hB13 hm13 hs13 => ?_)
  replace hB13 : w13.heap[w12.heap.size]? = some (.cells (idCells (List.replicate 32 0)) 38 (0, 0)) := hB13
  refine hK _ _ trivial ?_
  clear hK K
  try simp only [pl, pn, el, ec, sz, ss, gz, gs, if_true, if_false, Bool.false_eq_true, Bool.not_true, Bool.not_false, Nat.add_zero, Nat.zero_add, Nat.reduceAdd]
  refine wpPi_do rfl (fun K hK => ?_)
  refine wp_alloc 38 _ (by rfl) idZ (fun w14 hB14 hm14 hs14 => ?_)
  replace hB14 : w14.heap[w13.heap.size]? = some (.cells (idCells (List.replicate 32 0)) 38 (0, 0)) := hB14
  replace hB13 := hm14.obj id hB13
  have hM14 := (hM12.trans0 hm13).trans0 hm14
  have hs12 := hM12.size
  refine hK _ _ trivial ?_
  clear hK K
  try simp only [pl, pn, el, ec, sz, ss, gz, gs, if_true, if_false, Bool.false_eq_true, Bool.not_true, Bool.not_false, Nat.add_zero, Nat.zero_add, Nat.reduceAdd]
  refine wpPi_do rfl (fun K hK => ?_)
  refine wp_storeA 38 _ _ w12.heap.size 0 (idCells (shaL [97])) (by rfl) (by rfl) (by rfl) (idCells_one _) 32 (by kernel_rfl) hkr _ _ hB13 (by rw [hkr, idCells_size]; simp) (fun w15 hB15 hm15 => ?_)
  rw [putRow_whole (by rw [hkr, idCells_size]; rfl)] at hB15
  replace hB14 := hm15.objB (by omega) hB14
  refine hK _ _ trivial ?_
  clear hK K
  try simp only [pl, pn, el, ec, sz, ss, gz, gs, if_true, if_false, Bool.false_eq_true, Bool.not_true, Bool.not_false, Nat.add_zero, Nat.zero_add, Nat.reduceAdd]
  refine wpPi_do rfl (fun K hK => ?_)
  refine wp_storeA 38 _ _ w13.heap.size 0 (idCells (shaL [120])) (by rfl) (by rfl) (by rfl) (idCells_one _) 32 (by kernel_rfl) hvr _ _ hB14 (by rw [hvr, idCells_size]; simp) (fun w16 hB16 hm16 => ?_)
  rw [putRow_whole (by rw [hvr, idCells_size]; rfl)] at hB16
  replace hB15 := hm16.objB (by omega) hB15
  refine hK _ _ trivial ?_
  clear hK K
  try simp only [pl, pn, el, ec, sz, ss, gz, gs, if_true, if_false, Bool.false_eq_true, Bool.not_true, Bool.not_false, Nat.add_zero, Nat.zero_add, Nat.reduceAdd]
  refine wpPi_nil ?_
  have hM16 : Mod NoB w8 w16 := (hM14.transB hm15 hs12).transB hm16 (by omega)
  replace hB3 := CellsAt.whole (hM16.obj id hB3)
  replace hB8 := CellsAt.whole (hM16.obj id hB8)
  have hMw := hM8.trans0 hM16
  have hsk := sl_of_cells (CellsAt.whole hB15) (by omega)
  have hsv := sl_of_cells (CellsAt.whole hB16) (by omega)
  rw [hkl] at hsk
  rw [hvl] at hsv
  generalize w12.heap.size = b5 at *
  generalize w13.heap.size = b6 at *
  clear hm9 hm10 hm11 hm12 hm13 hm14 hm15 hm16 hB13 hB14 hB15 hB16 hM8 hM12 hM14 hM16 hkr hvr
  go_upto_region 4 with (fail)
  have hS : Mod NoB w16 w16.drew := (Mod.refl _ _).drew
  refine wp_region_plan [.inl [(0, 3), (1, 3), (2, 3), (3, 0)], .inr (.inl 4), .inr (.inl 5), .inl [(6, 0), (7, 3), (8, 3), (9, 3), (10, 3), (11, 3), (12, 3), (13, 0), (15, 3), (17, 3)], .inr (.inl 14), .inr (.inl 16), .inr (.inl 18), .inr (.inl 19), .inl [(20, 0), (21, 3), (22, 3)], .inr (.inr (5, #[true, true, true, true, true, true, true, true, true, true, true, true, true, true, true, true, true, true, true, true, true, true, true, false, false, false, false, false, false, false, false])), .inr (.inl 28), .inl [(29, 3), (30, 3)]] (fun w' => Mod NoB w16 w') (by kernel_rfl) (by kernel_rfl) (by kernel_rfl) (fun _ _ _ _ hd h => ⟨hd.trans h.1, h.2⟩) hS ?_
  refine wpPlan_seg ?_
  simp only [List.map_cons, List.map_nil, Array.getD_eq_getD_getElem?, List.getElem?_toArray, List.getElem?_cons_succ, List.getElem?_cons_zero, Option.getD_some]
  refine wpPi_move _ rfl rfl ?_
  simp only [pl, pn, el, ec, sz, ss, gz, gs, if_true, if_false, Bool.false_eq_true, Bool.not_true, Bool.not_false, Nat.add_zero, Nat.zero_add, Nat.reduceAdd]
  refine wpPi_any (v := ?_) rfl (fun w' => ?_) ?_; rotate_left; · (go_simp; try with_reducible rfl)
  simp only [pl, pn, el, ec, sz, ss, gz, gs, if_true, if_false, Bool.false_eq_true, Bool.not_true, Bool.not_false, Nat.add_zero, Nat.zero_add, Nat.reduceAdd]
  refine wpPi_move _ rfl rfl ?_
  simp only [pl, pn, el, ec, sz, ss, gz, gs, if_true, if_false, Bool.false_eq_true, Bool.not_true, Bool.not_false, Nat.add_zero, Nat.zero_add, Nat.reduceAdd]
  refine wpPi_val rfl (fun w' hS => exec_loadA 38 _ (by rfl) b1 0 (by rfl) (idCells (shaL [0])) (hB3.keep hS id) _ Try.underlying38 rfl 32 (by kernel_rfl) hl0) ?_
  simp only [pl, pn, el, ec, sz, ss, gz, gs, if_true, if_false, Bool.false_eq_true, Bool.not_true, Bool.not_false, Nat.add_zero, Nat.zero_add, Nat.reduceAdd]
  refine wpPi_nil ?_
  refine planQ_normal ?_
  refine wpPlan_one rfl (fun K hK => ?_)
  simp only [Array.getD_eq_getD_getElem?, List.getElem?_toArray, List.getElem?_cons_succ, List.getElem?_cons_zero, Option.getD_some]
  refine wp_buildSlice1 33 5 _ (byteV 0) (.int .u8 0) 1 (by rfl) (by rfl) Try.underlying33 (by kernel_rfl) (by omega) (by omega) (by rfl) (fun wa hBa hma hsa => ?_)
  replace hBa : wa.heap[w16.heap.size]? = some (.cells (idCells [0]) 5 (0, 0)) := hBa
  have hSa := hS.trans0 hma
  refine hK _ _ hSa ?_
  clear hK K
  try simp only [pl, pn, el, ec, sz, ss, gz, gs, if_true, if_false, Bool.false_eq_true, Bool.not_true, Bool.not_false, Nat.add_zero, Nat.zero_add, Nat.reduceAdd]
  refine wpPlan_one rfl (fun K hK => ?_)
  simp only [Array.getD_eq_getD_getElem?, List.getElem?_toArray, List.getElem?_cons_succ, List.getElem?_cons_zero, Option.getD_some]
  refine wp_enterQ (run_call 23 [.tmp 27] _ rfl _ Try.func23 rfl (by kernel_rfl) [.slice (some ⟨w16.heap.size, 0, none⟩) 1 1] rfl _) (shaSum_any (sl_of_cells (x := [0]) (CellsAt.whole hBa) (by simp)) (by simp)) ?_
  rintro e wb ⟨rfl, hmb⟩
  have hSb := hSa.trans0 hmb
  refine ⟨_, rfl, hK _ _ hSb ?_⟩
  clear hK K
  try simp only [pl, pn, el, ec, sz, ss, gz, gs, if_true, if_false, Bool.false_eq_true, Bool.not_true, Bool.not_false, Nat.add_zero, Nat.zero_add, Nat.reduceAdd]
  refine wpPlan_seg ?_
  simp only [List.map_cons, List.map_nil, Array.getD_eq_getD_getElem?, List.getElem?_toArray, List.getElem?_cons_succ, List.getElem?_cons_zero, Option.getD_some]
  refine wpPi_val rfl (fun w' hS => exec_eql_id _ _ _ _ rfl (shaL [0]) (shaL [0]) rfl rfl 32 5 Try.underlying38 Try.underlying5 (by kernel_rfl) (by kernel_rfl) (shaL_len _) (shaL_len _) true (decide_eq_true rfl)) ?_
  simp only [pl, pn, el, ec, sz, ss, gz, gs, if_true, if_false, Bool.false_eq_true, Bool.not_true, Bool.not_false, Nat.add_zero, Nat.zero_add, Nat.reduceAdd]
  refine wpPi_pick _ _ _ _ rfl rfl rfl ?_
  simp only [pl, pn, el, ec, sz, ss, gz, gs, if_true, if_false, Bool.false_eq_true, Bool.not_true, Bool.not_false, Nat.add_zero, Nat.zero_add, Nat.reduceAdd]
  refine wpPi_move _ rfl rfl ?_
  simp only [pl, pn, el, ec, sz, ss, gz, gs, if_true, if_false, Bool.false_eq_true, Bool.not_true, Bool.not_false, Nat.add_zero, Nat.zero_add, Nat.reduceAdd]
  refine wpPi_move _ rfl rfl ?_
  simp only [pl, pn, el, ec, sz, ss, gz, gs, if_true, if_false, Bool.false_eq_true, Bool.not_true, Bool.not_false, Nat.add_zero, Nat.zero_add, Nat.reduceAdd]
  refine wpPi_any (v := ?_) rfl (fun w' => ?_) ?_; rotate_left; · (go_simp; try with_reducible rfl)
  simp only [pl, pn, el, ec, sz, ss, gz, gs, if_true, if_false, Bool.false_eq_true, Bool.not_true, Bool.not_false, Nat.add_zero, Nat.zero_add, Nat.reduceAdd]
  refine wpPi_pick _ _ _ _ rfl rfl rfl ?_
  simp only [pl, pn, el, ec, sz, ss, gz, gs, if_true, if_false, Bool.false_eq_true, Bool.not_true, Bool.not_false, Nat.add_zero, Nat.zero_add, Nat.reduceAdd]
  refine wpPi_move _ rfl rfl ?_
  simp only [pl, pn, el, ec, sz, ss, gz, gs, if_true, if_false, Bool.false_eq_true, Bool.not_true, Bool.not_false, Nat.add_zero, Nat.zero_add, Nat.reduceAdd]
  refine wpPi_val rfl (fun w' hS => exec_loadA 38 _ (by rfl) b3 0 (by rfl) (idCells R) (hB8.keep hS id) _ Try.underlying38 rfl 32 (by kernel_rfl) hRr) ?_
  simp only [pl, pn, el, ec, sz, ss, gz, gs, if_true, if_false, Bool.false_eq_true, Bool.not_true, Bool.not_false, Nat.add_zero, Nat.zero_add, Nat.reduceAdd]
  refine wpPi_sliceArr 38 5 _ _ _ 32 rfl rfl rfl Try.underlying38 (by kernel_rfl) ?_
  simp only [pl, pn, el, ec, sz, ss, gz, gs, if_true, if_false, Bool.false_eq_true, Bool.not_true, Bool.not_false, Nat.add_zero, Nat.zero_add, Nat.reduceAdd]
  refine wpPi_sliceArr 38 5 _ _ _ 32 rfl rfl rfl Try.underlying38 (by kernel_rfl) ?_
  simp only [pl, pn, el, ec, sz, ss, gz, gs, if_true, if_false, Bool.false_eq_true, Bool.not_true, Bool.not_false, Nat.add_zero, Nat.zero_add, Nat.reduceAdd]
  refine wpPi_nil ?_
  refine planQ_normal ?_
  refine wpPlan_one rfl (fun K hK => ?_)
  simp only [Array.getD_eq_getD_getElem?, List.getElem?_toArray, List.getElem?_cons_succ, List.getElem?_cons_zero, Option.getD_some]
  refine wp_buildSlice1 33 5 _ (byteV 1) (.int .u8 0) 1 (by rfl) (by rfl) Try.underlying33 (by kernel_rfl) (by omega) (by omega) (by rfl) (fun wc hBc hmc hsc => ?_)
  have hbt : Bts wb.heap.size wc (.slice (some ⟨wb.heap.size, 0, none⟩) 1 1) [1] := owns_lit hBc
  have hSc := hSb.trans0 hmc
  have hsbc := hSb.size
  have hscc := hSc.size
  refine hK _ _ hSc ?_
  clear hK K
  try simp only [pl, pn, el, ec, sz, ss, gz, gs, if_true, if_false, Bool.false_eq_true, Bool.not_true, Bool.not_false, Nat.add_zero, Nat.zero_add, Nat.reduceAdd]
  refine wpPlan_one rfl (fun K hK => ?_)
  simp only [Array.getD_eq_getD_getElem?, List.getElem?_toArray, List.getElem?_cons_succ, List.getElem?_cons_zero, Option.getD_some]
  refine wp_bytes _ _ (by rfl) wb.heap.size _ [1] (by rfl) hbt _ (shaL [97]) (by rfl) (by have := (hsk.keep0 hSc).bsrc; rwa [hkl] at this ⊢) (by rw [hkl]; simp) (by have := hmc.size; omega) (fun vd wd hbd hmd => ?_)
  have hSd : Mod NoB w16 wd := hSc.trans hmd (fun k hk e => by have := (hbt.lt e).1; omega)
  refine hK _ _ hSd ?_
  clear hK K
  try simp only [pl, pn, el, ec, sz, ss, gz, gs, if_true, if_false, Bool.false_eq_true, Bool.not_true, Bool.not_false, Nat.add_zero, Nat.zero_add, Nat.reduceAdd]
  refine wpPlan_one rfl (fun K hK => ?_)
  simp only [Array.getD_eq_getD_getElem?, List.getElem?_toArray, List.getElem?_cons_succ, List.getElem?_cons_zero, Option.getD_some]
  refine wp_bytes _ _ (by rfl) wb.heap.size _ _ (by rfl) hbd _ (shaL [120]) (by rfl) (by have := (hsv.keep0 hSd).bsrc; rwa [hvl] at this ⊢) (by rw [hvl, List.length_append, hkl]; simp) (by have := hmc.size; have := hmd.size; omega) (fun ve we hbe hme => ?_)
  have hSe : Mod NoB w16 we := hSd.trans hme (fun k hk e => by have := (hbd.lt e).1; omega)
  refine hK _ _ hSe ?_
  clear hK K
  try simp only [pl, pn, el, ec, sz, ss, gz, gs, if_true, if_false, Bool.false_eq_true, Bool.not_true, Bool.not_false, Nat.add_zero, Nat.zero_add, Nat.reduceAdd]
  refine wpPlan_one rfl (fun K hK => ?_)
  simp only [Array.getD_eq_getD_getElem?, List.getElem?_toArray, List.getElem?_cons_succ, List.getElem?_cons_zero, Option.getD_some]
  refine wp_enterQ (run_call 23 [.tmp 41] _ rfl _ Try.func23 rfl (by kernel_rfl) [ve] rfl _) (shaSum_any hbe.sl (by rw [List.length_append, List.length_append, hkl, hvl]; simp)) ?_
  rintro e wf ⟨rfl, hmf⟩
  have hSf := hSe.trans0 hmf
  have heR : shaL ([1] ++ shaL [97] ++ shaL [120]) = R := by rw [← HR.out, List.append_assoc]; rfl
  rw [heR]
  refine ⟨_, rfl, hK _ _ hSf ?_⟩
  clear hK K
  try simp only [pl, pn, el, ec, sz, ss, gz, gs, if_true, if_false, Bool.false_eq_true, Bool.not_true, Bool.not_false, Nat.add_zero, Nat.zero_add, Nat.reduceAdd]
  refine wpPlan_seg ?_
  simp only [List.map_cons, List.map_nil, Array.getD_eq_getD_getElem?, List.getElem?_toArray, List.getElem?_cons_succ, List.getElem?_cons_zero, Option.getD_some]
  refine wpPi_val rfl (fun w' hS => exec_eql_id _ _ _ _ rfl R R rfl rfl 32 5 Try.underlying38 Try.underlying5 (by kernel_rfl) (by kernel_rfl) hRl hRl true (decide_eq_true rfl)) ?_
  simp only [pl, pn, el, ec, sz, ss, gz, gs, if_true, if_false, Bool.false_eq_true, Bool.not_true, Bool.not_false, Nat.add_zero, Nat.zero_add, Nat.reduceAdd]
  refine wpPi_pick _ _ _ _ rfl rfl rfl ?_
  simp only [pl, pn, el, ec, sz, ss, gz, gs, if_true, if_false, Bool.false_eq_true, Bool.not_true, Bool.not_false, Nat.add_zero, Nat.zero_add, Nat.reduceAdd]
  refine wpPi_move _ rfl rfl ?_
  simp only [pl, pn, el, ec, sz, ss, gz, gs, if_true, if_false, Bool.false_eq_true, Bool.not_true, Bool.not_false, Nat.add_zero, Nat.zero_add, Nat.reduceAdd]
  refine wpPi_nil ?_
  refine planQ_normal ?_
  refine wpPlan_dep [(46, (fun v w' => ∃ cs, v = .agg cs ∧ EntC w' Ever cs eAX)), (47, (fun v w' => Es false w' Ever v [eAX])), (48, (fun v w' => ∃ cs, v = .agg cs ∧ EntC w' Ever cs eAY)), (49, (fun v w' => Es false w' Ever v [eAY])), (50, (fun v w' => Txt false w' Ever v [sA]))] [(23, 46, []), (24, 47, [46]), (25, 48, []), (26, 49, [48]), (27, 50, [])] ?hF ?hS (by decide) (by kernel_rfl) (by kernel_rfl) (by kernel_rfl) ?hw ?hend ?hop
  case hF =>
    intro x hx
    simp only [List.mem_cons, List.not_mem_nil, or_false] at hx
    rcases hx with rfl | rfl | rfl | rfl | rfl
    · exact entF_keep eAX
    · exact esF_keep [eAX]
    · exact entF_keep eAY
    · exact esF_keep [eAY]
    · exact txtF_keep [sA]
  case hS => exact (fun _ hm => hSf.trans0 hm)
  case hw =>
    intro q hq
    simp only [List.mem_cons, List.not_mem_nil, or_false] at hq
    rcases hq with rfl | rfl | rfl | rfl | rfl <;> rfl
  case hop =>
    intro q hq ps w1 hm hps hds hnd hpn K hK
    simp only [List.mem_cons, List.not_mem_nil, or_false] at hq
    rcases hq with rfl | rfl | rfl | rfl | rfl
    · simp only [depF, Nat.reduceEqDiff, if_true, if_false, reduceIte] at hK
      simp only [Array.getD_eq_getD_getElem?, List.getElem?_toArray, List.getElem?_cons_succ, List.getElem?_cons_zero, Option.getD_some]
      clear hps hds
      refine wp_enterQ (run_call 16 [.const (.string ⟨#[97]⟩), .const (.string ⟨#[120]⟩)] _ rfl _ Try.func16 rfl (by kernel_rfl) [.string ⟨#[97]⟩, .string ⟨#[120]⟩] rfl _) (lawOf_any ⟨#[97]⟩ ⟨#[120]⟩ (by decide) _) ?_
      rintro e wg ⟨cs, rfl, hec, hmg⟩
      exact ⟨_, rfl, hK _ _ hmg ⟨cs, rfl, hec⟩⟩
    · simp only [depF, Nat.reduceEqDiff, if_true, if_false, reduceIte] at hK
      simp only [Array.getD_eq_getD_getElem?, List.getElem?_toArray, List.getElem?_cons_succ, List.getElem?_cons_zero, Option.getD_some]
      obtain ⟨v46, hv46⟩ := hds 46 (by simp)
      have hf46 := hps (46, v46) hv46
      simp only [depF, Nat.reduceEqDiff, if_true, if_false, reduceIte] at hf46
      clear hps hds
      obtain ⟨cs, rfl, hec⟩ := hf46
      refine wp_buildSlice1 22 35 _ (.agg cs) (.agg #[.string ⟨#[]⟩, .slice none 0 0]) 2 (by rfl) (puts_get hv46 hnd (of_decide_eq_true (by rfl))) Try.underlying22 entry_i2 (by omega) (by omega) hec.size (fun wg hBg hmg hsg => ?_)
      exact hK _ _ hmg (es_one hBg (hec.keep hmg (fun _ _ => id)))
    · simp only [depF, Nat.reduceEqDiff, if_true, if_false, reduceIte] at hK
      simp only [Array.getD_eq_getD_getElem?, List.getElem?_toArray, List.getElem?_cons_succ, List.getElem?_cons_zero, Option.getD_some]
      clear hps hds
      refine wp_enterQ (run_call 16 [.const (.string ⟨#[97]⟩), .const (.string ⟨#[121]⟩)] _ rfl _ Try.func16 rfl (by kernel_rfl) [.string ⟨#[97]⟩, .string ⟨#[121]⟩] rfl _) (lawOf_any ⟨#[97]⟩ ⟨#[121]⟩ (by decide) _) ?_
      rintro e wg ⟨cs, rfl, hec, hmg⟩
      exact ⟨_, rfl, hK _ _ hmg ⟨cs, rfl, hec⟩⟩
    · simp only [depF, Nat.reduceEqDiff, if_true, if_false, reduceIte] at hK
      simp only [Array.getD_eq_getD_getElem?, List.getElem?_toArray, List.getElem?_cons_succ, List.getElem?_cons_zero, Option.getD_some]
      obtain ⟨v48, hv48⟩ := hds 48 (by simp)
      have hf48 := hps (48, v48) hv48
      simp only [depF, Nat.reduceEqDiff, if_true, if_false, reduceIte] at hf48
      clear hps hds
      obtain ⟨cs, rfl, hec⟩ := hf48
      refine wp_buildSlice1 22 35 _ (.agg cs) (.agg #[.string ⟨#[]⟩, .slice none 0 0]) 2 (by rfl) (puts_get hv48 hnd (of_decide_eq_true (by rfl))) Try.underlying22 entry_i2 (by omega) (by omega) hec.size (fun wg hBg hmg hsg => ?_)
      exact hK _ _ hmg (es_one hBg (hec.keep hmg (fun _ _ => id)))
    · simp only [depF, Nat.reduceEqDiff, if_true, if_false, reduceIte] at hK
      simp only [Array.getD_eq_getD_getElem?, List.getElem?_toArray, List.getElem?_cons_succ, List.getElem?_cons_zero, Option.getD_some]
      clear hps hds
      refine wp_buildSlice1 26 9 _ (.string sA) (.string ⟨#[]⟩) 1 (by rfl) (by rfl) Try.underlying26 str_i2 (by omega) (by omega) rfl (fun wg hBg hmg hsg => ?_)
      exact hK _ _ hmg (txt_one hBg)
  case hend =>
    intro vals wz hvl hGM hJ
    obtain ⟨v46, vals1, rfl, hvl1⟩ := vals_cons hvl
    obtain ⟨v47, vals2, rfl, hvl2⟩ := vals_cons hvl1
    obtain ⟨v48, vals3, rfl, hvl3⟩ := vals_cons hvl2
    obtain ⟨v49, vals4, rfl, hvl4⟩ := vals_cons hvl3
    obtain ⟨v50, vals5, rfl, hvl5⟩ := vals_cons hvl4
    obtain rfl := List.eq_nil_of_length_eq_zero hvl5
    simp only [List.map_cons, List.map_nil, List.zip_cons_cons, List.zip_nil_left] at hJ ⊢
    have h46 := hJ (46, v46) (by simp)
    simp only [depF, Nat.reduceEqDiff, if_true, if_false, reduceIte] at h46
    have h47 := hJ (47, v47) (by simp)
    simp only [depF, Nat.reduceEqDiff, if_true, if_false, reduceIte] at h47
    have h48 := hJ (48, v48) (by simp)
    simp only [depF, Nat.reduceEqDiff, if_true, if_false, reduceIte] at h48
    have h49 := hJ (49, v49) (by simp)
    simp only [depF, Nat.reduceEqDiff, if_true, if_false, reduceIte] at h49
    have h50 := hJ (50, v50) (by simp)
    simp only [depF, Nat.reduceEqDiff, if_true, if_false, reduceIte] at h50
    clear hJ hvl hvl1 hvl2 hvl3 hvl4 hvl5
    simp only [puts]
    try simp only [pl, pn, el, ec, sz, ss, gz, gs, if_true, if_false, Bool.false_eq_true, Bool.not_true, Bool.not_false, Nat.add_zero, Nat.zero_add, Nat.reduceAdd]
    refine wpPlan_one rfl (fun K hK => ?_)
    simp only [Array.getD_eq_getD_getElem?, List.getElem?_toArray, List.getElem?_cons_succ, List.getElem?_cons_zero, Option.getD_some]
    refine wp_enterQ (run_call 19 [.tmp 47, .tmp 49, .const (.int .i64 1), .tmp 50] _ rfl _ Try.func19 rfl (by kernel_rfl) [v47, v49, .int .i64 1, v50] rfl _) (differs_any h47 h49 h50 (short_one (by decide) (by decide)) (short_one (by decide) (by decide)) (by simp) (by simp) 1) ?_
    rintro e wh ⟨rfl, hmh⟩
    rw [HDF.out]
    have hSh := (hSf.trans0 hGM).trans0 hmh
    refine ⟨_, rfl, hK _ _ hSh ?_⟩
    clear hK K
    try simp only [pl, pn, el, ec, sz, ss, gz, gs, if_true, if_false, Bool.false_eq_true, Bool.not_true, Bool.not_false, Nat.add_zero, Nat.zero_add, Nat.reduceAdd]
    refine wpPlan_seg ?_
    simp only [List.map_cons, List.map_nil, Array.getD_eq_getD_getElem?, List.getElem?_toArray, List.getElem?_cons_succ, List.getElem?_cons_zero, Option.getD_some]
    refine wpPi_pick _ _ _ _ rfl rfl rfl ?_
    simp only [pl, pn, el, ec, sz, ss, gz, gs, if_true, if_false, Bool.false_eq_true, Bool.not_true, Bool.not_false, Nat.add_zero, Nat.zero_add, Nat.reduceAdd]
    refine wpPi_assign _ rfl rfl ?_
    simp only [pl, pn, el, ec, sz, ss, gz, gs, if_true, if_false, Bool.false_eq_true, Bool.not_true, Bool.not_false, Nat.add_zero, Nat.zero_add, Nat.reduceAdd]
    refine wpPi_nil ?_
    refine planQ_normal ?_
    refine wpPlan_fin ?_
    have hMr := hMw.trans0 hSh
    clear hSh hSf hSe hSd hSc hSb hSa hS
    go_wp2
    go_ret
    exact ⟨rfl, hMr⟩
end Go.Proofs.Ytchkikmmcmjcgaa

/- A path's sides in memory; what the deferred closure appends. -/
namespace Go.Proofs.Ytchkikmmcmjcgaa
set_option linter.unusedSimpArgs false
set_option linter.unusedVariables false
set_option linter.unnecessarySimpa false
set_option linter.unusedSectionVars false
open Go.RowKit Go.Shelf


abbrev SideL := Bool × List UInt8
def fit32 (x : List UInt8) : List UInt8 := (x ++ List.replicate 32 0).take 32
theorem fit32_len (x : List UInt8) : (fit32 x).length = 32 := by simp [fit32]
theorem fit32_eq {x : List UInt8} (h : x.length = 32) : fit32 x = x := by unfold fit32; rw [List.take_append_of_le_length (by omega), List.take_of_length_le (by omega)]
def sideEnc (s : SideL) : List Value := Value.bool s.1 :: (fit32 s.2).map byteV
theorem sideEnc_len (s : SideL) : (sideEnc s).length = 33 := by simp [sideEnc, fit32_len]
theorem sideEnc_one (s : SideL) : ∀ c ∈ sideEnc s, c.oneCell' = true := by
  intro c hc
  simp only [sideEnc, List.mem_cons, List.mem_map] at hc
  rcases hc with rfl | ⟨b, _, rfl⟩ <;> rfl
def sideCells (s : SideL) : Array Value := (sideEnc s).toArray
theorem sideCells_size (s : SideL) : (sideCells s).size = 33 := by simp [sideCells, sideEnc_len]
theorem sideCells_one (s : SideL) : ∀ c ∈ sideCells s, c.oneCell' = true := fun c hc => sideEnc_one s c (by simpa [sideCells] using hc)
theorem sideZ : (Try.prog.info? 84).bind (·.zero) = some (.agg (sideCells (false, zeroID))) := by kernel_rfl
theorem side_i : (Try.prog.info? 84).map (fun i => (i.zero, i.size, i.bytes)) = some (some (.agg (sideCells (false, zeroID))), 33, 33) := by kernel_rfl
theorem side_i2 : (Try.prog.info? 84).map (fun i => (i.zero, i.size)) = some (some (.agg (sideCells (false, zeroID))), 33) := by kernel_rfl
theorem sidePlaces : placesOf Try.prog 84 = some [(0, 1), (1, 32)] := by kernel_rfl
theorem put_side {b : Bool} {y x : List UInt8} (hx : x.length = 32) : putRow (sideCells (b, y)) 1 (idCells x) = sideCells (b, x) := by
  have h1 := fit32_len y
  simp only [putRow, sideCells, sideEnc, idCells, List.size_toArray, List.length_map, hx]
  congr 1
  have h2 : (Value.bool b :: (fit32 y).map byteV).drop (1 + 32) = [] := by apply List.drop_of_length_le; simp [h1]
  rw [h2, List.append_nil, fit32_eq hx]
  rfl
theorem built_side0 (x : List UInt8) (hx : x.length = 32) : Try.prog.built 84 [(1, .agg (idCells x))] = some (sideCells (false, x)) := by
  rw [built_struct sideZ sidePlaces, fill_cons (off := 1) (size := 32) rfl (by simp [Value.cells, idCells_size, hx]) (by rw [sideCells_size]; omega), fill_nil]
  show some (putRow _ _ (idCells x)) = _
  rw [put_side hx]
theorem built_side1 (x : List UInt8) (hx : x.length = 32) : Try.prog.built 84 [(0, .bool true), (1, .agg (idCells x))] = some (sideCells (true, x)) := by
  have e : putRow (sideCells (false, zeroID)) 0 (Value.bool true).cells = sideCells (true, zeroID) := by kernel_rfl
  rw [built_struct sideZ sidePlaces, fill_cons (off := 0) (size := 1) rfl rfl (by rw [sideCells_size]; omega), e, fill_cons (off := 1) (size := 32) rfl (by simp [Value.cells, idCells_size, hx]) (by rw [sideCells_size]; omega), fill_nil]
  show some (putRow _ _ (idCells x)) = _
  rw [put_side hx]
theorem wp_gatB {α : Type} {P : Program} {o : Oper} {a : Act} {w : World} {K : Act → World → Prop} {Q : Exit → Act → World → Prop} (enc : α → List Value) (s x : Operand) (t e : TypeId) (z : Value) (k bytes : Nat) (ho : o.op = .call { callee := .builtin .append, args := #[s, x], argTypes := #[t, t] })
    (ht : P.underlying t = some (.slice e)) (hi : (P.info? e).map (fun i => (i.zero, i.size, i.bytes)) = some (some z, k, bytes)) (hzs : z.cells.size = k) (hk0 : 0 < k) (h1 : ∀ x, ∀ c ∈ enc x, c.oneCell' = true)
    (base : Nat) (v : Value) (l : List α) (hs : a.eval s = v) (hown : Gat enc e k base w v l) (u : Value) (m : List α) (hx : a.eval x = u) (hsrc : Src w k u m.length (m.flatMap enc)) (h63 : l.length + m.length ≤ maxLen) (hlen : (l.length + m.length) * bytes ≤ 140737488355328) (hbase : base ≤ w.heap.size)
    (h : ∀ v' w', Gat enc e k base w' v' (l ++ m) → Mod (fun q => v.ownBlock = some q) w w' → (∀ g, v'.ownBlock = some g → v.ownBlock = some g ∨ w.heap.size ≤ g) → K (a.put o.dst v') w') : o.wp P a w K Q := by
  refine wp_append s x t e z k bytes ho ht hi hzs hk0 base v l.length _ hs hown u m.length _ hx hsrc (fun c hc => ?_) h63 hlen hbase (fun v' w' ho' hg hv => ?_)
  · obtain ⟨y, _, hy⟩ := List.mem_flatMap.1 hc
    exact h1 y c hy
  · refine h v' w' ?_ ((Mod.refl _ _).grown hg (fun k e _ => e)) (fun g hg' => ?_)
    · unfold Gat
      rw [List.length_append, List.flatMap_append]
      exact ho'
    · rcases hv with hv | hv
      · exact .inl (by rw [← hv]; exact hg')
      · rw [hv] at hg'; cases hg'; exact .inr (Nat.le_refl _)
/-- What out holds behind a call that has appended some sides. -/
def OutR (w : World) (bo : Nat) (v : Value) (ps : List SideL) (w' : World) : Prop := ∃ v', w'.heap[bo]? = some (.cells #[v'] 41 (0, 0)) ∧ Gat sideEnc 84 33 0 w' v' ps ∧ (∀ g, v'.ownBlock = some g → v.ownBlock = some g ∨ w.heap.size ≤ g) ∧ Mod (fun k => k = bo ∨ v.ownBlock = some k) w w'
theorem own_ne {w : World} {v : Value} {ps : List SideL} {b : Nat} {cs : Array Value} {T : TypeId} (hg : Gat sideEnc 84 33 0 w v ps) (hb : w.heap[b]? = some (.cells cs T (0, 0))) (hT : T ≠ 84) : v.ownBlock ≠ some b := by
  intro e
  rcases hg.2 with ⟨rfl, h0⟩ | ⟨g, cap, cur, rfl, -, hg', -⟩
  · cases e
  · cases e
    rw [hg'] at hb
    cases hb
    exact hT rfl
set_option maxRecDepth 10000 in
theorem pathD_any {w : World} {bo b7 b10 : Nat} {v : Value} {ps : List SideL} (s : SideL) (hbo : w.heap[bo]? = some (.cells #[v] 41 (0, 0))) (hg : Gat sideEnc 84 33 0 w v ps) (h7 : w.heap[b7]? = some (.cells #[.pointer (some ⟨bo, 0, none⟩)] 81 (0, 0)))
    (h10 : w.heap[b10]? = some (.cells (sideCells s) 84 (0, 0))) (hne : v.ownBlock ≠ some b10) (hlen : ps.length ≤ 1000000) (u : FrameMode) :
    CallsD Try.prog 63 #[.pointer (some ⟨b7, 0, none⟩), .pointer (some ⟨b10, 0, none⟩)] u w (fun e u' w' => u' = u ∧ e = .returned (.tuple #[]) ∧ OutR w bo v (ps ++ [s]) w') := by
  have ho7 := own_ne hg h7 (by decide)
  have hoo := own_ne hg hbo (by decide)
  have h7o : b7 ≠ bo := fun e => by subst e; rw [h7] at hbo; cases hbo
  have h10o : b10 ≠ bo := fun e => by
    subst e
    have h := Option.some.inj (h10.symm.trans hbo)
    injection h with _ hT _
    exact absurd hT (by decide)
  have hc7 := CellsAt.one.1 (CellsAt.whole h7)
  have hco := CellsAt.one.1 (CellsAt.whole hbo)
  have hc10 := CellsAt.whole h10
  have hss := sideCells_size s
  have HG := Lib.hid hg
  have hlt : bo < w.heap.size := (Array.getElem?_eq_some_iff.1 hbo).1
  have hv1 : v.oneCell' = true := owns_one hg
  obtain ⟨C, hC⟩ : ∃ C, sideCells s = C := ⟨_, rfl⟩
  have HC := Lib.hid hC
  rw [hC] at hss hc10
  clear hg h7 h10 hC
  go_enter_d Try.func63, Try.ntmps63
  go_upto_region 0 with (fail)
  have hT : Mod NoB w w.drew := (Mod.refl _ _).drew
  have hS : Mod (fun k => k = bo ∨ v.ownBlock = some k) w w.drew := (Mod.refl _ _).drew
  refine wp_region_tree [(0, 0), (1, 0), (2, 3), (4, 0)] 2 [(6, 1), (7, 3), (8, 1)] [] (fun w' => Mod (fun k => k = bo ∨ v.ownBlock = some k) w w') #[true, true, true, false, true, false, false, false, false] (by kernel_rfl) (by kernel_rfl) (by kernel_rfl) (by kernel_rfl) (by kernel_rfl) (fun _ _ _ _ hd h => ⟨hd.trans h.1, h.2⟩) hS ?_
  simp only [List.map_cons, List.map_nil, List.getD_cons_zero, List.getD_cons_succ]
  refine wpPi_val rfl (fun w' hS => exec_load1 81 _ (by rfl) b7 0 (by rfl) _ (hS.cell (fun h => h.elim h7o ho7) hc7) _ Try.underlying81 rfl) ?_
  simp only [pl, pn, el, ec, sz, ss, gz, gs, if_true, if_false, Bool.false_eq_true, Bool.not_true, Bool.not_false, Nat.add_zero, Nat.zero_add, Nat.reduceAdd]
  refine wpPi_val rfl (fun w' hS => exec_load1 81 _ (by rfl) b7 0 (by rfl) _ (hS.cell (fun h => h.elim h7o ho7) hc7) _ Try.underlying81 rfl) ?_
  simp only [pl, pn, el, ec, sz, ss, gz, gs, if_true, if_false, Bool.false_eq_true, Bool.not_true, Bool.not_false, Nat.add_zero, Nat.zero_add, Nat.reduceAdd]
  refine wpPi_nilCheck _ _ rfl rfl rfl ?_
  simp only [pl, pn, el, ec, sz, ss, gz, gs, if_true, if_false, Bool.false_eq_true, Bool.not_true, Bool.not_false, Nat.add_zero, Nat.zero_add, Nat.reduceAdd]
  refine wpPi_val rfl (fun w' hS => exec_loadA 84 _ (by rfl) b10 0 (by rfl) C (hc10.keep hS (fun h => h.elim h10o hne)) _ Try.underlying84 rfl 33 (by kernel_rfl) hss) ?_
  simp only [pl, pn, el, ec, sz, ss, gz, gs, if_true, if_false, Bool.false_eq_true, Bool.not_true, Bool.not_false, Nat.add_zero, Nat.zero_add, Nat.reduceAdd]
  refine wpPi_nil ?_
  refine wpTree_part [3, 5] (by kernel_rfl) ?_
  simp only [List.forall_mem_cons, List.not_mem_nil, false_implies, implies_true, and_true]
  refine ⟨?_, ?_⟩
  · intro K hK
    simp only [List.getElem?_toArray, Array.getD_eq_getD_getElem?, List.getElem?_cons_succ, List.getElem?_cons_zero, Option.getD_some]
    refine wp_exec (exec_load1 41 _ (by rfl) bo 0 (by rfl) v (hT.cell id hco) _ Try.underlying41 rfl) ?_
    refine hK _ _ (hT.mono fun _ _ h => h.elim) ?_
    clear hK K
    try simp only [pl, pn, el, ec, sz, ss, gz, gs, if_true, if_false, Bool.false_eq_true, Bool.not_true, Bool.not_false, Nat.add_zero, Nat.zero_add, Nat.reduceAdd]
    refine wpTree_part [5] (by kernel_rfl) ?_
    simp only [List.forall_mem_cons, List.not_mem_nil, false_implies, implies_true, and_true]
    intro K hK
    simp only [List.getElem?_toArray, Array.getD_eq_getD_getElem?, List.getElem?_cons_succ, List.getElem?_cons_zero, Option.getD_some]
    refine wp_buildSlice1 41 84 _ (.agg C) (.agg (sideCells (false, zeroID))) 33 (by rfl) (by rfl) Try.underlying41 side_i2 (by omega) (by omega) hss (fun w7 hB7 hm7 hs7 => ?_)
    replace hB7 : w7.heap[w.heap.size]? = some (.cells (sideEnc s).toArray 84 (0, 0)) := by rw [← HC.out] at hB7; exact hB7
    replace hT := hT.trans0 hm7
    refine hK _ _ (hT.mono fun _ _ h => h.elim) ?_
    clear hK K
    try simp only [pl, pn, el, ec, sz, ss, gz, gs, if_true, if_false, Bool.false_eq_true, Bool.not_true, Bool.not_false, Nat.add_zero, Nat.zero_add, Nat.reduceAdd]
    refine wpTree_done ?_
    try simp only [List.map_cons, List.map_nil, List.getD_cons_zero, List.getD_cons_succ]
    try simp only [pl, pn, el, ec, sz, ss, gz, gs, if_true, if_false, Bool.false_eq_true, Bool.not_true, Bool.not_false, Nat.add_zero, Nat.zero_add, Nat.reduceAdd]
    refine wpPi_do rfl (fun K hK => ?_)
    refine wp_gatB sideEnc _ _ 41 84 (.agg (sideCells (false, zeroID))) 33 33 (by rfl) Try.underlying41 side_i (by kernel_rfl) (by omega) sideEnc_one 0 _ _ (by rfl) (HG.out.keep0 hT) (.slice (some ⟨w.heap.size, 0, none⟩) 1 1) [s] (by rfl) (src_lit (enc := sideEnc) (x := s) (e := 84) sideEnc_len hB7) (by simp only [List.length_singleton]; unfold maxLen; omega) (by simp only [List.length_singleton]; omega) (Nat.zero_le _) (fun v8 w8 hg8 hm8 hn8 => ?_)
    have hM8 : Mod (fun k => v.ownBlock = some k) w w8 := (hT.mono (fun _ _ h => h.elim)).trans hm8 (fun _ _ h => h)
    have hv8 : v8.oneCell' = true := owns_one hg8
    have hbo8 := hM8.obj hoo hbo
    have hsz7 := hT.size
    refine hK _ _ (hM8.mono fun _ _ h => .inr h) ?_
    clear hK K
    try simp only [pl, pn, el, ec, sz, ss, gz, gs, if_true, if_false, Bool.false_eq_true, Bool.not_true, Bool.not_false, Nat.add_zero, Nat.zero_add, Nat.reduceAdd]
    refine wpPi_nilCheck _ _ rfl rfl rfl ?_
    simp only [pl, pn, el, ec, sz, ss, gz, gs, if_true, if_false, Bool.false_eq_true, Bool.not_true, Bool.not_false, Nat.add_zero, Nat.zero_add, Nat.reduceAdd]
    refine wpPi_do rfl (fun K hK => ?_)
    refine wp_store1 41 _ _ bo 0 v8 (by rfl) (by rfl) (by rfl) hv8 (by kernel_rfl) _ _ hbo8 (by simp) (fun w9 hB9 hm9 => ?_)
    replace hB9 : w9.heap[bo]? = some (.cells #[v8] 41 (0, 0)) := hB9
    have hM9 : Mod (fun k => k = bo ∨ v.ownBlock = some k) w w9 := (hM8.mono fun _ _ h => .inr h).trans hm9 (fun _ _ h => .inl h)
    refine hK _ _ hM9 ?_
    clear hK K
    try simp only [pl, pn, el, ec, sz, ss, gz, gs, if_true, if_false, Bool.false_eq_true, Bool.not_true, Bool.not_false, Nat.add_zero, Nat.zero_add, Nat.reduceAdd]
    refine wpPi_nil ?_
    have hg9 := hg8.keep hm9 (fun q hq e => by
      subst e
      rcases hn8 _ hq with h | h
      · exact hoo h
      · have h' : w.heap.size ≤ _ := Nat.le_trans hsz7 h
        omega)
    go_end0
    exact ⟨rfl, v8, hB9, hg9, fun g hg => (hn8 g hg).imp id fun h => by have := hsz7; omega, hM9⟩
  · intro K hK
    simp only [List.getElem?_toArray, Array.getD_eq_getD_getElem?, List.getElem?_cons_succ, List.getElem?_cons_zero, Option.getD_some]
    refine wp_buildSlice1 41 84 _ (.agg C) (.agg (sideCells (false, zeroID))) 33 (by rfl) (by rfl) Try.underlying41 side_i2 (by omega) (by omega) hss (fun w7 hB7 hm7 hs7 => ?_)
    replace hB7 : w7.heap[w.heap.size]? = some (.cells (sideEnc s).toArray 84 (0, 0)) := by rw [← HC.out] at hB7; exact hB7
    replace hT := hT.trans0 hm7
    refine hK _ _ (hT.mono fun _ _ h => h.elim) ?_
    clear hK K
    try simp only [pl, pn, el, ec, sz, ss, gz, gs, if_true, if_false, Bool.false_eq_true, Bool.not_true, Bool.not_false, Nat.add_zero, Nat.zero_add, Nat.reduceAdd]
    refine wpTree_part [3] (by kernel_rfl) ?_
    simp only [List.forall_mem_cons, List.not_mem_nil, false_implies, implies_true, and_true]
    intro K hK
    simp only [List.getElem?_toArray, Array.getD_eq_getD_getElem?, List.getElem?_cons_succ, List.getElem?_cons_zero, Option.getD_some]
    refine wp_exec (exec_load1 41 _ (by rfl) bo 0 (by rfl) v (hT.cell id hco) _ Try.underlying41 rfl) ?_
    refine hK _ _ (hT.mono fun _ _ h => h.elim) ?_
    clear hK K
    try simp only [pl, pn, el, ec, sz, ss, gz, gs, if_true, if_false, Bool.false_eq_true, Bool.not_true, Bool.not_false, Nat.add_zero, Nat.zero_add, Nat.reduceAdd]
    refine wpTree_done ?_
    try simp only [List.map_cons, List.map_nil, List.getD_cons_zero, List.getD_cons_succ]
    try simp only [pl, pn, el, ec, sz, ss, gz, gs, if_true, if_false, Bool.false_eq_true, Bool.not_true, Bool.not_false, Nat.add_zero, Nat.zero_add, Nat.reduceAdd]
    refine wpPi_do rfl (fun K hK => ?_)
    refine wp_gatB sideEnc _ _ 41 84 (.agg (sideCells (false, zeroID))) 33 33 (by rfl) Try.underlying41 side_i (by kernel_rfl) (by omega) sideEnc_one 0 _ _ (by rfl) (HG.out.keep0 hT) (.slice (some ⟨w.heap.size, 0, none⟩) 1 1) [s] (by rfl) (src_lit (enc := sideEnc) (x := s) (e := 84) sideEnc_len hB7) (by simp only [List.length_singleton]; unfold maxLen; omega) (by simp only [List.length_singleton]; omega) (Nat.zero_le _) (fun v8 w8 hg8 hm8 hn8 => ?_)
    have hM8 : Mod (fun k => v.ownBlock = some k) w w8 := (hT.mono (fun _ _ h => h.elim)).trans hm8 (fun _ _ h => h)
    have hv8 : v8.oneCell' = true := owns_one hg8
    have hbo8 := hM8.obj hoo hbo
    have hsz7 := hT.size
    refine hK _ _ (hM8.mono fun _ _ h => .inr h) ?_
    clear hK K
    try simp only [pl, pn, el, ec, sz, ss, gz, gs, if_true, if_false, Bool.false_eq_true, Bool.not_true, Bool.not_false, Nat.add_zero, Nat.zero_add, Nat.reduceAdd]
    refine wpPi_nilCheck _ _ rfl rfl rfl ?_
    simp only [pl, pn, el, ec, sz, ss, gz, gs, if_true, if_false, Bool.false_eq_true, Bool.not_true, Bool.not_false, Nat.add_zero, Nat.zero_add, Nat.reduceAdd]
    refine wpPi_do rfl (fun K hK => ?_)
    refine wp_store1 41 _ _ bo 0 v8 (by rfl) (by rfl) (by rfl) hv8 (by kernel_rfl) _ _ hbo8 (by simp) (fun w9 hB9 hm9 => ?_)
    replace hB9 : w9.heap[bo]? = some (.cells #[v8] 41 (0, 0)) := hB9
    have hM9 : Mod (fun k => k = bo ∨ v.ownBlock = some k) w w9 := (hM8.mono fun _ _ h => .inr h).trans hm9 (fun _ _ h => .inl h)
    refine hK _ _ hM9 ?_
    clear hK K
    try simp only [pl, pn, el, ec, sz, ss, gz, gs, if_true, if_false, Bool.false_eq_true, Bool.not_true, Bool.not_false, Nat.add_zero, Nat.zero_add, Nat.reduceAdd]
    refine wpPi_nil ?_
    have hg9 := hg8.keep hm9 (fun q hq e => by
      subst e
      rcases hn8 _ hq with h | h
      · exact hoo h
      · have h' : w.heap.size ≤ _ := Nat.le_trans hsz7 h
        omega)
    go_end0
    exact ⟨rfl, v8, hB9, hg9, fun g hg => (hn8 g hg).imp id fun h => by have := hsz7; omega, hM9⟩
end Go.Proofs.Ytchkikmmcmjcgaa

/- (tree.leaves).path: the sides of a way, from the leaf up. -/
namespace Go.Proofs.Ytchkikmmcmjcgaa
set_option linter.unusedSimpArgs false
set_option linter.unusedVariables false
set_option linter.unnecessarySimpa false
set_option linter.unusedSectionVars false
open Go.RowKit Go.Shelf


theorem out_keep {w w1 w' : World} {bo : Nat} {v : Value} {ps qs : List SideL} (hg : Gat sideEnc 84 33 0 w v ps) (hm : Mod NoB w w1) (h : OutR w1 bo v qs w') : OutR w bo v qs w' := by
  obtain ⟨v', h1, h2, h3, h4⟩ := h
  have hs := hm.size
  exact ⟨v', h1, h2, fun g hg => (h3 g hg).imp id fun h => Nat.le_trans hs h, (hm.mono fun _ _ h => h.elim).trans h4 (fun _ _ h => h)⟩
set_option maxRecDepth 10000 in
theorem path_none {w : World} {G : Nat → Prop} {vl v : Value} {l : List Leaf} {ps : List SideL} (hl : Ls w G vl l) (way : List UInt8) (i bo : Nat) (h2 : l.length < 2) (hbo : w.heap[bo]? = some (.cells #[v] 41 (0, 0))) (hg : Gat sideEnc 84 33 0 w v ps) :
    Calls Try.prog 42 #[vl, .agg (idCells way), .int .i64 (i : Int), .pointer (some ⟨bo, 0, none⟩)] w (fun e w' => e = .returned (.tuple #[]) ∧ OutR w bo v ps w') := by
  obtain ⟨ad, cap, rfl, -, -⟩ := Sl.at hl
  have hz : (l.length : Int) < 2 := by omega
  obtain ⟨C, hC⟩ : ∃ C, idCells way = C := ⟨_, rfl⟩
  rw [hC]
  clear hl hC
  go_enter_defers Try.func42, Try.ntmps42
  go_upto_region 0 with (fail)
  refine wp_region_seq [1, 1] (fun _ => True) (by rfl) (by rfl) trivial ?_
  simp only [List.zip_cons_cons, List.zip_nil_right]
  refine wpPi_do rfl (fun K hK => ?_)
  refine wp_box 38 _ _ (by rfl) (by rfl) (fun w1 hB1 hm1 hs1 => ?_)
  refine hK _ _ trivial ?_
  clear hK K
  try simp only [pl, pn, el, ec, sz, ss, gz, gs, if_true, if_false, Bool.false_eq_true, Bool.not_true, Bool.not_false, Nat.add_zero, Nat.zero_add, Nat.reduceAdd]
  refine wpPi_do rfl (fun K hK => ?_)
  refine wp_box 81 _ _ (by rfl) (by rfl) (fun w2 hB2 hm2 hs2 => ?_)
  refine hK _ _ trivial ?_
  clear hK K
  try simp only [pl, pn, el, ec, sz, ss, gz, gs, if_true, if_false, Bool.false_eq_true, Bool.not_true, Bool.not_false, Nat.add_zero, Nat.zero_add, Nat.reduceAdd]
  refine wpPi_nil ?_
  have hM := hm1.trans0 hm2
  clear hB1 hB2
  go_wp2
  exact ⟨_, results_none rfl _ _ _, rfl, out_keep hg hM ⟨v, hM.obj id hbo, hg.keep0 hM, fun g h => .inl h, Mod.refl _ _⟩⟩
set_option maxRecDepth 10000 in
set_option maxHeartbeats 2000000 in
theorem path_two (f i : Nat) (hi : f + 1 + i = 256) {w : World} {G : Nat → Prop} {vl v : Value} {l : List Leaf} {ps : List SideL} (hl : Ls w G vl l) (hp : Placed i l) (hlen : l.length ≤ 65536) (way : List UInt8) (hway : way.length = 32) (bo : Nat) (h2 : 2 ≤ l.length) (hbo : w.heap[bo]? = some (.cells #[v] 41 (0, 0))) (hg : Gat sideEnc 84 33 0 w v ps) (hps : ps.length + (f + 1) ≤ 1000000)
    (ih : ∀ (l' : List Leaf) (vl : Value) (w : World), Ls w (fun _ => True) vl l' → Placed (i + 1) l' → l'.length ≤ 65536 → w.heap[bo]? = some (.cells #[v] 41 (0, 0)) → Gat sideEnc 84 33 0 w v ps →
      Calls Try.prog 42 #[vl, .agg (idCells way), .int .i64 ((i + 1 : Nat) : Int), .pointer (some ⟨bo, 0, none⟩)] w (fun e w' => e = .returned (.tuple #[]) ∧ OutR w bo v (ps ++ pathL way f (i + 1) l') w')) :
    Calls Try.prog 42 #[vl, .agg (idCells way), .int .i64 (i : Int), .pointer (some ⟨bo, 0, none⟩)] w (fun e w' => e = .returned (.tuple #[]) ∧ OutR w bo v (ps ++ pathL way (f + 1) i l) w') := by
  rw [path_more h2]
  have HL := Lib.hid hl.bound
  have IH := Lib.hid ih
  have HP := Lib.hid hp
  have HG := Lib.hid hg
  have HBO := Lib.hid hbo
  obtain ⟨ad, cap, rfl, -, -⟩ := Sl.at hl
  have hz : ¬ (l.length : Int) < 2 := by omega
  have hsl := side_len i l
  have hpa := hp.side false
  have hpb := hp.side true
  have hda : (dig f (i + 1) (sideL false i l)).length = 32 := dig_len (by omega) hpa.lie
  have hdb : (dig f (i + 1) (sideL true i l)).length = 32 := dig_len (by omega) hpb.lie
  have hpl := path_len way f (i + 1) (sideL (bitAt way i) i l)
  have hmf : ∀ (fn : Fn) (first cap : Array Value) (w : World), (Instr.makeFunc fn first cap).run Try.prog w = .ok (.func fn first cap) w := fun _ _ _ _ => rfl
  have hsz32 : (idCells way).size = 32 := by rw [idCells_size, hway]
  obtain ⟨C, hC⟩ : ∃ C, idCells way = C := ⟨_, rfl⟩
  have HC := Lib.hid hC
  rw [hC] at hsz32 ⊢
  clear hl ih hp hg hbo hC
  go_enter_defers Try.func42, Try.ntmps42
  go_upto_region 0 with (fail)
  refine wp_region_seq [1, 1] (fun _ => True) (by rfl) (by rfl) trivial ?_
  simp only [List.zip_cons_cons, List.zip_nil_right]
  refine wpPi_do rfl (fun K hK => ?_)
  refine wp_box 38 _ _ (by rfl) (by rfl) (fun w1 hB1 hm1 hs1 => ?_)
  replace hB1 : w1.heap[w.heap.size]? = some (.cells C 38 (0, 0)) := hB1
  refine hK _ _ trivial ?_
  clear hK K
  try simp only [pl, pn, el, ec, sz, ss, gz, gs, if_true, if_false, Bool.false_eq_true, Bool.not_true, Bool.not_false, Nat.add_zero, Nat.zero_add, Nat.reduceAdd]
  refine wpPi_do rfl (fun K hK => ?_)
  refine wp_box 81 _ _ (by rfl) (by rfl) (fun w2 hB2 hm2 hs2 => ?_)
  replace hB2 : w2.heap[w1.heap.size]? = some (.cells #[.pointer (some ⟨bo, 0, none⟩)] 81 (0, 0)) := hB2
  replace hB1 := hm2.obj id hB1
  refine hK _ _ trivial ?_
  clear hK K
  try simp only [pl, pn, el, ec, sz, ss, gz, gs, if_true, if_false, Bool.false_eq_true, Bool.not_true, Bool.not_false, Nat.add_zero, Nat.zero_add, Nat.reduceAdd]
  refine wpPi_nil ?_
  have hM2 := hm1.trans0 hm2
  have hb5 : w.heap.size < w2.heap.size := by omega
  have hb7 : w1.heap.size < w2.heap.size := hs2
  have hb7' : w.heap.size ≤ w1.heap.size := by omega
  generalize hb5e : w.heap.size = b5 at *
  generalize w1.heap.size = b7 at *
  clear hm1 hm2
  go_upto_region 2 with (fail)
  refine wp_region_seq [3, 3, 1, 3, 3, 3, 3, 3] (fun _ => True) (by rfl) (by rfl) trivial ?_
  simp only [List.zip_cons_cons, List.zip_nil_right]
  refine wpPi_move _ rfl rfl ?_
  simp only [pl, pn, el, ec, sz, ss, gz, gs, if_true, if_false, Bool.false_eq_true, Bool.not_true, Bool.not_false, Nat.add_zero, Nat.zero_add, Nat.reduceAdd]
  refine wpPi_move _ rfl rfl ?_
  simp only [pl, pn, el, ec, sz, ss, gz, gs, if_true, if_false, Bool.false_eq_true, Bool.not_true, Bool.not_false, Nat.add_zero, Nat.zero_add, Nat.reduceAdd]
  refine wpPi_do rfl (fun K hK => ?_)
  refine wp_enterQ (run_call 54 [.tmp 16, .tmp 17] _ rfl _ Try.func54 rfl (by kernel_rfl) [.slice ad l.length cap, .int .i64 (i : Int)] rfl _) (cut_any (HL.out.keep0 hM2) i (by omega) HP.out (by omega)) ?_
  rintro e w3 ⟨v1, v2, rfl, hc1, hc2, hm3⟩
  replace hB1 := hm3.obj id hB1
  replace hB2 := hm3.obj id hB2
  have hM3 := hM2.trans0 hm3
  have hs3 := hm3.size
  refine ⟨_, rfl, hK _ _ trivial ?_⟩
  clear hK K hm3
  try simp only [pl, pn, el, ec, sz, ss, gz, gs, if_true, if_false, Bool.false_eq_true, Bool.not_true, Bool.not_false, Nat.add_zero, Nat.zero_add, Nat.reduceAdd]
  refine wpPi_move _ rfl rfl ?_
  simp only [pl, pn, el, ec, sz, ss, gz, gs, if_true, if_false, Bool.false_eq_true, Bool.not_true, Bool.not_false, Nat.add_zero, Nat.zero_add, Nat.reduceAdd]
  refine wpPi_any (v := ?_) rfl (fun w' => ?_) ?_; rotate_left; · (go_simp; try with_reducible rfl)
  simp only [pl, pn, el, ec, sz, ss, gz, gs, if_true, if_false, Bool.false_eq_true, Bool.not_true, Bool.not_false, Nat.add_zero, Nat.zero_add, Nat.reduceAdd]
  refine wpPi_any (v := ?_) rfl (fun w' => ?_) ?_; rotate_left; · (go_simp; try with_reducible rfl)
  simp only [pl, pn, el, ec, sz, ss, gz, gs, if_true, if_false, Bool.false_eq_true, Bool.not_true, Bool.not_false, Nat.add_zero, Nat.zero_add, Nat.reduceAdd]
  refine wpPi_assign _ rfl rfl ?_
  simp only [pl, pn, el, ec, sz, ss, gz, gs, if_true, if_false, Bool.false_eq_true, Bool.not_true, Bool.not_false, Nat.add_zero, Nat.zero_add, Nat.reduceAdd]
  refine wpPi_assign _ rfl rfl ?_
  simp only [pl, pn, el, ec, sz, ss, gz, gs, if_true, if_false, Bool.false_eq_true, Bool.not_true, Bool.not_false, Nat.add_zero, Nat.zero_add, Nat.reduceAdd]
  refine wpPi_nil ?_
  have hbs := built_side0 (dig f (i + 1) (sideL true i l)) hdb
  have hss := sideCells_size (false, dig f (i + 1) (sideL true i l))
  go_upto_region 3 with (fail)
  refine wp_region_seq [3, 3, 3, 1, 0, 3, 1, 1, 3] (fun _ => True) (by rfl) (by rfl) trivial ?_
  simp only [List.zip_cons_cons, List.zip_nil_right]
  refine wpPi_move _ rfl rfl ?_
  simp only [pl, pn, el, ec, sz, ss, gz, gs, if_true, if_false, Bool.false_eq_true, Bool.not_true, Bool.not_false, Nat.add_zero, Nat.zero_add, Nat.reduceAdd]
  refine wpPi_move _ rfl rfl ?_
  simp only [pl, pn, el, ec, sz, ss, gz, gs, if_true, if_false, Bool.false_eq_true, Bool.not_true, Bool.not_false, Nat.add_zero, Nat.zero_add, Nat.reduceAdd]
  refine wpPi_addR _ _ _ _ (i : Int) 1 ((i + 1 : Nat) : Int) rfl rfl rfl rfl (by omega) (by omega) (by omega) ?_
  simp only [pl, pn, el, ec, sz, ss, gz, gs, if_true, if_false, Bool.false_eq_true, Bool.not_true, Bool.not_false, Nat.add_zero, Nat.zero_add, Nat.reduceAdd]
  refine wpPi_do rfl (fun K hK => ?_)
  refine wp_enterQ (run_call 39 [.tmp 21, .tmp 23] _ rfl _ Try.func39 rfl (by kernel_rfl) [v2, .int .i64 ((i + 1 : Nat) : Int)] rfl _) (digest_any _ f (i + 1) _ v2 _ (by omega) hc2 hpb (by omega)) ?_
  rintro e w4 ⟨rfl, hm4⟩
  replace hB1 := hm4.obj id hB1
  replace hB2 := hm4.obj id hB2
  have hM4 := hM3.trans0 hm4
  have hs4 := hm4.size
  replace hc1 := hc1.keep0 hm4
  replace hc2 := hc2.keep0 hm4
  refine ⟨_, rfl, hK _ _ trivial ?_⟩
  clear hK K hm4
  try simp only [pl, pn, el, ec, sz, ss, gz, gs, if_true, if_false, Bool.false_eq_true, Bool.not_true, Bool.not_false, Nat.add_zero, Nat.zero_add, Nat.reduceAdd]
  refine wpPi_val rfl (fun w' hS => exec_build_of 84 [(1, _)] [(1, .agg (idCells (dig f (i + 1) (sideL true i l))))] _ (by rfl) (by rfl) hbs) ?_
  simp only [pl, pn, el, ec, sz, ss, gz, gs, if_true, if_false, Bool.false_eq_true, Bool.not_true, Bool.not_false, Nat.add_zero, Nat.zero_add, Nat.reduceAdd]
  refine wpPi_move _ rfl rfl ?_
  simp only [pl, pn, el, ec, sz, ss, gz, gs, if_true, if_false, Bool.false_eq_true, Bool.not_true, Bool.not_false, Nat.add_zero, Nat.zero_add, Nat.reduceAdd]
  refine wpPi_do rfl (fun K hK => ?_)
  refine wp_alloc 84 _ (by rfl) sideZ (fun w5 hB5 hm5 hs5 => ?_)
  replace hB5 : w5.heap[w4.heap.size]? = some (.cells (sideCells (false, zeroID)) 84 (0, 0)) := hB5
  refine hK _ _ trivial ?_
  clear hK K
  try simp only [pl, pn, el, ec, sz, ss, gz, gs, if_true, if_false, Bool.false_eq_true, Bool.not_true, Bool.not_false, Nat.add_zero, Nat.zero_add, Nat.reduceAdd]
  refine wpPi_do rfl (fun K hK => ?_)
  refine wp_storeA 84 _ _ w4.heap.size 0 (sideCells (false, dig f (i + 1) (sideL true i l))) (by rfl) (by rfl) (by rfl) (sideCells_one _) 33 (by kernel_rfl) hss _ _ hB5 (by rw [hss, sideCells_size]; exact Nat.le_refl _) (fun w6 hB6 hm6 => ?_)
  rw [putRow_whole (by rw [hss, sideCells_size])] at hB6
  refine hK _ _ trivial ?_
  clear hK K
  try simp only [pl, pn, el, ec, sz, ss, gz, gs, if_true, if_false, Bool.false_eq_true, Bool.not_true, Bool.not_false, Nat.add_zero, Nat.zero_add, Nat.reduceAdd]
  refine wpPi_assign _ rfl rfl ?_
  simp only [pl, pn, el, ec, sz, ss, gz, gs, if_true, if_false, Bool.false_eq_true, Bool.not_true, Bool.not_false, Nat.add_zero, Nat.zero_add, Nat.reduceAdd]
  refine wpPi_nil ?_
  have hm46 : Mod NoB w4 w6 := hm5.transB hm6 (Nat.le_refl _)
  have hM6 := hM4.trans0 hm46
  replace hB1 := hm46.obj id hB1
  replace hB2 := hm46.obj id hB2
  replace hc1 := hc1.keep0 hm46
  replace hc2 := hc2.keep0 hm46
  have hs6 : w4.heap.size < w6.heap.size := Nat.lt_of_lt_of_le hs5 hm6.size
  have hb10 : b7 < w4.heap.size := by omega
  generalize w4.heap.size = b10 at *
  clear hm5 hm6 hm46 hB5 hM4 hM3 hM2 hbs
  have hw5 := CellsAt.whole hB1
  have hptr := CellsAt.one.1 (CellsAt.whole hB2)
  cases hbit : bitAt way i with
  | true =>
    have HBB := Lib.hid hbit
    rw [hbit] at hpl
    go_upto_region 4 with (fail)
    refine wp_region_seq [1, 3, 1] (fun _ => True) (by rfl) (by rfl) trivial ?_
    simp only [List.zip_cons_cons, List.zip_nil_right]
    refine wpPi_do rfl (fun K hK => ?_)
    refine wp_exec (exec_loadA 38 _ (by rfl) b5 0 (by rfl) C hw5 _ Try.underlying38 rfl 32 (by kernel_rfl) hsz32) ?_
    refine hK _ _ trivial ?_
    clear hK K
    try simp only [pl, pn, el, ec, sz, ss, gz, gs, if_true, if_false, Bool.false_eq_true, Bool.not_true, Bool.not_false, Nat.add_zero, Nat.zero_add, Nat.reduceAdd]
    refine wpPi_move _ rfl rfl ?_
    simp only [pl, pn, el, ec, sz, ss, gz, gs, if_true, if_false, Bool.false_eq_true, Bool.not_true, Bool.not_false, Nat.add_zero, Nat.zero_add, Nat.reduceAdd]
    refine wpPi_do rfl (fun K hK => ?_)
    refine wp_enterQ (run_call 62 [.tmp 27, .tmp 28] _ rfl _ Try.func62 rfl (by kernel_rfl) [.agg C, .int .i64 (i : Int)] rfl _) (by rw [← HC.out]; exact right_any way hway i (by omega) _) ?_
    rintro e w7 ⟨rfl, hm7⟩
    rw [hbit]
    have hM7 := hM6.trans0 hm7
    have hs7 := hm7.size
    replace hw5 := hw5.keep hm7 id
    replace hptr := hm7.cell id hptr
    replace hB2 := hm7.obj id hB2
    replace hB6 := hm7.obj id hB6
    replace hc1 := hc1.keep0 hm7
    replace hc2 := hc2.keep0 hm7
    refine ⟨_, rfl, hK _ _ trivial ?_⟩
    clear hK K hm7
    try simp only [pl, pn, el, ec, sz, ss, gz, gs, if_true, if_false, Bool.false_eq_true, Bool.not_true, Bool.not_false, Nat.add_zero, Nat.zero_add, Nat.reduceAdd]
    refine wpPi_nil ?_
    clear hM6 hbit
    have hbs := built_side1 (dig f (i + 1) (sideL false i l)) hda
    have hss1 := sideCells_size (true, dig f (i + 1) (sideL false i l))
    go_upto_region 5 with (fail)
    refine wp_region_seq [3, 3, 3, 1, 0, 3, 1, 3] (fun _ => True) (by rfl) (by rfl) trivial ?_
    simp only [List.zip_cons_cons, List.zip_nil_right]
    refine wpPi_move _ rfl rfl ?_
    simp only [pl, pn, el, ec, sz, ss, gz, gs, if_true, if_false, Bool.false_eq_true, Bool.not_true, Bool.not_false, Nat.add_zero, Nat.zero_add, Nat.reduceAdd]
    refine wpPi_move _ rfl rfl ?_
    simp only [pl, pn, el, ec, sz, ss, gz, gs, if_true, if_false, Bool.false_eq_true, Bool.not_true, Bool.not_false, Nat.add_zero, Nat.zero_add, Nat.reduceAdd]
    refine wpPi_addR _ _ _ _ (i : Int) 1 ((i + 1 : Nat) : Int) rfl rfl rfl rfl (by omega) (by omega) (by omega) ?_
    simp only [pl, pn, el, ec, sz, ss, gz, gs, if_true, if_false, Bool.false_eq_true, Bool.not_true, Bool.not_false, Nat.add_zero, Nat.zero_add, Nat.reduceAdd]
    refine wpPi_do rfl (fun K hK => ?_)
    refine wp_enterQ (run_call 39 [.tmp 30, .tmp 32] _ rfl _ Try.func39 rfl (by kernel_rfl) [v1, .int .i64 ((i + 1 : Nat) : Int)] rfl _) (digest_any _ f (i + 1) _ v1 _ (by omega) hc1 hpa (by omega)) ?_
    rintro e w8 ⟨rfl, hm8⟩
    replace hB6 := hm8.obj id hB6
    refine ⟨_, rfl, hK _ _ trivial ?_⟩
    clear hK K
    try simp only [pl, pn, el, ec, sz, ss, gz, gs, if_true, if_false, Bool.false_eq_true, Bool.not_true, Bool.not_false, Nat.add_zero, Nat.zero_add, Nat.reduceAdd]
    refine wpPi_val rfl (fun w' hS => exec_build_of 84 [(0, _), (1, _)] [(0, .bool true), (1, .agg (idCells (dig f (i + 1) (sideL false i l))))] _ (by rfl) (by rfl) hbs) ?_
    simp only [pl, pn, el, ec, sz, ss, gz, gs, if_true, if_false, Bool.false_eq_true, Bool.not_true, Bool.not_false, Nat.add_zero, Nat.zero_add, Nat.reduceAdd]
    refine wpPi_move _ rfl rfl ?_
    simp only [pl, pn, el, ec, sz, ss, gz, gs, if_true, if_false, Bool.false_eq_true, Bool.not_true, Bool.not_false, Nat.add_zero, Nat.zero_add, Nat.reduceAdd]
    refine wpPi_do rfl (fun K hK => ?_)
    refine wp_storeA 84 _ _ b10 0 (sideCells (true, dig f (i + 1) (sideL false i l))) (by rfl) (by rfl) (by rfl) (sideCells_one _) 33 (by kernel_rfl) hss1 _ _ hB6 (by rw [hss1, sideCells_size]; exact Nat.le_refl _) (fun w9 hB9 hm9 => ?_)
    rw [putRow_whole (by rw [hss1, sideCells_size])] at hB9
    refine hK _ _ trivial ?_
    clear hK K
    try simp only [pl, pn, el, ec, sz, ss, gz, gs, if_true, if_false, Bool.false_eq_true, Bool.not_true, Bool.not_false, Nat.add_zero, Nat.zero_add, Nat.reduceAdd]
    refine wpPi_assign _ rfl rfl ?_
    simp only [pl, pn, el, ec, sz, ss, gz, gs, if_true, if_false, Bool.false_eq_true, Bool.not_true, Bool.not_false, Nat.add_zero, Nat.zero_add, Nat.reduceAdd]
    refine wpPi_nil ?_
    have hM9 : Mod NoB w w9 := (hM7.trans0 hm8).transB hm9 (by omega)
    have hs9 : w7.heap.size ≤ w9.heap.size := Nat.le_trans hm8.size hm9.size
    replace hw5 := (hw5.keep hm8 id).keep hm9 (by omega)
    replace hB2 := hm9.objB (by omega) (hm8.obj id hB2)
    replace hptr := CellsAt.one.1 (CellsAt.whole hB2)
    replace hc2 := (hc2.keep0 hm8).keepB hm9 (fun k hk => by omega)
    clear hm8 hm9 hB6 hM7 hbs
    have hbo9 := hM9.obj id HBO.out
    have hg9 := HG.out.keep0 hM9
    have hog : ∀ g, v.ownBlock = some g → g < b5 := fun g e => by have := (HG.out.lt e).2; omega
    have hboL : bo < b5 := by rw [← hb5e]; exact (Array.getElem?_eq_some_iff.1 HBO.out).1
    go_upto_region 7 with (fail)
    refine wp_region_seq [3, 1, 3, 3, 1, 1] (fun _ => True) (by rfl) (by rfl) trivial ?_
    simp only [List.zip_cons_cons, List.zip_nil_right]
    refine wpPi_move _ rfl rfl ?_
    simp only [pl, pn, el, ec, sz, ss, gz, gs, if_true, if_false, Bool.false_eq_true, Bool.not_true, Bool.not_false, Nat.add_zero, Nat.zero_add, Nat.reduceAdd]
    refine wpPi_do rfl (fun K hK => ?_)
    refine wp_exec (exec_loadA 38 _ (by rfl) b5 0 (by rfl) C hw5 _ Try.underlying38 rfl 32 (by kernel_rfl) hsz32) ?_
    refine hK _ _ trivial ?_
    clear hK K
    try simp only [pl, pn, el, ec, sz, ss, gz, gs, if_true, if_false, Bool.false_eq_true, Bool.not_true, Bool.not_false, Nat.add_zero, Nat.zero_add, Nat.reduceAdd]
    refine wpPi_move _ rfl rfl ?_
    simp only [pl, pn, el, ec, sz, ss, gz, gs, if_true, if_false, Bool.false_eq_true, Bool.not_true, Bool.not_false, Nat.add_zero, Nat.zero_add, Nat.reduceAdd]
    refine wpPi_addR _ _ _ _ (i : Int) 1 ((i + 1 : Nat) : Int) rfl rfl rfl rfl (by omega) (by omega) (by omega) ?_
    simp only [pl, pn, el, ec, sz, ss, gz, gs, if_true, if_false, Bool.false_eq_true, Bool.not_true, Bool.not_false, Nat.add_zero, Nat.zero_add, Nat.reduceAdd]
    refine wpPi_do rfl (fun K hK => ?_)
    refine wp_exec (exec_load1 81 _ (by rfl) b7 0 (by rfl) _ hptr _ Try.underlying81 rfl) ?_
    refine hK _ _ trivial ?_
    clear hK K
    try simp only [pl, pn, el, ec, sz, ss, gz, gs, if_true, if_false, Bool.false_eq_true, Bool.not_true, Bool.not_false, Nat.add_zero, Nat.zero_add, Nat.reduceAdd]
    refine wpPi_do rfl (fun K hK => ?_)
    refine wp_enterQ (run_call 42 [.tmp 37, .tmp 38, .tmp 40, .tmp 41] _ rfl _ Try.func42 rfl (by kernel_rfl) [v2, .agg C, .int .i64 ((i + 1 : Nat) : Int), .pointer (some ⟨bo, 0, none⟩)] rfl _) (by rw [← HC.out]; exact IH.out (sideL true i l) v2 w9 hc2.all hpb (by omega) hbo9 hg9) ?_
    rintro e w10 ⟨rfl, v10, h10a, h10b, h10c, h10d⟩
    refine ⟨_, rfl, hK _ _ trivial ?_⟩
    clear hK K
    try simp only [pl, pn, el, ec, sz, ss, gz, gs, if_true, if_false, Bool.false_eq_true, Bool.not_true, Bool.not_false, Nat.add_zero, Nat.zero_add, Nat.reduceAdd]
    refine wpPi_nil ?_
    have hsz10 := h10d.size
    have hB2' := h10d.obj (fun h => h.elim (by omega) (fun e => by have := hog _ e; omega)) hB2
    have hB10' := h10d.obj (fun h => h.elim (by omega) (fun e => by have := hog _ e; omega)) hB9
    have hne : v10.ownBlock ≠ some b10 := fun e => (h10c _ e).elim (fun e => by have := hog _ e; omega) (fun h => by omega)
    have HOUT : Hid (∀ ps' w', OutR w10 bo v10 ps' w' → OutR w bo v ps' w') := by
      rintro ps' w' ⟨v', k1, k2, k3, k4⟩
      have hsM := hM9.size
      refine ⟨v', k1, k2, fun g hg => ?_, ((hM9.mono fun _ _ h => h.elim).trans h10d (fun _ _ h => h)).trans k4 (fun k hk h => ?_)⟩
      · rcases k3 g hg with h | h
        · exact (h10c g h).imp id (fun h => by omega)
        · right; omega
      · rcases h with h | h
        · exact .inl h
        · rcases h10c k h with h | h
          · exact .inr h
          · omega
    go_wp2
    refine leaves_cons (f := 63) (args := #[.pointer (some ⟨b7, 0, none⟩), .pointer (some ⟨b10, 0, none⟩)]) (by simp) (by simp [go_sem]) ?_
    refine (pathD_any (true, dig f (i + 1) (sideL false i l)) h10a h10b hB2' hB10' hne (by rw [List.length_append]; omega) .returning).mono ?_
    rintro e u' w'' ⟨rfl, rfl, hout⟩
    exact ⟨_, results_none rfl _ _ _, rfl, by rw [← List.append_assoc, HBB.out]; exact HOUT.out _ _ hout⟩
  | false =>
    have HBB := Lib.hid hbit
    rw [hbit] at hpl
    go_upto_region 4 with (fail)
    refine wp_region_seq [1, 3, 1] (fun _ => True) (by rfl) (by rfl) trivial ?_
    simp only [List.zip_cons_cons, List.zip_nil_right]
    refine wpPi_do rfl (fun K hK => ?_)
    refine wp_exec (exec_loadA 38 _ (by rfl) b5 0 (by rfl) C hw5 _ Try.underlying38 rfl 32 (by kernel_rfl) hsz32) ?_
    refine hK _ _ trivial ?_
    clear hK K
    try simp only [pl, pn, el, ec, sz, ss, gz, gs, if_true, if_false, Bool.false_eq_true, Bool.not_true, Bool.not_false, Nat.add_zero, Nat.zero_add, Nat.reduceAdd]
    refine wpPi_move _ rfl rfl ?_
    simp only [pl, pn, el, ec, sz, ss, gz, gs, if_true, if_false, Bool.false_eq_true, Bool.not_true, Bool.not_false, Nat.add_zero, Nat.zero_add, Nat.reduceAdd]
    refine wpPi_do rfl (fun K hK => ?_)
    refine wp_enterQ (run_call 62 [.tmp 27, .tmp 28] _ rfl _ Try.func62 rfl (by kernel_rfl) [.agg C, .int .i64 (i : Int)] rfl _) (by rw [← HC.out]; exact right_any way hway i (by omega) _) ?_
    rintro e w7 ⟨rfl, hm7⟩
    rw [hbit]
    have hM7 := hM6.trans0 hm7
    have hs7 := hm7.size
    replace hw5 := hw5.keep hm7 id
    replace hptr := hm7.cell id hptr
    replace hB2 := hm7.obj id hB2
    replace hB6 := hm7.obj id hB6
    replace hc1 := hc1.keep0 hm7
    replace hc2 := hc2.keep0 hm7
    refine ⟨_, rfl, hK _ _ trivial ?_⟩
    clear hK K hm7
    try simp only [pl, pn, el, ec, sz, ss, gz, gs, if_true, if_false, Bool.false_eq_true, Bool.not_true, Bool.not_false, Nat.add_zero, Nat.zero_add, Nat.reduceAdd]
    refine wpPi_nil ?_
    clear hM6 hbit
    have hbo9 := hM7.obj id HBO.out
    have hg9 := HG.out.keep0 hM7
    have hog : ∀ g, v.ownBlock = some g → g < b5 := fun g e => by have := (HG.out.lt e).2; omega
    have hboL : bo < b5 := by rw [← hb5e]; exact (Array.getElem?_eq_some_iff.1 HBO.out).1
    go_upto_region 7 with (fail)
    refine wp_region_seq [3, 1, 3, 3, 1, 1] (fun _ => True) (by rfl) (by rfl) trivial ?_
    simp only [List.zip_cons_cons, List.zip_nil_right]
    refine wpPi_move _ rfl rfl ?_
    simp only [pl, pn, el, ec, sz, ss, gz, gs, if_true, if_false, Bool.false_eq_true, Bool.not_true, Bool.not_false, Nat.add_zero, Nat.zero_add, Nat.reduceAdd]
    refine wpPi_do rfl (fun K hK => ?_)
    refine wp_exec (exec_loadA 38 _ (by rfl) b5 0 (by rfl) C hw5 _ Try.underlying38 rfl 32 (by kernel_rfl) hsz32) ?_
    refine hK _ _ trivial ?_
    clear hK K
    try simp only [pl, pn, el, ec, sz, ss, gz, gs, if_true, if_false, Bool.false_eq_true, Bool.not_true, Bool.not_false, Nat.add_zero, Nat.zero_add, Nat.reduceAdd]
    refine wpPi_move _ rfl rfl ?_
    simp only [pl, pn, el, ec, sz, ss, gz, gs, if_true, if_false, Bool.false_eq_true, Bool.not_true, Bool.not_false, Nat.add_zero, Nat.zero_add, Nat.reduceAdd]
    refine wpPi_addR _ _ _ _ (i : Int) 1 ((i + 1 : Nat) : Int) rfl rfl rfl rfl (by omega) (by omega) (by omega) ?_
    simp only [pl, pn, el, ec, sz, ss, gz, gs, if_true, if_false, Bool.false_eq_true, Bool.not_true, Bool.not_false, Nat.add_zero, Nat.zero_add, Nat.reduceAdd]
    refine wpPi_do rfl (fun K hK => ?_)
    refine wp_exec (exec_load1 81 _ (by rfl) b7 0 (by rfl) _ hptr _ Try.underlying81 rfl) ?_
    refine hK _ _ trivial ?_
    clear hK K
    try simp only [pl, pn, el, ec, sz, ss, gz, gs, if_true, if_false, Bool.false_eq_true, Bool.not_true, Bool.not_false, Nat.add_zero, Nat.zero_add, Nat.reduceAdd]
    refine wpPi_do rfl (fun K hK => ?_)
    refine wp_enterQ (run_call 42 [.tmp 37, .tmp 38, .tmp 40, .tmp 41] _ rfl _ Try.func42 rfl (by kernel_rfl) [v1, .agg C, .int .i64 ((i + 1 : Nat) : Int), .pointer (some ⟨bo, 0, none⟩)] rfl _) (by rw [← HC.out]; exact IH.out (sideL false i l) v1 w7 hc1.all hpa (by omega) hbo9 hg9) ?_
    rintro e w10 ⟨rfl, v10, h10a, h10b, h10c, h10d⟩
    refine ⟨_, rfl, hK _ _ trivial ?_⟩
    clear hK K
    try simp only [pl, pn, el, ec, sz, ss, gz, gs, if_true, if_false, Bool.false_eq_true, Bool.not_true, Bool.not_false, Nat.add_zero, Nat.zero_add, Nat.reduceAdd]
    refine wpPi_nil ?_
    have hsz10 := h10d.size
    have hB2' := h10d.obj (fun h => h.elim (by omega) (fun e => by have := hog _ e; omega)) hB2
    have hB10' := h10d.obj (fun h => h.elim (by omega) (fun e => by have := hog _ e; omega)) hB6
    have hne : v10.ownBlock ≠ some b10 := fun e => (h10c _ e).elim (fun e => by have := hog _ e; omega) (fun h => by omega)
    have HOUT : Hid (∀ ps' w', OutR w10 bo v10 ps' w' → OutR w bo v ps' w') := by
      rintro ps' w' ⟨v', k1, k2, k3, k4⟩
      have hsM := hM7.size
      refine ⟨v', k1, k2, fun g hg => ?_, ((hM7.mono fun _ _ h => h.elim).trans h10d (fun _ _ h => h)).trans k4 (fun k hk h => ?_)⟩
      · rcases k3 g hg with h | h
        · exact (h10c g h).imp id (fun h => by omega)
        · right; omega
      · rcases h with h | h
        · exact .inl h
        · rcases h10c k h with h | h
          · exact .inr h
          · omega
    go_wp2
    refine leaves_cons (f := 63) (args := #[.pointer (some ⟨b7, 0, none⟩), .pointer (some ⟨b10, 0, none⟩)]) (by simp) (by simp [go_sem]) ?_
    refine (pathD_any (false, dig f (i + 1) (sideL true i l)) h10a h10b hB2' hB10' hne (by rw [List.length_append]; omega) .returning).mono ?_
    rintro e u' w'' ⟨rfl, rfl, hout⟩
    exact ⟨_, results_none rfl _ _ _, rfl, by rw [← List.append_assoc, HBB.out]; exact HOUT.out _ _ hout⟩
theorem path_any : ∀ (f i : Nat) (l : List Leaf) (vl v : Value) (w : World) (ps : List SideL) (way : List UInt8) (bo : Nat), f + i = 256 → Ls w (fun _ => True) vl l → Placed i l → l.length ≤ 65536 → way.length = 32 → w.heap[bo]? = some (.cells #[v] 41 (0, 0)) → Gat sideEnc 84 33 0 w v ps → ps.length + f ≤ 1000000 →
    Calls Try.prog 42 #[vl, .agg (idCells way), .int .i64 (i : Int), .pointer (some ⟨bo, 0, none⟩)] w (fun e w' => e = .returned (.tuple #[]) ∧ OutR w bo v (ps ++ pathL way f i l) w') := by
  intro f
  induction f with
  | zero =>
    intro i l vl v w ps way bo hi hl hp hlen hway hbo hg hps
    rcases Nat.lt_or_ge l.length 2 with h | h
    · rw [path_few h, List.append_nil]; exact path_none hl way i bo h hbo hg
    · have := hp.bits h; omega
  | succ f ih =>
    intro i l vl v w ps way bo hi hl hp hlen hway hbo hg hps
    rcases Nat.lt_or_ge l.length 2 with h | h
    · rw [path_few h, List.append_nil]; exact path_none hl way i bo h hbo hg
    · exact path_two f i hi hl hp hlen way hway bo h hbo hg hps (fun l' vl' w' h1 h2 h3 h4 h5 => ih (i + 1) l' vl' v w' ps way bo (by omega) h1 h2 h3 hway h4 h5 (by omega))
end Go.Proofs.Ytchkikmmcmjcgaa

/- slices.ContainsFunc over entries; tree.Path. -/
namespace Go.Proofs.Ytchkikmmcmjcgaa
set_option linter.unusedSimpArgs false
set_option linter.unusedVariables false
set_option linter.unnecessarySimpa false
set_option linter.unusedSectionVars false
open Go.RowKit Go.Shelf


def keysE (es : List Ent) : List ByteArray := es.map (·.1)
def hasK (es : List Ent) (key : ByteArray) : Bool := (keysE es).any fun k => decide (k = key)
theorem hasK_iff {es : List Ent} {key : ByteArray} : hasK es key = true ↔ key ∈ keysE es := by simp [hasK]
set_option maxRecDepth 10000 in
theorem pathF_any {w : World} {G : Nat → Prop} {cs : Array Value} {e : Ent} (he : EntC w G cs e) (key : ByteArray) (b : Nat) (hb : w.heap[b]? = some (.cells #[.string key] 9 (0, 0))) :
    Calls Try.prog 41 #[.agg cs, .pointer (some ⟨b, 0, none⟩)] w (RetM (.bool (decide (e.1 = key))) w) := by
  obtain ⟨v, rfl, -⟩ := he
  have hcb := CellsAt.one.1 (CellsAt.whole hb)
  obtain ⟨k, val⟩ := e
  change Calls Try.prog 41 #[.agg #[.string k, v], .pointer (some ⟨b, 0, none⟩)] w (RetM (.bool (decide (k = key))) w)
  clear hb
  go_enter Try.func41, Try.ntmps41
  go_upto_region 0 with (fail)
  refine wp_region_seq [1, 3] (fun _ => True) (by rfl) (by rfl) trivial ?_
  simp only [List.zip_cons_cons, List.zip_nil_right]
  refine wpPi_do rfl (fun K hK => ?_)
  refine wp_box 35 _ _ (by rfl) (by rfl) (fun w1 hB1 hm1 hs1 => ?_)
  replace hB1 : w1.heap[w.heap.size]? = some (.cells #[.string k, v] 35 (0, 0)) := hB1
  refine hK _ _ trivial ?_
  clear hK K
  try simp only [pl, pn, el, ec, sz, ss, gz, gs, if_true, if_false, Bool.false_eq_true, Bool.not_true, Bool.not_false, Nat.add_zero, Nat.zero_add, Nat.reduceAdd]
  refine wpPi_assign _ rfl rfl ?_
  simp only [pl, pn, el, ec, sz, ss, gz, gs, if_true, if_false, Bool.false_eq_true, Bool.not_true, Bool.not_false, Nat.add_zero, Nat.zero_add, Nat.reduceAdd]
  refine wpPi_nil ?_
  have hck := (CellsAt.whole hB1).cell (j := 0) (v := .string k) rfl
  replace hcb := hm1.cell id hcb
  generalize w.heap.size = b2 at *
  clear hB1
  go_upto_region 1 with (fail)
  refine wp_region_seq [3, 1, 1, 0, 3] (fun _ => True) (by rfl) (by rfl) trivial ?_
  simp only [List.zip_cons_cons, List.zip_nil_right]
  refine wpPi_field _ _ _ _ _ _ rfl rfl rfl fo_35_0 ?_
  simp only [pl, pn, el, ec, sz, ss, gz, gs, if_true, if_false, Bool.false_eq_true, Bool.not_true, Bool.not_false, Nat.add_zero, Nat.zero_add, Nat.reduceAdd]
  refine wpPi_do rfl (fun K hK => ?_)
  refine wp_exec (exec_load1 9 _ (by rfl) b2 0 (by rfl) _ hck _ Try.underlying9 rfl) ?_
  refine hK _ _ trivial ?_
  clear hK K
  try simp only [pl, pn, el, ec, sz, ss, gz, gs, if_true, if_false, Bool.false_eq_true, Bool.not_true, Bool.not_false, Nat.add_zero, Nat.zero_add, Nat.reduceAdd]
  refine wpPi_do rfl (fun K hK => ?_)
  refine wp_exec (exec_load1 9 _ (by rfl) b 0 (by rfl) _ hcb _ Try.underlying9 rfl) ?_
  refine hK _ _ trivial ?_
  clear hK K
  try simp only [pl, pn, el, ec, sz, ss, gz, gs, if_true, if_false, Bool.false_eq_true, Bool.not_true, Bool.not_false, Nat.add_zero, Nat.zero_add, Nat.reduceAdd]
  refine wpPi_val rfl (fun w' hS => exec_eql_str _ _ _ _ rfl k key rfl rfl _ rfl) ?_
  simp only [pl, pn, el, ec, sz, ss, gz, gs, if_true, if_false, Bool.false_eq_true, Bool.not_true, Bool.not_false, Nat.add_zero, Nat.zero_add, Nat.reduceAdd]
  refine wpPi_assign _ rfl rfl ?_
  simp only [pl, pn, el, ec, sz, ss, gz, gs, if_true, if_false, Bool.false_eq_true, Bool.not_true, Bool.not_false, Nat.add_zero, Nat.zero_add, Nat.reduceAdd]
  refine wpPi_nil ?_
  go_wp2
  go_ret
  exact ⟨rfl, hm1⟩
theorem eg_pathF : ∀ args w, (callFunc 41 args).run Try.prog w = .ok (.enter 41 args) w := enters_of Try.func41 (by kernel_rfl) rfl
def IdxFRel (key : ByteArray) (es : List Ent) (w0 : World) (i : Value) (w : World) : Prop := ∃ k : Nat, k ≤ es.length ∧ i = .int .i64 k ∧ (∀ j (_ : j < k) (h : j < es.length), es[j].1 ≠ key) ∧ Mod NoB w0 w
def IdxFR (key : ByteArray) (es : List Ent) (w : World) : Ending → World → Prop := fun e w' => ∃ r : Int, e = .returned (.int .i64 r) ∧ (0 ≤ r ↔ key ∈ keysE es) ∧ Mod NoB w w'
set_option maxRecDepth 10000 in
theorem indexFn_any {own : Bool} {w : World} {G : Nat → Prop} {v : Value} {es : List Ent} (h : Es own w G v es) (key : ByteArray) (b : Nat) (hb : w.heap[b]? = some (.cells #[.string key] 9 (0, 0))) :
    Calls Try.prog 61 #[v, .func (.func 41) #[] #[.pointer (some ⟨b, 0, none⟩)]] w (IdxFR key es w) := by
  have HS := Lib.hid h
  obtain ⟨ad, cap, rfl, hlm, -⟩ := Sl.at h
  have HB := Lib.hid hb
  clear h hb
  go_enter Try.func61, Try.ntmps61
  go_wp2
  go_loopw [8] (IdxFRel key es w) (fun i _ => es.length - (intOf i).toNat)
  case atStart => exact ⟨0, by omega, rfl, fun j h1 h2 => by omega, Mod.refl _ _⟩
  case round =>
    rename World => wr
    obtain ⟨k, hk, rfl, hne, hm⟩ := hrel
    have HNE := Lib.hid hne
    clear hne
    by_cases hlt : k < es.length
    · have hz : (k : Int) < (es.length : Int) := by omega
      obtain ⟨_, _, hv, -, hat⟩ := Sl.at (HS.out.keep0 hm)
      cases hv
      obtain ⟨bq, off, rfl, -, -, hc⟩ := hat k hlt
      obtain ⟨cs, hcs2, hec, hc⟩ := hc k hlt
      clear hat
      go_upto_region 4 with (fail)
      by_cases heq : es[k].1 = key
      · have hmem : key ∈ keysE es := List.mem_map.2 ⟨es[k], List.getElem_mem hlt, heq⟩
        generalize es[k] = x at *
        refine wp_region_seq [3, 3, 3, 3, 1, 1] (fun _ => True) (by rfl) (by rfl) trivial ?_
        simp only [List.zip_cons_cons, List.zip_nil_right]
        refine wpPi_move _ rfl rfl ?_
        simp only [pl, pn, el, ec, sz, ss, gz, gs, if_true, if_false, Bool.false_eq_true, Bool.not_true, Bool.not_false, Nat.add_zero, Nat.zero_add, Nat.reduceAdd]
        refine wpPi_move _ rfl rfl ?_
        simp only [pl, pn, el, ec, sz, ss, gz, gs, if_true, if_false, Bool.false_eq_true, Bool.not_true, Bool.not_false, Nat.add_zero, Nat.zero_add, Nat.reduceAdd]
        refine wpPi_move _ rfl rfl ?_
        simp only [pl, pn, el, ec, sz, ss, gz, gs, if_true, if_false, Bool.false_eq_true, Bool.not_true, Bool.not_false, Nat.add_zero, Nat.zero_add, Nat.reduceAdd]
        refine wpPi_index _ _ _ _ _ _ _ _ _ rfl rfl rfl rfl Try.underlying22 (n := 2) (by kernel_rfl) hlt ?_
        simp only [pl, pn, el, ec, sz, ss, gz, gs, if_true, if_false, Bool.false_eq_true, Bool.not_true, Bool.not_false, Nat.add_zero, Nat.zero_add, Nat.reduceAdd]
        refine wpPi_do rfl (fun K hK => ?_)
        refine wp_exec (exec_loadA 35 _ (by rfl) bq (off + k * 2) (by rfl) cs hc _ Try.underlying35 rfl 2 (by kernel_rfl) hcs2) ?_
        refine hK _ _ trivial ?_
        clear hK K
        try simp only [pl, pn, el, ec, sz, ss, gz, gs, if_true, if_false, Bool.false_eq_true, Bool.not_true, Bool.not_false, Nat.add_zero, Nat.zero_add, Nat.reduceAdd]
        refine wpPi_do rfl (fun K hK => ?_)
        refine wp_enterQ (run_callV 41 _ [.tmp 15] _ #[.pointer (some ⟨b, 0, none⟩)] rfl rfl eg_pathF [.agg cs] rfl _) (pathF_any hec key b (hm.obj id HB.out)) ?_
        rintro e w2 ⟨rfl, hm2⟩
        rw [decide_eq_true heq]
        have hMr := hm.trans0 hm2
        refine ⟨_, rfl, hK _ _ trivial ?_⟩
        clear hK K
        try simp only [pl, pn, el, ec, sz, ss, gz, gs, if_true, if_false, Bool.false_eq_true, Bool.not_true, Bool.not_false, Nat.add_zero, Nat.zero_add, Nat.reduceAdd]
        refine wpPi_nil ?_
        clear hm hm2
        go_wp2
        go_ret
        exact ⟨k, rfl, ⟨fun _ => hmem, fun _ => by omega⟩, hMr⟩
      · have hstep : ∀ j (_ : j < k + 1) (h : j < es.length), es[j].1 ≠ key := fun j h1 h2 => by
          rcases Nat.lt_or_ge j k with h4 | h4
          · exact HNE.out j h4 h2
          · obtain rfl : j = k := by omega
            exact heq
        have HSTEP := Lib.hid hstep
        clear hstep
        generalize es[k] = x at *
        refine wp_region_seq [3, 3, 3, 3, 1, 1] (fun _ => True) (by rfl) (by rfl) trivial ?_
        simp only [List.zip_cons_cons, List.zip_nil_right]
        refine wpPi_move _ rfl rfl ?_
        simp only [pl, pn, el, ec, sz, ss, gz, gs, if_true, if_false, Bool.false_eq_true, Bool.not_true, Bool.not_false, Nat.add_zero, Nat.zero_add, Nat.reduceAdd]
        refine wpPi_move _ rfl rfl ?_
        simp only [pl, pn, el, ec, sz, ss, gz, gs, if_true, if_false, Bool.false_eq_true, Bool.not_true, Bool.not_false, Nat.add_zero, Nat.zero_add, Nat.reduceAdd]
        refine wpPi_move _ rfl rfl ?_
        simp only [pl, pn, el, ec, sz, ss, gz, gs, if_true, if_false, Bool.false_eq_true, Bool.not_true, Bool.not_false, Nat.add_zero, Nat.zero_add, Nat.reduceAdd]
        refine wpPi_index _ _ _ _ _ _ _ _ _ rfl rfl rfl rfl Try.underlying22 (n := 2) (by kernel_rfl) hlt ?_
        simp only [pl, pn, el, ec, sz, ss, gz, gs, if_true, if_false, Bool.false_eq_true, Bool.not_true, Bool.not_false, Nat.add_zero, Nat.zero_add, Nat.reduceAdd]
        refine wpPi_do rfl (fun K hK => ?_)
        refine wp_exec (exec_loadA 35 _ (by rfl) bq (off + k * 2) (by rfl) cs hc _ Try.underlying35 rfl 2 (by kernel_rfl) hcs2) ?_
        refine hK _ _ trivial ?_
        clear hK K
        try simp only [pl, pn, el, ec, sz, ss, gz, gs, if_true, if_false, Bool.false_eq_true, Bool.not_true, Bool.not_false, Nat.add_zero, Nat.zero_add, Nat.reduceAdd]
        refine wpPi_do rfl (fun K hK => ?_)
        refine wp_enterQ (run_callV 41 _ [.tmp 15] _ #[.pointer (some ⟨b, 0, none⟩)] rfl rfl eg_pathF [.agg cs] rfl _) (pathF_any hec key b (hm.obj id HB.out)) ?_
        rintro e w2 ⟨rfl, hm2⟩
        rw [decide_eq_false heq]
        have hMr := hm.trans0 hm2
        refine ⟨_, rfl, hK _ _ trivial ?_⟩
        clear hK K
        try simp only [pl, pn, el, ec, sz, ss, gz, gs, if_true, if_false, Bool.false_eq_true, Bool.not_true, Bool.not_false, Nat.add_zero, Nat.zero_add, Nat.reduceAdd]
        refine wpPi_nil ?_
        clear hm hm2
        go_wp2
        go_roundw
        case rel => exact ⟨k + 1, by omega, by go_num, HSTEP.out, hMr⟩
        case measure => simp [intOf]; omega
    · have hz : ¬ (k : Int) < (es.length : Int) := by omega
      have hnm : key ∉ keysE es := fun hm => by
        obtain ⟨x, hx, rfl⟩ := List.mem_map.1 hm
        obtain ⟨j, hj, rfl⟩ := List.getElem_of_mem hx
        exact HNE.out j (by omega) hj rfl
      go_wp2
      go_ret
      exact ⟨-1, rfl, ⟨fun h => by omega, fun h => absurd h hnm⟩, hm⟩
set_option maxRecDepth 10000 in
theorem containsFn_any {own : Bool} {w : World} {G : Nat → Prop} {v : Value} {es : List Ent} (h : Es own w G v es) (key : ByteArray) (b : Nat) (hb : w.heap[b]? = some (.cells #[.string key] 9 (0, 0))) :
    Calls Try.prog 40 #[v, .func (.func 41) #[] #[.pointer (some ⟨b, 0, none⟩)]] w (RetM (.bool (hasK es key)) w) := by
  go_enter Try.func40, Try.ntmps40
  go_upto_region 1 with (fail)
  refine wp_region_seq [3, 3, 1, 3, 3] (fun _ => True) (by rfl) (by rfl) trivial ?_
  simp only [List.zip_cons_cons, List.zip_nil_right]
  refine wpPi_move _ rfl rfl ?_
  simp only [pl, pn, el, ec, sz, ss, gz, gs, if_true, if_false, Bool.false_eq_true, Bool.not_true, Bool.not_false, Nat.add_zero, Nat.zero_add, Nat.reduceAdd]
  refine wpPi_move _ rfl rfl ?_
  simp only [pl, pn, el, ec, sz, ss, gz, gs, if_true, if_false, Bool.false_eq_true, Bool.not_true, Bool.not_false, Nat.add_zero, Nat.zero_add, Nat.reduceAdd]
  refine wpPi_do rfl (fun K hK => ?_)
  refine wp_enterQ (run_call 61 [.tmp 5, .tmp 6] _ rfl _ Try.func61 rfl (by kernel_rfl) [v, .func (.func 41) #[] #[.pointer (some ⟨b, 0, none⟩)]] rfl _) (indexFn_any h key b hb) ?_
  rintro e w2 ⟨r, rfl, hr, hm2⟩
  refine ⟨_, rfl, hK _ _ trivial ?_⟩
  clear hK K
  try simp only [pl, pn, el, ec, sz, ss, gz, gs, if_true, if_false, Bool.false_eq_true, Bool.not_true, Bool.not_false, Nat.add_zero, Nat.zero_add, Nat.reduceAdd]
  refine wpPi_cmp _ _ _ _ _ _ _ _ rfl rfl rfl rfl rfl (hasK es key) (by simp only [cmpB]; rw [Bool.eq_iff_iff, decide_eq_true_iff, hasK_iff]; exact hr) ?_
  simp only [pl, pn, el, ec, sz, ss, gz, gs, if_true, if_false, Bool.false_eq_true, Bool.not_true, Bool.not_false, Nat.add_zero, Nat.zero_add, Nat.reduceAdd]
  refine wpPi_assign _ rfl rfl ?_
  simp only [pl, pn, el, ec, sz, ss, gz, gs, if_true, if_false, Bool.false_eq_true, Bool.not_true, Bool.not_false, Nat.add_zero, Nat.zero_add, Nat.reduceAdd]
  refine wpPi_nil ?_
  go_wp2
  go_ret
  exact ⟨rfl, hm2⟩
def errP (es : List Ent) (key : ByteArray) : Nat := if chkE es ≠ 0 then chkE es else if hasK es key then 0 else 26
def pathOut (es : List Ent) (key : ByteArray) : List SideL := if errP es key = 0 then pathL (shaL key.data.toList) 256 0 (leavesE es) else []
def PtR (w : World) (es : List Ent) (key : ByteArray) : Ending → World → Prop := fun e w' => ∃ v, e = .returned (.tuple #[v, .int .i64 ((errP es key : Nat) : Int)]) ∧ Gat sideEnc 84 33 w.heap.size w' v (pathOut es key) ∧ Mod NoB w w'
theorem Gat.rebase {α : Type} {enc : α → List Value} {e k base b' : Nat} {w : World} {v : Value} {l : List α} (h : Gat enc e k base w v l) (hb : ∀ g, v.ownBlock = some g → b' ≤ g) : Gat enc e k b' w v l := by
  refine ⟨h.1, ?_⟩
  rcases h.2 with h2 | ⟨g, cap, cur, rfl, h1, h2⟩
  · exact .inl h2
  · exact .inr ⟨g, cap, cur, rfl, hb g rfl, h2⟩
theorem sSideZ : (Try.prog.info? 41).bind (·.zero) = some (.slice none 0 0) := by kernel_rfl
theorem built_entK (key : ByteArray) : Try.prog.built 35 [(0, .string key)] = some #[.string key, .slice none 0 0] := by kernel_rfl
set_option maxRecDepth 20000 in
theorem exec_field_way {w : World} {o : Oper} {a : Act} (x : Operand) (u : Leaf) (hu : LeafOk u) (ho : o.op = .field 63 x 1) (hx : a.eval x = .agg (leafCells u)) : (execOp a.eval o).run Try.prog w = .ok (.value (.agg (idCells u.way))) w := by
  unfold execOp
  simp only [ho, hx]
  have hr : (Instr.field 63 (.agg (leafCells u)) 1).run Try.prog w = .ok (.agg (idCells u.way)) w := by
    unfold Instr.field
    simp only [Sem.run_bind, run_underlying Try.underlying63, Result.andThen_ok]
    show ((asAgg (.agg (leafCells u))).run Try.prog w).andThen (fun cs w => (part 38 cs 1).run Try.prog w) = _
    simp [asAgg, part_way hu]
  simp only [Sem.run_bind, hr, Result.andThen_ok, Sem.run_pure]
end Go.Proofs.Ytchkikmmcmjcgaa

/- tree.Path: a key's path. -/
namespace Go.Proofs.Ytchkikmmcmjcgaa
set_option linter.unusedSimpArgs false
set_option linter.unusedVariables false
set_option linter.unnecessarySimpa false
set_option linter.unusedSectionVars false
open Go.RowKit Go.Shelf


theorem results_one_tmp {P : Program} {fn : Func} {p u : Tmp} {ty : TypeId} (h : fn.results = #[.cell p ty, .tmp u]) (tmps : Array Value) (w : World) (g : Nat) (v : Value) (d : TypeDesc)
    (hp : tmps.getD p undef = .pointer (some ⟨g, 0, none⟩)) (hg : w.cell? ⟨g, 0, none⟩ = some v)
    (hu : P.underlying ty = some d) (hd : (match d with | .struct _ | .array _ _ => true | _ => false) = false) :
    (results fn tmps).run P w = .ok (.tuple #[v, tmps.getD u undef]) w := by
  have hp' : tmps[p]?.getD undef = .pointer (some ⟨g, 0, none⟩) := by simpa using hp
  have hagg : (isAgg ty).run P w = .ok false w := by
    unfold isAgg
    rw [Sem.run_bind, run_underlying hu w]
    cases d <;> simp_all
  have hl : (loadVar ty ⟨g, 0, none⟩).run P w = .ok v w := by
    simp only [loadVar, Sem.run_bind, hagg, Result.andThen_ok, Bool.false_eq_true, if_false]
    simp [load, Sem.run, hg]
  simp [results, h, hp', asAddr, hl]
set_option maxRecDepth 10000 in
set_option maxHeartbeats 1000000 in
theorem treePath_any {own : Bool} {w : World} {G : Nat → Prop} {v : Value} {es : List Ent} (h : Es own w G v es) (hs : Short es) (hlen : es.length ≤ 4096) (key : ByteArray) (hkey : key.size ≤ 1000000) : Calls Try.prog 18 #[v, .string key] w (PtR w es key) := by
  have HS := Lib.hid h
  have HSH := Lib.hid hs
  obtain ⟨ad, cap, rfl, -, -⟩ := Sl.at h
  clear h hs
  go_enter Try.func18, Try.ntmps18
  go_upto_region 0 with (fail)
  refine wp_region_seq [1, 1, 3] (fun _ => True) (by rfl) (by rfl) trivial ?_
  simp only [List.zip_cons_cons, List.zip_nil_right]
  refine wpPi_do rfl (fun K hK => ?_)
  refine wp_box 9 _ _ (by rfl) (by rfl) (fun w1 hB1 hm1 hs1 => ?_)
  replace hB1 : w1.heap[w.heap.size]? = some (.cells #[.string key] 9 (0, 0)) := hB1
  refine hK _ _ trivial ?_
  clear hK K
  try simp only [pl, pn, el, ec, sz, ss, gz, gs, if_true, if_false, Bool.false_eq_true, Bool.not_true, Bool.not_false, Nat.add_zero, Nat.zero_add, Nat.reduceAdd]
  refine wpPi_do rfl (fun K hK => ?_)
  refine wp_alloc 41 _ (by rfl) sSideZ (fun w2 hB2 hm2 hs2 => ?_)
  replace hB2 : w2.heap[w1.heap.size]? = some (.cells #[.slice none 0 0] 41 (0, 0)) := hB2
  refine hK _ _ trivial ?_
  clear hK K
  try simp only [pl, pn, el, ec, sz, ss, gz, gs, if_true, if_false, Bool.false_eq_true, Bool.not_true, Bool.not_false, Nat.add_zero, Nat.zero_add, Nat.reduceAdd]
  refine wpPi_assign _ rfl rfl ?_
  simp only [pl, pn, el, ec, sz, ss, gz, gs, if_true, if_false, Bool.false_eq_true, Bool.not_true, Bool.not_false, Nat.add_zero, Nat.zero_add, Nat.reduceAdd]
  refine wpPi_nil ?_
  replace hB1 := hm2.obj id hB1
  have hM2 := hm1.trans0 hm2
  have hb3 : w.heap.size < w1.heap.size := hs1
  have hb4 : w1.heap.size < w2.heap.size := hs2
  generalize hb3e : w.heap.size = b3 at *
  generalize hb4e : w1.heap.size = b4 at *
  clear hm1 hm2
  go_upto_region 1 with (fail)
  refine wp_region_seq [3, 1, 3] (fun _ => True) (by rfl) (by rfl) trivial ?_
  simp only [List.zip_cons_cons, List.zip_nil_right]
  refine wpPi_move _ rfl rfl ?_
  simp only [pl, pn, el, ec, sz, ss, gz, gs, if_true, if_false, Bool.false_eq_true, Bool.not_true, Bool.not_false, Nat.add_zero, Nat.zero_add, Nat.reduceAdd]
  refine wpPi_do rfl (fun K hK => ?_)
  refine wp_enterQ (run_call 21 [.tmp 7] _ rfl _ Try.func21 rfl (by kernel_rfl) [.slice ad es.length cap] rfl _) (check_any (HS.out.keep0 hM2) HSH.out hlen) ?_
  rintro e w3 ⟨rfl, hm3⟩
  have hM3 := hM2.trans0 hm3
  replace hB1 := hm3.obj id hB1
  replace hB2 := hm3.obj id hB2
  have hs3 := hm3.size
  refine ⟨_, rfl, hK _ _ trivial ?_⟩
  clear hK K hm3
  try simp only [pl, pn, el, ec, sz, ss, gz, gs, if_true, if_false, Bool.false_eq_true, Bool.not_true, Bool.not_false, Nat.add_zero, Nat.zero_add, Nat.reduceAdd]
  refine wpPi_assign _ rfl rfl ?_
  simp only [pl, pn, el, ec, sz, ss, gz, gs, if_true, if_false, Bool.false_eq_true, Bool.not_true, Bool.not_false, Nat.add_zero, Nat.zero_add, Nat.reduceAdd]
  refine wpPi_nil ?_
  by_cases hc : chkE es = 0
  · have HC := Lib.hid hc
    rw [hc]
    clear hc hM2
    cases hh : hasK es key with
    | true =>
      have HH := Lib.hid hh
      have herr : errP es key = 0 := by unfold errP; rw [if_neg (by rw [HC.out]; simp), if_pos hh]
      have HE := Lib.hid herr
      go_upto_region 4 with (fail)
      refine wp_region_seq [3, 1, 1, 3] (fun _ => True) (by rfl) (by rfl) trivial ?_
      simp only [List.zip_cons_cons, List.zip_nil_right]
      refine wpPi_move _ rfl rfl ?_
      simp only [pl, pn, el, ec, sz, ss, gz, gs, if_true, if_false, Bool.false_eq_true, Bool.not_true, Bool.not_false, Nat.add_zero, Nat.zero_add, Nat.reduceAdd]
      refine wpPi_do rfl (fun K hK => ?_)
      refine wp_exec (exec_makeFunc 41 [.tmp 3] (by rfl) [.pointer (some ⟨b3, 0, none⟩)] (by rfl)) ?_
      refine hK _ _ trivial ?_
      clear hK K
      try simp only [pl, pn, el, ec, sz, ss, gz, gs, if_true, if_false, Bool.false_eq_true, Bool.not_true, Bool.not_false, Nat.add_zero, Nat.zero_add, Nat.reduceAdd]
      refine wpPi_do rfl (fun K hK => ?_)
      refine wp_enterQ (run_call 40 [.tmp 12, .tmp 13] _ rfl _ Try.func40 rfl (by kernel_rfl) [.slice ad es.length cap, .func (.func 41) #[] #[.pointer (some ⟨b3, 0, none⟩)]] rfl _) (containsFn_any (HS.out.keep0 hM3) key b3 hB1) ?_
      rintro e w4 ⟨rfl, hm4⟩
      rw [hh]
      have hM4 := hM3.trans0 hm4
      replace hB1 := hm4.obj id hB1
      replace hB2 := hm4.obj id hB2
      have hs4 := hm4.size
      refine ⟨_, rfl, hK _ _ trivial ?_⟩
      clear hK K hm4
      try simp only [pl, pn, el, ec, sz, ss, gz, gs, if_true, if_false, Bool.false_eq_true, Bool.not_true, Bool.not_false, Nat.add_zero, Nat.zero_add, Nat.reduceAdd]
      refine wpPi_not _ _ _ rfl rfl rfl ?_
      simp only [pl, pn, el, ec, sz, ss, gz, gs, if_true, if_false, Bool.false_eq_true, Bool.not_true, Bool.not_false, Nat.add_zero, Nat.zero_add, Nat.reduceAdd]
      refine wpPi_nil ?_
      have hkc := CellsAt.one.1 (CellsAt.whole hB1)
      have hoc := hB2
      have hlz : (shaL key.data.toList).length = 32 := shaL_len _
      have hbE := built_entK key
      clear hM3 hh herr
      go_upto_region 6 with (fail)
      have hd : Mod NoB w4 w4.drew := (Mod.refl _ _).drew
      have hS : Mod (fun k => k = b4) w4 w4.drew := (Mod.refl _ _).drew
      refine wp_region_pi [(0, 3), (2, 0), (3, 0), (1, 1), (4, 1), (5, 0), (6, 1)] [] (fun w' => Mod (fun k => k = b4) w4 w') (by kernel_rfl) (by kernel_rfl) (by kernel_rfl) (by kernel_rfl) (fun _ _ _ _ hd h => ⟨hd.trans h.1, h.2⟩) hS ?_
      simp only [List.map_cons, List.map_nil, List.getD_cons_zero, List.getD_cons_succ]
      refine wpPi_move _ rfl rfl ?_
      simp only [pl, pn, el, ec, sz, ss, gz, gs, if_true, if_false, Bool.false_eq_true, Bool.not_true, Bool.not_false, Nat.add_zero, Nat.zero_add, Nat.reduceAdd]
      refine wpPi_val rfl (fun w' hS => exec_load1 9 _ (by rfl) b3 0 (by rfl) (.string key) (hS.cell (by omega) hkc) _ Try.underlying9 rfl) ?_
      simp only [pl, pn, el, ec, sz, ss, gz, gs, if_true, if_false, Bool.false_eq_true, Bool.not_true, Bool.not_false, Nat.add_zero, Nat.zero_add, Nat.reduceAdd]
      refine wpPi_val rfl (fun w' hS => exec_build_of 35 [(0, _)] [(0, .string key)] _ (by rfl) (by rfl) hbE) ?_
      simp only [pl, pn, el, ec, sz, ss, gz, gs, if_true, if_false, Bool.false_eq_true, Bool.not_true, Bool.not_false, Nat.add_zero, Nat.zero_add, Nat.reduceAdd]
      refine wpPi_do rfl (fun K hK => ?_)
      refine wp_enterQ (run_call 28 [.tmp 16] _ rfl _ Try.func28 rfl (by kernel_rfl) [.slice ad es.length cap] rfl _) (sorted_any (HS.out.keep0 (hM4.trans0 hd)) HSH.out (by omega)) ?_
      rintro e w5 ⟨v5, ls, rfl, hl5, hsr5, hm5⟩
      have hd5 := hd.trans0 hm5
      refine ⟨_, rfl, hK _ _ (hd5.mono fun _ _ h => h.elim) ?_⟩
      clear hK K
      try simp only [pl, pn, el, ec, sz, ss, gz, gs, if_true, if_false, Bool.false_eq_true, Bool.not_true, Bool.not_false, Nat.add_zero, Nat.zero_add, Nat.reduceAdd]
      refine wpPi_do rfl (fun K hK => ?_)
      refine wp_enterQ (run_call 43 [.tmp 19] _ rfl _ Try.func43 rfl (by kernel_rfl) [.agg #[.string key, .slice none 0 0]] rfl _) (of_any (G := fun _ => True) (e := (key, [])) ⟨_, rfl, Sl.nil _ _ _ _ _⟩ hkey (by simp)) ?_
      rintro e w6 ⟨rfl, hm6⟩
      have hd6 := hd5.trans0 hm6
      refine ⟨_, rfl, hK _ _ (hd6.mono fun _ _ h => h.elim) ?_⟩
      clear hK K
      try simp only [pl, pn, el, ec, sz, ss, gz, gs, if_true, if_false, Bool.false_eq_true, Bool.not_true, Bool.not_false, Nat.add_zero, Nat.zero_add, Nat.reduceAdd]
      refine wpPi_val rfl (fun w' hS => exec_field_way _ (leafOf (key, [])) (leaf_len _) rfl rfl) ?_
      simp only [pl, pn, el, ec, sz, ss, gz, gs, if_true, if_false, Bool.false_eq_true, Bool.not_true, Bool.not_false, Nat.add_zero, Nat.zero_add, Nat.reduceAdd]
      refine wpPi_do rfl (fun K hK => ?_)
      refine wp_enterQ (run_call 42 [.tmp 17, .tmp 21, .const (.int .i64 0), .tmp 4] _ rfl _ Try.func42 rfl (by kernel_rfl) [v5, .agg (idCells (shaL key.data.toList)), .int .i64 ((0 : Nat) : Int), .pointer (some ⟨b4, 0, none⟩)] rfl _) (path_any 256 0 ls v5 (.slice none 0 0) _ [] (shaL key.data.toList) b4 rfl (Ls.keep0 hl5 hm6).all (placed_of hsr5 HC.out) (by rw [sorted_len hsr5]; omega) hlz (hd6.obj id hoc) (Gat.nil _ _ _ _ _) (by simp)) ?_
      rintro e w7 ⟨rfl, v7, h7a, h7b, h7c, h7d⟩
      have hsz6 := hd6.size
      have h7m : Mod (fun k => k = b4) _ w7 := h7d.mono (fun k _ h => h.elim id (fun e => by cases e))
      have hS7 : Mod (fun k => k = b4) w4 w7 := (hd6.mono fun _ _ h => h.elim).trans h7m (fun _ _ h => h)
      have hpp : [] ++ pathL (shaL key.data.toList) 256 0 ls = pathOut es key := by unfold pathOut; rw [if_pos HE.out, List.nil_append]; exact path_perm _ _ _ hsr5.1
      rw [hpp] at h7b
      have hv7 : v7.oneCell' = true := owns_one h7b
      have hg7 : Gat sideEnc 84 33 w.heap.size w7 v7 (pathOut es key) := h7b.rebase (fun g hg => (h7c g hg).elim (fun e => by cases e) (fun h => by omega))
      refine ⟨_, rfl, hK _ _ hS7 ?_⟩
      clear hK K
      try simp only [pl, pn, el, ec, sz, ss, gz, gs, if_true, if_false, Bool.false_eq_true, Bool.not_true, Bool.not_false, Nat.add_zero, Nat.zero_add, Nat.reduceAdd]
      refine wpPi_nil ?_
      have hM7 : Mod NoB w w7 := hM4.trans hS7 (fun k hk e => by have e' : k = b4 := e; omega)
      have hg74 : ∀ g, v7.ownBlock = some g → g ≠ b4 := fun g hg e => by
        subst e
        exact own_ne h7b h7a (by decide) hg
      clear h7m h7d hS7 hd hd5 hd6 hS hm5 hm6 hl5 hM4 hB2 hoc
      have h7cell := CellsAt.one.1 (CellsAt.whole h7a)
      go_upto_region 7 with (fail)
      refine wp_region_seq [1, 1, 3] (fun _ => True) (by rfl) (by rfl) trivial ?_
      simp only [List.zip_cons_cons, List.zip_nil_right]
      refine wpPi_do rfl (fun K hK => ?_)
      refine wp_exec (exec_load1 41 _ (by rfl) b4 0 (by rfl) v7 h7cell _ Try.underlying41 rfl) ?_
      refine hK _ _ trivial ?_
      clear hK K
      try simp only [pl, pn, el, ec, sz, ss, gz, gs, if_true, if_false, Bool.false_eq_true, Bool.not_true, Bool.not_false, Nat.add_zero, Nat.zero_add, Nat.reduceAdd]
      refine wpPi_do rfl (fun K hK => ?_)
      refine wp_store1 41 _ _ b4 0 v7 (by rfl) (by rfl) (by rfl) hv7 (by kernel_rfl) _ _ h7a (by simp) (fun w8 hB8 hm8 => ?_)
      replace hB8 : w8.heap[b4]? = some (.cells #[v7] 41 (0, 0)) := hB8
      refine hK _ _ trivial ?_
      clear hK K
      try simp only [pl, pn, el, ec, sz, ss, gz, gs, if_true, if_false, Bool.false_eq_true, Bool.not_true, Bool.not_false, Nat.add_zero, Nat.zero_add, Nat.reduceAdd]
      refine wpPi_assign _ rfl rfl ?_
      simp only [pl, pn, el, ec, sz, ss, gz, gs, if_true, if_false, Bool.false_eq_true, Bool.not_true, Bool.not_false, Nat.add_zero, Nat.zero_add, Nat.reduceAdd]
      refine wpPi_nil ?_
      have hM8 : Mod NoB w w8 := hM7.transB hm8 (by omega)
      have hg8 := hg7.keep hm8 hg74
      have h8c := CellsAt.one.1 (CellsAt.whole hB8)
      clear hm8 hM7 hg7 h7b h7a
      go_wp2
      refine bodyPost_ret (results_one_tmp (P := Try.prog) (ty := 41) rfl _ _ b4 _ _ (by rfl) h8c Try.underlying41 rfl) rfl ?_
      exact ⟨_, by rw [HE.out]; rfl, hg8, hM8⟩
    | false =>
      have herr : errP es key = 26 := by unfold errP; rw [if_neg (by rw [HC.out]; simp), if_neg (by rw [hh]; simp)]
      have hout : pathOut es key = [] := by unfold pathOut; rw [if_neg (by rw [herr]; simp)]
      have HE := Lib.hid herr
      have HO := Lib.hid hout
      go_upto_region 4 with (fail)
      refine wp_region_seq [3, 1, 1, 3] (fun _ => True) (by rfl) (by rfl) trivial ?_
      simp only [List.zip_cons_cons, List.zip_nil_right]
      refine wpPi_move _ rfl rfl ?_
      simp only [pl, pn, el, ec, sz, ss, gz, gs, if_true, if_false, Bool.false_eq_true, Bool.not_true, Bool.not_false, Nat.add_zero, Nat.zero_add, Nat.reduceAdd]
      refine wpPi_do rfl (fun K hK => ?_)
      refine wp_exec (exec_makeFunc 41 [.tmp 3] (by rfl) [.pointer (some ⟨b3, 0, none⟩)] (by rfl)) ?_
      refine hK _ _ trivial ?_
      clear hK K
      try simp only [pl, pn, el, ec, sz, ss, gz, gs, if_true, if_false, Bool.false_eq_true, Bool.not_true, Bool.not_false, Nat.add_zero, Nat.zero_add, Nat.reduceAdd]
      refine wpPi_do rfl (fun K hK => ?_)
      refine wp_enterQ (run_call 40 [.tmp 12, .tmp 13] _ rfl _ Try.func40 rfl (by kernel_rfl) [.slice ad es.length cap, .func (.func 41) #[] #[.pointer (some ⟨b3, 0, none⟩)]] rfl _) (containsFn_any (HS.out.keep0 hM3) key b3 hB1) ?_
      rintro e w4 ⟨rfl, hm4⟩
      rw [hh]
      have hM4 := hM3.trans0 hm4
      replace hB2 := hm4.obj id hB2
      refine ⟨_, rfl, hK _ _ trivial ?_⟩
      clear hK K hm4
      try simp only [pl, pn, el, ec, sz, ss, gz, gs, if_true, if_false, Bool.false_eq_true, Bool.not_true, Bool.not_false, Nat.add_zero, Nat.zero_add, Nat.reduceAdd]
      refine wpPi_not _ _ _ rfl rfl rfl ?_
      simp only [pl, pn, el, ec, sz, ss, gz, gs, if_true, if_false, Bool.false_eq_true, Bool.not_true, Bool.not_false, Nat.add_zero, Nat.zero_add, Nat.reduceAdd]
      refine wpPi_nil ?_
      clear hM3 hh herr hout hB1
      go_upto_region 5 with (fail)
      refine wp_region_seq [1, 3] (fun _ => True) (by rfl) (by rfl) trivial ?_
      simp only [List.zip_cons_cons, List.zip_nil_right]
      refine wpPi_do rfl (fun K hK => ?_)
      refine wp_store1 41 _ _ b4 0 (.slice none 0 0) (by rfl) (by rfl) (by rfl) rfl (by kernel_rfl) _ _ hB2 (by simp) (fun w8 hB8 hm8 => ?_)
      replace hB8 : w8.heap[b4]? = some (.cells #[.slice none 0 0] 41 (0, 0)) := hB8
      refine hK _ _ trivial ?_
      clear hK K
      try simp only [pl, pn, el, ec, sz, ss, gz, gs, if_true, if_false, Bool.false_eq_true, Bool.not_true, Bool.not_false, Nat.add_zero, Nat.zero_add, Nat.reduceAdd]
      refine wpPi_assign _ rfl rfl ?_
      simp only [pl, pn, el, ec, sz, ss, gz, gs, if_true, if_false, Bool.false_eq_true, Bool.not_true, Bool.not_false, Nat.add_zero, Nat.zero_add, Nat.reduceAdd]
      refine wpPi_nil ?_
      have hM8 : Mod NoB w w8 := hM4.transB hm8 (by omega)
      have h8c := CellsAt.one.1 (CellsAt.whole hB8)
      clear hm8 hM4 hB2
      go_wp2
      refine bodyPost_ret (results_one_tmp (P := Try.prog) (ty := 41) rfl _ _ b4 _ _ (by rfl) h8c Try.underlying41 rfl) rfl ?_
      exact ⟨_, by rw [HE.out]; rfl, by rw [HO.out]; exact Gat.nil _ _ _ _ _, hM8⟩
  · have hc2 : ¬ ((chkE es : Nat) : Int) = 0 := by omega
    have herr : errP es key = chkE es := by unfold errP; rw [if_pos hc]
    have hout : pathOut es key = [] := by unfold pathOut; rw [if_neg (by rw [herr]; exact hc)]
    have HE := Lib.hid herr
    have HO := Lib.hid hout
    clear hc herr hout hB1 hM2
    go_upto_region 3 with (fail)
    refine wp_region_seq [3, 1, 3] (fun _ => True) (by rfl) (by rfl) trivial ?_
    simp only [List.zip_cons_cons, List.zip_nil_right]
    refine wpPi_move _ rfl rfl ?_
    simp only [pl, pn, el, ec, sz, ss, gz, gs, if_true, if_false, Bool.false_eq_true, Bool.not_true, Bool.not_false, Nat.add_zero, Nat.zero_add, Nat.reduceAdd]
    refine wpPi_do rfl (fun K hK => ?_)
    refine wp_store1 41 _ _ b4 0 (.slice none 0 0) (by rfl) (by rfl) (by rfl) rfl (by kernel_rfl) _ _ hB2 (by simp) (fun w8 hB8 hm8 => ?_)
    replace hB8 : w8.heap[b4]? = some (.cells #[.slice none 0 0] 41 (0, 0)) := hB8
    refine hK _ _ trivial ?_
    clear hK K
    try simp only [pl, pn, el, ec, sz, ss, gz, gs, if_true, if_false, Bool.false_eq_true, Bool.not_true, Bool.not_false, Nat.add_zero, Nat.zero_add, Nat.reduceAdd]
    refine wpPi_assign _ rfl rfl ?_
    simp only [pl, pn, el, ec, sz, ss, gz, gs, if_true, if_false, Bool.false_eq_true, Bool.not_true, Bool.not_false, Nat.add_zero, Nat.zero_add, Nat.reduceAdd]
    refine wpPi_nil ?_
    have hM8 : Mod NoB w w8 := hM3.transB hm8 (by omega)
    have h8c := CellsAt.one.1 (CellsAt.whole hB8)
    clear hm8 hM3 hB2
    go_wp2
    refine bodyPost_ret (results_one_tmp (P := Try.prog) (ty := 41) rfl _ _ b4 _ _ (by rfl) h8c Try.underlying41 rfl) rfl ?_
    exact ⟨_, by rw [HE.out]; rfl, by rw [HO.out]; exact Gat.nil _ _ _ _ _, hM8⟩
end Go.Proofs.Ytchkikmmcmjcgaa

/- tree.Proves: does a path prove an entry. -/
namespace Go.Proofs.Ytchkikmmcmjcgaa
set_option linter.unusedSimpArgs false
set_option linter.unusedVariables false
set_option linter.unnecessarySimpa false
set_option linter.unusedSectionVars false
open Go.RowKit Go.Shelf

theorem fo_84_0 : fieldOff Try.prog 84 0 = some 0 := by kernel_rfl
theorem fo_84_1 : fieldOff Try.prog 84 1 = some 1 := by kernel_rfl
theorem Sl.inside {α : Type} {own : Bool} {w : World} {G : Nat → Prop} {sz : Nat} {R : Array Value → α → Prop} {v : Value} {l : List α} (h : Sl own w G sz R v l) (hz : 0 < sz) : Sl own w (fun k => k < w.heap.size) sz R v l := by
  obtain ⟨ad, cap, e, h1, h2, h3⟩ := h
  refine ⟨ad, cap, e, h1, h2, fun hne => ?_⟩
  obtain ⟨b, off, ha, hG, ho, hc⟩ := h3 hne
  refine ⟨b, off, ha, ?_, ho, hc⟩
  cases l with
  | nil => exact absurd rfl hne
  | cons x l =>
    obtain ⟨cs, hs, _, hcs⟩ := hc 0 (by simp)
    have h0 := hcs 0 (by omega)
    rw [Array.getElem?_eq_getElem (by omega : 0 < cs.size)] at h0
    exact block_lt_of_cell h0
def SideC (cs : Array Value) (s : SideL) : Prop := cs = sideCells s ∧ s.2.length = 32
def Ss (own : Bool) (w : World) (G : Nat → Prop) (v : Value) (ps : List SideL) : Prop := Sl own w G 33 SideC v ps
theorem side_flag {w : World} {b off : Nat} {s : SideL} (h : CellsAt w b off (sideCells s)) : w.cell? ⟨b, off + 0, none⟩ = some (.bool s.1) := h.cell (j := 0) (by simp [sideCells, sideEnc])
theorem side_other {w : World} {b off : Nat} {s : SideL} (hs : s.2.length = 32) (h : CellsAt w b off (sideCells s)) : CellsAt w b (off + 1) (idCells s.2) := by
  have := h.part (i := 1) (j := 33) (by rw [sideCells_size]; omega)
  have e : (sideCells s).extract 1 33 = idCells s.2 := by
    simp only [sideCells, sideEnc, idCells, List.extract_toArray, List.extract_eq_take_drop, fit32_eq hs]
    congr 1
    show List.take 32 (List.map byteV s.2) = _
    rw [List.take_of_length_le (by simp [hs])]
  rwa [e] at this
theorem climb_len (d : List UInt8) (s : SideL) : (climb d s).length = 32 := by unfold climb; split <;> exact shaL_len _
theorem fold_len (ps : List SideL) (d : List UInt8) (hd : d.length = 32) : (ps.foldl climb d).length = 32 := by
  induction ps generalizing d with
  | nil => exact hd
  | cons s ps ih => exact ih _ (climb_len d s)
theorem fold_succ {ps : List SideL} {k : Nat} (h : k < ps.length) (d : List UInt8) : (ps.take (k + 1)).foldl climb d = climb ((ps.take k).foldl climb d) ps[k] := by
  rw [List.take_succ_eq_append_getElem h, List.foldl_append]; rfl
def PvRel (ps : List SideL) (d0 : List UInt8) (b7 : Nat) (w0 : World) (i : Value) (w : World) : Prop := ∃ k : Nat, k ≤ ps.length ∧ i = .int .i64 k ∧ w.heap[b7]? = some (.cells (idCells ((ps.take k).foldl climb d0)) 38 (0, 0)) ∧ Mod (fun q => q = b7) w0 w
set_option maxRecDepth 10000 in
theorem proves_long {own : Bool} {w : World} {G' : Nat → Prop} {cs : Array Value} {vp : Value} {ps : List SideL} (root : List UInt8) (x : Leaf) (hp : Ss own w G' vp ps) (hlen : 256 < ps.length) :
    Calls Try.prog 20 #[.agg (idCells root), .agg cs, vp] w (RetM (.bool (provesL root x ps)) w) := by
  obtain ⟨ad, cap, rfl, -, -⟩ := Sl.at hp
  have e : provesL root x ps = false := by unfold provesL; rw [decide_eq_false (by omega)]; rfl
  have hz : (ps.length : Int) > 256 := by omega
  rw [e]
  obtain ⟨C, hC⟩ : ∃ C, idCells root = C := ⟨_, rfl⟩
  rw [hC]
  clear hp e hC
  go_enter Try.func20, Try.ntmps20
  go_upto_region 0 with (fail)
  refine wp_region_seq [1, 1, 3] (fun _ => True) (by rfl) (by rfl) trivial ?_
  simp only [List.zip_cons_cons, List.zip_nil_right]
  refine wpPi_do rfl (fun K hK => ?_)
  refine wp_box 38 _ _ (by rfl) (by rfl) (fun w1 hB1 hm1 hs1 => ?_)
  refine hK _ _ trivial ?_
  clear hK K
  try simp only [pl, pn, el, ec, sz, ss, gz, gs, if_true, if_false, Bool.false_eq_true, Bool.not_true, Bool.not_false, Nat.add_zero, Nat.zero_add, Nat.reduceAdd]
  refine wpPi_do rfl (fun K hK => ?_)
  refine wp_box 35 _ _ (by rfl) (by rfl) (fun w2 hB2 hm2 hs2 => ?_)
  refine hK _ _ trivial ?_
  clear hK K
  try simp only [pl, pn, el, ec, sz, ss, gz, gs, if_true, if_false, Bool.false_eq_true, Bool.not_true, Bool.not_false, Nat.add_zero, Nat.zero_add, Nat.reduceAdd]
  refine wpPi_assign _ rfl rfl ?_
  simp only [pl, pn, el, ec, sz, ss, gz, gs, if_true, if_false, Bool.false_eq_true, Bool.not_true, Bool.not_false, Nat.add_zero, Nat.zero_add, Nat.reduceAdd]
  refine wpPi_nil ?_
  have hM := hm1.trans0 hm2
  clear hB1 hB2
  go_wp2
  go_ret
  exact ⟨rfl, hM⟩
set_option maxRecDepth 10000 in
set_option maxHeartbeats 1000000 in
theorem proves_any {own : Bool} {w : World} {G G' : Nat → Prop} {cs : Array Value} {e : Ent} {vp : Value} {ps : List SideL} (root : List UInt8) (hroot : root.length = 32) (he : EntC w G cs e) (h1 : e.1.size ≤ 1000000) (h2 : e.2.length ≤ 1000000) (hp : Ss own w G' vp ps) :
    Calls Try.prog 20 #[.agg (idCells root), .agg cs, vp] w (RetM (.bool (provesL root (leafOf e) ps)) w) := by
  rcases Nat.lt_or_ge 256 ps.length with hlong | hlen
  · exact proves_long root _ hp hlong
  have HP := Lib.hid hp
  have HE := Lib.hid he
  have hcs2 : cs.size = 2 := by obtain ⟨v, rfl, -⟩ := he; rfl
  have hce : (Value.agg cs).cells = cs := rfl
  obtain ⟨ad, cap, rfl, -, -⟩ := Sl.at hp
  have hz : ¬ (ps.length : Int) > 256 := by omega
  have hpl : provesL root (leafOf e) ps = decide (ps.foldl climb (oneD (leafOf e)) = root) := by unfold provesL; rw [decide_eq_true hlen]; rfl
  have hd0 : (oneD (leafOf e)).length = 32 := shaL_len _
  have hls := leaf_len e
  rw [hpl]
  have hrs : (idCells root).size = 32 := by rw [idCells_size, hroot]
  obtain ⟨C, hC⟩ : ∃ C, idCells root = C := ⟨_, rfl⟩
  have HC := Lib.hid hC
  rw [hC] at hrs ⊢
  clear hp hC hpl he
  go_enter Try.func20, Try.ntmps20
  go_upto_region 0 with (fail)
  refine wp_region_seq [1, 1, 3] (fun _ => True) (by rfl) (by rfl) trivial ?_
  simp only [List.zip_cons_cons, List.zip_nil_right]
  refine wpPi_do rfl (fun K hK => ?_)
  refine wp_box 38 _ _ (by rfl) (by rfl) (fun w1 hB1 hm1 hs1 => ?_)
  replace hB1 : w1.heap[w.heap.size]? = some (.cells C 38 (0, 0)) := hB1
  refine hK _ _ trivial ?_
  clear hK K
  try simp only [pl, pn, el, ec, sz, ss, gz, gs, if_true, if_false, Bool.false_eq_true, Bool.not_true, Bool.not_false, Nat.add_zero, Nat.zero_add, Nat.reduceAdd]
  refine wpPi_do rfl (fun K hK => ?_)
  refine wp_box 35 _ _ (by rfl) (by rfl) (fun w2 hB2 hm2 hs2 => ?_)
  replace hB2 : w2.heap[w1.heap.size]? = some (.cells cs 35 (0, 0)) := hB2
  replace hB1 := hm2.obj id hB1
  refine hK _ _ trivial ?_
  clear hK K
  try simp only [pl, pn, el, ec, sz, ss, gz, gs, if_true, if_false, Bool.false_eq_true, Bool.not_true, Bool.not_false, Nat.add_zero, Nat.zero_add, Nat.reduceAdd]
  refine wpPi_assign _ rfl rfl ?_
  simp only [pl, pn, el, ec, sz, ss, gz, gs, if_true, if_false, Bool.false_eq_true, Bool.not_true, Bool.not_false, Nat.add_zero, Nat.zero_add, Nat.reduceAdd]
  refine wpPi_nil ?_
  have hM2 := hm1.trans0 hm2
  have hb3 : w.heap.size < w2.heap.size := by omega
  generalize w1.heap.size = b4 at *
  clear hm1 hm2
  go_upto_region 3 with (fail)
  refine wp_region_seq [1, 1, 1, 1, 1] (fun _ => True) (by rfl) (by rfl) trivial ?_
  simp only [List.zip_cons_cons, List.zip_nil_right]
  refine wpPi_do rfl (fun K hK => ?_)
  refine wp_exec (exec_loadA 35 _ (by rfl) b4 0 (by rfl) cs (CellsAt.whole hB2) _ Try.underlying35 rfl 2 (by kernel_rfl) hcs2) ?_
  refine hK _ _ trivial ?_
  clear hK K
  try simp only [pl, pn, el, ec, sz, ss, gz, gs, if_true, if_false, Bool.false_eq_true, Bool.not_true, Bool.not_false, Nat.add_zero, Nat.zero_add, Nat.reduceAdd]
  refine wpPi_do rfl (fun K hK => ?_)
  refine wp_enterQ (run_call 43 [.tmp 13] _ rfl _ Try.func43 rfl (by kernel_rfl) [.agg cs] rfl _) (of_any (HE.out.keep hM2 (fun _ _ => id)) h1 h2) ?_
  rintro e3 w3 ⟨rfl, hm3⟩
  refine ⟨_, rfl, hK _ _ trivial ?_⟩
  clear hK K
  try simp only [pl, pn, el, ec, sz, ss, gz, gs, if_true, if_false, Bool.false_eq_true, Bool.not_true, Bool.not_false, Nat.add_zero, Nat.zero_add, Nat.reduceAdd]
  refine wpPi_do rfl (fun K hK => ?_)
  refine wp_enterQ (run_call 44 [.tmp 14] _ rfl _ Try.func44 rfl (by kernel_rfl) [.agg (leafCells (leafOf e))] rfl _) (one_any _ hls _) ?_
  rintro e4 w4 ⟨rfl, hm4⟩
  generalize hdd : oneD (leafOf e) = d0 at *
  refine ⟨_, rfl, hK _ _ trivial ?_⟩
  clear hK K
  try simp only [pl, pn, el, ec, sz, ss, gz, gs, if_true, if_false, Bool.false_eq_true, Bool.not_true, Bool.not_false, Nat.add_zero, Nat.zero_add, Nat.reduceAdd]
  refine wpPi_do rfl (fun K hK => ?_)
  refine wp_alloc 38 _ (by rfl) idZ (fun w5 hB5 hm5 hs5 => ?_)
  replace hB5 : w5.heap[w4.heap.size]? = some (.cells (idCells (List.replicate 32 0)) 38 (0, 0)) := hB5
  refine hK _ _ trivial ?_
  clear hK K
  try simp only [pl, pn, el, ec, sz, ss, gz, gs, if_true, if_false, Bool.false_eq_true, Bool.not_true, Bool.not_false, Nat.add_zero, Nat.zero_add, Nat.reduceAdd]
  refine wpPi_do rfl (fun K hK => ?_)
  have hrd : (idCells d0).size = 32 := by rw [idCells_size, hd0]
  refine wp_storeA 38 _ _ w4.heap.size 0 (idCells d0) (by rfl) (by rfl) (by rfl) (idCells_one _) 32 (by kernel_rfl) hrd _ _ hB5 (by rw [hrd, idCells_size]; simp) (fun w6 hB6 hm6 => ?_)
  rw [putRow_whole (by rw [hrd, idCells_size]; rfl)] at hB6
  refine hK _ _ trivial ?_
  clear hK K
  try simp only [pl, pn, el, ec, sz, ss, gz, gs, if_true, if_false, Bool.false_eq_true, Bool.not_true, Bool.not_false, Nat.add_zero, Nat.zero_add, Nat.reduceAdd]
  refine wpPi_nil ?_
  have hM24 := hm3.trans0 hm4
  have hM6 : Mod NoB w2 w6 := (hM24.trans0 hm5).transB hm6 hM24.size
  have hMw := hM2.trans0 hM6
  replace hB1 := hM6.obj id hB1
  have hb7 : w2.heap.size ≤ w4.heap.size := hM24.size
  have HP6 := Lib.hid (Sl.keep0 (Sl.inside HP.out (by omega)) hMw)
  generalize w4.heap.size = b7 at *
  clear hm3 hm4 hm5 hm6 hM24 hB5 hB2 hM6 hM2
  go_wp2
  go_loopw [18] (PvRel ps d0 b7 w6) (fun i _ => ps.length - (intOf i).toNat)
  case atStart => exact ⟨0, by omega, rfl, by simpa using hB6, Mod.refl _ _⟩
  case round =>
    rename World => wr
    obtain ⟨k, hk, rfl, hrow, hm⟩ := hrel
    by_cases hlt : k < ps.length
    · have hz2 : (k : Int) < (ps.length : Int) := by omega
      have hpk := Sl.keepB HP6.out hm (fun q hq => by omega)
      obtain ⟨_, _, hv, -, hat⟩ := Sl.at hpk
      cases hv
      obtain ⟨bq, off, rfl, -, -, hc⟩ := hat k hlt
      obtain ⟨_, -, ⟨rfl, hso⟩, hc⟩ := hc k hlt
      have hss := sideCells_size ps[k]
      have hfs := fold_succ hlt d0
      have hfl := fold_len (ps.take k) d0 hd0
      have hfl2 := climb_len ((ps.take k).foldl climb d0) ps[k]
      have HFS := Lib.hid hfs
      clear hat hpk hfs
      generalize ps[k] = s at *
      obtain ⟨d, hd⟩ : ∃ d, (ps.take k).foldl climb d0 = d := ⟨_, rfl⟩
      rw [hd] at hrow hfl hfl2 HFS
      clear hd
      have hrd : (idCells d).size = 32 := by rw [idCells_size, hfl]
      have hro : (idCells s.2).size = 32 := by rw [idCells_size, hso]
      have hrc : (idCells (climb d s)).size = 32 := by rw [idCells_size, hfl2]
      go_upto_region 6 with (fail)
      refine wp_region_seq [3, 1, 1, 1] (fun _ => True) (by rfl) (by rfl) trivial ?_
      simp only [List.zip_cons_cons, List.zip_nil_right]
      refine wpPi_index _ _ _ _ _ _ _ _ _ rfl rfl rfl rfl Try.underlying41 (n := 33) (by kernel_rfl) hlt ?_
      simp only [pl, pn, el, ec, sz, ss, gz, gs, if_true, if_false, Bool.false_eq_true, Bool.not_true, Bool.not_false, Nat.add_zero, Nat.zero_add, Nat.reduceAdd]
      refine wpPi_do rfl (fun K hK => ?_)
      refine wp_exec (exec_loadA 84 _ (by rfl) bq (off + k * 33) (by rfl) (sideCells s) hc _ Try.underlying84 rfl 33 (by kernel_rfl) hss) ?_
      refine hK _ _ trivial ?_
      clear hK K
      try simp only [pl, pn, el, ec, sz, ss, gz, gs, if_true, if_false, Bool.false_eq_true, Bool.not_true, Bool.not_false, Nat.add_zero, Nat.zero_add, Nat.reduceAdd]
      refine wpPi_do rfl (fun K hK => ?_)
      refine wp_alloc 84 _ (by rfl) sideZ (fun w7 hB7 hm7 hs7 => ?_)
      replace hB7 : w7.heap[wr.heap.size]? = some (.cells (sideCells (false, zeroID)) 84 (0, 0)) := hB7
      refine hK _ _ trivial ?_
      clear hK K
      try simp only [pl, pn, el, ec, sz, ss, gz, gs, if_true, if_false, Bool.false_eq_true, Bool.not_true, Bool.not_false, Nat.add_zero, Nat.zero_add, Nat.reduceAdd]
      refine wpPi_do rfl (fun K hK => ?_)
      refine wp_storeA 84 _ _ wr.heap.size 0 (sideCells s) (by rfl) (by rfl) (by rfl) (sideCells_one _) 33 (by kernel_rfl) hss _ _ hB7 (by rw [hss, sideCells_size]; exact Nat.le_refl _) (fun w8 hB8 hm8 => ?_)
      rw [putRow_whole (by rw [hss, sideCells_size])] at hB8
      refine hK _ _ trivial ?_
      clear hK K
      try simp only [pl, pn, el, ec, sz, ss, gz, gs, if_true, if_false, Bool.false_eq_true, Bool.not_true, Bool.not_false, Nat.add_zero, Nat.zero_add, Nat.reduceAdd]
      refine wpPi_nil ?_
      have hm78 : Mod NoB wr w8 := hm7.transB hm8 (Nat.le_refl _)
      have hM8 : Mod (fun q => q = b7) w6 w8 := hm.trans (hm78.mono fun _ _ h => h.elim) (fun _ _ h => h)
      replace hrow := hm78.obj id hrow
      generalize wr.heap.size = b9 at *
      clear hm7 hm8 hm78 hm hB7 hc
      have hcs := CellsAt.whole hB8
      have hfg := side_flag hcs
      have hot := side_other hso hcs
      simp only [Nat.zero_add] at hfg hot
      have hcr := CellsAt.whole hrow
      go_upto_region 7 with (fail)
      cases hleft : s.1 with
      | true =>
        have hcl : climb d s = twoD s.2 d := by unfold climb; rw [if_pos hleft]
        rw [hcl] at hrc hfl2 HFS
        refine wp_region_seq [3, 1] (fun _ => True) (by rfl) (by rfl) trivial ?_
        simp only [List.zip_cons_cons, List.zip_nil_right]
        refine wpPi_field _ _ _ _ _ _ rfl rfl rfl fo_84_0 ?_
        simp only [pl, pn, el, ec, sz, ss, gz, gs, if_true, if_false, Bool.false_eq_true, Bool.not_true, Bool.not_false, Nat.add_zero, Nat.zero_add, Nat.reduceAdd]
        refine wpPi_do rfl (fun K hK => ?_)
        refine wp_exec (exec_load1 4 _ (by rfl) b9 0 (by rfl) (.bool true) (by rw [← hleft]; exact hfg) _ Try.underlying4 rfl) ?_
        refine hK _ _ trivial ?_
        clear hK K
        try simp only [pl, pn, el, ec, sz, ss, gz, gs, if_true, if_false, Bool.false_eq_true, Bool.not_true, Bool.not_false, Nat.add_zero, Nat.zero_add, Nat.reduceAdd]
        refine wpPi_nil ?_
        go_upto_region 8 with (fail)
        refine wp_region_seq [3, 1, 1, 1, 1] (fun _ => True) (by rfl) (by rfl) trivial ?_
        simp only [List.zip_cons_cons, List.zip_nil_right]
        refine wpPi_field _ _ _ _ _ _ rfl rfl rfl fo_84_1 ?_
        simp only [pl, pn, el, ec, sz, ss, gz, gs, if_true, if_false, Bool.false_eq_true, Bool.not_true, Bool.not_false, Nat.add_zero, Nat.zero_add, Nat.reduceAdd]
        refine wpPi_do rfl (fun K hK => ?_)
        refine wp_exec (exec_loadA 38 _ (by rfl) b9 1 (by rfl) (idCells s.2) hot _ Try.underlying38 rfl 32 (by kernel_rfl) hro) ?_
        refine hK _ _ trivial ?_
        clear hK K
        try simp only [pl, pn, el, ec, sz, ss, gz, gs, if_true, if_false, Bool.false_eq_true, Bool.not_true, Bool.not_false, Nat.add_zero, Nat.zero_add, Nat.reduceAdd]
        refine wpPi_do rfl (fun K hK => ?_)
        refine wp_exec (exec_loadA 38 _ (by rfl) b7 0 (by rfl) (idCells d) hcr _ Try.underlying38 rfl 32 (by kernel_rfl) hrd) ?_
        refine hK _ _ trivial ?_
        clear hK K
        try simp only [pl, pn, el, ec, sz, ss, gz, gs, if_true, if_false, Bool.false_eq_true, Bool.not_true, Bool.not_false, Nat.add_zero, Nat.zero_add, Nat.reduceAdd]
        refine wpPi_do rfl (fun K hK => ?_)
        refine wp_enterQ (run_call 45 [.tmp 25, .tmp 26] _ rfl _ Try.func45 rfl (by kernel_rfl) [.agg (idCells s.2), .agg (idCells d)] rfl _) (two_any s.2 d hso hfl _) ?_
        rintro e9 w9 ⟨rfl, hm9⟩
        replace hrow := hm9.obj id hrow
        generalize twoD s.2 d = y at *
        refine ⟨_, rfl, hK _ _ trivial ?_⟩
        clear hK K
        try simp only [pl, pn, el, ec, sz, ss, gz, gs, if_true, if_false, Bool.false_eq_true, Bool.not_true, Bool.not_false, Nat.add_zero, Nat.zero_add, Nat.reduceAdd]
        refine wpPi_do rfl (fun K hK => ?_)
        refine wp_storeA 38 _ _ b7 0 (idCells y) (by rfl) (by rfl) (by rfl) (idCells_one _) 32 (by kernel_rfl) hrc _ _ hrow (by rw [hrc, hrd]; exact Nat.le_refl _) (fun w10 hB10 hm10 => ?_)
        rw [putRow_whole (by rw [hrc, hrd])] at hB10
        have hM10 : Mod (fun q => q = b7) w6 w10 := (hM8.trans (hm9.mono fun _ _ h => h.elim) (fun _ _ h => h)).trans hm10 (fun _ _ h => h)
        refine hK _ _ trivial ?_
        clear hK K
        try simp only [pl, pn, el, ec, sz, ss, gz, gs, if_true, if_false, Bool.false_eq_true, Bool.not_true, Bool.not_false, Nat.add_zero, Nat.zero_add, Nat.reduceAdd]
        refine wpPi_nil ?_
        clear hm9 hm10 hM8 hrow hcr hot hfg hcs hB8
        go_wp2
        go_roundw
        case rel => exact ⟨k + 1, by omega, by go_num, by rw [HFS.out]; exact hB10, hM10⟩
        case measure => simp [intOf]; omega
      | false =>
        have hcl : climb d s = twoD d s.2 := by unfold climb; rw [if_neg (by rw [hleft]; simp)]
        rw [hcl] at hrc hfl2 HFS
        refine wp_region_seq [3, 1] (fun _ => True) (by rfl) (by rfl) trivial ?_
        simp only [List.zip_cons_cons, List.zip_nil_right]
        refine wpPi_field _ _ _ _ _ _ rfl rfl rfl fo_84_0 ?_
        simp only [pl, pn, el, ec, sz, ss, gz, gs, if_true, if_false, Bool.false_eq_true, Bool.not_true, Bool.not_false, Nat.add_zero, Nat.zero_add, Nat.reduceAdd]
        refine wpPi_do rfl (fun K hK => ?_)
        refine wp_exec (exec_load1 4 _ (by rfl) b9 0 (by rfl) (.bool false) (by rw [← hleft]; exact hfg) _ Try.underlying4 rfl) ?_
        refine hK _ _ trivial ?_
        clear hK K
        try simp only [pl, pn, el, ec, sz, ss, gz, gs, if_true, if_false, Bool.false_eq_true, Bool.not_true, Bool.not_false, Nat.add_zero, Nat.zero_add, Nat.reduceAdd]
        refine wpPi_nil ?_
        go_upto_region 9 with (fail)
        refine wp_region_seq [1, 3, 1, 1, 1] (fun _ => True) (by rfl) (by rfl) trivial ?_
        simp only [List.zip_cons_cons, List.zip_nil_right]
        refine wpPi_do rfl (fun K hK => ?_)
        refine wp_exec (exec_loadA 38 _ (by rfl) b7 0 (by rfl) (idCells d) hcr _ Try.underlying38 rfl 32 (by kernel_rfl) hrd) ?_
        refine hK _ _ trivial ?_
        clear hK K
        try simp only [pl, pn, el, ec, sz, ss, gz, gs, if_true, if_false, Bool.false_eq_true, Bool.not_true, Bool.not_false, Nat.add_zero, Nat.zero_add, Nat.reduceAdd]
        refine wpPi_field _ _ _ _ _ _ rfl rfl rfl fo_84_1 ?_
        simp only [pl, pn, el, ec, sz, ss, gz, gs, if_true, if_false, Bool.false_eq_true, Bool.not_true, Bool.not_false, Nat.add_zero, Nat.zero_add, Nat.reduceAdd]
        refine wpPi_do rfl (fun K hK => ?_)
        refine wp_exec (exec_loadA 38 _ (by rfl) b9 1 (by rfl) (idCells s.2) hot _ Try.underlying38 rfl 32 (by kernel_rfl) hro) ?_
        refine hK _ _ trivial ?_
        clear hK K
        try simp only [pl, pn, el, ec, sz, ss, gz, gs, if_true, if_false, Bool.false_eq_true, Bool.not_true, Bool.not_false, Nat.add_zero, Nat.zero_add, Nat.reduceAdd]
        refine wpPi_do rfl (fun K hK => ?_)
        refine wp_enterQ (run_call 45 [.tmp 28, .tmp 30] _ rfl _ Try.func45 rfl (by kernel_rfl) [.agg (idCells d), .agg (idCells s.2)] rfl _) (two_any d s.2 hfl hso _) ?_
        rintro e9 w9 ⟨rfl, hm9⟩
        replace hrow := hm9.obj id hrow
        generalize twoD d s.2 = y at *
        refine ⟨_, rfl, hK _ _ trivial ?_⟩
        clear hK K
        try simp only [pl, pn, el, ec, sz, ss, gz, gs, if_true, if_false, Bool.false_eq_true, Bool.not_true, Bool.not_false, Nat.add_zero, Nat.zero_add, Nat.reduceAdd]
        refine wpPi_do rfl (fun K hK => ?_)
        refine wp_storeA 38 _ _ b7 0 (idCells y) (by rfl) (by rfl) (by rfl) (idCells_one _) 32 (by kernel_rfl) hrc _ _ hrow (by rw [hrc, hrd]; exact Nat.le_refl _) (fun w10 hB10 hm10 => ?_)
        rw [putRow_whole (by rw [hrc, hrd])] at hB10
        have hM10 : Mod (fun q => q = b7) w6 w10 := (hM8.trans (hm9.mono fun _ _ h => h.elim) (fun _ _ h => h)).trans hm10 (fun _ _ h => h)
        refine hK _ _ trivial ?_
        clear hK K
        try simp only [pl, pn, el, ec, sz, ss, gz, gs, if_true, if_false, Bool.false_eq_true, Bool.not_true, Bool.not_false, Nat.add_zero, Nat.zero_add, Nat.reduceAdd]
        refine wpPi_nil ?_
        clear hm9 hm10 hM8 hrow hcr hot hfg hcs hB8
        go_wp2
        go_roundw
        case rel => exact ⟨k + 1, by omega, by go_num, by rw [HFS.out]; exact hB10, hM10⟩
        case measure => simp [intOf]; omega
    · have hz2 : ¬ (k : Int) < (ps.length : Int) := by omega
      obtain rfl : k = ps.length := by omega
      rw [List.take_length] at hrow
      have hfl := fold_len ps d0 hd0
      obtain ⟨d, hd⟩ : ∃ d, ps.foldl climb d0 = d := ⟨_, rfl⟩
      rw [hd] at hrow hfl
      have HD := Lib.hid hd
      clear hd
      have hrd : (idCells d).size = 32 := by rw [idCells_size, hfl]
      have hb1 := hm.obj (by omega) hB1
      have hMr : Mod NoB w wr := hMw.transB hm (by omega)
      clear hm
      go_upto_region 11 with (fail)
      refine wp_region_seq [1, 1, 0, 3] (fun _ => True) (by rfl) (by rfl) trivial ?_
      simp only [List.zip_cons_cons, List.zip_nil_right]
      refine wpPi_do rfl (fun K hK => ?_)
      refine wp_exec (exec_loadA 38 _ (by rfl) b7 0 (by rfl) (idCells d) (CellsAt.whole hrow) _ Try.underlying38 rfl 32 (by kernel_rfl) hrd) ?_
      refine hK _ _ trivial ?_
      clear hK K
      try simp only [pl, pn, el, ec, sz, ss, gz, gs, if_true, if_false, Bool.false_eq_true, Bool.not_true, Bool.not_false, Nat.add_zero, Nat.zero_add, Nat.reduceAdd]
      refine wpPi_do rfl (fun K hK => ?_)
      refine wp_exec (exec_loadA 38 _ (by rfl) w.heap.size 0 (by rfl) C (CellsAt.whole hb1) _ Try.underlying38 rfl 32 (by kernel_rfl) hrs) ?_
      refine hK _ _ trivial ?_
      clear hK K
      try simp only [pl, pn, el, ec, sz, ss, gz, gs, if_true, if_false, Bool.false_eq_true, Bool.not_true, Bool.not_false, Nat.add_zero, Nat.zero_add, Nat.reduceAdd]
      refine wpPi_val rfl (fun w' hS => exec_eql_id _ _ _ _ rfl d root rfl (by rw [HC.out]; rfl) 32 5 Try.underlying38 Try.underlying5 (by kernel_rfl) (by kernel_rfl) hfl hroot _ rfl) ?_
      simp only [pl, pn, el, ec, sz, ss, gz, gs, if_true, if_false, Bool.false_eq_true, Bool.not_true, Bool.not_false, Nat.add_zero, Nat.zero_add, Nat.reduceAdd]
      refine wpPi_assign _ rfl rfl ?_
      simp only [pl, pn, el, ec, sz, ss, gz, gs, if_true, if_false, Bool.false_eq_true, Bool.not_true, Bool.not_false, Nat.add_zero, Nat.zero_add, Nat.reduceAdd]
      refine wpPi_nil ?_
      go_wp2
      go_ret
      exact ⟨by rw [HD.out]; rfl, hMr⟩
end Go.Proofs.Ytchkikmmcmjcgaa

/- The chapter's examples: TreeKnown. -/
namespace Go.Proofs.Ytchkikmmcmjcgaa
set_option linter.unusedSimpArgs false
set_option linter.unusedVariables false
set_option linter.unnecessarySimpa false
set_option linter.unusedSectionVars false
open Go.RowKit Go.Shelf


theorem es_two {w : World} {b : Nat} {T : TypeId} {cs ds : Array Value} {e f : Ent} (hb : w.heap[b]? = some (.cells (cs ++ ds) T (0, 0))) (h : EntC w Ever cs e) (k : EntC w Ever ds f) : Es false w Ever (.slice (some ⟨b, 0, none⟩) 2 2) [e, f] := by
  have hcs := h.size
  have hds := k.size
  have hc := CellsAt.whole hb
  refine ⟨_, _, rfl, Nat.le_refl _, by unfold maxLen; omega, fun _ => ⟨b, 0, rfl, trivial, by simp [Owned], fun i hi => ?_⟩⟩
  match i, hi with
  | 0, _ => exact ⟨cs, hcs, h, fun j hj => by
      have := hc j (by simp; omega)
      rw [Array.getElem?_append_left hj] at this
      simpa using this⟩
  | 1, _ => exact ⟨ds, hds, k, fun j hj => by
      have := hc (2 + j) (by simp; omega)
      rw [Array.getElem?_append_right (by omega), hcs, Nat.add_sub_cancel_left] at this
      rw [show 0 + 1 * 2 + j = 0 + (2 + j) by omega]
      exact this⟩
theorem dif_self : difB [eAX] [eAX] 1 [] = true := by
  have he : errD [eAX] [eAX] = 0 := errD_self (chkE_few _ (by simp))
  have hd : difE [eAX] [eAX] = ([], 1) := dif_same rfl
  have hr : riseOf [] = [] := (riseOf_rise []).nil.2 rfl
  unfold difB
  rw [he, hd, hr]
  simp
set_option maxRecDepth 100000 in
theorem zero_ne : shaL [0] ≠ oneD (leafOf eAX) := by decide +kernel
theorem dif_nil_ax : difB [] [eAX] 1 [sA] = true := by
  have hcl : ¬ clash [] [eAX] := by
    rintro ⟨x, hx, -⟩
    cases hx
  have he : errD [] [eAX] = 0 := errD_zero.2 ⟨chkE_few _ (by simp), chkE_few _ (by simp), hcl⟩
  have hd : difE [] [eAX] = ([sA], 1) := by
    unfold difE leavesE
    rw [List.map_cons, List.map_nil, dif_few (by rw [dig_one, dig_nil]; exact zero_ne) (by simp)]
    simp [lackL]
    rfl
  have hr : riseOf [sA] = [sA] := (riseOf_rise _).one (fun x hx => by simpa using hx) (by simp)
  unfold difB
  rw [he, hd, hr]
  simp
theorem root_ax : rootOut [eAX] = oneD (leafOf eAX) := by rw [root_one]; rfl
theorem proves_ax : provesL (rootOut [eAX]) (leafOf eAX) [] = true := by unfold provesL; rw [root_ax]; simp
theorem proves_ay : provesL (rootOut [eAX]) (leafOf eAY) [] = false := by
  unfold provesL
  rw [root_ax, List.foldl_nil, decide_eq_false (p := oneD (leafOf eAY) = oneD (leafOf eAX)) (fun e => one_ne e.symm)]
  simp
theorem path_ax : errP [eAX] sA = 0 ∧ pathOut [eAX] sA = [] := by
  have h : errP [eAX] sA = 0 := by
    unfold errP
    rw [if_neg (by rw [chkE_few _ (by simp)]; simp), if_pos (hasK_iff.2 (by simp [keysE, eAX]))]
  refine ⟨h, ?_⟩
  unfold pathOut
  rw [if_pos h]
  exact path_few (by simp [leavesE])
theorem path_nil : errP [] sA = 26 := by
  unfold errP
  rw [if_neg (by rw [chkE_few _ (by simp)]; simp), if_neg (by simp [hasK, keysE])]
theorem chk_two : chkE [eAX, eAY] = 19 := by
  unfold chkE
  rw [if_neg (by simp), if_pos (by simp [eAX, eAY])]
end Go.Proofs.Ytchkikmmcmjcgaa

/- The chapter's examples are answered as it says. -/
namespace Go.Proofs.Ytchkikmmcmjcgaa
set_option linter.unusedSimpArgs false
set_option linter.unusedVariables false
set_option linter.unnecessarySimpa false
set_option linter.unusedSectionVars false
open Go.RowKit Go.Shelf


set_option maxRecDepth 10000 in
set_option maxHeartbeats 2000000 in
theorem treeKnown_any (w : World) : Calls Try.prog 4 #[] w (RetM (.bool true) w) := by
  have hc1 : chkE [eAX] = 0 := chkE_few _ (by simp)
  have HD1 := Lib.hid dif_self
  have HD2 := Lib.hid dif_nil_ax
  have HP1 := Lib.hid proves_ax
  have HP2 := Lib.hid proves_ay
  have HC2 := Lib.hid chk_two
  have hpx := path_ax
  have hpn := path_nil
  have hRl : (rootOut [eAX]).length = 32 := by rw [root_ax]; exact shaL_len _
  obtain ⟨R, hR⟩ : ∃ R, rootOut [eAX] = R := ⟨_, rfl⟩
  rw [hR] at HP1 HP2 hRl
  have hRr : (idCells R).size = 32 := by rw [idCells_size, hRl]
  go_enter Try.func4, Try.ntmps4
  go_upto_region 1 with (fail)
  refine wp_region_seq [1, 1, 3] (fun _ => True) (by rfl) (by rfl) trivial ?_
  simp only [List.zip_cons_cons, List.zip_nil_right]
  refine wpPi_do rfl (fun K hK => ?_)
  refine wp_enterQ (run_call 16 [.const (.string ⟨#[97]⟩), .const (.string ⟨#[120]⟩)] _ rfl _ Try.func16 rfl (by kernel_rfl) [.string ⟨#[97]⟩, .string ⟨#[120]⟩] rfl _) (lawOf_any ⟨#[97]⟩ ⟨#[120]⟩ (by decide) _) ?_
  rintro e w1 ⟨cs, rfl, hec, hm1⟩
  replace hec : EntC w1 Ever cs eAX := hec
  have hcs2 := hec.size
  refine ⟨_, rfl, hK _ _ trivial ?_⟩
  clear hK K
  try simp only [pl, pn, el, ec, sz, ss, gz, gs, if_true, if_false, Bool.false_eq_true, Bool.not_true, Bool.not_false, Nat.add_zero, Nat.zero_add, Nat.reduceAdd]
  refine wpPi_do rfl (fun K hK => ?_)
  refine wp_buildSlice1 22 35 _ (.agg cs) (.agg #[.string ⟨#[]⟩, .slice none 0 0]) 2 (by rfl) (by rfl) Try.underlying22 entry_i2 (by omega) (by omega) hcs2 (fun w2 hB2 hm2 hs2 => ?_)
  replace hB2 : w2.heap[w1.heap.size]? = some (.cells cs 35 (0, 0)) := hB2
  have hes := es_one hB2 (hec.keep hm2 (fun _ _ => id))
  refine hK _ _ trivial ?_
  clear hK K
  try simp only [pl, pn, el, ec, sz, ss, gz, gs, if_true, if_false, Bool.false_eq_true, Bool.not_true, Bool.not_false, Nat.add_zero, Nat.zero_add, Nat.reduceAdd]
  refine wpPi_assign _ rfl rfl ?_
  simp only [pl, pn, el, ec, sz, ss, gz, gs, if_true, if_false, Bool.false_eq_true, Bool.not_true, Bool.not_false, Nat.add_zero, Nat.zero_add, Nat.reduceAdd]
  refine wpPi_nil ?_
  have hM2 := hm1.trans0 hm2
  generalize w1.heap.size = bx at *
  clear hec hcs2 hB2 hm1 hm2
  have HES := Lib.hid hes
  clear hes
  go_upto_region 2 with (fail)
  refine wp_region_seq [3, 1, 3, 3, 3, 1, 1, 3] (fun _ => True) (by rfl) (by rfl) trivial ?_
  simp only [List.zip_cons_cons, List.zip_nil_right]
  refine wpPi_move _ rfl rfl ?_
  simp only [pl, pn, el, ec, sz, ss, gz, gs, if_true, if_false, Bool.false_eq_true, Bool.not_true, Bool.not_false, Nat.add_zero, Nat.zero_add, Nat.reduceAdd]
  refine wpPi_do rfl (fun K hK => ?_)
  refine wp_enterQ (run_call 17 [.tmp 11] _ rfl _ Try.func17 rfl (by kernel_rfl) [.slice (some ⟨bx, 0, none⟩) 1 1] rfl _) (root_any HES.out (short_one (by decide) (by decide)) (by simp)) ?_
  rintro e w3 ⟨rfl, hm3⟩
  rw [hc1, hR]
  refine ⟨_, rfl, hK _ _ trivial ?_⟩
  clear hK K
  try simp only [pl, pn, el, ec, sz, ss, gz, gs, if_true, if_false, Bool.false_eq_true, Bool.not_true, Bool.not_false, Nat.add_zero, Nat.zero_add, Nat.reduceAdd]
  refine wpPi_move _ rfl rfl ?_
  simp only [pl, pn, el, ec, sz, ss, gz, gs, if_true, if_false, Bool.false_eq_true, Bool.not_true, Bool.not_false, Nat.add_zero, Nat.zero_add, Nat.reduceAdd]
  refine wpPi_any (v := ?_) rfl (fun w' => ?_) ?_; rotate_left; · (go_simp; try with_reducible rfl)
  simp only [pl, pn, el, ec, sz, ss, gz, gs, if_true, if_false, Bool.false_eq_true, Bool.not_true, Bool.not_false, Nat.add_zero, Nat.zero_add, Nat.reduceAdd]
  refine wpPi_any (v := ?_) rfl (fun w' => ?_) ?_; rotate_left; · (go_simp; try with_reducible rfl)
  simp only [pl, pn, el, ec, sz, ss, gz, gs, if_true, if_false, Bool.false_eq_true, Bool.not_true, Bool.not_false, Nat.add_zero, Nat.zero_add, Nat.reduceAdd]
  refine wpPi_do rfl (fun K hK => ?_)
  refine wp_alloc 38 _ (by rfl) idZ (fun w4 hB4 hm4 hs4 => ?_)
  replace hB4 : w4.heap[w3.heap.size]? = some (.cells (idCells (List.replicate 32 0)) 38 (0, 0)) := hB4
  refine hK _ _ trivial ?_
  clear hK K
  try simp only [pl, pn, el, ec, sz, ss, gz, gs, if_true, if_false, Bool.false_eq_true, Bool.not_true, Bool.not_false, Nat.add_zero, Nat.zero_add, Nat.reduceAdd]
  refine wpPi_do rfl (fun K hK => ?_)
  refine wp_storeA 38 _ _ w3.heap.size 0 (idCells R) (by rfl) (by rfl) (by rfl) (idCells_one _) 32 (by kernel_rfl) hRr _ _ hB4 (by rw [hRr, idCells_size]; simp) (fun w5 hB5 hm5 => ?_)
  rw [putRow_whole (by rw [hRr, idCells_size]; rfl)] at hB5
  refine hK _ _ trivial ?_
  clear hK K
  try simp only [pl, pn, el, ec, sz, ss, gz, gs, if_true, if_false, Bool.false_eq_true, Bool.not_true, Bool.not_false, Nat.add_zero, Nat.zero_add, Nat.reduceAdd]
  refine wpPi_assign _ rfl rfl ?_
  simp only [pl, pn, el, ec, sz, ss, gz, gs, if_true, if_false, Bool.false_eq_true, Bool.not_true, Bool.not_false, Nat.add_zero, Nat.zero_add, Nat.reduceAdd]
  refine wpPi_nil ?_
  have hM5 : Mod NoB w2 w5 := (hm3.trans0 hm4).transB hm5 hm3.size
  generalize w3.heap.size = b2 at *
  clear hm3 hm4 hm5 hB4 hc1 hR
  go_upto_region 3 with (fail)
  refine wp_region_seq [3, 1, 3, 3, 3, 3, 3] (fun _ => True) (by rfl) (by rfl) trivial ?_
  simp only [List.zip_cons_cons, List.zip_nil_right]
  refine wpPi_move _ rfl rfl ?_
  simp only [pl, pn, el, ec, sz, ss, gz, gs, if_true, if_false, Bool.false_eq_true, Bool.not_true, Bool.not_false, Nat.add_zero, Nat.zero_add, Nat.reduceAdd]
  refine wpPi_do rfl (fun K hK => ?_)
  refine wp_enterQ (run_call 18 [.tmp 16, .const (.string ⟨#[97]⟩)] _ rfl _ Try.func18 rfl (by kernel_rfl) [.slice (some ⟨bx, 0, none⟩) 1 1, .string ⟨#[97]⟩] rfl _) (treePath_any (HES.out.keep0 hM5) (short_one (by decide) (by decide)) (by simp) ⟨#[97]⟩ (by decide)) ?_
  rintro e w6 ⟨v6, rfl, hg6, hm6⟩
  rw [show (⟨#[97]⟩ : ByteArray) = sA from rfl] at hg6 ⊢
  rw [hpx.1]
  rw [hpx.2] at hg6
  have hM6 := hM5.trans0 hm6
  replace hB5 := hm6.obj id hB5
  obtain ⟨ad6, cap6, rfl⟩ := hg6.slice
  refine ⟨_, rfl, hK _ _ trivial ?_⟩
  clear hK K
  try simp only [pl, pn, el, ec, sz, ss, gz, gs, if_true, if_false, Bool.false_eq_true, Bool.not_true, Bool.not_false, Nat.add_zero, Nat.zero_add, Nat.reduceAdd]
  refine wpPi_move _ rfl rfl ?_
  simp only [pl, pn, el, ec, sz, ss, gz, gs, if_true, if_false, Bool.false_eq_true, Bool.not_true, Bool.not_false, Nat.add_zero, Nat.zero_add, Nat.reduceAdd]
  refine wpPi_any (v := ?_) rfl (fun w' => ?_) ?_; rotate_left; · (go_simp; try with_reducible rfl)
  simp only [pl, pn, el, ec, sz, ss, gz, gs, if_true, if_false, Bool.false_eq_true, Bool.not_true, Bool.not_false, Nat.add_zero, Nat.zero_add, Nat.reduceAdd]
  refine wpPi_any (v := ?_) rfl (fun w' => ?_) ?_; rotate_left; · (go_simp; try with_reducible rfl)
  simp only [pl, pn, el, ec, sz, ss, gz, gs, if_true, if_false, Bool.false_eq_true, Bool.not_true, Bool.not_false, Nat.add_zero, Nat.zero_add, Nat.reduceAdd]
  refine wpPi_assign _ rfl rfl ?_
  simp only [pl, pn, el, ec, sz, ss, gz, gs, if_true, if_false, Bool.false_eq_true, Bool.not_true, Bool.not_false, Nat.add_zero, Nat.zero_add, Nat.reduceAdd]
  refine wpPi_assign _ rfl rfl ?_
  simp only [pl, pn, el, ec, sz, ss, gz, gs, if_true, if_false, Bool.false_eq_true, Bool.not_true, Bool.not_false, Nat.add_zero, Nat.zero_add, Nat.reduceAdd]
  refine wpPi_nil ?_
  clear hm6 hM5 hg6 hpx
  go_upto_region 4 with (fail)
  refine wp_region_seq [1, 3, 3, 3, 3, 3] (fun _ => True) (by rfl) (by rfl) trivial ?_
  simp only [List.zip_cons_cons, List.zip_nil_right]
  refine wpPi_do rfl (fun K hK => ?_)
  refine wp_enterQ (run_call 18 [.const (.slice none 0 0), .const (.string ⟨#[97]⟩)] _ rfl _ Try.func18 rfl (by kernel_rfl) [.slice none 0 0, .string ⟨#[97]⟩] rfl _) (treePath_any (own := false) (G := Ever) (es := []) (Sl.nil _ _ _ _ _) short_nil (by simp) ⟨#[97]⟩ (by decide)) ?_
  rintro e w7 ⟨v7, rfl, hg7, hm7⟩
  rw [show (⟨#[97]⟩ : ByteArray) = sA from rfl]
  rw [hpn]
  have hM7 := hM6.trans0 hm7
  replace hB5 := hm7.obj id hB5
  refine ⟨_, rfl, hK _ _ trivial ?_⟩
  clear hK K
  try simp only [pl, pn, el, ec, sz, ss, gz, gs, if_true, if_false, Bool.false_eq_true, Bool.not_true, Bool.not_false, Nat.add_zero, Nat.zero_add, Nat.reduceAdd]
  refine wpPi_move _ rfl rfl ?_
  simp only [pl, pn, el, ec, sz, ss, gz, gs, if_true, if_false, Bool.false_eq_true, Bool.not_true, Bool.not_false, Nat.add_zero, Nat.zero_add, Nat.reduceAdd]
  refine wpPi_any (v := ?_) rfl (fun w' => ?_) ?_; rotate_left; · (go_simp; try with_reducible rfl)
  simp only [pl, pn, el, ec, sz, ss, gz, gs, if_true, if_false, Bool.false_eq_true, Bool.not_true, Bool.not_false, Nat.add_zero, Nat.zero_add, Nat.reduceAdd]
  refine wpPi_any (v := ?_) rfl (fun w' => ?_) ?_; rotate_left; · (go_simp; try with_reducible rfl)
  simp only [pl, pn, el, ec, sz, ss, gz, gs, if_true, if_false, Bool.false_eq_true, Bool.not_true, Bool.not_false, Nat.add_zero, Nat.zero_add, Nat.reduceAdd]
  refine wpPi_assign _ rfl rfl ?_
  simp only [pl, pn, el, ec, sz, ss, gz, gs, if_true, if_false, Bool.false_eq_true, Bool.not_true, Bool.not_false, Nat.add_zero, Nat.zero_add, Nat.reduceAdd]
  refine wpPi_assign _ rfl rfl ?_
  simp only [pl, pn, el, ec, sz, ss, gz, gs, if_true, if_false, Bool.false_eq_true, Bool.not_true, Bool.not_false, Nat.add_zero, Nat.zero_add, Nat.reduceAdd]
  refine wpPi_nil ?_
  clear hm7 hM6 hg7 hpn
  have HES7 := Lib.hid (HES.out.keep0 hM7)
  have hcR := CellsAt.whole hB5
  have hMw := hM2.trans0 hM7
  clear HES hB5 hM7 hM2
  go_upto_region 5 with (fail)
  have hS : Mod NoB w7 w7.drew := (Mod.refl _ _).drew
  refine wp_region_pi [(0, 1), (1, 3), (2, 3), (3, 3), (4, 1), (5, 3), (6, 3), (7, 3), (8, 1), (9, 1), (10, 3), (11, 3), (12, 3), (13, 3), (14, 3), (15, 3), (16, 3), (17, 3), (18, 3), (19, 3), (20, 3), (21, 3), (22, 3), (23, 3), (24, 3), (25, 0), (26, 1), (27, 1), (28, 3), (29, 3), (30, 0), (31, 1), (32, 1), (33, 3), (34, 3), (35, 3), (36, 3), (37, 3), (38, 3), (39, 3), (40, 1), (41, 1), (42, 1), (43, 1), (44, 3), (45, 3), (46, 3)] [] (fun w' => Mod NoB w7 w') (by kernel_rfl) (by kernel_rfl) (by kernel_rfl) (by kernel_rfl) (fun _ _ _ _ hd h => ⟨hd.trans h.1, h.2⟩) hS ?_
  simp only [List.map_cons, List.map_nil, List.getD_cons_zero, List.getD_cons_succ]
  refine wpPi_do rfl (fun K hK => ?_)
  refine wp_enterQ (run_call 9 [] _ rfl _ Try.func9 rfl (by kernel_rfl) [] rfl _) (awake_any _) ?_
  rintro e wa ⟨rfl, hma⟩
  have hSa := hS.trans0 hma
  refine ⟨_, rfl, hK _ _ hSa ?_⟩
  clear hK K
  try simp only [pl, pn, el, ec, sz, ss, gz, gs, if_true, if_false, Bool.false_eq_true, Bool.not_true, Bool.not_false, Nat.add_zero, Nat.zero_add, Nat.reduceAdd]
  refine wpPi_move _ rfl rfl ?_
  simp only [pl, pn, el, ec, sz, ss, gz, gs, if_true, if_false, Bool.false_eq_true, Bool.not_true, Bool.not_false, Nat.add_zero, Nat.zero_add, Nat.reduceAdd]
  refine wpPi_move _ rfl rfl ?_
  simp only [pl, pn, el, ec, sz, ss, gz, gs, if_true, if_false, Bool.false_eq_true, Bool.not_true, Bool.not_false, Nat.add_zero, Nat.zero_add, Nat.reduceAdd]
  refine wpPi_move _ rfl rfl ?_
  simp only [pl, pn, el, ec, sz, ss, gz, gs, if_true, if_false, Bool.false_eq_true, Bool.not_true, Bool.not_false, Nat.add_zero, Nat.zero_add, Nat.reduceAdd]
  refine wpPi_do rfl (fun K hK => ?_)
  refine wp_enterQ (run_call 19 [.tmp 26, .tmp 27, .const (.int .i64 1), .const (.slice none 0 0)] _ rfl _ Try.func19 rfl (by kernel_rfl) [.slice (some ⟨bx, 0, none⟩) 1 1, .slice (some ⟨bx, 0, none⟩) 1 1, .int .i64 1, .slice none 0 0] rfl _) (differs_any (o2 := false) (G2 := Ever) (want := []) (HES7.out.keep0 hSa) (HES7.out.keep0 hSa) (Sl.nil _ _ _ _ _) (short_one (by decide) (by decide)) (short_one (by decide) (by decide)) (by simp) (by simp) 1) ?_
  rintro e wb ⟨rfl, hmb⟩
  rw [HD1.out]
  have hSb := hSa.trans0 hmb
  refine ⟨_, rfl, hK _ _ hSb ?_⟩
  clear hK K
  try simp only [pl, pn, el, ec, sz, ss, gz, gs, if_true, if_false, Bool.false_eq_true, Bool.not_true, Bool.not_false, Nat.add_zero, Nat.zero_add, Nat.reduceAdd]
  refine wpPi_pick _ _ _ _ rfl rfl rfl ?_
  simp only [pl, pn, el, ec, sz, ss, gz, gs, if_true, if_false, Bool.false_eq_true, Bool.not_true, Bool.not_false, Nat.add_zero, Nat.zero_add, Nat.reduceAdd]
  refine wpPi_move _ rfl rfl ?_
  simp only [pl, pn, el, ec, sz, ss, gz, gs, if_true, if_false, Bool.false_eq_true, Bool.not_true, Bool.not_false, Nat.add_zero, Nat.zero_add, Nat.reduceAdd]
  refine wpPi_move _ rfl rfl ?_
  simp only [pl, pn, el, ec, sz, ss, gz, gs, if_true, if_false, Bool.false_eq_true, Bool.not_true, Bool.not_false, Nat.add_zero, Nat.zero_add, Nat.reduceAdd]
  refine wpPi_do rfl (fun K hK => ?_)
  refine wp_buildSlice1 26 9 _ (.string sA) (.string ⟨#[]⟩) 1 (by rfl) (by rfl) Try.underlying26 str_i2 (by omega) (by omega) rfl (fun wc hBc hmc hsc => ?_)
  have htx := txt_one hBc
  have hSc := hSb.trans0 hmc
  refine hK _ _ hSc ?_
  clear hK K
  try simp only [pl, pn, el, ec, sz, ss, gz, gs, if_true, if_false, Bool.false_eq_true, Bool.not_true, Bool.not_false, Nat.add_zero, Nat.zero_add, Nat.reduceAdd]
  refine wpPi_do rfl (fun K hK => ?_)
  refine wp_enterQ (run_call 19 [.const (.slice none 0 0), .tmp 31, .const (.int .i64 1), .tmp 32] _ rfl _ Try.func19 rfl (by kernel_rfl) [.slice none 0 0, .slice (some ⟨bx, 0, none⟩) 1 1, .int .i64 1, .slice (some ⟨wb.heap.size, 0, none⟩) 1 1] rfl _) (differs_any (own := false) (G := Ever) (a := []) (Sl.nil _ _ _ _ _) (HES7.out.keep0 hSc) htx short_nil (short_one (by decide) (by decide)) (by simp) (by simp) 1) ?_
  rintro e wd ⟨rfl, hmd⟩
  rw [HD2.out]
  have hSd := hSc.trans0 hmd
  refine ⟨_, rfl, hK _ _ hSd ?_⟩
  clear hK K
  try simp only [pl, pn, el, ec, sz, ss, gz, gs, if_true, if_false, Bool.false_eq_true, Bool.not_true, Bool.not_false, Nat.add_zero, Nat.zero_add, Nat.reduceAdd]
  refine wpPi_pick _ _ _ _ rfl rfl rfl ?_
  simp only [pl, pn, el, ec, sz, ss, gz, gs, if_true, if_false, Bool.false_eq_true, Bool.not_true, Bool.not_false, Nat.add_zero, Nat.zero_add, Nat.reduceAdd]
  refine wpPi_move _ rfl rfl ?_
  simp only [pl, pn, el, ec, sz, ss, gz, gs, if_true, if_false, Bool.false_eq_true, Bool.not_true, Bool.not_false, Nat.add_zero, Nat.zero_add, Nat.reduceAdd]
  refine wpPi_move _ rfl rfl ?_
  simp only [pl, pn, el, ec, sz, ss, gz, gs, if_true, if_false, Bool.false_eq_true, Bool.not_true, Bool.not_false, Nat.add_zero, Nat.zero_add, Nat.reduceAdd]
  refine wpPi_any (v := ?_) rfl (fun w' => ?_) ?_; rotate_left; · (go_simp; try with_reducible rfl)
  simp only [pl, pn, el, ec, sz, ss, gz, gs, if_true, if_false, Bool.false_eq_true, Bool.not_true, Bool.not_false, Nat.add_zero, Nat.zero_add, Nat.reduceAdd]
  refine wpPi_pick _ _ _ _ rfl rfl rfl ?_
  simp only [pl, pn, el, ec, sz, ss, gz, gs, if_true, if_false, Bool.false_eq_true, Bool.not_true, Bool.not_false, Nat.add_zero, Nat.zero_add, Nat.reduceAdd]
  refine wpPi_move _ rfl rfl ?_
  simp only [pl, pn, el, ec, sz, ss, gz, gs, if_true, if_false, Bool.false_eq_true, Bool.not_true, Bool.not_false, Nat.add_zero, Nat.zero_add, Nat.reduceAdd]
  refine wpPi_move _ rfl rfl ?_
  simp only [pl, pn, el, ec, sz, ss, gz, gs, if_true, if_false, Bool.false_eq_true, Bool.not_true, Bool.not_false, Nat.add_zero, Nat.zero_add, Nat.reduceAdd]
  refine wpPi_any (v := ?_) rfl (fun w' => ?_) ?_; rotate_left; · (go_simp; try with_reducible rfl)
  simp only [pl, pn, el, ec, sz, ss, gz, gs, if_true, if_false, Bool.false_eq_true, Bool.not_true, Bool.not_false, Nat.add_zero, Nat.zero_add, Nat.reduceAdd]
  refine wpPi_pick _ _ _ _ rfl rfl rfl ?_
  simp only [pl, pn, el, ec, sz, ss, gz, gs, if_true, if_false, Bool.false_eq_true, Bool.not_true, Bool.not_false, Nat.add_zero, Nat.zero_add, Nat.reduceAdd]
  refine wpPi_move _ rfl rfl ?_
  simp only [pl, pn, el, ec, sz, ss, gz, gs, if_true, if_false, Bool.false_eq_true, Bool.not_true, Bool.not_false, Nat.add_zero, Nat.zero_add, Nat.reduceAdd]
  refine wpPi_move _ rfl rfl ?_
  simp only [pl, pn, el, ec, sz, ss, gz, gs, if_true, if_false, Bool.false_eq_true, Bool.not_true, Bool.not_false, Nat.add_zero, Nat.zero_add, Nat.reduceAdd]
  refine wpPi_len _ _ _ _ _ rfl rfl rfl (by kernel_rfl) ?_
  simp only [pl, pn, el, ec, sz, ss, gz, gs, if_true, if_false, Bool.false_eq_true, Bool.not_true, Bool.not_false, Nat.add_zero, Nat.zero_add, Nat.reduceAdd]
  refine wpPi_any (v := ?_) rfl (fun w' => ?_) ?_; rotate_left; · (go_simp; try with_reducible rfl)
  simp only [pl, pn, el, ec, sz, ss, gz, gs, if_true, if_false, Bool.false_eq_true, Bool.not_true, Bool.not_false, Nat.add_zero, Nat.zero_add, Nat.reduceAdd]
  refine wpPi_pick _ _ _ _ rfl rfl rfl ?_
  simp only [pl, pn, el, ec, sz, ss, gz, gs, if_true, if_false, Bool.false_eq_true, Bool.not_true, Bool.not_false, Nat.add_zero, Nat.zero_add, Nat.reduceAdd]
  refine wpPi_move _ rfl rfl ?_
  simp only [pl, pn, el, ec, sz, ss, gz, gs, if_true, if_false, Bool.false_eq_true, Bool.not_true, Bool.not_false, Nat.add_zero, Nat.zero_add, Nat.reduceAdd]
  refine wpPi_val rfl (fun w' hS => exec_loadA 38 _ (by rfl) b2 0 (by rfl) (idCells R) (hcR.keep hS id) _ Try.underlying38 rfl 32 (by kernel_rfl) hRr) ?_
  simp only [pl, pn, el, ec, sz, ss, gz, gs, if_true, if_false, Bool.false_eq_true, Bool.not_true, Bool.not_false, Nat.add_zero, Nat.zero_add, Nat.reduceAdd]
  refine wpPi_do rfl (fun K hK => ?_)
  refine wp_enterQ (run_call 16 [.const (.string ⟨#[97]⟩), .const (.string ⟨#[120]⟩)] _ rfl _ Try.func16 rfl (by kernel_rfl) [.string ⟨#[97]⟩, .string ⟨#[120]⟩] rfl _) (lawOf_any ⟨#[97]⟩ ⟨#[120]⟩ (by decide) _) ?_
  rintro e we ⟨cs1, rfl, hec1, hme⟩
  replace hec1 : EntC we Ever cs1 eAX := hec1
  have hSe := hSd.trans0 hme
  refine ⟨_, rfl, hK _ _ hSe ?_⟩
  clear hK K
  try simp only [pl, pn, el, ec, sz, ss, gz, gs, if_true, if_false, Bool.false_eq_true, Bool.not_true, Bool.not_false, Nat.add_zero, Nat.zero_add, Nat.reduceAdd]
  refine wpPi_do rfl (fun K hK => ?_)
  refine wp_enterQ (run_call 20 [.tmp 49, .tmp 50, .const (.slice none 0 0)] _ rfl _ Try.func20 rfl (by kernel_rfl) [.agg (idCells R), .agg cs1, .slice none 0 0] rfl _) (proves_any (own := false) (G' := Ever) (ps := []) R hRl hec1 (by decide) (by decide) (Sl.nil _ _ _ _ _)) ?_
  rintro e wf ⟨rfl, hmf⟩
  rw [HP1.out]
  have hSf := hSe.trans0 hmf
  refine ⟨_, rfl, hK _ _ hSf ?_⟩
  clear hK K
  try simp only [pl, pn, el, ec, sz, ss, gz, gs, if_true, if_false, Bool.false_eq_true, Bool.not_true, Bool.not_false, Nat.add_zero, Nat.zero_add, Nat.reduceAdd]
  refine wpPi_pick _ _ _ _ rfl rfl rfl ?_
  simp only [pl, pn, el, ec, sz, ss, gz, gs, if_true, if_false, Bool.false_eq_true, Bool.not_true, Bool.not_false, Nat.add_zero, Nat.zero_add, Nat.reduceAdd]
  refine wpPi_move _ rfl rfl ?_
  simp only [pl, pn, el, ec, sz, ss, gz, gs, if_true, if_false, Bool.false_eq_true, Bool.not_true, Bool.not_false, Nat.add_zero, Nat.zero_add, Nat.reduceAdd]
  refine wpPi_val rfl (fun w' hS => exec_loadA 38 _ (by rfl) b2 0 (by rfl) (idCells R) (hcR.keep hS id) _ Try.underlying38 rfl 32 (by kernel_rfl) hRr) ?_
  simp only [pl, pn, el, ec, sz, ss, gz, gs, if_true, if_false, Bool.false_eq_true, Bool.not_true, Bool.not_false, Nat.add_zero, Nat.zero_add, Nat.reduceAdd]
  refine wpPi_do rfl (fun K hK => ?_)
  refine wp_enterQ (run_call 16 [.const (.string ⟨#[97]⟩), .const (.string ⟨#[121]⟩)] _ rfl _ Try.func16 rfl (by kernel_rfl) [.string ⟨#[97]⟩, .string ⟨#[121]⟩] rfl _) (lawOf_any ⟨#[97]⟩ ⟨#[121]⟩ (by decide) _) ?_
  rintro e wg ⟨cs2, rfl, hec2, hmg⟩
  replace hec2 : EntC wg Ever cs2 eAY := hec2
  have hSg := hSf.trans0 hmg
  refine ⟨_, rfl, hK _ _ hSg ?_⟩
  clear hK K
  try simp only [pl, pn, el, ec, sz, ss, gz, gs, if_true, if_false, Bool.false_eq_true, Bool.not_true, Bool.not_false, Nat.add_zero, Nat.zero_add, Nat.reduceAdd]
  refine wpPi_do rfl (fun K hK => ?_)
  refine wp_enterQ (run_call 20 [.tmp 54, .tmp 55, .const (.slice none 0 0)] _ rfl _ Try.func20 rfl (by kernel_rfl) [.agg (idCells R), .agg cs2, .slice none 0 0] rfl _) (proves_any (own := false) (G' := Ever) (ps := []) R hRl hec2 (by decide) (by decide) (Sl.nil _ _ _ _ _)) ?_
  rintro e wh ⟨rfl, hmh⟩
  rw [HP2.out]
  have hSh := hSg.trans0 hmh
  refine ⟨_, rfl, hK _ _ hSh ?_⟩
  clear hK K
  try simp only [pl, pn, el, ec, sz, ss, gz, gs, if_true, if_false, Bool.false_eq_true, Bool.not_true, Bool.not_false, Nat.add_zero, Nat.zero_add, Nat.reduceAdd]
  refine wpPi_not _ _ _ rfl rfl rfl ?_
  simp only [pl, pn, el, ec, sz, ss, gz, gs, if_true, if_false, Bool.false_eq_true, Bool.not_true, Bool.not_false, Nat.add_zero, Nat.zero_add, Nat.reduceAdd]
  refine wpPi_pick _ _ _ _ rfl rfl rfl ?_
  simp only [pl, pn, el, ec, sz, ss, gz, gs, if_true, if_false, Bool.false_eq_true, Bool.not_true, Bool.not_false, Nat.add_zero, Nat.zero_add, Nat.reduceAdd]
  refine wpPi_move _ rfl rfl ?_
  simp only [pl, pn, el, ec, sz, ss, gz, gs, if_true, if_false, Bool.false_eq_true, Bool.not_true, Bool.not_false, Nat.add_zero, Nat.zero_add, Nat.reduceAdd]
  refine wpPi_move _ rfl rfl ?_
  simp only [pl, pn, el, ec, sz, ss, gz, gs, if_true, if_false, Bool.false_eq_true, Bool.not_true, Bool.not_false, Nat.add_zero, Nat.zero_add, Nat.reduceAdd]
  refine wpPi_any (v := ?_) rfl (fun w' => ?_) ?_; rotate_left; · (go_simp; try with_reducible rfl)
  simp only [pl, pn, el, ec, sz, ss, gz, gs, if_true, if_false, Bool.false_eq_true, Bool.not_true, Bool.not_false, Nat.add_zero, Nat.zero_add, Nat.reduceAdd]
  refine wpPi_pick _ _ _ _ rfl rfl rfl ?_
  simp only [pl, pn, el, ec, sz, ss, gz, gs, if_true, if_false, Bool.false_eq_true, Bool.not_true, Bool.not_false, Nat.add_zero, Nat.zero_add, Nat.reduceAdd]
  refine wpPi_move _ rfl rfl ?_
  simp only [pl, pn, el, ec, sz, ss, gz, gs, if_true, if_false, Bool.false_eq_true, Bool.not_true, Bool.not_false, Nat.add_zero, Nat.zero_add, Nat.reduceAdd]
  refine wpPi_do rfl (fun K hK => ?_)
  refine wp_enterQ (run_call 16 [.const (.string ⟨#[97]⟩), .const (.string ⟨#[120]⟩)] _ rfl _ Try.func16 rfl (by kernel_rfl) [.string ⟨#[97]⟩, .string ⟨#[120]⟩] rfl _) (lawOf_any ⟨#[97]⟩ ⟨#[120]⟩ (by decide) _) ?_
  rintro e wi ⟨cs3, rfl, hec3, hmi⟩
  replace hec3 : EntC wi Ever cs3 eAX := hec3
  have hSi := hSh.trans0 hmi
  refine ⟨_, rfl, hK _ _ hSi ?_⟩
  clear hK K
  try simp only [pl, pn, el, ec, sz, ss, gz, gs, if_true, if_false, Bool.false_eq_true, Bool.not_true, Bool.not_false, Nat.add_zero, Nat.zero_add, Nat.reduceAdd]
  refine wpPi_do rfl (fun K hK => ?_)
  refine wp_enterQ (run_call 16 [.const (.string ⟨#[97]⟩), .const (.string ⟨#[121]⟩)] _ rfl _ Try.func16 rfl (by kernel_rfl) [.string ⟨#[97]⟩, .string ⟨#[121]⟩] rfl _) (lawOf_any ⟨#[97]⟩ ⟨#[121]⟩ (by decide) _) ?_
  rintro e wj ⟨cs4, rfl, hec4, hmj⟩
  replace hec4 : EntC wj Ever cs4 eAY := hec4
  replace hec3 := hec3.keep hmj (fun _ _ => id)
  have hc3 := hec3.size
  have hc4 := hec4.size
  have hSj := hSi.trans0 hmj
  refine ⟨_, rfl, hK _ _ hSj ?_⟩
  clear hK K
  try simp only [pl, pn, el, ec, sz, ss, gz, gs, if_true, if_false, Bool.false_eq_true, Bool.not_true, Bool.not_false, Nat.add_zero, Nat.zero_add, Nat.reduceAdd]
  refine wpPi_do rfl (fun K hK => ?_)
  refine wp_buildSliceL 22 35 2 [(0, _), (1, _)] [.agg cs3, .agg cs4] (.agg #[.string ⟨#[]⟩, .slice none 0 0]) 2 (by rfl) (by rfl) (by rfl) Try.underlying22 entry_i2 (by omega) (by omega) (by intro v hv; simp only [List.mem_cons, List.not_mem_nil, or_false] at hv; rcases hv with rfl | rfl <;> assumption) (fun wk hBk hmk hsk => ?_)
  replace hBk : wk.heap[wj.heap.size]? = some (.cells (cs3 ++ cs4) 35 (0, 0)) := by
    rw [hBk]; simp [Value.cells]
  have hes2 := es_two hBk (hec3.keep hmk (fun _ _ => id)) (hec4.keep hmk (fun _ _ => id))
  have hSk := hSj.trans0 hmk
  refine hK _ _ hSk ?_
  clear hK K
  try simp only [pl, pn, el, ec, sz, ss, gz, gs, if_true, if_false, Bool.false_eq_true, Bool.not_true, Bool.not_false, Nat.add_zero, Nat.zero_add, Nat.reduceAdd]
  refine wpPi_do rfl (fun K hK => ?_)
  refine wp_enterQ (run_call 21 [.tmp 66] _ rfl _ Try.func21 rfl (by kernel_rfl) [.slice (some ⟨wj.heap.size, 0, none⟩) 2 2] rfl _) (check_any hes2 (fun x hx => by simp only [List.mem_cons, List.not_mem_nil, or_false] at hx; rcases hx with rfl | rfl <;> exact ⟨by decide, by decide⟩) (by simp)) ?_
  rintro e wl ⟨rfl, hml⟩
  rw [HC2.out]
  have hSl := hSk.trans0 hml
  refine ⟨_, rfl, hK _ _ hSl ?_⟩
  clear hK K
  try simp only [pl, pn, el, ec, sz, ss, gz, gs, if_true, if_false, Bool.false_eq_true, Bool.not_true, Bool.not_false, Nat.add_zero, Nat.zero_add, Nat.reduceAdd]
  refine wpPi_any (v := ?_) rfl (fun w' => ?_) ?_; rotate_left; · (go_simp; try with_reducible rfl)
  simp only [pl, pn, el, ec, sz, ss, gz, gs, if_true, if_false, Bool.false_eq_true, Bool.not_true, Bool.not_false, Nat.add_zero, Nat.zero_add, Nat.reduceAdd]
  refine wpPi_pick _ _ _ _ rfl rfl rfl ?_
  simp only [pl, pn, el, ec, sz, ss, gz, gs, if_true, if_false, Bool.false_eq_true, Bool.not_true, Bool.not_false, Nat.add_zero, Nat.zero_add, Nat.reduceAdd]
  refine wpPi_assign _ rfl rfl ?_
  simp only [pl, pn, el, ec, sz, ss, gz, gs, if_true, if_false, Bool.false_eq_true, Bool.not_true, Bool.not_false, Nat.add_zero, Nat.zero_add, Nat.reduceAdd]
  refine wpPi_nil ?_
  have hMr := hMw.trans0 hSl
  clear hSl hSk hSj hSi hSh hSg hSf hSe hSd hSc hSb hSa hS
  go_wp2
  go_ret
  exact ⟨rfl, hMr⟩
end Go.Proofs.Ytchkikmmcmjcgaa

/- From a walk that turns nothing to what a row asks: the post-condition of a statement that is not asked again. -/
namespace Go.Proofs.Ytchkikmmcmjcgaa
set_option linter.unusedSimpArgs false
set_option linter.unusedVariables false
set_option linter.unnecessarySimpa false
set_option linter.unusedSectionVars false
open Go.ChangeShapes Go.WideShapes Go.ChangeAt Go.RowKit

theorem Mod.kept {w w' : World} (h : Mod NoB w w') (may : MemPlace → Prop) : w.keptBut w' may := by
  refine ⟨h.os, h.output, fun i hi => ?_⟩
  have e := h.block i hi id
  cases hw : w.heap[i]? with
  | none => rw [hw] at e; simp [e]
  | some o =>
    rw [hw] at e
    cases o <;> simp [e]

/-- Nothing has turned, and the results and arguments read as they should: so the post-condition holds. -/
theorem post_of_mod {H : Type} {enc : TypeId × Value → H} {P : Program} {f : Func} {s : ChangeSpec} {apart fresh handsOn : Bool} {W W' : World} {args : Array Value} {v : Value} {ds gs : List (DataW H)} {before pa pv : List MemPlace}
    (hold : DataW.Whole enc P f.params.toList s.vars apart W args.toList ds gs before) (hm : Mod NoB W W')
    (hr : ∀ (b : Nat), DataW.TrodAll enc P W' b (fun _ => false) handsOn f.resultTypes.toList (v.resultList f.resultTypes.size) (s.fn H (ds ++ gs)).results [])
    (ha : DataW.TrodAll enc P W' 0 (fun b => decide (b < W.heap.size)) true f.params.toList args.toList (s.fn H (ds ++ gs)).args pa)
    (hv : DataW.TrodVars enc P W' (fun b => decide (b < W.heap.size)) s.vars (s.fn H (ds ++ gs)).vars pv) : s.post enc P f apart fresh handsOn false W args v W' := by
  unfold ChangeSpec.post
  exact ⟨ds, gs, before, [], pa, pv, hold, hr _, ha, hv, hm.kept _, fun h => Bool.noConfusion h⟩

theorem laidOut : laidOutB Try.prog = true := by kernel_rfl
/-- What is read of an argument is read as before, where nothing has turned. -/
theorem carry {H : Type} {enc : TypeId × Value → H} {t : TypeId} (hr : Try.prog.readableRec t = true) (hrow : t < Try.prog.types.size) {W W' : World} (hm : Mod NoB W W') {v : Value} {d : DataW H} {ps : List MemPlace}
    (h : DataW.Trod enc Try.prog W 0 (fun _ => true) true t v d ps) : DataW.Trod enc Try.prog W' 0 (fun b => decide (b < W.heap.size)) true t v d ps := by
  obtain ⟨n, h⟩ := h
  have hlt := DataW.trod_lt n t _ _ h
  refine ⟨n, DataW.trod_stays (kids_book laidOut hr) (book_sized hr) (fun h => by cases h) ⟨hrow, book_self t⟩ h (fun p hp => ?_) (fun p hp => by simpa using hlt p hp)⟩
  have hb := hlt p hp
  cases p with
  | cell b off => exact World.cell?_of_block (w := W) (hm.block b hb id)
  | map b => exact hm.block b hb id
end Go.Proofs.Ytchkikmmcmjcgaa
