/- What the statement SweepTombs needs, part 8. -/
import Derived.OrdersIn
import Derived.WalkKit
import Derived.ProofKit
import Derived.OpenShut
import Derived.ChangeStays
import Derived.ChangeBook
import Derived.ChangeSlices
import Derived.Test.YtjeonjoifjbohaaGreatSweepTombsP7
set_option linter.unusedVariables false
set_option linter.unusedSimpArgs false
set_option linter.unnecessarySimpa false
set_option linter.unusedSectionVars false
set_option maxRecDepth 10000
set_option maxHeartbeats 8000000
namespace Go.Proofs.YtjeonjoifjbohaaGreat
section
open Go.RowKit Go.Shelf Go.Proofs.Tryz Go.Lib
theorem sl_oneB {α : Type} {w : World} {b : Nat} {cs : Array Value} {T : TypeId} {R : Array Value → α → Prop} {x : α} (h : w.heap[b]? = some (.cells cs T (0, 0))) (hR : R cs x) (n : Nat) (hn : cs.size = n) : Sl false w (fun k => k = b) n R (.slice (some ⟨b, 0, none⟩) 1 1) [x] := by
 refine ⟨some ⟨b, 0, none⟩, 1, rfl, Nat.le_refl _, by unfold maxLen; omega, fun _ => ⟨b, 0, rfl, rfl, fun e => (by cases e), fun i hi => ?_⟩⟩;have h0 : i = 0 := by simpa using hi
 subst h0;exact ⟨cs, hn, hR, by simpa using CellsAt.whole h⟩
theorem sl_twoB {α : Type} {w : World} {b : Nat} {c1 c2 : Array Value} {T : TypeId} {R : Array Value → α → Prop} {x y : α} (h : w.heap[b]? = some (.cells (c1 ++ c2) T (0, 0))) (h1 : R c1 x) (h2 : R c2 y) (n : Nat) (hn1 : c1.size = n) (hn2 : c2.size = n) : Sl false w (fun k => k = b) n R (.slice (some ⟨b, 0, none⟩) 2 2) [x, y] := by
 refine ⟨some ⟨b, 0, none⟩, 2, rfl, Nat.le_refl _, by unfold maxLen; omega, fun _ => ⟨b, 0, rfl, rfl, fun e => (by cases e), fun i hi => ?_⟩⟩;have hw := CellsAt.whole h
 match i, hi with
 | 0, _ => exact ⟨c1, hn1, h1, CellsAt.of_obj h fun j hj => by rw [Nat.zero_mul, Nat.zero_add, Array.getElem?_append_left hj]⟩
 | 1, _ => exact ⟨c2, hn2, h2, CellsAt.of_obj h fun j hj => by rw [Nat.one_mul, Nat.zero_add, Array.getElem?_append_right (by omega), hn1, Nat.add_sub_cancel_left]⟩
def evB : Evt := ⟨0, 0, [], 0, ⟨#[]⟩, ⟨#[]⟩, List.replicate 32 0, [idB]⟩
theorem ev_places : yD prog 115 = some [(0, 2), (2, 1), (3, 1), (4, 1), (5, 1), (6, 32), (38, 1)] := by kernel_rfl
theorem built_evB (ad : Option Addr) (k c : Nat) : prog.built 115 [(6, .slice ad k c)] = some (zO evB (.slice none 0 0) (.slice ad k c)) := by
 rw [xG eventZ ev_places, zU (off := 38) (size := 1) rfl (by rfl) (by rw [(zG _ _ _ (by simp)).size]; omega), yL]
 rfl
theorem built_evOne : prog.built 115 [(0, .agg #[.int .i64 1, .int .i64 1])] = some (zO evOne (.slice none 0 0) (.slice none 0 0)) := by kernel_rfl
theorem built_evOther : prog.built 115 [(0, .agg #[.int .i64 2, .int .i64 1])] = some (zO xZ (.slice none 0 0) (.slice none 0 0)) := by kernel_rfl
theorem built_dot11 : prog.built 113 [(0, .int .i64 1), (1, .int .i64 1)] = some #[.int .i64 1, .int .i64 1] := by kernel_rfl
theorem built_dot21 : prog.built 113 [(0, .int .i64 2), (1, .int .i64 1)] = some #[.int .i64 2, .int .i64 1] := by kernel_rfl
theorem ev_zs : (prog.info? 115).map (fun i => (i.zero, i.size)) = some (some evZero, 39) := by kernel_rfl
theorem evOne_r (w : World) (G : Nat → Prop) : EvR false w G (zO evOne (.slice none 0 0) (.slice none 0 0)) evOne := ⟨_, _, rfl, by simp [evOne], Sl.nil _ _ _ _ _, Sl.nil _ _ _ _ _, by simp [evOne, ByteArray.size, maxLen], by simp [evOne, ByteArray.size, maxLen]⟩
theorem evOther_r (w : World) (G : Nat → Prop) : EvR false w G (zO xZ (.slice none 0 0) (.slice none 0 0)) xZ := ⟨_, _, rfl, by simp [xZ], Sl.nil _ _ _ _ _, Sl.nil _ _ _ _ _, by simp [xZ, ByteArray.size, maxLen], by simp [xZ, ByteArray.size, maxLen]⟩
def KnMid (w : World) (s : Value) (wx : World) : Prop := Mod NoB w wx ∧ GatI w.heap.size wx s [idA, idB]
theorem swMarks_of {w : World} {h : House} {l : LinkL} {Ft : Nat → Prop} (H : HsAt w h cAB l Ft) {vv rv ev : Value} {reps : List RepX} (h1 : vv.oneCell' = true) (hv : RepsAt w rv reps) (hr : rootsX reps = [idA]) (hev : Sl false w AnyB 39 (EvR false w AnyB) ev [evB]) :
 Calls prog 48 #[.pointer (some ⟨h.bs, 0, none⟩), .agg #[vv, rv], ev] w (MarksR w cAB [idA] [evB]) := by
 obtain ⟨bl, F, k1, k2, _⟩ := H;have h9 := swMarks_any (l := [evB]) k1 (by rw [k2]; simp [cAB]) h1 hv (by rw [hr]; simp) hev (by simp [refsL, evB]);rw [k2, hr] at h9;exact h9
theorem sweep_one {w : World} {h : House} {c : BlobL} {l : LinkL} {Ft : Nat → Prop} (H : HsAt w h c l Ft) {b qb : Nat} {x : List UInt8} (hx : x.length = 32) (hB : w.heap[b]? = some (.cells (qC x) 24 (0, 0))) (hb : ¬ Ft b) (hq : h.q = .pointer (some ⟨qb, 0, none⟩)) :
 Calls prog 53 #[.pointer (some ⟨h.bs, 0, none⟩), .pointer (some ⟨qb, 0, none⟩), .slice (some ⟨b, 0, none⟩) 1 1] w (SwpR w h Ft c l [x]) := by
 have h9 := swSweep_any H (sl_oneB (R := IdC) hB ⟨rfl, hx⟩ 32 (by rw [qI, hx])) (fun k e hf => hb (by have e : k = b := e; rw [← e]; exact hf));rw [hq] at h9;exact h9
theorem sweepKnown_walk (w : World) : Calls prog 10 #[] w (RetM (.bool true) w) := by
 have hA : (qC idA).size = 32 := by rw [qI, yJ]
 have hB : (qC idB).size = 32 := by rw [qI, idB_len]
 have hz32 : (qC (List.replicate 32 0)).size = 32 := idZ_size;go_enter func10, ntmps10;go_upto_region 1 with (fail)
 refine wpR [1, 3, 3, 3, 3, 1, 1, 1, 1, 1, 1] (by rfl) (by rfl) ?_;simp only [zz2];refine wpDo rfl ?_
 refine qG (qH 55 [] _ rfl _ func55 rfl (by kernel_rfl) [] rfl _) (two_any _) ?_;rintro e w1 ⟨hm1, lv, kv, he1, hl1, hk1⟩;subst he1;refine ⟨_, rfl, ?_⟩
 refine qA _ rfl rfl ?_;simp only [nmz]
 refine qJ rfl (fun w' => qP _ 0 #[.agg (qC idA), .agg (qC idB), .agg #[.int .i64 31, lv, kv]] rfl rfl (.agg (qC idA)) rfl) ?_;simp only [nmz]
 refine qJ rfl (fun w' => qP _ 1 #[.agg (qC idA), .agg (qC idB), .agg #[.int .i64 31, lv, kv]] rfl rfl (.agg (qC idB)) rfl) ?_;simp only [nmz]
 refine qJ rfl (fun w' => qP _ 2 #[.agg (qC idA), .agg (qC idB), .agg #[.int .i64 31, lv, kv]] rfl rfl (.agg #[.int .i64 31, lv, kv]) rfl) ?_
 simp only [nmz];refine wpDo rfl ?_;refine qU 24 _ (by rfl) idZ (fun w2 hB2 hm2 hs2 => ?_)
 replace hB2 : w2.heap[w1.heap.size]? = some (.cells (qC (List.replicate 32 0)) 24 (0, 0)) := hB2;try simp only [nmz]
 refine wpDo rfl ?_;refine qU 24 _ (by rfl) idZ (fun w3 hB3 hm3 hs3 => ?_)
 replace hB3 : w3.heap[w2.heap.size]? = some (.cells (qC (List.replicate 32 0)) 24 (0, 0)) := hB3;try simp only [nmz]
 refine wpDo rfl ?_;refine qU 68 _ (by rfl) houseZ (fun w4 hB4 hm4 hs4 => ?_)
 replace hB4 : w4.heap[w3.heap.size]? = some (.cells #[.int .i64 0, .slice none 0 0, .slice none 0 0] 68 (0, 0)) := hB4;have hX1 := (hm3.trans0 hm4).obj id hB2;try simp only [nmz]
 refine wpDo rfl ?_
 refine qM 24 _ _ w1.heap.size 0 (qC idA) (by rfl) (by rfl) (by rfl) (qZ _) 32 (by kernel_rfl) hA _ _ hX1 (by rw [hA, hz32]; omega) (fun w5 hB5 hm5 => ?_)
 rw [qK (by rw [hA, hz32])] at hB5;have hX2 := hm5.objB (b := w2.heap.size) (by omega) (hm4.obj id hB3);have hX3 := hm5.objB (b := w3.heap.size) (by omega) hB4
 try simp only [nmz]
 refine wpDo rfl ?_
 refine qM 24 _ _ w2.heap.size 0 (qC idB) (by rfl) (by rfl) (by rfl) (qZ _) 32 (by kernel_rfl) hB _ _ hX2 (by rw [hB, hz32]; omega) (fun w6 hB6 hm6 => ?_)
 rw [qK (by rw [hB, hz32])] at hB6;have hY1 := hm6.objB (b := w1.heap.size) (by omega) hB5;have hY3 := hm6.objB (b := w3.heap.size) (by omega) hX3;try simp only [nmz]
 refine wpDo rfl ?_
 refine qM 68 _ _ w3.heap.size 0 #[.int .i64 31, lv, kv] (by rfl) (by rfl) (by rfl) (by intro c hc; simp at hc; rcases hc with rfl | rfl | rfl <;> first | rfl | exact Sl.one hl1 | exact Sl.one hk1) 3 (by kernel_rfl) rfl _ _ hY3 (by simp) (fun w7 hB7 hm7 => ?_)
 rw [qK (by simp)] at hB7;have hZ1 := hm7.objB (b := w1.heap.size) (by omega) hY1;have hZ2 := hm7.objB (b := w2.heap.size) (by omega) hB6;try simp only [nmz]
 refine qB ?_;have s1 := hm2.size;have s2 := hm3.size;have s3 := hm4.size
 have hm17 : Mod NoB w1 w7 := ((((hm2.trans0 hm3).trans0 hm4).transB hm5 (Nat.le_refl _)).transB hm6 s1).transB hm7 (by omega);have hl7 := lsAt_keep0 hl1 hm17
 have hk7 := hk1.keep0 hm17;have hm07 := hm1.trans0 hm17
 have hbl := built_any (w := w7) (wd := 31) (by constructor <;> omega) hl7 hk7 (by simp) (by simp) (by simp) (by intro x hx; simp at hx; rcases hx with rfl | rfl <;> constructor <;> omega)
 rw [wid31] at hbl;have b17 : w1.heap.size < w7.heap.size := (Array.getElem?_eq_some_iff.1 hZ1).1;have b27 : w2.heap.size < w7.heap.size := (Array.getElem?_eq_some_iff.1 hZ2).1
 generalize hb1 : w1.heap.size = b1 at *;generalize hb2 : w2.heap.size = b2 at *;generalize hb3 : w3.heap.size = b3 at *
 clear hm1 hm2 hm3 hm4 hm5 hm6 hm7 hB2 hB3 hB4 hB5 hB6 hX1 hX2 hX3 hY1 hY3 hm17 hl1 hk1 hs2 hs3 hs4;have hcH : CellsAt w7 b3 0 #[.int .i64 31, lv, kv] := CellsAt.whole hB7
 go_upto_region 2 with (fail);refine wpR [1, 1, 3, 3, 3, 3, 3] (by rfl) (by rfl) ?_;simp only [zz2];refine wpXA 68 b3 0 #[.int .i64 31, lv, kv] hcH underlying68 3 rfl trivial ?_
 try simp only [nmz]
 refine wpDo rfl ?_;refine qG (qH 43 [.tmp 24] _ rfl _ func43 rfl (by kernel_rfl) [.agg #[.int .i64 31, lv, kv]] rfl _) (hbl) ?_
 rintro e w8 ⟨h, hhw, hhr, hhl, ⟨qb, hhq⟩, he8, Ft, hat, hFn, hm78⟩;subst he8;rw [hhq];refine ⟨_, rfl, ?_⟩;refine qA _ rfl rfl ?_;simp only [nmz]
 refine qJ rfl (fun w' => qP _ 0 #[.pointer (some ⟨h.bs, 0, none⟩), .pointer (some ⟨qb, 0, none⟩)] rfl rfl (.pointer (some ⟨h.bs, 0, none⟩)) rfl) ?_;simp only [nmz]
 refine qJ rfl (fun w' => qP _ 1 #[.pointer (some ⟨h.bs, 0, none⟩), .pointer (some ⟨qb, 0, none⟩)] rfl rfl (.pointer (some ⟨qb, 0, none⟩)) rfl) ?_;simp only [nmz]
 refine qD _ rfl rfl ?_;simp only [nmz];refine qD _ rfl rfl ?_;simp only [nmz];refine qB ?_;rw [cOf_AB, lOf_AB] at hat
 have hI1 : CellsAt w8 b1 0 (qC idA) := CellsAt.whole (hm78.obj id hZ1);have hI2 : CellsAt w8 b2 0 (qC idB) := CellsAt.whole (hm78.obj id hZ2)
 have hm08 := hm07.trans0 hm78;clear hbl hl7 hk7 hcH hB7 hZ1 hZ2;go_upto_region 5 with (fail);refine wpR [1, 1, 1, 3] (by rfl) (by rfl) ?_;simp only [zz2]
 refine wpXA 24 b1 0 (qC idA) hI1 underlying24 32 hA trivial ?_;try simp only [nmz]
 refine wpXA 24 b2 0 (qC idB) hI2 underlying24 32 hB trivial ?_;try simp only [nmz]
 refine wpDo rfl ?_
 refine xP 25 24 2 [(0, _), (1, _)] [.agg (qC idA), .agg (qC idB)] (.agg (qC (List.replicate 32 0))) 32 (by rfl) (by rfl) (by rfl) underlying25 id_zs (by omega) (by omega) (by intro v hv; simp at hv; rcases hv with rfl | rfl <;> assumption) (fun w9 hB9 hm9 hs9 => ?_)
 replace hB9 : w9.heap[w8.heap.size]? = some (.cells (qC idA ++ qC idB) 24 (0, 0)) := by rw [hB9]; simp [Value.cells]
 refine qD _ rfl rfl ?_;simp only [nmz];refine qB ?_;have hBoth := sl_twoB (R := IdC) hB9 ⟨rfl, yJ⟩ ⟨rfl, idB_len⟩ 32 hA hB;have hI1 := hI1.keep hm9 id
 have hI2 := hI2.keep hm9 id;have hcmp := shaCompare_any idA idB yJ idB_len w9;rw [cmp_AB] at hcmp;have hat9 := hat.keep0 hm9;have hlt8' := hat.lt;have hm09 := hm08.trans0 hm9
 have s89 : w8.heap.size < w9.heap.size := hs9;generalize hb6 : w8.heap.size = b6 at *;clear hat hB9 hm9 hs9;go_upto_region 6 with (fail)
 refine wpR [1, 1, 1, 3] (by rfl) (by rfl) ?_;simp only [zz2];refine wpXA 24 b1 0 (qC idA) hI1 underlying24 32 hA trivial ?_;try simp only [nmz]
 refine wpXA 24 b2 0 (qC idB) hI2 underlying24 32 hB trivial ?_;try simp only [nmz]
 refine wpDo rfl ?_;refine qG (qH 35 [.tmp 37, .tmp 38] _ rfl _ func35 rfl (by kernel_rfl) [.agg (qC idA), .agg (qC idB)] rfl _) (hcmp) ?_
 rintro e wa ⟨rfl, hga⟩;have hma : Mod NoB w9 wa := hga.mod;refine ⟨_, rfl, ?_⟩;try simp only [nmz]
 refine qJ (v := ?_) rfl (fun w' => ?_) ?_; rotate_left; · (go_simp; try with_reducible rfl)
 simp only [nmz];refine qB ?_;have hata := hat9.keep0 hma;have hI1 := hI1.keep hma id;have hI2 := hI2.keep hma id;have hBoth := hBoth.keep0 hma;have hm0a := hm09.trans0 hma
 have sa := hma.size;clear hat9 hga hcmp;go_upto_region 8 with (fail)
 go_cut [7] (fun s wx => KnMid wa s wx)
 case first =>
  have hS : Mod NoB wa wa.drew := (Mod.refl _ _).drew;have hT : Mod NoB wa wa.drew := (Mod.refl _ _).drew
  refine jC [(0, 3), (1, 0), (3, 0)] 4 [(7, 1), (8, 3)] [] (fun w' => Mod NoB wa w') #[true, true, false, true, false, false, false, false, false] (by kernel_rfl) (by kernel_rfl) (by kernel_rfl) (by kernel_rfl) (by kernel_rfl) (fun _ _ _ _ hd h => ⟨hd.trans h.1, h.2⟩) hS ?_
  simp only [zz4];refine qA _ rfl rfl ?_;simp only [nmz];refine wpLA 24 b1 0 (qC idA) (fun w' hS => hI1.keep hS id) underlying24 32 hA ?_;simp only [nmz]
  refine wpLA 24 b2 0 (qC idB) (fun w' hS => hI2.keep hS id) underlying24 32 hB ?_;simp only [nmz];refine qB ?_;refine zM [2, 4] (by kernel_rfl) ?_
  simp only [zz3, false_implies, implies_true];refine ⟨?_, ?_⟩
  · intro K hK
    simp only [zz5];refine qG (qH 56 [.tmp 45] _ rfl _ func56 rfl (by kernel_rfl) [.agg (qC idA)] rfl _) (tagged_any idA yJ _) ?_
    rintro e we ⟨hme, tv, tr, treps, rfl, htv, htr, htroots⟩
    try replace hX := hX.keep0 hme
    try replace hE := SlEv.keep0 hE hme
    replace hT := hT.trans0 hme;clear hme;refine ⟨_, rfl, hK _ _ hT ?_⟩;clear hK K;try simp only [nmz]
    refine zM [4] (by kernel_rfl) ?_;simp only [zz3, false_implies, implies_true];intro K hK;simp only [zz5]
    refine zL 25 24 _ (.agg (qC idB)) (.agg (qC (List.replicate 32 0))) 32 (by rfl) (by rfl) underlying25 id_zs (by omega) (by omega) hB (fun bX wg hBg hmg => ?_)
    have hX : Sl false wg AnyB 32 IdC (.slice (some ⟨bX, 0, none⟩) 1 1) [idB] := sl_one hBg ⟨rfl, idB_len⟩ 32 hB
    try replace htr := yN htr (KC.of0 hmg)
    replace hT := hT.trans0 hmg;clear hmg hBg;refine hK _ _ hT ?_;clear hK K;try simp only [nmz]
    refine xB 5 (.agg (zO evB (.slice none 0 0) (.slice (some ⟨bX, 0, none⟩) 1 1))) (by kernel_rfl) (fun _ _ _ _ hd h => ⟨hd.trans h.1, h.2⟩) (fun w' => by simp only [zz5]; exact qT 115 [(6, _)] [(6, .slice (some ⟨bX, 0, none⟩) 1 1)] _ (by rfl) (by rfl) (built_evB _ 1 1)) hT ?_
    simp only [zz5];try simp only [nmz]
    refine zM [6] (by kernel_rfl) ?_;simp only [zz3, false_implies, implies_true];intro K hK;simp only [zz5]
    refine zL 72 115 _ (.agg (zO evB (.slice none 0 0) (.slice (some ⟨bX, 0, none⟩) 1 1))) evZero 39 (by rfl) (by rfl) underlying72 ev_zs (by omega) (by omega) (zG evB _ _ (by simp [evB])).size (fun bE wh hBh hmh => ?_)
    have hE : Sl false wh AnyB 39 (EvR false wh AnyB) (.slice (some ⟨bE, 0, none⟩) 1 1) [evB] := sl_one hBh ⟨_, _, rfl, by simp [evB], Sl.nil _ _ _ _ _, hX.keep0 hmh, by simp [evB, ByteArray.size, maxLen], by simp [evB, ByteArray.size, maxLen]⟩ 39 (zG evB _ _ (by simp [evB])).size
    try replace htr := yN htr (KC.of0 hmh)
    replace hT := hT.trans0 hmh;clear hmh hBh hX;refine hK _ _ hT ?_;clear hK K;try simp only [nmz]
    refine xS ?_;try simp only [zz4]
    try simp only [nmz]
    refine qW rfl (fun K hK => ?_);have hmk := swMarks_of (hata.keep0 hT) htv htr htroots hE
    refine qG (qH 48 [.tmp 44, .tmp 46, .tmp 50] _ rfl _ func48 rfl (by kernel_rfl) [.pointer (some ⟨h.bs, 0, none⟩), .agg #[tv, tr], .slice (some ⟨bE, 0, none⟩) 1 1] rfl _) hmk ?_
    rintro e wi ⟨hmi, vM, out, rfl, hgi, hMo, hli⟩;obtain rfl := marks_AB hMo rfl;have HF : Hid (KnMid wa vM wi) := hid ⟨hT.trans0 hmi, hgi.base hT.size⟩;replace hT := hT.trans0 hmi
    refine ⟨_, rfl, hK _ _ hT ?_⟩;clear hK K hmk hmi hgi hMo hli;refine qD _ rfl rfl ?_;simp only [nmz];refine qB ?_;go_wp2
    go_meet
    case rel => exact HF.out
  · intro K hK
    simp only [zz5]
    refine zL 25 24 _ (.agg (qC idB)) (.agg (qC (List.replicate 32 0))) 32 (by rfl) (by rfl) underlying25 id_zs (by omega) (by omega) hB (fun bX wg hBg hmg => ?_)
    have hX : Sl false wg AnyB 32 IdC (.slice (some ⟨bX, 0, none⟩) 1 1) [idB] := sl_one hBg ⟨rfl, idB_len⟩ 32 hB
    try replace htr := yN htr (KC.of0 hmg)
    replace hT := hT.trans0 hmg;clear hmg hBg;refine hK _ _ hT ?_;clear hK K;try simp only [nmz]
    refine xB 5 (.agg (zO evB (.slice none 0 0) (.slice (some ⟨bX, 0, none⟩) 1 1))) (by kernel_rfl) (fun _ _ _ _ hd h => ⟨hd.trans h.1, h.2⟩) (fun w' => by simp only [zz5]; exact qT 115 [(6, _)] [(6, .slice (some ⟨bX, 0, none⟩) 1 1)] _ (by rfl) (by rfl) (built_evB _ 1 1)) hT ?_
    simp only [zz5];try simp only [nmz]
    refine zM [2, 6] (by kernel_rfl) ?_;simp only [zz3, false_implies, implies_true];refine ⟨?_, ?_⟩
    · intro K hK
      simp only [zz5];refine qG (qH 56 [.tmp 45] _ rfl _ func56 rfl (by kernel_rfl) [.agg (qC idA)] rfl _) (tagged_any idA yJ _) ?_
      rintro e we ⟨hme, tv, tr, treps, rfl, htv, htr, htroots⟩
      try replace hX := hX.keep0 hme
      try replace hE := SlEv.keep0 hE hme
      replace hT := hT.trans0 hme;clear hme;refine ⟨_, rfl, hK _ _ hT ?_⟩;clear hK K;try simp only [nmz]
      refine zM [6] (by kernel_rfl) ?_;simp only [zz3, false_implies, implies_true];intro K hK;simp only [zz5]
      refine zL 72 115 _ (.agg (zO evB (.slice none 0 0) (.slice (some ⟨bX, 0, none⟩) 1 1))) evZero 39 (by rfl) (by rfl) underlying72 ev_zs (by omega) (by omega) (zG evB _ _ (by simp [evB])).size (fun bE wh hBh hmh => ?_)
      have hE : Sl false wh AnyB 39 (EvR false wh AnyB) (.slice (some ⟨bE, 0, none⟩) 1 1) [evB] := sl_one hBh ⟨_, _, rfl, by simp [evB], Sl.nil _ _ _ _ _, hX.keep0 hmh, by simp [evB, ByteArray.size, maxLen], by simp [evB, ByteArray.size, maxLen]⟩ 39 (zG evB _ _ (by simp [evB])).size
      try replace htr := yN htr (KC.of0 hmh)
      replace hT := hT.trans0 hmh;clear hmh hBh hX;refine hK _ _ hT ?_;clear hK K;try simp only [nmz]
      refine xS ?_;try simp only [zz4]
      try simp only [nmz]
      refine qW rfl (fun K hK => ?_);have hmk := swMarks_of (hata.keep0 hT) htv htr htroots hE
      refine qG (qH 48 [.tmp 44, .tmp 46, .tmp 50] _ rfl _ func48 rfl (by kernel_rfl) [.pointer (some ⟨h.bs, 0, none⟩), .agg #[tv, tr], .slice (some ⟨bE, 0, none⟩) 1 1] rfl _) hmk ?_
      rintro e wi ⟨hmi, vM, out, rfl, hgi, hMo, hli⟩;obtain rfl := marks_AB hMo rfl;have HF : Hid (KnMid wa vM wi) := hid ⟨hT.trans0 hmi, hgi.base hT.size⟩
      replace hT := hT.trans0 hmi;refine ⟨_, rfl, hK _ _ hT ?_⟩;clear hK K hmk hmi hgi hMo hli;refine qD _ rfl rfl ?_;simp only [nmz];refine qB ?_;go_wp2
      go_meet
      case rel => exact HF.out
    · intro K hK
      simp only [zz5]
      refine zL 72 115 _ (.agg (zO evB (.slice none 0 0) (.slice (some ⟨bX, 0, none⟩) 1 1))) evZero 39 (by rfl) (by rfl) underlying72 ev_zs (by omega) (by omega) (zG evB _ _ (by simp [evB])).size (fun bE wh hBh hmh => ?_)
      have hE : Sl false wh AnyB 39 (EvR false wh AnyB) (.slice (some ⟨bE, 0, none⟩) 1 1) [evB] := sl_one hBh ⟨_, _, rfl, by simp [evB], Sl.nil _ _ _ _ _, hX.keep0 hmh, by simp [evB, ByteArray.size, maxLen], by simp [evB, ByteArray.size, maxLen]⟩ 39 (zG evB _ _ (by simp [evB])).size
      try replace htr := yN htr (KC.of0 hmh)
      replace hT := hT.trans0 hmh;clear hmh hBh hX;refine hK _ _ hT ?_;clear hK K;try simp only [nmz]
      refine zM [2] (by kernel_rfl) ?_;simp only [zz3, false_implies, implies_true];intro K hK;simp only [zz5]
      refine qG (qH 56 [.tmp 45] _ rfl _ func56 rfl (by kernel_rfl) [.agg (qC idA)] rfl _) (tagged_any idA yJ _) ?_
      rintro e we ⟨hme, tv, tr, treps, rfl, htv, htr, htroots⟩
      try replace hX := hX.keep0 hme
      try replace hE := SlEv.keep0 hE hme
      replace hT := hT.trans0 hme;clear hme;refine ⟨_, rfl, hK _ _ hT ?_⟩;clear hK K;try simp only [nmz]
      refine xS ?_;try simp only [zz4]
      try simp only [nmz]
      refine qW rfl (fun K hK => ?_);have hmk := swMarks_of (hata.keep0 hT) htv htr htroots hE
      refine qG (qH 48 [.tmp 44, .tmp 46, .tmp 50] _ rfl _ func48 rfl (by kernel_rfl) [.pointer (some ⟨h.bs, 0, none⟩), .agg #[tv, tr], .slice (some ⟨bE, 0, none⟩) 1 1] rfl _) hmk ?_
      rintro e wi ⟨hmi, vM, out, rfl, hgi, hMo, hli⟩;obtain rfl := marks_AB hMo rfl;have HF : Hid (KnMid wa vM wi) := hid ⟨hT.trans0 hmi, hgi.base hT.size⟩
      replace hT := hT.trans0 hmi;refine ⟨_, rfl, hK _ _ hT ?_⟩;clear hK K hmk hmi hgi hMo hli;refine qD _ rfl rfl ?_;simp only [nmz];refine qB ?_;go_wp2
      go_meet
      case rel => exact HF.out
 case rest =>
  rename World => wx
  obtain ⟨hmx, hgM⟩ := hcut;have hatx := hata.keep0 hmx;have hI1 := hI1.keep hmx id;have hI2 := hI2.keep hmx id;have hBoth := hBoth.keep0 hmx;have hm0x := hm0a.trans0 hmx
  have sx := hmx.size;have hM := slI hgM (fun x hx => by simp at hx; rcases hx with rfl | rfl; exact yJ; exact idB_len);have hlo : ∀ k, Ft k → w7.heap.size ≤ k := hFn
  have hlt8 := hata.lt;have hF1 : ∀ k, k < w7.heap.size → ¬ Ft k := fun k hk e => by have := hlo _ e; omega
  have hFb6 : ¬ Ft b6 := fun e => by
   have h1 := hlt8' _ e;omega
  have hFM : ∀ k, (wa.heap.size ≤ k ∧ k < wx.heap.size ∧ u7.ownBlock = some k) → ¬ Ft k := fun k hk e => by have := hlt8 _ e; have := hk.1; omega
  clear hata hgM;go_upto_region 9 with (fail);refine wpR [3, 3, 1, 1, 1, 3, 3, 3, 1, 1, 3] (by rfl) (by rfl) ?_;simp only [zz2];refine qA _ rfl rfl ?_;simp only [nmz]
  refine qA _ rfl rfl ?_;simp only [nmz];refine wpXA 24 b1 0 (qC idA) hI1 underlying24 32 hA trivial ?_;try simp only [nmz]
  refine wpDo rfl ?_
  refine zC 25 24 _ (.agg (qC idA)) (.agg (qC (List.replicate 32 0))) 32 (by rfl) (by rfl) underlying25 id_zs (by omega) (by omega) hA (fun wb hBb hmb hsbX => ?_)
  replace hBb : wb.heap[wx.heap.size]? = some (.cells (qC idA) 24 (0, 0)) := hBb;have hbX : ¬ Ft wx.heap.size := fun e => Nat.lt_irrefl _ (hatx.lt _ e)
  have hsw := sweep_one (hatx.keep0 hmb) yJ hBb hbX hhq;try simp only [nmz]
  refine wpDo rfl ?_
  refine qG (qH 53 [.tmp 53, .tmp 54, .tmp 56] _ rfl _ func53 rfl (by kernel_rfl) [.pointer (some ⟨h.bs, 0, none⟩), .pointer (some ⟨qb, 0, none⟩), .slice (some ⟨wx.heap.size, 0, none⟩) 1 1] rfl _) (hsw) ?_
  rintro e wc ⟨ids, bv, sr, Fc, hidc, hrun, hec, hgc, hatc, hmc, hsc, hnc⟩;subst hec;rw [gone_A hidc] at hrun hgc;rw [run_AB] at hrun;subst hrun
  replace hatc : HsAt wc h cA1 lA1 Fc := hatc;refine ⟨_, rfl, ?_⟩;refine qA _ rfl rfl ?_;simp only [nmz]
  refine qJ rfl (fun w' => qP _ 0 #[.agg (qR bv 2 1), .int .i64 0] rfl rfl (.agg (qR bv 2 1)) rfl) ?_;simp only [nmz]
  refine qJ rfl (fun w' => qP _ 1 #[.agg (qR bv 2 1), .int .i64 0] rfl rfl (.int .i64 0) rfl) ?_;simp only [nmz];refine wpDo rfl ?_
  refine qU 104 _ (by rfl) sweptZ (fun wd hBd hmd hsd => ?_)
  replace hBd : wd.heap[wc.heap.size]? = some (.cells #[.slice none 0 0, .int .i64 0, .int .i64 0] 104 (0, 0)) := hBd;try simp only [nmz]
  refine wpDo rfl ?_
  refine qM 104 _ _ wc.heap.size 0 (qR bv 2 1) (by rfl) (by rfl) (by rfl) (by intro c hc; simp [qR] at hc; rcases hc with rfl | rfl | rfl <;> first | rfl | exact xX hgc) 3 (by kernel_rfl) rfl _ _ hBd (by simp [qR]) (fun we hBe hme => ?_)
  rw [qK (by simp [qR])] at hBe;refine qD _ rfl rfl ?_;simp only [nmz];refine qB ?_;have hmce : Mod NoB wc we := hmd.transB hme (Nat.le_refl _)
  have hmxc : Mod Ft wx wc := (hmb.mono (fun _ _ h => h.elim)).trans hmc (fun k _ h => h);have hI1e := (hI1.keep hmxc (hF1 b1 b17)).keep hmce id
  have hBe2 := (hBoth.keep hmxc (fun k hk => by have e : k = b6 := hk; rw [e]; exact hFb6) (fun _ _ h => h)).keep0 hmce;have hMe := (hM.keep hmxc hFM (fun _ _ h => h)).keep0 hmce
  have hate := hatc.keep0 hmce;have hFlt : ∀ k, Fc k → k < wc.heap.size := hatc.lt;have sb := hmb.size;have sc := hmxc.size
  have hFlow : ∀ k, Fc k → k < wx.heap.size → Ft k := fun k hk hl => (hsc k hk).elim id (fun hn => by have := hn.1; omega)
  have hm7x : w7.heap.size ≤ wx.heap.size := by have := hm78.size; omega
  have hlo2 : ∀ k, Fc k → w7.heap.size ≤ k := fun k hk => (hsc k hk).elim (hlo k) (fun hn => by have := hn.1; omega)
  have hm0e : Mod NoB w we := (hm0x.trans hmxc (fun k hk hf => by have := hlo k hf; have := hm07.size; omega)).trans0 hmce;obtain ⟨bad, bcap, hbv⟩ := hgc.slice
  replace hbv : bv = .slice bad 1 bcap := hbv;generalize hb8 : wc.heap.size = b8 at *;clear hsw hatx hmb hmc hgc hatc hmd hme hBd hidc hI1 hI2 hBoth hM hnc hsd hBb hbX hsc hsbX
  go_upto_region 10 with (fail);refine wpR [3, 3, 1, 1, 1, 3, 3, 3, 1, 1, 3] (by rfl) (by rfl) ?_;simp only [zz2];refine qA _ rfl rfl ?_;simp only [nmz]
  refine qA _ rfl rfl ?_;simp only [nmz];refine wpXA 24 b1 0 (qC idA) hI1e underlying24 32 hA trivial ?_;try simp only [nmz]
  refine wpDo rfl ?_
  refine zC 25 24 _ (.agg (qC idA)) (.agg (qC (List.replicate 32 0))) 32 (by rfl) (by rfl) underlying25 id_zs (by omega) (by omega) hA (fun wf hBf hmf hsbY => ?_)
  replace hBf : wf.heap[we.heap.size]? = some (.cells (qC idA) 24 (0, 0)) := hBf;have hbY : ¬ Fc we.heap.size := fun e => Nat.lt_irrefl _ (hate.lt _ e)
  have hsw := sweep_one (hate.keep0 hmf) yJ hBf hbY hhq;try simp only [nmz]
  refine wpDo rfl ?_
  refine qG (qH 53 [.tmp 61, .tmp 62, .tmp 64] _ rfl _ func53 rfl (by kernel_rfl) [.pointer (some ⟨h.bs, 0, none⟩), .pointer (some ⟨qb, 0, none⟩), .slice (some ⟨we.heap.size, 0, none⟩) 1 1] rfl _) (hsw) ?_
  rintro e wg ⟨ids, bw, sr, Fg, hidg, hrun, heg, hgg, hatg, hmg, hsg, hng⟩;subst heg;rw [gone_A1 hidg] at hrun hgg;rw [run_A1] at hrun;subst hrun
  replace hatg : HsAt wg h cA1 lA1 Fg := hatg;refine ⟨_, rfl, ?_⟩;refine qA _ rfl rfl ?_;simp only [nmz]
  refine qJ rfl (fun w' => qP _ 0 #[.agg (qR bw 0 0), .int .i64 0] rfl rfl (.agg (qR bw 0 0)) rfl) ?_;simp only [nmz]
  refine qJ rfl (fun w' => qP _ 1 #[.agg (qR bw 0 0), .int .i64 0] rfl rfl (.int .i64 0) rfl) ?_;simp only [nmz];refine wpDo rfl ?_
  refine qU 104 _ (by rfl) sweptZ (fun wh hBh hmh hsh => ?_)
  replace hBh : wh.heap[wg.heap.size]? = some (.cells #[.slice none 0 0, .int .i64 0, .int .i64 0] 104 (0, 0)) := hBh;try simp only [nmz]
  refine wpDo rfl ?_
  refine qM 104 _ _ wg.heap.size 0 (qR bw 0 0) (by rfl) (by rfl) (by rfl) (by intro c hc; simp [qR] at hc; rcases hc with rfl | rfl | rfl <;> first | rfl | exact xX hgg) 3 (by kernel_rfl) rfl _ _ hBh (by simp [qR]) (fun wi hBi hmi => ?_)
  rw [qK (by simp [qR])] at hBi;refine qD _ rfl rfl ?_;simp only [nmz];refine qB ?_;have hmgi : Mod NoB wg wi := hmh.transB hmi (Nat.le_refl _)
  have hmeg : Mod Fc we wg := (hmf.mono (fun _ _ h => h.elim)).trans hmg (fun k _ h => h);have hFc8 : ¬ Fc b8 := fun e => by have := hFlt _ e; omega
  have hBi8 : wi.heap[b8]? = some (.cells (qR bv 2 1) 104 (0, 0)) := hmgi.obj id (hmeg.obj hFc8 hBe)
  have hB6i := (hBe2.keep hmeg (fun k hk e => by have e1 : k = b6 := hk; subst e1; exact hFb6 (hFlow _ e (by omega))) (fun _ _ h => h)).keep0 hmgi
  have hMi := (hMe.keep hmeg (fun k hk e => hFM k hk (hFlow _ e hk.2.1)) (fun _ _ h => h)).keep0 hmgi;have hati := hatg.keep0 hmgi
  have hFglt : ∀ k, Fg k → k < wg.heap.size := hatg.lt;have se := hmce.size;have sf := hmf.size
  have hFg6 : ¬ Fg b6 := fun e => (hsg _ e).elim (fun h1 => hFb6 (hFlow _ h1 (by omega))) (fun hn => by have := hn.1; omega)
  have hFg8 : ¬ Fg b8 := fun e => (hsg _ e).elim hFc8 (fun hn => by have := hn.1; have := (Array.getElem?_eq_some_iff.1 hBe).1; omega)
  have hFgM : ∀ k, (wa.heap.size ≤ k ∧ k < wx.heap.size ∧ u7.ownBlock = some k) → ¬ Fg k := fun k hk e => (hsg _ e).elim (fun h1 => hFM k hk (hFlow _ h1 hk.2.1)) (fun hn => by have := hn.1; have := hk.2.1; omega)
  have hlo3 : ∀ k, Fg k → w7.heap.size ≤ k := fun k hk => (hsg k hk).elim (hlo2 k) (fun hn => by have := hn.1; omega)
  have hm0i : Mod NoB w wi := (hm0e.trans hmeg (fun k hk hf => by have := hlo2 k hf; have := hm07.size; omega)).trans0 hmgi
  have hVi := slI (hgg.keep0 hmgi) (fun x hx => by simp at hx);have hns := swSweep_noStore hati (v := .pointer none) (.inl rfl) (fun b e => by cases e) (.slice none 0 0) rfl
  rw [hhq] at hns;generalize hb10 : wg.heap.size = b10 at *;clear hsw hate hmf hmg hgg hatg hmh hmi hBh hidg hI1e hBe2 hMe hng hsh hBf hbY hsg hsbY hBe;go_upto_region 11 with (fail)
  refine wpR [3, 1, 3, 3, 3, 1, 1, 3] (by rfl) (by rfl) ?_;simp only [zz2];refine qA _ rfl rfl ?_;simp only [nmz];refine wpDo rfl ?_
  refine qG (qH 53 [.const (.pointer none), .tmp 69, .const (.slice none 0 0)] _ rfl _ func53 rfl (by kernel_rfl) [.pointer none, .pointer (some ⟨qb, 0, none⟩), .slice none 0 0] rfl _) (hns) ?_
  rintro e wj ⟨hej, Fj, hatj, hmj, hsj⟩;subst hej;unfold noneV;refine ⟨_, rfl, ?_⟩;refine qA _ rfl rfl ?_;simp only [nmz]
  refine qJ rfl (fun w' => qP _ 0 #[.agg (qR (.slice none 0 0) 0 0), .int .i64 1] rfl rfl (.agg (qR (.slice none 0 0) 0 0)) rfl) ?_;simp only [nmz]
  refine qJ rfl (fun w' => qP _ 1 #[.agg (qR (.slice none 0 0) 0 0), .int .i64 1] rfl rfl (.int .i64 1) rfl) ?_;simp only [nmz];refine wpDo rfl ?_
  refine qU 104 _ (by rfl) sweptZ (fun wk hBk hmk hsk => ?_)
  replace hBk : wk.heap[wj.heap.size]? = some (.cells #[.slice none 0 0, .int .i64 0, .int .i64 0] 104 (0, 0)) := hBk;try simp only [nmz]
  refine wpDo rfl ?_
  refine qM 104 _ _ wj.heap.size 0 (qR (.slice none 0 0) 0 0) (by rfl) (by rfl) (by rfl) (by intro c hc; simp [qR] at hc; rcases hc with rfl | rfl | rfl <;> rfl) 3 (by kernel_rfl) rfl _ _ hBk (by simp [qR]) (fun wl hBl hml => ?_)
  refine qD _ rfl rfl ?_;simp only [nmz];refine qB ?_;have hmjl : Mod NoB wj wl := hmk.transB hml (Nat.le_refl _)
  have hFg10 : ¬ Fg b10 := fun e => by have := hFglt _ e; omega
  have hBl8 : wl.heap[b8]? = some (.cells (qR bv 2 1) 104 (0, 0)) := hmjl.obj id (hmj.obj hFg8 hBi8)
  have hBl10 : wl.heap[b10]? = some (.cells (qR bw 0 0) 104 (0, 0)) := hmjl.obj id (hmj.obj hFg10 hBi)
  have hB6l := (hB6i.keep hmj (fun k hk e => hFg6 (by have e1 : k = b6 := hk; rw [← e1]; exact e)) (fun _ _ h => h)).keep0 hmjl
  have hMl := (hMi.keep hmj (fun k hk e => hFgM k hk e) (fun _ _ h => h)).keep0 hmjl
  have hm0l : Mod NoB w wl := (hm0i.trans hmj (fun k hk hf => by have := hlo3 k hf; have := hm07.size; omega)).trans0 hmjl
  have hVl : Sl false wl AnyB 32 IdC bw [] := by
   obtain ⟨ad9, cap9, e9, q1, q2, -⟩ := hVi;exact ⟨ad9, cap9, e9, q1, q2, fun h => absurd rfl h⟩
  have z1 := (zG evOne (.slice none 0 0) (.slice none 0 0) (by simp [evOne])).size
  have z2 := (zG xZ (.slice none 0 0) (.slice none 0 0) (by simp [xZ])).size
  have zz := (zG evt0 (.slice none 0 0) (.slice none 0 0) (by simp [evt0])).size
  have o1 := evCells_one (e := evOne) (dv := .slice none 0 0) (rv := .slice none 0 0) rfl rfl
  have o2 := evCells_one (e := xZ) (dv := .slice none 0 0) (rv := .slice none 0 0) rfl rfl
  clear hns hati hmj hatj hsj hmk hml hBk hBl hsk hmjl hmgi hmeg hmxc hmce hm0i hm0e hm0x hm0a hmx hma hm09 hm08 hm07 hm78 hBi8 hBi hB6i hMi hVi hF1 hFb6 hFM hFlow hFg6 hFg8 hFgM hFg10 hFc8 hlo hlo2 hlo3 hlt8 hlt8' hFlt hFglt hFn
  go_upto_region 12 with (fail);refine wpR [0, 0, 0, 0, 1, 1, 1, 1] (by rfl) (by rfl) ?_;simp only [zz2]
  refine qS rfl (fun w' hS => qT 113 [(0, _), (1, _)] [(0, .int .i64 1), (1, .int .i64 1)] _ (by rfl) (by rfl) built_dot11) ?_;simp only [nmz]
  refine qS rfl (fun w' hS => qT 115 [(0, _)] [(0, .agg #[.int .i64 1, .int .i64 1])] _ (by rfl) (by rfl) built_evOne) ?_;simp only [nmz]
  refine qS rfl (fun w' hS => qT 113 [(0, _), (1, _)] [(0, .int .i64 2), (1, .int .i64 1)] _ (by rfl) (by rfl) built_dot21) ?_;simp only [nmz]
  refine qS rfl (fun w' hS => qT 115 [(0, _)] [(0, .agg #[.int .i64 2, .int .i64 1])] _ (by rfl) (by rfl) built_evOther) ?_;simp only [nmz];refine wpDo rfl ?_
  refine qU 115 _ (by rfl) zeroEvV (fun wm hBm hmm hsm => ?_)
  replace hBm : wm.heap[wl.heap.size]? = some (.cells (zO evt0 (.slice none 0 0) (.slice none 0 0)) 115 (0, 0)) := hBm;try simp only [nmz]
  refine wpDo rfl ?_;refine qU 115 _ (by rfl) zeroEvV (fun wn hBn hmn hsn => ?_)
  replace hBn : wn.heap[wm.heap.size]? = some (.cells (zO evt0 (.slice none 0 0) (.slice none 0 0)) 115 (0, 0)) := hBn;have hBm2 := hmn.obj id hBm;try simp only [nmz]
  refine wpDo rfl ?_
  refine qM 115 _ _ wl.heap.size 0 (zO evOne (.slice none 0 0) (.slice none 0 0)) (by rfl) (by rfl) (by rfl) o1 39 (by kernel_rfl) z1 _ _ hBm2 (by rw [z1, zz]; omega) (fun wo hBo hmo => ?_)
  rw [qK (by rw [z1, zz])] at hBo;have hBn2 := hmo.objB (b := wm.heap.size) (by omega) hBn;try simp only [nmz]
  refine wpDo rfl ?_
  refine qM 115 _ _ wm.heap.size 0 (zO xZ (.slice none 0 0) (.slice none 0 0)) (by rfl) (by rfl) (by rfl) o2 39 (by kernel_rfl) z2 _ _ hBn2 (by rw [z2, zz]; omega) (fun wp hBp hmp => ?_)
  rw [qK (by rw [z2, zz])] at hBp;have hBo2 := hmp.objB (b := wl.heap.size) (by omega) hBo;try simp only [nmz]
  refine qB ?_;have hmlp : Mod NoB wl wp := ((hmm.trans0 hmn).transB hmo (Nat.le_refl _)).transB hmp (by omega)
  have hE14 : CellsAt wp wl.heap.size 0 (zO evOne (.slice none 0 0) (.slice none 0 0)) := CellsAt.whole hBo2
  have hE15 : CellsAt wp wm.heap.size 0 (zO xZ (.slice none 0 0) (.slice none 0 0)) := CellsAt.whole hBp;have hBp8 := hmlp.obj id hBl8;have hBp10 := hmlp.obj id hBl10
  have hB6p := hB6l.keep0 hmlp;have hMp := hMl.keep0 hmlp;have hVp := hVl.keep0 hmlp;have hm0p := hm0l.trans0 hmlp;generalize hb14 : wl.heap.size = b14 at *
  generalize hb15 : wm.heap.size = b15 at *;clear hBl8 hBl10 hB6l hMl hVl hm0l hmlp hmm hmn hmo hmp hBm hBn hBo hBm2 hBn2 hBo2 hBp hsm hsn;go_upto_region 13 with (fail)
  refine wpR [1, 1, 1, 1, 1, 3, 3, 3, 3, 3] (by rfl) (by rfl) ?_;simp only [zz2]
  refine wpXA 115 b14 0 (zO evOne (.slice none 0 0) (.slice none 0 0)) hE14 underlying115 39 z1 trivial ?_;try simp only [nmz]
  refine wpXA 115 b15 0 (zO xZ (.slice none 0 0) (.slice none 0 0)) hE15 underlying115 39 z2 trivial ?_;try simp only [nmz]
  refine wpDo rfl ?_
  refine xP 72 115 2 [(0, _), (1, _)] [.agg (zO evOne (.slice none 0 0) (.slice none 0 0)), .agg (zO xZ (.slice none 0 0) (.slice none 0 0))] evZero 39 (by rfl) (by rfl) (by rfl) underlying72 ev_zs (by omega) (by omega) (by intro v hv; simp only [List.mem_cons, List.not_mem_nil, or_false] at hv; rcases hv with rfl | rfl; exact z1; exact z2) (fun wq hBq hmq hsq => ?_)
  replace hBq : wq.heap[wp.heap.size]? = some (.cells (zO evOne (.slice none 0 0) (.slice none 0 0) ++ zO xZ (.slice none 0 0) (.slice none 0 0)) 115 (0, 0)) := by rw [hBq]; simp [Value.cells]
  have hEq := sl_twoB (R := EvR false wq (fun _ => False)) hBq (evOne_r _ _) (evOther_r _ _) 39 z1 z2;try simp only [nmz]
  refine wpDo rfl ?_
  refine xP 64 3 2 [(0, _), (1, _)] [.int .i64 1, .int .i64 0] (.int .i64 0) 1 (by rfl) (by rfl) (by rfl) underlying64 int_zs (by omega) (by omega) (by simp [Value.cells]) (fun wr hBr hmr hsr => ?_)
  replace hBr : wr.heap[wq.heap.size]? = some (.cells (#[.int .i64 1] ++ #[.int .i64 0]) 3 (0, 0)) := by rw [hBr]; simp [Value.cells]
  have hIr := sl_twoB (R := IntC) hBr rfl rfl 1 rfl rfl;have hEr := SlEv.keep0 hEq hmr
  have htomb := swTombs_any hEr (fun k hk => by have e : k = wp.heap.size := hk; have := hmr.size; omega) (fun k hk => hk.elim) hIr (by simp) (fun e he => by simp at he; rcases he with rfl | rfl <;> simp [EvOk, evOne, xZ])
  try simp only [nmz]
  refine wpDo rfl ?_
  refine qG (qH 57 [.tmp 80, .tmp 81] _ rfl _ func57 rfl (by kernel_rfl) [.slice (some ⟨wp.heap.size, 0, none⟩) 2 2, .slice (some ⟨wq.heap.size, 0, none⟩) 2 2] rfl _) (htomb) ?_
  rintro e ws ⟨hms, kv2, dv2, hes, hks, hds, -⟩;subst hes;rw [kept_12] at hks;rw [gone_12] at hds;refine ⟨_, rfl, ?_⟩;refine qA _ rfl rfl ?_;simp only [nmz]
  refine qJ rfl (fun w' => qP _ 0 #[kv2, dv2] rfl rfl kv2 rfl) ?_;simp only [nmz];refine qJ rfl (fun w' => qP _ 1 #[kv2, dv2] rfl rfl dv2 rfl) ?_
  simp only [nmz];refine qD _ rfl rfl ?_;simp only [nmz];refine qD _ rfl rfl ?_;simp only [nmz];refine qB ?_
  have hmps : Mod NoB wp ws := (hmq.trans0 hmr).trans0 hms;have hE14 := hE14.keep hmps id;have hE15 := hE15.keep hmps id;have hBs8 := hmps.obj id hBp8
  have hBs10 := hmps.obj id hBp10;have hB6s := hB6p.keep0 hmps;have hMs := hMp.keep0 hmps;have hVs := hVp.keep0 hmps;have hm0s := hm0p.trans0 hmps;have hKs := hks.slb
  have hDs := DotGs.sl hds;have hD14 := hE14.part (i := 0) (j := 2) (by rw [z1]; omega);rw [(zG evOne (.slice none 0 0) (.slice none 0 0) (by simp [evOne])).dot] at hD14
  clear htomb hks hds hmq hmr hms hBq hBr hEq hIr hEr hmps hBp8 hBp10 hB6p hMp hVp hm0p hsq hsr;have hbl8 : CellsAt ws b8 0 (qR bv 2 1) := CellsAt.whole hBs8
  have hcv : ws.cell? ⟨b8, 0 + 0, none⟩ = some bv := hbl8.cell (j := 0) (by simp [qR]);rw [hbv] at hcv
  have hC10 : CellsAt ws b10 0 (qR bw 0 0) := CellsAt.whole hBs10;clear hbl8 hBs8 hBs10;go_upto_region 14 with (fail)
  refine wpR [1, 3, 3, 3, 1, 3, 3, 3, 3, 3, 3, 3, 1, 3, 3, 3, 3, 3, 3, 3, 3, 1, 0, 1, 3, 3, 3, 3, 3, 3, 3, 1, 1, 1, 3, 3, 3, 3, 1, 1, 1, 3, 3] (by rfl) (by rfl) ?_;simp only [zz2]
  refine wpDo rfl ?_;refine qG (qH 42 [] _ rfl _ func42 rfl (by kernel_rfl) [] rfl _) (awake_any _) ?_;rintro e wt ⟨rfl, hmt⟩;refine ⟨_, rfl, ?_⟩
  refine qA _ rfl rfl ?_;simp only [nmz];refine qA _ rfl rfl ?_;simp only [nmz];refine qA _ rfl rfl ?_;simp only [nmz];refine wpDo rfl ?_
  refine qG (qH 24 [.tmp 87, .tmp 88] _ rfl _ func24 rfl (by kernel_rfl) [u7, .slice (some ⟨b6, 0, none⟩) 2 2] rfl _) (yI _ _ _ _ _ _ _ _ _ (hMs.keep0 hmt) (hB6s.keep0 hmt)) ?_
  rintro e wu ⟨rfl, hmu⟩;rw [decide_eq_true rfl];have hmsu := hmt.trans0 hmu;have hcv := hmsu.cell id hcv;clear hmt hmu;refine ⟨_, rfl, ?_⟩;refine qQ _ _ _ _ rfl rfl rfl ?_
  simp only [nmz];refine qA _ rfl rfl ?_;simp only [nmz];refine qA _ rfl rfl ?_;simp only [nmz];refine qY _ _ _ _ _ _ _ _ rfl rfl rfl rfl rfl true rfl ?_
  simp only [nmz];refine qQ _ _ _ _ rfl rfl rfl ?_;simp only [nmz];refine qA _ rfl rfl ?_;simp only [nmz];refine qE _ _ _ _ _ _ rfl rfl rfl fo_104_0 ?_
  simp only [nmz];refine wpXd 25 b8 (0 + 0) hcv underlying25 trivial ?_;try simp only [nmz]
  refine zP _ _ _ _ _ rfl rfl rfl (by kernel_rfl) ?_;simp only [nmz];refine qY _ _ _ _ _ _ _ _ rfl rfl rfl rfl rfl true rfl ?_;simp only [nmz]
  refine qQ _ _ _ _ rfl rfl rfl ?_;simp only [nmz];refine qA _ rfl rfl ?_;simp only [nmz];refine qA _ rfl rfl ?_;simp only [nmz]
  refine qY _ _ _ _ _ _ _ _ rfl rfl rfl rfl rfl true rfl ?_;simp only [nmz];refine qQ _ _ _ _ rfl rfl rfl ?_;simp only [nmz];refine qA _ rfl rfl ?_
  simp only [nmz];refine wpXA 104 b10 0 (qR bw 0 0) (hC10.keep hmsu id) underlying104 3 rfl trivial ?_;try simp only [nmz]
  refine qS rfl (fun w' hS => qT 104 [] [] _ (by rfl) (by rfl) built_swept0) ?_;simp only [nmz];refine wpDo rfl ?_
  refine qG (qH 54 [.tmp 106, .tmp 107] _ rfl _ func54 rfl (by kernel_rfl) [.agg (qR bw 0 0), .agg (qR (.slice none 0 0) 0 0)] rfl _) (sameSwept_any (hVs.keep0 hmsu) (Sl.nil false wu AnyB 32 IdC) 0 0 0 0) ?_
  rintro e wv ⟨rfl, hmv⟩;simp only [decide_true, Bool.and_self];replace hmsu := hmsu.trans0 hmv;clear hmv;refine ⟨_, rfl, ?_⟩;refine qQ _ _ _ _ rfl rfl rfl ?_;simp only [nmz]
  refine qA _ rfl rfl ?_;simp only [nmz];refine qA _ rfl rfl ?_;simp only [nmz];refine qY _ _ _ _ _ _ _ _ rfl rfl rfl rfl rfl true rfl ?_;simp only [nmz]
  refine qQ _ _ _ _ rfl rfl rfl ?_;simp only [nmz];refine qA _ rfl rfl ?_;simp only [nmz];refine qA _ rfl rfl ?_;simp only [nmz]
  refine wpXA 115 b15 0 (zO xZ (.slice none 0 0) (.slice none 0 0)) (hE15.keep hmsu id) underlying115 39 z2 trivial ?_;try simp only [nmz]
  refine wpDo rfl ?_
  refine zL 72 115 _ (.agg (zO xZ (.slice none 0 0) (.slice none 0 0))) evZero 39 (by rfl) (by rfl) underlying72 ev_zs (by omega) (by omega) z2 (fun bE wx1 hBx hmx1 => ?_)
  have hE : Sl false wx1 AnyB 39 (EvR false wx1 AnyB) (.slice (some ⟨bE, 0, none⟩) 1 1) [xZ] := sl_one hBx (evOther_r _ _) 39 z2;replace hmsu := hmsu.trans0 hmx1;clear hmx1 hBx
  try simp only [nmz]
  refine wpDo rfl ?_
  refine qG (qH 52 [.tmp 115, .tmp 117] _ rfl _ func52 rfl (by kernel_rfl) [kv2, .slice (some ⟨bE, 0, none⟩) 1 1] rfl _) (sameEvents_eq _ _ _ _ _ _ _ _ _ _ (SlEv.keep0 hKs hmsu) hE) ?_
  rintro e wy ⟨rfl, hmy⟩;replace hmsu := hmsu.trans0 hmy;clear hmy hE;refine ⟨_, rfl, ?_⟩;refine qQ _ _ _ _ rfl rfl rfl ?_;simp only [nmz];refine qA _ rfl rfl ?_
  simp only [nmz];refine qA _ rfl rfl ?_;simp only [nmz];refine qE _ _ _ _ _ _ rfl rfl rfl fo_115_0 ?_;simp only [nmz]
  refine wpXA 113 b14 (0 + 0) #[.int .i64 1, .int .i64 1] (hD14.keep hmsu id) underlying113 2 rfl trivial ?_;try simp only [nmz]
  refine wpDo rfl ?_
  refine zL 116 113 _ (.agg #[.int .i64 1, .int .i64 1]) (.agg #[.int .i64 0, .int .i64 0]) 2 (by rfl) (by rfl) underlying116 (by kernel_rfl) (by omega) (by omega) rfl (fun bD wz hBz hmz => ?_)
  have hD : Sl false wz AnyB 2 DotC (.slice (some ⟨bD, 0, none⟩) 1 1) [(1, 1)] := sl_one (R := DotC) (x := (1, 1)) hBz rfl 2 rfl;replace hmsu := hmsu.trans0 hmz;clear hmz hBz
  try simp only [nmz]
  refine wpDo rfl ?_
  refine qG (qH 58 [.tmp 121, .tmp 124] _ rfl _ func58 rfl (by kernel_rfl) [dv2, .slice (some ⟨bD, 0, none⟩) 1 1] rfl _) (sameDots_any _ _ _ _ _ _ _ _ _ (hDs.keep0 hmsu) hD) ?_
  rintro e wend ⟨rfl, hmend⟩;rw [decide_eq_true rfl];replace hmsu := hmsu.trans0 hmend;clear hmend hD;refine ⟨_, rfl, ?_⟩;refine qQ _ _ _ _ rfl rfl rfl ?_;simp only [nmz]
  refine qD _ rfl rfl ?_;simp only [nmz];refine qB ?_;have HF := hid (hm0s.trans0 hmsu);clear hmsu hm0s hcv hC10 hE14 hE15 hD14 hKs hDs hMs hB6s hVs;go_wp2;go_ret
  exact ⟨rfl, HF.out⟩
theorem sweepKnown_any (W : World) : Calls prog 10 #[] W (RetM (.bool true) W) := sweepKnown_walk W
end
section
open Go.RowKit Go.Proofs.Tryz Go.Lib
def EndsAs (ch : Option (List PanicEntry)) (e : Ending) : Prop := match ch with
 | none => ∃ v, e = .returned v
 | some c => e = .panicked c
structure Kept (Kp : World → World → Prop) (n0 : Nat) : Prop where
 refl : ∀ W, Kp W W
 trans : ∀ {A B C}, Kp A B → Kp B C → Kp A C
 of0 : ∀ {W W'}, Mod NoB W W' → Kp W W'
 put : ∀ {W : World} {l : Nat} {o : Obj} (o' : Obj), W.heap[l]? = some o → o.isCells = false → n0 ≤ l → Kp W (W.putObj l o')
def KSt (St : Nat → Prop) (W W' : World) : Prop := Mod (fun k => ¬ St k) W W'
theorem kept_st {St : Nat → Prop} {n0 : Nat} (hSt : ∀ k, St k → k < n0) : Kept (KSt St) n0 where
 refl W := Mod.refl _ W
 trans h k := Mod.trans h k fun _ _ h => h
 of0 h := h.mono fun _ _ h => h.elim
 put o' _ _ hl := (Mod.refl _ _).grown (grownBy_putObj' _ _ o') (fun k e _ hk => by cases e; have := hSt _ hk; omega)
def GivesX (P : Program) {α : Type} (gf : Nat) (lb : Array Value) (enc : α → Array Value → World → Prop) (Kp : World → World → Prop) (xs : List α) (ch : Option (List PanicEntry)) (w : World) : Prop :=
 ∀ (l : Nat) (J : List α → World → Prop) (W : World), Mod NoB w W → OwnFrom W.heap.size J →
  (∀ pre x rest W1 args, xs = pre ++ x :: rest → J pre W1 → enc x args W1 → YieldAt Fence.wide 0 P l args W1 fun e W' => e = .returned (.bool true) ∧ J (pre ++ [x]) W' ∧ Kp W1 W' ∧ KeepsFrom W.heap.size W1 W') →
  J [] W → Calls P gf (#[.func (.yield l) #[] #[]] ++ lb) W fun e W' => EndsAs ch e ∧ J xs W'
theorem wpIn_rangeFunc_gvx {P : Program} {n : Nat} {α : Type} {g : Operand} {ps : Array Tmp} {assign body : Code} {Q : Exit → Act → World → Prop} {a : Act} {w : World} {gf : Nat} {lb : Array Value} (hg : a.eval g = .func (.func gf) #[] lb)
 (eg : ∀ args w, (callFunc gf args).run P w = .ok (.enter gf args) w) {enc : α → Array Value → World → Prop} {Kp : World → World → Prop} {xs : List α} {ch : Option (List PanicEntry)} {w0 : World} (hseq : GivesX P gf lb enc Kp xs ch w0) (hb0 : Mod NoB w0 w) (hps : ∀ x args W, enc x args W → args.size = ps.size)
 (hKp : Kept Kp w.heap.size)
 (I : List α → World → Prop) (hI : OwnFrom w.heap.size I) (h0 : I [] w) (Ax : α → Act → World → Prop) (hAx : ∀ x a', OwnFrom w.heap.size (fun (_ : Unit) W => Ax x a' W))
 (hassign : ∀ (l : Nat) (pre : List α) (x : α) (rest : List α) (args : Array Value) (W : World) (K : Act → World → Prop), xs = pre ++ x :: rest → I pre W → enc x args W → (∀ a' W', KeepsFrom w.heap.size W W' → Kp W W' → I pre W' → Ax x a' W' → K a' W') →
  assign.wpIn (Fence.wide.inRound l) 0 P (Exit.then K (fun _ _ _ => False)) { tmps := (ps.zip args).foldl (fun t (p, v) => t.setIfInBounds p v) a.tmps, defers := [] } W)
 (hbody : ∀ (l : Nat) (pre : List α) (x : α) (rest : List α) (a' : Act) (W : World), xs = pre ++ x :: rest → I pre W → Ax x a' W →
  body.wpIn (Fence.wide.inRound l) 0 P (Exit.then (fun _ W' => KeepsFrom w.heap.size W W' ∧ Kp W W' ∧ I (pre ++ [x]) W') (fun _ _ _ => False)) a' W)
 (hdone : ch = none → ∀ (D : Nat) (W : World), w.heap.size ≤ D → I xs W → W.heap[D]? = some (.deferred (some [])) → Q .normal { a with defers := { target := .collected D, args := #[] } :: a.defers } W)
 (hfell : ∀ c, ch = some c → ∀ (D : Nat) (W : World), w.heap.size ≤ D → I xs W → W.heap[D]? = some (.deferred (some [])) → Q (.panic c) { a with defers := { target := .collected D, args := #[] } :: a.defers } W) :
 (Code.rangeFunc g ps assign body).wpIn Fence.wide n P Q a w := by
 refine wpIn_rangeFunc ?_;intro fn hfn;rw [show Fence.wide.round = none from rfl]
 obtain ⟨rec, hrec⟩ : ∃ rec : LoopState → Loop, rec = fun st => { state := st, pending := none, fn, tmps := a.tmps, params := ps, assign, body, defers := w.heap.size } := ⟨_, rfl⟩
 obtain ⟨W1, hW1⟩ : ∃ W1, (w.alloc (.deferred (some []))).alloc (.loop (rec .ready)) = W1 := ⟨_, rfl⟩;have hs1 : W1.heap.size = w.heap.size + 2 := by rw [← hW1]; simp
 have hL1 : W1.heap[w.heap.size + 1]? = some (.loop (rec .ready)) := by
  rw [← hW1]; have := World.alloc_heap_new (w.alloc (.deferred (some []))) (.loop (rec .ready)); rwa [World.size_alloc] at this
 have hK1 : W1.heap[w.heap.size]? = some (.deferred (some [])) := by
  rw [← hW1]; exact (Below.heap_alloc _ _ _ (by simp)).trans (World.alloc_heap_new w _)
 have hI1 : I [] W1 := by rw [← hW1]; exact hI.alloc _ (hI.alloc _ h0)
 have hb1 : Mod NoB w0 W1 := by rw [← hW1]; exact (hb0.alloc _).alloc _
 refine ⟨w.heap.size + 1, [{ target := .collected w.heap.size, args := #[] }], W1, { target := .fn (.func gf) lb, args := #[.func (.yield (w.heap.size + 1)) #[] #[]] }, W1, gf,
  #[.func (.yield (w.heap.size + 1)) #[] #[]] ++ lb, W1, ?_, ?_, ?_, ?_, fun h => (by simp [Fence.wide] at h), ?_⟩
 · rw [← hW1, hrec]; exact run_enterLoop_outer _ _ _ _ _
 · simp only [resolve, hg]
   simp [go_sem]
 · intro f' _; trivial
 · simp [invoke, go_sem, eg]
 · have hold : ∀ {A B : World} {row : Option Nat} {k : Nat} {o : Obj}, A.grownBy B row → (∀ r, row = some r → W1.heap.size ≤ r ∧ ∃ o : Obj, A.heap[r]? = some o ∧ o.isCells = false) → k < W1.heap.size → A.heap[k]? = some o → B.heap[k]? = some o :=
    fun hg hr hk ho => (hg.block _ (Array.getElem?_eq_some_iff.1 ho).1 (fun e => by have := (hr _ e.symm).1; omega)).trans ho
   have hcalls := hseq (w.heap.size + 1) (fun pre W => I pre W ∧ W.heap[w.heap.size + 1]? = some (.loop (rec .ready)) ∧ W.heap[w.heap.size]? = some (.deferred (some []))) W1 hb1
    (fun s A B row hs hg' hr => ⟨hI s A B row hs.1 hg' (fun r e => ⟨by have := (hr r e).1; omega, (hr r e).2⟩), hold hg' hr (by omega) hs.2.1, hold hg' hr (by omega) hs.2.2⟩)
    ?_ ⟨hI1, hL1, hK1⟩
   · refine (callsIn_wide.2 hcalls).mono ?_
     rintro e W2 ⟨he, hi, hl, hk⟩
     cases ch with
     | none =>
      obtain ⟨v, rfl⟩ := he
      exact ⟨none, _, by have := run_endLoop (P := P) hl (by rw [hrec]; simp); rw [hrec] at this; exact this, hdone rfl _ _ (Nat.le_refl _) (hI.putObj _ hi (by omega) hl rfl) ((World.putObj_heap_other (by omega)).trans hk)⟩
     | some c =>
      have he : e = .panicked c := he;subst he;exact hfell c rfl _ _ (Nat.le_refl _) hi hk
   · rintro pre x rest W args hxs ⟨hi, hl, hk⟩ hen
     have hlt : w.heap.size + 1 < W.heap.size := (Array.getElem?_eq_some_iff.1 hl).1;have hy := run_yield (P := P) (args := args) hl (by rw [hrec]; exact hps x args W hen)
     rw [hrec] at hy;refine ⟨fn, _, assign, body, hy, roundIn_of_wpIn hfn (hassign _ pre x rest args W _ hxs hi hen ?_)⟩;clear hy;intro a' Wa hkfa hkca hia hax
     have hla := hkfa.same _ _ (by omega) hl rfl;have hka := hkfa.same _ _ (Nat.le_refl _) hk rfl;have hlta : w.heap.size + 1 < Wa.heap.size := (Array.getElem?_eq_some_iff.1 hla).1
     refine ⟨_, run_beginRound hla (by rw [hrec]), ?_⟩;obtain ⟨Wb, hWb⟩ : ∃ Wb, Wa.putObj (w.heap.size + 1) (.loop { rec .ready with state := .busy }) = Wb := ⟨_, rfl⟩
     have hlb : Wb.heap[w.heap.size + 1]? = some (.loop { rec .ready with state := .busy }) := by rw [← hWb]; exact World.putObj_heap_same hlta
     have hkb : Wb.heap[w.heap.size]? = some (.deferred (some [])) := by rw [← hWb]; exact (World.putObj_heap_other (by omega)).trans hka
     have hcb : Kp Wa Wb := by rw [← hWb]; exact hKp.put _ hla rfl (by omega)
     have hfb : KeepsFrom W1.heap.size Wa Wb := by
      rw [← hWb];exact KeepsFrom.of_grownBy (grownBy_putObj' Wa _ _) (fun j e => by cases e; omega)
     have hib : I pre Wb := by rw [← hWb]; exact hI.putObj _ hia (by omega) hla rfl
     have haxb : Ax x a' Wb := by rw [← hWb]; exact (hAx x a').putObj (s := ()) _ hax (by omega) hla rfl
     rw [hWb];refine wpIn_mono (hbody _ pre x rest a' _ hxs hib haxb) ?_;rintro e a3 W3 hp
     cases e with
     | normal =>
      obtain ⟨hk3, hc3, hi3⟩ := hp;have hl3 := hk3.same _ _ (by omega) hlb rfl;have hq3 := hk3.same _ _ (Nat.le_refl _) hkb rfl;have hr := run_endRound (P := P) none hl3
      rw [hrec] at hr hl3
      refine ⟨_, _, hr, rfl, ⟨hI.putObj _ hi3 (by omega) hl3 rfl, ?_, (World.putObj_heap_other (by omega)).trans hq3⟩, hKp.trans (hKp.trans (hKp.trans hkca hcb) hc3) (hKp.put _ hl3 rfl (by omega)), ?_⟩
      · rw [hrec]; exact World.putObj_heap_same (Array.getElem?_eq_some_iff.1 hl3).1
      · refine KeepsFrom.trans (KeepsFrom.trans (KeepsFrom.trans ?_ hfb) ?_) (KeepsFrom.of_grownBy (grownBy_putObj' W3 _ _) (fun j e => by cases e; omega))
        · exact ⟨hkfa.size, fun k o hb ho hc => hkfa.same k o (by omega) ho hc⟩
        · exact ⟨hk3.size, fun k o hb ho hc => hk3.same k o (by omega) ho hc⟩
     | _ => exact hp.elim
end
section
open Go.RowKit Go.Shelf Go.Proofs.Tryz Go.Lib
section
variable {P : Program} {n fuel : Nat} {ops : Array Oper} {Q : Exit → Act → World → Prop} {listed : Array Bool} {a : Act} {w : World} {o : Oper}
theorem op_at {l : List Oper} {i : Nat} (hi : i < l.length) : l.toArray[i]? = some (l.getD i default) := by simp [List.getD, List.getElem?_eq_getElem hi]
theorem takeIn {l : List Oper} {i : Nat} {v : Value} (hi : i < l.length) (hs : Region.noSelect l.toArray = true) (hf : Region.free .any l.toArray listed i = true) (hr : (Region.ready .any l.toArray listed).contains i = true) (hQ : yF Q)
 (hw : Region.wanted (l.getD i default) (yielded l.toArray a.tmps) = true) (hv : ∀ w, (execOp a.eval (l.getD i default)).run P w = .ok (.value v) w) (hab : ∀ w, (l.getD i default).about P w a.eval = none)
 (h : wpAnyIn Fence.wide n P .any l.toArray Q fuel (listed.setIfInBounds i true) (a.put (l.getD i default).dst v) w) : wpAnyIn Fence.wide n P .any l.toArray Q (fuel + 1) listed a w :=
 wpAnyIn_take rfl (op_at hi) hs hf hr (fun c a' w' h' => hQ c _ a' w' (put_defers a' _ v).symm h') ⟨.inl ⟨hw, hv⟩, hab⟩ h
theorem yY {l : List Oper} {i : Nat} (hr : Region.ready .any l.toArray listed = [i]) (hi : i < l.length) (hw : Region.wanted (l.getD i default) (yielded l.toArray a.tmps) = true)
 (h : ∀ K : Act → World → Prop, (∀ a' w', wpAnyIn Fence.wide n P .any l.toArray Q fuel (listed.setIfInBounds i true) a' w' → K a' w') → (l.getD i default).wpIn Fence.wide n P a w K Q) : wpAnyIn Fence.wide n P .any l.toArray Q (fuel + 1) listed a w :=
 wpAnyIn_ready hr (by simp) (AllReadyIn.cons (op_at hi) (fun K' hK => by rw [if_pos hw]; exact h K' hK) AllReadyIn.nil)
theorem readyIn2 {l : List Oper} {i j : Nat} (hr : Region.ready .any l.toArray listed = [i, j]) (hi : i < l.length) (hj : j < l.length) (hw : Region.wanted (l.getD i default) (yielded l.toArray a.tmps) = true) (hw2 : Region.wanted (l.getD j default) (yielded l.toArray a.tmps) = true)
 (h : ∀ K : Act → World → Prop, (∀ a' w', wpAnyIn Fence.wide n P .any l.toArray Q fuel (listed.setIfInBounds i true) a' w' → K a' w') → (l.getD i default).wpIn Fence.wide n P a w K Q)
 (h2 : ∀ K : Act → World → Prop, (∀ a' w', wpAnyIn Fence.wide n P .any l.toArray Q fuel (listed.setIfInBounds j true) a' w' → K a' w') → (l.getD j default).wpIn Fence.wide n P a w K Q) : wpAnyIn Fence.wide n P .any l.toArray Q (fuel + 1) listed a w :=
 wpAnyIn_ready hr (by simp) (AllReadyIn.cons (op_at hi) (fun K' hK => by rw [if_pos hw]; exact h K' hK) (AllReadyIn.cons (op_at hj) (fun K' hK => by rw [if_pos hw2]; exact h2 K' hK) AllReadyIn.nil))
theorem exec_add (t : TypeId) (x y : Operand) (yt : TypeId) (m k z : Int) (ho : o.op = .binOp .add t x y yt) (hx : a.eval x = .int .i64 m) (hy : a.eval y = .int .i64 k) (hz : m + k = z) (h1 : -9223372036854775808 ≤ z) (h2 : z ≤ 9223372036854775807) :
 (execOp a.eval o).run P w = .ok (.value (.int .i64 z)) w := by
 subst hz;unfold execOp;have e := wrap_in h1 h2
 simp [ho, hx, hy, eqGuard, binOp, Op.intArith, e]
theorem wpIn_yield2 {K : Act → World → Prop} {l : Nat} {R : Ending → World → Prop} (x y z : Operand) (ts : Array TypeId) (ho : o.op = .call { callee := .value x, args := #[y, z], argTypes := ts }) (hx : a.eval x = .func (.yield l) #[] #[]) (v u : Value) (hv : a.eval y = v) (hu : a.eval z = u)
 (hy : YieldAt Fence.wide (n - 1) P l #[v, u] w R) (hR : ∀ e w', R e w' → ∃ v, e = .returned v ∧ K (a.put o.dst v) w') : o.wpIn Fence.wide n P a w K Q := by
 subst hv hu;obtain ⟨fn, tmps, assign, body, hrun, hround⟩ := hy;unfold Oper.wpIn;refine ⟨fun _ _ => trivial, ?_⟩;rw [Oper.semAt_eq _ _ _ (fun c h => by rw [ho] at h; cases h)]
 have e : (execOp a.eval o).run P w = .ok (.round l fn tmps assign body) w := by
  unfold execOp
  simp [ho, resolve, hx, Deferred.ofValue, invoke, hrun]
 rw [e];refine ⟨fun h => by simp [Fence.wide] at h, hround.mono fun e w' he => ?_⟩;obtain ⟨v, rfl, hk⟩ := hR e w' he;exact hk
end
def sidesL (l m : List Int) : List (Int × Int) := (List.range (max l.length m.length)).map fun (i : Nat) => (atV l ((i : Int) + 1), atV m ((i : Int) + 1))
theorem sidesL_len (l m : List Int) : (sidesL l m).length = max l.length m.length := by simp [sidesL]
theorem sidesL_at (l m : List Int) (k : Nat) (hk : k < (sidesL l m).length) : (sidesL l m)[k] = (atV l ((k : Int) + 1), atV m ((k : Int) + 1)) := by simp [sidesL]
theorem joinV_sides (l m : List Int) : joinV l m = (sidesL l m).map fun p => max p.1 p.2 := by simp [joinV, sidesL]
def PairE (p : Int × Int) (args : Array Value) (_ : World) : Prop := args = #[.int .i64 p.1, .int .i64 p.2]
def SidesR (w : World) (v u : Value) : Ending → World → Prop := fun e w' => ∃ b c, e = .returned (.func (.func 231) #[] #[.pointer (some ⟨b, 0, none⟩), .pointer (some ⟨c, 0, none⟩)]) ∧ w'.heap[b]? = some (.cells #[v] 64 (0, 0)) ∧ w'.heap[c]? = some (.cells #[u] 64 (0, 0)) ∧ Mod NoB w w'
theorem vSides_any (w : World) (ad bd : Option Addr) (n c m d : Nat) : Calls prog 200 #[.slice ad n c, .slice bd m d] w (SidesR w (.slice ad n c) (.slice bd m d)) := by
 go_enter func200, ntmps200;go_upto_region 0 with (fail);refine wpR [1, 1, 3] (by rfl) (by rfl) ?_;simp only [zz2];refine wpDo rfl ?_
 refine xF 64 _ _ (by rfl) (by rfl) (fun w1 hB1 hm1 hs1 => ?_);replace hB1 : w1.heap[w.heap.size]? = some (.cells #[.slice ad n c] 64 (0, 0)) := hB1;try simp only [nmz]
 refine wpDo rfl ?_;refine xF 64 _ _ (by rfl) (by rfl) (fun w2 hB2 hm2 hs2 => ?_);replace hB2 : w2.heap[w1.heap.size]? = some (.cells #[.slice bd m d] 64 (0, 0)) := hB2
 refine qD _ rfl rfl ?_;simp only [nmz];refine qB ?_;have hB12 := hm2.obj id hB1;have hmf := xJ;go_wp2;go_ret;exact ⟨_, _, rfl, hB12, hB2, hm1.trans0 hm2⟩
def SdRel (xs : List (Int × Int)) (J : List (Int × Int) → World → Prop) (St : Nat → Prop) (W0 : World) (i : Value) (w : World) : Prop :=
 ∃ k : Nat, k ≤ xs.length ∧ i = .int .i64 k ∧ J (xs.take k) w ∧ KSt St W0 w
theorem vSides1_gives {w : World} {b c : Nat} {v u : Value} {l m : List Int} {St : Nat → Prop} (hb : w.heap[b]? = some (.cells #[v] 64 (0, 0))) (hc : w.heap[c]? = some (.cells #[u] 64 (0, 0))) (hl : Sl false w St 1 IntC v l) (hm : Sl false w St 1 IntC u m) (hSb : St b) (hSc : St c) :
 GivesX prog 231 #[.pointer (some ⟨b, 0, none⟩), .pointer (some ⟨c, 0, none⟩)] PairE (KSt St) (sidesL l m) none w := by
 intro y J W hW hJ hY h0;have hbW := hW.obj id hb;have hcW := hW.obj id hc;have hlW := hl.keep0 hW;have hmW := hm.keep0 hW;obtain ⟨ad, cap, rfl, hle, -⟩ := Sl.at hlW
 obtain ⟨bd, dap, rfl, hme, -⟩ := Sl.at hmW;have hcb : W.cell? ⟨b, 0, none⟩ = some (.slice ad l.length cap) := by simp [World.cell?, hbW]
 have hcc : W.cell? ⟨c, 0, none⟩ = some (.slice bd m.length dap) := by simp [World.cell?, hcW]
 have hN := sidesL_len l m;have hmax : max (l.length : Int) (m.length : Int) = ((sidesL l m).length : Nat) := by rw [hN]; omega
 have hNb : (sidesL l m).length ≤ 9223372036854775807 := by omega
 have hat : ∀ k (hk : k < (sidesL l m).length), (sidesL l m)[k] = (atV l ((k : Int) + 1), atV m ((k : Int) + 1)) := sidesL_at l m;have HAT := hid hat
 generalize hxs : sidesL l m = xs at *;have HR0 : Hid (SdRel xs J St W (.int .i64 (0 : Nat)) W) := hid ⟨0, Nat.zero_le _, rfl, by rw [List.take_zero]; exact h0, Mod.refl _ _⟩
 have HL := hid hlW;have HM := hid hmW;clear hb hc hl hm h0 hW hN hat hlW hmW hxs;go_enter func231, ntmps231;go_upto_region 0 with (fail)
 refine wpR [1, 3, 1, 3, 1, 3] (by rfl) (by rfl) ?_;simp only [zz2];refine wpXd 64 b 0 hcb underlying64 trivial ?_;try simp only [nmz]
 refine zP _ _ _ _ _ rfl rfl rfl (by kernel_rfl) ?_;simp only [nmz];refine wpXd 64 c 0 hcc underlying64 trivial ?_;try simp only [nmz]
 refine zP _ _ _ _ _ rfl rfl rfl (by kernel_rfl) ?_;simp only [nmz]
 refine wpX rfl (exec_max _ _ _ (l.length : Int) (m.length : Int) _ (by rfl) (by rfl) (by rfl) hmax) trivial ?_;refine qA _ rfl rfl ?_;simp only [nmz];refine qB ?_
 go_wp2
 go_loopw [10] (SdRel xs J St W) (fun i _ => xs.length - (intOf i).toNat)
 case atStart => exact HR0.out
 case round =>
  rename World => wr
  obtain ⟨k, hk, rfl, hJr, hkr⟩ := hrel
  by_cases hlt : k < xs.length
  · have hz : (k : Int) < (xs.length : Nat) := by omega
    have hbr : wr.drew.cell? ⟨b, 0, none⟩ = some (.slice ad l.length cap) := (hkr.drew).cell (fun h => h hSb) hcb
    have hcr : ∀ w', Mod NoB wr.drew w' → w'.cell? ⟨c, 0, none⟩ = some (.slice bd m.length dap) := fun w' hm' => hm'.cell id ((hkr.drew).cell (fun h => h hSc) hcc)
    have hlr := HL.out.keep (hkr.drew) (fun k hk h => h hk) (fun _ _ h => h);have hmr := HM.out.keep (hkr.drew) (fun k hk h => h hk) (fun _ _ h => h)
    have hcall1 := vAt_any hlr ((k : Int) + 1);have hcall2 := fun w' (hm' : Mod NoB wr.drew w') => vAt_any (hmr.keep0 hm') ((k : Int) + 1);go_upto_region 3 with (fail)
    have hxk := HAT.out k hlt;have hsp := yR hlt;rw [hxk] at hsp
    have hsn : xs.take k ++ [(atV l ((k : Int) + 1), atV m ((k : Int) + 1))] = xs.take (k + 1) := by rw [← hxk]; exact take_snoc hlt
    have HSP := hid hsp;have HSN := hid hsn;clear hsp hsn hxk;refine (wpIn_wide (n := 1)).1 (wpIn_region_any (by kernel_rfl) ?_)
    refine takeIn (fuel := 10) (i := 0) (by simp) (by kernel_rfl) (by kernel_rfl) (by kernel_rfl) (fun _ _ _ _ hd h => ⟨hd.trans h.1, h.2⟩) rfl (fun w' => jF _ (by rfl)) (fun w' => rfl) ?_
    simp only [nmz]
    refine takeIn (fuel := 9) (i := 2) (by simp) (by kernel_rfl) (by kernel_rfl) (by kernel_rfl) (fun _ _ _ _ hd h => ⟨hd.trans h.1, h.2⟩) rfl (fun w' => jF _ (by rfl)) (fun w' => rfl) ?_
    simp only [nmz]
    refine takeIn (fuel := 8) (i := 3) (by simp) (by kernel_rfl) (by kernel_rfl) (by kernel_rfl) (fun _ _ _ _ hd h => ⟨hd.trans h.1, h.2⟩) rfl (fun w' => exec_add _ _ _ _ (k : Int) 1 ((k : Int) + 1) (by rfl) (by rfl) (by rfl) rfl (by omega) (by omega)) (fun w' => rfl) ?_
    simp only [nmz]
    refine takeIn (fuel := 7) (i := 6) (by simp) (by kernel_rfl) (by kernel_rfl) (by kernel_rfl) (fun _ _ _ _ hd h => ⟨hd.trans h.1, h.2⟩) rfl (fun w' => jF _ (by rfl)) (fun w' => rfl) ?_
    simp only [nmz]
    refine takeIn (fuel := 6) (i := 7) (by simp) (by kernel_rfl) (by kernel_rfl) (by kernel_rfl) (fun _ _ _ _ hd h => ⟨hd.trans h.1, h.2⟩) rfl (fun w' => exec_add _ _ _ _ (k : Int) 1 ((k : Int) + 1) (by rfl) (by rfl) (by rfl) rfl (by omega) (by omega)) (fun w' => rfl) ?_
    simp only [nmz];refine readyIn2 (i := 1) (j := 5) (by kernel_rfl) (by simp) (by simp) rfl rfl (fun K hK => ?_) (fun K hK => ?_)
    · skip
      refine zH (fun c h => by cases h) ?_;refine zS (zJ 64 _ (by rfl) b 0 (by rfl) _ hbr _ underlying64 rfl) ?_;refine hK _ _ ?_;clear hK K;simp only [nmz]
      refine readyIn2 (i := 4) (j := 5) (by kernel_rfl) (by simp) (by simp) rfl rfl (fun K hK => ?_) (fun K hK => ?_)
      · skip
        refine zH (fun c h => by cases h) ?_
        refine qG (qH 134 [.tmp 14, .tmp 16] _ rfl _ func134 rfl (by kernel_rfl) [.slice ad l.length cap, .int .i64 ((k : Int) + 1)] rfl _) hcall1 ?_
        rintro e w2 ⟨rfl, hm2⟩;refine ⟨_, rfl, hK _ _ ?_⟩;clear hK K;simp only [nmz];refine yY (i := 5) (by kernel_rfl) (by simp) rfl (fun K hK => ?_)
        refine zH (fun c h => by cases h) ?_;refine zS (zJ 64 _ (by rfl) c 0 (by rfl) _ (hcr w2 hm2) _ underlying64 rfl) ?_;refine hK _ _ ?_;clear hK K
        simp only [nmz];refine yY (i := 8) (by kernel_rfl) (by simp) rfl (fun K hK => ?_);refine zH (fun c h => by cases h) ?_
        refine qG (qH 134 [.tmp 18, .tmp 20] _ rfl _ func134 rfl (by kernel_rfl) [.slice bd m.length dap, .int .i64 ((k : Int) + 1)] rfl _) (hcall2 w2 hm2) ?_
        rintro e w3 ⟨rfl, hm3⟩;refine ⟨_, rfl, hK _ _ ?_⟩;clear hK K;simp only [nmz];have hmr3 : Mod NoB wr w3 := ((Mod.refl _ wr).drew).trans0 (hm2.trans0 hm3)
        have hYk := hY _ _ _ w3 #[.int .i64 (atV l ((k : Int) + 1)), .int .i64 (atV m ((k : Int) + 1))] HSP.out (OwnFrom.mod0 hJ hJr hmr3) rfl
        refine yY (i := 9) (by kernel_rfl) (by simp) rfl (fun K hK => ?_)
        refine wpIn_yield2 (l := y) _ _ _ _ (by rfl) (by rfl) (.int .i64 (atV l ((k : Int) + 1))) (.int .i64 (atV m ((k : Int) + 1))) (by rfl) (by rfl) hYk (fun e' w5 he' => ?_)
        obtain ⟨rfl, hJ5, hk5, -⟩ := he';refine ⟨_, rfl, ?_⟩;refine hK _ _ ?_;clear hK K;simp only [nmz];refine yY (i := 10) (by kernel_rfl) (by simp) rfl (fun K hK => ?_)
        refine zH (fun c h => by cases h) ?_;refine zS (exec_not _ _ true (by rfl) (by rfl)) ?_;refine hK _ _ ?_;clear hK K;simp only [nmz]
        refine wpAnyIn_done (by kernel_rfl) ?_ _
        have HR : Hid (SdRel xs J St W (.int .i64 ((k + 1 : Nat) : Int)) w5) := hid ⟨k + 1, by omega, rfl, by rw [← HSN.out]; exact hJ5, (hkr.trans hmr3 (fun _ _ h => h.elim)).trans hk5 (fun _ _ h => h)⟩
        clear hkr hmr3 hm2 hm3 hYk hJ5 hk5 hJr hbr hcr hlr hmr hcall1 hcall2;go_wp2
        go_roundw
        case rel => exact HR.out
        case measure => simp [intOf]; omega
      · skip
        refine zH (fun c h => by cases h) ?_;refine zS (zJ 64 _ (by rfl) c 0 (by rfl) _ (hcr _ (Mod.refl _ _)) _ underlying64 rfl) ?_;refine hK _ _ ?_
        clear hK K;simp only [nmz];refine yY (i := 4) (by kernel_rfl) (by simp) rfl (fun K hK => ?_);refine zH (fun c h => by cases h) ?_
        refine qG (qH 134 [.tmp 14, .tmp 16] _ rfl _ func134 rfl (by kernel_rfl) [.slice ad l.length cap, .int .i64 ((k : Int) + 1)] rfl _) hcall1 ?_
        rintro e w2 ⟨rfl, hm2⟩;refine ⟨_, rfl, hK _ _ ?_⟩;clear hK K;simp only [nmz];refine yY (i := 8) (by kernel_rfl) (by simp) rfl (fun K hK => ?_)
        refine zH (fun c h => by cases h) ?_
        refine qG (qH 134 [.tmp 18, .tmp 20] _ rfl _ func134 rfl (by kernel_rfl) [.slice bd m.length dap, .int .i64 ((k : Int) + 1)] rfl _) (hcall2 w2 hm2) ?_
        rintro e w3 ⟨rfl, hm3⟩;refine ⟨_, rfl, hK _ _ ?_⟩;clear hK K;simp only [nmz];have hmr3 : Mod NoB wr w3 := ((Mod.refl _ wr).drew).trans0 (hm2.trans0 hm3)
        have hYk := hY _ _ _ w3 #[.int .i64 (atV l ((k : Int) + 1)), .int .i64 (atV m ((k : Int) + 1))] HSP.out (OwnFrom.mod0 hJ hJr hmr3) rfl
        refine yY (i := 9) (by kernel_rfl) (by simp) rfl (fun K hK => ?_)
        refine wpIn_yield2 (l := y) _ _ _ _ (by rfl) (by rfl) (.int .i64 (atV l ((k : Int) + 1))) (.int .i64 (atV m ((k : Int) + 1))) (by rfl) (by rfl) hYk (fun e' w5 he' => ?_)
        obtain ⟨rfl, hJ5, hk5, -⟩ := he';refine ⟨_, rfl, ?_⟩;refine hK _ _ ?_;clear hK K;simp only [nmz];refine yY (i := 10) (by kernel_rfl) (by simp) rfl (fun K hK => ?_)
        refine zH (fun c h => by cases h) ?_;refine zS (exec_not _ _ true (by rfl) (by rfl)) ?_;refine hK _ _ ?_;clear hK K;simp only [nmz]
        refine wpAnyIn_done (by kernel_rfl) ?_ _
        have HR : Hid (SdRel xs J St W (.int .i64 ((k + 1 : Nat) : Int)) w5) := hid ⟨k + 1, by omega, rfl, by rw [← HSN.out]; exact hJ5, (hkr.trans hmr3 (fun _ _ h => h.elim)).trans hk5 (fun _ _ h => h)⟩
        clear hkr hmr3 hm2 hm3 hYk hJ5 hk5 hJr hbr hcr hlr hmr hcall1 hcall2;go_wp2
        go_roundw
        case rel => exact HR.out
        case measure => simp [intOf]; omega
    · skip
      refine zH (fun c h => by cases h) ?_;refine zS (zJ 64 _ (by rfl) c 0 (by rfl) _ (hcr _ (Mod.refl _ _)) _ underlying64 rfl) ?_;refine hK _ _ ?_;clear hK K
      simp only [nmz];refine yY (i := 1) (by kernel_rfl) (by simp) rfl (fun K hK => ?_);refine zH (fun c h => by cases h) ?_
      refine zS (zJ 64 _ (by rfl) b 0 (by rfl) _ hbr _ underlying64 rfl) ?_;refine hK _ _ ?_;clear hK K;simp only [nmz]
      refine yY (i := 4) (by kernel_rfl) (by simp) rfl (fun K hK => ?_);refine zH (fun c h => by cases h) ?_
      refine qG (qH 134 [.tmp 14, .tmp 16] _ rfl _ func134 rfl (by kernel_rfl) [.slice ad l.length cap, .int .i64 ((k : Int) + 1)] rfl _) hcall1 ?_
      rintro e w2 ⟨rfl, hm2⟩;refine ⟨_, rfl, hK _ _ ?_⟩;clear hK K;simp only [nmz];refine yY (i := 8) (by kernel_rfl) (by simp) rfl (fun K hK => ?_)
      refine zH (fun c h => by cases h) ?_
      refine qG (qH 134 [.tmp 18, .tmp 20] _ rfl _ func134 rfl (by kernel_rfl) [.slice bd m.length dap, .int .i64 ((k : Int) + 1)] rfl _) (hcall2 w2 hm2) ?_
      rintro e w3 ⟨rfl, hm3⟩;refine ⟨_, rfl, hK _ _ ?_⟩;clear hK K;simp only [nmz];have hmr3 : Mod NoB wr w3 := ((Mod.refl _ wr).drew).trans0 (hm2.trans0 hm3)
      have hYk := hY _ _ _ w3 #[.int .i64 (atV l ((k : Int) + 1)), .int .i64 (atV m ((k : Int) + 1))] HSP.out (OwnFrom.mod0 hJ hJr hmr3) rfl
      refine yY (i := 9) (by kernel_rfl) (by simp) rfl (fun K hK => ?_)
      refine wpIn_yield2 (l := y) _ _ _ _ (by rfl) (by rfl) (.int .i64 (atV l ((k : Int) + 1))) (.int .i64 (atV m ((k : Int) + 1))) (by rfl) (by rfl) hYk (fun e' w5 he' => ?_)
      obtain ⟨rfl, hJ5, hk5, -⟩ := he';refine ⟨_, rfl, ?_⟩;refine hK _ _ ?_;clear hK K;simp only [nmz];refine yY (i := 10) (by kernel_rfl) (by simp) rfl (fun K hK => ?_)
      refine zH (fun c h => by cases h) ?_;refine zS (exec_not _ _ true (by rfl) (by rfl)) ?_;refine hK _ _ ?_;clear hK K;simp only [nmz]
      refine wpAnyIn_done (by kernel_rfl) ?_ _
      have HR : Hid (SdRel xs J St W (.int .i64 ((k + 1 : Nat) : Int)) w5) := hid ⟨k + 1, by omega, rfl, by rw [← HSN.out]; exact hJ5, (hkr.trans hmr3 (fun _ _ h => h.elim)).trans hk5 (fun _ _ h => h)⟩
      clear hkr hmr3 hm2 hm3 hYk hJ5 hk5 hJr hbr hcr hlr hmr hcall1 hcall2;go_wp2
      go_roundw
      case rel => exact HR.out
      case measure => simp [intOf]; omega
  · have hz : ¬ (k : Int) < (xs.length : Nat) := by omega
    obtain rfl : k = xs.length := by omega
    rw [List.take_length] at hJr;clear hkr;go_wp2
    go_end0
    exact ⟨⟨_, rfl⟩, hJr⟩
def intEnc (x : Int) : List Value := [.int .i64 x]
theorem intEnc_len : ∀ x, (intEnc x).length = 1 := fun _ => rfl
theorem intEnc_one : ∀ x, ∀ c ∈ intEnc x, c.oneCell' = true := by
 intro x c hc;simp only [intEnc, List.mem_cons, List.not_mem_nil, or_false] at hc;rw [hc]; rfl
abbrev IntGs (base : Nat) (w : World) (v : Value) (l : List Int) : Prop := Gat intEnc 3 1 base w v l
theorem IntGs.sl {base : Nat} {w : World} {v : Value} {l : List Int} (h : IntGs base w v l) : Sl true w (fun q => base ≤ q ∧ q < w.heap.size ∧ v.ownBlock = some q) 1 IntC v l :=
 (Gat.sl h intEnc_len).mono (fun _ h => h) (fun _ _ h => h)
theorem gat_cells {α : Type} {enc : α → List Value} {e k base : Nat} {w : World} {v : Value} {l : List α} (h : Gat enc e k base w v l) {q : Nat} (hq : v.ownBlock = some q) : ∃ o, w.heap[q]? = some o ∧ o.isCells = true := by
 rcases h.2 with ⟨rfl, -⟩ | ⟨g, cap, cur, rfl, -, hg, -⟩
 · cases hq
 · cases hq; exact ⟨_, hg, rfl⟩
theorem run_closN {P : Program} {o : Oper} {a : Act} {w : World} (x : Operand) (ys : List Operand) (ts : Array TypeId) (gf : Nat) (lb : Array Value) (ho : o.op = .call { callee := .value x, args := ys.toArray, argTypes := ts }) (hx : a.eval x = .func (.func gf) #[] lb) (vs : List Value) (hv : ys.map a.eval = vs)
 (eg : ∀ args w, (callFunc gf args).run P w = .ok (.enter gf args) w) : (execOp a.eval o).run P w = .ok (.enter gf (vs.toArray ++ lb)) w := by
 subst hv;unfold execOp
 simp [ho, resolve, hx, Deferred.ofValue, invoke, eg]
theorem vJoin1_any (a b : Int) (w : World) : Calls prog 136 #[.int .i64 a, .int .i64 b] w (RetM (.int .i64 (max a b)) w) := by
 go_enter func136, ntmps136;go_upto_region 1 with (fail);refine wpR [3, 3, 1, 3] (by rfl) (by rfl) ?_;simp only [zz2];refine qA _ rfl rfl ?_;simp only [nmz]
 refine qA _ rfl rfl ?_;simp only [nmz];refine wpX rfl (exec_max _ _ _ a b _ (by rfl) (by rfl) (by rfl) rfl) trivial ?_;refine qD _ rfl rfl ?_;simp only [nmz]
 refine qB ?_;go_wp2;go_ret;exact ⟨rfl, Mod.refl _ _⟩
theorem int_i : (prog.info? 3).map (fun i => (i.zero, i.size, i.bytes)) = some (some (.int .i64 0), 1, 8) := by kernel_rfl
def PickR (base : Nat) (v : Value) (l : List Int) (w : World) : Ending → World → Prop := fun e w' => ∃ v', e = .returned v' ∧ IntGs base w' v' l ∧ Mod (fun q => v.ownBlock = some q) w w'
theorem vPicked1_any {base pb : Nat} {w : World} {v : Value} {l : List Int} (hp : w.heap[pb]? = some (.cells #[.func (.func 136) #[] #[]] 28 (0, 0))) (hg : IntGs base w v l) (hb : base ≤ w.heap.size) (hn : l.length ≤ 100000) (a b : Int) :
 Calls prog 201 (#[v, .int .i64 a, .int .i64 b] ++ #[.pointer (some ⟨pb, 0, none⟩)]) w (PickR base v (l ++ [max a b]) w) := by
 rw [show #[v, .int .i64 a, .int .i64 b] ++ #[.pointer (some ⟨pb, 0, none⟩)] = #[v, .int .i64 a, .int .i64 b, .pointer (some ⟨pb, 0, none⟩)] from rfl]
 have hc : w.cell? ⟨pb, 0, none⟩ = some (.func (.func 136) #[] #[]) := by simp [World.cell?, hp]
 obtain ⟨ad, cap, rfl⟩ := hg.slice;have HG := hid hg;clear hg hp;go_enter func201, ntmps201;go_upto_region 1 with (fail);refine wpR [3, 1, 3, 3, 1, 1, 1, 3] (by rfl) (by rfl) ?_
 simp only [zz2];refine qA _ rfl rfl ?_;simp only [nmz];refine wpXd 28 pb 0 hc underlying28 trivial ?_;refine qA _ rfl rfl ?_;simp only [nmz]
 refine qA _ rfl rfl ?_;simp only [nmz];refine wpDo rfl ?_
 refine qG (run_closN (.tmp 9) [.tmp 10, .tmp 11] _ 136 #[] (by rfl) (by rfl) [.int .i64 a, .int .i64 b] (by rfl) (enters_of func136 (by kernel_rfl) rfl)) (vJoin1_any a b _) ?_
 rintro e w1 ⟨rfl, hm1⟩;refine ⟨_, rfl, ?_⟩;try simp only [nmz]
 refine wpDo rfl ?_
 refine zC 64 3 _ (.int .i64 (max a b)) (.int .i64 0) 1 (by rfl) (by rfl) underlying64 (by kernel_rfl) (by omega) (by omega) rfl (fun w2 hB2 hm2 hs2 => ?_)
 replace hB2 : w2.heap[w1.heap.size]? = some (.cells (intEnc (max a b)).toArray 3 (0, 0)) := hB2;have hm02 := hm1.trans0 hm2;try simp only [nmz]
 refine wpDo rfl ?_
 refine wp_gat intEnc _ _ 64 3 (.int .i64 0) 1 8 (by rfl) underlying64 int_i rfl (by omega) intEnc_one base _ l (by rfl) (HG.out.keep0 hm02) _ [max a b] (by rfl) (src_lit intEnc_len hB2) (by simp only [List.length_singleton]; unfold maxLen; omega) (by simp only [List.length_singleton]; omega) (Nat.le_trans hb hm02.size) (fun v3 w3 hg3 hm3 => ?_)
 have HF : Hid (PickR base (.slice ad l.length cap) (l ++ [max a b]) w (.returned v3) w3) := hid ⟨v3, rfl, hg3, (hm02.mono (fun _ _ h => h.elim)).trans hm3 (fun _ _ h => h)⟩
 refine qD _ rfl rfl ?_;simp only [nmz];refine qB ?_;clear hg3 hm3 hm02 hm1 hm2 hB2 hc;go_wp2;go_ret;exact HF.out
abbrev pickF (pp : Nat) : Value := .func (.func 201) #[] #[.pointer (some ⟨pp, 0, none⟩)]
def maxL (xs : List (Int × Int)) : List Int := xs.map fun p => max p.1 p.2
def FldI (w : World) (n base pp : Nat) (pre : List (Int × Int)) (W : World) : Prop :=
 ∃ v, W.heap[n]? = some (.cells #[v] 64 (0, 0)) ∧ IntGs base W v (maxL pre) ∧ W.heap[n + 1]? = some (.cells #[pickF pp] 295 (0, 0)) ∧ W.heap[pp]? = some (.cells #[.func (.func 136) #[] #[]] 28 (0, 0)) ∧ Mod NoB w W
theorem fldI_own {w : World} {n base pp B : Nat} (h1 : n + 1 < B) (hp : pp < B) (hw : w.heap.size ≤ B) : OwnFrom B (FldI w n base pp) := by
 intro s A C row hs hg hr;obtain ⟨v, k1, k2, k3, k4, k5⟩ := hs;have hm : Mod (fun k => some k = row) A C := Mod.of_grown hg fun r e => e.symm
 have no : ∀ k, k < B → ¬ some k = row := fun k hk e => by have := (hr _ e.symm).1; omega
 refine ⟨v, hm.obj (no _ (by omega)) k1, Gat.keep k2 hm (fun q hq e => ?_), hm.obj (no _ h1) k3, hm.obj (no _ hp) k4, k5.trans hm (fun k hk e => ?_)⟩
 · obtain ⟨o, ho, hc⟩ := gat_cells k2 hq
   obtain ⟨_, o', ho', hc'⟩ := hr _ e.symm;rw [ho] at ho'; cases ho'; rw [hc] at hc'; cases hc'
 · exact no k (Nat.lt_of_lt_of_le hk hw) e
theorem maxL_snoc (pre : List (Int × Int)) (x : Int × Int) : maxL (pre ++ [x]) = maxL pre ++ [max x.1 x.2] := by simp [maxL]
abbrev seqF (b c : Nat) : Value := .func (.func 231) #[] #[.pointer (some ⟨b, 0, none⟩), .pointer (some ⟨c, 0, none⟩)]
def FldAx (b c pp n : Nat) (x : Int × Int) (a : Act) (_ : World) : Prop :=
 a = { tmps := #[seqF b c, .slice none 0 0, pickF pp, undef, .pointer (some ⟨n, 0, none⟩), .pointer (some ⟨n + 1, 0, none⟩), .slice none 0 0, .int .i64 x.1, .int .i64 x.2, seqF b c, .int .i64 x.1, .int .i64 x.2, undef, undef, undef, undef, undef, undef], defers := [] }
def FoldR (w : World) (xs : List (Int × Int)) : Ending → World → Prop := fun e w' => ∃ v, e = .returned v ∧ IntGs w.heap.size w' v (maxL xs) ∧ Mod NoB w w'
theorem vFold_any {w : World} {b c pp : Nat} {xs : List (Int × Int)} {St : Nat → Prop} (hG : GivesX prog 231 #[.pointer (some ⟨b, 0, none⟩), .pointer (some ⟨c, 0, none⟩)] PairE (KSt St) xs none w) (hSt : ∀ k, St k → k < w.heap.size)
 (hpp : w.heap[pp]? = some (.cells #[.func (.func 136) #[] #[]] 28 (0, 0))) (hn : xs.length ≤ 10000) : Calls prog 199 #[seqF b c, .slice none 0 0, pickF pp] w (FoldR w xs) := by
 have hplt := (Array.getElem?_eq_some_iff.1 hpp).1;refine (callsIn_wide (n := 3)).1 (callsIn_of_wp_marks func199 rfl trivial ?_ rfl)
 simp only [ntmps199, List.size_toArray, List.length_cons, List.length_nil, Nat.reduceAdd, Nat.reduceSub, Array.replicate_succ, Array.replicate_zero, List.push_toArray, List.append_toArray, List.nil_append, List.cons_append]
 gi_wp2
 have hm0 : Mod NoB w ((w.alloc (.cells #[.slice none 0 0] 64)).alloc (.cells #[pickF pp] 295)) := (zD w _).trans0 (zD _ _)
 have hv0 := heap_alloc2_old w (.cells #[.slice none 0 0] 64) (.cells #[pickF pp] 295);have hv1 := heap_alloc2_new w (.cells #[.slice none 0 0] 64) (.cells #[pickF pp] 295)
 have hs0 : ((w.alloc (.cells #[.slice none 0 0] 64)).alloc (.cells #[pickF pp] 295)).heap.size = w.heap.size + 2 := by simp
 generalize (w.alloc (.cells #[.slice none 0 0] 64)).alloc (.cells #[pickF pp] 295) = W0 at *
 have hh0 : FldI w w.heap.size W0.heap.size pp [] W0 := ⟨.slice none 0 0, hv0, Gat.nil _ _ _ _ _, hv1, hm0.obj id hpp, hm0⟩
 refine wpIn_rangeFunc_gvx (gf := 231) (lb := #[.pointer (some ⟨b, 0, none⟩), .pointer (some ⟨c, 0, none⟩)]) (by rfl) (enters_of func231 (by kernel_rfl) rfl) hG hm0 (fun x args W h => by rw [show args = _ from h]; rfl)
  (kept_st (fun k hk => by have := hSt k hk; omega)) (FldI w w.heap.size W0.heap.size pp) (fldI_own (by omega) (by omega) (by omega)) hh0 (FldAx b c pp w.heap.size) (fun x a' s A B row hs hg hr => hs) ?assign ?body ?done (fun c e => by cases e)
 case assign =>
  rintro l pre x rest args W K hxs hI hen hK0;have hen : args = #[.int .i64 x.1, .int .i64 x.2] := hen;subst hen
  simp only [List.zip_toArray, List.zip_cons_cons, List.zip_nil_right, List.foldl_toArray', List.foldl_cons, List.foldl_nil, List.setIfInBounds_toArray, ss, sz]
  gi_wp2
  exact hK0 _ _ (KeepsFrom.refl _ _) (Mod.refl _ _) hI rfl
 case body =>
  rintro l pre x rest a' W hxs ⟨v, k1, k2, k3, k4, k5⟩ rfl;have hpl : pre.length < xs.length := by rw [hxs]; simp
  have hc5 : W.cell? ⟨w.heap.size + 1, 0, none⟩ = some (pickF pp) := by simp [World.cell?, k3]
  have hc4 : W.cell? ⟨w.heap.size, 0, none⟩ = some v := by simp [World.cell?, k1]
  have hle : W0.heap.size ≤ W.heap.size := by have := (Array.getElem?_eq_some_iff.1 k3).1; omega
  have hcall := vPicked1_any k4 k2 hle (by simp [maxL]; omega) x.1 x.2;refine wpIn_block ?_;refine wpIn_region_lit ?_;refine zE rfl rfl fun K hK => ?_
  refine zS (zJ 295 _ (by rfl) (w.heap.size + 1) 0 (by rfl) _ hc5 _ underlying295 rfl) ?_;refine hK _ _ ?_;clear hK K;refine zE rfl rfl fun K hK => ?_
  refine zS (zJ 64 _ (by rfl) w.heap.size 0 (by rfl) _ hc4 _ underlying64 rfl) ?_;refine hK _ _ ?_;clear hK K;simp only [nmz];refine zE rfl rfl fun K hK => ?_
  refine zS (jF _ (by rfl)) ?_;refine hK _ _ ?_;clear hK K;refine zE rfl rfl fun K hK => ?_;refine zS (jF _ (by rfl)) ?_;refine hK _ _ ?_
  clear hK K;simp only [nmz]
  refine wpListIn_plain rfl fun K hK => wpIn_round_of_wp (fun c h => by cases h) (fun row args w' e => by rw [run_closN (.tmp 12) [.tmp 13, .tmp 14, .tmp 15] _ 201 #[.pointer (some ⟨pp, 0, none⟩)] (by rfl) (by rfl) [v, .int .i64 x.1, .int .i64 x.2] (by rfl) (enters_of func201 (by kernel_rfl) rfl)] at e; cases e) ?_
  refine qG (run_closN (.tmp 12) [.tmp 13, .tmp 14, .tmp 15] _ 201 #[.pointer (some ⟨pp, 0, none⟩)] (by rfl) (by rfl) [v, .int .i64 x.1, .int .i64 x.2] (by rfl) (enters_of func201 (by kernel_rfl) rfl)) hcall ?_
  rintro e w3 ⟨v3, rfl, hg3, hm3⟩;have h1 : w3.heap[w.heap.size]? = some (.cells #[v] 64 (0, 0)) := hm3.obj (fun e => by have := (Gat.lt k2 e).1; omega) k1
  have h3 : w3.heap[w.heap.size + 1]? = some (.cells #[pickF pp] 295 (0, 0)) := hm3.obj (fun e => by have := (Gat.lt k2 e).1; omega) k3
  have h4 : w3.heap[pp]? = some (.cells #[.func (.func 136) #[] #[]] 28 (0, 0)) := hm3.obj (fun e => by have := (Gat.lt k2 e).1; omega) k4;refine ⟨_, rfl, hK _ _ ?_⟩;clear hK K
  simp only [nmz];refine zE rfl rfl fun K hK => ?_
  refine zA 64 _ _ w.heap.size 0 v3 (by rfl) (by rfl) (by rfl) (xX hg3) (by kernel_rfl) _ _ h1 (by simp) (fun w4 hB4 hm4 => ?_)
  replace hB4 : w4.heap[w.heap.size]? = some (.cells #[v3] 64 (0, 0)) := hB4;refine hK _ _ ?_;clear hK K;refine wpListIn_nil ?_
  have hm : Mod (fun k => v.ownBlock = some k ∨ k = w.heap.size) W w4 := (hm3.mono (fun _ _ h => .inl h)).trans hm4 (fun k _ e => .inr e)
  refine ⟨⟨hm.size, fun k o hk ho hc => hm.obj (fun e => ?_) ho⟩, hm.mono (fun k _ e hs => ?_), v3, hB4, ?_, hm4.objB (by omega) h3, hm4.objB (by omega) h4, k5.trans hm (fun k hk e => ?_)⟩
  · rcases e with e | e
    · obtain ⟨o', ho', hc'⟩ := gat_cells k2 e
      rw [ho] at ho'; cases ho'; rw [hc] at hc'; cases hc'
    · omega
  · have h9 := hSt k hs
    rcases e with e | e
    · have := (Gat.lt k2 e).1; omega
    · omega
  · rw [maxL_snoc]
    exact Gat.keep hg3 hm4 (fun q hq e => by have e : q = w.heap.size := e; have := (Gat.lt hg3 hq).1; omega)
  · rcases e with e | e
    · have := (Gat.lt k2 e).1; omega
    · omega
 case done =>
  rintro - D W hD ⟨v, k1, k2, k3, k4, k5⟩ hK;obtain ⟨ad, cap, rfl⟩ := Gat.slice k2
  have hcb : W.cell? ⟨w.heap.size, 0, none⟩ = some (.slice ad (maxL xs).length cap) := by simp [World.cell?, k1]
  gi_wp2
  refine ⟨by simp, .inl ⟨_, _, rfl, run_takeDeferred hK, ?_⟩⟩
  have hm : Mod (fun k => k = D) W (W.putObj D (.deferred none)) := (Mod.refl _ _).grown (grownBy_putObj' W D _) (fun k e _ => by cases e; rfl)
  refine ⟨_, results_tmp rfl _ _ _, _, rfl, Gat.base (Gat.keep k2 hm (fun q hq e => ?_)) (by omega), k5.trans hm (fun k hk e => by have e : k = D := e; omega)⟩
  obtain ⟨o', ho', hc'⟩ := gat_cells k2 hq;have e : q = D := e;rw [e, hK] at ho'; cases ho'; cases hc'
def JoinR (w : World) (l m : List Int) : Ending → World → Prop := fun e w' => ∃ v, e = .returned v ∧ IntGs w.heap.size w' v (joinV l m) ∧ Mod NoB w w'
theorem vPicked_any {own own2 : Bool} {G G2 : Nat → Prop} {w : World} {v u : Value} {l m : List Int} (hl : Sl own w G 1 IntC v l) (hm : Sl own2 w G2 1 IntC u m) (h1 : l.length ≤ 10000) (h2 : m.length ≤ 10000) :
 Calls prog 135 #[v, u, .func (.func 136) #[] #[]] w (JoinR w l m) := by
 have hl0 := (Sl.inside hl (by omega)).weak;have hm0 := (Sl.inside hm (by omega)).weak;obtain ⟨ad, cap, rfl, -, -⟩ := Sl.at hl;obtain ⟨bd, dap, rfl, -, -⟩ := Sl.at hm
 have HL := hid hl0;have HM := hid hm0;clear hl hm hl0 hm0;go_enter func135, ntmps135;go_upto_region 0 with (fail);refine wpR [1, 3] (by rfl) (by rfl) ?_;simp only [zz2]
 refine wpDo rfl ?_;refine xF 28 _ _ (by rfl) (by rfl) (fun w1 hB1 hm1 hs1 => ?_)
 replace hB1 : w1.heap[w.heap.size]? = some (.cells #[.func (.func 136) #[] #[]] 28 (0, 0)) := hB1;refine qD _ rfl rfl ?_;simp only [nmz];refine qB ?_
 have hsd := vSides_any w1 ad bd l.length cap m.length dap;generalize hp : w.heap.size = pp at *;go_upto_region 1 with (fail);refine wpR [3, 3, 1, 1, 1, 3] (by rfl) (by rfl) ?_
 simp only [zz2];refine qA _ rfl rfl ?_;simp only [nmz];refine qA _ rfl rfl ?_;simp only [nmz];refine wpDo rfl ?_
 refine qG (qH 200 [.tmp 7, .tmp 8] _ rfl _ func200 rfl (by kernel_rfl) [.slice ad l.length cap, .slice bd m.length dap] rfl _) (hsd) ?_
 rintro e w2 ⟨b, c, he2, hb2, hc2, hm2⟩;subst he2;have hm02 := hm1.trans0 hm2
 have hg := vSides1_gives (St := fun k => k < w2.heap.size) hb2 hc2 ((HL.out.keep0 hm02).mono (fun k hk => by have := hm02.size; omega) (fun _ _ h => h)) ((HM.out.keep0 hm02).mono (fun k hk => by have := hm02.size; omega) (fun _ _ h => h)) (Array.getElem?_eq_some_iff.1 hb2).1 (Array.getElem?_eq_some_iff.1 hc2).1
 have hfold := vFold_any (pp := pp) hg (fun _ h => h) (hm2.obj id hB1) (by rw [sidesL_len]; omega);refine ⟨_, rfl, ?_⟩;try simp only [nmz]
 refine wpX rfl (yM 201 [.tmp 5] (by rfl) [.pointer (some ⟨pp, 0, none⟩)] (by rfl)) trivial ?_;try simp only [nmz]
 refine wpDo rfl ?_
 refine qG (qH 199 [.tmp 9, .const (.slice none 0 0), .tmp 10] _ rfl _ func199 rfl (by kernel_rfl) [seqF b c, .slice none 0 0, pickF pp] rfl _) (hfold) ?_
 rintro e w3 ⟨v3, he3, hg3, hm3⟩;subst he3;have HF : Hid (JoinR w l m (.returned v3) w3) := hid ⟨v3, rfl, by rw [joinV_sides]; exact Gat.base hg3 hm02.size, hm02.trans0 hm3⟩
 refine ⟨_, rfl, ?_⟩;refine qD _ rfl rfl ?_;simp only [nmz];refine qB ?_;clear hsd hm02 hg hfold hg3 hm3 hm2 hm1 hB1 hb2 hc2;go_wp2;go_ret;exact HF.out
theorem vJoin_any {own own2 : Bool} {G G2 : Nat → Prop} {w : World} {v u : Value} {l m : List Int} (hl : Sl own w G 1 IntC v l) (hm : Sl own2 w G2 1 IntC u m) (h1 : l.length ≤ 10000) (h2 : m.length ≤ 10000) : Calls prog 62 #[v, u] w (JoinR w l m) := by
 have hcall := vPicked_any hl hm h1 h2;obtain ⟨ad, cap, rfl, -, -⟩ := Sl.at hl;obtain ⟨bd, dap, rfl, -, -⟩ := Sl.at hm;clear hl hm;go_enter func62, ntmps62
 go_upto_region 1 with (fail);refine wpR [3, 3, 1, 3] (by rfl) (by rfl) ?_;simp only [zz2];refine qA _ rfl rfl ?_;simp only [nmz];refine qA _ rfl rfl ?_
 simp only [nmz];refine wpDo rfl ?_
 refine qG (qH 135 [.tmp 5, .tmp 6, .func 136] _ rfl _ func135 rfl (by kernel_rfl) [.slice ad l.length cap, .slice bd m.length dap, .func (.func 136) #[] #[]] rfl _) (hcall) ?_
 rintro e w3 ⟨v3, he3, hg3, hm3⟩;subst he3;have HF : Hid (JoinR w l m (.returned v3) w3) := hid ⟨v3, rfl, hg3, hm3⟩;refine ⟨_, rfl, ?_⟩;refine qD _ rfl rfl ?_
 simp only [nmz];refine qB ?_;clear hcall hg3 hm3;go_wp2;go_ret;exact HF.out
end
section
open Go.ChangeShapes Go.WideShapes Go.ChangeAt Go.RowKit Go.Proofs.Tryz Go.Lib
theorem Mod.kept {w w' : World} (h : Mod NoB w w') (may : MemPlace → Prop) : w.keptBut w' may := by
 refine ⟨h.os, h.output, fun i hi => ?_⟩;have e := h.block i hi id
 cases hw : w.heap[i]? with
 | none => rw [hw] at e; simp [e]
 | some o =>
  rw [hw] at e
  cases o <;> simp [e]
theorem post_of_mod {H : Type} {enc : TypeId × Value → H} {P : Program} {f : Func} {s : ChangeSpec} {apart fresh handsOn : Bool} {W W' : World} {args : Array Value} {v : Value} {ds gs : List (DataW H)} {before pa pv : List MemPlace}
 (hold : DataW.Whole enc P f.params.toList s.vars apart W args.toList ds gs before) (hm : Mod NoB W W')
 (hr : ∀ (b : Nat), DataW.TrodAll enc P W' b (fun _ => false) handsOn f.resultTypes.toList (v.resultList f.resultTypes.size) (s.fn H (ds ++ gs)).results [])
 (ha : DataW.TrodAll enc P W' 0 (fun b => decide (b < W.heap.size)) true f.params.toList args.toList (s.fn H (ds ++ gs)).args pa)
 (hv : DataW.TrodVars enc P W' (fun b => decide (b < W.heap.size)) s.vars (s.fn H (ds ++ gs)).vars pv) : s.post enc P f apart fresh handsOn false W args v W' := by
 unfold ChangeSpec.post;exact ⟨ds, gs, before, [], pa, pv, hold, hr _, ha, hv, hm.kept _, fun h => Bool.noConfusion h⟩
theorem laidOut : laidOutB prog = true := by kernel_rfl
theorem carry {H : Type} {enc : TypeId × Value → H} {t : TypeId} (hr : prog.readableRec t = true) (hrow : t < prog.types.size) {W W' : World} (hm : Mod NoB W W') {v : Value} {d : DataW H} {ps : List MemPlace}
 (h : DataW.Trod enc prog W 0 (fun _ => true) true t v d ps) : DataW.Trod enc prog W' 0 (fun b => decide (b < W.heap.size)) true t v d ps := by
 obtain ⟨n, h⟩ := h;have hlt := DataW.trod_lt n t _ _ h
 refine ⟨n, DataW.trod_stays (kids_book laidOut hr) (book_sized hr) (fun h => by cases h) ⟨hrow, book_self t⟩ h (fun p hp => ?_) (fun p hp => by simpa using hlt p hp)⟩
 have hb := hlt p hp
 cases p with
 | cell b off => exact World.cell?_of_block (w := W) (hm.block b hb id)
 | map b => exact hm.block b hb id
end
section
open Go.RowKit Go.Shelf Go.Proofs.Tryz Go.Lib
end
section
open Go.ChangeShapes Go.WideShapes Go.ChangeAt Go.RowKit Go.Proofs.Tryz Go.Lib
theorem fit_i64 {n : Int} (h : (Lit.int .i64 n).wf = true) : -9223372036854775808 ≤ n ∧ n ≤ 9223372036854775807 := bounds_i64 h
theorem addr_add {w : World} {a : Addr} {v : Value} (i : Nat) (h0 : ∃ u, w.cell? (a.add 0) = some u) (h : w.cell? (a.add i) = some v) : a = ⟨a.block, a.off, none⟩ ∧ w.cell? ⟨a.block, a.off + i, none⟩ = some v := by
 obtain ⟨u, h0⟩ := h0;obtain ⟨b, off, spot⟩ := a
 have hs : spot = none := by
  simp only [Addr.add, if_true] at h0;unfold World.cell? at h0
  cases spot with
  | none => rfl
  | some s => cases hw : w.heap[b]? with
   | none => simp [hw] at h0
   | some o => cases o <;> simp [hw] at h0
 subst hs;refine ⟨rfl, ?_⟩;unfold Addr.add at h
 split at h
 · rename_i hi; subst hi; exact h
 · exact h
theorem list_of_all {α : Type} {n : Nat} {Q : Nat → α → Prop} (h : ∀ i, i < n → ∃ a, Q i a) : ∃ l : List α, l.length = n ∧ ∀ i (hi : i < l.length), Q i l[i] := by
 refine ⟨List.ofFn fun i : Fin n => Classical.choose (h i.1 i.2), by simp, fun i hi => ?_⟩;rw [List.getElem_ofFn];exact Classical.choose_spec (h i (by simpa using hi))
theorem addr_cells {w : World} {a : Addr} {i j : Nat} {u v : Value} (h0 : w.cell? ((a.add 0).add 0) = some u) (h : w.cell? ((a.add i).add j) = some v) : a = ⟨a.block, a.off, none⟩ ∧ w.cell? ⟨a.block, a.off + i + j, none⟩ = some v := by
 have e0 : (a.add 0).add 0 = a.add 0 := by simp [Addr.add]
 have h1 := (addr_add 0 ⟨u, e0 ▸ h0⟩ (e0 ▸ h0)).1;refine ⟨h1, ?_⟩;rw [h1] at h
 have e : ∀ (b o k : Nat), Addr.add ⟨b, o, none⟩ k = ⟨b, o + k, none⟩ := fun b o k => by
  unfold Addr.add
  split
  · rename_i hk; subst hk; rfl
  · rfl
 rwa [e, e] at h
section
variable {H : Type} {enc : TypeId × Value → H} {P : Program} {W : World} {sp : Nat → Bool} {held : Bool}
theorem sl_of_trod {α : Type} {R : Array Value → α → Prop} {t e : TypeId} {sz fuel : Nat} {cs : List Value} {x : DataW H × List MemPlace} (ht : P.underlying t = some (.slice e)) (hsz : P.cellsOf e = sz) (hpos : 0 < sz)
 (hR : ∀ n cs x, DataW.trod enc P W 0 sp held n e cs = some x → ∃ a, R cs.toArray a) (h : DataW.trod enc P W 0 sp held fuel t cs = some x) : ∃ v l, cs = [v] ∧ Sl false W (fun k => k < W.heap.size) sz R v l := by
 rcases DataW.trod_slice ht h with ⟨rfl, _⟩ | ⟨a, len, cap, elems, rest, n, _, rfl, _, _, hlc, hcm, hel, helem, _, _⟩
 · exact ⟨_, [], rfl, Sl.nil _ _ _ _ _⟩
 · subst hsz
   have hall : ∀ i, i < len → ∃ y : α, ∃ cs : List Value, cs.length = P.cellsOf e ∧ R cs.toArray y ∧ ∀ j, j < P.cellsOf e → W.cell? ((a.add (i * P.cellsOf e)).add j) = cs[j]? := by
    intro i hi;have h1 := helem i hi;rw [List.getElem?_eq_getElem (by omega)] at h1;obtain ⟨cs, h2, h3⟩ := Option.bind_eq_some_iff.1 h1;obtain ⟨_, hl, hc⟩ := World.cells?_some h2
    obtain ⟨y, hy⟩ := hR _ _ _ h3;exact ⟨y, cs, hl, hy, hc⟩
   obtain ⟨l, hl, hq⟩ := list_of_all hall;refine ⟨_, l, rfl, some a, cap, by rw [hl], by omega, hcm, fun hne => ?_⟩;have hp : 0 < l.length := List.length_pos_iff.2 hne
   have h0 : ∃ u, W.cell? ((a.add 0).add 0) = some u := by
    obtain ⟨cs, h1, _, h3⟩ := hq 0 hp;have := h3 0 hpos;rw [List.getElem?_eq_getElem (by omega), Nat.zero_mul] at this;exact ⟨_, this⟩
   obtain ⟨u, h0⟩ := h0
   refine ⟨a.block, a.off, by rw [← (addr_cells h0 h0).1], (block_lt_of_cell (a := ⟨a.block, a.off + 0 + 0, none⟩) (addr_cells h0 h0).2), fun h => (by cases h), fun i hi => ?_⟩
   obtain ⟨cs, h1, h2, h3⟩ := hq i hi;refine ⟨cs.toArray, by simpa using h1, h2, fun j hj => ?_⟩;have hj' : j < cs.length := by simpa using hj
   have := h3 j (by omega);rw [List.getElem?_eq_getElem hj'] at this;rw [(addr_cells h0 this).2]
   simp [List.getElem?_eq_getElem hj']
theorem field_of_trod {t : TypeId} {fs : Array Field} {fuel : Nat} {cs : List Value} {x : DataW H × List MemPlace} (ht : P.underlying t = some (.struct fs)) (h : DataW.trod enc P W 0 sp held fuel t cs = some x) :
 cs.length = P.cellsOf t ∧ ∀ (i : Nat) (f : Field), fs[i]? = some f → ∃ n y, DataW.trod enc P W 0 sp held n f.type ((cs.drop f.offset).take (P.cellsOf f.type)) = some y := by
 obtain ⟨xs, n, _, _, hl, hx, hf⟩ := DataW.trod_struct ht h;refine ⟨hl, fun i f hi => ⟨n, ?_⟩⟩
 have hi' : i < xs.length := by
  rcases Nat.lt_or_ge i fs.size with h | h
  · omega
  · rw [Array.getElem?_eq_none h] at hi; cases hi
 have := hf i f hi;rw [List.getElem?_eq_getElem hi'] at this;exact ⟨_, this⟩
theorem drop_step (cs : List Value) (k n : Nat) : cs.drop k = (cs.drop k).take n ++ cs.drop (k + n) := by
 rw [← List.drop_drop, List.take_append_drop]
end
section
variable {H : Type} {enc : TypeId × Value → H} {W : World} {sp : Nat → Bool} {held : Bool} {fuel : Nat} {cs : List Value} {x : DataW H × List MemPlace}
theorem read_u8 (h : DataW.trod enc prog W 0 sp held fuel 5 cs = some x) : ∃ b, cs = [byteV b] := by
 obtain ⟨n, rfl, _, hw⟩ := DataW.trod_int underlying5 h;have := bounds_u8 hw;refine ⟨UInt8.ofNat n.toNat, ?_⟩;unfold byteV
 rw [UInt8.toNat_ofNat_of_lt' (by rw [show UInt8.size = 256 from rfl]; omega), Int.toNat_of_nonneg this.1]
theorem read_id (h : DataW.trod enc prog W 0 sp held fuel 24 cs = some x) : ∃ i : List UInt8, i.length = 32 ∧ cs = i.map byteV := by
 obtain ⟨xs, m, _, _, hl, hx, hf⟩ := DataW.trod_array underlying24 h;have hc : prog.cellsOf 24 = 32 := by kernel_rfl
 have h5 : prog.cellsOf 5 = 1 := by kernel_rfl
 rw [hc] at hl
 have hall : ∀ i, i < 32 → ∃ b, cs[i]? = some (byteV b) := by
  intro i hi;have h1 := hf i hi;rw [List.getElem?_eq_getElem (by omega)] at h1;obtain ⟨b, hb⟩ := read_u8 h1;rw [h5, Nat.mul_one] at hb;refine ⟨b, ?_⟩
  have := congrArg (fun l => l[0]?) hb
  simpa using this
 obtain ⟨l, hl', hq⟩ := list_of_all hall;refine ⟨l, hl', List.ext_getElem (by simp; omega) fun i h1 h2 => ?_⟩;have := hq i (by simpa using h2)
 rw [List.getElem?_eq_getElem h1] at this
 simpa using this
theorem read_ids (h : DataW.trod enc prog W 0 sp held fuel 25 cs = some x) : ∃ v l, cs = [v] ∧ Sl false W (fun k => k < W.heap.size) 32 IdC v l :=
 sl_of_trod underlying25 (by kernel_rfl) (by decide) (fun _ _ _ h => by
  obtain ⟨n, hn, rfl⟩ := read_id h
  exact ⟨n, rfl, hn⟩) h
def IntF (cs : Array Value) (n : Int) : Prop := cs = #[.int .i64 n] ∧ I64 n
theorem read_ints (h : DataW.trod enc prog W 0 sp held fuel 64 cs = some x) : ∃ v l, cs = [v] ∧ Sl false W AnyB 1 IntF v l := by
 obtain ⟨v, l, e, hs⟩ := sl_of_trod (R := IntF) (sz := 1) underlying64 (by kernel_rfl) (by decide) (fun _ _ _ h => by
  obtain ⟨n, rfl, _, hw⟩ := DataW.trod_int underlying3 h
  exact ⟨n, rfl, fit_i64 hw⟩) h
 exact ⟨v, l, e, hs.mono (fun _ _ => trivial) (fun _ _ h => h)⟩
end
section
variable {H : Type} {enc : TypeId × Value → H} {W W0 : World} {sp : Nat → Bool} {r : Reach} {b0 : Nat} {v : Value} {d : DataW H} {ps : List MemPlace}
end
section
variable {H : Type} {enc : TypeId × Value → H} {W : World} {sp : Nat → Bool} {held : Bool} {fuel : Nat} {cs : List Value} {x : DataW H × List MemPlace}
theorem read_dot (h : DataW.trod enc prog W 0 sp held fuel 113 cs = some x) : ∃ r n : Int, cs = [.int .i64 r, .int .i64 n] := by
 obtain ⟨hl, hf⟩ := field_of_trod underlying113 h;have h3 : prog.cellsOf 3 = 1 := by kernel_rfl
 have hc : prog.cellsOf 113 = 2 := by kernel_rfl
 obtain ⟨_, _, h0⟩ : ∃ n y, DataW.trod enc prog W 0 sp held n 3 ((cs.drop 0).take (prog.cellsOf 3)) = some y := hf 0 _ rfl
 obtain ⟨_, _, h1⟩ : ∃ n y, DataW.trod enc prog W 0 sp held n 3 ((cs.drop 1).take (prog.cellsOf 3)) = some y := hf 1 _ rfl;obtain ⟨r, e0, _⟩ := DataW.trod_int underlying3 h0
 obtain ⟨n, e1, _⟩ := DataW.trod_int underlying3 h1;rw [h3] at e0 e1;rw [hc] at hl;refine ⟨r, n, ?_⟩;have := drop_step cs 0 1
 rw [e0, drop_step cs (0 + 1) 1, e1, show 0 + 1 + 1 = 2 from rfl, List.drop_of_length_le (i := 2) (by omega), List.drop_zero] at this
 simpa using this
theorem read_event (h : DataW.trod enc prog W 0 sp held fuel 115 cs = some x) : ∃ e, EvR false W (fun k => k < W.heap.size) cs.toArray e := by
 obtain ⟨hl, hf⟩ := field_of_trod underlying115 h;have c3 : prog.cellsOf 3 = 1 := by kernel_rfl
 have c9 : prog.cellsOf 9 = 1 := by kernel_rfl
 have c30 : prog.cellsOf 64 = 1 := by kernel_rfl
 have c33 : prog.cellsOf 113 = 2 := by kernel_rfl
 have c35 : prog.cellsOf 24 = 32 := by kernel_rfl
 have c102 : prog.cellsOf 25 = 1 := by kernel_rfl
 have hc : prog.cellsOf 115 = 39 := by kernel_rfl
 obtain ⟨_, _, h0⟩ : ∃ n y, DataW.trod enc prog W 0 sp held n 113 ((cs.drop 0).take (prog.cellsOf 113)) = some y := hf 0 _ rfl
 obtain ⟨_, _, h1⟩ : ∃ n y, DataW.trod enc prog W 0 sp held n 64 ((cs.drop 2).take (prog.cellsOf 64)) = some y := hf 1 _ rfl
 obtain ⟨_, _, h2⟩ : ∃ n y, DataW.trod enc prog W 0 sp held n 3 ((cs.drop 3).take (prog.cellsOf 3)) = some y := hf 2 _ rfl
 obtain ⟨_, _, h3⟩ : ∃ n y, DataW.trod enc prog W 0 sp held n 9 ((cs.drop 4).take (prog.cellsOf 9)) = some y := hf 3 _ rfl
 obtain ⟨_, _, h4⟩ : ∃ n y, DataW.trod enc prog W 0 sp held n 9 ((cs.drop 5).take (prog.cellsOf 9)) = some y := hf 4 _ rfl
 obtain ⟨_, _, h5⟩ : ∃ n y, DataW.trod enc prog W 0 sp held n 24 ((cs.drop 6).take (prog.cellsOf 24)) = some y := hf 5 _ rfl
 obtain ⟨_, _, h6⟩ : ∃ n y, DataW.trod enc prog W 0 sp held n 25 ((cs.drop 38).take (prog.cellsOf 25)) = some y := hf 6 _ rfl;obtain ⟨r, n, e0⟩ := read_dot h0
 obtain ⟨dv, dl, e1, s1⟩ := read_ints h1;replace s1 : Sl false W (fun k => k < W.heap.size) 1 IntC dv dl := Sl.inside (s1.mono (fun _ _ => trivial) fun _ _ h => h.1) (by omega)
 obtain ⟨k, e2, _⟩ := DataW.trod_int underlying3 h2;obtain ⟨repo, e3, _, b3⟩ := DataW.trod_string underlying9 h3;obtain ⟨tag, e4, _, b4⟩ := DataW.trod_string underlying9 h4
 obtain ⟨id, hid, e5⟩ := read_id h5;obtain ⟨rv, rl, e6, s6⟩ := read_ids h6;rw [hc] at hl;rw [c33] at e0;rw [c30] at e1;rw [c3] at e2;rw [c9] at e3 e4;rw [c35] at e5;rw [c102] at e6
 refine ⟨⟨r, n, dl, k, repo, tag, id, rl⟩, dv, rv, ?_, hid, s1, s6, b3, b4⟩;have := drop_step cs 0 2
 rw [e0, drop_step cs (0 + 2) 1, e1, drop_step cs (0 + 2 + 1) 1, e2, drop_step cs (0 + 2 + 1 + 1) 1, e3, drop_step cs (0 + 2 + 1 + 1 + 1) 1, e4, drop_step cs (0 + 2 + 1 + 1 + 1 + 1) 32, e5,
  drop_step cs (0 + 2 + 1 + 1 + 1 + 1 + 32) 1, e6, show 0 + 2 + 1 + 1 + 1 + 1 + 32 + 1 = 39 from rfl, List.drop_of_length_le (i := 39) (by omega), List.drop_zero] at this
 rw [this]
 simp [zO, qC]
theorem read_events (h : DataW.trod enc prog W 0 sp held fuel 72 cs = some x) : ∃ v l, cs = [v] ∧ Sl false W (fun k => k < W.heap.size) 39 (EvR false W (fun k => k < W.heap.size)) v l :=
 sl_of_trod underlying72 (by kernel_rfl) (by decide) (fun _ _ _ h => read_event h) h
end
def EvsIn (W : World) (v : Value) (l : List Evt) : Prop := Sl false W (fun k => k < W.heap.size) 39 (EvR false W (fun k => k < W.heap.size)) v l
section
variable {H : Type} {enc : TypeId × Value → H} {W W0 : World} {sp : Nat → Bool} {r : Reach} {b0 : Nat} {v : Value} {d : DataW H} {ps : List MemPlace}
theorem open_events (hval : Value.okWide prog W0 r b0 72 v) (h : DataW.Trod enc prog W 0 sp true 72 v d ps) : ∃ l, EvsIn W v l := by
 obtain ⟨a0, n0, c0, rfl⟩ := okWide_slice underlying72 hval;obtain ⟨fuel, h⟩ := h;obtain ⟨v, l, hv, hl⟩ := read_events h
 have : Value.slice a0 n0 c0 = v := by simpa [Value.cells] using hv
 rw [this];exact ⟨l, hl⟩
theorem open_nums (hval : Value.okWide prog W0 r b0 64 v) (h : DataW.Trod enc prog W 0 sp true 64 v d ps) : ∃ l, Sl false W AnyB 1 IntF v l := by
 obtain ⟨a0, n0, c0, rfl⟩ := okWide_slice underlying64 hval;obtain ⟨fuel, h⟩ := h;obtain ⟨v, l, hv, hl⟩ := read_ints h
 have : Value.slice a0 n0 c0 = v := by simpa [Value.cells] using hv
 rw [this];exact ⟨l, hl⟩
end
end
section
open Go.RowKit Go.Shelf Go.Proofs.Tryz Go.Lib
theorem keptE_app (v : List Int) (a b : List Evt) : keptE v (a ++ b) = keptE v a ++ keptE v b := by simp [keptE]
theorem goneE_app (v : List Int) (a b : List Evt) : goneE v (a ++ b) = goneE v a ++ goneE v b := by simp [goneE]
theorem keptE_cons {v : List Int} {e : Evt} (t : List Evt) (h : hasV v e.r e.n = false) : keptE v (e :: t) = e :: keptE v t := by simp [keptE, h]
theorem goneE_cons {v : List Int} {e : Evt} (t : List Evt) (h : hasV v e.r e.n = true) : goneE v (e :: t) = (e.r, e.n) :: goneE v t := by simp [goneE, h]
theorem keptE_at {v : List Int} {l : List Evt} {k : Nat} (hk : k < l.length) (h : hasV v l[k].r l[k].n = false) : ∃ h' : (keptE v (l.take k)).length < (keptE v l).length, (keptE v l)[(keptE v (l.take k)).length]'h' = l[k] := by
 have e : keptE v l = keptE v (l.take k) ++ l[k] :: keptE v (l.drop (k + 1)) := by
  have h1 := congrArg (keptE v) (yR hk);rw [h1, keptE_app, keptE_cons _ h]
 refine ⟨by rw [e]; simp, ?_⟩;have h3 : (keptE v l)[(keptE v (l.take k)).length]? = some l[k] := by rw [e, List.getElem?_append_right (Nat.le_refl _), Nat.sub_self]; rfl
 exact (List.getElem?_eq_some_iff.1 h3).2
theorem goneE_at {v : List Int} {l : List Evt} {k : Nat} (hk : k < l.length) (h : hasV v l[k].r l[k].n = true) : ∃ h' : (goneE v (l.take k)).length < (goneE v l).length, (goneE v l)[(goneE v (l.take k)).length]'h' = (l[k].r, l[k].n) := by
 have e : goneE v l = goneE v (l.take k) ++ (l[k].r, l[k].n) :: goneE v (l.drop (k + 1)) := by
  have h1 := congrArg (goneE v) (yR hk);rw [h1, goneE_app, goneE_cons _ h]
 refine ⟨by rw [e]; simp, ?_⟩;have h3 : (goneE v l)[(goneE v (l.take k)).length]? = some (l[k].r, l[k].n) := by rw [e, List.getElem?_append_right (Nat.le_refl _), Nat.sub_self]; rfl
 exact (List.getElem?_eq_some_iff.1 h3).2
theorem exec_neq_dot {w : World} {o : Oper} {a : Act} (x y : Operand) (yt : TypeId) (ho : o.op = .binOp .neq 113 x y yt) (m n : Int)
 (hx : a.eval x = .agg #[.int .i64 m, .int .i64 n]) (hy : a.eval y = .agg #[.int .i64 m, .int .i64 n]) : (execOp a.eval o).run prog w = .ok (.value (.bool false)) w := by
 have h : (binOp .neq 113 (.agg #[.int .i64 m, .int .i64 n]) (.agg #[.int .i64 m, .int .i64 n])).run prog w = .ok (.bool false) w := by
  go_simp
 have h1 := run_eqGuard_agg (P := prog) w .neq 113 x y #[.int .i64 m, .int .i64 n] #[.int .i64 m, .int .i64 n] (by kernel_rfl);unfold execOp
 simp only [ho, hx, hy, Sem.run_bind, h1, Result.andThen_ok, h, Sem.run_pure]
def TmbRel (w : World) (S : List Int) (l : List Evt) (a b i : Value) (w' : World) : Prop :=
 ∃ k : Nat, k ≤ l.length ∧ i = .int .i64 k ∧ a = .int .i64 ((keptE S (l.take k)).length : Nat) ∧ b = .int .i64 ((goneE S (l.take k)).length : Nat) ∧ Mod NoB w w'
theorem sweepTombs_walk {w : World} {v sv mv : Value} {l : List Evt} {S M : List Int} (hl : EvsIn w v l) (hs : Sl false w AnyB 1 IntC sv S) (hm : Sl false w AnyB 1 IntC mv M) : Calls prog 12 #[v, sv, mv] w (RetM (.bool true) w) := by
 obtain ⟨ad, cap, rfl, hll, -⟩ := Sl.at hl;obtain ⟨sad, scap, rfl, hsl, -⟩ := Sl.at hs;obtain ⟨mad, mcap, rfl, hml, -⟩ := Sl.at hm;have HL := hid hl;have HS := hid hs
 have HM := hid hm;clear hl hs hm;go_enter func12, ntmps12;go_upto_region 1 with (fail);refine wpR [1, 3] (by rfl) (by rfl) ?_;simp only [zz2];refine wpDo rfl ?_
 refine qG (qH 10 [] _ rfl _ func10 rfl (by kernel_rfl) [] rfl _) (sweepKnown_any _) ?_;rintro e w1 ⟨rfl, hm1⟩;refine ⟨_, rfl, ?_⟩;refine qD _ rfl rfl ?_
 simp only [nmz];refine qB ?_;have hlong := longEvents_any _ _ _ _ _ w1 (SlEv.keep0 HL.out hm1);go_upto_region 2 with (fail)
 go_cut [31] (fun s wx => Mod NoB w wx ∧ (s = .bool true ∨ s = .bool false ∧ SmallEvs l ∧ S.length ≤ 20 ∧ M.length ≤ 20))
 case first =>
  go_wp2_with (go_at_call 41; refine hlong.mono ?_; rintro _ w2 ⟨t, rfl, hm2, hsm⟩; cases t)
  all_goals
   try go_wp2
  all_goals
   go_meet
   case rel =>
    first
     | exact ⟨hm1.trans0 hm2, .inl rfl⟩
     | (refine ⟨hm1.trans0 hm2, ?_⟩; by_cases h : S.length ≤ 20 ∧ M.length ≤ 20; (exact .inr ⟨by rw [decide_eq_false (by omega), decide_eq_false (by omega)]; rfl, by simpa using hsm, h.1, h.2⟩); (refine .inl ?_; congr 1; simp; omega))
 case rest =>
  rename World => wx
  obtain ⟨hmx, rfl | ⟨rfl, hsm, h20, m20⟩⟩ := hcut
  · clear hlong
    go_wp2;go_ret;exact ⟨rfl, hmx⟩
  have hok := hsm.ok;have hl20 := hsm.1;have hlow : ∀ k, k < w.heap.size → k < wx.heap.size := fun k hk => Nat.lt_of_lt_of_le hk hmx.size
  have htomb := swTombs_any (SlEv.keep0 HL.out hmx) hlow hlow (HS.out.keep0 hmx) (by omega) hok;clear hlong hm1;go_upto_region 4 with (fail)
  refine wpR [3, 3, 1, 3, 3, 3, 3, 3] (by rfl) (by rfl) ?_;simp only [zz2];refine qA _ rfl rfl ?_;simp only [nmz];refine qA _ rfl rfl ?_;simp only [nmz]
  refine wpDo rfl ?_;refine qG (qH 57 [.tmp 34, .tmp 35] _ rfl _ func57 rfl (by kernel_rfl) [.slice ad l.length cap, .slice sad S.length scap] rfl _) (htomb) ?_
  rintro e w3 ⟨hm3, kv, dv, he3, hk3, hd3, -⟩;subst he3;refine ⟨_, rfl, ?_⟩;refine qA _ rfl rfl ?_;simp only [nmz]
  refine qJ rfl (fun w' => qP _ 0 #[kv, dv] rfl rfl kv rfl) ?_;simp only [nmz];refine qJ rfl (fun w' => qP _ 1 #[kv, dv] rfl rfl dv rfl) ?_
  simp only [nmz];refine qD _ rfl rfl ?_;simp only [nmz];refine qD _ rfl rfl ?_;simp only [nmz];refine qB ?_;have hm03 := hmx.trans0 hm3;have hks := hk3.slb
  have hds := DotGs.sl hd3;obtain ⟨kad, kcap, rfl, hkl, -⟩ := Sl.at hks;obtain ⟨dad, dcap, rfl, hdl, -⟩ := Sl.at hds;have hlen := kept_gone_len S l;have HKS := hid hks
  have HDS := hid hds;have HEG := hid hk3;have hsum : ((keptE S l).length : Int) + ((goneE S l).length : Int) = (l.length : Int) := by omega
  have HR0 : Hid (TmbRel w3 S l (.int .i64 (0 : Nat)) (.int .i64 (0 : Nat)) (.int .i64 (0 : Nat)) w3) := hid ⟨0, Nat.zero_le _, rfl, rfl, rfl, Mod.refl _ _⟩
  have hkb : (keptE S l).length ≤ 20 := by omega
  have hdb : (goneE S l).length ≤ 20 := by omega
  clear htomb hks hds hk3 hd3 hlen;go_wp2
  go_loopw [10, 11, 12] (TmbRel w3 S l) (fun _ _ i _ => l.length - (intOf i).toNat)
  case atStart => exact HR0.out
  case round =>
   rename World => wr
   obtain ⟨k, hk, rfl, rfl, rfl, hmr⟩ := hrel;have hm0r := hm03.trans0 hmr
   by_cases hlt : k < l.length
   · have hz : (k : Int) < (l.length : Nat) := by omega
     have hlr := SlEv.keep0 HL.out hm0r;obtain ⟨_, _, hae, -, hat⟩ := hlr.at;injection hae with hae1 hae2 hae3;subst hae1 hae3;obtain ⟨b, off, rfl, -, -, hcc⟩ := hat k hlt
     obtain ⟨cs, hcs, hev, hcA⟩ := hcc k hlt;obtain ⟨ev0, rv0, hca, hi, -⟩ := id hev;have cA := zG l[k] ev0 rv0 hi; rw [← hca] at cA; clear hca
     have hAd := hcA.part (i := 0) (j := 2) (by rw [cA.size]; omega);rw [cA.dot] at hAd;have htest := vHas_any (HS.out.keep0 hm0r) l[k].r l[k].n
     have hks := keptE_snoc S (l.take k) l[k];have hgs := goneE_snoc S (l.take k) l[k];rw [← List.take_succ_eq_append_getElem hlt] at hks hgs;have hka := keptE_at (v := S) hlt
     have hga := goneE_at (v := S) hlt;obtain ⟨x, hx⟩ : ∃ x, hasV S l[k].r l[k].n = x := ⟨_, rfl⟩;rw [hx] at htest hks hgs hka hga;have hK1 := congrArg List.length hks
     have hG1 := congrArg List.length hgs;rw [List.length_append] at hK1 hG1;generalize l[k] = ev at *;clear hlr hat hcc hae2 cA hi hks hgs hx;go_upto_region 11 with (fail)
     refine wpR [3, 3, 3, 3, 3, 1, 1] (by rfl) (by rfl) ?_;simp only [zz2];refine qA _ rfl rfl ?_;simp only [nmz];refine qA _ rfl rfl ?_;simp only [nmz]
     refine qA _ rfl rfl ?_;simp only [nmz];refine qX _ _ _ _ _ _ _ _ _ rfl rfl rfl rfl underlying72 (n := 39) (by kernel_rfl) hlt ?_;simp only [nmz]
     refine qE _ _ _ _ _ _ rfl rfl rfl fo_115_0 ?_;simp only [nmz];refine wpXA 113 b (off + k * 39 + 0) #[.int .i64 ev.r, .int .i64 ev.n] hAd underlying113 2 rfl trivial ?_
     try simp only [nmz]
     refine wpDo rfl ?_
     refine qG (qH 60 [.tmp 53, .tmp 58] _ rfl _ func60 rfl (by kernel_rfl) [.slice sad S.length scap, .agg #[.int .i64 ev.r, .int .i64 ev.n]] rfl _) (htest) ?_
     rintro e w4 ⟨rfl, hm4⟩;refine ⟨_, rfl, ?_⟩;try simp only [nmz]
     refine qB ?_;have hmr4 := hmr.trans0 hm4;have hAd4 := hAd.keep hm4 id;have hcA4 := hcA.keep hm4 id;have hev4 := hev.keep0 hm4;clear htest hm4 hAd hcA hev hmr hm0r
     cases x with
     | true =>
      obtain ⟨hlt2, hat2⟩ := hga rfl;obtain ⟨_, _, hde, -, hdat⟩ := (HDS.out.keep0 hmr4).at;injection hde with hde1 hde2 hde3;subst hde1 hde3
      obtain ⟨db, doff, rfl, -, -, hdc⟩ := hdat _ hlt2;obtain ⟨_, -, rfl, hdA⟩ := hdc _ hlt2;rw [hat2] at hdA;have HK1 := hid hK1;have HG1 := hid hG1
      generalize hna : (keptE S (l.take k)).length = na at *;generalize hnb : (goneE S (l.take k)).length = nb at *;have hb3 : nb ≤ 20 := by omega
      clear hdat hdc hka hga hde2 hK1 hG1;go_upto_region 12 with (fail);have hS : Mod NoB w4 w4.drew := (Mod.refl _ _).drew
      refine wpRP [(0, 3), (1, 3), (2, 3), (3, 3), (4, 3), (5, 3), (6, 3), (7, 3), (8, 0), (9, 3), (10, 3), (11, 3), (12, 3), (13, 0), (14, 0), (15, 3)] [] (fun w' => Mod NoB w4 w') hS ?_
      simp only [zz4];refine qA _ rfl rfl ?_;simp only [nmz];refine qA _ rfl rfl ?_;simp only [nmz];refine zP _ _ _ _ _ rfl rfl rfl (by kernel_rfl) ?_
      simp only [nmz];refine qY _ _ _ _ _ _ _ _ rfl rfl rfl rfl rfl false (decide_eq_false (by omega)) ?_;simp only [nmz];refine qA _ rfl rfl ?_;simp only [nmz]
      refine qA _ rfl rfl ?_;simp only [nmz];refine qA _ rfl rfl ?_;simp only [nmz]
      refine qX _ _ _ _ _ _ _ _ _ rfl rfl rfl rfl underlying116 (n := 2) (by kernel_rfl) hlt2 ?_;simp only [nmz]
      refine qS rfl (fun w' hS => zV 113 _ rfl _ _ rfl _ (hdA.keep hS id) _ underlying113 rfl 2 (by kernel_rfl) rfl) ?_;simp only [nmz];refine qA _ rfl rfl ?_
      simp only [nmz];refine qA _ rfl rfl ?_;simp only [nmz];refine qX _ _ _ _ _ _ _ _ _ rfl rfl rfl rfl underlying72 (n := 39) (by kernel_rfl) hlt ?_;simp only [nmz]
      refine qE _ _ _ _ _ _ rfl rfl rfl fo_115_0 ?_;simp only [nmz]
      refine qS rfl (fun w' hS => zV 113 _ rfl _ _ rfl _ (hAd4.keep hS id) _ underlying113 rfl 2 (by kernel_rfl) rfl) ?_;simp only [nmz]
      refine qS rfl (fun w' hS => exec_neq_dot _ _ _ rfl _ _ rfl rfl) ?_;simp only [nmz];refine qQ _ _ _ _ rfl rfl rfl ?_;simp only [nmz];refine qB ?_
      have HR : Hid (TmbRel w3 S l (.int .i64 (na : Nat)) (.int .i64 ((nb + 1 : Nat) : Int)) (.int .i64 ((k + 1 : Nat) : Int)) w4.drew) := hid ⟨k + 1, by omega, rfl, by rw [HK1.out]; simp, by rw [HG1.out]; simp, hmr4.drew⟩
      clear hS hmr4 hdA hAd4 hcA4 hev4;go_wp2
      go_roundw
      case rel => exact HR.out
      case measure => simp [intOf]; omega
     | false =>
      obtain ⟨hlt2, hat2⟩ := hka rfl;obtain ⟨_, _, hke, -, hkat⟩ := (SlEv.keep0 HKS.out hmr4).at;injection hke with hke1 hke2 hke3;subst hke1 hke3
      obtain ⟨kb, koff, rfl, -, -, hkc⟩ := hkat _ hlt2;obtain ⟨cs2, hcs2, hev2, hkA⟩ := hkc _ hlt2;rw [hat2] at hev2;have HK1 := hid hK1;have HG1 := hid hG1
      generalize hna : (keptE S (l.take k)).length = na at *;generalize hnb : (goneE S (l.take k)).length = nb at *;have hb3 : na ≤ 20 := by omega
      clear hkat hkc hka hga hke2 hK1 hG1;go_upto_region 15 with (fail);have hS : Mod NoB w4 w4.drew := (Mod.refl _ _).drew
      refine wpRP [(0, 3), (1, 3), (2, 3), (3, 3), (4, 3), (5, 3), (6, 3), (7, 3), (8, 0), (9, 3), (10, 3), (11, 3), (12, 0), (13, 1), (14, 3), (15, 3)] [] (fun w' => Mod NoB w4 w') hS ?_
      simp only [zz4];refine qA _ rfl rfl ?_;simp only [nmz];refine qA _ rfl rfl ?_;simp only [nmz];refine zP _ _ _ _ _ rfl rfl rfl (by kernel_rfl) ?_
      simp only [nmz];refine qY _ _ _ _ _ _ _ _ rfl rfl rfl rfl rfl false (decide_eq_false (by omega)) ?_;simp only [nmz];refine qA _ rfl rfl ?_;simp only [nmz]
      refine qA _ rfl rfl ?_;simp only [nmz];refine qA _ rfl rfl ?_;simp only [nmz]
      refine qX _ _ _ _ _ _ _ _ _ rfl rfl rfl rfl underlying72 (n := 39) (by kernel_rfl) hlt2 ?_;simp only [nmz]
      refine qS rfl (fun w' hS => zV 115 _ rfl _ _ rfl _ (hkA.keep hS id) _ underlying115 rfl 39 (by kernel_rfl) hcs2) ?_;simp only [nmz];refine qA _ rfl rfl ?_
      simp only [nmz];refine qA _ rfl rfl ?_;simp only [nmz];refine qX _ _ _ _ _ _ _ _ _ rfl rfl rfl rfl underlying72 (n := 39) (by kernel_rfl) hlt ?_;simp only [nmz]
      refine qS rfl (fun w' hS => zV 115 _ rfl _ _ rfl _ (hcA4.keep hS id) _ underlying115 rfl 39 (by kernel_rfl) hcs) ?_;simp only [nmz]
      refine qW rfl (fun K hK => ?_)
      refine qG (qH 61 [.tmp 86, .tmp 90] _ rfl _ func61 rfl (by kernel_rfl) [.agg cs2, .agg cs] rfl _) (sameEvent_eq _ _ _ _ _ _ _ _ (hev2.keep0 hS) (hev4.keep0 hS)) ?_
      rintro e w5 ⟨rfl, hm5⟩;replace hS := hS.trans0 hm5;refine ⟨_, rfl, hK _ _ hS ?_⟩;clear hK K hm5;try simp only [nmz]
      refine xL _ _ _ rfl rfl rfl ?_;simp only [nmz];refine qQ _ _ _ _ rfl rfl rfl ?_;simp only [nmz];refine qB ?_
      have HR : Hid (TmbRel w3 S l (.int .i64 ((na + 1 : Nat) : Int)) (.int .i64 (nb : Nat)) (.int .i64 ((k + 1 : Nat) : Int)) w5) := hid ⟨k + 1, by omega, rfl, by rw [HK1.out]; simp, by rw [HG1.out]; simp, hmr4.trans0 hS⟩
      clear hS hmr4 hkA hAd4 hcA4 hev4 hev2;go_wp2
      go_roundw
      case rel => exact HR.out
      case measure => simp [intOf]; omega
   · have hz : ¬ (k : Int) < (l.length : Nat) := by omega
     obtain rfl : k = l.length := by omega
     have hkr := SlEv.keep0 HKS.out hmr;have s3 := hmr.size;have hE3 : ∀ q, (wx.heap.size ≤ q ∧ q < w3.heap.size) → q < wr.heap.size := fun q hq => Nat.lt_of_lt_of_le hq.2 s3
     have hokk : ∀ e ∈ keptE S l, EvOk e := fun e he => hok e (List.mem_filter.1 he).1;have htA := swTombs_any hkr hE3 hE3 (HS.out.keep0 hm0r) (by omega) hokk;clear hmr
     go_upto_region 18 with (fail);refine wpR [3, 3, 1, 3, 3, 3, 3, 3] (by rfl) (by rfl) ?_;simp only [zz2];refine qA _ rfl rfl ?_;simp only [nmz]
     refine qA _ rfl rfl ?_;simp only [nmz];refine wpDo rfl ?_
     refine qG (qH 57 [.tmp 97, .tmp 98] _ rfl _ func57 rfl (by kernel_rfl) [.slice kad (keptE S l).length kcap, .slice sad S.length scap] rfl _) (htA) ?_
     rintro e wa ⟨hma, kv2, dv2, hea, hka, hda, -⟩;subst hea;rw [keptE_again] at hka;rw [goneE_again] at hda;refine ⟨_, rfl, ?_⟩;refine qA _ rfl rfl ?_;simp only [nmz]
     refine qJ rfl (fun w' => qP _ 0 #[kv2, dv2] rfl rfl kv2 rfl) ?_;simp only [nmz]
     refine qJ rfl (fun w' => qP _ 1 #[kv2, dv2] rfl rfl dv2 rfl) ?_;simp only [nmz];refine qD _ rfl rfl ?_;simp only [nmz];refine qD _ rfl rfl ?_
     simp only [nmz];refine qB ?_;have hka2 := hka.slb;obtain ⟨nad, ncap, hnv⟩ := Gat.slice hda;have hm0a := hm0r.trans0 hma
     have hjoin := vJoin_any (HS.out.keep0 hm0a) (HM.out.keep0 hm0a) (by omega) (by omega);clear htA hda hka;subst hnv;go_upto_region 19 with (fail)
     refine wpR [3, 3, 3, 1, 1, 3, 3, 3, 3, 3] (by rfl) (by rfl) ?_;simp only [zz2];refine qA _ rfl rfl ?_;simp only [nmz];refine qA _ rfl rfl ?_;simp only [nmz]
     refine qA _ rfl rfl ?_;simp only [nmz];refine wpDo rfl ?_
     refine qG (qH 62 [.tmp 104, .tmp 105] _ rfl _ func62 rfl (by kernel_rfl) [.slice sad S.length scap, .slice mad M.length mcap] rfl _) (hjoin) ?_
     rintro e wb ⟨vj, hej, hgj, hmb⟩;subst hej;have hm0b := hm0a.trans0 hmb
     have htB := swTombs_any (SlEv.keep0 HL.out hm0b) (fun k hk => Nat.lt_of_lt_of_le hk hm0b.size) (fun k hk => Nat.lt_of_lt_of_le hk hm0b.size) (IntGs.sl hgj) (by omega) hok
     refine ⟨_, rfl, ?_⟩;try simp only [nmz]
     refine wpDo rfl ?_;refine qG (qH 57 [.tmp 103, .tmp 106] _ rfl _ func57 rfl (by kernel_rfl) [.slice ad l.length cap, vj] rfl _) (htB) ?_
     rintro e wc ⟨hmc, kv3, dv3, hec, hkc, -, -⟩;subst hec;rw [keptE_join] at hkc;refine ⟨_, rfl, ?_⟩;refine qA _ rfl rfl ?_;simp only [nmz]
     refine qJ rfl (fun w' => qP _ 0 #[kv3, dv3] rfl rfl kv3 rfl) ?_;simp only [nmz]
     refine qJ rfl (fun w' => qP _ 1 #[kv3, dv3] rfl rfl dv3 rfl) ?_;simp only [nmz];refine qD _ rfl rfl ?_;simp only [nmz];refine qD _ rfl rfl ?_
     simp only [nmz];refine qB ?_;have hkc2 := hkc.slb;have hmrc := hma.trans0 (hmb.trans0 hmc);have hm0c := hm0b.trans0 hmc
     have htC := swTombs_any (SlEv.keep0 hkr hmrc) (fun q hq => Nat.lt_of_lt_of_le (hE3 q hq) hmrc.size) (fun q hq => Nat.lt_of_lt_of_le (hE3 q hq) hmrc.size) (HM.out.keep0 hm0c) (by omega) hokk
     have hka3 := SlEv.keep0 hka2 (hmb.trans0 hmc);clear hjoin hgj htB hkc hmb hka2;go_upto_region 20 with (fail);refine wpR [3, 3, 1, 3, 3, 3, 3, 3] (by rfl) (by rfl) ?_
     simp only [zz2];refine qA _ rfl rfl ?_;simp only [nmz];refine qA _ rfl rfl ?_;simp only [nmz];refine wpDo rfl ?_
     refine qG (qH 57 [.tmp 111, .tmp 112] _ rfl _ func57 rfl (by kernel_rfl) [.slice kad (keptE S l).length kcap, .slice mad M.length mcap] rfl _) (htC) ?_
     rintro e wd ⟨hmd, kv4, dv4, hed, hkd, -, -⟩;subst hed;refine ⟨_, rfl, ?_⟩;refine qA _ rfl rfl ?_;simp only [nmz]
     refine qJ rfl (fun w' => qP _ 0 #[kv4, dv4] rfl rfl kv4 rfl) ?_;simp only [nmz]
     refine qJ rfl (fun w' => qP _ 1 #[kv4, dv4] rfl rfl dv4 rfl) ?_;simp only [nmz];refine qD _ rfl rfl ?_;simp only [nmz];refine qD _ rfl rfl ?_
     simp only [nmz];refine qB ?_;have hkd2 := hkd.slb;have hA := SlEv.keep0 hka3 hmd;have hB := SlEv.keep0 hkc2 hmd;have hKd := SlEv.keep0 hkr (hmrc.trans0 hmd)
     have hm0d := hm0c.trans0 hmd;have hs1 := sameEvents_eq _ _ _ _ _ _ _ _ _ _ hA hKd
     have hs2 := fun w' (hm' : Mod NoB wd w') => sameEvents_eq _ _ _ _ _ _ _ _ _ w' (SlEv.keep0 hB hm') (SlEv.keep0 hkd2 hm')
     clear htC hkd hkd2 hB hA hKd hkr hka3 hkc2 hmrc hmd hma hmc;go_upto_region 21 with (fail);refine wpR [3, 3, 3, 3, 3, 3, 3, 3, 3, 1, 3, 3, 3, 3, 1, 3, 3] (by rfl) (by rfl) ?_
     simp only [zz2];refine qA _ rfl rfl ?_;simp only [nmz];refine qA _ rfl rfl ?_;simp only [nmz];refine qA _ rfl rfl ?_;simp only [nmz]
     refine zP _ _ _ _ _ rfl rfl rfl (by kernel_rfl) ?_;simp only [nmz];refine qY _ _ _ _ _ _ _ _ rfl rfl rfl rfl rfl true rfl ?_;simp only [nmz]
     refine qQ _ _ _ _ rfl rfl rfl ?_;simp only [nmz];refine qA _ rfl rfl ?_;simp only [nmz];refine qA _ rfl rfl ?_;simp only [nmz]
     refine qA _ rfl rfl ?_;simp only [nmz];refine wpDo rfl ?_
     refine qG (qH 52 [.tmp 123, .tmp 124] _ rfl _ func52 rfl (by kernel_rfl) [kv2, .slice kad (keptE S l).length kcap] rfl _) (hs1) ?_;rintro e we ⟨rfl, hme⟩
     refine ⟨_, rfl, ?_⟩;refine qQ _ _ _ _ rfl rfl rfl ?_;simp only [nmz];refine qA _ rfl rfl ?_;simp only [nmz];refine qA _ rfl rfl ?_;simp only [nmz]
     refine qA _ rfl rfl ?_;simp only [nmz];refine wpDo rfl ?_
     refine qG (qH 52 [.tmp 128, .tmp 129] _ rfl _ func52 rfl (by kernel_rfl) [kv3, kv4] rfl _) (hs2 _ hme) ?_;rintro e wf ⟨rfl, hmf⟩;refine ⟨_, rfl, ?_⟩
     refine qQ _ _ _ _ rfl rfl rfl ?_;simp only [nmz];refine qD _ rfl rfl ?_;simp only [nmz];refine qB ?_;have HF := hid ((hm0d.trans0 hme).trans0 hmf)
     clear hs1 hs2 hme hmf hm0d hm0c hm0b hm0a;go_wp2;go_ret;exact ⟨rfl, HF.out⟩
theorem sweepTombs_any (W : World) (v : Value) (l : List Evt) (sv : Value) (S : List Int) (mv : Value) (M : List Int) (hl : EvsIn W v l) (hs : Sl false W AnyB 1 IntF sv S) (hm : Sl false W AnyB 1 IntF mv M) : Calls prog 12 #[v, sv, mv] W (RetM (.bool true) W) :=
 sweepTombs_walk hl (hs.mono (fun _ h => h) (fun _ _ h => h.1)) (hm.mono (fun _ h => h) (fun _ _ h => h.1))
end
end Go.Proofs.YtjeonjoifjbohaaGreat
