/- What the statement SweepKnown needs, part 8. -/
import Derived.WalkKit
import Derived.ProofKit
import Derived.OpenShut
import Derived.ChangeStays
import Derived.ChangeBook
import Derived.ChangeSlices
import Derived.Test.YtjeonjoifjbohaaGreatSweepKnownP7
set_option linter.unusedVariables false
set_option linter.unusedSimpArgs false
set_option linter.unnecessarySimpa false
set_option linter.unusedSectionVars false
set_option maxRecDepth 10000
set_option maxHeartbeats 8000000
namespace Go.Proofs.YtjeonjoifjbohaaGreat
open Go.RowKit Go.Proofs.Tryz Go.Lib
theorem fo_113_0 : q1h prog 113 0 = some 0 := by kernel_rfl
theorem fo_113_1 : q1h prog 113 1 = some 1 := by kernel_rfl
section
variable {P : Program} {ops : Array Oper} {Q : Exit → Act → World → Prop} {S : World → Prop} {o : Oper} {r : List (Oper × Nat)} {a : Act} {w : World}
theorem wpPi_subTo (t : TypeId) (x y : Operand) (yt : TypeId) (m n z : Int) (hw : Region.wanted o (yielded ops a.tmps) = true) (ho : o.op = .binOp .sub t x y yt) (hx : a.eval x = .int .i64 m) (hy : a.eval y = .int .i64 n)
 (hz : m - n = z) (h1 : -9223372036854775808 ≤ z) (h2 : z ≤ 9223372036854775807) (h : wpPi P ops Q S r (a.put o.dst (.int .i64 z)) w) : wpPi P ops Q S ((o, 3) :: r) a w := by
 subst hz;exact q3c t x y yt m n hw ho hx hy h1 h2 h
end
theorem vAt_any {own : Bool} {G : Nat → Prop} {v : Value} {l : List Int} {w : World} (hl : Sl own w G 1 IntC v l) (r : Int) : Calls prog 134 #[v, .int .i64 r] w (RetM (.int .i64 (atV l r)) w) := by
 obtain ⟨ad, cap, rfl, hlm, hat⟩ := hl.at;have HAT := hid hat;clear hl hat
 by_cases h1 : r < 1
 · have HV : Hid (atV l r = 0) := hid (by unfold atV; rw [if_pos (.inl h1)])
   generalize atV l r = z at *;go_enter func134, ntmps134;go_wp2;go_ret;exact ⟨by rw [HV.out]; rfl, Mod.refl _ _⟩
 by_cases h2 : (l.length : Int) < r
 · have HV : Hid (atV l r = 0) := hid (atV_out h2)
   generalize atV l r = z at *;go_enter func134, ntmps134;go_wp2;go_ret;exact ⟨by rw [HV.out]; rfl, Mod.refl _ _⟩
 obtain ⟨k, rfl⟩ : ∃ k : Nat, r = (k : Int) + 1 := ⟨(r - 1).toNat, by omega⟩;have hlt : k < l.length := by omega
 have HV : Hid (atV l ((k : Int) + 1) = max l[k] 0) := hid (by
  unfold atV;rw [if_neg (by omega), show ((k : Int) + 1 - 1).toNat = k by omega, List.getD_eq_getElem?_getD, List.getElem?_eq_getElem hlt]
  rfl)
 obtain ⟨b, off, rfl, -, -, hcc⟩ := HAT.out k hlt;obtain ⟨_, -, rfl, hcA⟩ := hcc k hlt;have hc : w.cell? ⟨b, off + k * 1, none⟩ = some (.int .i64 l[k]) := CellsAt.one.1 hcA
 generalize atV l ((k : Int) + 1) = z at *;generalize l[k] = y at *;clear hcc hcA HAT;go_enter func134, ntmps134;go_upto_region 3 with (fail)
 refine wpR [3, 3, 3, 3, 1, 1, 3] (by rfl) (by rfl) ?_;simp only [zz2];refine q0a _ rfl rfl ?_;simp only [nmz];refine q0a _ rfl rfl ?_;simp only [nmz]
 refine wpPi_subTo _ _ _ _ _ _ (k : Int) rfl rfl rfl rfl (by omega) (by omega) (by omega) ?_;simp only [nmz]
 refine q1d _ _ _ _ _ _ _ _ _ rfl rfl rfl rfl underlying64 (n := 1) (by kernel_rfl) hlt ?_;simp only [nmz]
 refine wpX rfl (q0d 3 _ (by rfl) b (off + k * 1) (by rfl) (.int .i64 y) hc _ underlying3 rfl) trivial ?_;try simp only [nmz]
 refine wpX rfl (exec_max _ _ _ y 0 _ (by rfl) (by rfl) (by rfl) rfl) trivial ?_;refine q0e _ rfl rfl ?_;simp only [nmz];refine q0b ?_;go_wp2;go_ret
 exact ⟨by rw [HV.out]; rfl, Mod.refl _ _⟩
theorem vHas_any {own : Bool} {G : Nat → Prop} {v : Value} {l : List Int} {w : World} (hl : Sl own w G 1 IntC v l) (r n : Int) : Calls prog 60 #[v, .agg #[.int .i64 r, .int .i64 n]] w (RetM (.bool (hasV l r n)) w) := by
 have hone := Sl.one hl;obtain ⟨x, hx⟩ : ∃ x, hasV l r n = x := ⟨_, rfl⟩;obtain ⟨z, hz⟩ : ∃ z, atV l r = z := ⟨_, rfl⟩
 have HX : Hid (x = decide (1 ≤ r ∧ 1 ≤ n ∧ n ≤ z)) := hid (by rw [← hx, ← hz]; rfl);have hcall := fun w' (hm : Mod NoB w w') => vAt_any (hl.keep0 hm) r;rw [hz] at hcall;rw [hx]
 clear hx hz hl;go_enter func60, ntmps60;go_upto_region 0 with (fail);refine wpR [1, 3] (by rfl) (by rfl) ?_;simp only [zz2];refine wpDo rfl ?_
 refine q2k 113 _ _ (by rfl) (by rfl) (fun w1 hB1 hm1 hs1 => ?_);replace hB1 : w1.heap[w.heap.size]? = some (.cells #[.int .i64 r, .int .i64 n] 113 (0, 0)) := hB1
 refine q0e _ rfl rfl ?_;simp only [nmz];refine q0b ?_;have hR : w1.cell? ⟨w.heap.size, 0, none⟩ = some (.int .i64 r) := by simp [World.cell?, hB1]
 have hN : w1.cell? ⟨w.heap.size, 1, none⟩ = some (.int .i64 n) := by simp [World.cell?, hB1]
 generalize w.heap.size = b0 at *;go_upto_region 1 with (fail);have hS : Mod NoB w1 w1.drew := (Mod.refl _ _).drew
 refine q0s [(0, 3), (1, 0), (2, 0), (3, 3), (4, 3), (5, 0), (6, 0), (7, 3), (8, 3), (9, 3), (10, 0), (11, 3), (12, 3), (13, 0), (14, 1), (15, 0), (16, 3), (17, 3)] [] (fun w' => Mod NoB w1 w') (by kernel_rfl) (by kernel_rfl) (by kernel_rfl) (by kernel_rfl) (fun _ _ _ _ hd h => ⟨hd.trans h.1, h.2⟩) hS ?_
 simp only [zz4];refine q0f _ _ _ _ _ _ rfl rfl rfl fo_113_0 ?_;simp only [nmz]
 refine q0g rfl (fun w' hS => q0d 3 _ rfl _ _ rfl _ (hS.cell id hR) _ underlying3 rfl) ?_;simp only [nmz]
 by_cases g7 : 1 ≤ r
 · have h7 : Hid (decide (1 ≤ r) = true) := decide_eq_true g7; clear g7
   refine q0g rfl (fun w' hS => exec_cmp .geq 3 _ _ _ .i64 r 1 rfl rfl rfl rfl true h7.out) ?_;simp only [nmz];refine q0a _ rfl rfl ?_;simp only [nmz]
   refine q0f _ _ _ _ _ _ rfl rfl rfl fo_113_1 ?_;simp only [nmz];refine q0g rfl (fun w' hS => q0d 3 _ rfl _ _ rfl _ (hS.cell id hN) _ underlying3 rfl) ?_
   simp only [nmz]
   by_cases g11 : 1 ≤ n
   · have h11 : Hid (decide (1 ≤ n) = true) := decide_eq_true g11; clear g11
     refine q0g rfl (fun w' hS => exec_cmp .geq 3 _ _ _ .i64 n 1 rfl rfl rfl rfl true h11.out) ?_;simp only [nmz];refine q0y _ _ _ _ rfl rfl rfl ?_;simp only [nmz]
     refine q0a _ rfl rfl ?_;simp only [nmz];refine q0f _ _ _ _ _ _ rfl rfl rfl fo_113_1 ?_;simp only [nmz]
     refine q0g rfl (fun w' hS => q0d 3 _ rfl _ _ rfl _ (hS.cell id hN) _ underlying3 rfl) ?_;simp only [nmz];refine q0a _ rfl rfl ?_;simp only [nmz]
     refine q0f _ _ _ _ _ _ rfl rfl rfl fo_113_0 ?_;simp only [nmz];refine q0g rfl (fun w' hS => q0d 3 _ rfl _ _ rfl _ (hS.cell id hR) _ underlying3 rfl) ?_
     simp only [nmz];refine q1b rfl (fun K hK => ?_)
     refine q0j (q0m 134 [.tmp 16, .tmp 18] _ rfl _ func134 rfl (by kernel_rfl) [v, .int .i64 r] rfl _) (hcall _ (hm1.trans0 hS)) ?_;rintro e w2 ⟨rfl, hm2⟩
     replace hS := hS.trans0 hm2;refine ⟨_, rfl, hK _ _ hS ?_⟩;clear hK K hm2;try simp only [nmz]
     by_cases g20 : n ≤ z
     · have h20 : Hid (decide (n ≤ z) = true) := decide_eq_true g20; clear g20
       refine q0g rfl (fun w' hS => exec_cmp .leq 3 _ _ _ .i64 n z rfl rfl rfl rfl true h20.out) ?_;simp only [nmz];refine q0y _ _ _ _ rfl rfl rfl ?_;simp only [nmz]
       refine q0e _ rfl rfl ?_;simp only [nmz];refine q0b ?_;go_wp2;go_ret;unfold Hid at *
       exact ⟨ret_bool (by rw [HX]; symm; first | (refine decide_eq_true ?_; simp_all; done) | (refine decide_eq_false ?_; intro he; simp_all)), hm1.trans0 hS⟩
     · have h20 : Hid (decide (n ≤ z) = false) := decide_eq_false g20; clear g20
       refine q0g rfl (fun w' hS => exec_cmp .leq 3 _ _ _ .i64 n z rfl rfl rfl rfl false h20.out) ?_;simp only [nmz];refine q0y _ _ _ _ rfl rfl rfl ?_;simp only [nmz]
       refine q0e _ rfl rfl ?_;simp only [nmz];refine q0b ?_;go_wp2;go_ret;unfold Hid at *
       exact ⟨ret_bool (by rw [HX]; symm; first | (refine decide_eq_true ?_; simp_all; done) | (refine decide_eq_false ?_; intro he; simp_all)), hm1.trans0 hS⟩
   · have h11 : Hid (decide (1 ≤ n) = false) := decide_eq_false g11; clear g11
     refine q0g rfl (fun w' hS => exec_cmp .geq 3 _ _ _ .i64 n 1 rfl rfl rfl rfl false h11.out) ?_;simp only [nmz];refine q0y _ _ _ _ rfl rfl rfl ?_;simp only [nmz]
     refine q0a _ rfl rfl ?_;simp only [nmz];refine q1a rfl ?_;simp only [nmz];refine q1o rfl ?_;simp only [nmz];refine q1a rfl ?_;simp only [nmz]
     refine q1a rfl ?_;simp only [nmz];refine q1o rfl ?_;simp only [nmz];refine q3t rfl hS ?_;simp only [nmz];refine q1o rfl ?_;simp only [nmz]
     refine q0y _ _ _ _ rfl rfl rfl ?_;simp only [nmz];refine q0e _ rfl rfl ?_;simp only [nmz];refine q0b ?_;go_wp2;go_ret;unfold Hid at *
     exact ⟨ret_bool (by rw [HX]; symm; first | (refine decide_eq_true ?_; simp_all; done) | (refine decide_eq_false ?_; intro he; simp_all)), hm1.trans0 hS⟩
 · have h7 : Hid (decide (1 ≤ r) = false) := decide_eq_false g7; clear g7
   refine q0g rfl (fun w' hS => exec_cmp .geq 3 _ _ _ .i64 r 1 rfl rfl rfl rfl false h7.out) ?_;simp only [nmz];refine q0a _ rfl rfl ?_;simp only [nmz]
   refine q1a rfl ?_;simp only [nmz];refine q1o rfl ?_;simp only [nmz];refine q1o rfl ?_;simp only [nmz];refine q0y _ _ _ _ rfl rfl rfl ?_;simp only [nmz]
   refine q0a _ rfl rfl ?_;simp only [nmz];refine q1a rfl ?_;simp only [nmz];refine q1o rfl ?_;simp only [nmz];refine q1a rfl ?_;simp only [nmz]
   refine q1a rfl ?_;simp only [nmz];refine q1o rfl ?_;simp only [nmz];refine q3t rfl hS ?_;simp only [nmz];refine q1o rfl ?_;simp only [nmz]
   refine q0y _ _ _ _ rfl rfl rfl ?_;simp only [nmz];refine q0e _ rfl rfl ?_;simp only [nmz];refine q0b ?_;go_wp2;go_ret;unfold Hid at *
   exact ⟨ret_bool (by rw [HX]; symm; first | (refine decide_eq_true ?_; simp_all; done) | (refine decide_eq_false ?_; intro he; simp_all)), hm1.trans0 hS⟩
end Go.Proofs.YtjeonjoifjbohaaGreat
namespace Go.Proofs.YtjeonjoifjbohaaGreat
open Go.RowKit Go.Proofs.Tryz Go.Lib
theorem swTombs3_any {own own' : Bool} {G G' : Nat → Prop} {w : World} {sb : Nat} {sv : Value} {st : List Int} {cs : Array Value} {e : Evt} (hs : w.heap[sb]? = some (.cells #[sv] 64 (0, 0))) (hl : Sl own w G 1 IntC sv st) (he : EvR own' w G' cs e) :
 Calls prog 133 (#[.agg cs] ++ #[.pointer (some ⟨sb, 0, none⟩)]) w (RetM (.bool (hasV st e.r e.n)) w) := by
 obtain ⟨dv, rv, hca, hi, -⟩ := he;have cA := q1m e dv rv hi; rw [← hca] at cA; clear hca;have hone := Sl.one hl;obtain ⟨a0, c0, hsv, -, -⟩ := hl.at;have HL := hid hl
 have HSV := hid hsv;rw [show #[Value.agg cs] ++ #[.pointer (some ⟨sb, 0, none⟩)] = #[.agg cs, .pointer (some ⟨sb, 0, none⟩)] from rfl];clear hl hsv;go_enter func133, ntmps133
 go_upto_region 0 with (fail);refine wpR [1, 3] (by rfl) (by rfl) ?_;simp only [zz2];refine wpDo rfl ?_;refine q2k 115 _ _ (by rfl) (by rfl) (fun w1 hB1 hm1 hs1 => ?_)
 replace hB1 : w1.heap[w.heap.size]? = some (.cells cs 115 (0, 0)) := hB1;refine q0e _ rfl rfl ?_;simp only [nmz];refine q0b ?_
 have hcs : w1.cell? ⟨sb, 0, none⟩ = some sv := by simp [World.cell?, hm1.obj id hs]
 have hA := CellsAt.whole hB1;have hAd := hA.part (i := 0) (j := 2) (by rw [cA.size]; omega);rw [cA.dot] at hAd;have hcall := vHas_any (HL.out.keep0 hm1) e.r e.n
 rw [HSV.out] at hcall hcs;generalize hasV st e.r e.n = x at *;clear hB1 hA hs;go_upto_region 1 with (fail);refine wpR [1, 3, 1, 1, 3] (by rfl) (by rfl) ?_;simp only [zz2]
 refine wpX rfl (q0d 64 _ (by rfl) sb 0 (by rfl) _ hcs _ underlying64 rfl) trivial ?_;refine q0f _ _ _ _ _ _ rfl rfl rfl fo_115_0 ?_;simp only [nmz]
 refine wpX rfl (q0l 113 _ (by rfl) w.heap.size (0 + 0) (by rfl) #[.int .i64 e.r, .int .i64 e.n] hAd _ underlying113 rfl 2 (by kernel_rfl) rfl) trivial ?_;try simp only [nmz]
 refine wpDo rfl ?_
 refine q0j (q0m 60 [.tmp 4, .tmp 6] _ rfl _ func60 rfl (by kernel_rfl) [.slice a0 st.length c0, .agg #[.int .i64 e.r, .int .i64 e.n]] rfl _) (hcall) ?_
 rintro e' w2 ⟨rfl, hm2⟩;refine ⟨_, rfl, ?_⟩;refine q0e _ rfl rfl ?_;simp only [nmz];refine q0b ?_;go_wp2;go_ret;exact ⟨rfl, hm1.trans0 hm2⟩
structure TmAt (base kb db : Nat) (kv dv : Value) (lk : List Evt) (ld : List (Int × Int)) (w : World) : Prop where
 kbox : w.heap[kb]? = some (.cells #[kv] 72 (0, 0))
 dbox : w.heap[db]? = some (.cells #[dv] 116 (0, 0))
 kept : EvGs (fun k => dv.ownBlock = some k) base w kv lk
 dots : DotGs base w dv ld
 apart : ∀ q, kv.ownBlock = some q → dv.ownBlock ≠ some q
 kblt : kb < base
 dblt : db < base
 ne : kb ≠ db
 le : base ≤ w.heap.size
theorem TmAt.keep0 {base kb db : Nat} {kv dv : Value} {lk : List Evt} {ld : List (Int × Int)} {w w' : World} (h : TmAt base kb db kv dv lk ld w) (hm : Mod NoB w w') : TmAt base kb db kv dv lk ld w' :=
 ⟨hm.obj id h.kbox, hm.obj id h.dbox, h.kept.keep0 hm, h.dots.keep0 hm, h.apart, h.kblt, h.dblt, h.ne, Nat.le_trans h.le hm.size⟩
def TmIn (base kb db : Nat) (lk : List Evt) (ld : List (Int × Int)) (w : World) : Prop := ∃ kv dv, TmAt base kb db kv dv lk ld w
def TmR (base kb db : Nat) (lk : List Evt) (ld : List (Int × Int)) (w : World) : Ending → World → Prop := fun e w' => e = .returned (.tuple #[]) ∧ TmIn base kb db lk ld w' ∧ Mod (fun k => k = kb ∨ k = db ∨ base ≤ k) w w'
theorem swTombs2_any {base kb db : Nat} {kv dv : Value} {lk : List Evt} {ld : List (Int × Int)} {own : Bool} {G : Nat → Prop} {w : World} {cs : Array Value} {e : Evt} (h : TmAt base kb db kv dv lk ld w) (he : EvR own w G cs e) (hn : ld.length ≤ 10000) :
 Calls prog 131 (#[.agg cs] ++ #[.pointer (some ⟨db, 0, none⟩)]) w (TmR base kb db lk (ld ++ [(e.r, e.n)]) w) := by
 obtain ⟨ev, rv, hca, hi, -⟩ := he;have cA := q1m e ev rv hi; rw [← hca] at cA; clear hca
 rw [show #[Value.agg cs] ++ #[.pointer (some ⟨db, 0, none⟩)] = #[.agg cs, .pointer (some ⟨db, 0, none⟩)] from rfl];have HH := hid h;obtain ⟨ad, cap, hdv⟩ := Gat.slice h.dots
 have HDV := hid hdv;clear h hdv;go_enter func131, ntmps131;go_upto_region 0 with (fail);refine wpR [1] (by rfl) (by rfl) ?_;simp only [zz2];refine wpDo rfl ?_
 refine q2k 115 _ _ (by rfl) (by rfl) (fun w1 hB1 hm1 hs1 => ?_);replace hB1 : w1.heap[w.heap.size]? = some (.cells cs 115 (0, 0)) := hB1;try simp only [nmz]
 refine q0b ?_;have h1 := HH.out.keep0 hm1;have hcd : w1.cell? ⟨db, 0, none⟩ = some dv := by simp [World.cell?, h1.dbox]
 have hA := CellsAt.whole hB1;have hAd := hA.part (i := 0) (j := 2) (by rw [cA.size]; omega);rw [cA.dot] at hAd;rw [HDV.out] at hcd;have H1 := hid h1;clear hB1 hA h1
 go_upto_region 1 with (fail);refine wpR [1, 3, 1, 1, 1, 1] (by rfl) (by rfl) ?_;simp only [zz2]
 refine wpX rfl (q0d 116 _ (by rfl) db 0 (by rfl) _ hcd _ underlying116 rfl) trivial ?_;refine q0f _ _ _ _ _ _ rfl rfl rfl fo_115_0 ?_;simp only [nmz]
 refine wpX rfl (q0l 113 _ (by rfl) w.heap.size (0 + 0) (by rfl) #[.int .i64 e.r, .int .i64 e.n] hAd _ underlying113 rfl 2 (by kernel_rfl) rfl) trivial ?_;try simp only [nmz]
 refine wpDo rfl ?_
 refine q1i 116 113 _ (.agg #[.int .i64 e.r, .int .i64 e.n]) (.agg #[.int .i64 0, .int .i64 0]) 2 (by rfl) (by rfl) underlying116 (by kernel_rfl) (by omega) (by omega) rfl (fun w2 hB2 hm2 hs2 => ?_)
 replace hB2 : w2.heap[w1.heap.size]? = some (.cells (dotEnc (e.r, e.n)).toArray 113 (0, 0)) := hB2;have h2 := H1.out.keep0 hm2;try simp only [nmz]
 refine wpDo rfl ?_;refine wp_dots _ _ (by rfl) (v := dv) (by rw [HDV.out]; rfl) h2.dots w1.heap.size (e.r, e.n) (by rfl) hB2 (by omega) h2.le (fun v3 w3 hg3 hv3 hm3 => ?_)
 have hd3 := hm3.obj (fun e => by have := (Gat.lt h2.dots e).1; have := h2.dblt; omega) h2.dbox
 have hk3 := hm3.obj (fun e => by have := (Gat.lt h2.dots e).1; have := h2.kblt; omega) h2.kbox
 have hE3 : EvGs (fun k => v3.ownBlock = some k) base w3 kv lk := by
  have hE := h2.kept.keep hm3 (fun k hk hd => h2.apart k hk hd) (fun k hk hd => hk.2.2.2 hd);obtain ⟨css, q1, q2, q3⟩ := h2.kept
  have hq := q3.imp fun _ _ h => (h.keep hm3 (fun k hk hd => hk.2.2.2 hd))
  refine ⟨css, q2q q1 hm3 (fun k hk hd => h2.apart k hk hd), q2, hq.imp fun _ _ h => h.mono fun k hk => ⟨hk.1, Nat.lt_of_lt_of_le hk.2.1 hm3.size, hk.2.2.1, fun e => ?_⟩⟩
  rcases hv3 with hv | hv
  · exact hk.2.2.2 (hv ▸ e)
  · rw [hv] at e; cases e; exact Nat.lt_irrefl _ hk.2.1
 have hap3 : ∀ q, kv.ownBlock = some q → v3.ownBlock ≠ some q := fun q hq e => by
  rcases hv3 with hv | hv
  · exact h2.apart q hq (hv ▸ e)
  · rw [hv] at e; cases e; have := (h2.kept.lt hq).2; omega
 have hm03 : Mod (fun k => k = kb ∨ k = db ∨ base ≤ k) w w3 := ((hm1.trans0 hm2).mono (fun _ _ h => h.elim)).trans hm3 (fun k _ e => .inr (.inr (Gat.lt h2.dots e).1))
 have hle3 := Nat.le_trans h2.le hm3.size;try simp only [nmz]
 refine wpDo rfl ?_;refine q1g 116 _ _ db 0 v3 (by rfl) (by rfl) (by rfl) (q3e hg3) (by kernel_rfl) _ _ hd3 (by simp) (fun w4 hB4 hm4 => ?_)
 replace hB4 : w4.heap[db]? = some (.cells #[v3] 116 (0, 0)) := hB4
 have HF : Hid (TmR base kb db lk (ld ++ [(e.r, e.n)]) w (.returned (.tuple #[])) w4) := hid ⟨rfl, ⟨kv, v3, hm4.objB h2.ne hk3, hB4, hE3.keep hm4 (fun k hk e => by have e : k = db := e; have := (hE3.lt hk).1; have := h2.dblt; omega) (fun k hk e => by have e : k = db := e; have := hk.1; have := h2.dblt; omega), Gat.keep hg3 hm4 (fun k hk e => by have e : k = db := e; have := (Gat.lt hg3 hk).1; have := h2.dblt; omega), hap3, h2.kblt, h2.dblt, h2.ne, Nat.le_trans hle3 hm4.size⟩, hm03.trans hm4 (fun k _ e => .inr (.inl e))⟩
 try simp only [nmz]
 refine q0b ?_;clear hg3 hE3 hap3 hd3 hk3 hm03 hm4 hB4 h2 hm1 hm2 hm3 hAd hcd hB2 hv3 hle3;go_wp2
 go_end0
 exact HF.out
end Go.Proofs.YtjeonjoifjbohaaGreat
namespace Go.Proofs.YtjeonjoifjbohaaGreat
open Go.RowKit Go.Proofs.Tryz Go.Lib
def longEv (e : Evt) : Bool := decide (20 < e.deps.length ∨ 300 < e.refs.length ∨ 200 < e.repo.size ∨ 200 < e.tag.size)
def SmallEvs (l : List Evt) : Prop := l.length ≤ 20 ∧ ∀ e ∈ l, longEv e = false
theorem small_ok {e : Evt} (h : longEv e = false) : EvOk e := by
 unfold longEv at h;have h2 := of_decide_eq_false h;exact ⟨by omega, by omega⟩
theorem SmallEvs.ok {l : List Evt} (h : SmallEvs l) : ∀ e ∈ l, EvOk e := fun e he => small_ok (h.2 e he)
end Go.Proofs.YtjeonjoifjbohaaGreat
namespace Go.Proofs.YtjeonjoifjbohaaGreat
open Go.RowKit Go.Proofs.Tryz Go.Lib
theorem swTombs1_any {base kb db : Nat} {kv dv : Value} {lk : List Evt} {ld : List (Int × Int)} {own : Bool} {G : Nat → Prop} {w : World} {cs : Array Value} {e : Evt} (h : TmAt base kb db kv dv lk ld w) (he : EvR own w G cs e) (hok : EvOk e) (hn : lk.length ≤ 10000) :
 Calls prog 128 (#[.agg cs] ++ #[.pointer (some ⟨kb, 0, none⟩)]) w (TmR base kb db (lk ++ [e]) ld w) := by
 obtain ⟨ev, rv, hca, hi, hd, hr, hsz1, hsz2⟩ := he;have cA := q1m e ev rv hi; rw [← hca] at cA
 rw [show #[Value.agg cs] ++ #[.pointer (some ⟨kb, 0, none⟩)] = #[.agg cs, .pointer (some ⟨kb, 0, none⟩)] from rfl];have HH := hid h;have HCA := hid hca
 have HKV : Hid (∃ ad cap, kv = .slice ad lk.length cap) := hid (by obtain ⟨ad, cap, h1, -⟩ := Sl.at h.kept.sl; exact ⟨ad, cap, h1⟩);clear h hca;go_enter func128, ntmps128
 go_upto_region 0 with (fail);refine wpR [1] (by rfl) (by rfl) ?_;simp only [zz2];refine wpDo rfl ?_;refine q2k 115 _ _ (by rfl) (by rfl) (fun w1 hB1 hm1 hs1 => ?_)
 replace hB1 : w1.heap[w.heap.size]? = some (.cells cs 115 (0, 0)) := hB1;try simp only [nmz]
 refine q0b ?_;have hA := CellsAt.whole hB1;have hd1 := hd.keep0 hm1;have hr1 := hr.keep0 hm1;obtain ⟨b0, hb0⟩ : ∃ b, w.heap.size = b := ⟨_, rfl⟩;rw [hb0] at hB1 hA hs1 ⊢
 have HOK := hid hok;clear hd hr;go_upto_region 1 with (fail);have hS : Mod NoB w1 w1.drew := (Mod.refl _ _).drew
 refine q0s [(0, 3), (1, 0), (3, 3), (4, 0), (2, 1), (6, 3), (5, 1), (7, 2), (8, 3), (9, 2)] [7, 9] (fun w' => Mod NoB w1 w') (by kernel_rfl) (by kernel_rfl) (by kernel_rfl) (by kernel_rfl) (fun _ _ _ _ hd h => ⟨hd.trans h.1, h.2⟩) hS ?_
 simp only [zz4];refine q0f _ _ _ _ _ _ rfl rfl rfl fo_115_1 ?_;simp only [nmz]
 refine q0g rfl (fun w' hS => q0d 64 _ rfl _ _ rfl _ (hS.cell id (hA.cell cA.c2)) _ underlying64 rfl) ?_;simp only [nmz]
 refine q0f _ _ _ _ _ _ rfl rfl rfl fo_115_6 ?_;simp only [nmz]
 refine q0g rfl (fun w' hS => q0d 25 _ rfl _ _ rfl _ (hS.cell id (hA.cell cA.c38)) _ underlying25 rfl) ?_;simp only [nmz];refine q1b rfl (fun K hK => ?_)
 refine q0j (q0m 129 [.tmp 4] _ rfl _ func129 rfl (by kernel_rfl) [ev] rfl _) (cloneInts_any own G _ _ _ (hd1.keep0 hS) HOK.out.1) ?_;rintro e' w3 ⟨dv', rfl, hm3, hd'⟩
 have hlow3 : ∀ k, New w1.drew w3 k → b0 < k := fun k hk => by have := hk.1; have h9 : w1.drew.heap.size = w1.heap.size := rfl; omega
 have hd3 : Sl true w3 (fun k => b0 < k ∧ k < w3.heap.size) 1 IntC dv' e.deps := hd'.mono (fun k hk => ⟨hlow3 k hk, hk.2⟩) (fun _ _ h => h);replace hS := hS.trans0 hm3
 refine ⟨_, rfl, hK _ _ hS ?_⟩;clear hK K hm3 hd' hlow3;refine q0f _ _ _ _ _ _ rfl rfl rfl fo_115_1 ?_;simp only [nmz];refine q1b rfl (fun K hK => ?_)
 refine q0j (q0m 130 [.tmp 7] _ rfl _ func130 rfl (by kernel_rfl) [rv] rfl _) (cloneIDs_any own G _ _ _ (hr1.keep0 hS) HOK.out.2) ?_;rintro e' w4 ⟨rv', rfl, hm4, hr'⟩
 have hlow4 : ∀ k, New w3 w4 k → b0 < k := fun k hk => by have := hk.1; have h9 := hS.size; omega
 have hr4 : Sl true w4 (fun k => b0 < k ∧ k < w4.heap.size) 32 IdC rv' e.refs := hr'.mono (fun k hk => ⟨hlow4 k hk, hk.2⟩) (fun _ _ h => h)
 have hd4 : Sl true w4 (fun k => b0 < k ∧ k < w4.heap.size) 1 IntC dv' e.deps := (hd3.keep0 hm4).mono (fun k hk => ⟨hk.1, Nat.lt_of_lt_of_le hk.2 hm4.size⟩) (fun _ _ h => h)
 replace hS := hS.trans0 hm4;refine ⟨_, rfl, hK _ _ hS ?_⟩;clear hK K hm4 hr' hlow4 hd3;try simp only [nmz]
 refine q1t rfl (fun K hK => ?_);have hB4 := hS.obj id hB1
 refine q1g 64 _ _ b0 2 dv' (by rfl) (by rfl) (by rfl) hd4.one (by kernel_rfl) _ _ hB4 (by rw [cA.size]; omega) (fun w5 hB5 hm5 => ?_)
 have hd5 := hd4.keepB hm5 (fun k hk e => by have := hk.1; omega);have hr5 := hr4.keepB hm5 (fun k hk e => by have := hk.1; omega);rw [HCA.out, evCells_set2] at hB5;refine hK _ _ ?_
 clear hK K hB4;refine q0f _ _ _ _ _ _ rfl rfl rfl fo_115_6 ?_;simp only [nmz];refine q1t rfl (fun K hK => ?_)
 refine q1g 25 _ _ b0 38 rv' (by rfl) (by rfl) (by rfl) hr5.one (by kernel_rfl) _ _ hB5 (by rw [(q1m e dv' rv hi).size]; omega) (fun w6 hB6 hm6 => ?_)
 have hd6 := hd5.keepB hm6 (fun k hk e => by have := hk.1; omega);have hr6 := hr5.keepB hm6 (fun k hk e => by have := hk.1; omega);rw [evCells_set38 _ _ _ _ hi] at hB6
 have hm06 : Mod NoB w w6 := ((hm1.trans0 hS).transB hm5 (by omega)).transB hm6 (by omega);refine hK _ _ ?_;clear hK K hB5;try simp only [nmz]
 refine q0b ?_;have h6 := HH.out.keep0 hm06;have s5 := hm5.size;have s6 := hm6.size;have hcK : w6.cell? ⟨kb, 0, none⟩ = some kv := by simp [World.cell?, h6.kbox]
 have cC := q1m e dv' rv' hi;have hone := evCells_one (e := e) hd6.one hr6.one;have hcE : CellsAt w6 b0 0 (q1r e dv' rv') := CellsAt.whole hB6
 have hbase : base ≤ b0 := by have := HH.out.le; omega
 have hIn : ∀ k, b0 < k → k < w6.heap.size → Inn (fun k => dv.ownBlock = some k) base kv w6 k := fun k h1 h2 => ⟨by omega, h2, fun e => by have := (HH.out.kept.lt e).2; omega, fun e => by have := (Gat.lt HH.out.dots e).2; omega⟩
 have hEv : EvR true w6 (Inn (fun k => dv.ownBlock = some k) base kv w6) (q1r e dv' rv') e := ⟨dv', rv', rfl, hi, hd6.mono (fun k hk => hIn k hk.1 (by have := hk.2; omega)) (fun _ _ h => h), hr6.mono (fun k hk => hIn k hk.1 (by have := hk.2; omega)) (fun _ _ h => h), hsz1, hsz2⟩
 have HEV := hid hEv;have H6 := hid h6;obtain ⟨ad, cap, hkv⟩ := HKV.out;have HK2 := hid hkv;rw [hkv] at hcK
 clear hIn hd6 hr6 hd5 hr5 hd4 hr4 hB6 hm5 hm6 hS hd1 hr1 hA hB1 h6 hEv hkv cA HCA;go_upto_region 2 with (fail);refine wpR [1, 1, 1, 1, 1] (by rfl) (by rfl) ?_;simp only [zz2]
 refine wpX rfl (q0d 72 _ (by rfl) kb 0 (by rfl) _ hcK _ underlying72 rfl) trivial ?_;try simp only [nmz]
 refine wpX rfl (q0l 115 _ (by rfl) b0 0 (by rfl) (q1r e dv' rv') hcE _ underlying115 rfl 39 (by kernel_rfl) cC.size) trivial ?_;try simp only [nmz]
 refine wpDo rfl ?_
 refine q1i 72 115 _ (.agg (q1r e dv' rv')) evZero 39 (by rfl) (by rfl) underlying72 (by kernel_rfl) (by omega) (by omega) cC.size (fun w7 hB7 hm7 hs7 => ?_)
 replace hB7 : w7.heap[w6.heap.size]? = some (.cells (q1r e dv' rv') 115 (0, 0)) := hB7;have h7 := H6.out.keep0 hm7
 have hE7 : EvR true w7 (Inn (fun k => dv.ownBlock = some k) base kv w7) (q1r e dv' rv') e := (HEV.out.keep0 hm7).mono fun k hk => ⟨hk.1, Nat.lt_of_lt_of_le hk.2.1 hm7.size, hk.2.2⟩
 try simp only [nmz]
 refine wpDo rfl ?_;refine wp_evs _ _ (by rfl) (v := kv) (by rw [HK2.out]; rfl) h7.kept w6.heap.size _ e (by rfl) hB7 hE7 (by omega) h7.le (fun v8 w8 hg8 hv8 hm8 => ?_)
 have hd8 := hm8.obj (fun e => by have := (h7.kept.lt e).1; have := h7.dblt; omega) h7.dbox
 have hk8 := hm8.obj (fun e => by have := (h7.kept.lt e).1; have := h7.kblt; omega) h7.kbox;have hD8 : DotGs base w8 dv ld := Gat.keep h7.dots hm8 (fun q hq hk => h7.apart q hk hq)
 have hap8 : ∀ q, v8.ownBlock = some q → dv.ownBlock ≠ some q := fun q hq e => by
  rcases hv8 with hv | hv
  · exact h7.apart q (hv ▸ hq) e
  · rw [hv] at hq; cases hq; have := (Gat.lt h7.dots e).2; omega
 have hm08 : Mod (fun k => k = kb ∨ k = db ∨ base ≤ k) w w8 := ((hm06.trans0 hm7).mono (fun _ _ h => h.elim)).trans hm8 (fun k _ e => .inr (.inr (h7.kept.lt e).1))
 have hle8 := Nat.le_trans h7.le hm8.size;try simp only [nmz]
 refine wpDo rfl ?_;refine q1g 72 _ _ kb 0 v8 (by rfl) (by rfl) (by rfl) hg8.one (by kernel_rfl) _ _ hk8 (by simp) (fun w9 hB9 hm9 => ?_)
 replace hB9 : w9.heap[kb]? = some (.cells #[v8] 72 (0, 0)) := hB9
 have HF : Hid (TmR base kb db (lk ++ [e]) ld w (.returned (.tuple #[])) w9) := hid ⟨rfl, ⟨v8, dv, hB9, hm9.objB (Ne.symm h7.ne) hd8, hg8.keep hm9 (fun k hk e => by have e : k = kb := e; have := (hg8.lt hk).1; have := h7.kblt; omega) (fun k hk e => by have e : k = kb := e; have := hk.1; have := h7.kblt; omega), Gat.keep hD8 hm9 (fun k hk e => by have e : k = kb := e; have := (Gat.lt hD8 hk).1; have := h7.kblt; omega), hap8, h7.kblt, h7.dblt, h7.ne, Nat.le_trans hle8 hm9.size⟩, hm08.trans hm9 (fun k _ e => .inl e)⟩
 try simp only [nmz]
 refine q0b ?_;clear hg8 hD8 hap8 hd8 hk8 hm08 hm9 hB9 h7 hE7 hm7 hm8 hB7 hv8 hle8 hcK hcE;go_wp2
 go_end0
 exact HF.out
end Go.Proofs.YtjeonjoifjbohaaGreat
namespace Go.Proofs.YtjeonjoifjbohaaGreat
open Go.RowKit Go.Proofs.Tryz Go.Lib
def TmRel (w0 : World) (base kb db : Nat) (st : List Int) (l : List Evt) (i : Value) (w : World) : Prop :=
 ∃ k : Nat, k ≤ l.length ∧ i = .int .i64 k ∧ TmIn base kb db (keptE st (l.take k)) (goneE st (l.take k)) w ∧ Mod (fun k => k = kb ∨ k = db ∨ base ≤ k) w0 w
theorem keptE_len (st : List Int) (l : List Evt) : (keptE st l).length ≤ l.length := List.length_filter_le _ _
theorem goneE_len (st : List Int) (l : List Evt) : (goneE st l).length ≤ l.length := by unfold goneE; rw [List.length_map]; exact List.length_filter_le _ _
def FnV (f b : Nat) : Value := .func (.func f) #[] #[.pointer (some ⟨b, 0, none⟩)]
theorem swParted_any {own own' own2 : Bool} {E G G2 : Nat → Prop} {w : World} {lo base kb db sb : Nat} {v sv : Value} {st : List Int} {l : List Evt} (hl : Sl own w E 39 (EvR own' w G) v l) (hE : ∀ k, E k → k < lo) (hG : ∀ k, G k → k < lo)
 (hs : w.heap[sb]? = some (.cells #[sv] 64 (0, 0))) (hst : Sl own2 w G2 1 IntC sv st) (hG2 : ∀ k, G2 k → k < lo) (hlk : lo ≤ kb) (hld : lo ≤ db) (hsk : sb ≠ kb) (hsd : sb ≠ db) (hsb : sb < base) (h0 : TmIn base kb db [] [] w) (hlen : l.length ≤ 10000) (hok : ∀ e ∈ l, EvOk e) :
 Calls prog 132 #[v, FnV 133 sb, FnV 128 kb, FnV 131 db] w (TmR base kb db (keptE st l) (goneE st l) w) := by
 obtain ⟨ad, cap, rfl, hlm, -⟩ := Sl.at hl;have hlb : lo ≤ base := by obtain ⟨kv, dv, h⟩ := h0; have := h.kblt; omega
 have HL := hid hl;have HST := hid hst;have HOK := hid hok
 have HR0 : Hid (TmRel w base kb db st l (.int .i64 (0 : Nat)) w) := hid ⟨0, Nat.zero_le _, rfl, by rw [List.take_zero]; exact h0, Mod.refl _ _⟩;clear hl hst hok h0;unfold FnV
 go_enter func132, ntmps132;go_wp2
 go_loopw [13] (TmRel w base kb db st l) (fun i _ => l.length - (intOf i).toNat)
 case atStart => exact HR0.out
 case round =>
  rename World => wr
  obtain ⟨k, hk, rfl, hTm, hmr⟩ := hrel;have hHm := hid hmr
  by_cases hlt : k < l.length
  · have hz : (k : Int) < (l.length : Nat) := by omega
    have hlr := HL.out.keep hmr (fun k hk e => by have := hE k hk; omega) (fun _ _ h => h.keep hmr (fun k hk e => by have := hG k hk; omega));obtain ⟨_, _, hae, -, hat⟩ := hlr.at
    injection hae with hae1 hae2 hae3;subst hae1 hae3;obtain ⟨b, off, rfl, -, -, hcc⟩ := hat k hlt;obtain ⟨cs, hcs, hev, hcA⟩ := hcc k hlt
    have hok := HOK.out _ (List.getElem_mem hlt);have hks := keptE_snoc st (l.take k) l[k];have hgs := goneE_snoc st (l.take k) l[k]
    rw [← List.take_succ_eq_append_getElem hlt] at hks hgs;have hlk1 := keptE_len st (l.take k);have hlg1 := goneE_len st (l.take k);rw [List.length_take] at hlk1 hlg1
    generalize l[k] = ev at *;have hsr := hmr.obj (show ¬ (sb = kb ∨ sb = db ∨ base ≤ sb) by omega) hs
    have hstr := HST.out.keep hmr (fun k hk e => by have := hG2 k hk; omega) (fun _ _ h => h);have HTM := hid hTm;have HEV := hid hev;have HSL := hid hstr
    have h1c : ∀ c ∈ cs, c.oneCell' = true := hev.one;have HKS := hid hks;have HGS := hid hgs;clear hlr hat hcc hae2 hTm hev hstr hmr hks hgs;go_upto_region 2 with (fail)
    refine wpR [3, 1, 1, 1] (by rfl) (by rfl) ?_;simp only [zz2];refine q1d _ _ _ _ _ _ _ _ _ rfl rfl rfl rfl underlying72 (n := 39) (by kernel_rfl) hlt ?_;simp only [nmz]
    refine wpX rfl (q0l 115 _ (by rfl) b (off + k * 39) (by rfl) cs hcA _ underlying115 rfl 39 (by kernel_rfl) hcs) trivial ?_;try simp only [nmz]
    refine wpDo rfl ?_;refine q0z 115 _ (by rfl) zeroEvV (fun w2 hB2 hm2 hs2 => ?_)
    replace hB2 : w2.heap[wr.heap.size]? = some (.cells (q1r evt0 (.slice none 0 0) (.slice none 0 0)) 115 (0, 0)) := hB2;try simp only [nmz]
    refine wpDo rfl ?_
    refine q0p 115 _ _ wr.heap.size 0 cs (by rfl) (by rfl) (by rfl) h1c 39 (by kernel_rfl) hcs _ _ hB2 (by rw [hcs, (q1m _ _ _ (by simp [evt0])).size]; omega) (fun w3 hB3 hm3 => ?_)
    rw [q0k (by rw [hcs, (q1m _ _ _ (by simp [evt0])).size])] at hB3;try simp only [nmz]
    refine q0b ?_;have hmr3 : Mod NoB wr w3 := hm2.transB hm3 (Nat.le_refl _);have hca3 : CellsAt w3 wr.heap.size 0 cs := CellsAt.whole hB3
    have htest := swTombs3_any (hmr3.obj id hsr) (HSL.out.keep0 hmr3) (HEV.out.keep0 hmr3);have hrb := hmr3.size
    have hb9 : base ≤ wr.heap.size := by obtain ⟨kv, dv, h⟩ := HTM.out; exact h.le
    obtain ⟨x, hx⟩ : ∃ x, hasV st ev.r ev.n = x := ⟨_, rfl⟩;rw [hx] at htest;have HX := hid hx;clear hx hcA hm2 hm3 hB2 hs2;generalize hb7 : wr.heap.size = b7 at *
    go_upto_region 4 with (fail);refine wpR [3, 1, 1] (by rfl) (by rfl) ?_;simp only [zz2];refine q0a _ rfl rfl ?_;simp only [nmz]
    refine wpX rfl (q0l 115 _ (by rfl) b7 0 (by rfl) cs hca3 _ underlying115 rfl 39 (by kernel_rfl) hcs) trivial ?_;try simp only [nmz]
    refine wpDo rfl ?_;refine q0j (run_clos _ _ _ 133 #[.pointer (some ⟨sb, 0, none⟩)] (by rfl) (by rfl) (.agg cs) (by rfl) (enters_of func133 (by kernel_rfl) rfl)) htest ?_
    rintro e w4 ⟨rfl, hm4⟩;refine ⟨_, rfl, ?_⟩;try simp only [nmz]
    refine q0b ?_;have hmr4 := hmr3.trans0 hm4;have hca4 : CellsAt w4 b7 0 cs := CellsAt.whole (hm4.obj id hB3);have hev4 := HEV.out.keep0 hmr4;clear htest hm4 hB3 hca3 hmr3
    obtain ⟨kv, dv, htm⟩ := HTM.out;have htm4 := htm.keep0 hmr4
    cases x with
    | true =>
     have hcall := swTombs2_any htm4 hev4 (by omega);go_upto_region 6 with (fail);refine wpR [3, 1, 1] (by rfl) (by rfl) ?_;simp only [zz2];refine q0a _ rfl rfl ?_
     simp only [nmz];refine wpX rfl (q0l 115 _ (by rfl) b7 0 (by rfl) cs hca4 _ underlying115 rfl 39 (by kernel_rfl) hcs) trivial ?_;try simp only [nmz]
     refine wpDo rfl ?_;refine q0j (run_clos _ _ _ 131 #[.pointer (some ⟨db, 0, none⟩)] (by rfl) (by rfl) (.agg cs) (by rfl) (enters_of func131 (by kernel_rfl) rfl)) hcall ?_
     rintro e w5 ⟨rfl, htm5, hm5⟩
     have HR : Hid (TmRel w base kb db st l (.int .i64 ((k + 1 : Nat) : Int)) w5) := hid ⟨k + 1, by omega, rfl, by rw [HKS.out, HGS.out, HX.out, if_pos rfl, if_pos rfl, List.append_nil]; exact htm5, (hHm.out.trans hmr4 (fun _ _ h => h.elim)).trans hm5 (fun _ _ h => h)⟩
     refine ⟨_, rfl, ?_⟩;try simp only [nmz]
     refine q0b ?_;clear hcall htm4 htm5 hm5 hmr4 htm hev4;go_wp2
     go_roundw
     case rel => exact HR.out
     case measure => simp [intOf]; omega
    | false =>
     have hcall := swTombs1_any htm4 hev4 hok (by omega);go_upto_region 6 with (fail);refine wpR [3, 1, 1] (by rfl) (by rfl) ?_;simp only [zz2];refine q0a _ rfl rfl ?_
     simp only [nmz];refine wpX rfl (q0l 115 _ (by rfl) b7 0 (by rfl) cs hca4 _ underlying115 rfl 39 (by kernel_rfl) hcs) trivial ?_;try simp only [nmz]
     refine wpDo rfl ?_;refine q0j (run_clos _ _ _ 128 #[.pointer (some ⟨kb, 0, none⟩)] (by rfl) (by rfl) (.agg cs) (by rfl) (enters_of func128 (by kernel_rfl) rfl)) hcall ?_
     rintro e w5 ⟨rfl, htm5, hm5⟩
     have HR : Hid (TmRel w base kb db st l (.int .i64 ((k + 1 : Nat) : Int)) w5) := hid ⟨k + 1, by omega, rfl, by rw [HKS.out, HGS.out, HX.out, if_neg (by simp), if_neg (by simp), List.append_nil]; exact htm5, (hHm.out.trans hmr4 (fun _ _ h => h.elim)).trans hm5 (fun _ _ h => h)⟩
     refine ⟨_, rfl, ?_⟩;try simp only [nmz]
     refine q0b ?_;clear hcall htm4 htm5 hm5 hmr4 htm hev4;go_wp2
     go_roundw
     case rel => exact HR.out
     case measure => simp [intOf]; omega
  · have hz : ¬ (k : Int) < (l.length : Nat) := by omega
    obtain rfl : k = l.length := by omega
    rw [List.take_length] at hTm;have HF : Hid (TmR base kb db (keptE st l) (goneE st l) w (.returned (.tuple #[])) wr) := hid ⟨rfl, hTm, hmr⟩;clear hTm hmr hHm;go_wp2
    go_end0
    exact HF.out
theorem run_loadVar1 {P : Program} {w : World} {ty : TypeId} {p : Addr} {v : Value} {d : TypeDesc} (hc : w.cell? p = some v) (hu : P.underlying ty = some d) (hd : (match d with | .struct _ | .array _ _ => true | _ => false) = false) : (loadVar ty p).run P w = .ok v w := by
 have hagg : (isAgg ty).run P w = .ok false w := by
  unfold isAgg;rw [Sem.run_bind, run_underlying hu w]
  cases d <;> simp_all
 simp only [loadVar, Sem.run_bind, hagg, Result.andThen_ok, Bool.false_eq_true, if_false]
 simp [load, Sem.run, hc]
theorem results_cell2 {P : Program} {fn : Func} {p q : Tmp} {ty tz : TypeId} (h : fn.results = #[.cell p ty, .cell q tz]) (tmps : Array Value) (w : World) (b1 b2 : Nat) (v1 v2 : Value) (d1 d2 : TypeDesc)
 (hp1 : tmps.getD p undef = .pointer (some ⟨b1, 0, none⟩)) (hc1 : w.cell? ⟨b1, 0, none⟩ = some v1) (hp2 : tmps.getD q undef = .pointer (some ⟨b2, 0, none⟩)) (hc2 : w.cell? ⟨b2, 0, none⟩ = some v2)
 (hu1 : P.underlying ty = some d1) (hd1 : (match d1 with | .struct _ | .array _ _ => true | _ => false) = false) (hu2 : P.underlying tz = some d2) (hd2 : (match d2 with | .struct _ | .array _ _ => true | _ => false) = false) :
 (results fn tmps).run P w = .ok (.tuple #[v1, v2]) w := by
 have e1 : tmps[p]?.getD undef = .pointer (some ⟨b1, 0, none⟩) := by simpa using hp1
 have e2 : tmps[q]?.getD undef = .pointer (some ⟨b2, 0, none⟩) := by simpa using hp2
 have r1 := run_loadVar1 hc1 hu1 hd1;have r2 := run_loadVar1 hc2 hu2 hd2
 simp [results, h, e1, e2, asAddr, r1, r2]
def TombR (w : World) (st : List Int) (l : List Evt) : Ending → World → Prop := fun e w' => Mod NoB w w' ∧ ∃ kv dv, e = .returned (.tuple #[kv, dv]) ∧ EvGs (fun k => dv.ownBlock = some k) w.heap.size w' kv (keptE st l) ∧ DotGs w.heap.size w' dv (goneE st l) ∧ ∀ q, kv.ownBlock = some q → dv.ownBlock ≠ some q
theorem swTombs_any {own own' own2 : Bool} {E G G2 : Nat → Prop} {w : World} {v sv : Value} {st : List Int} {l : List Evt} (hl : Sl own w E 39 (EvR own' w G) v l) (hE : ∀ k, E k → k < w.heap.size) (hG : ∀ k, G k → k < w.heap.size)
 (hst : Sl own2 w G2 1 IntC sv st) (hlen : l.length ≤ 10000) (hok : ∀ e ∈ l, EvOk e) :
 Calls prog 57 #[v, sv] w (TombR w st l) := by
 obtain ⟨ad, cap, rfl, hlm, -⟩ := Sl.at hl;have hst' := Sl.inside hst (by omega);obtain ⟨sad, scap, hsv, -, -⟩ := Sl.at hst;have hmf := q2m;have HL := hid hl
 have HST := hid hst';have HOK := hid hok;have HSV := hid hsv;clear hl hst hst' hok;go_enter func57, ntmps57;go_upto_region 0 with (fail);refine wpR [1, 1, 1] (by rfl) (by rfl) ?_
 simp only [zz2];refine wpDo rfl ?_;refine q2k 64 _ _ (by rfl) (by rfl) (fun w1 hB1 hm1 hs1 => ?_)
 replace hB1 : w1.heap[w.heap.size]? = some (.cells #[sv] 64 (0, 0)) := by rw [HSV.out] at hB1 ⊢; exact hB1
 try simp only [nmz]
 refine wpDo rfl ?_;refine q0z 72 (.slice none 0 0) (by rfl) (by kernel_rfl) (fun w2 hB2 hm2 hs2 => ?_)
 replace hB2 : w2.heap[w1.heap.size]? = some (.cells #[.slice none 0 0] 72 (0, 0)) := hB2;try simp only [nmz]
 refine wpDo rfl ?_;refine q0z 116 (.slice none 0 0) (by rfl) (by kernel_rfl) (fun w3 hB3 hm3 hs3 => ?_)
 replace hB3 : w3.heap[w2.heap.size]? = some (.cells #[.slice none 0 0] 116 (0, 0)) := hB3;try simp only [nmz]
 refine q0b ?_;have hm03 := (hm1.trans0 hm2).trans0 hm3;have hsb3 := (hm2.trans0 hm3).obj id hB1;have hkb3 := hm3.obj id hB2
 have h0 : TmIn w3.heap.size w1.heap.size w2.heap.size [] [] w3 := ⟨.slice none 0 0, .slice none 0 0, hkb3, hB3, EvGs.nil _ _ _, Gat.nil _ _ _ _ _, fun q e => by simp [Value.ownBlock] at e, by have := hm3.size; omega, hs3, by omega, Nat.le_refl _⟩
 have s1 := hm1.size;have s2 := hm2.size
 have hpart := swParted_any (lo := w.heap.size) (sb := w.heap.size) (SlEv.keep0 HL.out hm03) hE hG hsb3 (HST.out.keep0 hm03) (fun _ h => h) s1 (by omega) (by omega) (by omega) (by omega) h0 hlen HOK.out
 unfold FnV at hpart;generalize hbk : w1.heap.size = kb at *;generalize hbd : w2.heap.size = db at *;generalize hbs : w.heap.size = sb at *
 clear hB1 hB2 hB3 hm1 hm2 hm3 hsb3 hkb3 h0;go_upto_region 3 with (fail);refine wpR [3, 1, 3, 3, 1] (by rfl) (by rfl) ?_;simp only [zz2];refine q0a _ rfl rfl ?_
 simp only [nmz];refine wpX rfl (q3w 133 [.tmp 3] (by rfl) [.pointer (some ⟨sb, 0, none⟩)] (by rfl)) trivial ?_;refine q0a _ rfl rfl ?_;simp only [nmz]
 refine q0a _ rfl rfl ?_;simp only [nmz];refine wpDo rfl ?_
 refine q0j (q0m 132 [.tmp 10, .tmp 11, .tmp 12, .tmp 13] _ rfl _ func132 rfl (by kernel_rfl) [.slice ad l.length cap, .func (.func 133) #[] #[.pointer (some ⟨sb, 0, none⟩)], .func (.func 128) #[] #[.pointer (some ⟨kb, 0, none⟩)], .func (.func 131) #[] #[.pointer (some ⟨db, 0, none⟩)]] rfl _) (hpart) ?_
 rintro e w4 ⟨rfl, ⟨kv, dv, htm⟩, hm4⟩;refine ⟨_, rfl, ?_⟩;try simp only [nmz]
 refine q0b ?_;obtain ⟨⟨ead, ecap, hkv, -, -⟩, ⟨dad, dcap, hdv⟩⟩ := And.intro (Sl.at htm.kept.sl) (Gat.slice htm.dots);have HTM := hid htm;have HKV := hid hkv
 have HDV := hid hdv;have hm04 : Mod NoB w w4 := hm03.trans hm4 (fun k hk e => by omega);have hkd := htm.ne;have hkb4 : w4.drew.heap[kb]? = some (.cells #[kv] 72 (0, 0)) := htm.kbox
 have hdb4 : w4.drew.heap[db]? = some (.cells #[dv] 116 (0, 0)) := htm.dbox
 have hS : w4.drew.heap[kb]? = some (.cells #[kv] 72 (0, 0)) ∧ w4.drew.heap[db]? = some (.cells #[dv] 116 (0, 0)) ∧ Mod (fun k => k = kb ∨ k = db) w4 w4.drew := ⟨hkb4, hdb4, (Mod.refl _ _).drew⟩
 clear hpart htm hkb4 hdb4;go_upto_region 4 with (fail)
 refine q0s [(0, 0), (1, 0), (2, 1), (3, 1)] [] (fun w' => w'.heap[kb]? = some (.cells #[kv] 72 (0, 0)) ∧ w'.heap[db]? = some (.cells #[dv] 116 (0, 0)) ∧ Mod (fun k => k = kb ∨ k = db) w4 w') (by kernel_rfl) (by kernel_rfl) (by kernel_rfl) (by kernel_rfl) (fun _ _ _ _ hd h => ⟨hd.trans h.1, h.2⟩) hS ?_
 simp only [zz4];refine q0g rfl (fun w' hS => q0d 72 _ rfl kb 0 rfl kv (by simp [World.cell?, hS.1]) _ underlying72 rfl) ?_;simp only [nmz]
 refine q0g rfl (fun w' hS => q0d 116 _ rfl db 0 rfl dv (by simp [World.cell?, hS.2.1]) _ underlying116 rfl) ?_;simp only [nmz];refine q1b rfl (fun K hK => ?_)
 refine q1g 72 _ _ kb 0 kv (by rfl) (by rfl) (by rfl) HTM.out.kept.one (by kernel_rfl) _ _ hS.1 (by simp) (fun w5 hB5 hm5 => ?_)
 replace hS : w5.heap[kb]? = some (.cells #[kv] 72 (0, 0)) ∧ w5.heap[db]? = some (.cells #[dv] 116 (0, 0)) ∧ Mod (fun k => k = kb ∨ k = db) w4 w5 := ⟨hB5, hm5.objB (Ne.symm hkd) hS.2.1, hS.2.2.trans hm5 (fun k _ e => .inl e)⟩
 refine hK _ _ hS ?_;clear hK K hB5 hm5;try simp only [nmz]
 refine q1b rfl (fun K hK => ?_);refine q1g 116 _ _ db 0 dv (by rfl) (by rfl) (by rfl) (q3e HTM.out.dots) (by kernel_rfl) _ _ hS.2.1 (by simp) (fun w6 hB6 hm6 => ?_)
 replace hS : w6.heap[kb]? = some (.cells #[kv] 72 (0, 0)) ∧ w6.heap[db]? = some (.cells #[dv] 116 (0, 0)) ∧ Mod (fun k => k = kb ∨ k = db) w4 w6 := ⟨hm6.objB hkd hS.1, hB6, hS.2.2.trans hm6 (fun k _ e => .inr e)⟩
 refine hK _ _ hS ?_;clear hK K hB6 hm6;try simp only [nmz]
 refine q0b ?_;obtain ⟨hk6, hd6, hm46⟩ := hS;have hkc : w6.cell? ⟨kb, 0, none⟩ = some kv := by simp [World.cell?, hk6]
 have hdc : w6.cell? ⟨db, 0, none⟩ = some dv := by simp [World.cell?, hd6]
 have htm := HTM.out;have hb := htm.kblt;have hb' := htm.dblt
 have HF : Hid (TombR w st l (.returned (.tuple #[kv, dv])) w6) := hid ⟨hm04.trans hm46 (fun k hk e => by omega), kv, dv, rfl, (htm.kept.keep hm46 (fun k hk e => by have := (htm.kept.lt hk).1; omega) (fun k hk e => by have := hk.1; omega)).based (by omega), Gat.base (Gat.keep htm.dots hm46 (fun k hk e => by have := (Gat.lt htm.dots hk).1; omega)) (by omega), htm.apart⟩
 rw [HKV.out] at hkc;rw [HDV.out] at hdc;clear htm hk6 hd6 hm46 hm04 hm4;go_wp2
 refine bodyPost_ret (results_cell2 (P := prog) (ty := 72) (tz := 116) rfl _ _ kb db _ _ _ _ (by rfl) hkc (by rfl) hdc underlying72 rfl underlying116 rfl) rfl ?_;have h9 := HF.out
 rw [HKV.out, HDV.out] at h9;exact h9
end Go.Proofs.YtjeonjoifjbohaaGreat
namespace Go.Proofs.YtjeonjoifjbohaaGreat
open Go.RowKit Go.Shelf Go.Proofs.Tryz Go.Lib
theorem sl_oneB {α : Type} {w : World} {b : Nat} {cs : Array Value} {T : TypeId} {R : Array Value → α → Prop} {x : α} (h : w.heap[b]? = some (.cells cs T (0, 0))) (hR : R cs x) (n : Nat) (hn : cs.size = n) : Sl false w (fun k => k = b) n R (.slice (some ⟨b, 0, none⟩) 1 1) [x] := by
 refine ⟨some ⟨b, 0, none⟩, 1, rfl, Nat.le_refl _, by unfold maxLen; omega, fun _ => ⟨b, 0, rfl, rfl, fun e => (by cases e), fun i hi => ?_⟩⟩;have h0 : i = 0 := by simpa using hi
 subst h0;exact ⟨cs, hn, hR, by simpa using CellsAt.whole h⟩
theorem sl_twoB {α : Type} {w : World} {b : Nat} {c1 c2 : Array Value} {T : TypeId} {R : Array Value → α → Prop} {x y : α} (h : w.heap[b]? = some (.cells (c1 ++ c2) T (0, 0))) (h1 : R c1 x) (h2 : R c2 y) (n : Nat) (hn1 : c1.size = n) (hn2 : c2.size = n) : Sl false w (fun k => k = b) n R (.slice (some ⟨b, 0, none⟩) 2 2) [x, y] := by
 refine ⟨some ⟨b, 0, none⟩, 2, rfl, Nat.le_refl _, by unfold maxLen; omega, fun _ => ⟨b, 0, rfl, rfl, fun e => (by cases e), fun i hi => ?_⟩⟩;have hw := CellsAt.whole h
 match i, hi with
 | 0, _ => exact ⟨c1, hn1, h1, CellsAt.of_obj h fun j hj => by rw [Nat.zero_mul, Nat.zero_add, Array.getElem?_append_left hj]⟩
 | 1, _ => exact ⟨c2, hn2, h2, CellsAt.of_obj h fun j hj => by rw [Nat.one_mul, Nat.zero_add, Array.getElem?_append_right (by omega), hn1, Nat.add_sub_cancel_left]⟩
def evB : Evt := ⟨0, 0, [], 0, ⟨#[]⟩, ⟨#[]⟩, List.replicate 32 0, [idB]⟩
theorem ev_places : q3d prog 115 = some [(0, 2), (2, 1), (3, 1), (4, 1), (5, 1), (6, 32), (38, 1)] := by kernel_rfl
theorem built_evB (ad : Option Addr) (k c : Nat) : prog.built 115 [(6, .slice ad k c)] = some (q1r evB (.slice none 0 0) (.slice ad k c)) := by
 rw [q2g eventZ ev_places, q1w (off := 38) (size := 1) rfl (by rfl) (by rw [(q1m _ _ _ (by simp)).size]; omega), q3m]
 rfl
theorem built_evOne : prog.built 115 [(0, .agg #[.int .i64 1, .int .i64 1])] = some (q1r evOne (.slice none 0 0) (.slice none 0 0)) := by kernel_rfl
theorem built_evOther : prog.built 115 [(0, .agg #[.int .i64 2, .int .i64 1])] = some (q1r q2z (.slice none 0 0) (.slice none 0 0)) := by kernel_rfl
theorem built_dot11 : prog.built 113 [(0, .int .i64 1), (1, .int .i64 1)] = some #[.int .i64 1, .int .i64 1] := by kernel_rfl
theorem built_dot21 : prog.built 113 [(0, .int .i64 2), (1, .int .i64 1)] = some #[.int .i64 2, .int .i64 1] := by kernel_rfl
theorem ev_zs : (prog.info? 115).map (fun i => (i.zero, i.size)) = some (some evZero, 39) := by kernel_rfl
theorem evOne_r (w : World) (G : Nat → Prop) : EvR false w G (q1r evOne (.slice none 0 0) (.slice none 0 0)) evOne := ⟨_, _, rfl, by simp [evOne], Sl.nil _ _ _ _ _, Sl.nil _ _ _ _ _, by simp [evOne, ByteArray.size, maxLen], by simp [evOne, ByteArray.size, maxLen]⟩
theorem evOther_r (w : World) (G : Nat → Prop) : EvR false w G (q1r q2z (.slice none 0 0) (.slice none 0 0)) q2z := ⟨_, _, rfl, by simp [q2z], Sl.nil _ _ _ _ _, Sl.nil _ _ _ _ _, by simp [q2z, ByteArray.size, maxLen], by simp [q2z, ByteArray.size, maxLen]⟩
def KnMid (w : World) (s : Value) (wx : World) : Prop := Mod NoB w wx ∧ GatI w.heap.size wx s [idA, idB]
theorem swMarks_of {w : World} {h : House} {l : LinkL} {Ft : Nat → Prop} (H : HsAt w h cAB l Ft) {vv rv ev : Value} {reps : List RepX} (h1 : vv.oneCell' = true) (hv : RepsAt w rv reps) (hr : rootsX reps = [idA]) (hev : Sl false w AnyB 39 (EvR false w AnyB) ev [evB]) :
 Calls prog 48 #[.pointer (some ⟨h.bs, 0, none⟩), .agg #[vv, rv], ev] w (MarksR w cAB [idA] [evB]) := by
 obtain ⟨bl, F, k1, k2, _⟩ := H;have h9 := swMarks_any (l := [evB]) k1 (by rw [k2]; simp [cAB]) h1 hv (by rw [hr]; simp) hev (by simp [refsL, evB]);rw [k2, hr] at h9;exact h9
theorem sweep_one {w : World} {h : House} {c : BlobL} {l : LinkL} {Ft : Nat → Prop} (H : HsAt w h c l Ft) {b qb : Nat} {x : List UInt8} (hx : x.length = 32) (hB : w.heap[b]? = some (.cells (q0c x) 24 (0, 0))) (hb : ¬ Ft b) (hq : h.q = .pointer (some ⟨qb, 0, none⟩)) :
 Calls prog 53 #[.pointer (some ⟨h.bs, 0, none⟩), .pointer (some ⟨qb, 0, none⟩), .slice (some ⟨b, 0, none⟩) 1 1] w (SwpR w h Ft c l [x]) := by
 have h9 := swSweep_any H (sl_oneB (R := IdC) hB ⟨rfl, hx⟩ 32 (by rw [q0h, hx])) (fun k e hf => hb (by have e : k = b := e; rw [← e]; exact hf));rw [hq] at h9;exact h9
theorem sweepKnown_walk (w : World) : Calls prog 10 #[] w (RetM (.bool true) w) := by
 have hA : (q0c idA).size = 32 := by rw [q0h, q3h]
 have hB : (q0c idB).size = 32 := by rw [q0h, idB_len]
 have hz32 : (q0c (List.replicate 32 0)).size = 32 := idZ_size;go_enter func10, ntmps10;go_upto_region 1 with (fail)
 refine wpR [1, 3, 3, 3, 3, 1, 1, 1, 1, 1, 1] (by rfl) (by rfl) ?_;simp only [zz2];refine wpDo rfl ?_
 refine q0j (q0m 55 [] _ rfl _ func55 rfl (by kernel_rfl) [] rfl _) (two_any _) ?_;rintro e w1 ⟨hm1, lv, kv, he1, hl1, hk1⟩;subst he1;refine ⟨_, rfl, ?_⟩
 refine q0a _ rfl rfl ?_;simp only [nmz]
 refine q0o rfl (fun w' => q0q _ 0 #[.agg (q0c idA), .agg (q0c idB), .agg #[.int .i64 31, lv, kv]] rfl rfl (.agg (q0c idA)) rfl) ?_;simp only [nmz]
 refine q0o rfl (fun w' => q0q _ 1 #[.agg (q0c idA), .agg (q0c idB), .agg #[.int .i64 31, lv, kv]] rfl rfl (.agg (q0c idB)) rfl) ?_;simp only [nmz]
 refine q0o rfl (fun w' => q0q _ 2 #[.agg (q0c idA), .agg (q0c idB), .agg #[.int .i64 31, lv, kv]] rfl rfl (.agg #[.int .i64 31, lv, kv]) rfl) ?_
 simp only [nmz];refine wpDo rfl ?_;refine q0z 24 _ (by rfl) idZ (fun w2 hB2 hm2 hs2 => ?_)
 replace hB2 : w2.heap[w1.heap.size]? = some (.cells (q0c (List.replicate 32 0)) 24 (0, 0)) := hB2;try simp only [nmz]
 refine wpDo rfl ?_;refine q0z 24 _ (by rfl) idZ (fun w3 hB3 hm3 hs3 => ?_)
 replace hB3 : w3.heap[w2.heap.size]? = some (.cells (q0c (List.replicate 32 0)) 24 (0, 0)) := hB3;try simp only [nmz]
 refine wpDo rfl ?_;refine q0z 68 _ (by rfl) houseZ (fun w4 hB4 hm4 hs4 => ?_)
 replace hB4 : w4.heap[w3.heap.size]? = some (.cells #[.int .i64 0, .slice none 0 0, .slice none 0 0] 68 (0, 0)) := hB4;have hX1 := (hm3.trans0 hm4).obj id hB2;try simp only [nmz]
 refine wpDo rfl ?_
 refine q0p 24 _ _ w1.heap.size 0 (q0c idA) (by rfl) (by rfl) (by rfl) (q0v _) 32 (by kernel_rfl) hA _ _ hX1 (by rw [hA, hz32]; omega) (fun w5 hB5 hm5 => ?_)
 rw [q0k (by rw [hA, hz32])] at hB5;have hX2 := hm5.objB (b := w2.heap.size) (by omega) (hm4.obj id hB3);have hX3 := hm5.objB (b := w3.heap.size) (by omega) hB4
 try simp only [nmz]
 refine wpDo rfl ?_
 refine q0p 24 _ _ w2.heap.size 0 (q0c idB) (by rfl) (by rfl) (by rfl) (q0v _) 32 (by kernel_rfl) hB _ _ hX2 (by rw [hB, hz32]; omega) (fun w6 hB6 hm6 => ?_)
 rw [q0k (by rw [hB, hz32])] at hB6;have hY1 := hm6.objB (b := w1.heap.size) (by omega) hB5;have hY3 := hm6.objB (b := w3.heap.size) (by omega) hX3;try simp only [nmz]
 refine wpDo rfl ?_
 refine q0p 68 _ _ w3.heap.size 0 #[.int .i64 31, lv, kv] (by rfl) (by rfl) (by rfl) (by intro c hc; simp at hc; rcases hc with rfl | rfl | rfl <;> first | rfl | exact Sl.one hl1 | exact Sl.one hk1) 3 (by kernel_rfl) rfl _ _ hY3 (by simp) (fun w7 hB7 hm7 => ?_)
 rw [q0k (by simp)] at hB7;have hZ1 := hm7.objB (b := w1.heap.size) (by omega) hY1;have hZ2 := hm7.objB (b := w2.heap.size) (by omega) hB6;try simp only [nmz]
 refine q0b ?_;have s1 := hm2.size;have s2 := hm3.size;have s3 := hm4.size
 have hm17 : Mod NoB w1 w7 := ((((hm2.trans0 hm3).trans0 hm4).transB hm5 (Nat.le_refl _)).transB hm6 s1).transB hm7 (by omega);have hl7 := lsAt_keep0 hl1 hm17
 have hk7 := hk1.keep0 hm17;have hm07 := hm1.trans0 hm17
 have hbl := built_any (w := w7) (wd := 31) (by constructor <;> omega) hl7 hk7 (by simp) (by simp) (by simp) (by intro x hx; simp at hx; rcases hx with rfl | rfl <;> constructor <;> omega)
 rw [wid31] at hbl;have b17 : w1.heap.size < w7.heap.size := (Array.getElem?_eq_some_iff.1 hZ1).1;have b27 : w2.heap.size < w7.heap.size := (Array.getElem?_eq_some_iff.1 hZ2).1
 generalize hb1 : w1.heap.size = b1 at *;generalize hb2 : w2.heap.size = b2 at *;generalize hb3 : w3.heap.size = b3 at *
 clear hm1 hm2 hm3 hm4 hm5 hm6 hm7 hB2 hB3 hB4 hB5 hB6 hX1 hX2 hX3 hY1 hY3 hm17 hl1 hk1 hs2 hs3 hs4;have hcH : CellsAt w7 b3 0 #[.int .i64 31, lv, kv] := CellsAt.whole hB7
 go_upto_region 2 with (fail);refine wpR [1, 1, 3, 3, 3, 3, 3] (by rfl) (by rfl) ?_;simp only [zz2]
 refine wpX rfl (q0l 68 _ (by rfl) b3 0 (by rfl) #[.int .i64 31, lv, kv] hcH _ underlying68 rfl 3 (by kernel_rfl) rfl) trivial ?_;try simp only [nmz]
 refine wpDo rfl ?_;refine q0j (q0m 43 [.tmp 24] _ rfl _ func43 rfl (by kernel_rfl) [.agg #[.int .i64 31, lv, kv]] rfl _) (hbl) ?_
 rintro e w8 ⟨h, hhw, hhr, hhl, ⟨qb, hhq⟩, he8, Ft, hat, hFn, hm78⟩;subst he8;rw [hhq];refine ⟨_, rfl, ?_⟩;refine q0a _ rfl rfl ?_;simp only [nmz]
 refine q0o rfl (fun w' => q0q _ 0 #[.pointer (some ⟨h.bs, 0, none⟩), .pointer (some ⟨qb, 0, none⟩)] rfl rfl (.pointer (some ⟨h.bs, 0, none⟩)) rfl) ?_;simp only [nmz]
 refine q0o rfl (fun w' => q0q _ 1 #[.pointer (some ⟨h.bs, 0, none⟩), .pointer (some ⟨qb, 0, none⟩)] rfl rfl (.pointer (some ⟨qb, 0, none⟩)) rfl) ?_;simp only [nmz]
 refine q0e _ rfl rfl ?_;simp only [nmz];refine q0e _ rfl rfl ?_;simp only [nmz];refine q0b ?_;rw [cOf_AB, lOf_AB] at hat
 have hI1 : CellsAt w8 b1 0 (q0c idA) := CellsAt.whole (hm78.obj id hZ1);have hI2 : CellsAt w8 b2 0 (q0c idB) := CellsAt.whole (hm78.obj id hZ2)
 have hm08 := hm07.trans0 hm78;clear hbl hl7 hk7 hcH hB7 hZ1 hZ2;go_upto_region 5 with (fail);refine wpR [1, 1, 1, 3] (by rfl) (by rfl) ?_;simp only [zz2]
 refine wpX rfl (q0l 24 _ (by rfl) b1 0 (by rfl) (q0c idA) hI1 _ underlying24 rfl 32 (by kernel_rfl) hA) trivial ?_;try simp only [nmz]
 refine wpX rfl (q0l 24 _ (by rfl) b2 0 (by rfl) (q0c idB) hI2 _ underlying24 rfl 32 (by kernel_rfl) hB) trivial ?_;try simp only [nmz]
 refine wpDo rfl ?_
 refine q2r 25 24 2 [(0, _), (1, _)] [.agg (q0c idA), .agg (q0c idB)] (.agg (q0c (List.replicate 32 0))) 32 (by rfl) (by rfl) (by rfl) underlying25 id_zs (by omega) (by omega) (by intro v hv; simp at hv; rcases hv with rfl | rfl <;> assumption) (fun w9 hB9 hm9 hs9 => ?_)
 replace hB9 : w9.heap[w8.heap.size]? = some (.cells (q0c idA ++ q0c idB) 24 (0, 0)) := by rw [hB9]; simp [Value.cells]
 refine q0e _ rfl rfl ?_;simp only [nmz];refine q0b ?_;have hBoth := sl_twoB (R := IdC) hB9 ⟨rfl, q3h⟩ ⟨rfl, idB_len⟩ 32 hA hB;have hI1 := hI1.keep hm9 id
 have hI2 := hI2.keep hm9 id;have hcmp := shaCompare_any idA idB q3h idB_len w9;rw [cmp_AB] at hcmp;have hat9 := hat.keep0 hm9;have hlt8' := hat.lt;have hm09 := hm08.trans0 hm9
 have s89 : w8.heap.size < w9.heap.size := hs9;generalize hb6 : w8.heap.size = b6 at *;clear hat hB9 hm9 hs9;go_upto_region 6 with (fail)
 refine wpR [1, 1, 1, 3] (by rfl) (by rfl) ?_;simp only [zz2]
 refine wpX rfl (q0l 24 _ (by rfl) b1 0 (by rfl) (q0c idA) hI1 _ underlying24 rfl 32 (by kernel_rfl) hA) trivial ?_;try simp only [nmz]
 refine wpX rfl (q0l 24 _ (by rfl) b2 0 (by rfl) (q0c idB) hI2 _ underlying24 rfl 32 (by kernel_rfl) hB) trivial ?_;try simp only [nmz]
 refine wpDo rfl ?_;refine q0j (q0m 35 [.tmp 37, .tmp 38] _ rfl _ func35 rfl (by kernel_rfl) [.agg (q0c idA), .agg (q0c idB)] rfl _) (hcmp) ?_
 rintro e wa ⟨rfl, hga⟩;have hma : Mod NoB w9 wa := hga.mod;refine ⟨_, rfl, ?_⟩;try simp only [nmz]
 refine q0o (v := ?_) rfl (fun w' => ?_) ?_; rotate_left; · (go_simp; try with_reducible rfl)
 simp only [nmz];refine q0b ?_;have hata := hat9.keep0 hma;have hI1 := hI1.keep hma id;have hI2 := hI2.keep hma id;have hBoth := hBoth.keep0 hma;have hm0a := hm09.trans0 hma
 have sa := hma.size;clear hat9 hga hcmp;go_upto_region 8 with (fail)
 go_cut [7] (fun s wx => KnMid wa s wx)
 case first =>
  have hS : Mod NoB wa wa.drew := (Mod.refl _ _).drew;have hT : Mod NoB wa wa.drew := (Mod.refl _ _).drew
  refine q4a [(0, 3), (1, 0), (3, 0)] 4 [(7, 1), (8, 3)] [] (fun w' => Mod NoB wa w') #[true, true, false, true, false, false, false, false, false] (by kernel_rfl) (by kernel_rfl) (by kernel_rfl) (by kernel_rfl) (by kernel_rfl) (fun _ _ _ _ hd h => ⟨hd.trans h.1, h.2⟩) hS ?_
  simp only [zz4];refine q0a _ rfl rfl ?_;simp only [nmz]
  refine q0g rfl (fun w' hS => q0l 24 _ (by rfl) b1 0 (by rfl) (q0c idA) (hI1.keep hS id) _ underlying24 rfl 32 (by kernel_rfl) hA) ?_;simp only [nmz]
  refine q0g rfl (fun w' hS => q0l 24 _ (by rfl) b2 0 (by rfl) (q0c idB) (hI2.keep hS id) _ underlying24 rfl 32 (by kernel_rfl) hB) ?_;simp only [nmz]
  refine q0b ?_;refine q0r [2, 4] (by kernel_rfl) ?_;simp only [zz3, false_implies, implies_true];refine ⟨?_, ?_⟩
  · intro K hK
    simp only [zz5];refine q0j (q0m 56 [.tmp 45] _ rfl _ func56 rfl (by kernel_rfl) [.agg (q0c idA)] rfl _) (tagged_any idA q3h _) ?_
    rintro e we ⟨hme, tv, tr, treps, rfl, htv, htr, htroots⟩
    try replace hX := hX.keep0 hme
    try replace hE := SlEv.keep0 hE hme
    replace hT := hT.trans0 hme;clear hme;refine ⟨_, rfl, hK _ _ hT ?_⟩;clear hK K;try simp only [nmz]
    refine q0r [4] (by kernel_rfl) ?_;simp only [zz3, false_implies, implies_true];intro K hK;simp only [zz5]
    refine q1l 25 24 _ (.agg (q0c idB)) (.agg (q0c (List.replicate 32 0))) 32 (by rfl) (by rfl) underlying25 id_zs (by omega) (by omega) hB (fun bX wg hBg hmg => ?_)
    have hX : Sl false wg AnyB 32 IdC (.slice (some ⟨bX, 0, none⟩) 1 1) [idB] := q4m hBg ⟨rfl, idB_len⟩ 32 hB
    try replace htr := q3g htr (KC.of0 hmg)
    replace hT := hT.trans0 hmg;clear hmg hBg;refine hK _ _ hT ?_;clear hK K;try simp only [nmz]
    refine q0r [5] (by kernel_rfl) ?_;simp only [zz3, false_implies, implies_true];intro K hK;simp only [zz5]
    refine q1c (q0x 115 [(6, _)] [(6, .slice (some ⟨bX, 0, none⟩) 1 1)] _ (by rfl) (by rfl) (built_evB _ 1 1)) ?_;refine hK _ _ hT ?_;clear hK K;try simp only [nmz]
    refine q0r [6] (by kernel_rfl) ?_;simp only [zz3, false_implies, implies_true];intro K hK;simp only [zz5]
    refine q1l 72 115 _ (.agg (q1r evB (.slice none 0 0) (.slice (some ⟨bX, 0, none⟩) 1 1))) evZero 39 (by rfl) (by rfl) underlying72 ev_zs (by omega) (by omega) (q1m evB _ _ (by simp [evB])).size (fun bE wh hBh hmh => ?_)
    have hE : Sl false wh AnyB 39 (EvR false wh AnyB) (.slice (some ⟨bE, 0, none⟩) 1 1) [evB] := q4m hBh ⟨_, _, rfl, by simp [evB], Sl.nil _ _ _ _ _, hX.keep0 hmh, by simp [evB, ByteArray.size, maxLen], by simp [evB, ByteArray.size, maxLen]⟩ 39 (q1m evB _ _ (by simp [evB])).size
    try replace htr := q3g htr (KC.of0 hmh)
    replace hT := hT.trans0 hmh;clear hmh hBh hX;refine hK _ _ hT ?_;clear hK K;try simp only [nmz]
    refine q1f ?_;try simp only [zz4]
    try simp only [nmz]
    refine q1b rfl (fun K hK => ?_);have hmk := swMarks_of (hata.keep0 hT) htv htr htroots hE
    refine q0j (q0m 48 [.tmp 44, .tmp 46, .tmp 50] _ rfl _ func48 rfl (by kernel_rfl) [.pointer (some ⟨h.bs, 0, none⟩), .agg #[tv, tr], .slice (some ⟨bE, 0, none⟩) 1 1] rfl _) hmk ?_
    rintro e wi ⟨hmi, vM, out, rfl, hgi, hMo, hli⟩;obtain rfl := marks_AB hMo rfl;have HF : Hid (KnMid wa vM wi) := hid ⟨hT.trans0 hmi, hgi.base hT.size⟩;replace hT := hT.trans0 hmi
    refine ⟨_, rfl, hK _ _ hT ?_⟩;clear hK K hmk hmi hgi hMo hli;refine q0e _ rfl rfl ?_;simp only [nmz];refine q0b ?_;go_wp2
    go_meet
    case rel => exact HF.out
  · intro K hK
    simp only [zz5]
    refine q1l 25 24 _ (.agg (q0c idB)) (.agg (q0c (List.replicate 32 0))) 32 (by rfl) (by rfl) underlying25 id_zs (by omega) (by omega) hB (fun bX wg hBg hmg => ?_)
    have hX : Sl false wg AnyB 32 IdC (.slice (some ⟨bX, 0, none⟩) 1 1) [idB] := q4m hBg ⟨rfl, idB_len⟩ 32 hB
    try replace htr := q3g htr (KC.of0 hmg)
    replace hT := hT.trans0 hmg;clear hmg hBg;refine hK _ _ hT ?_;clear hK K;try simp only [nmz]
    refine q0r [2, 5] (by kernel_rfl) ?_;simp only [zz3, false_implies, implies_true];refine ⟨?_, ?_⟩
    · intro K hK
      simp only [zz5];refine q0j (q0m 56 [.tmp 45] _ rfl _ func56 rfl (by kernel_rfl) [.agg (q0c idA)] rfl _) (tagged_any idA q3h _) ?_
      rintro e we ⟨hme, tv, tr, treps, rfl, htv, htr, htroots⟩
      try replace hX := hX.keep0 hme
      try replace hE := SlEv.keep0 hE hme
      replace hT := hT.trans0 hme;clear hme;refine ⟨_, rfl, hK _ _ hT ?_⟩;clear hK K;try simp only [nmz]
      refine q0r [5] (by kernel_rfl) ?_;simp only [zz3, false_implies, implies_true];intro K hK;simp only [zz5]
      refine q1c (q0x 115 [(6, _)] [(6, .slice (some ⟨bX, 0, none⟩) 1 1)] _ (by rfl) (by rfl) (built_evB _ 1 1)) ?_;refine hK _ _ hT ?_;clear hK K;try simp only [nmz]
      refine q0r [6] (by kernel_rfl) ?_;simp only [zz3, false_implies, implies_true];intro K hK;simp only [zz5]
      refine q1l 72 115 _ (.agg (q1r evB (.slice none 0 0) (.slice (some ⟨bX, 0, none⟩) 1 1))) evZero 39 (by rfl) (by rfl) underlying72 ev_zs (by omega) (by omega) (q1m evB _ _ (by simp [evB])).size (fun bE wh hBh hmh => ?_)
      have hE : Sl false wh AnyB 39 (EvR false wh AnyB) (.slice (some ⟨bE, 0, none⟩) 1 1) [evB] := q4m hBh ⟨_, _, rfl, by simp [evB], Sl.nil _ _ _ _ _, hX.keep0 hmh, by simp [evB, ByteArray.size, maxLen], by simp [evB, ByteArray.size, maxLen]⟩ 39 (q1m evB _ _ (by simp [evB])).size
      try replace htr := q3g htr (KC.of0 hmh)
      replace hT := hT.trans0 hmh;clear hmh hBh hX;refine hK _ _ hT ?_;clear hK K;try simp only [nmz]
      refine q1f ?_;try simp only [zz4]
      try simp only [nmz]
      refine q1b rfl (fun K hK => ?_);have hmk := swMarks_of (hata.keep0 hT) htv htr htroots hE
      refine q0j (q0m 48 [.tmp 44, .tmp 46, .tmp 50] _ rfl _ func48 rfl (by kernel_rfl) [.pointer (some ⟨h.bs, 0, none⟩), .agg #[tv, tr], .slice (some ⟨bE, 0, none⟩) 1 1] rfl _) hmk ?_
      rintro e wi ⟨hmi, vM, out, rfl, hgi, hMo, hli⟩;obtain rfl := marks_AB hMo rfl;have HF : Hid (KnMid wa vM wi) := hid ⟨hT.trans0 hmi, hgi.base hT.size⟩
      replace hT := hT.trans0 hmi;refine ⟨_, rfl, hK _ _ hT ?_⟩;clear hK K hmk hmi hgi hMo hli;refine q0e _ rfl rfl ?_;simp only [nmz];refine q0b ?_;go_wp2
      go_meet
      case rel => exact HF.out
    · intro K hK
      simp only [zz5];refine q1c (q0x 115 [(6, _)] [(6, .slice (some ⟨bX, 0, none⟩) 1 1)] _ (by rfl) (by rfl) (built_evB _ 1 1)) ?_;refine hK _ _ hT ?_;clear hK K
      try simp only [nmz]
      refine q0r [2, 6] (by kernel_rfl) ?_;simp only [zz3, false_implies, implies_true];refine ⟨?_, ?_⟩
      · intro K hK
        simp only [zz5];refine q0j (q0m 56 [.tmp 45] _ rfl _ func56 rfl (by kernel_rfl) [.agg (q0c idA)] rfl _) (tagged_any idA q3h _) ?_
        rintro e we ⟨hme, tv, tr, treps, rfl, htv, htr, htroots⟩
        try replace hX := hX.keep0 hme
        try replace hE := SlEv.keep0 hE hme
        replace hT := hT.trans0 hme;clear hme;refine ⟨_, rfl, hK _ _ hT ?_⟩;clear hK K;try simp only [nmz]
        refine q0r [6] (by kernel_rfl) ?_;simp only [zz3, false_implies, implies_true];intro K hK;simp only [zz5]
        refine q1l 72 115 _ (.agg (q1r evB (.slice none 0 0) (.slice (some ⟨bX, 0, none⟩) 1 1))) evZero 39 (by rfl) (by rfl) underlying72 ev_zs (by omega) (by omega) (q1m evB _ _ (by simp [evB])).size (fun bE wh hBh hmh => ?_)
        have hE : Sl false wh AnyB 39 (EvR false wh AnyB) (.slice (some ⟨bE, 0, none⟩) 1 1) [evB] := q4m hBh ⟨_, _, rfl, by simp [evB], Sl.nil _ _ _ _ _, hX.keep0 hmh, by simp [evB, ByteArray.size, maxLen], by simp [evB, ByteArray.size, maxLen]⟩ 39 (q1m evB _ _ (by simp [evB])).size
        try replace htr := q3g htr (KC.of0 hmh)
        replace hT := hT.trans0 hmh;clear hmh hBh hX;refine hK _ _ hT ?_;clear hK K;try simp only [nmz]
        refine q1f ?_;try simp only [zz4]
        try simp only [nmz]
        refine q1b rfl (fun K hK => ?_);have hmk := swMarks_of (hata.keep0 hT) htv htr htroots hE
        refine q0j (q0m 48 [.tmp 44, .tmp 46, .tmp 50] _ rfl _ func48 rfl (by kernel_rfl) [.pointer (some ⟨h.bs, 0, none⟩), .agg #[tv, tr], .slice (some ⟨bE, 0, none⟩) 1 1] rfl _) hmk ?_
        rintro e wi ⟨hmi, vM, out, rfl, hgi, hMo, hli⟩;obtain rfl := marks_AB hMo rfl;have HF : Hid (KnMid wa vM wi) := hid ⟨hT.trans0 hmi, hgi.base hT.size⟩
        replace hT := hT.trans0 hmi;refine ⟨_, rfl, hK _ _ hT ?_⟩;clear hK K hmk hmi hgi hMo hli;refine q0e _ rfl rfl ?_;simp only [nmz];refine q0b ?_;go_wp2
        go_meet
        case rel => exact HF.out
      · intro K hK
        simp only [zz5]
        refine q1l 72 115 _ (.agg (q1r evB (.slice none 0 0) (.slice (some ⟨bX, 0, none⟩) 1 1))) evZero 39 (by rfl) (by rfl) underlying72 ev_zs (by omega) (by omega) (q1m evB _ _ (by simp [evB])).size (fun bE wh hBh hmh => ?_)
        have hE : Sl false wh AnyB 39 (EvR false wh AnyB) (.slice (some ⟨bE, 0, none⟩) 1 1) [evB] := q4m hBh ⟨_, _, rfl, by simp [evB], Sl.nil _ _ _ _ _, hX.keep0 hmh, by simp [evB, ByteArray.size, maxLen], by simp [evB, ByteArray.size, maxLen]⟩ 39 (q1m evB _ _ (by simp [evB])).size
        try replace htr := q3g htr (KC.of0 hmh)
        replace hT := hT.trans0 hmh;clear hmh hBh hX;refine hK _ _ hT ?_;clear hK K;try simp only [nmz]
        refine q0r [2] (by kernel_rfl) ?_;simp only [zz3, false_implies, implies_true];intro K hK;simp only [zz5]
        refine q0j (q0m 56 [.tmp 45] _ rfl _ func56 rfl (by kernel_rfl) [.agg (q0c idA)] rfl _) (tagged_any idA q3h _) ?_
        rintro e we ⟨hme, tv, tr, treps, rfl, htv, htr, htroots⟩
        try replace hX := hX.keep0 hme
        try replace hE := SlEv.keep0 hE hme
        replace hT := hT.trans0 hme;clear hme;refine ⟨_, rfl, hK _ _ hT ?_⟩;clear hK K;try simp only [nmz]
        refine q1f ?_;try simp only [zz4]
        try simp only [nmz]
        refine q1b rfl (fun K hK => ?_);have hmk := swMarks_of (hata.keep0 hT) htv htr htroots hE
        refine q0j (q0m 48 [.tmp 44, .tmp 46, .tmp 50] _ rfl _ func48 rfl (by kernel_rfl) [.pointer (some ⟨h.bs, 0, none⟩), .agg #[tv, tr], .slice (some ⟨bE, 0, none⟩) 1 1] rfl _) hmk ?_
        rintro e wi ⟨hmi, vM, out, rfl, hgi, hMo, hli⟩;obtain rfl := marks_AB hMo rfl;have HF : Hid (KnMid wa vM wi) := hid ⟨hT.trans0 hmi, hgi.base hT.size⟩
        replace hT := hT.trans0 hmi;refine ⟨_, rfl, hK _ _ hT ?_⟩;clear hK K hmk hmi hgi hMo hli;refine q0e _ rfl rfl ?_;simp only [nmz];refine q0b ?_;go_wp2
        go_meet
        case rel => exact HF.out
 case rest =>
  rename World => wx
  obtain ⟨hmx, hgM⟩ := hcut;have hatx := hata.keep0 hmx;have hI1 := hI1.keep hmx id;have hI2 := hI2.keep hmx id;have hBoth := hBoth.keep0 hmx;have hm0x := hm0a.trans0 hmx
  have sx := hmx.size;have hM := slI hgM (fun x hx => by simp at hx; rcases hx with rfl | rfl; exact q3h; exact idB_len);have hlo : ∀ k, Ft k → w7.heap.size ≤ k := hFn
  have hlt8 := hata.lt;have hF1 : ∀ k, k < w7.heap.size → ¬ Ft k := fun k hk e => by have := hlo _ e; omega
  have hFb6 : ¬ Ft b6 := fun e => by
   have h1 := hlt8' _ e;omega
  have hFM : ∀ k, (wa.heap.size ≤ k ∧ k < wx.heap.size ∧ u7.ownBlock = some k) → ¬ Ft k := fun k hk e => by have := hlt8 _ e; have := hk.1; omega
  clear hata hgM;go_upto_region 9 with (fail);refine wpR [3, 3, 1, 1, 1, 3, 3, 3, 1, 1, 3] (by rfl) (by rfl) ?_;simp only [zz2];refine q0a _ rfl rfl ?_;simp only [nmz]
  refine q0a _ rfl rfl ?_;simp only [nmz];refine wpX rfl (q0l 24 _ (by rfl) b1 0 (by rfl) (q0c idA) hI1 _ underlying24 rfl 32 (by kernel_rfl) hA) trivial ?_
  try simp only [nmz]
  refine wpDo rfl ?_
  refine q1i 25 24 _ (.agg (q0c idA)) (.agg (q0c (List.replicate 32 0))) 32 (by rfl) (by rfl) underlying25 id_zs (by omega) (by omega) hA (fun wb hBb hmb hsbX => ?_)
  replace hBb : wb.heap[wx.heap.size]? = some (.cells (q0c idA) 24 (0, 0)) := hBb;have hbX : ¬ Ft wx.heap.size := fun e => Nat.lt_irrefl _ (hatx.lt _ e)
  have hsw := sweep_one (hatx.keep0 hmb) q3h hBb hbX hhq;try simp only [nmz]
  refine wpDo rfl ?_
  refine q0j (q0m 53 [.tmp 53, .tmp 54, .tmp 56] _ rfl _ func53 rfl (by kernel_rfl) [.pointer (some ⟨h.bs, 0, none⟩), .pointer (some ⟨qb, 0, none⟩), .slice (some ⟨wx.heap.size, 0, none⟩) 1 1] rfl _) (hsw) ?_
  rintro e wc ⟨ids, bv, sr, Fc, hidc, hrun, hec, hgc, hatc, hmc, hsc, hnc⟩;subst hec;rw [gone_A hidc] at hrun hgc;rw [run_AB] at hrun;subst hrun
  replace hatc : HsAt wc h cA1 lA1 Fc := hatc;refine ⟨_, rfl, ?_⟩;refine q0a _ rfl rfl ?_;simp only [nmz]
  refine q0o rfl (fun w' => q0q _ 0 #[.agg (q0w bv 2 1), .int .i64 0] rfl rfl (.agg (q0w bv 2 1)) rfl) ?_;simp only [nmz]
  refine q0o rfl (fun w' => q0q _ 1 #[.agg (q0w bv 2 1), .int .i64 0] rfl rfl (.int .i64 0) rfl) ?_;simp only [nmz];refine wpDo rfl ?_
  refine q0z 104 _ (by rfl) sweptZ (fun wd hBd hmd hsd => ?_)
  replace hBd : wd.heap[wc.heap.size]? = some (.cells #[.slice none 0 0, .int .i64 0, .int .i64 0] 104 (0, 0)) := hBd;try simp only [nmz]
  refine wpDo rfl ?_
  refine q0p 104 _ _ wc.heap.size 0 (q0w bv 2 1) (by rfl) (by rfl) (by rfl) (by intro c hc; simp [q0w] at hc; rcases hc with rfl | rfl | rfl <;> first | rfl | exact q3e hgc) 3 (by kernel_rfl) rfl _ _ hBd (by simp [q0w]) (fun we hBe hme => ?_)
  rw [q0k (by simp [q0w])] at hBe;refine q0e _ rfl rfl ?_;simp only [nmz];refine q0b ?_;have hmce : Mod NoB wc we := hmd.transB hme (Nat.le_refl _)
  have hmxc : Mod Ft wx wc := (hmb.mono (fun _ _ h => h.elim)).trans hmc (fun k _ h => h);have hI1e := (hI1.keep hmxc (hF1 b1 b17)).keep hmce id
  have hBe2 := (hBoth.keep hmxc (fun k hk => by have e : k = b6 := hk; rw [e]; exact hFb6) (fun _ _ h => h)).keep0 hmce;have hMe := (hM.keep hmxc hFM (fun _ _ h => h)).keep0 hmce
  have hate := hatc.keep0 hmce;have hFlt : ∀ k, Fc k → k < wc.heap.size := hatc.lt;have sb := hmb.size;have sc := hmxc.size
  have hFlow : ∀ k, Fc k → k < wx.heap.size → Ft k := fun k hk hl => (hsc k hk).elim id (fun hn => by have := hn.1; omega)
  have hm7x : w7.heap.size ≤ wx.heap.size := by have := hm78.size; omega
  have hlo2 : ∀ k, Fc k → w7.heap.size ≤ k := fun k hk => (hsc k hk).elim (hlo k) (fun hn => by have := hn.1; omega)
  have hm0e : Mod NoB w we := (hm0x.trans hmxc (fun k hk hf => by have := hlo k hf; have := hm07.size; omega)).trans0 hmce;obtain ⟨bad, bcap, hbv⟩ := hgc.slice
  replace hbv : bv = .slice bad 1 bcap := hbv;generalize hb8 : wc.heap.size = b8 at *;clear hsw hatx hmb hmc hgc hatc hmd hme hBd hidc hI1 hI2 hBoth hM hnc hsd hBb hbX hsc hsbX
  go_upto_region 10 with (fail);refine wpR [3, 3, 1, 1, 1, 3, 3, 3, 1, 1, 3] (by rfl) (by rfl) ?_;simp only [zz2];refine q0a _ rfl rfl ?_;simp only [nmz]
  refine q0a _ rfl rfl ?_;simp only [nmz];refine wpX rfl (q0l 24 _ (by rfl) b1 0 (by rfl) (q0c idA) hI1e _ underlying24 rfl 32 (by kernel_rfl) hA) trivial ?_
  try simp only [nmz]
  refine wpDo rfl ?_
  refine q1i 25 24 _ (.agg (q0c idA)) (.agg (q0c (List.replicate 32 0))) 32 (by rfl) (by rfl) underlying25 id_zs (by omega) (by omega) hA (fun wf hBf hmf hsbY => ?_)
  replace hBf : wf.heap[we.heap.size]? = some (.cells (q0c idA) 24 (0, 0)) := hBf;have hbY : ¬ Fc we.heap.size := fun e => Nat.lt_irrefl _ (hate.lt _ e)
  have hsw := sweep_one (hate.keep0 hmf) q3h hBf hbY hhq;try simp only [nmz]
  refine wpDo rfl ?_
  refine q0j (q0m 53 [.tmp 61, .tmp 62, .tmp 64] _ rfl _ func53 rfl (by kernel_rfl) [.pointer (some ⟨h.bs, 0, none⟩), .pointer (some ⟨qb, 0, none⟩), .slice (some ⟨we.heap.size, 0, none⟩) 1 1] rfl _) (hsw) ?_
  rintro e wg ⟨ids, bw, sr, Fg, hidg, hrun, heg, hgg, hatg, hmg, hsg, hng⟩;subst heg;rw [gone_A1 hidg] at hrun hgg;rw [run_A1] at hrun;subst hrun
  replace hatg : HsAt wg h cA1 lA1 Fg := hatg;refine ⟨_, rfl, ?_⟩;refine q0a _ rfl rfl ?_;simp only [nmz]
  refine q0o rfl (fun w' => q0q _ 0 #[.agg (q0w bw 0 0), .int .i64 0] rfl rfl (.agg (q0w bw 0 0)) rfl) ?_;simp only [nmz]
  refine q0o rfl (fun w' => q0q _ 1 #[.agg (q0w bw 0 0), .int .i64 0] rfl rfl (.int .i64 0) rfl) ?_;simp only [nmz];refine wpDo rfl ?_
  refine q0z 104 _ (by rfl) sweptZ (fun wh hBh hmh hsh => ?_)
  replace hBh : wh.heap[wg.heap.size]? = some (.cells #[.slice none 0 0, .int .i64 0, .int .i64 0] 104 (0, 0)) := hBh;try simp only [nmz]
  refine wpDo rfl ?_
  refine q0p 104 _ _ wg.heap.size 0 (q0w bw 0 0) (by rfl) (by rfl) (by rfl) (by intro c hc; simp [q0w] at hc; rcases hc with rfl | rfl | rfl <;> first | rfl | exact q3e hgg) 3 (by kernel_rfl) rfl _ _ hBh (by simp [q0w]) (fun wi hBi hmi => ?_)
  rw [q0k (by simp [q0w])] at hBi;refine q0e _ rfl rfl ?_;simp only [nmz];refine q0b ?_;have hmgi : Mod NoB wg wi := hmh.transB hmi (Nat.le_refl _)
  have hmeg : Mod Fc we wg := (hmf.mono (fun _ _ h => h.elim)).trans hmg (fun k _ h => h);have hFc8 : ¬ Fc b8 := fun e => by have := hFlt _ e; omega
  have hBi8 : wi.heap[b8]? = some (.cells (q0w bv 2 1) 104 (0, 0)) := hmgi.obj id (hmeg.obj hFc8 hBe)
  have hB6i := (hBe2.keep hmeg (fun k hk e => by have e1 : k = b6 := hk; subst e1; exact hFb6 (hFlow _ e (by omega))) (fun _ _ h => h)).keep0 hmgi
  have hMi := (hMe.keep hmeg (fun k hk e => hFM k hk (hFlow _ e hk.2.1)) (fun _ _ h => h)).keep0 hmgi;have hati := hatg.keep0 hmgi
  have hFglt : ∀ k, Fg k → k < wg.heap.size := hatg.lt;have se := hmce.size;have sf := hmf.size
  have hFg6 : ¬ Fg b6 := fun e => (hsg _ e).elim (fun h1 => hFb6 (hFlow _ h1 (by omega))) (fun hn => by have := hn.1; omega)
  have hFg8 : ¬ Fg b8 := fun e => (hsg _ e).elim hFc8 (fun hn => by have := hn.1; have := (Array.getElem?_eq_some_iff.1 hBe).1; omega)
  have hFgM : ∀ k, (wa.heap.size ≤ k ∧ k < wx.heap.size ∧ u7.ownBlock = some k) → ¬ Fg k := fun k hk e => (hsg _ e).elim (fun h1 => hFM k hk (hFlow _ h1 hk.2.1)) (fun hn => by have := hn.1; have := hk.2.1; omega)
  have hlo3 : ∀ k, Fg k → w7.heap.size ≤ k := fun k hk => (hsg k hk).elim (hlo2 k) (fun hn => by have := hn.1; omega)
  have hm0i : Mod NoB w wi := (hm0e.trans hmeg (fun k hk hf => by have := hlo2 k hf; have := hm07.size; omega)).trans0 hmgi
  have hVi := slI (hgg.keep0 hmgi) (fun x hx => by simp at hx);have hns := swSweep_noStore hati (v := .pointer none) (.inl rfl) (fun b e => by cases e) (.slice none 0 0) rfl
  rw [hhq] at hns;generalize hb10 : wg.heap.size = b10 at *;clear hsw hate hmf hmg hgg hatg hmh hmi hBh hidg hI1e hBe2 hMe hng hsh hBf hbY hsg hsbY hBe;go_upto_region 11 with (fail)
  refine wpR [3, 1, 3, 3, 3, 1, 1, 3] (by rfl) (by rfl) ?_;simp only [zz2];refine q0a _ rfl rfl ?_;simp only [nmz];refine wpDo rfl ?_
  refine q0j (q0m 53 [.const (.pointer none), .tmp 69, .const (.slice none 0 0)] _ rfl _ func53 rfl (by kernel_rfl) [.pointer none, .pointer (some ⟨qb, 0, none⟩), .slice none 0 0] rfl _) (hns) ?_
  rintro e wj ⟨hej, Fj, hatj, hmj, hsj⟩;subst hej;unfold noneV;refine ⟨_, rfl, ?_⟩;refine q0a _ rfl rfl ?_;simp only [nmz]
  refine q0o rfl (fun w' => q0q _ 0 #[.agg (q0w (.slice none 0 0) 0 0), .int .i64 1] rfl rfl (.agg (q0w (.slice none 0 0) 0 0)) rfl) ?_;simp only [nmz]
  refine q0o rfl (fun w' => q0q _ 1 #[.agg (q0w (.slice none 0 0) 0 0), .int .i64 1] rfl rfl (.int .i64 1) rfl) ?_;simp only [nmz];refine wpDo rfl ?_
  refine q0z 104 _ (by rfl) sweptZ (fun wk hBk hmk hsk => ?_)
  replace hBk : wk.heap[wj.heap.size]? = some (.cells #[.slice none 0 0, .int .i64 0, .int .i64 0] 104 (0, 0)) := hBk;try simp only [nmz]
  refine wpDo rfl ?_
  refine q0p 104 _ _ wj.heap.size 0 (q0w (.slice none 0 0) 0 0) (by rfl) (by rfl) (by rfl) (by intro c hc; simp [q0w] at hc; rcases hc with rfl | rfl | rfl <;> rfl) 3 (by kernel_rfl) rfl _ _ hBk (by simp [q0w]) (fun wl hBl hml => ?_)
  refine q0e _ rfl rfl ?_;simp only [nmz];refine q0b ?_;have hmjl : Mod NoB wj wl := hmk.transB hml (Nat.le_refl _)
  have hFg10 : ¬ Fg b10 := fun e => by have := hFglt _ e; omega
  have hBl8 : wl.heap[b8]? = some (.cells (q0w bv 2 1) 104 (0, 0)) := hmjl.obj id (hmj.obj hFg8 hBi8)
  have hBl10 : wl.heap[b10]? = some (.cells (q0w bw 0 0) 104 (0, 0)) := hmjl.obj id (hmj.obj hFg10 hBi)
  have hB6l := (hB6i.keep hmj (fun k hk e => hFg6 (by have e1 : k = b6 := hk; rw [← e1]; exact e)) (fun _ _ h => h)).keep0 hmjl
  have hMl := (hMi.keep hmj (fun k hk e => hFgM k hk e) (fun _ _ h => h)).keep0 hmjl
  have hm0l : Mod NoB w wl := (hm0i.trans hmj (fun k hk hf => by have := hlo3 k hf; have := hm07.size; omega)).trans0 hmjl
  have hVl : Sl false wl AnyB 32 IdC bw [] := by
   obtain ⟨ad9, cap9, e9, q1, q2, -⟩ := hVi;exact ⟨ad9, cap9, e9, q1, q2, fun h => absurd rfl h⟩
  have z1 := (q1m evOne (.slice none 0 0) (.slice none 0 0) (by simp [evOne])).size
  have z2 := (q1m q2z (.slice none 0 0) (.slice none 0 0) (by simp [q2z])).size
  have zz := (q1m evt0 (.slice none 0 0) (.slice none 0 0) (by simp [evt0])).size
  have o1 := evCells_one (e := evOne) (dv := .slice none 0 0) (rv := .slice none 0 0) rfl rfl
  have o2 := evCells_one (e := q2z) (dv := .slice none 0 0) (rv := .slice none 0 0) rfl rfl
  clear hns hati hmj hatj hsj hmk hml hBk hBl hsk hmjl hmgi hmeg hmxc hmce hm0i hm0e hm0x hm0a hmx hma hm09 hm08 hm07 hm78 hBi8 hBi hB6i hMi hVi hF1 hFb6 hFM hFlow hFg6 hFg8 hFgM hFg10 hFc8 hlo hlo2 hlo3 hlt8 hlt8' hFlt hFglt hFn
  go_upto_region 12 with (fail);refine wpR [0, 0, 0, 0, 1, 1, 1, 1] (by rfl) (by rfl) ?_;simp only [zz2]
  refine q0g rfl (fun w' hS => q0x 113 [(0, _), (1, _)] [(0, .int .i64 1), (1, .int .i64 1)] _ (by rfl) (by rfl) built_dot11) ?_;simp only [nmz]
  refine q0g rfl (fun w' hS => q0x 115 [(0, _)] [(0, .agg #[.int .i64 1, .int .i64 1])] _ (by rfl) (by rfl) built_evOne) ?_;simp only [nmz]
  refine q0g rfl (fun w' hS => q0x 113 [(0, _), (1, _)] [(0, .int .i64 2), (1, .int .i64 1)] _ (by rfl) (by rfl) built_dot21) ?_;simp only [nmz]
  refine q0g rfl (fun w' hS => q0x 115 [(0, _)] [(0, .agg #[.int .i64 2, .int .i64 1])] _ (by rfl) (by rfl) built_evOther) ?_;simp only [nmz];refine wpDo rfl ?_
  refine q0z 115 _ (by rfl) zeroEvV (fun wm hBm hmm hsm => ?_)
  replace hBm : wm.heap[wl.heap.size]? = some (.cells (q1r evt0 (.slice none 0 0) (.slice none 0 0)) 115 (0, 0)) := hBm;try simp only [nmz]
  refine wpDo rfl ?_;refine q0z 115 _ (by rfl) zeroEvV (fun wn hBn hmn hsn => ?_)
  replace hBn : wn.heap[wm.heap.size]? = some (.cells (q1r evt0 (.slice none 0 0) (.slice none 0 0)) 115 (0, 0)) := hBn;have hBm2 := hmn.obj id hBm;try simp only [nmz]
  refine wpDo rfl ?_
  refine q0p 115 _ _ wl.heap.size 0 (q1r evOne (.slice none 0 0) (.slice none 0 0)) (by rfl) (by rfl) (by rfl) o1 39 (by kernel_rfl) z1 _ _ hBm2 (by rw [z1, zz]; omega) (fun wo hBo hmo => ?_)
  rw [q0k (by rw [z1, zz])] at hBo;have hBn2 := hmo.objB (b := wm.heap.size) (by omega) hBn;try simp only [nmz]
  refine wpDo rfl ?_
  refine q0p 115 _ _ wm.heap.size 0 (q1r q2z (.slice none 0 0) (.slice none 0 0)) (by rfl) (by rfl) (by rfl) o2 39 (by kernel_rfl) z2 _ _ hBn2 (by rw [z2, zz]; omega) (fun wp hBp hmp => ?_)
  rw [q0k (by rw [z2, zz])] at hBp;have hBo2 := hmp.objB (b := wl.heap.size) (by omega) hBo;try simp only [nmz]
  refine q0b ?_;have hmlp : Mod NoB wl wp := ((hmm.trans0 hmn).transB hmo (Nat.le_refl _)).transB hmp (by omega)
  have hE14 : CellsAt wp wl.heap.size 0 (q1r evOne (.slice none 0 0) (.slice none 0 0)) := CellsAt.whole hBo2
  have hE15 : CellsAt wp wm.heap.size 0 (q1r q2z (.slice none 0 0) (.slice none 0 0)) := CellsAt.whole hBp;have hBp8 := hmlp.obj id hBl8;have hBp10 := hmlp.obj id hBl10
  have hB6p := hB6l.keep0 hmlp;have hMp := hMl.keep0 hmlp;have hVp := hVl.keep0 hmlp;have hm0p := hm0l.trans0 hmlp;generalize hb14 : wl.heap.size = b14 at *
  generalize hb15 : wm.heap.size = b15 at *;clear hBl8 hBl10 hB6l hMl hVl hm0l hmlp hmm hmn hmo hmp hBm hBn hBo hBm2 hBn2 hBo2 hBp hsm hsn;go_upto_region 13 with (fail)
  refine wpR [1, 1, 1, 1, 1, 3, 3, 3, 3, 3] (by rfl) (by rfl) ?_;simp only [zz2]
  refine wpX rfl (q0l 115 _ (by rfl) b14 0 (by rfl) (q1r evOne (.slice none 0 0) (.slice none 0 0)) hE14 _ underlying115 rfl 39 (by kernel_rfl) z1) trivial ?_
  try simp only [nmz]
  refine wpX rfl (q0l 115 _ (by rfl) b15 0 (by rfl) (q1r q2z (.slice none 0 0) (.slice none 0 0)) hE15 _ underlying115 rfl 39 (by kernel_rfl) z2) trivial ?_
  try simp only [nmz]
  refine wpDo rfl ?_
  refine q2r 72 115 2 [(0, _), (1, _)] [.agg (q1r evOne (.slice none 0 0) (.slice none 0 0)), .agg (q1r q2z (.slice none 0 0) (.slice none 0 0))] evZero 39 (by rfl) (by rfl) (by rfl) underlying72 ev_zs (by omega) (by omega) (by intro v hv; simp only [List.mem_cons, List.not_mem_nil, or_false] at hv; rcases hv with rfl | rfl; exact z1; exact z2) (fun wq hBq hmq hsq => ?_)
  replace hBq : wq.heap[wp.heap.size]? = some (.cells (q1r evOne (.slice none 0 0) (.slice none 0 0) ++ q1r q2z (.slice none 0 0) (.slice none 0 0)) 115 (0, 0)) := by rw [hBq]; simp [Value.cells]
  have hEq := sl_twoB (R := EvR false wq (fun _ => False)) hBq (evOne_r _ _) (evOther_r _ _) 39 z1 z2;try simp only [nmz]
  refine wpDo rfl ?_
  refine q2r 64 3 2 [(0, _), (1, _)] [.int .i64 1, .int .i64 0] (.int .i64 0) 1 (by rfl) (by rfl) (by rfl) underlying64 int_zs (by omega) (by omega) (by simp [Value.cells]) (fun wr hBr hmr hsr => ?_)
  replace hBr : wr.heap[wq.heap.size]? = some (.cells (#[.int .i64 1] ++ #[.int .i64 0]) 3 (0, 0)) := by rw [hBr]; simp [Value.cells]
  have hIr := sl_twoB (R := IntC) hBr rfl rfl 1 rfl rfl;have hEr := SlEv.keep0 hEq hmr
  have htomb := swTombs_any hEr (fun k hk => by have e : k = wp.heap.size := hk; have := hmr.size; omega) (fun k hk => hk.elim) hIr (by simp) (fun e he => by simp at he; rcases he with rfl | rfl <;> simp [EvOk, evOne, q2z])
  try simp only [nmz]
  refine wpDo rfl ?_
  refine q0j (q0m 57 [.tmp 80, .tmp 81] _ rfl _ func57 rfl (by kernel_rfl) [.slice (some ⟨wp.heap.size, 0, none⟩) 2 2, .slice (some ⟨wq.heap.size, 0, none⟩) 2 2] rfl _) (htomb) ?_
  rintro e ws ⟨hms, kv2, dv2, hes, hks, hds, -⟩;subst hes;rw [kept_12] at hks;rw [gone_12] at hds;refine ⟨_, rfl, ?_⟩;refine q0a _ rfl rfl ?_;simp only [nmz]
  refine q0o rfl (fun w' => q0q _ 0 #[kv2, dv2] rfl rfl kv2 rfl) ?_;simp only [nmz];refine q0o rfl (fun w' => q0q _ 1 #[kv2, dv2] rfl rfl dv2 rfl) ?_
  simp only [nmz];refine q0e _ rfl rfl ?_;simp only [nmz];refine q0e _ rfl rfl ?_;simp only [nmz];refine q0b ?_
  have hmps : Mod NoB wp ws := (hmq.trans0 hmr).trans0 hms;have hE14 := hE14.keep hmps id;have hE15 := hE15.keep hmps id;have hBs8 := hmps.obj id hBp8
  have hBs10 := hmps.obj id hBp10;have hB6s := hB6p.keep0 hmps;have hMs := hMp.keep0 hmps;have hVs := hVp.keep0 hmps;have hm0s := hm0p.trans0 hmps;have hKs := hks.slb
  have hDs := DotGs.sl hds;have hD14 := hE14.part (i := 0) (j := 2) (by rw [z1]; omega);rw [(q1m evOne (.slice none 0 0) (.slice none 0 0) (by simp [evOne])).dot] at hD14
  clear htomb hks hds hmq hmr hms hBq hBr hEq hIr hEr hmps hBp8 hBp10 hB6p hMp hVp hm0p hsq hsr;have hbl8 : CellsAt ws b8 0 (q0w bv 2 1) := CellsAt.whole hBs8
  have hcv : ws.cell? ⟨b8, 0 + 0, none⟩ = some bv := hbl8.cell (j := 0) (by simp [q0w]);rw [hbv] at hcv
  have hC10 : CellsAt ws b10 0 (q0w bw 0 0) := CellsAt.whole hBs10;clear hbl8 hBs8 hBs10;go_upto_region 14 with (fail)
  refine wpR [1, 3, 3, 3, 1, 3, 3, 3, 3, 3, 3, 3, 1, 3, 3, 3, 3, 3, 3, 3, 3, 1, 0, 1, 3, 3, 3, 3, 3, 3, 3, 1, 1, 1, 3, 3, 3, 3, 1, 1, 1, 3, 3] (by rfl) (by rfl) ?_;simp only [zz2]
  refine wpDo rfl ?_;refine q0j (q0m 42 [] _ rfl _ func42 rfl (by kernel_rfl) [] rfl _) (awake_any _) ?_;rintro e wt ⟨rfl, hmt⟩;refine ⟨_, rfl, ?_⟩
  refine q0a _ rfl rfl ?_;simp only [nmz];refine q0a _ rfl rfl ?_;simp only [nmz];refine q0a _ rfl rfl ?_;simp only [nmz];refine wpDo rfl ?_
  refine q0j (q0m 24 [.tmp 87, .tmp 88] _ rfl _ func24 rfl (by kernel_rfl) [u7, .slice (some ⟨b6, 0, none⟩) 2 2] rfl _) (q3k _ _ _ _ _ _ _ _ _ (hMs.keep0 hmt) (hB6s.keep0 hmt)) ?_
  rintro e wu ⟨rfl, hmu⟩;rw [decide_eq_true rfl];have hmsu := hmt.trans0 hmu;have hcv := hmsu.cell id hcv;clear hmt hmu;refine ⟨_, rfl, ?_⟩;refine q0y _ _ _ _ rfl rfl rfl ?_
  simp only [nmz];refine q0a _ rfl rfl ?_;simp only [nmz];refine q0a _ rfl rfl ?_;simp only [nmz];refine q1e _ _ _ _ _ _ _ _ rfl rfl rfl rfl rfl true rfl ?_
  simp only [nmz];refine q0y _ _ _ _ rfl rfl rfl ?_;simp only [nmz];refine q0a _ rfl rfl ?_;simp only [nmz];refine q0f _ _ _ _ _ _ rfl rfl rfl fo_104_0 ?_
  simp only [nmz];refine wpX rfl (q0d 25 _ (by rfl) b8 (0 + 0) (by rfl) _ hcv _ underlying25 rfl) trivial ?_;try simp only [nmz]
  refine q1u _ _ _ _ _ rfl rfl rfl (by kernel_rfl) ?_;simp only [nmz];refine q1e _ _ _ _ _ _ _ _ rfl rfl rfl rfl rfl true rfl ?_;simp only [nmz]
  refine q0y _ _ _ _ rfl rfl rfl ?_;simp only [nmz];refine q0a _ rfl rfl ?_;simp only [nmz];refine q0a _ rfl rfl ?_;simp only [nmz]
  refine q1e _ _ _ _ _ _ _ _ rfl rfl rfl rfl rfl true rfl ?_;simp only [nmz];refine q0y _ _ _ _ rfl rfl rfl ?_;simp only [nmz];refine q0a _ rfl rfl ?_
  simp only [nmz];refine wpX rfl (q0l 104 _ (by rfl) b10 0 (by rfl) (q0w bw 0 0) (hC10.keep hmsu id) _ underlying104 rfl 3 (by kernel_rfl) rfl) trivial ?_
  try simp only [nmz]
  refine q0g rfl (fun w' hS => q0x 104 [] [] _ (by rfl) (by rfl) built_swept0) ?_;simp only [nmz];refine wpDo rfl ?_
  refine q0j (q0m 54 [.tmp 106, .tmp 107] _ rfl _ func54 rfl (by kernel_rfl) [.agg (q0w bw 0 0), .agg (q0w (.slice none 0 0) 0 0)] rfl _) (sameSwept_any (hVs.keep0 hmsu) (Sl.nil false wu AnyB 32 IdC) 0 0 0 0) ?_
  rintro e wv ⟨rfl, hmv⟩;simp only [decide_true, Bool.and_self];replace hmsu := hmsu.trans0 hmv;clear hmv;refine ⟨_, rfl, ?_⟩;refine q0y _ _ _ _ rfl rfl rfl ?_;simp only [nmz]
  refine q0a _ rfl rfl ?_;simp only [nmz];refine q0a _ rfl rfl ?_;simp only [nmz];refine q1e _ _ _ _ _ _ _ _ rfl rfl rfl rfl rfl true rfl ?_;simp only [nmz]
  refine q0y _ _ _ _ rfl rfl rfl ?_;simp only [nmz];refine q0a _ rfl rfl ?_;simp only [nmz];refine q0a _ rfl rfl ?_;simp only [nmz]
  refine wpX rfl (q0l 115 _ (by rfl) b15 0 (by rfl) (q1r q2z (.slice none 0 0) (.slice none 0 0)) (hE15.keep hmsu id) _ underlying115 rfl 39 (by kernel_rfl) z2) trivial ?_
  try simp only [nmz]
  refine wpDo rfl ?_
  refine q1l 72 115 _ (.agg (q1r q2z (.slice none 0 0) (.slice none 0 0))) evZero 39 (by rfl) (by rfl) underlying72 ev_zs (by omega) (by omega) z2 (fun bE wx1 hBx hmx1 => ?_)
  have hE : Sl false wx1 AnyB 39 (EvR false wx1 AnyB) (.slice (some ⟨bE, 0, none⟩) 1 1) [q2z] := q4m hBx (evOther_r _ _) 39 z2;replace hmsu := hmsu.trans0 hmx1;clear hmx1 hBx
  try simp only [nmz]
  refine wpDo rfl ?_
  refine q0j (q0m 52 [.tmp 115, .tmp 117] _ rfl _ func52 rfl (by kernel_rfl) [kv2, .slice (some ⟨bE, 0, none⟩) 1 1] rfl _) (sameEvents_eq _ _ _ _ _ _ _ _ _ _ (SlEv.keep0 hKs hmsu) hE) ?_
  rintro e wy ⟨rfl, hmy⟩;replace hmsu := hmsu.trans0 hmy;clear hmy hE;refine ⟨_, rfl, ?_⟩;refine q0y _ _ _ _ rfl rfl rfl ?_;simp only [nmz];refine q0a _ rfl rfl ?_
  simp only [nmz];refine q0a _ rfl rfl ?_;simp only [nmz];refine q0f _ _ _ _ _ _ rfl rfl rfl fo_115_0 ?_;simp only [nmz]
  refine wpX rfl (q0l 113 _ (by rfl) b14 (0 + 0) (by rfl) #[.int .i64 1, .int .i64 1] (hD14.keep hmsu id) _ underlying113 rfl 2 (by kernel_rfl) rfl) trivial ?_
  try simp only [nmz]
  refine wpDo rfl ?_
  refine q1l 116 113 _ (.agg #[.int .i64 1, .int .i64 1]) (.agg #[.int .i64 0, .int .i64 0]) 2 (by rfl) (by rfl) underlying116 (by kernel_rfl) (by omega) (by omega) rfl (fun bD wz hBz hmz => ?_)
  have hD : Sl false wz AnyB 2 DotC (.slice (some ⟨bD, 0, none⟩) 1 1) [(1, 1)] := q4m (R := DotC) (x := (1, 1)) hBz rfl 2 rfl;replace hmsu := hmsu.trans0 hmz;clear hmz hBz
  try simp only [nmz]
  refine wpDo rfl ?_
  refine q0j (q0m 58 [.tmp 121, .tmp 124] _ rfl _ func58 rfl (by kernel_rfl) [dv2, .slice (some ⟨bD, 0, none⟩) 1 1] rfl _) (sameDots_any _ _ _ _ _ _ _ _ _ (hDs.keep0 hmsu) hD) ?_
  rintro e wend ⟨rfl, hmend⟩;rw [decide_eq_true rfl];replace hmsu := hmsu.trans0 hmend;clear hmend hD;refine ⟨_, rfl, ?_⟩;refine q0y _ _ _ _ rfl rfl rfl ?_;simp only [nmz]
  refine q0e _ rfl rfl ?_;simp only [nmz];refine q0b ?_;have HF := hid (hm0s.trans0 hmsu);clear hmsu hm0s hcv hC10 hE14 hE15 hD14 hKs hDs hMs hB6s hVs;go_wp2;go_ret
  exact ⟨rfl, HF.out⟩
theorem sweepKnown_any (W : World) : Calls prog 10 #[] W (RetM (.bool true) W) := sweepKnown_walk W
end Go.Proofs.YtjeonjoifjbohaaGreat
namespace Go.Proofs.YtjeonjoifjbohaaGreat
open Go.ChangeShapes Go.WideShapes Go.ChangeAt Go.RowKit Go.Proofs.Tryz Go.Lib
theorem Mod.kept {w w' : World} (h : Mod NoB w w') (may : MemPlace → Prop) : w.keptBut w' may := by
 refine ⟨h.os, h.output, fun i hi => ?_⟩;have e := h.block i hi id
 cases hw : w.heap[i]? with
 | none => rw [hw] at e; simp [e]
 | some o =>
  rw [hw] at e
  cases o <;> simp [e]
theorem post_of_mod {H : Type} {enc : TypeId × Value → H} {P : Program} {f : Func} {s : ChangeSpec} {apart fresh handsOn : Bool} {W W' : World} {args : Array Value} {v : Value} {ds gs : List (DataW H)} {before pa pv : List MemPlace}
 (hold : DataW.Whole enc P f.params.toList s.vars apart W args.toList ds gs before) (hm : Mod NoB W W')
 (hr : ∀ (b : Nat), DataW.TrodAll enc P W' b (fun _ => false) handsOn f.resultTypes.toList (v.resultList f.resultTypes.size) (s.fn H (ds ++ gs)).results [])
 (ha : DataW.TrodAll enc P W' 0 (fun b => decide (b < W.heap.size)) true f.params.toList args.toList (s.fn H (ds ++ gs)).args pa)
 (hv : DataW.TrodVars enc P W' (fun b => decide (b < W.heap.size)) s.vars (s.fn H (ds ++ gs)).vars pv) : s.post enc P f apart fresh handsOn false W args v W' := by
 unfold ChangeSpec.post;exact ⟨ds, gs, before, [], pa, pv, hold, hr _, ha, hv, hm.kept _, fun h => Bool.noConfusion h⟩
end Go.Proofs.YtjeonjoifjbohaaGreat
