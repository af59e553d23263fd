/- What the statement SweepNone needs, part 7. -/
import Derived.Test.YtjeonjoifjbohaaGreatSweepNoneP6
set_option linter.unusedVariables false
set_option linter.unusedSimpArgs false
set_option linter.unnecessarySimpa false
set_option linter.unusedSectionVars false
set_option maxRecDepth 10000
set_option maxHeartbeats 8000000
namespace Go.Proofs.YtjeonjoifjbohaaGreat
open Go.RowKit Go.Shelf Go.Proofs.Tryz Go.Lib
theorem fo_104_0 : q1l prog 104 0 = some 0 := by kernel_rfl
theorem fo_104_1 : q1l prog 104 1 = some 1 := by kernel_rfl
theorem fo_104_2 : q1l prog 104 2 = some 2 := by kernel_rfl
abbrev SwS := BlobL × LinkL × Nat × Nat
def swStep (s : SwS) (x : List UInt8) : SwS := (delL x s.1, forgetL s.2.1 x, s.2.2.1 + ((getL x s.1).getD []).length, s.2.2.2 + forgetN s.2.1 x)
def swRun (xs : List (List UInt8)) (c : BlobL) (l : LinkL) : SwS := xs.foldl swStep (c, l, 0, 0)
theorem swRun_snoc (xs : List (List UInt8)) (x : List UInt8) (c : BlobL) (l : LinkL) : swRun (xs ++ [x]) c l = swStep (swRun xs c l) x := by simp [swRun]
def goneL (ids marks : List (List UInt8)) : List (List UInt8) := ids.filter fun x => !decide (x ∈ marks)
theorem sweptZ : (prog.info? 104).bind (·.zero) = some (.agg #[.slice none 0 0, .int .i64 0, .int .i64 0]) := by kernel_rfl
theorem setZ : (prog.info? 200).bind (·.zero) = some (.map none) := by kernel_rfl
theorem built_id0 : prog.built 24 [] = some (q0d (List.replicate 32 0)) := by kernel_rfl
def q0z (bv : Value) (b n : Nat) : Array Value := #[bv, .int .i64 b, .int .i64 n]
structure SwpAt (w0 : World) (h : House) (Ft : Nat → Prop) (c : BlobL) (l : LinkL) (gone : List (List UInt8)) (ob : Nat) (bv : Value) (k : Nat) (s : SwS) (w : World) (Fk : Nat → Prop) : Prop where
 run : swRun (gone.take k) c l = s
 at' : HsAt w h s.1 s.2.1 Fk
 mod : Mod Ft w0 w
 sub : ∀ j, Fk j → Ft j ∨ New w0 w j
 nob : ¬ Fk ob
 nrow : ∀ q, bv.ownBlock = some q → ¬ Fk q
 box : w.heap[ob]? = some (.cells (q0z bv s.2.2.1 s.2.2.2) 104 (0, 0))
 row : GatI w0.heap.size w bv gone
 b1 : s.2.2.1 ≤ k * 4096
 n1 : s.2.2.2 ≤ k * 65536
def SwpRel (w0 : World) (h : House) (Ft : Nat → Prop) (c : BlobL) (l : LinkL) (gone : List (List UInt8)) (ob : Nat) (bv : Value) (i : Value) (w : World) : Prop :=
 ∃ k s Fk, k ≤ gone.length ∧ i = .int .i64 (k : Nat) ∧ SwpAt w0 h Ft c l gone ob bv k s w Fk
def SwpR (w : World) (h : House) (Ft : Nat → Prop) (c : BlobL) (l : LinkL) (marks : List (List UInt8)) : Ending → World → Prop := fun e w' =>
 ∃ ids bv s Ft', IDsC c ids ∧ swRun (goneL ids marks) c l = s ∧ e = .returned (.tuple #[.agg (q0z bv s.2.2.1 s.2.2.2), .int .i64 0]) ∧ GatI w.heap.size w' bv (goneL ids marks) ∧
  HsAt w' h s.1 s.2.1 Ft' ∧ Mod Ft w w' ∧ (∀ k, Ft' k → Ft k ∨ New w w' k) ∧ ∀ q, bv.ownBlock = some q → ¬ Ft' q
section
variable {w : World} {h : House} {c : BlobL} {l : LinkL} {Ft : Nat → Prop}
theorem swSweep_any (H : HsAt w h c l Ft) {own : Bool} {G : Nat → Prop} {v : Value} {marks : List (List UInt8)} (hv : Sl own w G 32 IdC v marks) (hG : ∀ k, G k → ¬ Ft k) : Calls prog 53 #[.pointer (some ⟨h.bs, 0, none⟩), h.q, v] w (SwpR w h Ft c l marks) := by
 have hmm := @run_makeMap prog;have HH := hid H;have HV := hid hv;obtain ⟨vad, vcap, hve, -, -⟩ := Sl.at hv
 have hmk32 : ∀ x ∈ marks, x.length = 32 := by
  intro x hx;obtain ⟨a, cap, _, _, hat⟩ := Sl.at hv;obtain ⟨i, hi, rfl⟩ := List.getElem_of_mem hx;obtain ⟨b, off, _, _, _, hc⟩ := hat i hi;obtain ⟨cs, _, ⟨_, h2⟩, _⟩ := hc i hi
  exact h2
 rw [hve] at HV;subst hve;clear H hv
 have hz : ¬ (h.wd : Int) = 0 := by
  obtain ⟨bl, F, h1, _⟩ := HH.out;have := h1.wok;omega
 generalize hq : h.q = qv;go_enter func53, ntmps53;go_upto_region 0 with (fail);refine q0a [1, 3] (fun _ => True) (by rfl) (by rfl) trivial ?_;simp only [zz2]
 refine q0e rfl (fun K hK => ?_);refine q1c 104 _ (by rfl) sweptZ (fun w1 hB1 hm1 hs1 => ?_)
 replace hB1 : w1.heap[w.heap.size]? = some (.cells #[.slice none 0 0, .int .i64 0, .int .i64 0] 104 (0, 0)) := hB1;refine hK _ _ trivial ?_;clear hK K
 refine q0f _ rfl rfl ?_;simp only [nmz, Nat.reduceAdd];refine q0c ?_;have hlk := (HH.out.keep0 hm1).none;rw [hq] at hlk;go_upto_region 1 with (fail)
 refine q0a [3, 0, 1, 3, 3, 3, 3, 3] (fun _ => True) (by rfl) (by rfl) trivial ?_;simp only [zz2];refine q0b _ rfl rfl ?_;simp only [nmz, Nat.reduceAdd]
 refine q0j rfl (fun w' hS => q0y 24 [] [] _ (by rfl) (by rfl) built_id0) ?_;simp only [nmz, Nat.reduceAdd];refine q0e rfl (fun K hK => ?_)
 refine q0l (q0o 123 [.tmp 16, .const (.string { data := #[] }), .tmp 17, .const (.int .i64 0)] _ rfl _ func123 rfl (by kernel_rfl) [qv, .string ⟨#[]⟩, .agg (q0d (List.replicate 32 0)), .int .i64 0] rfl _) (hlk) ?_
 rintro e w2 ⟨⟨er, her, rfl⟩, hst2⟩;refine ⟨_, rfl, hK _ _ trivial ?_⟩;clear hK K;refine q0b _ rfl rfl ?_;simp only [nmz, Nat.reduceAdd]
 refine q0q rfl (fun w' => q0s _ 0 #[.bool false, .int .i64 er] rfl rfl (.bool false) rfl) ?_;simp only [nmz, Nat.reduceAdd]
 refine q0q rfl (fun w' => q0s _ 1 #[.bool false, .int .i64 er] rfl rfl (.int .i64 er) rfl) ?_;simp only [nmz, Nat.reduceAdd];refine q0f _ rfl rfl ?_
 simp only [nmz, Nat.reduceAdd];refine q0f _ rfl rfl ?_;simp only [nmz, Nat.reduceAdd];refine q0c ?_;obtain ⟨F2, H2, hm2, hs2⟩ := hst2;have hwid := H2.width;clear hlk
 have HWID := hid hwid;clear hwid;have hz1 : ((h.wd : Int) == 0) = false := by simpa using hz
 have her1 : (er == 1) = false := by simpa using her
 clear hz her;go_upto_region 4 with (go_at_call 124; refine HWID.out.mono ?_; rintro _ w3 ⟨rfl, hw3⟩; obtain rfl := hw3.symm)
 have hobF : ¬ Ft w.heap.size := fun e => by have := HH.out.lt _ e; omega
 have hob2 : ¬ F2 w.heap.size := fun e => (hs2 _ e).elim hobF (fun h => by have := h.1; omega);have hBo2 := hm2.obj hobF hB1
 have hm02 : Mod Ft w w2 := (hm1.mono (fun _ _ h => h.elim)).trans hm2 (fun _ _ h => h)
 have hs02 : ∀ k, F2 k → Ft k ∨ New w w2 k := fun k hk => (hs2 k hk).imp id (fun h => ⟨by have := h.1; have := hm1.size; omega, h.2⟩);have hlt2 := H2.lt;have hw02 := hm02.size
 clear hz1 her1 HWID hm2 hs2 hB1;refine q0a [1, 3, 1, 1, 1, 1] (fun _ => True) (by rfl) (by rfl) trivial ?_;simp only [zz2];refine q0e rfl (fun K hK => ?_)
 unfold Oper.wp execOp;simp only [Array.map_empty, Option.map_none, Sem.run_bind, hmm, Result.andThen_ok, Sem.run_pure];have hB3 := heap_alloc_new w2 (.map #[] 0)
 have hm3 := q1j w2 (.map #[] 0);have hs3 : (w2.alloc (.map #[] 0)).heap.size = w2.heap.size + 1 := by simp
 generalize w2.alloc (.map #[] 0) = w3 at hB3 hm3 hs3 ⊢;have hM3 : MapIs idV IdOk w3 w2.heap.size [] := MapIs.made hB3;have hval := valuesI_any w3 vad marks.length vcap
 refine hK _ _ trivial ?_;clear hK K;refine q0b _ rfl rfl ?_;simp only [nmz, Nat.reduceAdd];refine q0e rfl (fun K hK => ?_)
 refine q0l (q0o 119 [.tmp 30] _ rfl _ func119 rfl (by kernel_rfl) [.slice vad marks.length vcap] rfl _) (hval) ?_;rintro e w4 ⟨rfl, hw4⟩
 have hm4 : Mod NoB w3 w4 := by rw [hw4]; exact q1j w3 _
 have hB4 : w4.heap[w3.heap.size]? = some (.cells #[.slice vad marks.length vcap] 25 (0, 0)) := by rw [hw4]; exact heap_alloc_new w3 _
 clear hw4;have hadd := swAdd_any (enters_of func194 (by kernel_rfl) rfl) (valuesI_gives hB4 (((HV.out.keep hm02 hG (fun _ _ h => h)).keep0 hm3).keep0 hm4)) hmk32 (hM3.keep0 hm4)
 refine ⟨_, rfl, hK _ _ trivial ?_⟩;clear hK K;try simp only [nmz, Nat.reduceAdd]
 refine q0e rfl (fun K hK => ?_)
 refine q0l (q0o 115 [.tmp 29, .tmp 31] _ rfl _ func115 rfl (by kernel_rfl) [.map (some w2.heap.size), .func (.func 194) #[] #[.pointer (some ⟨w3.heap.size, 0, none⟩)]] rfl _) (hadd) ?_
 rintro e w5 ⟨rfl, hM5, hm5⟩;refine ⟨_, rfl, hK _ _ trivial ?_⟩;clear hK K;try simp only [nmz, Nat.reduceAdd]
 refine q0e rfl (fun K hK => ?_);refine q1c 200 _ (by rfl) setZ (fun w6 hB6 hm6 hs6 => ?_)
 replace hB6 : w6.heap[w5.heap.size]? = some (.cells #[.map none] 200 (0, 0)) := hB6;refine hK _ _ trivial ?_;clear hK K;try simp only [nmz, Nat.reduceAdd]
 refine q0e rfl (fun K hK => ?_)
 refine q1h 200 _ _ w5.heap.size 0 (.map (some w2.heap.size)) (by rfl) (by rfl) (by rfl) rfl (by kernel_rfl) _ _ hB6 (by simp) (fun w7 hB7 hm7 => ?_)
 replace hB7 : w7.heap[w5.heap.size]? = some (.cells #[.map (some w2.heap.size)] 200 (0, 0)) := hB7;refine hK _ _ trivial ?_;clear hK K;try simp only [nmz, Nat.reduceAdd]
 refine q0c ?_;have hm25 : Mod NoB w2 w5 := (hm3.trans0 hm4).transB hm5 (Nat.le_refl _);have hm27 : Mod NoB w2 w7 := (hm25.trans0 hm6).transB hm7 hm25.size;have hmbk := hM5.lt
 have hM7 := (hM5.keep0 hm6).keep hm7 (fun e => by have e : w2.heap.size = w5.heap.size := e; omega);have hkb7 : w5.heap.size < w7.heap.size := (Array.getElem?_eq_some_iff.1 hB7).1
 have hob2' : w.heap.size < w2.heap.size := (Array.getElem?_eq_some_iff.1 hBo2).1;generalize hmb : w2.heap.size = mb at *;generalize hkb : w5.heap.size = kb at *
 have hmk := addsL_marked marks [] (by simp [Marked])
 have hmem : ∀ x, decide (x ∈ (addsL marks []).map (·.1)) = decide (x ∈ marks) := fun x => by rw [decide_eq_decide, addsL_mem]; simp
 have H7 := H2.keep0 hm27;have hBo7 := hm27.obj id hBo2;have hids := H7.ids;have hc32 := H7.small.1;have hs27 := hm27.size
 clear hB6 hm3 hm4 hm5 hm6 hm7 hM3 hB3 hB4 hval hadd hM5 hs3 hs6 hm25;go_upto_region 5 with (fail)
 refine q0a [3, 1, 1, 1, 3, 1] (fun _ => True) (by rfl) (by rfl) trivial ?_;simp only [zz2];refine q0b _ rfl rfl ?_;simp only [nmz, Nat.reduceAdd]
 refine q0e rfl (fun K hK => ?_);refine q0l (q0o 38 [.tmp 33] _ rfl _ func38 rfl (by kernel_rfl) [.pointer (some ⟨h.bs, 0, none⟩)] rfl _) (hids) ?_
 rintro e w8 ⟨hm8, v8, ids, he8, hg8, hidc⟩;subst he8
 have hi32 : ∀ x ∈ ids, x.length = 32 := fun x hx => by
  obtain ⟨p, hp, rfl⟩ := List.mem_map.1 ((hidc.2.mem_iff).1 hx);exact (hc32 p hp).1
 have hdels : DelsOn 126 #[.pointer (some ⟨kb, 0, none⟩)] (fun x => decide (x ∈ marks)) (fun q => v8.ownBlock = some q) w8 := fun x W hx hm => by
  have hno : ∀ k, k < w7.heap.size → ¬ (v8.ownBlock = some k) := fun k hk e => by have := (hg8.lt e).1; omega
  have h1 := swKept_any (hm.obj (hno kb hkb7) (hm8.obj id hB7)) ((hM7.keep0 hm8).keep hm (hno mb (by omega))) hmk x hx;rw [hmem] at h1;exact h1
 have hdelc := deleteI_any (enters_of func126 (by kernel_rfl) rfl) hg8 hi32 hdels;refine ⟨_, rfl, hK _ _ trivial ?_⟩;clear hK K;try simp only [nmz, Nat.reduceAdd]
 refine wpX rfl (exec_makeFunc 126 [.tmp 10] (by rfl) [.pointer (some ⟨kb, 0, none⟩)] (by rfl)) trivial ?_;try simp only [nmz, Nat.reduceAdd]
 refine q0e rfl (fun K hK => ?_)
 refine q0l (q0o 125 [.tmp 34, .tmp 35] _ rfl _ func125 rfl (by kernel_rfl) [v8, .func (.func 126) #[] #[.pointer (some ⟨kb, 0, none⟩)]] rfl _) (hdelc) ?_
 rintro e w9 ⟨hm9, bv, he9, hg9, ho9⟩;subst he9;have hbv : ∀ q, bv.ownBlock = some q → w7.heap.size ≤ q := fun q hq => by rw [ho9] at hq; exact (hg8.lt hq).1
 have hm79 : Mod NoB w7 w9 := hm8.trans hm9 (fun k hk e => by have := (hg8.lt e).1; omega);have hBo9 := hm79.obj id hBo7;refine ⟨_, rfl, hK _ _ trivial ?_⟩;clear hK K
 refine q0h _ _ _ _ _ _ rfl rfl rfl fo_104_0 ?_;simp only [nmz, Nat.reduceAdd];refine q0e rfl (fun K hK => ?_)
 refine q1h 25 _ _ w.heap.size 0 bv (by rfl) (by rfl) (by rfl) (owns_one hg9) (by kernel_rfl) _ _ hBo9 (by simp) (fun w10 hB10 hm10 => ?_)
 replace hB10 : w10.heap[w.heap.size]? = some (.cells #[bv, .int .i64 0, .int .i64 0] 104 (0, 0)) := hB10;refine hK _ _ trivial ?_;clear hK K;try simp only [nmz, Nat.reduceAdd]
 refine q0c ?_;have hm29 := hm27.trans0 hm79
 have hg10 : GatI w.heap.size w10 bv (goneL ids marks) := (hg9.keep hm10 (fun q hq e => by have := hbv q hq; have e : q = w.heap.size := e; omega)).base (by omega)
 have hAt : SwpAt w h Ft c l (goneL ids marks) w.heap.size bv 0 (c, l, 0, 0) w10 F2 := by
  refine ⟨rfl, (H2.keep0 hm29).keep hm10 (fun k hk e => hob2 (by rw [← show k = w.heap.size from e]; exact hk)), ?_, ?_, hob2, fun q hq hf => ?_, hB10, hg10, Nat.le_refl _, Nat.le_refl _⟩
  · exact (hm02.trans hm29 (fun _ _ h => h.elim)).trans hm10 (fun k hk e => by have e : k = w.heap.size := e; omega)
  · intro k hk
    exact (hs02 k hk).imp id (fun h => ⟨h.1, by have := h.2; have := hm29.size; have := hm10.size; omega⟩)
  · have := hbv q hq
    have := hlt2 q hf;omega
 obtain ⟨gad, gcap, hgv⟩ := hg10.slice
 have hgl : (goneL ids marks).length ≤ 9223372036854775807 := by
  rcases hg10.2 with ⟨_, h0⟩ | ⟨g, cc, cur, _, _, _, hc, hm, _⟩
  · omega
  · unfold maxLen at hm; omega
 have hgl2 : (goneL ids marks).length ≤ 10000 := by
  have h1 : (goneL ids marks).length ≤ ids.length := List.length_filter_le _ _;have h2 := hidc.2.length_eq;have h3 := H7.small.2.1
  simp at h2
  omega
 have hg32 : ∀ x ∈ goneL ids marks, x.length = 32 := fun x hx => hi32 x (List.mem_filter.1 hx).1;have HIDC := hid hidc;generalize hgone : goneL ids marks = gone at *
 have HGO := hid hgone;have HR0 : Hid (SwpRel w h Ft c l gone w.heap.size bv (.int .i64 (0 : Nat)) w10) := hid ⟨0, _, F2, Nat.zero_le _, rfl, hAt⟩
 have hcB : w10.cell? ⟨w.heap.size, 0, none⟩ = some bv := by simp [World.cell?, hB10]
 rw [hgv] at hcB HR0;generalize hob : w.heap.size = ob at *
 clear hgone hAt hg10 hB10 hm10 hBo9 hm79 hbv hg9 ho9 hm9 hdelc hdels hm29 hi32 hg8 hidc hm8 H7 hids hBo7 hmem hmk hM7 hm27 H2 hB7 hlt2 hs02 hm02 hBo2 hm1
 go_upto_region 6 with (fail);refine q0a [3, 1, 3, 3] (fun _ => True) (by rfl) (by rfl) trivial ?_;simp only [zz2];refine q0h _ _ _ _ _ _ rfl rfl rfl fo_104_0 ?_
 simp only [nmz, Nat.reduceAdd];refine wpX rfl (q0g 25 _ (by rfl) ob 0 (by rfl) _ hcB _ underlying25 rfl) trivial ?_;try simp only [nmz, Nat.reduceAdd]
 refine q1q _ _ _ _ _ rfl rfl rfl (by kernel_rfl) ?_;simp only [nmz, Nat.reduceAdd];refine q0b _ rfl rfl ?_;simp only [nmz, Nat.reduceAdd];refine q0c ?_;clear hcB
 go_wp2
 go_loopw [41] (SwpRel w h Ft c l gone ob (.slice gad gone.length gcap)) (fun i _ => gone.length - (intOf i).toNat)
 case atStart => exact HR0.out
 case round =>
  rename World => wr
  obtain ⟨k, s, Fk, hk, rfl, hat⟩ := hrel;have hrow := hat.row
  by_cases hlt : k < gone.length
  · have hz : (k : Int) < (gone.length : Nat) := by omega
    obtain ⟨g, cap', cur, hce, hg, hcA, -, -, -⟩ := Gat.at hrow idE_len k hlt
    obtain ⟨rfl, rfl⟩ : gad = some ⟨g, 0, none⟩ ∧ gcap = cap' := by injection hce with e1 e2 e3; exact ⟨e1, e3⟩
    have hx32 := hg32 _ (List.getElem_mem hlt);rw [idE_eq hx32] at hcA;have hrun : swRun (gone.take (k + 1)) c l = swStep s gone[k] := by rw [← take_snoc hlt, swRun_snoc, hat.run]
    generalize gone[k] = x at *;have hic : (q0d x).size = 32 := by rw [q0i, hx32]
    have HRUN := hid hrun;have HAT := hid hat;have hboxr := hat.box;have hobk := hat.nob;have hnrk := hat.nrow g rfl
    have hobr : ob < wr.heap.size := (Array.getElem?_eq_some_iff.1 hboxr).1;have hgr : g < wr.heap.size := (Array.getElem?_eq_some_iff.1 hg).1;have hltk := hat.at'.lt
    have hsm := hat.at'.small;have hb1 := hat.b1;have hn1 := hat.n1
    have hgne : g ≠ ob := fun e => by
     subst e;rw [hg] at hboxr;injection hboxr with h1;injection h1 with _ h2 _;exact absurd h2 (by decide)
    clear hrun hat hce;go_upto_region 8 with (fail);refine q0a [3, 1, 1, 1] (fun _ => True) (by rfl) (by rfl) trivial ?_;simp only [zz2]
    refine q1f _ _ _ _ _ _ _ _ _ rfl rfl rfl rfl underlying25 (n := 32) (by kernel_rfl) hlt ?_;simp only [nmz, Nat.reduceAdd]
    refine wpX rfl (q0m 24 _ (by rfl) g (k * 32) (by rfl) (q0d x) hcA _ underlying24 rfl 32 (by kernel_rfl) hic) trivial ?_;try simp only [nmz, Nat.reduceAdd]
    refine q0e rfl (fun K hK => ?_);refine q1c 24 _ (by rfl) idZ (fun w2 hB2 hm2 hs2 => ?_)
    replace hB2 : w2.heap[wr.heap.size]? = some (.cells (q0d (List.replicate 32 0)) 24 (0, 0)) := hB2;refine hK _ _ trivial ?_;clear hK K;try simp only [nmz, Nat.reduceAdd]
    refine q0e rfl (fun K hK => ?_)
    refine q0r 24 _ _ wr.heap.size 0 (q0d x) (by rfl) (by rfl) (by rfl) (q0x _) 32 (by kernel_rfl) hic _ _ hB2 (by rw [hic, q0i]; simp) (fun w3 hB3 hm3 => ?_)
    rw [q0n (by rw [hic, q0i]; simp)] at hB3;refine hK _ _ trivial ?_;clear hK K;try simp only [nmz, Nat.reduceAdd]
    refine q0c ?_;have hmr3 : Mod NoB wr w3 := hm2.transB hm3 (Nat.le_refl _);have H3 := HAT.out.at'.keep0 hmr3;have hbox3 := hmr3.obj id hboxr;have hrow3 := hrow.keep0 hmr3
    have hib3 : wr.heap.size < w3.heap.size := (Array.getElem?_eq_some_iff.1 hB3).1;have hsz := H3.size x hx32;clear hm2 hm3 hB2 hs2 hcA hg hboxr hrow
    generalize hib : wr.heap.size = ib at *;obtain ⟨m, hmm2⟩ : ∃ m, ((getL x s.1).getD []).length = m := ⟨_, rfl⟩
    have hm4096 : m ≤ 4096 := by
     rw [← hmm2]
     cases hgx : getL x s.1 with
     | none => simp
     | some b => exact (hsm.1 _ (getL_mem hgx)).2
    obtain ⟨mo, hmo⟩ : ∃ mo, (getL x s.1).isSome = mo := ⟨_, rfl⟩;unfold SizeR at hsz;rw [hmm2, hmo] at hsz;have HMM := hid hmm2;clear hmm2 hmo;go_upto_region 9 with (fail)
    refine q0a [3, 1, 1, 3, 3, 3, 3, 3] (fun _ => True) (by rfl) (by rfl) trivial ?_;simp only [zz2];refine q0b _ rfl rfl ?_;simp only [nmz, Nat.reduceAdd]
    refine wpX rfl (q0m 24 _ (by rfl) ib 0 (by rfl) (q0d x) (CellsAt.whole hB3) _ underlying24 rfl 32 (by kernel_rfl) hic) trivial ?_;try simp only [nmz, Nat.reduceAdd]
    refine q0e rfl (fun K hK => ?_)
    refine q0l (q0o 91 [.tmp 46, .tmp 47] _ rfl _ func91 rfl (by kernel_rfl) [.pointer (some ⟨h.bs, 0, none⟩), .agg (q0d x)] rfl _) (hsz) ?_;rintro e w4 ⟨hm4, he4⟩
    subst he4;refine ⟨_, rfl, hK _ _ trivial ?_⟩;clear hK K;refine q0b _ rfl rfl ?_;simp only [nmz, Nat.reduceAdd]
    refine q0q rfl (fun w' => q0s _ 0 #[.int .i64 (m : Nat), .bool mo] rfl rfl (.int .i64 (m : Nat)) rfl) ?_;simp only [nmz, Nat.reduceAdd]
    refine q0q rfl (fun w' => q0s _ 1 #[.int .i64 (m : Nat), .bool mo] rfl rfl (.bool mo) rfl) ?_;simp only [nmz, Nat.reduceAdd];refine q0f _ rfl rfl ?_
    simp only [nmz, Nat.reduceAdd];refine q0f _ rfl rfl ?_;simp only [nmz, Nat.reduceAdd];refine q0c ?_;have H4 := H3.keep0 hm4;have hbox4 := hm4.obj id hbox3
    have hB4 := hm4.obj id hB3;have hrow4 := hrow3.keep0 hm4;have hmr4 := hmr3.trans0 hm4;have hs34 := hm4.size;have hdrop := H4.drop x hx32;clear hsz H3 hB3 hbox3 hrow3 hm4 hmr3
    go_upto_region 10 with (fail);refine q0a [3, 1, 1] (fun _ => True) (by rfl) (by rfl) trivial ?_;simp only [zz2];refine q0b _ rfl rfl ?_
    simp only [nmz, Nat.reduceAdd];refine wpX rfl (q0m 24 _ (by rfl) ib 0 (by rfl) (q0d x) (CellsAt.whole hB4) _ underlying24 rfl 32 (by kernel_rfl) hic) trivial ?_
    try simp only [nmz, Nat.reduceAdd]
    refine q0e rfl (fun K hK => ?_)
    refine q0l (q0o 30 [.tmp 51, .tmp 52] _ rfl _ func30 rfl (by kernel_rfl) [.pointer (some ⟨h.bs, 0, none⟩), .agg (q0d x)] rfl _) (hdrop) ?_
    rintro e w5 ⟨v5, rfl, F5, H5, hm5, hs5⟩;refine ⟨_, rfl, hK _ _ trivial ?_⟩;clear hK K;try simp only [nmz, Nat.reduceAdd]
    refine q0c ?_;have hibk : ¬ Fk ib := fun e => by have := hltk _ e; omega
    have hbox5 := hm5.obj hobk hbox4;have hB5 := hm5.obj hibk hB4;have hrow5 := hrow4.keep hm5 (fun q hq => by have hq : some g = some q := hq; cases hq; exact hnrk)
    have hs4 := hmr4.size;have hno5 : ∀ j, j < w4.heap.size → ¬ Fk j → ¬ F5 j := fun j hj hf hf5 => (hs5 j hf5).elim hf (fun h => by have := h.1; omega)
    have hob5 := hno5 ob (by omega) hobk;have hib5 := hno5 ib (by omega) hibk;have hg5 := hno5 g (by omega) hnrk
    have hcb5 : w5.cell? ⟨ob, 0 + 1, none⟩ = some (.int .i64 (s.2.2.1 : Nat)) := by simp [World.cell?, hbox5, q0z]
    clear hdrop hbox4 hB4 hrow4 H4;go_upto_region 11 with (fail);refine q0a [3, 1, 3, 3, 3, 1] (fun _ => True) (by rfl) (by rfl) trivial ?_;simp only [zz2]
    refine q0h _ _ _ _ _ _ rfl rfl rfl fo_104_1 ?_;simp only [nmz, Nat.reduceAdd]
    refine wpX rfl (q0g 3 _ (by rfl) ob (0 + 1) (by rfl) _ hcb5 _ underlying3 rfl) trivial ?_;refine q0b _ rfl rfl ?_;simp only [nmz, Nat.reduceAdd]
    refine q1t _ _ _ _ ((s.2.2.1 : Nat) : Int) ((m : Nat) : Int) ((s.2.2.1 + m : Nat) : Int) rfl rfl rfl rfl (by omega) (by omega) (by omega) ?_;simp only [nmz, Nat.reduceAdd]
    refine q0h _ _ _ _ _ _ rfl rfl rfl fo_104_1 ?_;simp only [nmz, Nat.reduceAdd];refine q0e rfl (fun K hK => ?_)
    refine q1h 3 _ _ ob (0 + 1) (.int .i64 ((s.2.2.1 + m : Nat) : Int)) (by rfl) (by rfl) (by rfl) rfl (by kernel_rfl) _ _ hbox5 (by simp [q0z]) (fun w6 hB6 hm6 => ?_)
    replace hB6 : w6.heap[ob]? = some (.cells (q0z (.slice (some ⟨g, 0, none⟩) gone.length gcap) (s.2.2.1 + m) s.2.2.2) 104 (0, 0)) := hB6;refine hK _ _ trivial ?_;clear hK K
    try simp only [nmz, Nat.reduceAdd]
    refine q0c ?_;have H6 := H5.keep hm6 (fun j hj e => hob5 (by rw [← show j = ob from e]; exact hj));have hid6 := hm6.objB (b := ib) (by omega) hB5
    have hrow6 := hrow5.keep hm6 (fun q hq e => by have hq : some g = some q := hq; cases hq; exact hgne e)
    have hcn6 : w6.drew.cell? ⟨ob, 0 + 2, none⟩ = some (.int .i64 (s.2.2.2 : Nat)) := by
     have h1 : w6.drew.heap[ob]? = _ := hB6
     simp [World.cell?, h1, q0z]
    have hcx6 : CellsAt w6.drew ib 0 (q0d x) := CellsAt.whole (w := w6.drew) hid6;have hdr : Mod NoB w6 w6.drew := (Mod.refl _ _).drew;have hfor := (H6.keep0 hdr).forget x hx32
    rw [hq] at hfor;have hle5 := hm5.size;have hle6 := hm6.size;have hfl : forgetN s.2.1 x ≤ 65536 := Nat.le_trans (List.length_filter_le _ _) hsm.2.2
    obtain ⟨fn, hfn⟩ : ∃ n, forgetN s.2.1 x = n := ⟨_, rfl⟩;rw [hfn] at hfl;simp only [hfn] at hfor;have HFN := hid hfn
    obtain ⟨SC, hSC⟩ : ∃ SC : World → Prop, SC = fun w' => w'.cell? ⟨ob, 0 + 2, none⟩ = some (.int .i64 (s.2.2.2 : Nat)) ∧ CellsAt w' ib 0 (q0d x) := ⟨_, rfl⟩
    have hSi : ∀ w', SC w' → w'.cell? ⟨ob, 0 + 2, none⟩ = some (.int .i64 (s.2.2.2 : Nat)) ∧ CellsAt w' ib 0 (q0d x) := fun w' h => by rw [hSC] at h; exact h
    have hSm : ∀ w', w'.cell? ⟨ob, 0 + 2, none⟩ = some (.int .i64 (s.2.2.2 : Nat)) ∧ CellsAt w' ib 0 (q0d x) → SC w' := fun w' h => by rw [hSC]; exact h
    have hS : SC w6.drew := hSm _ ⟨hcn6, hcx6⟩;clear hfn hSC hcn6 hbox5 hB5 hrow5 H5;go_upto_region 12 with (fail)
    refine q0v [(0, 3), (1, 0), (2, 3), (3, 0), (4, 1), (5, 3), (6, 3), (7, 2)] [7] SC (by kernel_rfl) (by kernel_rfl) (by kernel_rfl) (by kernel_rfl) (fun _ _ _ _ hd h => ⟨hd.trans h.1, h.2⟩) hS ?_
    simp only [zz4];refine q0h _ _ _ _ _ _ rfl rfl rfl fo_104_2 ?_;simp only [nmz, Nat.reduceAdd]
    refine q0j rfl (fun w' hS => q0g 3 _ (by rfl) ob (0 + 2) (by rfl) _ (hSi _ hS).1 _ underlying3 rfl) ?_;simp only [nmz, Nat.reduceAdd];refine q0b _ rfl rfl ?_
    simp only [nmz, Nat.reduceAdd];refine q0j rfl (fun w' hS => q0m 24 _ (by rfl) ib 0 (by rfl) (q0d x) (hSi _ hS).2 _ underlying24 rfl 32 (by kernel_rfl) hic) ?_
    simp only [nmz, Nat.reduceAdd];refine q0e rfl (fun K hK => ?_)
    refine q0l (q0o 127 [.tmp 61, .tmp 62] _ rfl _ func127 rfl (by kernel_rfl) [qv, .agg (q0d x)] rfl _) (hfor) ?_;rintro e w7 ⟨rfl, F7, H7, hm7, hs7⟩
    have hB7 := hm7.obj hob5 (hdr.obj id hB6);have hS2 : SC w7 := hSm _ ⟨by simp [World.cell?, hB7, q0z], hcx6.keep hm7 hib5⟩;refine ⟨_, rfl, hK _ _ hS2 ?_⟩;clear hK K
    try simp only [nmz, Nat.reduceAdd]
    refine q1t _ _ _ _ ((s.2.2.2 : Nat) : Int) ((fn : Nat) : Int) ((s.2.2.2 + fn : Nat) : Int) rfl rfl rfl rfl (by omega) (by omega) (by omega) ?_
    simp only [nmz, Nat.reduceAdd];refine q0h _ _ _ _ _ _ rfl rfl rfl fo_104_2 ?_;simp only [nmz, Nat.reduceAdd];refine q1s rfl (fun K hK => ?_)
    refine q1h 3 _ _ ob (0 + 2) (.int .i64 ((s.2.2.2 + fn : Nat) : Int)) (by rfl) (by rfl) (by rfl) rfl (by kernel_rfl) _ _ hB7 (by simp [q0z]) (fun w8 hB8 hm8 => ?_)
    replace hB8 : w8.heap[ob]? = some (.cells (q0z (.slice (some ⟨g, 0, none⟩) gone.length gcap) (s.2.2.1 + m) (s.2.2.2 + fn)) 104 (0, 0)) := hB8;refine hK _ _ ?_;clear hK K
    try simp only [nmz, Nat.reduceAdd]
    refine q0c ?_;have hno7 : ∀ j, j < w6.heap.size → ¬ F5 j → ¬ F7 j := fun j hj hf hf7 => (hs7 j hf7).elim hf (fun h => by have h := h.1; have : w6.heap.size ≤ j := h; omega)
    have hob7 := hno7 ob (by omega) hob5;have hg7 := hno7 g (by omega) hg5;have hle7 : w6.heap.size ≤ w7.heap.size := hm7.size;have hle8 := hm8.size;have hA := HAT.out
    have hlt0 : w.heap.size = ob := hob
    have hF5 : ∀ j, j < ob → F5 j → Ft j := fun j hj hf => by
     rcases hs5 j hf with h | h
     · rcases hA.sub j h with h | h
       · exact h
       · have := h.1; omega
     · have := h.1; omega
    have hmodA : Mod Ft w w8 := by
     refine Mod.trans (Mod.trans (Mod.trans (Mod.trans (Mod.trans (Mod.trans hA.mod hmr4 (fun _ _ h => h.elim)) hm5 (fun j hj hf => ?_)) hm6 (fun j hj e => ?_)) hdr (fun _ _ h => h.elim)) hm7 (fun j hj hf => hF5 j (by omega) hf)) hm8 (fun j hj e => ?_)
     · rcases hA.sub j hf with h | h
       · exact h
       · have := h.1; omega
     · have e : j = ob := e; omega
     · have e : j = ob := e; omega
    have hAt : SwpAt w h Ft c l gone ob (.slice (some ⟨g, 0, none⟩) gone.length gcap) (k + 1) (swStep s x) w8 F7 := by
     refine ⟨HRUN.out, H7.keep hm8 (fun j hj e => hob7 (by rw [← show j = ob from e]; exact hj)), hmodA, fun j hf => ?_, hob7, fun q hq => ?_, ?_, ?_, ?_, ?_⟩
     · rcases hs7 j hf with h7 | h7
       · rcases hs5 j h7 with h5 | h5
         · exact (hA.sub j h5).imp id (fun h => ⟨h.1, by have := h.2; omega⟩)
         · exact .inr ⟨by have := h5.1; omega, by have := h5.2; omega⟩
       · exact .inr ⟨by have h := h7.1; have : w6.heap.size ≤ j := h; omega, by have := h7.2; omega⟩
     · have hq : some g = some q := hq
       cases hq
       exact hg7
     · unfold swStep
       rw [HMM.out, HFN.out];exact hB8
     · exact ((hrow6.keep0 hdr).keep hm7 (fun q hq => by have hq : some g = some q := hq; cases hq; exact hg5)).keep hm8 (fun q hq e => by have hq : some g = some q := hq; cases hq; exact hgne e)
     · unfold swStep
       rw [HMM.out]
       show s.2.2.1 + m ≤ _
       omega
     · unfold swStep
       rw [HFN.out]
       show s.2.2.2 + fn ≤ _
       omega
    have HR : Hid (SwpRel w h Ft c l gone ob (.slice (some ⟨g, 0, none⟩) gone.length gcap) (.int .i64 ((k + 1 : Nat) : Int)) w8) := hid ⟨k + 1, _, F7, by omega, rfl, hAt⟩
    clear hAt hmodA hA hB8 hm8 hm7 hm6 hm5 hs7 hs5 hB7 hS hS2 hSi hSm H6 hrow6 hfor hB6 hid6 hcx6 hdr hmr4 H7;go_wp2
    go_roundw
    case rel => exact HR.out
    case measure => simp [intOf]; omega
  · have hz : ¬ (k : Int) < (gone.length : Nat) := by omega
    obtain rfl : k = gone.length := by omega
    have hbox := hat.box;have hrun := hat.run;rw [List.take_length] at hrun;have hone : (Value.slice gad gone.length gcap).oneCell' = true := rfl
    have hall : ∀ cc ∈ q0z (.slice gad gone.length gcap) s.2.2.1 s.2.2.2, cc.oneCell' = true := by
     intro cc hc
     simp [q0z] at hc
     rcases hc with rfl | rfl | rfl <;> rfl
    have hca : CellsAt wr ob 0 (q0z (.slice gad gone.length gcap) s.2.2.1 s.2.2.2) := CellsAt.whole hbox;go_upto_region 14 with (fail)
    refine q0a [1, 1, 3] (fun _ => True) (by rfl) (by rfl) trivial ?_;simp only [zz2]
    refine wpX rfl (q0m 104 _ (by rfl) ob 0 (by rfl) (q0z (.slice gad gone.length gcap) s.2.2.1 s.2.2.2) hca _ underlying104 rfl 3 (by kernel_rfl) rfl) trivial ?_
    try simp only [nmz, Nat.reduceAdd]
    refine q0e rfl (fun K hK => ?_)
    refine q0r 104 _ _ ob 0 (q0z (.slice gad gone.length gcap) s.2.2.1 s.2.2.2) (by rfl) (by rfl) (by rfl) hall 3 (by kernel_rfl) rfl _ _ hbox (by simp [q0z]) (fun w9 hB9 hm9 => ?_)
    rw [q0n rfl] at hB9;refine hK _ _ trivial ?_;clear hK K;refine q0f _ rfl rfl ?_;simp only [nmz, Nat.reduceAdd];refine q0c ?_
    have hlt0 : w.heap.size = ob := hob;have hnob := hat.nob
    have HF : Hid (SwpR w h Ft c l marks (.returned (.tuple #[.agg (q0z (.slice gad gone.length gcap) s.2.2.1 s.2.2.2), .int .i64 0])) w9) := hid (by
     refine ⟨ids, .slice gad gone.length gcap, s, Fk, HIDC.out, by rw [HGO.out]; exact hrun, rfl, ?_, hat.at'.keep hm9 (fun j hj e => hnob (by rw [← show j = ob from e]; exact hj)), hat.mod.trans hm9 (fun j hj e => by have e : j = ob := e; omega), fun j hj => (hat.sub j hj).imp id (fun h => ⟨h.1, by have := h.2; have := hm9.size; omega⟩), hat.nrow⟩
     rw [HGO.out];refine hrow.keep hm9 (fun q hq e => ?_);have e : q = ob := e;rw [e] at hq
     rcases hrow.2 with ⟨h1, _⟩ | ⟨g, cc, cur, h1, _, hg, _⟩
     · injection h1 with h1
       rw [h1] at hq
       cases hq
     · injection h1 with h1
       rw [h1] at hq;have hq : some g = some ob := hq
       cases hq
       rw [hg] at hbox;injection hbox with h1;injection h1 with _ h2 _
       exact absurd h2 (by decide))
    clear hm9 hrow hat hbox hca hrun;go_wp2;refine bodyPost_ret (q2a (P := prog) (ty := 104) rfl _ _ ob _ _ _ _ (by rfl) hB9 underlying104 rfl (by kernel_rfl)) rfl ?_
    exact HF.out
end
end Go.Proofs.YtjeonjoifjbohaaGreat
namespace Go.Proofs.YtjeonjoifjbohaaGreat
open Go.RowKit Go.Proofs.Tryz Go.Lib
structure Evt where
 r : Int
 n : Int
 deps : List Int
 kind : Int
 repo : ByteArray
 tag : ByteArray
 id : List UInt8
 refs : List (List UInt8)
 deriving DecidableEq
def evCells (e : Evt) (dv rv : Value) : Array Value :=
 #[.int .i64 e.r, .int .i64 e.n, dv, .int .i64 e.kind, .string e.repo, .string e.tag] ++ q0d e.id ++ #[rv]
def EvR (own : Bool) (w : World) (G : Nat → Prop) (cs : Array Value) (e : Evt) : Prop :=
 ∃ dv rv, cs = evCells e dv rv ∧ e.id.length = 32 ∧ Sl own w G 1 IntC dv e.deps ∧ Sl own w G 32 IdC rv e.refs ∧ e.repo.size ≤ maxLen ∧ e.tag.size ≤ maxLen
structure EvCells (cs : Array Value) (e : Evt) (dv rv : Value) : Prop where
 size : cs.size = 39
 c0 : cs[0]? = some (.int .i64 e.r)
 c1 : cs[1]? = some (.int .i64 e.n)
 c2 : cs[2]? = some dv
 c3 : cs[3]? = some (.int .i64 e.kind)
 c4 : cs[4]? = some (.string e.repo)
 c5 : cs[5]? = some (.string e.tag)
 c38 : cs[38]? = some rv
 dot : cs.extract 0 2 = #[.int .i64 e.r, .int .i64 e.n]
 id : cs.extract 6 38 = q0d e.id
theorem evCells_spec (e : Evt) (dv rv : Value) (h : e.id.length = 32) : EvCells (evCells e dv rv) e dv rv := by
 have hi : (q0d e.id).size = 32 := by rw [q0i, h]
 have hl : (e.id.map byteV).length = 32 := by simpa using h
 refine ⟨by simp [evCells, hi], ?_, ?_, ?_, ?_, ?_, ?_, ?_, ?_, ?_⟩
 all_goals try (simp [evCells, q0d, h]; done)
 · apply Array.toList_inj.1
   simp only [evCells, q0d, Array.toList_extract, Array.toList_append, List.extract_eq_take_drop]
   simp [hl]
theorem evCells_one {e : Evt} {dv rv : Value} (h1 : dv.oneCell' = true) (h2 : rv.oneCell' = true) : ∀ c ∈ evCells e dv rv, c.oneCell' = true := by
 intro c hc;simp only [evCells, Array.mem_append] at hc
 rcases hc with (hc | hc) | hc
 · simp at hc
   rcases hc with rfl | rfl | rfl | rfl | rfl | rfl <;> first | rfl | exact h1
 · exact q0x _ c hc
 · simp at hc; subst hc; exact h2
theorem EvR.keep {own : Bool} {w w' : World} {G S : Nat → Prop} {cs : Array Value} {e : Evt} (h : EvR own w G cs e) (hm : Mod S w w') (hd : ∀ k, G k → ¬ S k) : EvR own w' G cs e := by
 obtain ⟨dv, rv, hc, hi, h1, h2, h3⟩ := h;exact ⟨dv, rv, hc, hi, h1.keep hm hd fun _ _ h => h, h2.keep hm hd fun _ _ h => h, h3⟩
theorem EvR.mono {own : Bool} {w : World} {G G' : Nat → Prop} {cs : Array Value} {e : Evt} (h : EvR own w G cs e) (hg : ∀ k, G k → G' k) : EvR own w G' cs e := by
 obtain ⟨dv, rv, hc, hi, h1, h2, h3⟩ := h;exact ⟨dv, rv, hc, hi, h1.mono hg fun _ _ h => h, h2.mono hg fun _ _ h => h, h3⟩
theorem EvR.keep0 {own : Bool} {w w' : World} {G : Nat → Prop} {cs : Array Value} {e : Evt} (h : EvR own w G cs e) (hm : Mod NoB w w') : EvR own w' G cs e := h.keep hm (fun _ _ => id)
theorem EvR.weak {own : Bool} {w : World} {G : Nat → Prop} {cs : Array Value} {e : Evt} (h : EvR own w G cs e) : EvR false w G cs e := by
 obtain ⟨dv, rv, hc, hi, h1, h2, h3⟩ := h;exact ⟨dv, rv, hc, hi, h1.weak, h2.weak, h3⟩
theorem SlEv.keep0 {own own' : Bool} {w w' : World} {E G : Nat → Prop} {v : Value} {l : List Evt} (h : Sl own w E 39 (EvR own' w G) v l) (hm : Mod NoB w w') : Sl own w' E 39 (EvR own' w' G) v l := h.keep hm (fun _ _ => id) (fun _ _ h => h.keep0 hm)
end Go.Proofs.YtjeonjoifjbohaaGreat
namespace Go.Proofs.YtjeonjoifjbohaaGreat
open Go.RowKit Go.Shelf Go.Proofs.Tryz Go.Lib
theorem fo_152_0 : q1l prog 152 0 = some 0 := by kernel_rfl
instance : Inhabited DescL := ⟨descZ⟩
def ReachR (w : World) (mb : Nat) (all : Marks) : Ending → World → Prop := fun e w' => e = .returned (.tuple #[]) ∧ MarksAt w' mb all ∧ Mod (fun k => k = mb) w w'
def foldM (c : BlobM) (f depth : Nat) (ds : List DescL) (all : Marks) : Marks := ds.foldl (fun all d => if q3s d then q3a c f d.id (depth + 1) all else leafM all d.id) all
theorem foldM_succ (c : BlobM) (f depth : Nat) (ds : List DescL) (all : Marks) (k : Nat) (hk : k < ds.length) : foldM c f depth (ds.take (k + 1)) all = if q3s ds[k] then q3a c f ds[k].id (depth + 1) (foldM c f depth (ds.take k) all) else leafM (foldM c f depth (ds.take k) all) ds[k].id := by
 unfold foldM;rw [List.take_succ_eq_append_getElem hk, List.foldl_append]
 rfl
def ReachRel (w0 : World) (mb : Nat) (c : BlobM) (f depth : Nat) (ds : List DescL) (all : Marks) (i : Value) (w : World) : Prop := ∃ k : Nat, k ≤ ds.length ∧ i = .int .i64 k ∧ MarksAt w mb (foldM c f depth (ds.take k) all) ∧ Mod (fun q => q = mb) w0 w
theorem descRow_at1 {m : Nat} {x : List UInt8} {n : Nat} {p : List UInt8} : ∀ j, j < (q0d x).size → (q2x m x n p)[1 + j]? = (q0d x)[j]? := by
 intro j hj;rw [q0i] at hj;rw [← Array.getElem?_toList, ← Array.getElem?_toList, Nat.add_comm];simp only [q2x, List.getElem?_cons_succ, q0d]
 rw [List.getElem?_append_left (by simpa using hj)]
theorem wasM_eq (all : Marks) (id : List UInt8) (depth : Nat) : wasM all id depth = ((getL id all).isSome && (decide (0 < (getL id all).getD 0) && decide ((getL id all).getD 0 ≤ depth))) := by
 unfold wasM
 cases getL id all <;> simp
theorem mark_look (id : List UInt8) (all : Marks) : (if true = true then Value.tuple #[(getL id (marksV all)).getD (linkV 0), .bool (getL id (marksV all)).isSome] else (getL id (marksV all)).getD (linkV 0)) = .tuple #[linkV ((((getL id all).getD 0 : Nat)) : Int), .bool (getL id all).isSome] := by
 rw [if_pos rfl, marks_get]
 cases getL id all <;> rfl
theorem linkV_one (n : Int) : ∀ c ∈ (#[.int .i64 n] : Array Value), c.oneCell' = true := by simp [Value.oneCell']
section
variable {bs ms wd : Nat} {room : Int} {bl : List Blb} {mb : Nat}
theorem StInv.keepM {w w' : World} (h : StInv w bs ms wd room bl) (hmb : ¬ SFoot bs ms bl mb) (hm : Mod (fun k => k = mb) w w') : StInv w' bs ms wd room bl := h.keep hm (fun k hk e => hmb (by have e' : k = mb := e; rw [← e']; exact hk))
theorem clReach_any (hmb : ¬ SFoot bs ms bl mb) : ∀ (f : Nat) (id : List UInt8) (depth : Nat) (all : Marks) (w : World), id.length = 32 → 0 < depth → depth + f = 6 → 0 < f → StInv w bs ms wd room bl → MarksAt w mb all →
 Calls prog 87 #[.pointer (some ⟨bs, 0, none⟩), .agg (q0d id), .int .i64 depth, .map (some mb)] w (ReachR w mb (q3a (cont bl) f id depth all))
 | 0, _, _, _, _, _, _, _, h, _, _ => by omega
 | f + 1, di, depth, all, w, hid, hd0, hdf, _, hst, hM => by
  have ih := clReach_any hmb f;have IH := Lib.hid ih;have hic : (q0d di).size = 32 := by rw [q0i, hid]
  have H := Lib.hid hst;have HM := Lib.hid hM;have hmbl : mb < w.heap.size := hM.lt;have HW := Lib.hid (wasM_eq all di depth);have HLK := Lib.hid (mark_look di all)
  obtain ⟨kk, hkk⟩ : ∃ q, (getL di all).getD 0 = q := ⟨_, rfl⟩;obtain ⟨is, his⟩ : ∃ q, (getL di all).isSome = q := ⟨_, rfl⟩;rw [hkk, his] at HW HLK
  have hwas : ∃ q, wasM all di depth = q := ⟨_, rfl⟩;obtain ⟨was, hwas⟩ := hwas;rw [hwas] at HW;have HWAS := Lib.hid hwas;have hdz : depth ≤ 5 := by omega
  clear hst hM hkk his hwas ih;go_enter func87, ntmps87;go_upto_region 0 with (fail);refine q0a [1] (fun _ => True) (by rfl) (by rfl) trivial ?_;simp only [zz2]
  refine q0e rfl (fun K hK => ?_);refine q2i 24 _ _ (by rfl) (by rfl) (fun w1 hB1 hm1 hs1 => ?_)
  replace hB1 : w1.heap[w.heap.size]? = some (.cells (q0d di) 24 (0, 0)) := hB1;refine hK _ _ trivial ?_;clear hK K;try simp only [nmz, Nat.reduceAdd]
  refine q0c ?_;have HM1 := Lib.hid (HM.out.keep0 hm1);have hm1s : w.heap.size < w1.heap.size := hs1;generalize hb5 : w.heap.size = b5 at *;go_upto_region 1 with (fail)
  refine q0a [3, 1, 1, 3, 3, 3, 1, 1, 3] (fun _ => True) (by rfl) (by rfl) trivial ?_;simp only [zz2];refine q0b _ rfl rfl ?_;simp only [nmz, Nat.reduceAdd]
  refine wpX rfl (q0m 24 _ (by rfl) b5 0 (by rfl) (q0d di) (CellsAt.whole hB1) _ underlying24 rfl 32 (by kernel_rfl) hic) trivial ?_;try simp only [nmz, Nat.reduceAdd]
  refine wpX rfl (q3d keyT_id HM1.out di hid 144 152 underlying144 (linkV 0) cmarkZ _ _ true (by rfl) (by rfl) (by rfl) _ HLK.out) trivial ?_;refine q0b _ rfl rfl ?_
  simp only [nmz, Nat.reduceAdd];refine q0q (v := ?_) rfl (fun w' => ?_) ?_; rotate_left; · (go_simp; try with_reducible rfl)
  simp only [nmz, Nat.reduceAdd];refine q0q (v := ?_) rfl (fun w' => ?_) ?_; rotate_left; · (go_simp; try with_reducible rfl)
  simp only [nmz, Nat.reduceAdd];refine q0e rfl (fun K hK => ?_);refine q1c 152 _ (by rfl) cmarkZ (fun w2 hB2 hm2 hs2 => ?_)
  replace hB2 : w2.heap[w1.heap.size]? = some (.cells #[.int .i64 0] 152 (0, 0)) := hB2;refine hK _ _ trivial ?_;clear hK K;try simp only [nmz, Nat.reduceAdd]
  refine q0e rfl (fun K hK => ?_)
  refine q0r 152 _ _ w1.heap.size 0 #[.int .i64 kk] (by rfl) (by rfl) (by rfl) (linkV_one _) 1 (by kernel_rfl) rfl _ _ hB2 (by simp) (fun w3 hB3 hm3 => ?_)
  rw [q0n (by rfl)] at hB3;refine hK _ _ trivial ?_;clear hK K;refine q0f _ rfl rfl ?_;simp only [nmz, Nat.reduceAdd];refine q0c ?_
  have hm13 : Mod NoB w1 w3 := hm2.transB hm3 (Nat.le_refl _);have HB1 := Lib.hid (hm13.obj id hB1)
  have hck : w3.cell? ⟨w1.heap.size, 0, none⟩ = some (.int .i64 kk) := by simp [World.cell?, hB3]
  have HM03 := Lib.hid (hm1.trans0 hm13);replace HM1 := Lib.hid (HM1.out.keep0 hm13);generalize hb8 : w1.heap.size = b8 at *;clear hm1 hm13 hm2 hm3 hB1 hB2 hB3 hs1 hs2
  go_upto_region 2 with (fail)
  go_cut [35] (fun s wx => s = .bool was ∧ wx = w3)
  case first =>
   have hw := HW.out
   cases is with
   | false =>
    obtain rfl : was = false := by simpa using hw
    clear hw;refine q0a [3, 3, 3, 0, 3, 3, 3, 3, 0, 3, 3, 3] (fun _ => True) (by rfl) (by rfl) trivial ?_;simp only [zz2];refine q0b _ rfl rfl ?_
    simp only [nmz, Nat.reduceAdd];refine q0b _ rfl rfl ?_;simp only [nmz, Nat.reduceAdd];refine q1a rfl ?_;simp only [nmz, Nat.reduceAdd];refine q1r rfl ?_
    simp only [nmz, Nat.reduceAdd];refine q1a rfl ?_;simp only [nmz, Nat.reduceAdd];refine q1b _ _ _ _ rfl rfl rfl ?_;simp only [nmz, Nat.reduceAdd]
    refine q0b _ rfl rfl ?_;simp only [nmz, Nat.reduceAdd];refine q1a rfl ?_;simp only [nmz, Nat.reduceAdd];refine q1r rfl ?_;simp only [nmz, Nat.reduceAdd]
    refine q1a rfl ?_;simp only [nmz, Nat.reduceAdd];refine q1a rfl ?_;simp only [nmz, Nat.reduceAdd];refine q1b _ _ _ _ rfl rfl rfl ?_
    simp only [nmz, Nat.reduceAdd];refine q0c ?_;go_wp2
    go_meet
    case rel => exact ⟨rfl, rfl⟩
   | true =>
    by_cases hk0 : 0 < kk
    · have hz : (kk : Int) > 0 := by omega
      by_cases hkd : kk ≤ depth
      · have hz2 : (kk : Int) ≤ (depth : Int) := by omega
        obtain rfl : was = true := by simpa [hk0, hkd] using hw
        clear hw;refine q0a [3, 3, 3, 1, 3, 3, 3, 3, 1, 3, 3, 3] (fun _ => True) (by rfl) (by rfl) trivial ?_;simp only [zz2];refine q0b _ rfl rfl ?_
        simp only [nmz, Nat.reduceAdd];refine q0b _ rfl rfl ?_;simp only [nmz, Nat.reduceAdd];refine q0h _ _ _ _ _ _ rfl rfl rfl fo_152_0 ?_
        simp only [nmz, Nat.reduceAdd];refine wpX rfl (q0g 3 _ (by rfl) b8 0 (by rfl) (.int .i64 kk) hck _ underlying3 rfl) trivial ?_;try simp only [nmz, Nat.reduceAdd]
        refine q1e _ _ _ _ _ _ _ _ rfl rfl rfl rfl rfl true (decide_eq_true hz) ?_;simp only [nmz, Nat.reduceAdd];refine q1b _ _ _ _ rfl rfl rfl ?_
        simp only [nmz, Nat.reduceAdd];refine q0b _ rfl rfl ?_;simp only [nmz, Nat.reduceAdd];refine q0h _ _ _ _ _ _ rfl rfl rfl fo_152_0 ?_
        simp only [nmz, Nat.reduceAdd];refine wpX rfl (q0g 3 _ (by rfl) b8 0 (by rfl) (.int .i64 kk) hck _ underlying3 rfl) trivial ?_;refine q0b _ rfl rfl ?_
        simp only [nmz, Nat.reduceAdd];refine q1e _ _ _ _ _ _ _ _ rfl rfl rfl rfl rfl true (decide_eq_true hz2) ?_;simp only [nmz, Nat.reduceAdd]
        refine q1b _ _ _ _ rfl rfl rfl ?_;simp only [nmz, Nat.reduceAdd];refine q0c ?_;go_wp2
        go_meet
        case rel => exact ⟨rfl, rfl⟩
      · have hz2 : ¬ (kk : Int) ≤ (depth : Int) := by omega
        obtain rfl : was = false := by simpa [hk0, hkd] using hw
        clear hw;refine q0a [3, 3, 3, 1, 3, 3, 3, 3, 1, 3, 3, 3] (fun _ => True) (by rfl) (by rfl) trivial ?_;simp only [zz2];refine q0b _ rfl rfl ?_
        simp only [nmz, Nat.reduceAdd];refine q0b _ rfl rfl ?_;simp only [nmz, Nat.reduceAdd];refine q0h _ _ _ _ _ _ rfl rfl rfl fo_152_0 ?_
        simp only [nmz, Nat.reduceAdd];refine wpX rfl (q0g 3 _ (by rfl) b8 0 (by rfl) (.int .i64 kk) hck _ underlying3 rfl) trivial ?_;try simp only [nmz, Nat.reduceAdd]
        refine q1e _ _ _ _ _ _ _ _ rfl rfl rfl rfl rfl true (decide_eq_true hz) ?_;simp only [nmz, Nat.reduceAdd];refine q1b _ _ _ _ rfl rfl rfl ?_
        simp only [nmz, Nat.reduceAdd];refine q0b _ rfl rfl ?_;simp only [nmz, Nat.reduceAdd];refine q0h _ _ _ _ _ _ rfl rfl rfl fo_152_0 ?_
        simp only [nmz, Nat.reduceAdd];refine wpX rfl (q0g 3 _ (by rfl) b8 0 (by rfl) (.int .i64 kk) hck _ underlying3 rfl) trivial ?_;refine q0b _ rfl rfl ?_
        simp only [nmz, Nat.reduceAdd];refine q1e _ _ _ _ _ _ _ _ rfl rfl rfl rfl rfl false (decide_eq_false hz2) ?_;simp only [nmz, Nat.reduceAdd]
        refine q1b _ _ _ _ rfl rfl rfl ?_;simp only [nmz, Nat.reduceAdd];refine q0c ?_;go_wp2
        go_meet
        case rel => exact ⟨rfl, rfl⟩
    · have hz : ¬ (kk : Int) > 0 := by omega
      obtain rfl : was = false := by simpa [hk0] using hw
      clear hw;refine q0a [3, 3, 3, 1, 3, 3, 3, 3, 0, 3, 3, 3] (fun _ => True) (by rfl) (by rfl) trivial ?_;simp only [zz2];refine q0b _ rfl rfl ?_
      simp only [nmz, Nat.reduceAdd];refine q0b _ rfl rfl ?_;simp only [nmz, Nat.reduceAdd];refine q0h _ _ _ _ _ _ rfl rfl rfl fo_152_0 ?_
      simp only [nmz, Nat.reduceAdd];refine wpX rfl (q0g 3 _ (by rfl) b8 0 (by rfl) (.int .i64 kk) hck _ underlying3 rfl) trivial ?_;try simp only [nmz, Nat.reduceAdd]
      refine q1e _ _ _ _ _ _ _ _ rfl rfl rfl rfl rfl false (decide_eq_false hz) ?_;simp only [nmz, Nat.reduceAdd];refine q1b _ _ _ _ rfl rfl rfl ?_
      simp only [nmz, Nat.reduceAdd];refine q0b _ rfl rfl ?_;simp only [nmz, Nat.reduceAdd];refine q1a rfl ?_;simp only [nmz, Nat.reduceAdd];refine q1r rfl ?_
      simp only [nmz, Nat.reduceAdd];refine q1a rfl ?_;simp only [nmz, Nat.reduceAdd];refine q1a rfl ?_;simp only [nmz, Nat.reduceAdd]
      refine q1b _ _ _ _ rfl rfl rfl ?_;simp only [nmz, Nat.reduceAdd];refine q0c ?_;go_wp2
      go_meet
      case rel => exact ⟨rfl, rfl⟩
  case rest =>
   obtain ⟨rfl, hw⟩ := hcut;obtain rfl := hw.symm;clear HW hck HLK
   cases was with
   | true =>
    have HF : Hid (ReachR w mb (q3a (cont bl) (f + 1) di depth all) (.returned (.tuple #[])) w3) := Lib.hid ⟨rfl, by unfold q3a; rw [if_pos HWAS.out]; exact HM1.out, HM03.out.mono (fun _ _ h => h.elim)⟩
    go_wp2
    go_end0
    exact HF.out
   | false =>
    have HRE : Hid (q3a (cont bl) (f + 1) di depth all = if 4 < depth then putL di depth all else match descsOf (cont bl) di with | none => putL di depth all | some ds => foldM (cont bl) f depth ds (putL di depth all)) := Lib.hid (by
     unfold q3a;rw [if_neg (by rw [HWAS.out]; simp)]
     rfl)
    have hb1c := HB1.out;go_upto_region 3 with (fail);refine q0a [3, 1, 3, 0, 1] (fun _ => True) (by rfl) (by rfl) trivial ?_;simp only [zz2];refine q0b _ rfl rfl ?_
    simp only [nmz, Nat.reduceAdd];refine wpX rfl (q0m 24 _ (by rfl) b5 0 (by rfl) (q0d di) (CellsAt.whole hb1c) _ underlying24 rfl 32 (by kernel_rfl) hic) trivial ?_
    refine q0b _ rfl rfl ?_;simp only [nmz, Nat.reduceAdd]
    refine q0j rfl (fun w' hS => q0y 152 [(0, _)] [(0, .int .i64 depth)] _ (by rfl) (by rfl) (built_cmark depth)) ?_;simp only [nmz, Nat.reduceAdd]
    refine q0e rfl (fun K hK => ?_);refine wp_putL keyT_id HM1.out di hid 144 152 underlying144 _ _ _ (linkV depth) (by rfl) (by rfl) (by rfl) (by rfl) (fun w4 hM4 hm4 => ?_)
    rw [marks_put] at hM4;have HM4 := Lib.hid hM4;refine hK _ _ trivial ?_;clear hK K;try simp only [nmz, Nat.reduceAdd]
    refine q0c ?_;have hm04 : Mod (fun k => k = mb) w w4 := (HM03.out.mono (fun _ _ h => h.elim)).trans hm4 (fun _ _ h => h);have H4 := Lib.hid (H.out.keepM hmb hm04)
    have hb14 := hm4.objB (b := b5) (by omega) hb1c;have HM04 := Lib.hid hm04;obtain ⟨all1, hall1⟩ : ∃ q, putL di depth all = q := ⟨_, rfl⟩;rw [hall1] at HM4 HRE
    have hget := bGet_any H4.out di hid;clear hM4 hm4 hm04 hb1c hall1;obtain ⟨r, hr⟩ : ∃ q, getL di (cont bl) = q := ⟨_, rfl⟩;rw [hr] at hget;have HGR := Lib.hid hr;clear hr
    cases r with
    | none =>
     have HF0 : Hid (q3a (cont bl) (f + 1) di depth all = all1) := Lib.hid (by
      rw [HRE.out];have : descsOf (cont bl) di = none := by unfold descsOf; rw [HGR.out]
      rw [this]
      split <;> rfl)
     go_upto_region 4 with (fail);refine q0a [3, 1, 1, 3, 3, 3, 3, 3] (fun _ => True) (by rfl) (by rfl) trivial ?_;simp only [zz2];refine q0b _ rfl rfl ?_
     simp only [nmz, Nat.reduceAdd];refine wpX rfl (q0m 24 _ (by rfl) b5 0 (by rfl) (q0d di) (CellsAt.whole hb14) _ underlying24 rfl 32 (by kernel_rfl) hic) trivial ?_
     try simp only [nmz, Nat.reduceAdd]
     refine q0e rfl (fun K hK => ?_)
     refine q0l (q0o 33 [.tmp 41, .tmp 42] _ rfl _ func33 rfl (by kernel_rfl) [.pointer (some ⟨bs, 0, none⟩), .agg (q0d di)] rfl _) (hget) ?_;rintro e w5 ⟨hm5, rfl⟩
     refine ⟨_, rfl, hK _ _ trivial ?_⟩;clear hK K;refine q0b _ rfl rfl ?_;simp only [nmz, Nat.reduceAdd]
     refine q0q (v := ?_) rfl (fun w' => ?_) ?_; rotate_left; · (go_simp; try with_reducible rfl)
     simp only [nmz, Nat.reduceAdd];refine q0q (v := ?_) rfl (fun w' => ?_) ?_; rotate_left; · (go_simp; try with_reducible rfl)
     simp only [nmz, Nat.reduceAdd];refine q0f _ rfl rfl ?_;simp only [nmz, Nat.reduceAdd];refine q0f _ rfl rfl ?_;simp only [nmz, Nat.reduceAdd];refine q0c ?_
     go_upto_region 5 with (fail);refine q0a [3, 1, 3, 3, 3, 1, 1, 1, 1] (fun _ => True) (by rfl) (by rfl) trivial ?_;simp only [zz2];refine q0b _ rfl rfl ?_
     simp only [nmz, Nat.reduceAdd];refine q0e rfl (fun K hK => ?_)
     refine q0l (q0o 158 [.tmp 47] _ rfl _ func158 rfl (by kernel_rfl) [.slice none 0 0] rfl _) (mDecode_any (b := []) (Sl.nil true w5 (fun _ => True) 1 ByteC) (by simp)) ?_
     rintro e w6 ⟨hm6, cs, er, at_, rfl, her, hmc⟩;have hcs := hmc.size;have hone := hmc.one;refine ⟨_, rfl, hK _ _ trivial ?_⟩;clear hK K;refine q0b _ rfl rfl ?_
     simp only [nmz, Nat.reduceAdd];refine q0q (v := ?_) rfl (fun w' => ?_) ?_; rotate_left; · (go_simp; try with_reducible rfl)
     simp only [nmz, Nat.reduceAdd];refine q0q (v := ?_) rfl (fun w' => ?_) ?_; rotate_left; · (go_simp; try with_reducible rfl)
     simp only [nmz, Nat.reduceAdd];refine q0e rfl (fun K hK => ?_);refine q1c 163 _ (by rfl) manZ_i (fun w7 hB7 hm7 hs7 => ?_)
     replace hB7 : w7.heap[w6.heap.size]? = some (.cells (q1i 0 [] descZ (.slice none 0 0) (.slice none 0 0)) 163 (0, 0)) := hB7;refine hK _ _ trivial ?_;clear hK K
     try simp only [nmz, Nat.reduceAdd]
     refine q0e rfl (fun K hK => ?_);refine q1c 255 _ (by rfl) fltZ (fun w8 hB8 hm8 hs8 => ?_)
     replace hB8 : w8.heap[w7.heap.size]? = some (.cells #[.int .i64 0, .int .i64 0] 255 (0, 0)) := hB8;refine hK _ _ trivial ?_;clear hK K;try simp only [nmz, Nat.reduceAdd]
     refine q0e rfl (fun K hK => ?_)
     refine q0r 163 _ _ w6.heap.size 0 cs (by rfl) (by rfl) (by rfl) hone 39 (by kernel_rfl) hcs _ _ (hm8.obj id hB7) (by rw [hcs]; exact Nat.le_of_eq (q1p q2q).symm) (fun w9 hB9 hm9 => ?_)
     have hB8' := hm9.objB (by omega) hB8;refine hK _ _ trivial ?_;clear hK K;try simp only [nmz, Nat.reduceAdd]
     refine q0e rfl (fun K hK => ?_)
     refine q0r 255 _ _ w7.heap.size 0 #[.int .i64 er, .int .i64 at_] (by rfl) (by rfl) (by rfl) (by simp [Value.oneCell']) 2 (by kernel_rfl) rfl _ _ hB8' (by simp) (fun wa hBa hma => ?_)
     refine hK _ _ trivial ?_;clear hK K;try simp only [nmz, Nat.reduceAdd]
     refine q0c ?_
     have hm4a : Mod NoB w4 wa := ((((hm5.trans0 hm6).trans0 hm7).trans0 hm8).transB hm9 (by have := hm5.size; have := hm6.size; omega)).transB hma (by have := hm5.size; have := hm6.size; have := hm7.size; omega)
     have HF : Hid (ReachR w mb (q3a (cont bl) (f + 1) di depth all) (.returned (.tuple #[])) wa) := Lib.hid ⟨rfl, by rw [HF0.out]; exact HM4.out.keep0 hm4a, HM04.out.trans hm4a (fun _ _ h => h.elim)⟩
     clear hm5 hm6 hm7 hm8 hm9 hma hm4a hB7 hB8 hB8' hB9 hBa hmc hb14;go_upto_region 6 with (fail)
     refine q0a [3, 3, 3, 3, 0, 3, 3, 3, 3, 3, 3] (fun _ => True) (by rfl) (by rfl) trivial ?_;simp only [zz2];refine q0b _ rfl rfl ?_;simp only [nmz, Nat.reduceAdd]
     refine q2h _ _ false (by rfl) (by rfl) (by rfl) ?_;simp only [nmz, Nat.reduceAdd];refine q0b _ rfl rfl ?_;simp only [nmz, Nat.reduceAdd];refine q1a rfl ?_
     simp only [nmz, Nat.reduceAdd];refine q1r rfl ?_;simp only [nmz, Nat.reduceAdd];refine q1a rfl ?_;simp only [nmz, Nat.reduceAdd]
     refine q1b _ _ _ _ rfl rfl rfl ?_;simp only [nmz, Nat.reduceAdd];refine q0b _ rfl rfl ?_;simp only [nmz, Nat.reduceAdd];refine q1a rfl ?_
     simp only [nmz, Nat.reduceAdd];refine q1a rfl ?_;simp only [nmz, Nat.reduceAdd];refine q1b _ _ _ _ rfl rfl rfl ?_;simp only [nmz, Nat.reduceAdd];refine q0c ?_
     go_wp2
     go_end0
     exact HF.out
    | some m =>
     have hml : m.length ≤ 4096 := by
      have h1 := HGR.out;rw [getB] at h1
      cases hf : findB di bl with
      | none => rw [hf] at h1; cases h1
      | some b =>
       rw [hf] at h1;simp only [Option.map_some, Option.some.injEq] at h1;rw [← h1];exact H.out.sz b (findB_some hf).1
     have HDO : Hid (descsOf (cont bl) di = (decL m).map q3w) := Lib.hid (by unfold descsOf; rw [HGR.out]);go_upto_region 4 with (fail)
     refine q0a [3, 1, 1, 3, 3, 3, 3, 3] (fun _ => True) (by rfl) (by rfl) trivial ?_;simp only [zz2];refine q0b _ rfl rfl ?_;simp only [nmz, Nat.reduceAdd]
     refine wpX rfl (q0m 24 _ (by rfl) b5 0 (by rfl) (q0d di) (CellsAt.whole hb14) _ underlying24 rfl 32 (by kernel_rfl) hic) trivial ?_
     try simp only [nmz, Nat.reduceAdd]
     refine q0e rfl (fun K hK => ?_)
     refine q0l (q0o 33 [.tmp 41, .tmp 42] _ rfl _ func33 rfl (by kernel_rfl) [.pointer (some ⟨bs, 0, none⟩), .agg (q0d di)] rfl _) (hget) ?_
     rintro e w5 ⟨hm5, bv, rfl, hbv⟩;refine ⟨_, rfl, hK _ _ trivial ?_⟩;clear hK K;refine q0b _ rfl rfl ?_;simp only [nmz, Nat.reduceAdd]
     refine q0q (v := ?_) rfl (fun w' => ?_) ?_; rotate_left; · (go_simp; try with_reducible rfl)
     simp only [nmz, Nat.reduceAdd];refine q0q (v := ?_) rfl (fun w' => ?_) ?_; rotate_left; · (go_simp; try with_reducible rfl)
     simp only [nmz, Nat.reduceAdd];refine q0f _ rfl rfl ?_;simp only [nmz, Nat.reduceAdd];refine q0f _ rfl rfl ?_;simp only [nmz, Nat.reduceAdd];refine q0c ?_
     go_upto_region 5 with (fail);refine q0a [3, 1, 3, 3, 3, 1, 1, 1, 1] (fun _ => True) (by rfl) (by rfl) trivial ?_;simp only [zz2];refine q0b _ rfl rfl ?_
     simp only [nmz, Nat.reduceAdd];refine q0e rfl (fun K hK => ?_)
     refine q0l (q0o 158 [.tmp 47] _ rfl _ func158 rfl (by kernel_rfl) [bv] rfl _) (mDecode_any (Bts.sl hbv) hml) ?_;rintro e w6 ⟨hm6, cs, er, at_, rfl, her, hmc⟩
     have hcs := hmc.size;have hone := hmc.one;refine ⟨_, rfl, hK _ _ trivial ?_⟩;clear hK K;refine q0b _ rfl rfl ?_;simp only [nmz, Nat.reduceAdd]
     refine q0q (v := ?_) rfl (fun w' => ?_) ?_; rotate_left; · (go_simp; try with_reducible rfl)
     simp only [nmz, Nat.reduceAdd];refine q0q (v := ?_) rfl (fun w' => ?_) ?_; rotate_left; · (go_simp; try with_reducible rfl)
     simp only [nmz, Nat.reduceAdd];refine q0e rfl (fun K hK => ?_);refine q1c 163 _ (by rfl) manZ_i (fun w7 hB7 hm7 hs7 => ?_)
     replace hB7 : w7.heap[w6.heap.size]? = some (.cells (q1i 0 [] descZ (.slice none 0 0) (.slice none 0 0)) 163 (0, 0)) := hB7;refine hK _ _ trivial ?_;clear hK K
     try simp only [nmz, Nat.reduceAdd]
     refine q0e rfl (fun K hK => ?_);refine q1c 255 _ (by rfl) fltZ (fun w8 hB8 hm8 hs8 => ?_)
     replace hB8 : w8.heap[w7.heap.size]? = some (.cells #[.int .i64 0, .int .i64 0] 255 (0, 0)) := hB8;refine hK _ _ trivial ?_;clear hK K;try simp only [nmz, Nat.reduceAdd]
     refine q0e rfl (fun K hK => ?_)
     refine q0r 163 _ _ w6.heap.size 0 cs (by rfl) (by rfl) (by rfl) hone 39 (by kernel_rfl) hcs _ _ (hm8.obj id hB7) (by rw [hcs]; exact Nat.le_of_eq (q1p q2q).symm) (fun w9 hB9 hm9 => ?_)
     rw [q0n (by rw [hcs]; exact (q1p q2q).symm)] at hB9;have hB8' := hm9.objB (by omega) hB8;refine hK _ _ trivial ?_;clear hK K
     try simp only [nmz, Nat.reduceAdd]
     refine q0e rfl (fun K hK => ?_)
     refine q0r 255 _ _ w7.heap.size 0 #[.int .i64 er, .int .i64 at_] (by rfl) (by rfl) (by rfl) (by simp [Value.oneCell']) 2 (by kernel_rfl) rfl _ _ hB8' (by simp) (fun wa hBa hma => ?_)
     rw [q0n (by rfl)] at hBa;have hB9' := hma.objB (by omega) hB9;refine hK _ _ trivial ?_;clear hK K;try simp only [nmz, Nat.reduceAdd]
     refine q0c ?_;have h56 := hm5.size;have h66 := hm6.size;have h67 := hm7.size
     have hm6a : Mod NoB w6 wa := ((hm7.trans0 hm8).transB hm9 (Nat.le_refl _)).transB hma (by omega);have hm4a : Mod NoB w4 wa := (hm5.trans0 hm6).trans0 hm6a
     have HMC := Lib.hid (hmc.keep0 hm6a);have hce : wa.cell? ⟨w7.heap.size, 0, none⟩ = some (.int .i64 er) := by simp [World.cell?, hBa]
     have HER := Lib.hid her;have HMa := Lib.hid (HM4.out.keep0 hm4a);have H4a := Lib.hid (H4.out.keep0 hm4a)
     have HM0a : Hid (Mod (fun k => k = mb) w wa) := Lib.hid (HM04.out.trans hm4a (fun _ _ h => h.elim));generalize hb13 : w7.heap.size = b13 at *
     generalize hb12 : w6.heap.size = b12 at *;clear hm5 hm6 hm7 hm8 hm9 hma hm4a hm6a hB7 hB8 hB8' hB9 hBa hmc hb14 her hbv
     by_cases hez : er = 0
     rotate_left
     · have hF0 : q3a (cont bl) (f + 1) di depth all = all1 := by
        rw [HRE.out, HDO.out]
        have : decL m = none := by
         cases hd : decL m with
         | none => rfl
         | some q => exact absurd (HER.out.2 (by rw [hd]; rfl)) hez
        rw [this]
        simp
       have HF : Hid (ReachR w mb (q3a (cont bl) (f + 1) di depth all) (.returned (.tuple #[])) wa) := Lib.hid ⟨rfl, by rw [hF0]; exact HMa.out, HM0a.out⟩;clear hF0
       go_upto_region 6 with (fail);refine q0a [3, 3, 3, 3, 1, 3, 3, 3, 3, 3, 3] (fun _ => True) (by rfl) (by rfl) trivial ?_;simp only [zz2];refine q0b _ rfl rfl ?_
       simp only [nmz, Nat.reduceAdd];refine q2h _ _ true (by rfl) (by rfl) (by rfl) ?_;simp only [nmz, Nat.reduceAdd];refine q0b _ rfl rfl ?_
       simp only [nmz, Nat.reduceAdd];refine q0h _ _ _ _ _ _ rfl rfl rfl fo_255_0 ?_;simp only [nmz, Nat.reduceAdd]
       refine wpX rfl (q0g 33 _ (by rfl) b13 0 (by rfl) (.int .i64 er) hce _ underlying33 rfl) trivial ?_;try simp only [nmz, Nat.reduceAdd]
       refine q1e _ _ _ _ _ _ _ _ rfl rfl rfl rfl rfl true (decide_eq_true hez) ?_;simp only [nmz, Nat.reduceAdd];refine q1b _ _ _ _ rfl rfl rfl ?_
       simp only [nmz, Nat.reduceAdd];refine q0b _ rfl rfl ?_;simp only [nmz, Nat.reduceAdd];refine q1a rfl ?_;simp only [nmz, Nat.reduceAdd];refine q1a rfl ?_
       simp only [nmz, Nat.reduceAdd];refine q1b _ _ _ _ rfl rfl rfl ?_;simp only [nmz, Nat.reduceAdd];refine q0c ?_;go_wp2
       go_end0
       exact HF.out
     · subst hez
       obtain ⟨M, hM⟩ : ∃ M, decL m = some M := Option.isSome_iff_exists.1 (HER.out.1 rfl);have hmc := HMC.out;rw [hM] at hmc;replace hmc : ManC w5.heap.size wa cs M := hmc
       by_cases hd4 : 4 < depth
       · have hz4 : (depth : Int) > 4 := by omega
         have HF : Hid (ReachR w mb (q3a (cont bl) (f + 1) di depth all) (.returned (.tuple #[])) wa) := Lib.hid ⟨rfl, by rw [HRE.out, if_pos hd4]; exact HMa.out, HM0a.out⟩
         clear hmc;go_upto_region 6 with (fail);refine q0a [3, 3, 3, 3, 1, 3, 3, 3, 3, 3, 3] (fun _ => True) (by rfl) (by rfl) trivial ?_;simp only [zz2]
         refine q0b _ rfl rfl ?_;simp only [nmz, Nat.reduceAdd];refine q2h _ _ true (by rfl) (by rfl) (by rfl) ?_;simp only [nmz, Nat.reduceAdd]
         refine q0b _ rfl rfl ?_;simp only [nmz, Nat.reduceAdd];refine q0h _ _ _ _ _ _ rfl rfl rfl fo_255_0 ?_;simp only [nmz, Nat.reduceAdd]
         refine wpX rfl (q0g 33 _ (by rfl) b13 0 (by rfl) (.int .i64 0) hce _ underlying33 rfl) trivial ?_;try simp only [nmz, Nat.reduceAdd]
         refine q1e _ _ _ _ _ _ _ _ rfl rfl rfl rfl rfl false (by decide) ?_;simp only [nmz, Nat.reduceAdd];refine q1b _ _ _ _ rfl rfl rfl ?_
         simp only [nmz, Nat.reduceAdd];refine q0b _ rfl rfl ?_;simp only [nmz, Nat.reduceAdd];refine q0b _ rfl rfl ?_;simp only [nmz, Nat.reduceAdd]
         refine q1e _ _ _ _ _ _ _ _ rfl rfl rfl rfl rfl true (decide_eq_true hz4) ?_;simp only [nmz, Nat.reduceAdd];refine q1b _ _ _ _ rfl rfl rfl ?_
         simp only [nmz, Nat.reduceAdd];refine q0c ?_;go_wp2
         go_end0
         exact HF.out
       · have hz4 : ¬ (depth : Int) > 4 := by omega
         have hlens := decL_len hM;have hids := decL_ids hM
         have hR0 : q3a (cont bl) (f + 1) di depth all = foldM (cont bl) f depth (q3w M) all1 := by
          rw [HRE.out, if_neg hd4, HDO.out, hM]
          rfl
         have HR0 := Lib.hid hR0;have hdc := mDescs_any hmc ⟨hlens.1, hlens.2.1⟩
         have hdl : (q3w M).length ≤ 33 := by
          unfold q3w;simp only [List.length_append]
          split <;> simp <;> omega
         have HIDS := Lib.hid hids;obtain ⟨ds, hds⟩ : ∃ ds, q3w M = ds := ⟨_, rfl⟩;rw [hds] at hdc HR0 HIDS hdl;clear hR0 hlens hids hmc HMC hM hds HRE HDO HER
         go_upto_region 6 with (fail);refine q0a [3, 3, 3, 3, 1, 3, 3, 3, 3, 3, 3] (fun _ => True) (by rfl) (by rfl) trivial ?_;simp only [zz2]
         refine q0b _ rfl rfl ?_;simp only [nmz, Nat.reduceAdd];refine q2h _ _ true (by rfl) (by rfl) (by rfl) ?_;simp only [nmz, Nat.reduceAdd]
         refine q0b _ rfl rfl ?_;simp only [nmz, Nat.reduceAdd];refine q0h _ _ _ _ _ _ rfl rfl rfl fo_255_0 ?_;simp only [nmz, Nat.reduceAdd]
         refine wpX rfl (q0g 33 _ (by rfl) b13 0 (by rfl) (.int .i64 0) hce _ underlying33 rfl) trivial ?_;try simp only [nmz, Nat.reduceAdd]
         refine q1e _ _ _ _ _ _ _ _ rfl rfl rfl rfl rfl false (by decide) ?_;simp only [nmz, Nat.reduceAdd];refine q1b _ _ _ _ rfl rfl rfl ?_
         simp only [nmz, Nat.reduceAdd];refine q0b _ rfl rfl ?_;simp only [nmz, Nat.reduceAdd];refine q0b _ rfl rfl ?_;simp only [nmz, Nat.reduceAdd]
         refine q1e _ _ _ _ _ _ _ _ rfl rfl rfl rfl rfl false (decide_eq_false hz4) ?_;simp only [nmz, Nat.reduceAdd];refine q1b _ _ _ _ rfl rfl rfl ?_
         simp only [nmz, Nat.reduceAdd];refine q0c ?_;clear hce;go_upto_region 7 with (fail);refine q0a [1, 1, 3, 3] (fun _ => True) (by rfl) (by rfl) trivial ?_
         simp only [zz2];refine wpX rfl (q0m 163 _ (by rfl) b12 0 (by rfl) cs (CellsAt.whole hB9') _ underlying163 rfl 39 (by kernel_rfl) hcs) trivial ?_
         try simp only [nmz, Nat.reduceAdd]
         refine q0e rfl (fun K hK => ?_);refine q0l (q0o 159 [.tmp 62] _ rfl _ func159 rfl (by kernel_rfl) [.agg cs] rfl _) hdc ?_;rintro e wb ⟨hmb', dv, rfl, hgd⟩
         have HGD := Lib.hid hgd;obtain ⟨dad, dcap, rfl⟩ := hgd.slice;clear hgd;refine ⟨_, rfl, hK _ _ trivial ?_⟩;clear hK K;try simp only [nmz, Nat.reduceAdd]
         refine q1q _ _ _ _ _ rfl rfl rfl (by kernel_rfl) ?_;simp only [nmz, Nat.reduceAdd];refine q0b _ rfl rfl ?_;simp only [nmz, Nat.reduceAdd];refine q0c ?_
         have HRL : Hid (ReachRel wb mb (cont bl) f depth ds all1 (.int .i64 (0 : Nat)) wb) := Lib.hid ⟨0, Nat.zero_le _, rfl, HMa.out.keep0 hmb', Mod.refl _ _⟩
         have H4b := Lib.hid (H4a.out.keep0 hmb');have HM0b : Hid (Mod (fun k => k = mb) w wb) := Lib.hid (HM0a.out.trans hmb' (fun _ _ h => h.elim))
         have hmbb : mb < wa.heap.size := HMa.out.lt;have hwab : wa.heap.size ≤ wb.heap.size := hmb'.size
         have hgl : ∀ q, (Value.slice dad ds.length dcap).ownBlock = some q → q ≠ mb := fun q hq => by
          have := (HGD.out.lt hq).1;omega
         clear hmb' hB9' hdc;go_wp2
         go_loopw [65] (ReachRel wb mb (cont bl) f depth ds all1) (fun i _ => ds.length - (intOf i).toNat)
         case atStart => exact HRL.out
         case round =>
          rename World => wr
          obtain ⟨k, hk, rfl, hMr, hmr⟩ := hrel;have HMR := Lib.hid hMr;have HmR := Lib.hid hmr;have hmbr : mb < wr.heap.size := hMr.lt
          by_cases hlt : k < ds.length
          · have hzk : (k : Int) < (ds.length : Nat) := by omega
            have hgr : GatD wa.heap.size wr (.slice dad ds.length dcap) ds := HGD.out.keep hmr (fun q hq e => hgl q hq e)
            obtain ⟨g, cap', cur, hq, hgc, hcc, hsz, -, -⟩ := hgr.at descE_len k hlt
            cases hq
            have hfs := foldM_succ (cont bl) f depth ds all1 k hlt;have hdid := HIDS.out ds[k] (List.getElem_mem _);generalize ds[k] = d at *;rw [descE_eq hdid] at hcc
            have hdsz : (q1k d).size = 35 := q2b hdid;have hdic : (q0d d.id).size = 32 := by rw [q0i, hdid]
            have hdone : ∀ c ∈ q1k d, c.oneCell' = true := descRow_one _ _ _ _;have HFS := Lib.hid hfs;clear hfs hMr hmr hgr;go_upto_region 9 with (fail)
            refine q0a [3, 1, 1, 1] (fun _ => True) (by rfl) (by rfl) trivial ?_;simp only [zz2]
            refine q1f _ _ _ _ _ _ _ _ _ rfl rfl rfl rfl underlying161 (n := 35) (by kernel_rfl) hlt ?_;simp only [nmz, Nat.reduceAdd]
            refine wpX rfl (q0m 46 _ (by rfl) g (k * 35) (by rfl) (q1k d) hcc _ underlying46 rfl 35 (by kernel_rfl) hdsz) trivial ?_;try simp only [nmz, Nat.reduceAdd]
            refine q0e rfl (fun K hK => ?_);refine q1c 46 _ (by rfl) descZ_i (fun wc hBc hmc hsc => ?_)
            replace hBc : wc.heap[wr.heap.size]? = some (.cells (q1k descZ) 46 (0, 0)) := hBc;refine hK _ _ trivial ?_;clear hK K;try simp only [nmz, Nat.reduceAdd]
            refine q0e rfl (fun K hK => ?_)
            refine q0r 46 _ _ wr.heap.size 0 (q1k d) (by rfl) (by rfl) (by rfl) hdone 35 (by kernel_rfl) hdsz _ _ hBc (by rw [hdsz]; exact Nat.le_of_eq (q2b q2q).symm) (fun wd' hBd hmd => ?_)
            rw [q0n (by rw [hdsz]; exact (q2b q2q).symm)] at hBd;refine hK _ _ trivial ?_;clear hK K;try simp only [nmz, Nat.reduceAdd]
            refine q0c ?_;have hmrd : Mod NoB wr wd' := hmc.transB hmd (Nat.le_refl _)
            have hcm : wd'.cell? ⟨wr.heap.size, 0, none⟩ = some (.int .i64 d.media) := by rw [cell_of_row _ _ _ _ _ _ hBd]; rfl
            have hci : CellsAt wd' wr.heap.size 1 (q0d d.id) := CellsAt.of_obj hBd descRow_at1;replace HMR := Lib.hid (HMR.out.keep0 hmrd)
            replace HmR : Hid (Mod (fun q => q = mb) wb wd') := Lib.hid (HmR.out.trans hmrd (fun _ _ h => h.elim));have Hd := Lib.hid (H4b.out.keepM hmb HmR.out)
            have hmbd : mb < wd'.heap.size := HMR.out.lt;generalize hb15 : wr.heap.size = b15 at *;clear hmc hmd hmrd hBc hBd hcc hgc hsz;go_upto_region 10 with (fail)
            go_cut [76] (fun s wx => s = .bool (q3s d) ∧ wx = wd')
            case first =>
             by_cases h3 : d.media = 3
             · have hz3 : (d.media : Int) = 3 := by omega
               have ht : q3s d = true := by simp [q3s, h3]
               refine q0a [3, 1, 3, 3, 3, 0, 3, 3] (fun _ => True) (by rfl) (by rfl) trivial ?_;simp only [zz2];refine q0h _ _ _ _ _ _ rfl rfl rfl fo_46_0 ?_
               simp only [nmz, Nat.reduceAdd];refine wpX rfl (q0g 3 _ (by rfl) b15 0 (by rfl) (.int .i64 d.media) hcm _ underlying3 rfl) trivial ?_
               try simp only [nmz, Nat.reduceAdd]
               refine q1e _ _ _ _ _ _ _ _ rfl rfl rfl rfl rfl true (decide_eq_true hz3) ?_;simp only [nmz, Nat.reduceAdd];refine q0b _ rfl rfl ?_
               simp only [nmz, Nat.reduceAdd];refine q1a rfl ?_;simp only [nmz, Nat.reduceAdd];refine q1r rfl ?_;simp only [nmz, Nat.reduceAdd];refine q1a rfl ?_
               simp only [nmz, Nat.reduceAdd];refine q1b _ _ _ _ rfl rfl rfl ?_;simp only [nmz, Nat.reduceAdd];refine q0c ?_;go_wp2
               go_meet
               case rel => exact ⟨by rw [ht], rfl⟩
             · have hz3 : ¬ (d.media : Int) = 3 := by omega
               by_cases h4 : d.media = 4
               · have hz4' : (d.media : Int) = 4 := by omega
                 have ht : q3s d = true := by simp [q3s, h4]
                 refine q0a [3, 1, 3, 3, 3, 1, 3, 3] (fun _ => True) (by rfl) (by rfl) trivial ?_;simp only [zz2];refine q0h _ _ _ _ _ _ rfl rfl rfl fo_46_0 ?_
                 simp only [nmz, Nat.reduceAdd];refine wpX rfl (q0g 3 _ (by rfl) b15 0 (by rfl) (.int .i64 d.media) hcm _ underlying3 rfl) trivial ?_
                 try simp only [nmz, Nat.reduceAdd]
                 refine q1e _ _ _ _ _ _ _ _ rfl rfl rfl rfl rfl false (decide_eq_false hz3) ?_;simp only [nmz, Nat.reduceAdd];refine q0b _ rfl rfl ?_
                 simp only [nmz, Nat.reduceAdd];refine q0h _ _ _ _ _ _ rfl rfl rfl fo_46_0 ?_;simp only [nmz, Nat.reduceAdd]
                 refine wpX rfl (q0g 3 _ (by rfl) b15 0 (by rfl) (.int .i64 d.media) hcm _ underlying3 rfl) trivial ?_;try simp only [nmz, Nat.reduceAdd]
                 refine q1e _ _ _ _ _ _ _ _ rfl rfl rfl rfl rfl true (decide_eq_true hz4') ?_;simp only [nmz, Nat.reduceAdd];refine q1b _ _ _ _ rfl rfl rfl ?_
                 simp only [nmz, Nat.reduceAdd];refine q0c ?_;go_wp2
                 go_meet
                 case rel => exact ⟨by rw [ht], rfl⟩
               · have hz4' : ¬ (d.media : Int) = 4 := by omega
                 have ht : q3s d = false := by simp [q3s, h3, h4]
                 refine q0a [3, 1, 3, 3, 3, 1, 3, 3] (fun _ => True) (by rfl) (by rfl) trivial ?_;simp only [zz2];refine q0h _ _ _ _ _ _ rfl rfl rfl fo_46_0 ?_
                 simp only [nmz, Nat.reduceAdd];refine wpX rfl (q0g 3 _ (by rfl) b15 0 (by rfl) (.int .i64 d.media) hcm _ underlying3 rfl) trivial ?_
                 try simp only [nmz, Nat.reduceAdd]
                 refine q1e _ _ _ _ _ _ _ _ rfl rfl rfl rfl rfl false (decide_eq_false hz3) ?_;simp only [nmz, Nat.reduceAdd];refine q0b _ rfl rfl ?_
                 simp only [nmz, Nat.reduceAdd];refine q0h _ _ _ _ _ _ rfl rfl rfl fo_46_0 ?_;simp only [nmz, Nat.reduceAdd]
                 refine wpX rfl (q0g 3 _ (by rfl) b15 0 (by rfl) (.int .i64 d.media) hcm _ underlying3 rfl) trivial ?_;try simp only [nmz, Nat.reduceAdd]
                 refine q1e _ _ _ _ _ _ _ _ rfl rfl rfl rfl rfl false (decide_eq_false hz4') ?_;simp only [nmz, Nat.reduceAdd];refine q1b _ _ _ _ rfl rfl rfl ?_
                 simp only [nmz, Nat.reduceAdd];refine q0c ?_;go_wp2
                 go_meet
                 case rel => exact ⟨by rw [ht], rfl⟩
            case rest =>
             obtain ⟨rfl, hw⟩ := hcut;obtain rfl := hw.symm;clear hcm;obtain ⟨tr, htr⟩ : ∃ q, q3s d = q := ⟨_, rfl⟩;rw [htr] at HFS ⊢;clear htr
             cases tr with
             | true =>
              have hrec := IH.out d.id (depth + 1) _ _ hdid (by omega) (by omega) (by omega) Hd.out HMR.out;go_upto_region 11 with (fail)
              refine q0a [3, 3, 1, 3, 3, 3, 1] (fun _ => True) (by rfl) (by rfl) trivial ?_;simp only [zz2];refine q0b _ rfl rfl ?_;simp only [nmz, Nat.reduceAdd]
              refine q0h _ _ _ _ _ _ rfl rfl rfl fo_46_1 ?_;simp only [nmz, Nat.reduceAdd]
              refine wpX rfl (q0m 24 _ (by rfl) b15 1 (by rfl) (q0d d.id) hci _ underlying24 rfl 32 (by kernel_rfl) hdic) trivial ?_;refine q0b _ rfl rfl ?_
              simp only [nmz, Nat.reduceAdd];refine q1t _ _ _ _ (depth : Int) 1 ((depth + 1 : Nat) : Int) rfl rfl rfl rfl (by omega) (by omega) (by omega) ?_
              simp only [nmz, Nat.reduceAdd];refine q0b _ rfl rfl ?_;simp only [nmz, Nat.reduceAdd];refine q0e rfl (fun K hK => ?_)
              refine q0l (q0o 87 [.tmp 77, .tmp 79, .tmp 81, .tmp 82] _ rfl _ func87 rfl (by kernel_rfl) [.pointer (some ⟨bs, 0, none⟩), .agg (q0d d.id), .int .i64 ((depth + 1 : Nat) : Int), .map (some mb)] rfl _) (hrec) ?_
              rintro e we ⟨rfl, hMe, hme⟩
              have HR : Hid (ReachRel wb mb (cont bl) f depth ds all1 (.int .i64 ((k + 1 : Nat) : Int)) we) := Lib.hid ⟨k + 1, by omega, rfl, by rw [HFS.out]; exact hMe, HmR.out.trans hme (fun _ _ h => h)⟩
              refine ⟨_, rfl, hK _ _ trivial ?_⟩;clear hK K;try simp only [nmz, Nat.reduceAdd]
              refine q0c ?_;clear hMe hme hci hrec;go_wp2
              go_roundw
              case rel => exact HR.out
              case measure => simp [intOf]; omega
             | false =>
              have HLK := Lib.hid (mark_look d.id (foldM (cont bl) f depth (ds.take k) all1))
              obtain ⟨kk2, hkk2⟩ : ∃ q, (getL d.id (foldM (cont bl) f depth (ds.take k) all1)).getD 0 = q := ⟨_, rfl⟩
              obtain ⟨is2, his2⟩ : ∃ q, (getL d.id (foldM (cont bl) f depth (ds.take k) all1)).isSome = q := ⟨_, rfl⟩;rw [hkk2, his2] at HLK;have HIS2 := Lib.hid his2
              clear hkk2 his2;go_upto_region 12 with (fail);refine q0a [3, 3, 1, 1, 3, 3, 3, 1, 1, 3] (fun _ => True) (by rfl) (by rfl) trivial ?_;simp only [zz2]
              refine q0b _ rfl rfl ?_;simp only [nmz, Nat.reduceAdd];refine q0h _ _ _ _ _ _ rfl rfl rfl fo_46_1 ?_;simp only [nmz, Nat.reduceAdd]
              refine wpX rfl (q0m 24 _ (by rfl) b15 1 (by rfl) (q0d d.id) hci _ underlying24 rfl 32 (by kernel_rfl) hdic) trivial ?_;try simp only [nmz, Nat.reduceAdd]
              refine wpX rfl (q3d keyT_id HMR.out d.id hdid 144 152 underlying144 (linkV 0) cmarkZ _ _ true (by rfl) (by rfl) (by rfl) _ HLK.out) trivial ?_
              refine q0b _ rfl rfl ?_;simp only [nmz, Nat.reduceAdd];refine q0q (v := ?_) rfl (fun w' => ?_) ?_; rotate_left; · (go_simp; try with_reducible rfl)
              simp only [nmz, Nat.reduceAdd];refine q0q (v := ?_) rfl (fun w' => ?_) ?_; rotate_left; · (go_simp; try with_reducible rfl)
              simp only [nmz, Nat.reduceAdd];refine q0e rfl (fun K hK => ?_);refine q1c 152 _ (by rfl) cmarkZ (fun we hBe hme hse => ?_)
              replace hBe : we.heap[wd'.heap.size]? = some (.cells #[.int .i64 0] 152 (0, 0)) := hBe;refine hK _ _ trivial ?_;clear hK K;try simp only [nmz, Nat.reduceAdd]
              refine q0e rfl (fun K hK => ?_)
              refine q0r 152 _ _ wd'.heap.size 0 #[.int .i64 kk2] (by rfl) (by rfl) (by rfl) (linkV_one _) 1 (by kernel_rfl) rfl _ _ hBe (by simp) (fun wf hBf hmf => ?_)
              refine hK _ _ trivial ?_;clear hK K;refine q0f _ rfl rfl ?_;simp only [nmz, Nat.reduceAdd];refine q0c ?_
              have hmdf : Mod NoB wd' wf := hme.transB hmf (Nat.le_refl _);have hcf := hci.keep hmdf id;have HMf := Lib.hid (HMR.out.keep0 hmdf)
              have HmF : Hid (Mod (fun q => q = mb) wb wf) := Lib.hid (HmR.out.trans hmdf (fun _ _ h => h.elim));clear hme hmf hmdf hBe hBf hse hci
              cases is2 with
              | true =>
               have HR : Hid (ReachRel wb mb (cont bl) f depth ds all1 (.int .i64 ((k + 1 : Nat) : Int)) wf) := Lib.hid ⟨k + 1, by omega, rfl, by rw [HFS.out]; simp only [Bool.false_eq_true, if_false]; unfold leafM; rw [if_pos HIS2.out]; exact HMf.out, HmF.out⟩
               clear hcf;go_wp2
               go_roundw
               case rel => exact HR.out
               case measure => simp [intOf]; omega
              | false =>
               go_upto_region 14 with (fail);refine q0a [3, 3, 1, 0, 1] (fun _ => True) (by rfl) (by rfl) trivial ?_;simp only [zz2];refine q0b _ rfl rfl ?_
               simp only [nmz, Nat.reduceAdd];refine q0h _ _ _ _ _ _ rfl rfl rfl fo_46_1 ?_;simp only [nmz, Nat.reduceAdd]
               refine wpX rfl (q0m 24 _ (by rfl) b15 1 (by rfl) (q0d d.id) hcf _ underlying24 rfl 32 (by kernel_rfl) hdic) trivial ?_;try simp only [nmz, Nat.reduceAdd]
               refine q0j rfl (fun w' hS => q0y 152 [] [] _ (by rfl) (by rfl) built_cmark0) ?_;simp only [nmz, Nat.reduceAdd];refine q0e rfl (fun K hK => ?_)
               refine wp_putL keyT_id HMf.out d.id hdid 144 152 underlying144 _ _ _ (linkV ((0 : Nat) : Int)) (by rfl) (by rfl) (by rfl) (by rfl) (fun wg hMg hmg => ?_)
               rw [marks_put] at hMg
               have HR : Hid (ReachRel wb mb (cont bl) f depth ds all1 (.int .i64 ((k + 1 : Nat) : Int)) wg) := Lib.hid ⟨k + 1, by omega, rfl, by rw [HFS.out]; simp only [Bool.false_eq_true, if_false]; unfold leafM; rw [if_neg (by rw [HIS2.out]; simp)]; exact hMg, HmF.out.trans hmg (fun _ _ h => h)⟩
               refine hK _ _ trivial ?_;clear hMg hmg;clear hK K;try simp only [nmz, Nat.reduceAdd]
               refine q0c ?_;clear hcf;go_wp2
               go_roundw
               case rel => exact HR.out
               case measure => simp [intOf]; omega
          · have hzk : ¬ (k : Int) < (ds.length : Nat) := by omega
            obtain rfl : k = ds.length := by omega
            have HF : Hid (ReachR w mb (q3a (cont bl) (f + 1) di depth all) (.returned (.tuple #[])) wr) := Lib.hid ⟨rfl, by
             rw [HR0.out];have h1 := HMR.out;rw [List.take_length] at h1
             exact h1, HM0b.out.trans HmR.out (fun _ _ h => h)⟩
            clear hMr hmr;go_wp2
            go_end0
            exact HF.out
end
end Go.Proofs.YtjeonjoifjbohaaGreat
namespace Go.Proofs.YtjeonjoifjbohaaGreat
open Go.RowKit Go.Shelf Go.Proofs.Tryz Go.Lib
def allDescs (c : BlobM) : List (List UInt8) := c.flatMap fun p => ((decL p.2).map q3w).getD [] |>.map (·.id)
theorem allDescs_len (c : BlobM) : (allDescs c).length ≤ 33 * c.length := by
 induction c with
 | nil => simp [allDescs]
 | cons p c ih =>
  have h : (((decL p.2).map q3w).getD []).length ≤ 33 := by
   cases hd : decL p.2 with
   | none => simp
   | some m =>
    have := decL_len hd;simp only [Option.map_some, Option.getD_some, q3w, List.length_append]
    split <;> simp <;> omega
  simp only [allDescs, List.flatMap_cons, List.length_append, List.length_map, List.length_cons] at ih ⊢;omega
theorem descsOf_mem {c : BlobM} {id : List UInt8} {ds : List DescL} (h : descsOf c id = some ds) : ∀ d ∈ ds, d.id ∈ allDescs c := by
 intro d hd;unfold descsOf at h
 cases hg : getL id c with
 | none => rw [hg] at h; cases h
 | some b =>
  rw [hg] at h;refine List.mem_flatMap.2 ⟨(id, b), getL_mem hg, List.mem_map.2 ⟨d, ?_, rfl⟩⟩;have h' : (decL b).map q3w = some ds := h
  show d ∈ ((decL b).map q3w).getD []
  rw [h'];exact hd
theorem inR_mem {c : BlobM} : ∀ {f : Nat} {id : List UInt8} {depth : Nat} {x : List UInt8}, inR c f id depth x → x = id ∨ x ∈ allDescs c
 | 0, _, _, _, h => h.elim
 | f + 1, id, depth, x, h => by
  rcases h with rfl | ⟨_, ds, hds, d, hd, hx⟩
  · exact .inl rfl
  · right
    have hm := descsOf_mem hds d hd
    split at hx
    · rcases inR_mem hx with rfl | hx
      · exact hm
      · exact hx
    · rw [hx]; exact hm
theorem marks_len (c : BlobM) (roots : List (List UInt8)) (h : ((marksL c roots).map (·.1)).Nodup) : (marksL c roots).length ≤ roots.length + 33 * c.length := by
 have h1 := q2y (l := (marksL c roots).map (·.1)) (m := roots ++ allDescs c) h (fun x hx => by
  have hs : (getL x (marksL c roots)).isSome = true := by
   cases hg : getL x (marksL c roots) with
   | none => exact absurd hx (getL_none.1 hg)
   | some k => rfl
  obtain ⟨r, hr, hi⟩ := (marks_keys c roots x).1 hs
  rcases inR_mem hi with rfl | hm
  · exact List.mem_append_left _ hr
  · exact List.mem_append_right _ hm)
 have h2 := allDescs_len c;simp only [List.length_map, List.length_append] at h1;omega
theorem marks_of {c : BlobM} {roots ids : List (List UInt8)} (hs : ids.Pairwise (fun a b => a < b)) (hp : ids.Perm ((marksL c roots).map (·.1))) : MarkOf c roots ids := by
 refine ⟨hs, fun x => ?_⟩;rw [hp.mem_iff, ← marks_keys c roots x]
 cases hg : getL x (marksL c roots) with
 | none => simp [getL_none.1 hg]
 | some k =>
  simp only [Option.isSome_some, iff_true];exact List.mem_map.2 ⟨_, getL_mem hg, rfl⟩
def MarkR (w : World) (c : BlobM) (roots : List (List UInt8)) : Ending → World → Prop := fun e w' => Mod NoB w w' ∧ ∃ v ids, e = .returned v ∧ GatI w.heap.size w' v ids ∧ MarkOf c roots ids ∧ ∀ x ∈ ids, x.length = 32
def MarkRel (w0 : World) (mb : Nat) (c : BlobM) (roots : List (List UInt8)) (i : Value) (w : World) : Prop := ∃ k : Nat, k ≤ roots.length ∧ i = .int .i64 k ∧ MarksAt w mb (marksL c (roots.take k)) ∧ Mod NoB w0 w
theorem marksL_succ (c : BlobM) (roots : List (List UInt8)) (k : Nat) (hk : k < roots.length) : marksL c (roots.take (k + 1)) = q3a c 5 roots[k] 1 (marksL c (roots.take k)) := by
 unfold marksL;rw [List.take_succ_eq_append_getElem hk, List.foldl_append]
 rfl
section
variable {w : World} {bs ms wd : Nat} {room : Int} {bl : List Blb}
theorem clMark_any (h : StInv w bs ms wd room bl) {own : Bool} {G : Nat → Prop} {v : Value} {roots : List (List UInt8)} (hv : Sl own w G 32 IdC v roots) (hn : roots.length ≤ 10000) (hc : (cont bl).length ≤ 1000) : Calls prog 22 #[.pointer (some ⟨bs, 0, none⟩), v] w (MarkR w (cont bl) roots) := by
 have hmm := @run_makeMap prog;have H := hid h;have HV := hid hv;obtain ⟨ad, cap, rfl, -, hat⟩ := Sl.at hv;have HAT := hid hat;clear h hv hat;go_enter func22, ntmps22
 go_upto_region 1 with (fail);refine q0a [1, 3] (fun _ => True) (by rfl) (by rfl) trivial ?_;simp only [zz2];refine q0e rfl (fun K hK => ?_);unfold Oper.wp execOp
 simp only [Array.map_empty, Option.map_none, Sem.run_bind, hmm, Result.andThen_ok, Sem.run_pure];have hB := heap_alloc_new w (.map #[] 0);have hM := q1j w (.map #[] 0)
 have hs : w.heap.size < (w.alloc (.map #[] 0)).heap.size := by simp
 generalize w.alloc (.map #[] 0) = w1 at hB hM hs ⊢;refine hK _ _ trivial ?_;clear hK K;refine q0f _ rfl rfl ?_;simp only [nmz, Nat.reduceAdd];refine q0c ?_
 have hMA : MarksAt w1 w.heap.size (marksL (cont bl) []) := MapIs.made hB
 have HR0 : Hid (MarkRel w w.heap.size (cont bl) roots (.int .i64 (0 : Nat)) w1) := hid ⟨0, Nat.zero_le _, rfl, by rw [List.take_zero]; exact hMA, hM⟩
 generalize hmb : w.heap.size = mb at *;have hns : ¬ SFoot bs ms bl mb := fun e => by have := H.out.lt mb e; omega
 clear hmm hB hM hMA;go_wp2
 go_loopw [11] (MarkRel w mb (cont bl) roots) (fun i _ => roots.length - (intOf i).toNat)
 case atStart => exact HR0.out
 case round =>
  rename World => wr
  obtain ⟨k, hk, rfl, hMr, hm⟩ := hrel;have HMR := hid hMr
  by_cases hlt : k < roots.length
  · have hz : (k : Int) < (roots.length : Nat) := by omega
    obtain ⟨b, off, rfl, -, -, hcc⟩ := HAT.out k hlt;obtain ⟨cs, -, ⟨rfl, hx32⟩, hcA⟩ := hcc k hlt;have hms := marksL_succ (cont bl) roots k hlt;generalize roots[k] = x at *
    have hic : (q0d x).size = 32 := by rw [q0i, hx32]
    have hcr := hcA.keep hm id;have Hr := hid (H.out.keep0 hm);have HMS := hid hms;clear hms hcc hcA hMr;go_upto_region 4 with (fail)
    refine q0a [3, 1, 1, 1] (fun _ => True) (by rfl) (by rfl) trivial ?_;simp only [zz2]
    refine q1f _ _ _ _ _ _ _ _ _ rfl rfl rfl rfl underlying25 (n := 32) (by kernel_rfl) hlt ?_;simp only [nmz, Nat.reduceAdd]
    refine wpX rfl (q0m 24 _ (by rfl) b (off + k * 32) (by rfl) (q0d x) hcr _ underlying24 rfl 32 (by kernel_rfl) hic) trivial ?_;try simp only [nmz, Nat.reduceAdd]
    refine q0e rfl (fun K hK => ?_);refine q1c 24 _ (by rfl) idZ (fun w2 hB2 hm2 hs2 => ?_)
    replace hB2 : w2.heap[wr.heap.size]? = some (.cells (q0d (List.replicate 32 0)) 24 (0, 0)) := hB2;refine hK _ _ trivial ?_;clear hK K;try simp only [nmz, Nat.reduceAdd]
    refine q0e rfl (fun K hK => ?_)
    refine q0r 24 _ _ wr.heap.size 0 (q0d x) (by rfl) (by rfl) (by rfl) (q0x _) 32 (by kernel_rfl) hic _ _ hB2 (by rw [hic, q0i]; simp) (fun w3 hB3 hm3 => ?_)
    rw [q0n (by rw [hic, q0i]; simp)] at hB3;refine hK _ _ trivial ?_;clear hK K;try simp only [nmz, Nat.reduceAdd]
    refine q0c ?_;have hmr3 : Mod NoB wr w3 := hm2.transB hm3 (Nat.le_refl _);have hm03 := hm.trans0 hmr3;have H3 := hid (Hr.out.keep0 hmr3)
    have HM3 := hid (HMR.out.keep0 hmr3);have hrec := clReach_any hns 5 x 1 _ _ hx32 (by omega) (by omega) (by omega) H3.out HM3.out;have hno := clNone_any H3.out
    generalize hb7 : wr.heap.size = b7 at *;clear hm hm2 hm3 hmr3 hB2 hcr hs2;go_upto_region 7 with (go_at_call 86; refine hno.mono ?_; rintro _ w4 ⟨rfl, hw⟩; obtain rfl := hw.symm)
    refine q0a [3, 1, 3, 1] (fun _ => True) (by rfl) (by rfl) trivial ?_;simp only [zz2];refine q0b _ rfl rfl ?_;simp only [nmz, Nat.reduceAdd]
    refine wpX rfl (q0m 24 _ (by rfl) b7 0 (by rfl) (q0d x) (CellsAt.whole hB3) _ underlying24 rfl 32 (by kernel_rfl) hic) trivial ?_;refine q0b _ rfl rfl ?_
    simp only [nmz, Nat.reduceAdd];refine q0e rfl (fun K hK => ?_)
    refine q0l (q0o 87 [.tmp 20, .tmp 21, .const (.int .i64 1), .tmp 22] _ rfl _ func87 rfl (by kernel_rfl) [.pointer (some ⟨bs, 0, none⟩), .agg (q0d x), .int .i64 ((1 : Nat) : Int), .map (some mb)] rfl _) (hrec) ?_
    rintro e w5 ⟨rfl, hM5, hm5⟩
    have HR : Hid (MarkRel w mb (cont bl) roots (.int .i64 ((k + 1 : Nat) : Int)) w5) := hid ⟨k + 1, by omega, rfl, by rw [HMS.out]; exact hM5, hm03.transB hm5 (by omega)⟩
    refine ⟨_, rfl, hK _ _ trivial ?_⟩;clear hK K;try simp only [nmz, Nat.reduceAdd]
    refine q0c ?_;clear hB3 hM5 hm5 hm03 hrec hno;go_wp2
    go_roundw
    case rel => exact HR.out
    case measure => simp [intOf]; omega
  · have hz : ¬ (k : Int) < (roots.length : Nat) := by omega
    obtain rfl : k = roots.length := by omega
    have hMf := HMR.out;rw [List.take_length] at hMf
    have hnd : ((marksL (cont bl) roots).map (·.1)).Nodup := by
     have := hMf.nd
     simpa [marksV, List.map_map, Function.comp_def] using this
    have hln := marks_len (cont bl) roots hnd;have hris := clRising_any hMf (by unfold marksV; rw [List.length_map]; omega)
    have hkm : (marksV (marksL (cont bl) roots)).map (·.1) = (marksL (cont bl) roots).map (·.1) := by simp [marksV, List.map_map, Function.comp_def]
    rw [hkm] at hris;clear hMr hMf hkm hnd hln;go_upto_region 9 with (fail);refine q0a [3, 1, 3] (fun _ => True) (by rfl) (by rfl) trivial ?_;simp only [zz2]
    refine q0b _ rfl rfl ?_;simp only [nmz, Nat.reduceAdd];refine q0e rfl (fun K hK => ?_)
    refine q0l (q0o 84 [.tmp 25] _ rfl _ func84 rfl (by kernel_rfl) [.map (some mb)] rfl _) (hris) ?_;rintro e w6 ⟨hm6, v6, ids, he6, hg6, hs6, hp6, hl6⟩;subst he6
    have HF : Hid (MarkR w (cont bl) roots (.returned v6) w6) := hid ⟨hm.trans0 hm6, v6, ids, rfl, hg6.base (by have := hm.size; omega), marks_of hs6 hp6, hl6⟩
    refine ⟨_, rfl, hK _ _ trivial ?_⟩;clear hK K;refine q0f _ rfl rfl ?_;simp only [nmz, Nat.reduceAdd];refine q0c ?_;clear hm hm6 hg6 hs6 hp6 hl6;go_wp2;go_ret
    exact HF.out
end
end Go.Proofs.YtjeonjoifjbohaaGreat
namespace Go.Proofs.YtjeonjoifjbohaaGreat
open Go.RowKit Go.Shelf Go.Proofs.Tryz Go.Lib
theorem fo_115_6 : q1l prog 115 6 = some 38 := by kernel_rfl
theorem eventZ : (prog.info? 115).bind (·.zero) = some (.agg (evCells ⟨0, 0, [], 0, ⟨#[]⟩, ⟨#[]⟩, List.replicate 32 0, []⟩ (.slice none 0 0) (.slice none 0 0))) := by kernel_rfl
def refsL (l : List Evt) : List (List UInt8) := l.flatMap (·.refs)
theorem addsL_app (a b : List (List UInt8)) (all : List (List UInt8 × Value)) : addsL (a ++ b) all = addsL b (addsL a all) := by simp [addsL]
theorem refsL_snoc (l : List Evt) (k : Nat) (hk : k < l.length) : refsL (l.take (k + 1)) = refsL (l.take k) ++ l[k].refs := by
 have h := congrArg refsL (List.take_succ_eq_append_getElem hk);rw [h];unfold refsL;rw [List.flatMap_append, List.flatMap_cons, List.flatMap_nil, List.append_nil]
theorem Sl.memR {α : Type} {own : Bool} {w : World} {G : Nat → Prop} {sz : Nat} {R R' : Array Value → α → Prop} {v : Value} {l : List α} (h : Sl own w G sz R v l) (hR : ∀ cs x, x ∈ l → R cs x → R' cs x) : Sl own w G sz R' v l := by
 obtain ⟨a, cap, hv, hl, hc, h⟩ := h;refine ⟨a, cap, hv, hl, hc, fun hne => ?_⟩;obtain ⟨b, off, ha, hG, ho, hi⟩ := h hne;refine ⟨b, off, ha, hG, ho, fun i hlt => ?_⟩
 obtain ⟨cs, h1, h2, h3⟩ := hi i hlt;exact ⟨cs, h1, hR _ _ (List.getElem_mem hlt) h2, h3⟩
theorem slI {base : Nat} {w : World} {v : Value} {ids : List (List UInt8)} (h : GatI base w v ids) (h32 : ∀ x ∈ ids, x.length = 32) : Sl true w (fun q => base ≤ q ∧ q < w.heap.size ∧ v.ownBlock = some q) 32 IdC v ids :=
 Sl.memR (h.sl idE_len) fun cs x hx hcs => ⟨by rw [hcs, idE_eq (h32 x hx)], h32 x hx⟩
def MarkedOf (c : BlobM) (roots : List (List UInt8)) (l : List Evt) (out : List (List UInt8)) : Prop := out.Pairwise (fun a b => a < b) ∧ ∀ x, x ∈ out ↔ (∃ r ∈ roots, inR c 5 r 1 x) ∨ x ∈ refsL l
def MarksR (w : World) (c : BlobM) (roots : List (List UInt8)) (l : List Evt) : Ending → World → Prop := fun e w' => Mod NoB w w' ∧ ∃ v out, e = .returned v ∧ GatI w.heap.size w' v out ∧ MarkedOf c roots l out ∧ ∀ x ∈ out, x.length = 32
def MksRel (w0 : World) (mb : Nat) (ids : List (List UInt8)) (l : List Evt) (i : Value) (w : World) : Prop := ∃ k : Nat, k ≤ l.length ∧ i = .int .i64 k ∧ MapIs idV IdOk w mb (addsL (refsL (l.take k)) (addsL ids [])) ∧ Mod NoB w0 w
theorem lt_nodup {l : List (List UInt8)} (h : l.Pairwise (fun a b => a < b)) : l.Nodup := h.imp fun {a b} hab e => by rw [e] at hab; exact List.lt_irrefl _ hab
theorem swMarks_any {w : World} {bs ms wd : Nat} {room : Int} {bl : List Blb} (H : StInv w bs ms wd room bl) (hc : (cont bl).length ≤ 1000) {vv rv ev : Value} {reps : List RepX} (h1 : vv.oneCell' = true) (hv : RepsAt w rv reps) (hn : (rootsX reps).length ≤ 10000)
 {own own' : Bool} {E G : Nat → Prop} {l : List Evt} (hev : Sl own w E 39 (EvR own' w G) ev l) (hr : (refsL l).length ≤ 20000) :
 Calls prog 48 #[.pointer (some ⟨bs, 0, none⟩), .agg #[vv, rv], ev] w (MarksR w (cont bl) (rootsX reps) l) := by
 have hmm := @run_makeMap prog;have h2 := Sl.one hv;have HH := Lib.hid H;have HV := Lib.hid hv;have HEV := Lib.hid hev;obtain ⟨ead, ecap, rfl, hel, -⟩ := Sl.at hev;clear H hv hev
 go_enter func48, ntmps48;go_upto_region 0 with (fail);refine q0a [1, 3] (fun _ => True) (by rfl) (by rfl) trivial ?_;simp only [zz2];refine q0e rfl (fun K hK => ?_)
 refine q2i 71 _ _ (by rfl) (by rfl) (fun w1 hB1 hm1 hs1 => ?_);replace hB1 : w1.heap[w.heap.size]? = some (.cells #[vv, rv] 71 (0, 0)) := hB1;refine hK _ _ trivial ?_;clear hK K
 refine q0f _ rfl rfl ?_;simp only [nmz, Nat.reduceAdd];refine q0c ?_;go_upto_region 1 with (fail)
 refine q0a [1, 3, 1, 1, 1, 1, 1, 3] (fun _ => True) (by rfl) (by rfl) trivial ?_;simp only [zz2];refine q0e rfl (fun K hK => ?_);unfold Oper.wp execOp
 simp only [Array.map_empty, Option.map_none, Sem.run_bind, hmm, Result.andThen_ok, Sem.run_pure];have hB3 := heap_alloc_new w1 (.map #[] 0);have hm3 := q1j w1 (.map #[] 0)
 have hs3 : (w1.alloc (.map #[] 0)).heap.size = w1.heap.size + 1 := by simp
 generalize w1.alloc (.map #[] 0) = w3 at hB3 hm3 hs3 ⊢;have hM3 : MapIs idV IdOk w3 w1.heap.size [] := MapIs.made hB3;have hm03 := hm1.trans0 hm3
 have hcT : CellsAt w3 w.heap.size 0 #[vv, rv] := CellsAt.whole (hm3.obj id hB1);have hroots := swRoots_any h1 (repsAt_kc HV.out (KC.of0 hm03)) (by omega);refine hK _ _ trivial ?_
 clear hK K;refine q0b _ rfl rfl ?_;simp only [nmz, Nat.reduceAdd]
 refine wpX rfl (q0m 71 _ (by rfl) w.heap.size 0 (by rfl) #[vv, rv] hcT _ underlying71 rfl 2 (by kernel_rfl) rfl) trivial ?_;try simp only [nmz, Nat.reduceAdd]
 refine q0e rfl (fun K hK => ?_);refine q0l (q0o 47 [.tmp 12] _ rfl _ func47 rfl (by kernel_rfl) [.agg #[vv, rv]] rfl _) (hroots) ?_
 rintro e w4 ⟨hm4, v4, R, he4, hg4, hset4, hl4⟩;subst he4;have hRn : R.length ≤ (rootsX reps).length := q2y (lt_nodup hset4.1) (fun x hx => (hset4.2 x).1 hx)
 have hm04 := hm03.trans0 hm4;have hmark := clMark_any (HH.out.keep0 hm04) (slI hg4 hl4) (by omega) hc;refine ⟨_, rfl, hK _ _ trivial ?_⟩;clear hK K
 try simp only [nmz, Nat.reduceAdd]
 refine q0e rfl (fun K hK => ?_);refine q0l (q0o 22 [.tmp 11, .tmp 13] _ rfl _ func22 rfl (by kernel_rfl) [.pointer (some ⟨bs, 0, none⟩), v4] rfl _) (hmark) ?_
 rintro e w5 ⟨hm5, v5, ids, he5, hg5, hset5, hl5⟩;subst he5;have hm05 := hm04.trans0 hm5;obtain ⟨ad5, cap5, hv5⟩ := hg5.slice;have hg5' := hg5;rw [hv5] at hg5'
 have hval := valuesI_any w5 ad5 ids.length cap5;rw [← hv5] at hval;refine ⟨_, rfl, hK _ _ trivial ?_⟩;clear hK K;try simp only [nmz, Nat.reduceAdd]
 refine q0e rfl (fun K hK => ?_);refine q0l (q0o 119 [.tmp 14] _ rfl _ func119 rfl (by kernel_rfl) [v5] rfl _) (hval) ?_;rintro e w6 ⟨rfl, hw6⟩
 have hm6 : Mod NoB w5 w6 := by rw [hw6]; exact q1j w5 _
 have hB6 : w6.heap[w5.heap.size]? = some (.cells #[v5] 25 (0, 0)) := by rw [hw6]; exact heap_alloc_new w5 _
 clear hw6;have hadd := swAdd_any (enters_of func194 (by kernel_rfl) rfl) (valuesI_gives hB6 (slI (hg5.keep0 hm6) hl5)) hl5 (hM3.keep0 (hm4.trans0 (hm5.trans0 hm6)))
 refine ⟨_, rfl, hK _ _ trivial ?_⟩;clear hK K;try simp only [nmz, Nat.reduceAdd]
 refine q0e rfl (fun K hK => ?_)
 refine q0l (q0o 115 [.tmp 10, .tmp 15] _ rfl _ func115 rfl (by kernel_rfl) [.map (some w1.heap.size), .func (.func 194) #[] #[.pointer (some ⟨w5.heap.size, 0, none⟩)]] rfl _) (hadd) ?_
 rintro e w7 ⟨rfl, hM7, hm7⟩;refine ⟨_, rfl, hK _ _ trivial ?_⟩;clear hK K;refine q0f _ rfl rfl ?_;simp only [nmz, Nat.reduceAdd];refine q0c ?_
 have hm25 : Mod NoB w w7 := (hm05.trans0 hm6).trans hm7 (fun k hk e => by have e : k = w1.heap.size := e; have := hm1.size; omega)
 have hidn : ids.length ≤ 43000 := by
  have h9 := q2y (l := ids) (m := R ++ allDescs (cont bl)) (lt_nodup hset5.1) (fun x hx => by
   obtain ⟨r, hr, hi⟩ := (hset5.2 x).1 hx
   rcases inR_mem hi with rfl | hm
   · exact List.mem_append_left _ hr
   · exact List.mem_append_right _ hm)
  have h8 := allDescs_len (cont bl);simp only [List.length_append] at h9;omega
 have hmarks : ∀ x, x ∈ ids ↔ ∃ r ∈ rootsX reps, inR (cont bl) 5 r 1 x := fun x => by
  rw [hset5.2 x];exact ⟨fun ⟨r, h1, h2⟩ => ⟨r, (hset4.2 r).1 h1, h2⟩, fun ⟨r, h1, h2⟩ => ⟨r, (hset4.2 r).2 h1, h2⟩⟩
 have HMK := Lib.hid hmarks;have hw1 : w.heap.size < w1.heap.size := hs1;generalize hmb : w1.heap.size = mb at *
 have HR0 : Hid (MksRel w mb ids l (.int .i64 (0 : Nat)) w7) := Lib.hid ⟨0, Nat.zero_le _, rfl, by rw [List.take_zero]; exact hM7, hm25⟩
 clear hm25 hM7 hm7 hadd hB6 hm6 hval hg5' hv5 hm05 hset5 hg5 hm5 hmark hm04 hRn hset4 hg4 hm4 hroots hcT hm03 hM3 hs3 hm3 hB3 hB1 hm1 hmarks;go_wp2
 go_loopw [19] (MksRel w mb ids l) (fun i _ => l.length - (intOf i).toNat)
 case atStart => exact HR0.out
 case round =>
  rename World => wr
  obtain ⟨k, hk, rfl, hMr, hmr⟩ := hrel
  by_cases hlt : k < l.length
  · have hz : (k : Int) < (l.length : Nat) := by omega
    obtain ⟨_, _, hae, -, hat⟩ := (SlEv.keep0 HEV.out hmr).at;injection hae with hae1 hae2 hae3;subst hae1 hae3;obtain ⟨b, off, rfl, -, -, hcc⟩ := hat k hlt
    obtain ⟨cs, -, ⟨dv, fv, rfl, hid, hdv, hfv, -, -⟩, hcA⟩ := hcc k hlt;have hsn := refsL_snoc l k hlt
    have hsp : refsL l = refsL (l.take k) ++ (l[k].refs ++ refsL (l.drop (k + 1))) := by
     have h := congrArg refsL (take_split hlt);rw [h];unfold refsL;rw [List.flatMap_append, List.flatMap_cons]
    have hr32 : ∀ x ∈ l[k].refs, x.length = 32 := by
     intro x hx;obtain ⟨a, cap, _, _, hat⟩ := Sl.at hfv;obtain ⟨i, hi, rfl⟩ := List.getElem_of_mem hx;obtain ⟨b, off, _, _, _, hc⟩ := hat i hi;obtain ⟨cs, _, ⟨_, h2⟩, _⟩ := hc i hi
     exact h2
    generalize l[k] = ev at *;have hes := evCells_spec ev dv fv hid;have hic := hes.size;have hc38 := hes.c38;have h1v := evCells_one (e := ev) (Sl.one hdv) (Sl.one hfv)
    obtain ⟨ra, rcap, hfe, -, -⟩ := Sl.at hfv
    have hzs : (evCells ⟨0, 0, [], 0, ⟨#[]⟩, ⟨#[]⟩, List.replicate 32 0, []⟩ (.slice none 0 0) (.slice none 0 0)).size = 39 := (evCells_spec _ _ _ (by simp)).size
    have HSN := Lib.hid hsn;clear hsn hsp hat hcc hae2 hes hdv;go_upto_region 4 with (fail);refine q0a [3, 1, 1, 1] (fun _ => True) (by rfl) (by rfl) trivial ?_
    simp only [zz2];refine q1f _ _ _ _ _ _ _ _ _ rfl rfl rfl rfl underlying72 (n := 39) (by kernel_rfl) hlt ?_;simp only [nmz, Nat.reduceAdd]
    refine wpX rfl (q0m 115 _ (by rfl) b (off + k * 39) (by rfl) (evCells ev dv fv) hcA _ underlying115 rfl 39 (by kernel_rfl) hic) trivial ?_
    try simp only [nmz, Nat.reduceAdd]
    refine q0e rfl (fun K hK => ?_);refine q1c 115 _ (by rfl) eventZ (fun w2 hB2 hm2 hs2 => ?_)
    replace hB2 : w2.heap[wr.heap.size]? = some (.cells (evCells ⟨0, 0, [], 0, ⟨#[]⟩, ⟨#[]⟩, List.replicate 32 0, []⟩ (.slice none 0 0) (.slice none 0 0)) 115 (0, 0)) := hB2
    refine hK _ _ trivial ?_;clear hK K;try simp only [nmz, Nat.reduceAdd]
    refine q0e rfl (fun K hK => ?_)
    refine q0r 115 _ _ wr.heap.size 0 (evCells ev dv fv) (by rfl) (by rfl) (by rfl) h1v 39 (by kernel_rfl) hic _ _ hB2 (by rw [hic, hzs]; omega) (fun w3 hB3 hm3 => ?_)
    rw [q0n (by rw [hic, hzs])] at hB3;refine hK _ _ trivial ?_;clear hK K;try simp only [nmz, Nat.reduceAdd]
    refine q0c ?_;have hmr3 : Mod NoB wr w3 := hm2.transB hm3 (Nat.le_refl _);have hm03 := hmr.trans0 hmr3;have hMk3 := hMr.keep0 hmr3
    have hcR : w3.cell? ⟨wr.heap.size, 0 + 38, none⟩ = some fv := (CellsAt.whole hB3).cell hc38;have hfv3 := hfv.keep0 hmr3;rw [hfe] at hcR hfv3
    clear hcA hm2 hm3 hB2 hs2 hMr hmr hB3 hc38 hfv hmr3;generalize hb9 : wr.heap.size = b9 at *;have hval := valuesI_any w3 ra ev.refs.length rcap;go_upto_region 5 with (fail)
    refine q0a [3, 3, 1, 1, 1] (fun _ => True) (by rfl) (by rfl) trivial ?_;simp only [zz2];refine q0b _ rfl rfl ?_;simp only [nmz, Nat.reduceAdd]
    refine q0h _ _ _ _ _ _ rfl rfl rfl fo_115_6 ?_;simp only [nmz, Nat.reduceAdd]
    refine wpX rfl (q0g 25 _ (by rfl) b9 (0 + 38) (by rfl) _ hcR _ underlying25 rfl) trivial ?_;try simp only [nmz, Nat.reduceAdd]
    refine q0e rfl (fun K hK => ?_);refine q0l (q0o 119 [.tmp 25] _ rfl _ func119 rfl (by kernel_rfl) [.slice ra ev.refs.length rcap] rfl _) (hval) ?_
    rintro e w4 ⟨rfl, hw4⟩;have hm4 : Mod NoB w3 w4 := by rw [hw4]; exact q1j w3 _
    have hB4 : w4.heap[w3.heap.size]? = some (.cells #[.slice ra ev.refs.length rcap] 25 (0, 0)) := by rw [hw4]; exact heap_alloc_new w3 _
    clear hw4;have hadd := swAdd_any (enters_of func194 (by kernel_rfl) rfl) (valuesI_gives hB4 (hfv3.keep0 hm4)) hr32 (hMk3.keep0 hm4);refine ⟨_, rfl, hK _ _ trivial ?_⟩;clear hK K
    try simp only [nmz, Nat.reduceAdd]
    refine q0e rfl (fun K hK => ?_)
    refine q0l (q0o 115 [.tmp 23, .tmp 26] _ rfl _ func115 rfl (by kernel_rfl) [.map (some mb), .func (.func 194) #[] #[.pointer (some ⟨w3.heap.size, 0, none⟩)]] rfl _) (hadd) ?_
    rintro e w5 ⟨rfl, hM5, hm5⟩;rw [← addsL_app, ← HSN.out] at hM5
    have HR : Hid (MksRel w mb ids l (.int .i64 ((k + 1 : Nat) : Int)) w5) := Lib.hid ⟨k + 1, by omega, rfl, hM5, (hm03.trans0 hm4).trans hm5 (fun j hj e => by have e : j = mb := e; omega)⟩
    refine ⟨_, rfl, hK _ _ trivial ?_⟩;clear hK K;try simp only [nmz, Nat.reduceAdd]
    refine q0c ?_;clear hm03 hMk3 hcR hfv3 hval hm4 hB4 hadd hM5 hm5;go_wp2
    go_roundw
    case rel => exact HR.out
    case measure => simp [intOf]; omega
  · have hz : ¬ (k : Int) < (l.length : Nat) := by omega
    obtain rfl : k = l.length := by omega
    rw [List.take_length] at hMr
    have hln : (addsL (refsL l) (addsL ids [])).length ≤ 65536 := by
     have h1 := addsL_len (refsL l) (addsL ids []);have h2 := addsL_len ids [];simp only [List.length_nil] at h2;omega
    have hris := swRising_any hMr hln;clear hMr;go_upto_region 7 with (fail);refine q0a [3, 1, 3] (fun _ => True) (by rfl) (by rfl) trivial ?_;simp only [zz2]
    refine q0b _ rfl rfl ?_;simp only [nmz, Nat.reduceAdd];refine q0e rfl (fun K hK => ?_)
    refine q0l (q0o 118 [.tmp 29] _ rfl _ func118 rfl (by kernel_rfl) [.map (some mb)] rfl _) (hris) ?_;rintro e w6 ⟨hm6, v6, out, he6, hg6, hs6, hp6, hl6⟩;subst he6
    have HF : Hid (MarksR w (cont bl) (rootsX reps) l (.returned v6) w6) := Lib.hid ⟨hmr.trans0 hm6, v6, out, rfl, hg6.base (by have := hmr.size; omega), ⟨hs6, fun x => by rw [hp6.mem_iff, addsL_mem, addsL_mem, HMK.out]; simp [or_comm]⟩, hl6⟩
    refine ⟨_, rfl, hK _ _ trivial ?_⟩;clear hK K;refine q0f _ rfl rfl ?_;simp only [nmz, Nat.reduceAdd];refine q0c ?_;clear hmr hm6 hg6 hs6 hp6 hl6 hris;go_wp2;go_ret
    exact HF.out
end Go.Proofs.YtjeonjoifjbohaaGreat
namespace Go.Proofs.YtjeonjoifjbohaaGreat
open Go.RowKit Go.Shelf Go.Proofs.Tryz Go.Lib
def cutTo (n k : Nat) (x : List UInt8) : List UInt8 := x.take n ++ List.replicate (k - n) 0 ++ x.drop k
theorem cutTo_len {n k : Nat} {x : List UInt8} (hx : x.length = 32) (hn : n ≤ k) (hk : k ≤ 32) : (cutTo n k x).length = 32 := by simp [cutTo, hx]; omega
theorem cutTo_start {n : Nat} {x : List UInt8} : cutTo n n x = x := by simp [cutTo]
theorem cutTo_end {n : Nat} {x : List UInt8} (hx : x.length = 32) : cutTo n 32 x = cutI n x := by
 unfold cutTo cutI;rw [List.drop_of_length_le (by omega), List.append_nil]
theorem cutTo_step {n k : Nat} {x : List UInt8} (hx : x.length = 32) (hn : n ≤ k) (hk : k < 32) : (q0d (cutTo n k x)).setIfInBounds k (byteV 0) = q0d (cutTo n (k + 1) x) := by
 apply Array.toList_inj.1
 have h1 : (x.take n).length = n := by simp [hx]; omega
 have e : List.replicate (k + 1 - n) (0 : UInt8) = List.replicate (k - n) 0 ++ [0] := by rw [show k + 1 - n = (k - n) + 1 by omega, List.replicate_succ']
 have d : x.drop k = x[k]'(by omega) :: x.drop (k + 1) := List.drop_eq_getElem_cons (by omega);simp only [q0d, cutTo, Array.toList_setIfInBounds];rw [e, d]
 have hl : ((x.take n ++ List.replicate (k - n) 0).map byteV).length = k := by simp [hx]; omega
 rw [List.map_append, List.set_append_right _ _ (by rw [hl]; exact Nat.le_refl _), hl, Nat.sub_self]
 simp
 rw [← List.map_drop, d, ← List.map_drop]
 rfl
def CutRel (n : Nat) (x : List UInt8) (b : Nat) (w0 : World) (i : Value) (w : World) : Prop := ∃ k : Nat, n ≤ k ∧ k ≤ 32 ∧ i = .int .i64 k ∧ w.heap[b]? = some (.cells (q0d (cutTo n k x)) 24 (0, 0)) ∧ Mod (fun q => q = b) w0 w
theorem refCut_any (x : List UInt8) (hx : x.length = 32) (n : Nat) (h1 : 1 ≤ n) (h2 : n ≤ 32) (w : World) : Calls prog 151 #[.agg (q0d x), .int .i64 n] w (CutR2 w n x) := by
 have hrs : (q0d (cutI n x)).size = 32 := by rw [q0i, cutI_len hx h2]
 have HE := hid (cutTo_end (n := n) hx);go_enter func151, ntmps151;go_upto_region 0 with (fail);refine q0a [1, 1, 3] (fun _ => True) (by rfl) (by rfl) trivial ?_
 simp only [zz2];refine q0e rfl (fun K hK => ?_);refine q2i 24 _ _ (by rfl) (by rfl) (fun w1 hB1 hm1 hs1 => ?_)
 replace hB1 : w1.heap[w.heap.size]? = some (.cells (q0d x) 24 (0, 0)) := hB1;refine hK _ _ trivial ?_;clear hK K;try simp only [nmz, Nat.reduceAdd]
 refine q0e rfl (fun K hK => ?_);refine q1c 24 _ (by rfl) idZ (fun w2 hB2 hm2 hs2 => ?_)
 replace hB2 : w2.heap[w1.heap.size]? = some (.cells (q0d (List.replicate 32 0)) 24 (0, 0)) := hB2;refine hK _ _ trivial ?_;clear hK K;refine q0f _ rfl rfl ?_
 simp only [nmz, Nat.reduceAdd];refine q0c ?_;replace hB1 := hm2.obj id hB1;have hM2 := hm1.trans0 hm2;have hne : w.heap.size ≠ w1.heap.size := by omega
 have hs1' : w.heap.size ≤ w1.heap.size := hm1.size;generalize hb1 : w.heap.size = b1 at *;generalize hb2 : w1.heap.size = b2 at *;clear hm1 hm2;go_wp2
 go_loopw [6] (CutRel n x b1 w2) (fun i _ => 32 - (intOf i).toNat)
 case atStart => exact ⟨n, Nat.le_refl _, h2, rfl, by rw [cutTo_start]; exact hB1, Mod.refl _ _⟩
 case round =>
  rename World => wr
  obtain ⟨k, hnk, hk, rfl, hrow, hm⟩ := hrel
  by_cases hlt : k < 32
  · have hz : (k : Int) < 32 := by omega
    have hst := cutTo_step hx hnk hlt;have hsz : (q0d (cutTo n k x)).size = 32 := by rw [q0i, cutTo_len hx hnk hk]
    go_upto_region 6 with (fail);refine q0a [3, 3, 1] (fun _ => True) (by rfl) (by rfl) trivial ?_;simp only [zz2];refine q0b _ rfl rfl ?_
    simp only [nmz, Nat.reduceAdd];refine q0w _ _ _ _ _ _ _ _ rfl rfl rfl rfl underlying24 (n := 1) (by kernel_rfl) hlt ?_;simp only [nmz, Nat.reduceAdd]
    refine q0e rfl (fun K hK => ?_)
    refine q1h 5 _ _ b1 (k * 1) (byteV 0) (by rfl) (by rfl) (by rfl) rfl (by kernel_rfl) _ _ hrow (by rw [hsz]; omega) (fun w3 hB3 hm3 => ?_);rw [Nat.mul_one, hst] at hB3
    have hM3 : Mod (fun q => q = b1) w2 w3 := hm.trans hm3 (fun _ _ h => h);refine hK _ _ trivial ?_;clear hK K;try simp only [nmz, Nat.reduceAdd]
    refine q0c ?_;clear hm hm3 hrow hst hsz;go_wp2
    go_roundw
    case rel => exact ⟨k + 1, by omega, by omega, by go_num, hB3, hM3⟩
    case measure => simp [intOf]; omega
  · have hz : ¬ (k : Int) < 32 := by omega
    obtain rfl : k = 32 := by omega
    rw [HE.out] at hrow;have hB23 := hm.objB (fun e => hne e.symm) hB2;have hM3 : Mod NoB w wr := hM2.transB hm (by omega);clear hm hM2 hB2;go_upto_region 7 with (fail)
    refine q0a [1, 1, 3] (fun _ => True) (by rfl) (by rfl) trivial ?_;simp only [zz2]
    refine wpX rfl (q0m 24 _ (by rfl) b1 0 (by rfl) (q0d (cutI n x)) (CellsAt.whole hrow) _ underlying24 rfl 32 (by kernel_rfl) hrs) trivial ?_
    try simp only [nmz, Nat.reduceAdd]
    refine q0e rfl (fun K hK => ?_)
    refine q0r 24 _ _ b2 0 (q0d (cutI n x)) (by rfl) (by rfl) (by rfl) (q0x _) 32 (by kernel_rfl) hrs _ _ hB23 (by rw [hrs, q0i]; simp) (fun w4 hB4 hm4 => ?_)
    rw [q0n (by rw [hrs, q0i]; rfl)] at hB4;refine hK _ _ trivial ?_;clear hK K;refine q0f _ rfl rfl ?_;simp only [nmz, Nat.reduceAdd];refine q0c ?_
    have hM4 : Mod NoB w w4 := hM3.transB hm4 (by omega);clear hm4 hM3;go_wp2
    refine bodyPost_ret (q2a (P := prog) (ty := 24) rfl _ _ b2 _ _ _ _ (by rfl) hB4 underlying24 rfl (by rw [hrs]; kernel_rfl)) rfl ?_;exact ⟨rfl, hM4⟩
theorem refOf_any {own : Bool} {G : Nat → Prop} {v : Value} {m : List UInt8} {w : World} (h : Sl own w G 1 ByteC v m) (hl : m.length ≤ 1000000) (n : Nat) (h1 : 1 ≤ n) (h2 : n ≤ 32) : Calls prog 79 #[v, .int .i64 n] w (OfR w n m) := by
 have H := hid h;obtain ⟨ad, cap, rfl, -, -⟩ := Sl.at h;have hsl : (shaL m).length = 32 := shaL_len _;have hrs : (q0d (ofI n m)).size = 32 := by rw [q0i, ofI_len h2]
 have HC := hid (show cutI n (shaL m) = ofI n m from rfl);clear h;go_enter func79, ntmps79;go_upto_region 0 with (fail)
 refine q0a [1, 3] (fun _ => True) (by rfl) (by rfl) trivial ?_;simp only [zz2];refine q0e rfl (fun K hK => ?_)
 refine q1c 24 _ (by rfl) idZ (fun w1 hB1 hm1 hs1 => ?_);replace hB1 : w1.heap[w.heap.size]? = some (.cells (q0d (List.replicate 32 0)) 24 (0, 0)) := hB1
 refine hK _ _ trivial ?_;clear hK K;refine q0f _ rfl rfl ?_;simp only [nmz, Nat.reduceAdd];refine q0c ?_;go_upto_region 1 with (fail)
 refine q0a [3, 1, 3, 1, 3, 3, 1, 3] (fun _ => True) (by rfl) (by rfl) trivial ?_;simp only [zz2];refine q0b _ rfl rfl ?_;simp only [nmz, Nat.reduceAdd]
 refine q0e rfl (fun K hK => ?_)
 refine q0l (q0o 152 [.tmp 6] _ rfl _ func152 rfl (by kernel_rfl) [.slice ad m.length cap] rfl _) (refSum_any (H.out.keep0 hm1) (by omega)) ?_;rintro e w2 ⟨rfl, hm2⟩
 refine ⟨_, rfl, hK _ _ trivial ?_⟩;clear hK K;refine q0b _ rfl rfl ?_;simp only [nmz, Nat.reduceAdd];refine q0e rfl (fun K hK => ?_)
 refine q0l (q0o 151 [.tmp 7, .tmp 8] _ rfl _ func151 rfl (by kernel_rfl) [.agg (q0d (shaL m)), .int .i64 n] rfl _) (refCut_any (shaL m) hsl n h1 h2 _) ?_
 rintro e w3 ⟨rfl, hm3⟩;rw [HC.out];have hB3 := (hm2.trans0 hm3).obj id hB1;refine ⟨_, rfl, hK _ _ trivial ?_⟩;clear hK K;try simp only [nmz, Nat.reduceAdd]
 refine q0q (v := ?_) rfl (fun w' => ?_) ?_; rotate_left; · (go_simp; try with_reducible rfl)
 simp only [nmz, Nat.reduceAdd];refine q0q (v := ?_) rfl (fun w' => ?_) ?_; rotate_left; · (go_simp; try with_reducible rfl)
 simp only [nmz, Nat.reduceAdd];refine q0e rfl (fun K hK => ?_)
 refine q0r 24 _ _ w.heap.size 0 (q0d (ofI n m)) (by rfl) (by rfl) (by rfl) (q0x _) 32 (by kernel_rfl) hrs _ _ hB3 (by rw [hrs, q0i]; simp) (fun w4 hB4 hm4 => ?_)
 rw [q0n (by rw [hrs, q0i]; rfl)] at hB4;refine hK _ _ trivial ?_;clear hK K;refine q0f _ rfl rfl ?_;simp only [nmz, Nat.reduceAdd];refine q0c ?_
 have hM4 : Mod NoB w w4 := ((hm1.trans0 hm2).trans0 hm3).transB hm4 (Nat.le_refl _);clear hm1 hm2 hm3 hm4;go_wp2
 refine bodyPost_ret (q2a (P := prog) (ty := 24) rfl _ _ w.heap.size _ _ _ _ (by rfl) hB4 underlying24 rfl (by rw [hrs]; kernel_rfl)) rfl ?_;exact ⟨rfl, hM4⟩
end Go.Proofs.YtjeonjoifjbohaaGreat
namespace Go.Proofs.YtjeonjoifjbohaaGreat
open Go.RowKit Go.Shelf Go.Proofs.Tryz Go.Lib
theorem fo_68_0 : q1l prog 68 0 = some 0 := by kernel_rfl
def pickZ (x n : Int) : Int := if n ≤ 0 then 0 else x % n
theorem pickZ_lt (x n : Int) (h : 0 < n) : 0 ≤ pickZ x n ∧ pickZ x n < n := by
 unfold pickZ;rw [if_neg (by omega)];exact ⟨Int.emod_nonneg _ (by omega), Int.emod_lt_of_pos _ h⟩
theorem tmod_up (x n : Int) (h : 0 < n) : (if x.tmod n < 0 then x.tmod n + n else x.tmod n) = x % n := by
 have h1 := Int.tmod_lt_of_pos x h;have h2 := Int.lt_tmod_of_pos x h;have h3 : x.tmod n = x - n * x.tdiv n := by have := Int.mul_tdiv_add_tmod x n; omega
 split
 · rw [h3, ← Int.emod_eq_of_lt (a := x - n * x.tdiv n + n) (b := n) (by omega) (by omega)]
   rw [show x - n * x.tdiv n + n = x + n * (1 - x.tdiv n) by rw [Int.mul_sub]; omega];rw [Int.add_mul_emod_self_left]
 · rw [← Int.emod_eq_of_lt (a := x.tmod n) (b := n) (by omega) (by omega), h3]
   rw [show x - n * x.tdiv n = x + n * (- x.tdiv n) by rw [Int.mul_neg]; omega];rw [Int.add_mul_emod_self_left]
abbrev I64 (x : Int) : Prop := -9223372036854775808 ≤ x ∧ x ≤ 9223372036854775807
theorem pick_any (x n : Int) (hx : I64 x) (hn : n ≤ 1000000) (w : World) : Calls prog 17 #[.int .i64 x, .int .i64 n] w (RetE (.int .i64 (pickZ x n)) w) := by
 obtain ⟨hx1, hx2⟩ := hx
 by_cases h0 : n ≤ 0
 · rw [show pickZ x n = 0 by simp [pickZ, h0]]
   go_enter func17, ntmps17;go_wp2;go_ret;exact ⟨rfl, rfl⟩
 · have hp := tmod_up x n (by omega)
   have h1 := Int.tmod_lt_of_pos x (show 0 < n by omega);have h2 := Int.lt_tmod_of_pos x (show 0 < n by omega);rw [show pickZ x n = x % n by simp [pickZ, h0]];rw [← hp];clear hp
   go_enter func17, ntmps17;go_wp2
   all_goals
    go_ret;exact ⟨rfl, rfl⟩
def RetK (v : Value) (w : World) : Ending → World → Prop := fun e w' => e = .returned v ∧ Mod NoB w w'
def widZ (wd : Int) : Nat := (1 + pickZ wd 32).toNat
theorem widZ_ok (wd : Int) : 1 ≤ widZ wd ∧ widZ wd ≤ 32 := by
 have := pickZ_lt wd 32 (by omega);unfold widZ;omega
theorem width_any (wd : Int) (hw : I64 wd) (lv kv : Value) (h1 : lv.oneCell' = true) (h2 : kv.oneCell' = true) (w : World) : Calls prog 108 #[.agg #[.int .i64 wd, lv, kv]] w (RetK (.int .i64 (widZ wd : Nat)) w) := by
 have hp := pickZ_lt wd 32 (by omega);have hz : ((widZ wd : Nat) : Int) = 1 + pickZ wd 32 := by unfold widZ; omega
 have HZ := hid hz;have hpk := fun w' => pick_any wd 32 hw (by omega) w';obtain ⟨pz, hpz⟩ : ∃ p, pickZ wd 32 = p := ⟨_, rfl⟩;rw [hpz] at hp HZ;simp only [hpz] at hpk;clear hz hpz
 go_enter func108, ntmps108;go_upto_region 0 with (fail);refine q0a [1, 3] (fun _ => True) (by rfl) (by rfl) trivial ?_;simp only [zz2];refine q0e rfl (fun K hK => ?_)
 refine q2i 68 _ _ (by rfl) (by rfl) (fun w1 hB1 hm1 hs1 => ?_);replace hB1 : w1.heap[w.heap.size]? = some (.cells #[.int .i64 wd, lv, kv] 68 (0, 0)) := hB1
 refine hK _ _ trivial ?_;clear hK K;refine q0f _ rfl rfl ?_;simp only [nmz, Nat.reduceAdd];refine q0c ?_
 have hc : w1.cell? ⟨w.heap.size, 0 + 0, none⟩ = some (.int .i64 wd) := by simp [World.cell?, hB1]
 go_upto_region 1 with (fail);refine q0a [3, 1, 1, 3, 3] (fun _ => True) (by rfl) (by rfl) trivial ?_;simp only [zz2];refine q0h _ _ _ _ _ _ rfl rfl rfl fo_68_0 ?_
 simp only [nmz, Nat.reduceAdd];refine wpX rfl (q0g 3 _ (by rfl) w.heap.size (0 + 0) (by rfl) _ hc _ underlying3 rfl) trivial ?_;try simp only [nmz, Nat.reduceAdd]
 refine q0e rfl (fun K hK => ?_);refine q0l (q0o 17 [.tmp 4, .const (.int .i64 32)] _ rfl _ func17 rfl (by kernel_rfl) [.int .i64 wd, .int .i64 32] rfl _) (hpk _) ?_
 rintro e w2 ⟨rfl, hw2⟩;obtain rfl := hw2.symm;refine ⟨_, rfl, hK _ _ trivial ?_⟩;clear hK K;try simp only [nmz, Nat.reduceAdd]
 refine q1t _ _ _ _ 1 pz (1 + pz) rfl rfl rfl rfl rfl (by omega) (by omega) ?_;simp only [nmz, Nat.reduceAdd];refine q0f _ rfl rfl ?_;simp only [nmz, Nat.reduceAdd]
 refine q0c ?_;clear hB1 hc;go_wp2;go_ret;exact ⟨by rw [HZ.out]; rfl, hm1⟩
def repoZ (n : Int) : ByteArray := [(⟨#[97]⟩ : ByteArray), ⟨#[98, 47, 99]⟩, ⟨#[100]⟩].getD (pickZ n 3).toNat ⟨#[]⟩
theorem str_zs : (prog.info? 9).map (fun i => (i.zero, i.size)) = some (some (.string ⟨#[]⟩), 1) := by kernel_rfl
theorem repo_any (n : Int) (hn : I64 n) (w : World) : Calls prog 69 #[.int .i64 n] w (RetK (.string (repoZ n)) w) := by
 have hp := pickZ_lt n 3 (by omega);have hpk := fun w' => pick_any n 3 hn (by omega) w';obtain ⟨k, hk⟩ : ∃ k : Nat, pickZ n 3 = k := ⟨(pickZ n 3).toNat, by omega⟩
 have hr : repoZ n = [(⟨#[97]⟩ : ByteArray), ⟨#[98, 47, 99]⟩, ⟨#[100]⟩].getD k ⟨#[]⟩ := by unfold repoZ; rw [hk]; rfl
 rw [hk] at hp;simp only [hk] at hpk;rw [hr];have hk3 : k < 3 := by omega
 clear hr hk hp;go_enter func69, ntmps69;go_upto_region 1 with (fail);refine q0a [1, 3, 1, 3, 1, 3] (fun _ => True) (by rfl) (by rfl) trivial ?_;simp only [zz2]
 refine q0e rfl (fun K hK => ?_)
 refine q2t 127 9 3 [(0, _), (1, _), (2, _)] [.string ⟨#[97]⟩, .string ⟨#[98, 47, 99]⟩, .string ⟨#[100]⟩] (.string ⟨#[]⟩) 1 (by rfl) (by rfl) (by rfl) underlying127 str_zs (by omega) (by omega) (by simp [Value.cells]) (fun w1 hB1 hm1 hs1 => ?_)
 have hc : w1.cell? ⟨w.heap.size, k * 1, none⟩ = some (.string ([(⟨#[97]⟩ : ByteArray), ⟨#[98, 47, 99]⟩, ⟨#[100]⟩].getD k ⟨#[]⟩)) := by
  rcases (show k = 0 ∨ k = 1 ∨ k = 2 by omega) with rfl | rfl | rfl <;> simp [World.cell?, hB1, Value.cells]
 generalize w.heap.size = b1 at *;refine hK _ _ trivial ?_;clear hK K;refine q0b _ rfl rfl ?_;simp only [nmz, Nat.reduceAdd];refine q0e rfl (fun K hK => ?_)
 refine q0l (q0o 17 [.tmp 4, .const (.int .i64 3)] _ rfl _ func17 rfl (by kernel_rfl) [.int .i64 n, .int .i64 3] rfl _) (hpk _) ?_;rintro e w2 ⟨rfl, hw2⟩
 obtain rfl := hw2.symm;refine ⟨_, rfl, hK _ _ trivial ?_⟩;clear hK K;try simp only [nmz, Nat.reduceAdd]
 refine q1f _ _ _ _ _ _ _ _ _ rfl rfl rfl rfl underlying127 (n := 1) (by kernel_rfl) hk3 ?_;simp only [nmz, Nat.reduceAdd]
 refine wpX rfl (q0g 9 _ (by rfl) b1 (k * 1) (by rfl) _ hc _ underlying9 rfl) trivial ?_;refine q0f _ rfl rfl ?_;simp only [nmz, Nat.reduceAdd];refine q0c ?_
 clear hB1 hc;go_wp2;go_ret;exact ⟨rfl, hm1⟩
section
variable {w w' : World} {h : House} {c c' : BlobL} {l l' : LinkL} {Ft : Nat → Prop}
theorem HsAt.put (H : HsAt w h c l Ft) {own : Bool} {G : Nat → Prop} {v : Value} {m : List UInt8} (hv : Sl own w G 1 ByteC v m) (hm : m.length ≤ 4096) (hroom : h.room = 67108864) (hfew : c.length < 10000) :
 Calls prog 37 #[.pointer (some ⟨h.bs, 0, Option.none⟩), .agg (q0d (ofI h.wd m)), v] w (fun e w' => (∃ v, e = .returned v) ∧ HStep w h Ft w' (putB (ofI h.wd m) m c) l) := by
 obtain ⟨bl, F, h1, rfl, h3, h4, h5, h6, h7⟩ := H;have hu := h1.used;refine (bPut_any h1 hv hm (by omega) (by simpa [cont] using hfew)).mono ?_
 rintro e w' ⟨⟨ok, er, rfl⟩, bl', k1, k2, k3, k4⟩;have hF : ∀ k, F k → ¬ (k = h.bs ∨ k = h.ms) := fun k hk e => h4 k (e.elim (fun e => .inl e) (fun e => .inr (.inl e))) hk
 refine ⟨⟨_, rfl⟩, fun k => Ft k ∨ New w w' k, ⟨bl', F, k1, k2, (h3.keep k3 hF (fun k hk => by simp [emptyW] at hk)).bare, fun k hk hf => ?_, fun k hk => (k4 k hk).imp (h5 k) id, fun k hk => .inl (h6 k hk), fun k hk => hk.elim (fun hk => Nat.lt_of_lt_of_le (h7 k hk) k3.size) (fun hk => hk.2)⟩, k3.mono (fun k _ e => h5 k (e.elim (fun e => .inl e) (fun e => .inr (.inl e)))), fun k hk => hk⟩
 rcases k4 k hk with hk | hk
 · exact h4 k hk hf
 · have := h3.lt k hf
   have := hk.1;omega
theorem HsAt.lay (H : HsAt w h c l Ft) (k : Key) (hk : KeyOk k) (hsz : k.1.size ≤ maxLen) (size : Int) :
 Calls prog 110 #[h.q, .string k.1, .agg (q0d k.2), .int .i64 size] w (fun e w' => (∃ v, e = .returned v) ∧ HStep w h Ft w' c (addL false h.limit l k size)) := by
 obtain ⟨bl, F, h1, rfl, h3, h4, h5, h6, h7⟩ := H;refine (lay_at h3 k hk hsz size).mono ?_;rintro e w' ⟨rfl, F', k1, k2, k3⟩
 refine ⟨⟨_, rfl⟩, fun k => Ft k ∨ New w w' k, ⟨bl, F', h1.keep k2 (fun k hk hf => h4 k hk hf), rfl, k1.bare, fun k hk hf => ?_, fun k hk => .inl (h5 k hk), fun k hk => (k3 k hk).imp (h6 k) id, fun k hk => hk.elim (fun hk => Nat.lt_of_lt_of_le (h7 k hk) k2.size) (fun hk => hk.2)⟩, k2.mono (fun k _ e => h6 k e), fun k hk => hk⟩
 rcases k3 k hf with hf | hf
 · exact h4 k hk hf
 · have := h1.lt k hk
   have := hf.1;omega
theorem putB_len (di m : List UInt8) (c : BlobL) : (putB di m c).length ≤ c.length + 1 := by
 unfold putB
 split <;> simp
end
end Go.Proofs.YtjeonjoifjbohaaGreat
namespace Go.Proofs.YtjeonjoifjbohaaGreat
open Go.RowKit Go.Shelf Go.Proofs.Tryz Go.Lib
theorem fo_68_1 : q1l prog 68 1 = some 1 := by kernel_rfl
theorem fo_68_2 : q1l prog 68 2 = some 2 := by kernel_rfl
def BtsC (w : World) (cs : Array Value) (b : List UInt8) : Prop := ∃ v, cs = #[v] ∧ Sl false w AnyB 1 ByteC v b
theorem BtsC.keep0 {w w' : World} {cs : Array Value} {b : List UInt8} (h : BtsC w cs b) (hm : Mod NoB w w') : BtsC w' cs b := by
 obtain ⟨v, h1, h2⟩ := h;exact ⟨v, h1, h2.keep0 hm⟩
abbrev LsAt (w : World) (v : Value) (L : List (List UInt8)) : Prop := Sl false w AnyB 1 (BtsC w) v L
theorem q4f {w w' : World} {v : Value} {L : List (List UInt8)} (h : LsAt w v L) (hm : Mod NoB w w') : LsAt w' v L := h.keep hm (fun _ _ => id) (fun _ _ h => h.keep0 hm)
def cOf (wd : Nat) (L : List (List UInt8)) : BlobL := L.foldl (fun c b => putB (ofI wd b) b c) []
theorem cOf_snoc (wd : Nat) (L : List (List UInt8)) (k : Nat) (hk : k < L.length) : cOf wd (L.take (k + 1)) = putB (ofI wd L[k]) L[k] (cOf wd (L.take k)) := by
 unfold cOf;rw [List.take_succ_eq_append_getElem hk, List.foldl_append]
 rfl
theorem cOf_len (wd : Nat) : ∀ (L : List (List UInt8)) (c : BlobL), (L.foldl (fun c b => putB (ofI wd b) b c) c).length ≤ c.length + L.length
 | [], c => by simp
 | b :: L, c => by
  have h1 := cOf_len wd L (putB (ofI wd b) b c);have h2 := putB_len (ofI wd b) b c;simp only [List.foldl_cons, List.length_cons];omega
def layZ (wd : Nat) (L : List (List UInt8)) (l : LinkL) (a b : Int) : LinkL :=
 let m := L.getD (pickZ b L.length).toNat []
 addL false 1099511627776 l (repoZ a, ofI wd m) m.length
def lOf (wd : Nat) (L : List (List UInt8)) (K : List Int) (j : Nat) : LinkL := (List.range j).foldl (fun l i => layZ wd L l (K.getD (2 * i) 0) (K.getD (2 * i + 1) 0)) []
theorem lOf_snoc (wd : Nat) (L : List (List UInt8)) (K : List Int) (j : Nat) : lOf wd L K (j + 1) = layZ wd L (lOf wd L K j) (K.getD (2 * j) 0) (K.getD (2 * j + 1) 0) := by
 unfold lOf;rw [List.range_succ, List.foldl_append]
 rfl
def laysN (L : List (List UInt8)) (K : List Int) : Nat := if L = [] then 0 else K.length / 2
def HsNew (w0 w : World) (h : House) (c : BlobL) (l : LinkL) : Prop := ∃ Ft, HsAt w h c l Ft ∧ (∀ k, Ft k → w0.heap.size ≤ k) ∧ Mod NoB w0 w
theorem HsNew.step {w0 w w' : World} {h : House} {c' : BlobL} {l' : LinkL} {Ft : Nat → Prop} (hn : ∀ k, Ft k → w0.heap.size ≤ k) (hm : Mod NoB w0 w) (hs : HStep w h Ft w' c' l') : HsNew w0 w' h c' l' := by
 obtain ⟨F', h1, h2, h3⟩ := hs;exact ⟨F', h1, fun k hk => (h3 k hk).elim (hn k) (fun h => Nat.le_trans hm.size h.1), hm.trans h2 (fun k hk hf => by have := hn k hf; omega)⟩
def BuildR (w : World) (wd : Nat) (L : List (List UInt8)) (K : List Int) : Ending → World → Prop := fun e w' =>
 ∃ h : House, h.wd = wd ∧ h.room = 67108864 ∧ h.limit = 1099511627776 ∧ (∃ b, h.q = .pointer (some ⟨b, 0, none⟩)) ∧ e = .returned (.tuple #[.pointer (some ⟨h.bs, 0, none⟩), h.q]) ∧ HsNew w w' h (cOf wd L) (lOf wd L K (laysN L K))
def BldRel1 (w0 w1 : World) (h : House) (wd : Nat) (L : List (List UInt8)) (i : Value) (w : World) : Prop := ∃ k : Nat, k ≤ L.length ∧ i = .int .i64 k ∧ HsNew w1 w h (cOf wd (L.take k)) []
def BldRel2 (w0 w1 : World) (h : House) (wd : Nat) (L : List (List UInt8)) (K : List Int) (i : Value) (w : World) : Prop := ∃ j n : Nat, n = 2 * j ∧ j ≤ laysN L K ∧ i = .int .i64 (n : Nat) ∧ HsNew w1 w h (cOf wd L) (lOf wd L K j)
theorem repoZ_size (n : Int) : (repoZ n).size ≤ maxLen := by
 have h : ∀ k : Nat, ([(⟨#[97]⟩ : ByteArray), ⟨#[98, 47, 99]⟩, ⟨#[100]⟩].getD k ⟨#[]⟩).size ≤ 3 := by
  intro k
  rcases k with _ | _ | _ | k <;> simp [ByteArray.size]
 exact Nat.le_trans (h _) (by unfold maxLen; omega)
theorem laysN_lt {L : List (List UInt8)} {K : List Int} {j n : Nat} (hn : n = 2 * j) (hlt : n + 1 < K.length) (hL : 0 < L.length) : j + 1 ≤ laysN L K := by
 unfold laysN;rw [if_neg (fun e => by rw [e] at hL; simp at hL)];omega
theorem sl_lt {α : Type} {own : Bool} {w : World} {G : Nat → Prop} {R : Array Value → α → Prop} {b off n cap : Nat} {l : List α} (h : Sl own w G 1 R (.slice (some ⟨b, off, none⟩) n cap) l) {i : Nat} (hi : i < l.length) : b < w.heap.size := by
 obtain ⟨a, c, e, _, _, h2⟩ := h;injection e with e1 e2 e3;obtain ⟨b', off', e4, _, _, hc⟩ := h2 (fun e => by rw [e] at hi; simp at hi);rw [← e1] at e4;injection e4 with e4
 injection e4 with e5 e6 e7;obtain ⟨cs, hs, _, hcs⟩ := hc i hi;have h0 := hcs 0 (by omega);rw [Array.getElem?_eq_getElem (by omega)] at h0;have := block_lt_of_cell h0;rw [e5]
 exact this
def IdBox (w0 : World) (x : List UInt8) (s : Value) (w : World) : Prop := ∃ b, s = .pointer (some ⟨b, 0, none⟩) ∧ w0.heap.size ≤ b ∧ w.heap[b]? = some (.cells (q0d x) 24 (0, 0)) ∧ Mod NoB w0 w
theorem built_any {w : World} {wd : Int} (hwd : I64 wd) {lv kv : Value} {L : List (List UInt8)} {KK : List Int} (hlv : LsAt w lv L) (hkv : Sl false w AnyB 1 IntC kv KK) (hL : L.length ≤ 1000) (hL2 : ∀ b ∈ L, b.length ≤ 4096) (hkl : KK.length ≤ 1000) (hK2 : ∀ x ∈ KK, I64 x) :
 Calls prog 43 #[.agg #[.int .i64 wd, lv, kv]] w (BuildR w (widZ wd) L KK) := by
 have hwz := widZ_ok wd;have hwid := fun w' => width_any wd hwd lv kv (Sl.one hlv) (Sl.one hkv) w';have hl1 := Sl.one hlv;have hk1 := Sl.one hkv
 obtain ⟨lad, lcap, hle, -, -⟩ := Sl.at hlv;obtain ⟨kad, kcap, hke, -, -⟩ := Sl.at hkv;have HLV := hid hlv;have HKV := hid hkv;clear hlv hkv;rw [hle] at HLV hwid hl1
 rw [hke] at HKV hwid hk1;subst hle hke;generalize hwn : widZ wd = wn at *;clear hwn;go_enter func43, ntmps43;go_upto_region 0 with (fail)
 refine q0a [1, 3, 3] (fun _ => True) (by rfl) (by rfl) trivial ?_;simp only [zz2];refine q0e rfl (fun K hK => ?_)
 refine q2i 68 _ _ (by rfl) (by rfl) (fun w1 hB1 hm1 hs1 => ?_)
 replace hB1 : w1.heap[w.heap.size]? = some (.cells #[.int .i64 wd, .slice lad L.length lcap, .slice kad KK.length kcap] 68 (0, 0)) := hB1;refine hK _ _ trivial ?_;clear hK K
 refine q0f _ rfl rfl ?_;simp only [nmz, Nat.reduceAdd];refine q0f _ rfl rfl ?_;simp only [nmz, Nat.reduceAdd];refine q0c ?_
 have HLV1 := hid (q4f HLV.out hm1);have HKV1 := hid (HKV.out.keep0 hm1)
 have hcH : CellsAt w1 w.heap.size 0 #[.int .i64 wd, .slice lad L.length lcap, .slice kad KK.length kcap] := CellsAt.whole hB1
 have hnew := fun w' => bNew_any (wn : Int) 67108864 (by omega) (by omega) w';go_upto_region 1 with (fail)
 refine q0a [1, 1, 1, 3, 3, 3, 3, 3] (fun _ => True) (by rfl) (by rfl) trivial ?_;simp only [zz2]
 refine wpX rfl (q0m 68 _ (by rfl) w.heap.size 0 (by rfl) #[.int .i64 wd, .slice lad L.length lcap, .slice kad KK.length kcap] hcH _ underlying68 rfl 3 (by kernel_rfl) rfl) trivial ?_
 try simp only [nmz, Nat.reduceAdd]
 refine q0e rfl (fun K hK => ?_)
 refine q0l (q0o 108 [.tmp 16] _ rfl _ func108 rfl (by kernel_rfl) [.agg #[.int .i64 wd, .slice lad L.length lcap, .slice kad KK.length kcap]] rfl _) (hwid _) ?_
 rintro e w2 ⟨rfl, hm2⟩;refine ⟨_, rfl, hK _ _ trivial ?_⟩;clear hK K;try simp only [nmz, Nat.reduceAdd]
 refine q0e rfl (fun K hK => ?_)
 refine q0l (q0o 78 [.tmp 17, .const (.int .i64 67108864)] _ rfl _ func78 rfl (by kernel_rfl) [.int .i64 (wn : Nat), .int .i64 67108864] rfl _) (hnew _) ?_
 rintro e w3 ⟨bs, ms, rfl, hst3, hm3, hsf3⟩;refine ⟨_, rfl, hK _ _ trivial ?_⟩;clear hK K;refine q0b _ rfl rfl ?_;simp only [nmz, Nat.reduceAdd]
 refine q0q rfl (fun w' => q0s _ 0 #[.pointer (some ⟨bs, 0, none⟩), .int .i64 0] rfl rfl (.pointer (some ⟨bs, 0, none⟩)) rfl) ?_;simp only [nmz, Nat.reduceAdd]
 refine q0q rfl (fun w' => q0s _ 1 #[.pointer (some ⟨bs, 0, none⟩), .int .i64 0] rfl rfl (.int .i64 0) rfl) ?_;simp only [nmz, Nat.reduceAdd]
 refine q0f _ rfl rfl ?_;simp only [nmz, Nat.reduceAdd];refine q0f _ rfl rfl ?_;simp only [nmz, Nat.reduceAdd];refine q0c ?_
 rw [show ((wn : Nat) : Int).toNat = wn from by simp] at hst3;have hqn := new_at 1099511627776 w3 (by omega) w3 (Mod.refl _ _);go_upto_region 2 with (fail)
 refine q0a [1, 3, 3, 3, 3, 3] (fun _ => True) (by rfl) (by rfl) trivial ?_;simp only [zz2];refine q0e rfl (fun K hK => ?_)
 refine q0l (q0o 109 [.const (.int .i64 1099511627776)] _ rfl _ func109 rfl (by kernel_rfl) [.int .i64 1099511627776] rfl _) (hqn) ?_
 rintro e w4 ⟨qb, F, rfl, hlk4, hm4, hF4⟩;refine ⟨_, rfl, hK _ _ trivial ?_⟩;clear hK K;refine q0b _ rfl rfl ?_;simp only [nmz, Nat.reduceAdd]
 refine q0q rfl (fun w' => q0s _ 0 #[.pointer (some ⟨qb, 0, none⟩), .int .i64 0] rfl rfl (.pointer (some ⟨qb, 0, none⟩)) rfl) ?_;simp only [nmz, Nat.reduceAdd]
 refine q0q rfl (fun w' => q0s _ 1 #[.pointer (some ⟨qb, 0, none⟩), .int .i64 0] rfl rfl (.int .i64 0) rfl) ?_;simp only [nmz, Nat.reduceAdd]
 refine q0f _ rfl rfl ?_;simp only [nmz, Nat.reduceAdd];refine q0f _ rfl rfl ?_;simp only [nmz, Nat.reduceAdd];refine q0c ?_
 have hm14 := hm2.trans0 (hm3.trans0 hm4);obtain ⟨h, hh⟩ : ∃ h : House, h = ⟨bs, ms, wn, 67108864, .pointer (some ⟨qb, 0, none⟩), 1099511627776⟩ := ⟨_, rfl⟩
 have hhb : h.bs = bs := by rw [hh]
 have hhw : h.wd = wn := by rw [hh]
 have hhr : h.room = 67108864 := by rw [hh]
 have hhq : h.q = .pointer (some ⟨qb, 0, none⟩) := by rw [hh]
 have hhl : h.limit = 1099511627776 := by rw [hh]
 have hH0 : HsNew w1 w4 h (cOf wn (L.take 0)) [] := by
  refine ⟨fun k => SFoot bs ms [] k ∨ F k, ?_, fun k hk => ?_, hm14⟩
  · rw [hh]
    refine ⟨[], F, hst3.keep0 hm4, rfl, hlk4.bare, fun k hk hf => ?_, fun k hk => .inl hk, fun k hk => .inr hk, fun k hk => hk.elim (fun hk => Nat.lt_of_lt_of_le (hsf3 k hk).2 hm4.size) (fun hk => hlk4.lt k hk)⟩
    have h1 := (hsf3 k hk).2;have h2 := hF4 k hf;omega
  · have h3 := hm2.size
    have h4 := hm3.size
    rcases hk with hk | hk
    · have := (hsf3 k hk).1
      omega
    · have := hF4 k hk
      omega
 have HR0 : Hid (BldRel1 w w1 h wn L (.int .i64 (0 : Nat)) w4) := hid ⟨0, Nat.zero_le _, rfl, hH0⟩;have hbH := hB1;clear hH0 hh hst3 hm3 hsf3 hqn hlk4 hm4 hF4 hm2 hcH hnew hB1 hm14
 have hs1' : w.heap.size < w1.heap.size := hs1;generalize hhb2 : w.heap.size = hb at *;go_wp2
 go_loopw [8] (BldRel1 w w1 h wn L) (fun i _ => L.length - (intOf i).toNat)
 case atStart => exact HR0.out
 case round =>
  rename World => wr
  obtain ⟨k, hk, rfl, hns⟩ := hrel;obtain ⟨Ft, hat, hFn, hmr⟩ := hns;have hbr := hmr.obj id hbH
  have hcl : wr.cell? ⟨hb, 1, none⟩ = some (.slice lad L.length lcap) := by simp [World.cell?, hbr]
  have hcl0 : wr.cell? ⟨hb, 0 + 1, none⟩ = some (.slice lad L.length lcap) := hcl
  by_cases hlt : k < L.length
  · have hz : (k : Int) < (L.length : Nat) := by omega
    obtain ⟨_, _, hae, -, hatL⟩ := (q4f HLV1.out hmr).at;injection hae with hae1 hae2 hae3;subst hae1 hae3;obtain ⟨b, off, rfl, -, -, hcc⟩ := hatL k hlt
    obtain ⟨cs, -, ⟨vk, rfl, hvk⟩, hcA⟩ := hcc k hlt;have hck := CellsAt.one.1 hcA;have hbw : b < w1.heap.size := sl_lt HLV1.out hlt;have hmk := hL2 _ (List.getElem_mem hlt)
    have hsn := cOf_snoc wn L k hlt;have hcn : (cOf wn (L.take k)).length ≤ 1000 := Nat.le_trans (cOf_len wn (L.take k) []) (by simp; omega);generalize L[k] = m at *
    obtain ⟨va, vc, hve, -, -⟩ := Sl.at hvk;have HVK := hid hvk;rw [hve] at HVK hck;have HSN := hid hsn
    have hrc : CellsAt wr hb 0 #[.int .i64 wd, .slice (some ⟨b, off, none⟩) L.length lcap, .slice kad KK.length kcap] := CellsAt.whole hbr
    have href := fun w' (hm : Mod NoB wr w') => refOf_any (HVK.out.keep0 hm) (by omega) wn hwz.1 hwz.2;have hdi : (ofI wn m).length = 32 := ofI_len hwz.2
    have hic : (q0d (ofI wn m)).size = 32 := by rw [q0i, hdi]
    clear hsn hatL hcc hcA hae2 hve hvk;go_upto_region 8 with (fail)
    go_cut [9] (fun s wx => IdBox wr (ofI wn m) s wx)
    case first =>
     have hS : Mod NoB wr wr.drew := (Mod.refl _ _).drew;have hT : Mod NoB wr wr.drew := (Mod.refl _ _).drew
     refine wp_region_tree [(0, 3), (1, 0), (2, 3), (3, 3), (4, 0), (5, 0)] 7 [(13, 3)] [] (fun w' => Mod NoB wr w') #[true, true, true, true, true, true, false, false, false, false, false, false, false, false] (by kernel_rfl) (by kernel_rfl) (by kernel_rfl) (by kernel_rfl) (by kernel_rfl) (fun _ _ _ _ hd h => ⟨hd.trans h.1, h.2⟩) hS ?_
     simp only [zz4];refine q0h _ _ _ _ _ _ rfl rfl rfl fo_68_1 ?_;simp only [nmz, Nat.reduceAdd]
     refine q0j rfl (fun w' hS => q0g 22 _ (by rfl) hb (0 + 1) (by rfl) _ (hS.cell id hcl0) _ underlying22 rfl) ?_;simp only [nmz, Nat.reduceAdd]
     refine q0b _ rfl rfl ?_;simp only [nmz, Nat.reduceAdd];refine q1f _ _ _ _ _ _ _ _ _ rfl rfl rfl rfl underlying22 (n := 1) (by kernel_rfl) hlt ?_
     simp only [nmz, Nat.reduceAdd];refine q0j rfl (fun w' hS => q0g 53 _ (by rfl) b (off + k * 1) (by rfl) _ (hS.cell id hck) _ underlying53 rfl) ?_
     simp only [nmz, Nat.reduceAdd]
     refine q0j rfl (fun w' hS => q0m 68 _ (by rfl) hb 0 (by rfl) #[.int .i64 wd, .slice (some ⟨b, off, none⟩) L.length lcap, .slice kad KK.length kcap] (hrc.keep hS id) _ underlying68 rfl 3 (by kernel_rfl) rfl) ?_
     simp only [nmz, Nat.reduceAdd];refine q0c ?_;refine q0u [6, 11] (by kernel_rfl) ?_;simp only [zz3, false_implies, implies_true];refine ⟨?_, ?_⟩
     · intro K hK
       simp only [zz5]
       refine q0l (q0o 108 [.tmp 52] _ rfl _ func108 rfl (by kernel_rfl) [.agg #[.int .i64 wd, .slice (some ⟨b, off, none⟩) L.length lcap, .slice kad KK.length kcap]] rfl _) (hwid _) ?_
       rintro e w5 ⟨rfl, hm5⟩
       try replace hB4 := hm5.obj id hB4
       replace hT := hT.trans0 hm5;clear hm5;refine ⟨_, rfl, hK _ _ hT ?_⟩;clear hK K;try simp only [nmz, Nat.reduceAdd]
       refine q0u [7, 11] (by kernel_rfl) ?_;simp only [zz3, false_implies, implies_true];refine ⟨?_, ?_⟩
       · intro K hK
         simp only [zz5];refine q0l (q0o 79 [.tmp 51, .tmp 53] _ rfl _ func79 rfl (by kernel_rfl) [.slice va m.length vc, .int .i64 (wn : Nat)] rfl _) (href _ hT) ?_
         rintro e w6 ⟨rfl, hm6⟩
         try replace hB4 := hm6.obj id hB4
         replace hT := hT.trans0 hm6;clear hm6;refine ⟨_, rfl, hK _ _ hT ?_⟩;clear hK K;try simp only [nmz, Nat.reduceAdd]
         refine q0u [8, 11] (by kernel_rfl) ?_;simp only [zz3, false_implies, implies_true];refine ⟨?_, ?_⟩
         · intro K hK
           simp only [zz5];refine q1d (exec_moveV _ rfl (.tuple #[.agg (q0d (ofI wn m)), .int .i64 0]) rfl) ?_;refine hK _ _ hT ?_;clear hK K
           try simp only [nmz, Nat.reduceAdd]
           refine q0u [9, 10, 11] (by kernel_rfl) ?_;simp only [zz3, false_implies, implies_true];refine ⟨?_, ?_, ?_⟩
           · intro K hK
             simp only [zz5];refine q1d (q0s _ 0 #[.agg (q0d (ofI wn m)), .int .i64 0] rfl rfl (.agg (q0d (ofI wn m))) rfl) ?_;refine hK _ _ hT ?_;clear hK K
             try simp only [nmz, Nat.reduceAdd]
             refine q0u [10, 11] (by kernel_rfl) ?_;simp only [zz3, false_implies, implies_true];refine ⟨?_, ?_⟩
             · intro K hK
               simp only [zz5];refine q1d (q0s _ 1 #[.agg (q0d (ofI wn m)), .int .i64 0] rfl rfl (.int .i64 0) rfl) ?_;refine hK _ _ hT ?_;clear hK K
               try simp only [nmz, Nat.reduceAdd]
               refine q0u [11] (by kernel_rfl) ?_;simp only [zz3, false_implies, implies_true];intro K hK;simp only [zz5]
               refine q2o 24 _ (by rfl) idZ (fun b9 w7 hbe hB4 hm7 hs7 => ?_);replace hB4 : w7.heap[b9]? = some (.cells (q0d (List.replicate 32 0)) 24 (0, 0)) := hB4
               have hbn : wr.heap.size ≤ b9 := by rw [hbe]; exact hT.size
               replace hT := hT.trans0 hm7;clear hm7 hbe hs7;refine hK _ _ hT ?_;clear hK K;try simp only [nmz, Nat.reduceAdd]
               refine q0u [12] (by kernel_rfl) ?_;simp only [zz3, false_implies, implies_true];intro K hK;simp only [zz5]
               refine q0r 24 _ _ b9 0 (q0d (ofI wn m)) (by rfl) (by rfl) (by rfl) (q0x _) 32 (by kernel_rfl) hic _ _ hB4 (by rw [hic, q0i]; simp) (fun w8 hB8 hm8 => ?_)
               rw [q0n (by rw [hic, q0i]; rfl)] at hB8;replace hT : Mod NoB wr w8 := hT.transB hm8 hbn;clear hB4 hm8;have hB4 := hB8;clear hB8;refine hK _ _ hT ?_
               clear hK K;try simp only [nmz, Nat.reduceAdd]
               refine q1g ?_;try simp only [zz4]
               refine q0f _ rfl rfl ?_;simp only [nmz, Nat.reduceAdd];refine q0c ?_;go_wp2
               go_meet
               case rel => exact ⟨b9, rfl, hbn, hB4, hT⟩
             · intro K hK
               simp only [zz5];refine q2o 24 _ (by rfl) idZ (fun b9 w7 hbe hB4 hm7 hs7 => ?_)
               replace hB4 : w7.heap[b9]? = some (.cells (q0d (List.replicate 32 0)) 24 (0, 0)) := hB4;have hbn : wr.heap.size ≤ b9 := by rw [hbe]; exact hT.size
               replace hT := hT.trans0 hm7;clear hm7 hbe hs7;refine hK _ _ hT ?_;clear hK K;try simp only [nmz, Nat.reduceAdd]
               refine q0u [10, 12] (by kernel_rfl) ?_;simp only [zz3, false_implies, implies_true];refine ⟨?_, ?_⟩
               · intro K hK
                 simp only [zz5];refine q1d (q0s _ 1 #[.agg (q0d (ofI wn m)), .int .i64 0] rfl rfl (.int .i64 0) rfl) ?_;refine hK _ _ hT ?_;clear hK K
                 try simp only [nmz, Nat.reduceAdd]
                 refine q0u [12] (by kernel_rfl) ?_;simp only [zz3, false_implies, implies_true];intro K hK;simp only [zz5]
                 refine q0r 24 _ _ b9 0 (q0d (ofI wn m)) (by rfl) (by rfl) (by rfl) (q0x _) 32 (by kernel_rfl) hic _ _ hB4 (by rw [hic, q0i]; simp) (fun w8 hB8 hm8 => ?_)
                 rw [q0n (by rw [hic, q0i]; rfl)] at hB8;replace hT : Mod NoB wr w8 := hT.transB hm8 hbn;clear hB4 hm8;have hB4 := hB8;clear hB8
                 refine hK _ _ hT ?_;clear hK K;try simp only [nmz, Nat.reduceAdd]
                 refine q1g ?_;try simp only [zz4]
                 refine q0f _ rfl rfl ?_;simp only [nmz, Nat.reduceAdd];refine q0c ?_;go_wp2
                 go_meet
                 case rel => exact ⟨b9, rfl, hbn, hB4, hT⟩
               · intro K hK
                 simp only [zz5]
                 refine q0r 24 _ _ b9 0 (q0d (ofI wn m)) (by rfl) (by rfl) (by rfl) (q0x _) 32 (by kernel_rfl) hic _ _ hB4 (by rw [hic, q0i]; simp) (fun w8 hB8 hm8 => ?_)
                 rw [q0n (by rw [hic, q0i]; rfl)] at hB8;replace hT : Mod NoB wr w8 := hT.transB hm8 hbn;clear hB4 hm8;have hB4 := hB8;clear hB8
                 refine hK _ _ hT ?_;clear hK K;try simp only [nmz, Nat.reduceAdd]
                 refine q0u [10] (by kernel_rfl) ?_;simp only [zz3, false_implies, implies_true];intro K hK;simp only [zz5]
                 refine q1d (q0s _ 1 #[.agg (q0d (ofI wn m)), .int .i64 0] rfl rfl (.int .i64 0) rfl) ?_;refine hK _ _ hT ?_;clear hK K
                 try simp only [nmz, Nat.reduceAdd]
                 refine q1g ?_;try simp only [zz4]
                 refine q0f _ rfl rfl ?_;simp only [nmz, Nat.reduceAdd];refine q0c ?_;go_wp2
                 go_meet
                 case rel => exact ⟨b9, rfl, hbn, hB4, hT⟩
           · intro K hK
             simp only [zz5];refine q1d (q0s _ 1 #[.agg (q0d (ofI wn m)), .int .i64 0] rfl rfl (.int .i64 0) rfl) ?_;refine hK _ _ hT ?_;clear hK K
             try simp only [nmz, Nat.reduceAdd]
             refine q0u [9, 11] (by kernel_rfl) ?_;simp only [zz3, false_implies, implies_true];refine ⟨?_, ?_⟩
             · intro K hK
               simp only [zz5];refine q1d (q0s _ 0 #[.agg (q0d (ofI wn m)), .int .i64 0] rfl rfl (.agg (q0d (ofI wn m))) rfl) ?_;refine hK _ _ hT ?_;clear hK K
               try simp only [nmz, Nat.reduceAdd]
               refine q0u [11] (by kernel_rfl) ?_;simp only [zz3, false_implies, implies_true];intro K hK;simp only [zz5]
               refine q2o 24 _ (by rfl) idZ (fun b9 w7 hbe hB4 hm7 hs7 => ?_);replace hB4 : w7.heap[b9]? = some (.cells (q0d (List.replicate 32 0)) 24 (0, 0)) := hB4
               have hbn : wr.heap.size ≤ b9 := by rw [hbe]; exact hT.size
               replace hT := hT.trans0 hm7;clear hm7 hbe hs7;refine hK _ _ hT ?_;clear hK K;try simp only [nmz, Nat.reduceAdd]
               refine q0u [12] (by kernel_rfl) ?_;simp only [zz3, false_implies, implies_true];intro K hK;simp only [zz5]
               refine q0r 24 _ _ b9 0 (q0d (ofI wn m)) (by rfl) (by rfl) (by rfl) (q0x _) 32 (by kernel_rfl) hic _ _ hB4 (by rw [hic, q0i]; simp) (fun w8 hB8 hm8 => ?_)
               rw [q0n (by rw [hic, q0i]; rfl)] at hB8;replace hT : Mod NoB wr w8 := hT.transB hm8 hbn;clear hB4 hm8;have hB4 := hB8;clear hB8;refine hK _ _ hT ?_
               clear hK K;try simp only [nmz, Nat.reduceAdd]
               refine q1g ?_;try simp only [zz4]
               refine q0f _ rfl rfl ?_;simp only [nmz, Nat.reduceAdd];refine q0c ?_;go_wp2
               go_meet
               case rel => exact ⟨b9, rfl, hbn, hB4, hT⟩
             · intro K hK
               simp only [zz5];refine q2o 24 _ (by rfl) idZ (fun b9 w7 hbe hB4 hm7 hs7 => ?_)
               replace hB4 : w7.heap[b9]? = some (.cells (q0d (List.replicate 32 0)) 24 (0, 0)) := hB4;have hbn : wr.heap.size ≤ b9 := by rw [hbe]; exact hT.size
               replace hT := hT.trans0 hm7;clear hm7 hbe hs7;refine hK _ _ hT ?_;clear hK K;try simp only [nmz, Nat.reduceAdd]
               refine q0u [9] (by kernel_rfl) ?_;simp only [zz3, false_implies, implies_true];intro K hK;simp only [zz5]
               refine q1d (q0s _ 0 #[.agg (q0d (ofI wn m)), .int .i64 0] rfl rfl (.agg (q0d (ofI wn m))) rfl) ?_;refine hK _ _ hT ?_;clear hK K
               try simp only [nmz, Nat.reduceAdd]
               refine q0u [12] (by kernel_rfl) ?_;simp only [zz3, false_implies, implies_true];intro K hK;simp only [zz5]
               refine q0r 24 _ _ b9 0 (q0d (ofI wn m)) (by rfl) (by rfl) (by rfl) (q0x _) 32 (by kernel_rfl) hic _ _ hB4 (by rw [hic, q0i]; simp) (fun w8 hB8 hm8 => ?_)
               rw [q0n (by rw [hic, q0i]; rfl)] at hB8;replace hT : Mod NoB wr w8 := hT.transB hm8 hbn;clear hB4 hm8;have hB4 := hB8;clear hB8;refine hK _ _ hT ?_
               clear hK K;try simp only [nmz, Nat.reduceAdd]
               refine q1g ?_;try simp only [zz4]
               refine q0f _ rfl rfl ?_;simp only [nmz, Nat.reduceAdd];refine q0c ?_;go_wp2
               go_meet
               case rel => exact ⟨b9, rfl, hbn, hB4, hT⟩
           · intro K hK
             simp only [zz5];refine q2o 24 _ (by rfl) idZ (fun b9 w7 hbe hB4 hm7 hs7 => ?_)
             replace hB4 : w7.heap[b9]? = some (.cells (q0d (List.replicate 32 0)) 24 (0, 0)) := hB4;have hbn : wr.heap.size ≤ b9 := by rw [hbe]; exact hT.size
             replace hT := hT.trans0 hm7;clear hm7 hbe hs7;refine hK _ _ hT ?_;clear hK K;try simp only [nmz, Nat.reduceAdd]
             refine q0u [9, 10] (by kernel_rfl) ?_;simp only [zz3, false_implies, implies_true];refine ⟨?_, ?_⟩
             · intro K hK
               simp only [zz5];refine q1d (q0s _ 0 #[.agg (q0d (ofI wn m)), .int .i64 0] rfl rfl (.agg (q0d (ofI wn m))) rfl) ?_;refine hK _ _ hT ?_;clear hK K
               try simp only [nmz, Nat.reduceAdd]
               refine q0u [10, 12] (by kernel_rfl) ?_;simp only [zz3, false_implies, implies_true];refine ⟨?_, ?_⟩
               · intro K hK
                 simp only [zz5];refine q1d (q0s _ 1 #[.agg (q0d (ofI wn m)), .int .i64 0] rfl rfl (.int .i64 0) rfl) ?_;refine hK _ _ hT ?_;clear hK K
                 try simp only [nmz, Nat.reduceAdd]
                 refine q0u [12] (by kernel_rfl) ?_;simp only [zz3, false_implies, implies_true];intro K hK;simp only [zz5]
                 refine q0r 24 _ _ b9 0 (q0d (ofI wn m)) (by rfl) (by rfl) (by rfl) (q0x _) 32 (by kernel_rfl) hic _ _ hB4 (by rw [hic, q0i]; simp) (fun w8 hB8 hm8 => ?_)
                 rw [q0n (by rw [hic, q0i]; rfl)] at hB8;replace hT : Mod NoB wr w8 := hT.transB hm8 hbn;clear hB4 hm8;have hB4 := hB8;clear hB8
                 refine hK _ _ hT ?_;clear hK K;try simp only [nmz, Nat.reduceAdd]
                 refine q1g ?_;try simp only [zz4]
                 refine q0f _ rfl rfl ?_;simp only [nmz, Nat.reduceAdd];refine q0c ?_;go_wp2
                 go_meet
                 case rel => exact ⟨b9, rfl, hbn, hB4, hT⟩
               · intro K hK
                 simp only [zz5]
                 refine q0r 24 _ _ b9 0 (q0d (ofI wn m)) (by rfl) (by rfl) (by rfl) (q0x _) 32 (by kernel_rfl) hic _ _ hB4 (by rw [hic, q0i]; simp) (fun w8 hB8 hm8 => ?_)
                 rw [q0n (by rw [hic, q0i]; rfl)] at hB8;replace hT : Mod NoB wr w8 := hT.transB hm8 hbn;clear hB4 hm8;have hB4 := hB8;clear hB8
                 refine hK _ _ hT ?_;clear hK K;try simp only [nmz, Nat.reduceAdd]
                 refine q0u [10] (by kernel_rfl) ?_;simp only [zz3, false_implies, implies_true];intro K hK;simp only [zz5]
                 refine q1d (q0s _ 1 #[.agg (q0d (ofI wn m)), .int .i64 0] rfl rfl (.int .i64 0) rfl) ?_;refine hK _ _ hT ?_;clear hK K
                 try simp only [nmz, Nat.reduceAdd]
                 refine q1g ?_;try simp only [zz4]
                 refine q0f _ rfl rfl ?_;simp only [nmz, Nat.reduceAdd];refine q0c ?_;go_wp2
                 go_meet
                 case rel => exact ⟨b9, rfl, hbn, hB4, hT⟩
             · intro K hK
               simp only [zz5];refine q1d (q0s _ 1 #[.agg (q0d (ofI wn m)), .int .i64 0] rfl rfl (.int .i64 0) rfl) ?_;refine hK _ _ hT ?_;clear hK K
               try simp only [nmz, Nat.reduceAdd]
               refine q0u [9] (by kernel_rfl) ?_;simp only [zz3, false_implies, implies_true];intro K hK;simp only [zz5]
               refine q1d (q0s _ 0 #[.agg (q0d (ofI wn m)), .int .i64 0] rfl rfl (.agg (q0d (ofI wn m))) rfl) ?_;refine hK _ _ hT ?_;clear hK K
               try simp only [nmz, Nat.reduceAdd]
               refine q0u [12] (by kernel_rfl) ?_;simp only [zz3, false_implies, implies_true];intro K hK;simp only [zz5]
               refine q0r 24 _ _ b9 0 (q0d (ofI wn m)) (by rfl) (by rfl) (by rfl) (q0x _) 32 (by kernel_rfl) hic _ _ hB4 (by rw [hic, q0i]; simp) (fun w8 hB8 hm8 => ?_)
               rw [q0n (by rw [hic, q0i]; rfl)] at hB8;replace hT : Mod NoB wr w8 := hT.transB hm8 hbn;clear hB4 hm8;have hB4 := hB8;clear hB8;refine hK _ _ hT ?_
               clear hK K;try simp only [nmz, Nat.reduceAdd]
               refine q1g ?_;try simp only [zz4]
               refine q0f _ rfl rfl ?_;simp only [nmz, Nat.reduceAdd];refine q0c ?_;go_wp2
               go_meet
               case rel => exact ⟨b9, rfl, hbn, hB4, hT⟩
         · intro K hK
           simp only [zz5];refine q2o 24 _ (by rfl) idZ (fun b9 w7 hbe hB4 hm7 hs7 => ?_)
           replace hB4 : w7.heap[b9]? = some (.cells (q0d (List.replicate 32 0)) 24 (0, 0)) := hB4;have hbn : wr.heap.size ≤ b9 := by rw [hbe]; exact hT.size
           replace hT := hT.trans0 hm7;clear hm7 hbe hs7;refine hK _ _ hT ?_;clear hK K;try simp only [nmz, Nat.reduceAdd]
           refine q0u [8] (by kernel_rfl) ?_;simp only [zz3, false_implies, implies_true];intro K hK;simp only [zz5]
           refine q1d (exec_moveV _ rfl (.tuple #[.agg (q0d (ofI wn m)), .int .i64 0]) rfl) ?_;refine hK _ _ hT ?_;clear hK K;try simp only [nmz, Nat.reduceAdd]
           refine q0u [9, 10] (by kernel_rfl) ?_;simp only [zz3, false_implies, implies_true];refine ⟨?_, ?_⟩
           · intro K hK
             simp only [zz5];refine q1d (q0s _ 0 #[.agg (q0d (ofI wn m)), .int .i64 0] rfl rfl (.agg (q0d (ofI wn m))) rfl) ?_;refine hK _ _ hT ?_;clear hK K
             try simp only [nmz, Nat.reduceAdd]
             refine q0u [10, 12] (by kernel_rfl) ?_;simp only [zz3, false_implies, implies_true];refine ⟨?_, ?_⟩
             · intro K hK
               simp only [zz5];refine q1d (q0s _ 1 #[.agg (q0d (ofI wn m)), .int .i64 0] rfl rfl (.int .i64 0) rfl) ?_;refine hK _ _ hT ?_;clear hK K
               try simp only [nmz, Nat.reduceAdd]
               refine q0u [12] (by kernel_rfl) ?_;simp only [zz3, false_implies, implies_true];intro K hK;simp only [zz5]
               refine q0r 24 _ _ b9 0 (q0d (ofI wn m)) (by rfl) (by rfl) (by rfl) (q0x _) 32 (by kernel_rfl) hic _ _ hB4 (by rw [hic, q0i]; simp) (fun w8 hB8 hm8 => ?_)
               rw [q0n (by rw [hic, q0i]; rfl)] at hB8;replace hT : Mod NoB wr w8 := hT.transB hm8 hbn;clear hB4 hm8;have hB4 := hB8;clear hB8;refine hK _ _ hT ?_
               clear hK K;try simp only [nmz, Nat.reduceAdd]
               refine q1g ?_;try simp only [zz4]
               refine q0f _ rfl rfl ?_;simp only [nmz, Nat.reduceAdd];refine q0c ?_;go_wp2
               go_meet
               case rel => exact ⟨b9, rfl, hbn, hB4, hT⟩
             · intro K hK
               simp only [zz5]
               refine q0r 24 _ _ b9 0 (q0d (ofI wn m)) (by rfl) (by rfl) (by rfl) (q0x _) 32 (by kernel_rfl) hic _ _ hB4 (by rw [hic, q0i]; simp) (fun w8 hB8 hm8 => ?_)
               rw [q0n (by rw [hic, q0i]; rfl)] at hB8;replace hT : Mod NoB wr w8 := hT.transB hm8 hbn;clear hB4 hm8;have hB4 := hB8;clear hB8;refine hK _ _ hT ?_
               clear hK K;try simp only [nmz, Nat.reduceAdd]
               refine q0u [10] (by kernel_rfl) ?_;simp only [zz3, false_implies, implies_true];intro K hK;simp only [zz5]
               refine q1d (q0s _ 1 #[.agg (q0d (ofI wn m)), .int .i64 0] rfl rfl (.int .i64 0) rfl) ?_;refine hK _ _ hT ?_;clear hK K
               try simp only [nmz, Nat.reduceAdd]
               refine q1g ?_;try simp only [zz4]
               refine q0f _ rfl rfl ?_;simp only [nmz, Nat.reduceAdd];refine q0c ?_;go_wp2
               go_meet
               case rel => exact ⟨b9, rfl, hbn, hB4, hT⟩
           · intro K hK
             simp only [zz5];refine q1d (q0s _ 1 #[.agg (q0d (ofI wn m)), .int .i64 0] rfl rfl (.int .i64 0) rfl) ?_;refine hK _ _ hT ?_;clear hK K
             try simp only [nmz, Nat.reduceAdd]
             refine q0u [9] (by kernel_rfl) ?_;simp only [zz3, false_implies, implies_true];intro K hK;simp only [zz5]
             refine q1d (q0s _ 0 #[.agg (q0d (ofI wn m)), .int .i64 0] rfl rfl (.agg (q0d (ofI wn m))) rfl) ?_;refine hK _ _ hT ?_;clear hK K
             try simp only [nmz, Nat.reduceAdd]
             refine q0u [12] (by kernel_rfl) ?_;simp only [zz3, false_implies, implies_true];intro K hK;simp only [zz5]
             refine q0r 24 _ _ b9 0 (q0d (ofI wn m)) (by rfl) (by rfl) (by rfl) (q0x _) 32 (by kernel_rfl) hic _ _ hB4 (by rw [hic, q0i]; simp) (fun w8 hB8 hm8 => ?_)
             rw [q0n (by rw [hic, q0i]; rfl)] at hB8;replace hT : Mod NoB wr w8 := hT.transB hm8 hbn;clear hB4 hm8;have hB4 := hB8;clear hB8;refine hK _ _ hT ?_
             clear hK K;try simp only [nmz, Nat.reduceAdd]
             refine q1g ?_;try simp only [zz4]
             refine q0f _ rfl rfl ?_;simp only [nmz, Nat.reduceAdd];refine q0c ?_;go_wp2
             go_meet
             case rel => exact ⟨b9, rfl, hbn, hB4, hT⟩
       · intro K hK
         simp only [zz5];refine q2o 24 _ (by rfl) idZ (fun b9 w7 hbe hB4 hm7 hs7 => ?_)
         replace hB4 : w7.heap[b9]? = some (.cells (q0d (List.replicate 32 0)) 24 (0, 0)) := hB4;have hbn : wr.heap.size ≤ b9 := by rw [hbe]; exact hT.size
         replace hT := hT.trans0 hm7;clear hm7 hbe hs7;refine hK _ _ hT ?_;clear hK K;try simp only [nmz, Nat.reduceAdd]
         refine q0u [7] (by kernel_rfl) ?_;simp only [zz3, false_implies, implies_true];intro K hK;simp only [zz5]
         refine q0l (q0o 79 [.tmp 51, .tmp 53] _ rfl _ func79 rfl (by kernel_rfl) [.slice va m.length vc, .int .i64 (wn : Nat)] rfl _) (href _ hT) ?_
         rintro e w6 ⟨rfl, hm6⟩
         try replace hB4 := hm6.obj id hB4
         replace hT := hT.trans0 hm6;clear hm6;refine ⟨_, rfl, hK _ _ hT ?_⟩;clear hK K;try simp only [nmz, Nat.reduceAdd]
         refine q0u [8] (by kernel_rfl) ?_;simp only [zz3, false_implies, implies_true];intro K hK;simp only [zz5]
         refine q1d (exec_moveV _ rfl (.tuple #[.agg (q0d (ofI wn m)), .int .i64 0]) rfl) ?_;refine hK _ _ hT ?_;clear hK K;try simp only [nmz, Nat.reduceAdd]
         refine q0u [9, 10] (by kernel_rfl) ?_;simp only [zz3, false_implies, implies_true];refine ⟨?_, ?_⟩
         · intro K hK
           simp only [zz5];refine q1d (q0s _ 0 #[.agg (q0d (ofI wn m)), .int .i64 0] rfl rfl (.agg (q0d (ofI wn m))) rfl) ?_;refine hK _ _ hT ?_;clear hK K
           try simp only [nmz, Nat.reduceAdd]
           refine q0u [10, 12] (by kernel_rfl) ?_;simp only [zz3, false_implies, implies_true];refine ⟨?_, ?_⟩
           · intro K hK
             simp only [zz5];refine q1d (q0s _ 1 #[.agg (q0d (ofI wn m)), .int .i64 0] rfl rfl (.int .i64 0) rfl) ?_;refine hK _ _ hT ?_;clear hK K
             try simp only [nmz, Nat.reduceAdd]
             refine q0u [12] (by kernel_rfl) ?_;simp only [zz3, false_implies, implies_true];intro K hK;simp only [zz5]
             refine q0r 24 _ _ b9 0 (q0d (ofI wn m)) (by rfl) (by rfl) (by rfl) (q0x _) 32 (by kernel_rfl) hic _ _ hB4 (by rw [hic, q0i]; simp) (fun w8 hB8 hm8 => ?_)
             rw [q0n (by rw [hic, q0i]; rfl)] at hB8;replace hT : Mod NoB wr w8 := hT.transB hm8 hbn;clear hB4 hm8;have hB4 := hB8;clear hB8;refine hK _ _ hT ?_
             clear hK K;try simp only [nmz, Nat.reduceAdd]
             refine q1g ?_;try simp only [zz4]
             refine q0f _ rfl rfl ?_;simp only [nmz, Nat.reduceAdd];refine q0c ?_;go_wp2
             go_meet
             case rel => exact ⟨b9, rfl, hbn, hB4, hT⟩
           · intro K hK
             simp only [zz5]
             refine q0r 24 _ _ b9 0 (q0d (ofI wn m)) (by rfl) (by rfl) (by rfl) (q0x _) 32 (by kernel_rfl) hic _ _ hB4 (by rw [hic, q0i]; simp) (fun w8 hB8 hm8 => ?_)
             rw [q0n (by rw [hic, q0i]; rfl)] at hB8;replace hT : Mod NoB wr w8 := hT.transB hm8 hbn;clear hB4 hm8;have hB4 := hB8;clear hB8;refine hK _ _ hT ?_
             clear hK K;try simp only [nmz, Nat.reduceAdd]
             refine q0u [10] (by kernel_rfl) ?_;simp only [zz3, false_implies, implies_true];intro K hK;simp only [zz5]
             refine q1d (q0s _ 1 #[.agg (q0d (ofI wn m)), .int .i64 0] rfl rfl (.int .i64 0) rfl) ?_;refine hK _ _ hT ?_;clear hK K
             try simp only [nmz, Nat.reduceAdd]
             refine q1g ?_;try simp only [zz4]
             refine q0f _ rfl rfl ?_;simp only [nmz, Nat.reduceAdd];refine q0c ?_;go_wp2
             go_meet
             case rel => exact ⟨b9, rfl, hbn, hB4, hT⟩
         · intro K hK
           simp only [zz5];refine q1d (q0s _ 1 #[.agg (q0d (ofI wn m)), .int .i64 0] rfl rfl (.int .i64 0) rfl) ?_;refine hK _ _ hT ?_;clear hK K
           try simp only [nmz, Nat.reduceAdd]
           refine q0u [9] (by kernel_rfl) ?_;simp only [zz3, false_implies, implies_true];intro K hK;simp only [zz5]
           refine q1d (q0s _ 0 #[.agg (q0d (ofI wn m)), .int .i64 0] rfl rfl (.agg (q0d (ofI wn m))) rfl) ?_;refine hK _ _ hT ?_;clear hK K
           try simp only [nmz, Nat.reduceAdd]
           refine q0u [12] (by kernel_rfl) ?_;simp only [zz3, false_implies, implies_true];intro K hK;simp only [zz5]
           refine q0r 24 _ _ b9 0 (q0d (ofI wn m)) (by rfl) (by rfl) (by rfl) (q0x _) 32 (by kernel_rfl) hic _ _ hB4 (by rw [hic, q0i]; simp) (fun w8 hB8 hm8 => ?_)
           rw [q0n (by rw [hic, q0i]; rfl)] at hB8;replace hT : Mod NoB wr w8 := hT.transB hm8 hbn;clear hB4 hm8;have hB4 := hB8;clear hB8;refine hK _ _ hT ?_
           clear hK K;try simp only [nmz, Nat.reduceAdd]
           refine q1g ?_;try simp only [zz4]
           refine q0f _ rfl rfl ?_;simp only [nmz, Nat.reduceAdd];refine q0c ?_;go_wp2
           go_meet
           case rel => exact ⟨b9, rfl, hbn, hB4, hT⟩
     · intro K hK
       simp only [zz5];refine q2o 24 _ (by rfl) idZ (fun b9 w7 hbe hB4 hm7 hs7 => ?_)
       replace hB4 : w7.heap[b9]? = some (.cells (q0d (List.replicate 32 0)) 24 (0, 0)) := hB4;have hbn : wr.heap.size ≤ b9 := by rw [hbe]; exact hT.size
       replace hT := hT.trans0 hm7;clear hm7 hbe hs7;refine hK _ _ hT ?_;clear hK K;try simp only [nmz, Nat.reduceAdd]
       refine q0u [6] (by kernel_rfl) ?_;simp only [zz3, false_implies, implies_true];intro K hK;simp only [zz5]
       refine q0l (q0o 108 [.tmp 52] _ rfl _ func108 rfl (by kernel_rfl) [.agg #[.int .i64 wd, .slice (some ⟨b, off, none⟩) L.length lcap, .slice kad KK.length kcap]] rfl _) (hwid _) ?_
       rintro e w5 ⟨rfl, hm5⟩
       try replace hB4 := hm5.obj id hB4
       replace hT := hT.trans0 hm5;clear hm5;refine ⟨_, rfl, hK _ _ hT ?_⟩;clear hK K;try simp only [nmz, Nat.reduceAdd]
       refine q0u [7] (by kernel_rfl) ?_;simp only [zz3, false_implies, implies_true];intro K hK;simp only [zz5]
       refine q0l (q0o 79 [.tmp 51, .tmp 53] _ rfl _ func79 rfl (by kernel_rfl) [.slice va m.length vc, .int .i64 (wn : Nat)] rfl _) (href _ hT) ?_;rintro e w6 ⟨rfl, hm6⟩
       try replace hB4 := hm6.obj id hB4
       replace hT := hT.trans0 hm6;clear hm6;refine ⟨_, rfl, hK _ _ hT ?_⟩;clear hK K;try simp only [nmz, Nat.reduceAdd]
       refine q0u [8] (by kernel_rfl) ?_;simp only [zz3, false_implies, implies_true];intro K hK;simp only [zz5]
       refine q1d (exec_moveV _ rfl (.tuple #[.agg (q0d (ofI wn m)), .int .i64 0]) rfl) ?_;refine hK _ _ hT ?_;clear hK K;try simp only [nmz, Nat.reduceAdd]
       refine q0u [9, 10] (by kernel_rfl) ?_;simp only [zz3, false_implies, implies_true];refine ⟨?_, ?_⟩
       · intro K hK
         simp only [zz5];refine q1d (q0s _ 0 #[.agg (q0d (ofI wn m)), .int .i64 0] rfl rfl (.agg (q0d (ofI wn m))) rfl) ?_;refine hK _ _ hT ?_;clear hK K
         try simp only [nmz, Nat.reduceAdd]
         refine q0u [10, 12] (by kernel_rfl) ?_;simp only [zz3, false_implies, implies_true];refine ⟨?_, ?_⟩
         · intro K hK
           simp only [zz5];refine q1d (q0s _ 1 #[.agg (q0d (ofI wn m)), .int .i64 0] rfl rfl (.int .i64 0) rfl) ?_;refine hK _ _ hT ?_;clear hK K
           try simp only [nmz, Nat.reduceAdd]
           refine q0u [12] (by kernel_rfl) ?_;simp only [zz3, false_implies, implies_true];intro K hK;simp only [zz5]
           refine q0r 24 _ _ b9 0 (q0d (ofI wn m)) (by rfl) (by rfl) (by rfl) (q0x _) 32 (by kernel_rfl) hic _ _ hB4 (by rw [hic, q0i]; simp) (fun w8 hB8 hm8 => ?_)
           rw [q0n (by rw [hic, q0i]; rfl)] at hB8;replace hT : Mod NoB wr w8 := hT.transB hm8 hbn;clear hB4 hm8;have hB4 := hB8;clear hB8;refine hK _ _ hT ?_
           clear hK K;try simp only [nmz, Nat.reduceAdd]
           refine q1g ?_;try simp only [zz4]
           refine q0f _ rfl rfl ?_;simp only [nmz, Nat.reduceAdd];refine q0c ?_;go_wp2
           go_meet
           case rel => exact ⟨b9, rfl, hbn, hB4, hT⟩
         · intro K hK
           simp only [zz5]
           refine q0r 24 _ _ b9 0 (q0d (ofI wn m)) (by rfl) (by rfl) (by rfl) (q0x _) 32 (by kernel_rfl) hic _ _ hB4 (by rw [hic, q0i]; simp) (fun w8 hB8 hm8 => ?_)
           rw [q0n (by rw [hic, q0i]; rfl)] at hB8;replace hT : Mod NoB wr w8 := hT.transB hm8 hbn;clear hB4 hm8;have hB4 := hB8;clear hB8;refine hK _ _ hT ?_
           clear hK K;try simp only [nmz, Nat.reduceAdd]
           refine q0u [10] (by kernel_rfl) ?_;simp only [zz3, false_implies, implies_true];intro K hK;simp only [zz5]
           refine q1d (q0s _ 1 #[.agg (q0d (ofI wn m)), .int .i64 0] rfl rfl (.int .i64 0) rfl) ?_;refine hK _ _ hT ?_;clear hK K
           try simp only [nmz, Nat.reduceAdd]
           refine q1g ?_;try simp only [zz4]
           refine q0f _ rfl rfl ?_;simp only [nmz, Nat.reduceAdd];refine q0c ?_;go_wp2
           go_meet
           case rel => exact ⟨b9, rfl, hbn, hB4, hT⟩
       · intro K hK
         simp only [zz5];refine q1d (q0s _ 1 #[.agg (q0d (ofI wn m)), .int .i64 0] rfl rfl (.int .i64 0) rfl) ?_;refine hK _ _ hT ?_;clear hK K
         try simp only [nmz, Nat.reduceAdd]
         refine q0u [9] (by kernel_rfl) ?_;simp only [zz3, false_implies, implies_true];intro K hK;simp only [zz5]
         refine q1d (q0s _ 0 #[.agg (q0d (ofI wn m)), .int .i64 0] rfl rfl (.agg (q0d (ofI wn m))) rfl) ?_;refine hK _ _ hT ?_;clear hK K
         try simp only [nmz, Nat.reduceAdd]
         refine q0u [12] (by kernel_rfl) ?_;simp only [zz3, false_implies, implies_true];intro K hK;simp only [zz5]
         refine q0r 24 _ _ b9 0 (q0d (ofI wn m)) (by rfl) (by rfl) (by rfl) (q0x _) 32 (by kernel_rfl) hic _ _ hB4 (by rw [hic, q0i]; simp) (fun w8 hB8 hm8 => ?_)
         rw [q0n (by rw [hic, q0i]; rfl)] at hB8;replace hT : Mod NoB wr w8 := hT.transB hm8 hbn;clear hB4 hm8;have hB4 := hB8;clear hB8;refine hK _ _ hT ?_
         clear hK K;try simp only [nmz, Nat.reduceAdd]
         refine q1g ?_;try simp only [zz4]
         refine q0f _ rfl rfl ?_;simp only [nmz, Nat.reduceAdd];refine q0c ?_;go_wp2
         go_meet
         case rel => exact ⟨b9, rfl, hbn, hB4, hT⟩
    case rest =>
     rename World => w8
     obtain ⟨ib, rfl, hib, hB8, hS8⟩ := hcut;have hib8 : ib < w8.heap.size := (Array.getElem?_eq_some_iff.1 hB8).1;have hat8 := hat.keep0 hS8;have hlt8 := hat.lt
     have hput := fun (w' : World) (hm : Mod NoB w8 w') => (hat8.keep0 hm).put (HVK.out.keep0 (hS8.trans0 hm)) hmk hhr (by omega);rw [hhb] at hput;rw [hhw] at hput
     have hcl8 := hS8.cell id hcl0;have hck8 := hS8.cell id hck;have hci8 : CellsAt w8 ib 0 (q0d (ofI wn m)) := CellsAt.whole hB8;have hm18 := hmr.trans0 hS8
     clear href hrc hbr hcl hcl0 hck hB8;go_upto_region 9 with (fail);have hnF : ¬ Ft ib := fun e => by have := hlt8 _ e; omega
     have hS : CellsAt w8.drew ib 0 (q0d (ofI wn m)) ∧ w8.drew.cell? ⟨hb, 0 + 1, none⟩ = some (.slice (some ⟨b, off, none⟩) L.length lcap) ∧ w8.drew.cell? ⟨b, off + k * 1, none⟩ = some (.slice va m.length vc) ∧ Mod Ft w8 w8.drew := ⟨hci8, hcl8, hck8, (Mod.refl _ _).drew⟩
     have hfin := hput w8.drew ((Mod.refl _ _).drew);have hhb1 : hb < w1.heap.size := hs1';have hb1 : b < w1.heap.size := hbw
     have hnH : ¬ Ft hb := fun e => by have := hFn _ e; omega
     have hnb : ¬ Ft b := fun e => by have := hFn _ e; omega
     refine q0v [(0, 3), (1, 0), (2, 3), (3, 0), (4, 3), (5, 3), (6, 0), (7, 1)] [] (fun w' => CellsAt w' ib 0 (q0d (ofI wn m)) ∧ w'.cell? ⟨hb, 0 + 1, none⟩ = some (.slice (some ⟨b, off, none⟩) L.length lcap) ∧ w'.cell? ⟨b, off + k * 1, none⟩ = some (.slice va m.length vc) ∧ Mod Ft w8 w') (by kernel_rfl) (by kernel_rfl) (by kernel_rfl) (by kernel_rfl) (fun _ _ _ _ hd h => ⟨hd.trans h.1, h.2⟩) hS ?_
     simp only [zz4];refine q0b _ rfl rfl ?_;simp only [nmz, Nat.reduceAdd]
     refine q0j rfl (fun w' hS => q0m 24 _ (by rfl) ib 0 (by rfl) (q0d (ofI wn m)) hS.1 _ underlying24 rfl 32 (by kernel_rfl) hic) ?_;simp only [nmz, Nat.reduceAdd]
     refine q0h _ _ _ _ _ _ rfl rfl rfl fo_68_1 ?_;simp only [nmz, Nat.reduceAdd]
     refine q0j rfl (fun w' hS => q0g 22 _ (by rfl) hb (0 + 1) (by rfl) _ hS.2.1 _ underlying22 rfl) ?_;simp only [nmz, Nat.reduceAdd];refine q0b _ rfl rfl ?_
     simp only [nmz, Nat.reduceAdd];refine q1f _ _ _ _ _ _ _ _ _ rfl rfl rfl rfl underlying22 (n := 1) (by kernel_rfl) hlt ?_;simp only [nmz, Nat.reduceAdd]
     refine q0j rfl (fun w' hS => q0g 53 _ (by rfl) b (off + k * 1) (by rfl) _ hS.2.2.1 _ underlying53 rfl) ?_;simp only [nmz, Nat.reduceAdd]
     refine q0e rfl (fun K hK => ?_)
     refine q0l (q0o 37 [.tmp 57, .tmp 58, .tmp 63] _ rfl _ func37 rfl (by kernel_rfl) [.pointer (some ⟨bs, 0, none⟩), .agg (q0d (ofI wn m)), .slice va m.length vc] rfl _) (hfin) ?_
     rintro e w9 ⟨⟨v9, rfl⟩, hst9⟩;have hmd : Mod Ft w8.drew w9 := by obtain ⟨_, _, h2, _⟩ := hst9; exact h2
     have hS9 : CellsAt w9 ib 0 (q0d (ofI wn m)) ∧ w9.cell? ⟨hb, 0 + 1, none⟩ = some (.slice (some ⟨b, off, none⟩) L.length lcap) ∧ w9.cell? ⟨b, off + k * 1, none⟩ = some (.slice va m.length vc) ∧ Mod Ft w8 w9 := ⟨hci8.keep hmd hnF, hmd.cell hnH hcl8, hmd.cell hnb hck8, hS.2.2.2.trans hmd (fun _ _ h => h)⟩
     have hns9 := HsNew.step hFn (hm18.trans0 ((Mod.refl _ _).drew)) hst9
     have HR : Hid (BldRel1 w w1 h wn L (.int .i64 ((k + 1 : Nat) : Int)) w9) := hid ⟨k + 1, by omega, rfl, by rw [HSN.out]; exact hns9⟩;refine ⟨_, rfl, hK _ _ hS9 ?_⟩;clear hK K
     try simp only [nmz, Nat.reduceAdd]
     refine q0c ?_;clear hS hS9 hmd hst9 hfin hput hci8 hcl8 hck8 hat8;go_wp2
     go_roundw
     case rel => exact HR.out
     case measure => simp [intOf]; omega
  · have hz : ¬ (k : Int) < (L.length : Nat) := by omega
    obtain rfl : k = L.length := by omega
    rw [List.take_length] at hat;have HR0 : Hid (BldRel2 w w1 h wn L KK (.int .i64 (0 : Nat)) wr) := hid ⟨0, 0, rfl, Nat.zero_le _, rfl, Ft, hat, hFn, hmr⟩
    clear hat hFn hmr hbr hcl0;go_wp2;clear hcl
    go_loopw [11] (BldRel2 w w1 h wn L KK) (fun i _ => KK.length + 1 - (intOf i).toNat)
    case atStart => exact HR0.out
    case round =>
     rename World => wr
     obtain ⟨j, n, hn, hj, rfl, Ft, hat, hFn, hmr⟩ := hrel;have HN := hid hn;have HJ := hid hj;have hbr := hmr.obj id hbH
     have hcl : wr.cell? ⟨hb, 1, none⟩ = some (.slice lad L.length lcap) := by simp [World.cell?, hbr]
     have hcl0 : wr.cell? ⟨hb, 0 + 1, none⟩ = some (.slice lad L.length lcap) := hcl
     have hck : wr.cell? ⟨hb, 2, none⟩ = some (.slice kad KK.length kcap) := by simp [World.cell?, hbr]
     have hck0 : wr.cell? ⟨hb, 0 + 2, none⟩ = some (.slice kad KK.length kcap) := hck
     have hHc : CellsAt wr hb 0 #[.int .i64 wd, .slice lad L.length lcap, .slice kad KK.length kcap] := CellsAt.whole hbr;clear hn hj
     by_cases hlt : n + 1 < KK.length
     · have hz : (n : Int) + 1 < (KK.length : Nat) := by omega
       by_cases hL0 : 0 < L.length
       · have hz0 : (L.length : Int) > 0 := by omega
         obtain ⟨_, _, hae, -, hatK⟩ := (HKV1.out.keep0 hmr).at;injection hae with hae1 hae2 hae3;subst hae1 hae3;obtain ⟨kb, koff, rfl, -, -, hkc⟩ := hatK n (by omega)
         obtain ⟨cs, -, rfl, hk0A⟩ := hkc n (by omega);obtain ⟨cs, -, rfl, hk1A⟩ := hkc (n + 1) hlt;have hk0c := CellsAt.one.1 hk0A;have hk1c := CellsAt.one.1 hk1A
         have hi0 := hK2 _ (List.getElem_mem (show n < KK.length by omega));have hi1 := hK2 _ (List.getElem_mem hlt);have hlo := lOf_snoc wn L KK j;rw [← HN.out] at hlo
         have hg0 : KK.getD n 0 = KK[n] := by rw [List.getD_eq_getElem?_getD, List.getElem?_eq_getElem (by omega)]; rfl
         have hg1 : KK.getD (n + 1) 0 = KK[n + 1] := by rw [List.getD_eq_getElem?_getD, List.getElem?_eq_getElem hlt]; rfl
         rw [hg0, hg1] at hlo;generalize KK[n] = x0 at *;generalize KK[n + 1] = x1 at *;have hpl := pickZ_lt x1 L.length (by omega)
         have hpk := fun w' => pick_any x1 L.length hi1 (by omega) w';unfold layZ at hlo;obtain ⟨p, hp⟩ : ∃ p : Nat, pickZ x1 L.length = p := ⟨(pickZ x1 L.length).toNat, by omega⟩
         rw [hp] at hpl hlo;simp only [hp] at hpk;have hpL : p < L.length := by omega
         have hgm : L.getD (p : Int).toNat [] = L[p] := by rw [Int.toNat_natCast, List.getD_eq_getElem?_getD, List.getElem?_eq_getElem hpL]; rfl
         simp only [hgm] at hlo;obtain ⟨_, _, hae, -, hatL⟩ := (q4f HLV1.out hmr).at;injection hae with hae1 hae2' hae3;subst hae1 hae3
         obtain ⟨b, off, rfl, -, -, hcc⟩ := hatL p hpL;obtain ⟨cs, -, ⟨vk, rfl, hvk⟩, hcA⟩ := hcc p hpL;have hcb := CellsAt.one.1 hcA;have hmk := hL2 _ (List.getElem_mem hpL)
         generalize L[p] = m at *;obtain ⟨va, vc, hve, -, -⟩ := Sl.at hvk;have HVK := hid hvk;rw [hve] at HVK hcb;have HLO := hid hlo
         have hbw : kb < w1.heap.size := sl_lt HKV1.out (show n < KK.length by omega);clear hlo hatK hkc hk0A hk1A hae2 hae2' hatL hcc hcA hve hvk hp hpl hg0 hg1 hgm
         go_upto_region 13 with (fail);have hS : Mod NoB wr wr.drew := (Mod.refl _ _).drew
         refine q0v [(0, 3), (1, 0), (2, 3), (3, 0), (4, 3), (5, 3), (6, 3), (7, 0), (8, 3), (9, 0), (10, 3), (11, 1), (12, 3), (13, 0), (14, 3)] [] (fun w' => Mod NoB wr w') (by kernel_rfl) (by kernel_rfl) (by kernel_rfl) (by kernel_rfl) (fun _ _ _ _ hd h => ⟨hd.trans h.1, h.2⟩) hS ?_
         simp only [zz4];refine q0h _ _ _ _ _ _ rfl rfl rfl fo_68_1 ?_;simp only [nmz, Nat.reduceAdd]
         refine q0j rfl (fun w' hS => q0g 22 _ (by rfl) hb (0 + 1) (by rfl) _ (hS.cell id hcl0) _ underlying22 rfl) ?_;simp only [nmz, Nat.reduceAdd]
         refine q0h _ _ _ _ _ _ rfl rfl rfl fo_68_2 ?_;simp only [nmz, Nat.reduceAdd]
         refine q0j rfl (fun w' hS => q0g 64 _ (by rfl) hb (0 + 2) (by rfl) _ (hS.cell id hck0) _ underlying64 rfl) ?_;simp only [nmz, Nat.reduceAdd]
         refine q0b _ rfl rfl ?_;simp only [nmz, Nat.reduceAdd];refine q1t _ _ _ _ (n : Int) 1 ((n + 1 : Nat) : Int) rfl rfl rfl rfl (by omega) (by omega) (by omega) ?_
         simp only [nmz, Nat.reduceAdd];refine q1f _ _ _ _ _ _ _ _ _ rfl rfl rfl rfl underlying64 (n := 1) (by kernel_rfl) hlt ?_;simp only [nmz, Nat.reduceAdd]
         refine q0j rfl (fun w' hS => q0g 3 _ (by rfl) kb (koff + (n + 1) * 1) (by rfl) _ (hS.cell id hk1c) _ underlying3 rfl) ?_;simp only [nmz, Nat.reduceAdd]
         refine q0h _ _ _ _ _ _ rfl rfl rfl fo_68_1 ?_;simp only [nmz, Nat.reduceAdd]
         refine q0j rfl (fun w' hS => q0g 22 _ (by rfl) hb (0 + 1) (by rfl) _ (hS.cell id hcl0) _ underlying22 rfl) ?_;simp only [nmz, Nat.reduceAdd]
         refine q1q _ _ _ _ _ rfl rfl rfl (by kernel_rfl) ?_;simp only [nmz, Nat.reduceAdd];refine q0e rfl (fun K hK => ?_)
         refine q0l (q0o 17 [.tmp 86, .tmp 89] _ rfl _ func17 rfl (by kernel_rfl) [.int .i64 x1, .int .i64 (L.length : Nat)] rfl _) (hpk _) ?_;rintro e w2 ⟨rfl, hw2⟩
         obtain rfl := hw2.symm;refine ⟨_, rfl, hK _ _ hS ?_⟩;clear hK K;try simp only [nmz, Nat.reduceAdd]
         refine q1f _ _ _ _ _ _ _ _ _ rfl rfl rfl rfl underlying22 (n := 1) (by kernel_rfl) hpL ?_;simp only [nmz, Nat.reduceAdd]
         refine q0j rfl (fun w' hS => q0g 53 _ (by rfl) b (off + p * 1) (by rfl) _ (hS.cell id hcb) _ underlying53 rfl) ?_;simp only [nmz, Nat.reduceAdd]
         refine q0f _ rfl rfl ?_;simp only [nmz, Nat.reduceAdd];refine q0c ?_;have hm1c := hmr.trans0 hS;have hat1 := hat.keep0 hS;have hHc1 := hHc.keep hS id
         have hk0c1 := hS.cell id hk0c;have hck1 := hS.cell id hck0;have HVK1 := hid (HVK.out.keep0 hS);generalize wr.drew = wq at *
         have href := fun w' (hm : Mod NoB wq w') => refOf_any (HVK1.out.keep0 hm) (by omega) wn hwz.1 hwz.2;have hdi : (ofI wn m).length = 32 := ofI_len hwz.2
         have hic : (q0d (ofI wn m)).size = 32 := by rw [q0i, hdi]
         clear hcl hcl0 hck hck0 hbr hHc hk0c hk1c hcb HVK hS hpk hat hmr hw2;go_upto_region 14 with (fail)
         refine q0a [3, 1, 1, 1, 3, 3, 3, 1, 1, 3] (fun _ => True) (by rfl) (by rfl) trivial ?_;simp only [zz2];refine q0b _ rfl rfl ?_
         simp only [nmz, Nat.reduceAdd]
         refine wpX rfl (q0m 68 _ (by rfl) hb 0 (by rfl) #[.int .i64 wd, .slice (some ⟨b, off, none⟩) L.length lcap, .slice (some ⟨kb, koff, none⟩) KK.length kcap] hHc1 _ underlying68 rfl 3 (by kernel_rfl) rfl) trivial ?_
         try simp only [nmz, Nat.reduceAdd]
         refine q0e rfl (fun K hK => ?_)
         refine q0l (q0o 108 [.tmp 95] _ rfl _ func108 rfl (by kernel_rfl) [.agg #[.int .i64 wd, .slice (some ⟨b, off, none⟩) L.length lcap, .slice (some ⟨kb, koff, none⟩) KK.length kcap]] rfl _) (hwid _) ?_
         rintro e w5 ⟨rfl, hm5⟩;refine ⟨_, rfl, hK _ _ trivial ?_⟩;clear hK K;try simp only [nmz, Nat.reduceAdd]
         refine q0e rfl (fun K hK => ?_)
         refine q0l (q0o 79 [.tmp 94, .tmp 96] _ rfl _ func79 rfl (by kernel_rfl) [.slice va m.length vc, .int .i64 (wn : Nat)] rfl _) (href _ hm5) ?_
         rintro e w6 ⟨rfl, hm6⟩;refine ⟨_, rfl, hK _ _ trivial ?_⟩;clear hK K;refine q0b _ rfl rfl ?_;simp only [nmz, Nat.reduceAdd]
         refine q0q rfl (fun w' => q0s _ 0 #[.agg (q0d (ofI wn m)), .int .i64 0] rfl rfl (.agg (q0d (ofI wn m))) rfl) ?_;simp only [nmz, Nat.reduceAdd]
         refine q0q rfl (fun w' => q0s _ 1 #[.agg (q0d (ofI wn m)), .int .i64 0] rfl rfl (.int .i64 0) rfl) ?_;simp only [nmz, Nat.reduceAdd]
         refine q0e rfl (fun K hK => ?_);refine q1c 24 _ (by rfl) idZ (fun w7 hB7 hm7 hs7 => ?_)
         replace hB7 : w7.heap[w6.heap.size]? = some (.cells (q0d (List.replicate 32 0)) 24 (0, 0)) := hB7;refine hK _ _ trivial ?_;clear hK K;try simp only [nmz, Nat.reduceAdd]
         refine q0e rfl (fun K hK => ?_)
         refine q0r 24 _ _ w6.heap.size 0 (q0d (ofI wn m)) (by rfl) (by rfl) (by rfl) (q0x _) 32 (by kernel_rfl) hic _ _ hB7 (by rw [hic, q0i]; simp) (fun w8 hB8 hm8 => ?_)
         rw [q0n (by rw [hic, q0i]; simp)] at hB8;refine hK _ _ trivial ?_;clear hK K;refine q0f _ rfl rfl ?_;simp only [nmz, Nat.reduceAdd]
         refine q0c ?_;have hS6 : Mod NoB wq w6 := hm5.trans0 hm6;have hS8 : Mod NoB wq w8 := (hS6.trans0 hm7).transB hm8 hS6.size;have hib6 := hS6.size
         have hib8 : w6.heap.size < w8.heap.size := (Array.getElem?_eq_some_iff.1 hB8).1;generalize hib : w6.heap.size = ib at *;have hat8 := hat1.keep0 hS8;have hlt1 := hat1.lt
         have hlay := fun (w' : World) (hm : Mod NoB w8 w') => (hat8.keep0 hm).lay (repoZ x0, ofI wn m) hdi (repoZ_size x0) (m.length : Nat);rw [hhq] at hlay;rw [hhl] at hlay
         simp only [← HLO.out] at hlay;have hci8 : CellsAt w8 ib 0 (q0d (ofI wn m)) := CellsAt.whole hB8;have hk08 := hS8.cell id hk0c1;have hck8 := hS8.cell id hck1
         have hm18 := hm1c.trans0 hS8;have hrep := fun w' => repo_any x0 hi0 w';clear hS6 hS8 hm5 hm6 hm7 hm8 hB7 hs7 href hHc1 hB8 hat1 hk0c1 hck1;go_upto_region 15 with (fail)
         have hnF : ¬ Ft ib := fun e => by have := hlt1 _ e; omega
         have hnH : ¬ Ft hb := fun e => by have := hFn _ e; omega
         have hnb : ¬ Ft kb := fun e => by have := hFn _ e; omega
         have hS : CellsAt w8.drew ib 0 (q0d (ofI wn m)) ∧ w8.drew.cell? ⟨hb, 0 + 2, none⟩ = some (.slice (some ⟨kb, koff, none⟩) KK.length kcap) ∧ w8.drew.cell? ⟨kb, koff + n * 1, none⟩ = some (.int .i64 x0) ∧ Mod Ft w8 w8.drew := ⟨hci8, hck8, hk08, (Mod.refl _ _).drew⟩
         have hnlt : n < KK.length := by omega
         refine q0v [(0, 3), (1, 3), (2, 0), (3, 3), (4, 3), (5, 0), (7, 0), (8, 3), (9, 3), (6, 1), (10, 1)] [] (fun w' => CellsAt w' ib 0 (q0d (ofI wn m)) ∧ w'.cell? ⟨hb, 0 + 2, none⟩ = some (.slice (some ⟨kb, koff, none⟩) KK.length kcap) ∧ w'.cell? ⟨kb, koff + n * 1, none⟩ = some (.int .i64 x0) ∧ Mod Ft w8 w') (by kernel_rfl) (by kernel_rfl) (by kernel_rfl) (by kernel_rfl) (fun _ _ _ _ hd h => ⟨hd.trans h.1, h.2⟩) hS ?_
         simp only [zz4];refine q0b _ rfl rfl ?_;simp only [nmz, Nat.reduceAdd];refine q0h _ _ _ _ _ _ rfl rfl rfl fo_68_2 ?_;simp only [nmz, Nat.reduceAdd]
         refine q0j rfl (fun w' hS => q0g 64 _ (by rfl) hb (0 + 2) (by rfl) _ hS.2.1 _ underlying64 rfl) ?_;simp only [nmz, Nat.reduceAdd];refine q0b _ rfl rfl ?_
         simp only [nmz, Nat.reduceAdd];refine q1f _ _ _ _ _ _ _ _ _ rfl rfl rfl rfl underlying64 (n := 1) (by kernel_rfl) hnlt ?_;simp only [nmz, Nat.reduceAdd]
         refine q0j rfl (fun w' hS => q0g 3 _ (by rfl) kb (koff + n * 1) (by rfl) _ hS.2.2.1 _ underlying3 rfl) ?_;simp only [nmz, Nat.reduceAdd]
         refine q0j rfl (fun w' hS => q0m 24 _ (by rfl) ib 0 (by rfl) (q0d (ofI wn m)) hS.1 _ underlying24 rfl 32 (by kernel_rfl) hic) ?_
         simp only [nmz, Nat.reduceAdd];refine q0b _ rfl rfl ?_;simp only [nmz, Nat.reduceAdd];refine q1q _ _ _ _ _ rfl rfl rfl (by kernel_rfl) ?_
         simp only [nmz, Nat.reduceAdd];refine q0e rfl (fun K hK => ?_)
         refine q0l (q0o 69 [.tmp 105] _ rfl _ func69 rfl (by kernel_rfl) [.int .i64 x0] rfl _) (hrep _) ?_;rintro e w9 ⟨rfl, hm9⟩
         have hm89 : Mod NoB w8 w9 := ((Mod.refl NoB w8).drew).trans0 hm9
         have hS9 : CellsAt w9 ib 0 (q0d (ofI wn m)) ∧ w9.cell? ⟨hb, 0 + 2, none⟩ = some (.slice (some ⟨kb, koff, none⟩) KK.length kcap) ∧ w9.cell? ⟨kb, koff + n * 1, none⟩ = some (.int .i64 x0) ∧ Mod Ft w8 w9 := ⟨hci8.keep hm89 id, hm89.cell id hck8, hm89.cell id hk08, hm89.mono (fun _ _ h => h.elim)⟩
         have hfin := hlay w9 hm89;refine ⟨_, rfl, hK _ _ hS9 ?_⟩;clear hK K;try simp only [nmz, Nat.reduceAdd]
         refine q0e rfl (fun K hK => ?_)
         refine q0l (q0o 110 [.tmp 100, .tmp 106, .tmp 107, .tmp 109] _ rfl _ func110 rfl (by kernel_rfl) [.pointer (some ⟨qb, 0, none⟩), .string (repoZ x0), .agg (q0d (ofI wn m)), .int .i64 (m.length : Nat)] rfl _) (hfin) ?_
         rintro e w10 ⟨⟨v10, rfl⟩, hst10⟩;have hmd : Mod Ft w9 w10 := by obtain ⟨_, _, h2, _⟩ := hst10; exact h2
         have hS10 : CellsAt w10 ib 0 (q0d (ofI wn m)) ∧ w10.cell? ⟨hb, 0 + 2, none⟩ = some (.slice (some ⟨kb, koff, none⟩) KK.length kcap) ∧ w10.cell? ⟨kb, koff + n * 1, none⟩ = some (.int .i64 x0) ∧ Mod Ft w8 w10 := ⟨hS9.1.keep hmd hnF, hmd.cell hnH hS9.2.1, hmd.cell hnb hS9.2.2.1, hS9.2.2.2.trans hmd (fun _ _ h => h)⟩
         have hns := HsNew.step hFn (hm18.trans0 hm89) hst10
         have HR : Hid (BldRel2 w w1 h wn L KK (.int .i64 ((n + 2 : Nat) : Int)) w10) := hid ⟨j + 1, n + 2, by have := HN.out; omega, laysN_lt HN.out hlt hL0, rfl, hns⟩
         refine ⟨_, rfl, hK _ _ hS10 ?_⟩;clear hK K;try simp only [nmz, Nat.reduceAdd]
         refine q0c ?_;clear hS hS9 hS10 hmd hst10 hns hfin hlay hm9 hm89 hat8 hci8 hk08 hck8 hm18 hrep;go_wp2
         go_roundw
         case rel => exact HR.out
         case measure => simp [intOf]; omega
       · have hz0 : ¬ (L.length : Int) > 0 := by omega
         have hjl : j = laysN L KK := by
          have h1 := HJ.out;have h2 : L = [] := List.eq_nil_of_length_eq_zero (by omega);unfold laysN at h1 ⊢;rw [if_pos h2] at h1 ⊢;omega
         have HF : Hid (BuildR w wn L KK (.returned (.tuple #[.pointer (some ⟨bs, 0, none⟩), .pointer (some ⟨qb, 0, none⟩)])) wr) := hid ⟨h, hhw, hhr, hhl, ⟨qb, hhq⟩, by rw [hhb, hhq], Ft, by rw [← hjl]; exact hat, fun k hk => by have := hFn k hk; have := hm1.size; omega, hm1.trans0 hmr⟩
         clear hat hFn hmr hbr hHc hcl0 hck0;go_wp2;go_ret2;exact HF.out
     · have hz : ¬ (n : Int) + 1 < (KK.length : Nat) := by omega
       have hnb : n ≤ 1000 := by
        have h1 := HJ.out;have h3 := HN.out;unfold laysN at h1
        split at h1 <;> omega
       have hjl : j = laysN L KK := by
        have h1 := HJ.out;have h3 := HN.out;unfold laysN at h1 ⊢
        split at h1
        · rename_i h2
          rw [if_pos h2];omega
        · rename_i h2
          rw [if_neg h2];omega
       have HF : Hid (BuildR w wn L KK (.returned (.tuple #[.pointer (some ⟨bs, 0, none⟩), .pointer (some ⟨qb, 0, none⟩)])) wr) := hid ⟨h, hhw, hhr, hhl, ⟨qb, hhq⟩, by rw [hhb, hhq], Ft, by rw [← hjl]; exact hat, fun k hk => by have := hFn k hk; have := hm1.size; omega, hm1.trans0 hmr⟩
       clear hat hFn hmr hbr hHc hcl0 hck0;go_wp2;go_ret2;exact HF.out
end Go.Proofs.YtjeonjoifjbohaaGreat
namespace Go.Proofs.YtjeonjoifjbohaaGreat
open Go.RowKit Go.Proofs.Tryz Go.Lib
theorem q3q (o o' : Bool) (G G' : Nat → Prop) (va vb : Value) (la lb : List (List UInt8)) (w : World) (ha : Sl o w G 32 IdC va la) (hb : Sl o' w G' 32 IdC vb lb) :
 Calls prog 24 #[va, vb] w (RetM (.bool (decide (la = lb))) w) := by
 obtain ⟨aa, ca, rfl, hla, ha⟩ := ha.at;obtain ⟨ab, cb, rfl, hlb, hb⟩ := hb.at
 by_cases hlen : la.length = lb.length
 · have e1 : ((la.length : Int) == (lb.length : Int)) = true := by simp [hlen]
   have H := hid hlen; have HA := hid ha; have HB := hid hb; clear hlen ha hb;go_enter func24, ntmps24;go_wp2
   go_loopw [5, 6] (SameRel la lb w) (fun _ i _ => la.length - (intOf i).toNat)
   case atStart => exact ⟨0, by omega, rfl, by rw [pre_zero], Mod.refl _ _⟩
   case round =>
    obtain ⟨k, hk, rfl, rfl, hm⟩ := hrel
    rename_i wr
    by_cases hs : pre k la lb = true
    · by_cases hlt : k < la.length
      · have hlt' : k < lb.length := by rw [← H.out]; exact hlt
        obtain ⟨ba, oa, rfl, -, -, hca⟩ := HA.out k hlt;obtain ⟨bb, ob, rfl, -, -, hcb⟩ := HB.out k hlt';obtain ⟨_, -, ⟨rfl, hc32⟩, hca⟩ := hca k hlt
        obtain ⟨_, -, ⟨rfl, hd32⟩, hcb⟩ := hcb k hlt';have hps := hid (pre_succ hlt hlt' hs);clear HA HB;go_wp2_with fail;have hS := hm.drew
        refine q0v [(0, 3), (1, 3), (2, 3), (3, 0), (4, 3), (5, 3), (6, 3), (7, 0), (8, 0), (9, 3)] [] (fun w' => Mod NoB w w') (by kernel_rfl) (by kernel_rfl) (by kernel_rfl) (by kernel_rfl) (fun _ _ _ _ hd h => ⟨hd.trans h.1, h.2⟩) hS ?_
        simp only [zz4];refine q0b _ rfl rfl ?_;simp only [nmz, Nat.reduceAdd];refine q0b _ rfl rfl ?_;simp only [nmz, Nat.reduceAdd]
        refine q1f _ _ _ _ _ _ _ _ _ rfl rfl rfl rfl underlying25 (n := 32) (by kernel_rfl) hlt ?_;simp only [nmz, Nat.reduceAdd]
        refine q0j rfl (fun w' hS => q0m _ _ rfl _ _ rfl _ (hca.keep hS id) _ underlying24 rfl 32 (by kernel_rfl) (by rw [q0i, hc32])) ?_
        simp only [nmz, Nat.reduceAdd];refine q0b _ rfl rfl ?_;simp only [nmz, Nat.reduceAdd];refine q0b _ rfl rfl ?_;simp only [nmz, Nat.reduceAdd]
        refine q1f _ _ _ _ _ _ _ _ _ rfl rfl rfl rfl underlying25 (n := 32) (by kernel_rfl) hlt' ?_;simp only [nmz, Nat.reduceAdd]
        refine q0j rfl (fun w' hS => q0m _ _ rfl _ _ rfl _ (hcb.keep hS id) _ underlying24 rfl 32 (by kernel_rfl) (by rw [q0i, hd32])) ?_
        simp only [nmz, Nat.reduceAdd]
        refine q0j rfl (fun w' hS => exec_eql_id _ _ _ _ rfl _ _ rfl rfl 32 5 underlying24 underlying5 (by kernel_rfl) (by kernel_rfl) hc32 hd32 _ rfl) ?_
        simp only [nmz, Nat.reduceAdd];refine q0f _ rfl rfl ?_;simp only [nmz, Nat.reduceAdd];refine q0c ?_;go_wp2
        go_roundw
        case rel => exact ⟨k + 1, by omega, by go_num, by rw [hps.out], hS⟩
        case measure => simp [intOf]; omega
      · go_wp2
        go_ret;exact ⟨by rw [← pre_full H.out (Nat.le_of_not_lt hlt), hs]; rfl, hm⟩
    · have hs' : pre k la lb = false := by simpa using hs
      have hps := hid (pre_false hs'); clear hs;go_wp2;go_ret;exact ⟨by rw [hps.out]; rfl, hm⟩
 · have e1 : ((la.length : Int) == (lb.length : Int)) = false := by simp; omega
   have hps := hid (decide_eq_false (show ¬ la = lb by rintro rfl; exact hlen rfl)); clear hlen;go_enter func24, ntmps24;go_wp2;refine wp_loop_once ?_;go_wp2;go_ret
   exact ⟨by rw [hps.out]; rfl, Mod.refl _ _⟩
end Go.Proofs.YtjeonjoifjbohaaGreat
namespace Go.Proofs.YtjeonjoifjbohaaGreat
open Go.RowKit Go.Shelf Go.Proofs.Tryz Go.Lib
theorem built_dot12 : prog.built 113 [(0, .int .i64 1), (1, .int .i64 2)] = some #[.int .i64 1, .int .i64 2] := by kernel_rfl
theorem built_held (a b : Int) (di : List UInt8) (h : di.length = 32) : prog.built 211 [(0, .agg #[.int .i64 a, .int .i64 b]), (1, .agg (q0d di))] = some (q2n ((a, b), di)) := by
 have p : q3g prog 211 = some [(0, 2), (2, 32)] := by kernel_rfl
 have hz : (q2n ((0, 0), List.replicate 32 0)).size = 34 := q3v (by simp);have hi : (q0d di).size = 32 := by rw [q0i, h]
 rw [q2k heldZ p];generalize q2n ((0, 0), List.replicate 32 0) = z at hz
 rw [q1u (off := 0) (size := 2) rfl (by rfl) (by rw [hz]; omega), q1u (off := 2) (size := 32) rfl (by simpa [Value.cells] using hi) (by rw [q4b (by rw [hz]; simp [Value.cells])]; rw [hz]; omega), q3n]
 congr 1
 apply Array.toList_inj.1
 have hl : z.toList.length = 34 := by simpa using hz
 simp only [q1m, Value.cells, q2n, Array.toList_append, hi]
 simp [hl]
theorem built_tag (n : ByteArray) (ad : Option Addr) (k c : Nat) : prog.built 188 [(0, .string n), (1, .slice ad k c)] = some #[.string n, .slice ad k c] := by
 have p : q3g prog 188 = some [(0, 1), (1, 1)] := by kernel_rfl
 rw [q2k tagZ p, q1u (off := 0) (size := 1) rfl (by rfl) (by simp), q1u (off := 1) (size := 1) rfl (by rfl) (by simp [q1m, Value.cells]), q3n]
 rfl
theorem built_rep (n : ByteArray) (ad : Option Addr) (k c : Nat) : prog.built 186 [(0, .string n), (1, .slice ad k c)] = some #[.string n, .slice ad k c, .slice none 0 0] := by
 have p : q3g prog 186 = some [(0, 1), (1, 1), (2, 1)] := by kernel_rfl
 rw [q2k repZ p, q1u (off := 0) (size := 1) rfl (by rfl) (by simp), q1u (off := 1) (size := 1) rfl (by rfl) (by simp [q1m, Value.cells]), q3n]
 rfl
theorem built_tab (ad bd : Option Addr) (k c k' c' : Nat) : prog.built 71 [(0, .slice ad k c), (1, .slice bd k' c')] = some #[.slice ad k c, .slice bd k' c'] := by
 have p : q3g prog 71 = some [(0, 1), (1, 1)] := by kernel_rfl
 rw [q2k tableZ p, q1u (off := 0) (size := 1) rfl (by rfl) (by simp), q1u (off := 1) (size := 1) rfl (by rfl) (by simp [q1m, Value.cells]), q3n]
 rfl
theorem sl_one {α : Type} {w : World} {b : Nat} {cs : Array Value} {T : TypeId} {R : Array Value → α → Prop} {x : α} (h : w.heap[b]? = some (.cells cs T (0, 0))) (hR : R cs x) (n : Nat) (hn : cs.size = n) : Sl false w AnyB n R (.slice (some ⟨b, 0, none⟩) 1 1) [x] := by
 refine ⟨some ⟨b, 0, none⟩, 1, rfl, Nat.le_refl _, by unfold maxLen; omega, fun _ => ⟨b, 0, rfl, trivial, fun e => (by cases e), fun i hi => ?_⟩⟩
 have h0 : i = 0 := by simpa using hi
 subst h0;refine ⟨cs, hn, hR, ?_⟩;rw [Nat.zero_mul];exact CellsAt.whole h
theorem results_row1 {P : Program} {fn : Func} {p : Tmp} {ty : TypeId} (h : fn.results = #[.cell p ty]) (tmps : Array Value) (w : World) (g : Nat) (t : TypeId) (cs : Array Value) (fr : Nat × Nat) (d : TypeDesc)
 (hp : tmps.getD p undef = .pointer (some ⟨g, 0, none⟩)) (hg : w.heap[g]? = some (.cells cs t fr))
 (hu : P.underlying ty = some d) (hd : (match d with | .struct _ | .array _ _ => true | _ => false) = true) (hi : (P.info? ty).map (·.size) = some cs.size) :
 (results fn tmps).run P w = .ok (.agg cs) w := by
 have hp' : tmps[p]?.getD undef = .pointer (some ⟨g, 0, none⟩) := by simpa using hp
 simp [results, h, hp', asAddr, run_loadVar_row w g t ty cs fr d hg hu hd hi]
def TagdR (w : World) (id : List UInt8) : Ending → World → Prop := fun e w' => Mod NoB w w' ∧ ∃ vv rv reps, e = .returned (.agg #[vv, rv]) ∧ vv.oneCell' = true ∧ RepsAt w' rv reps ∧ rootsX reps = [id]
theorem int_zs : (prog.info? 3).map (fun i => (i.zero, i.size)) = some (some (.int .i64 0), 1) := by kernel_rfl
theorem held_zs : (prog.info? 211).map (fun i => (i.zero, i.size)) = some (some (.agg (q2n ((0, 0), List.replicate 32 0))), 34) := by kernel_rfl
theorem tag_zs : (prog.info? 188).map (fun i => (i.zero, i.size)) = some (some (.agg #[.string ⟨#[]⟩, .slice none 0 0]), 2) := by kernel_rfl
theorem rep_zs : (prog.info? 186).map (fun i => (i.zero, i.size)) = some (some (.agg #[.string ⟨#[]⟩, .slice none 0 0, .slice none 0 0]), 3) := by kernel_rfl
theorem tagged_any (di : List UInt8) (hid : di.length = 32) (w : World) : Calls prog 56 #[.agg (q0d di)] w (TagdR w di) := by
 have hic : (q0d di).size = 32 := by rw [q0i, hid]
 have hhs := q3v (h := ((1, 2), di)) hid;have hbh := built_held 1 2 di hid;go_enter func56, ntmps56;go_upto_region 0 with (fail)
 refine q0a [1, 1] (fun _ => True) (by rfl) (by rfl) trivial ?_;simp only [zz2];refine q0e rfl (fun K hK => ?_)
 refine q2i 24 _ _ (by rfl) (by rfl) (fun w1 hB1 hm1 hs1 => ?_);replace hB1 : w1.heap[w.heap.size]? = some (.cells (q0d di) 24 (0, 0)) := hB1;refine hK _ _ trivial ?_
 clear hK K;try simp only [nmz, Nat.reduceAdd]
 refine q0e rfl (fun K hK => ?_);refine q1c 71 _ (by rfl) tableZ (fun w2 hB2 hm2 hs2 => ?_)
 replace hB2 : w2.heap[w1.heap.size]? = some (.cells #[.slice none 0 0, .slice none 0 0] 71 (0, 0)) := hB2;refine hK _ _ trivial ?_;clear hK K;try simp only [nmz, Nat.reduceAdd]
 refine q0c ?_;have hci : CellsAt w2 w.heap.size 0 (q0d di) := CellsAt.whole (hm2.obj id hB1);go_upto_region 1 with (fail)
 refine q0a [1, 0, 1, 0, 1, 0, 1, 0, 1, 0, 1] (fun _ => True) (by rfl) (by rfl) trivial ?_;simp only [zz2];refine q0e rfl (fun K hK => ?_)
 refine q1n 64 3 _ (.int .i64 2) (.int .i64 0) 1 (by rfl) (by rfl) underlying64 int_zs (by omega) (by omega) rfl (fun w3 hB3 hm3 hs3 => ?_);have hci3 := hci.keep hm3 id
 refine hK _ _ trivial ?_;clear hK K;try simp only [nmz, Nat.reduceAdd]
 refine q0j rfl (fun w' hS => q0y 113 [(0, _), (1, _)] [(0, .int .i64 1), (1, .int .i64 2)] _ (by rfl) (by rfl) built_dot12) ?_;simp only [nmz, Nat.reduceAdd]
 refine wpX rfl (q0m 24 _ (by rfl) w.heap.size 0 (by rfl) (q0d di) hci3 _ underlying24 rfl 32 (by kernel_rfl) hic) trivial ?_;try simp only [nmz, Nat.reduceAdd]
 refine q0j rfl (fun w' hS => q0y 211 [(0, _), (1, _)] [(0, .agg #[.int .i64 1, .int .i64 2]), (1, .agg (q0d di))] _ (by rfl) (by rfl) hbh) ?_
 simp only [nmz, Nat.reduceAdd];refine q0e rfl (fun K hK => ?_)
 refine q1n 184 211 _ (.agg (q2n ((1, 2), di))) (.agg (q2n ((0, 0), List.replicate 32 0))) 34 (by rfl) (by rfl) underlying184 held_zs (by omega) (by omega) hhs (fun w4 hB4 hm4 hs4 => ?_)
 replace hB4 : w4.heap[w3.heap.size]? = some (.cells (q2n ((1, 2), di)) 211 (0, 0)) := hB4;refine hK _ _ trivial ?_;clear hK K;try simp only [nmz, Nat.reduceAdd]
 refine q0j rfl (fun w' hS => q0y 188 [(0, _), (1, _)] [(0, .string ⟨#[118]⟩), (1, .slice (some ⟨w3.heap.size, 0, none⟩) 1 1)] _ (by rfl) (by rfl) (built_tag ⟨#[118]⟩ _ 1 1)) ?_
 simp only [nmz, Nat.reduceAdd];refine q0e rfl (fun K hK => ?_)
 refine q1n 183 188 _ (.agg #[.string ⟨#[118]⟩, .slice (some ⟨w3.heap.size, 0, none⟩) 1 1]) (.agg #[.string ⟨#[]⟩, .slice none 0 0]) 2 (by rfl) (by rfl) underlying183 tag_zs (by omega) (by omega) rfl (fun w5 hB5 hm5 hs5 => ?_)
 replace hB5 : w5.heap[w4.heap.size]? = some (.cells #[.string ⟨#[118]⟩, .slice (some ⟨w3.heap.size, 0, none⟩) 1 1] 188 (0, 0)) := hB5;refine hK _ _ trivial ?_;clear hK K
 try simp only [nmz, Nat.reduceAdd]
 refine q0j rfl (fun w' hS => q0y 186 [(0, _), (1, _)] [(0, .string ⟨#[114]⟩), (1, .slice (some ⟨w4.heap.size, 0, none⟩) 1 1)] _ (by rfl) (by rfl) (built_rep ⟨#[114]⟩ _ 1 1)) ?_
 simp only [nmz, Nat.reduceAdd];refine q0e rfl (fun K hK => ?_)
 refine q1n 69 186 _ (.agg #[.string ⟨#[114]⟩, .slice (some ⟨w4.heap.size, 0, none⟩) 1 1, .slice none 0 0]) (.agg #[.string ⟨#[]⟩, .slice none 0 0, .slice none 0 0]) 3 (by rfl) (by rfl) underlying69 rep_zs (by omega) (by omega) rfl (fun w6 hB6 hm6 hs6 => ?_)
 replace hB6 : w6.heap[w5.heap.size]? = some (.cells #[.string ⟨#[114]⟩, .slice (some ⟨w4.heap.size, 0, none⟩) 1 1, .slice none 0 0] 186 (0, 0)) := hB6
 have hT6 := hm5.trans0 hm6 |> fun h => (hm3.trans0 hm4).trans0 h |>.obj id hB2;refine hK _ _ trivial ?_;clear hK K;try simp only [nmz, Nat.reduceAdd]
 refine q0j rfl (fun w' hS => q0y 71 [(0, _), (1, _)] [(0, .slice (some ⟨w2.heap.size, 0, none⟩) 1 1), (1, .slice (some ⟨w5.heap.size, 0, none⟩) 1 1)] _ (by rfl) (by rfl) (built_tab _ _ 1 1 1 1)) ?_
 simp only [nmz, Nat.reduceAdd];refine q0e rfl (fun K hK => ?_)
 refine q0r 71 _ _ w1.heap.size 0 #[.slice (some ⟨w2.heap.size, 0, none⟩) 1 1, .slice (some ⟨w5.heap.size, 0, none⟩) 1 1] (by rfl) (by rfl) (by rfl) (by intro c hc; simp at hc; rcases hc with rfl | rfl <;> rfl) 2 (by kernel_rfl) rfl _ _ hT6 (by simp) (fun w7 hB7 hm7 => ?_)
 rw [q0n (by simp)] at hB7;refine hK _ _ trivial ?_;clear hK K;try simp only [nmz, Nat.reduceAdd]
 refine q0c ?_;have hs2' := hm2.size;have hs3' := hm3.size;have hs4' := hm4.size;have hs5' := hm5.size;have hs6' := hm6.size;have h1lt : w1.heap.size < w2.heap.size := hs2
 have hM : Mod NoB w w7 := (((hm1.trans0 hm2).trans0 (hm3.trans0 hm4)).trans0 (hm5.trans0 hm6)).transB hm7 hm1.size
 have hT4 := hm7.objB (b := w3.heap.size) (by omega) ((hm5.trans0 hm6).obj id hB4);have hT5 := hm7.objB (b := w4.heap.size) (by omega) (hm6.obj id hB5)
 have hT7 := hm7.objB (b := w5.heap.size) (by omega) hB6;have hrow : RowAt w7 (.slice (some ⟨w3.heap.size, 0, none⟩) 1 1, [((1, 2), di)]) := sl_one hT4 ⟨rfl, hid⟩ 34 hhs
 have htags : Sl false w7 AnyB 2 (TagC w7) (.slice (some ⟨w4.heap.size, 0, none⟩) 1 1) [⟨⟨#[118]⟩, (.slice (some ⟨w3.heap.size, 0, none⟩) 1 1, [((1, 2), di)])⟩] := sl_one hT5 ⟨rfl, hrow⟩ 2 rfl
 have hreps : RepsAt w7 (.slice (some ⟨w5.heap.size, 0, none⟩) 1 1) [⟨⟨#[114]⟩, .slice (some ⟨w4.heap.size, 0, none⟩) 1 1, [⟨⟨#[118]⟩, (.slice (some ⟨w3.heap.size, 0, none⟩) 1 1, [((1, 2), di)])⟩], (.slice none 0 0, [])⟩] := sl_one hT7 ⟨rfl, htags, Sl.nil _ _ _ _ _⟩ 3 rfl
 have HF : Hid (TagdR w di (.returned (.agg #[.slice (some ⟨w2.heap.size, 0, none⟩) 1 1, .slice (some ⟨w5.heap.size, 0, none⟩) 1 1])) w7) := Lib.hid ⟨hM, _, _, _, rfl, rfl, hreps, rfl⟩
 clear hM hT4 hT5 hT7 hrow htags hreps hT6 hm1 hm2 hm3 hm4 hm5 hm6 hm7 hB1 hB2 hB3 hB4 hB5 hB6 hci hci3;go_wp2
 refine bodyPost_ret (results_row1 (P := prog) (ty := 71) rfl _ _ w1.heap.size _ _ _ _ (by rfl) hB7 underlying71 rfl (by kernel_rfl)) rfl ?_;exact HF.out
end Go.Proofs.YtjeonjoifjbohaaGreat
namespace Go.Proofs.YtjeonjoifjbohaaGreat
open Go.RowKit Go.Shelf Go.Proofs.Tryz Go.Lib
theorem sameSwept_any {w : World} {o o' : Bool} {G G' : Nat → Prop} {va vb : Value} {la lb : List (List UInt8)} (ha : Sl o w G 32 IdC va la) (hb : Sl o' w G' 32 IdC vb lb) (b1 n1 b2 n2 : Nat) :
 Calls prog 54 #[.agg (q0z va b1 n1), .agg (q0z vb b2 n2)] w (RetK (.bool (decide (la = lb) && decide (b1 = b2) && decide (n1 = n2))) w) := by
 have h1a := Sl.one ha;have h1b := Sl.one hb;obtain ⟨r, hr⟩ : ∃ r, decide (la = lb) = r := ⟨_, rfl⟩;rw [hr]
 obtain ⟨res, hres⟩ : ∃ x, (r && decide (b1 = b2) && decide (n1 = n2)) = x := ⟨_, rfl⟩;rw [hres];have HRES := hid hres;clear hres;go_enter func54, ntmps54
 go_upto_region 0 with (fail);refine q0a [1, 1, 3] (fun _ => True) (by rfl) (by rfl) trivial ?_;simp only [zz2];refine q0e rfl (fun K hK => ?_)
 refine q2i 104 _ _ (by rfl) (by rfl) (fun w1 hB1 hm1 hs1 => ?_);replace hB1 : w1.heap[w.heap.size]? = some (.cells (q0z va b1 n1) 104 (0, 0)) := hB1
 refine hK _ _ trivial ?_;clear hK K;try simp only [nmz, Nat.reduceAdd]
 refine q0e rfl (fun K hK => ?_);refine q2i 104 _ _ (by rfl) (by rfl) (fun w2 hB2 hm2 hs2 => ?_)
 replace hB2 : w2.heap[w1.heap.size]? = some (.cells (q0z vb b2 n2) 104 (0, 0)) := hB2;refine hK _ _ trivial ?_;clear hK K;refine q0f _ rfl rfl ?_
 simp only [nmz, Nat.reduceAdd];refine q0c ?_;have hm02 := hm1.trans0 hm2;have hB12 := hm2.obj id hB1
 have hca0 : w2.cell? ⟨w.heap.size, 0 + 0, none⟩ = some va := by simp [World.cell?, hB12, q0z]
 have hcb0 : w2.cell? ⟨w1.heap.size, 0 + 0, none⟩ = some vb := by simp [World.cell?, hB2, q0z]
 have hca1 : w2.cell? ⟨w.heap.size, 0 + 1, none⟩ = some (.int .i64 (b1 : Nat)) := by simp [World.cell?, hB12, q0z]
 have hcb1 : w2.cell? ⟨w1.heap.size, 0 + 1, none⟩ = some (.int .i64 (b2 : Nat)) := by simp [World.cell?, hB2, q0z]
 have hca2 : w2.cell? ⟨w.heap.size, 0 + 2, none⟩ = some (.int .i64 (n1 : Nat)) := by simp [World.cell?, hB12, q0z]
 have hcb2 : w2.cell? ⟨w1.heap.size, 0 + 2, none⟩ = some (.int .i64 (n2 : Nat)) := by simp [World.cell?, hB2, q0z]
 have hsame := q3q _ _ _ _ va vb la lb w2 (ha.keep0 hm02) (hb.keep0 hm02);rw [hr] at hsame;clear hr;generalize w.heap.size = ba at *;generalize w1.heap.size = bb at *
 go_upto_region 1 with (fail)
 cases r with
 | false =>
  refine q0a [3, 1, 3, 1, 1, 3, 3, 0, 3, 0, 3, 3, 3, 3, 0, 3, 0, 3, 3, 3] (fun _ => True) (by rfl) (by rfl) trivial ?_;simp only [zz2]
  refine q0h _ _ _ _ _ _ rfl rfl rfl fo_104_0 ?_;simp only [nmz, Nat.reduceAdd]
  refine wpX rfl (q0g 25 _ (by rfl) ba (0 + 0) (by rfl) _ hca0 _ underlying25 rfl) trivial ?_;refine q0h _ _ _ _ _ _ rfl rfl rfl fo_104_0 ?_
  simp only [nmz, Nat.reduceAdd];refine wpX rfl (q0g 25 _ (by rfl) bb (0 + 0) (by rfl) _ hcb0 _ underlying25 rfl) trivial ?_;try simp only [nmz, Nat.reduceAdd]
  refine q0e rfl (fun K hK => ?_);refine q0l (q0o 24 [.tmp 6, .tmp 8] _ rfl _ func24 rfl (by kernel_rfl) [va, vb] rfl _) (hsame) ?_;rintro e w3 ⟨rfl, hg3⟩
  have hm3 := hm02.trans0 hg3;refine ⟨_, rfl, hK _ _ trivial ?_⟩;clear hK K;refine q0b _ rfl rfl ?_;simp only [nmz, Nat.reduceAdd];refine q1a rfl ?_
  simp only [nmz, Nat.reduceAdd];refine q1r rfl ?_;simp only [nmz, Nat.reduceAdd];refine q1a rfl ?_;simp only [nmz, Nat.reduceAdd];refine q1r rfl ?_
  simp only [nmz, Nat.reduceAdd];refine q1a rfl ?_;simp only [nmz, Nat.reduceAdd];refine q1b _ _ _ _ rfl rfl rfl ?_;simp only [nmz, Nat.reduceAdd]
  refine q0b _ rfl rfl ?_;simp only [nmz, Nat.reduceAdd];refine q1a rfl ?_;simp only [nmz, Nat.reduceAdd];refine q1r rfl ?_;simp only [nmz, Nat.reduceAdd]
  refine q1a rfl ?_;simp only [nmz, Nat.reduceAdd];refine q1r rfl ?_;simp only [nmz, Nat.reduceAdd];refine q1a rfl ?_;simp only [nmz, Nat.reduceAdd]
  refine q1b _ _ _ _ rfl rfl rfl ?_;simp only [nmz, Nat.reduceAdd];refine q0f _ rfl rfl ?_;simp only [nmz, Nat.reduceAdd];refine q0c ?_
  clear hca0 hcb0 hca1 hcb1 hca2 hcb2 hB12 hB1 hB2;have h9 := HRES.out;have hres : res = false := by simpa using h9.symm
  clear h9;go_wp2;go_ret;exact ⟨by rw [hres]; rfl, hm3⟩
 | true =>
  have H9 := hid (show (decide (b1 = b2) && decide (n1 = n2)) = res by have h := HRES.out; simpa using h)
  by_cases hb12 : b1 = b2
  · have hz : (b1 : Int) = (b2 : Nat) := by omega
    have hzb : ((b1 : Int) == ((b2 : Nat) : Int)) = true := by simpa using hz
    refine q0a [3, 1, 3, 1, 1, 3, 3, 1, 3, 1, 3, 3, 3, 3, 1, 3, 1, 3, 3, 3] (fun _ => True) (by rfl) (by rfl) trivial ?_;simp only [zz2]
    refine q0h _ _ _ _ _ _ rfl rfl rfl fo_104_0 ?_;simp only [nmz, Nat.reduceAdd]
    refine wpX rfl (q0g 25 _ (by rfl) ba (0 + 0) (by rfl) _ hca0 _ underlying25 rfl) trivial ?_;refine q0h _ _ _ _ _ _ rfl rfl rfl fo_104_0 ?_
    simp only [nmz, Nat.reduceAdd];refine wpX rfl (q0g 25 _ (by rfl) bb (0 + 0) (by rfl) _ hcb0 _ underlying25 rfl) trivial ?_;try simp only [nmz, Nat.reduceAdd]
    refine q0e rfl (fun K hK => ?_);refine q0l (q0o 24 [.tmp 6, .tmp 8] _ rfl _ func24 rfl (by kernel_rfl) [va, vb] rfl _) (hsame) ?_;rintro e w3 ⟨rfl, hg3⟩
    have hm3 := hm02.trans0 hg3;have hca1' := hg3.cell id hca1;have hcb1' := hg3.cell id hcb1;have hca2' := hg3.cell id hca2;have hcb2' := hg3.cell id hcb2
    refine ⟨_, rfl, hK _ _ trivial ?_⟩;clear hK K;refine q0b _ rfl rfl ?_;simp only [nmz, Nat.reduceAdd];refine q0h _ _ _ _ _ _ rfl rfl rfl fo_104_1 ?_
    simp only [nmz, Nat.reduceAdd];refine wpX rfl (q0g 3 _ (by rfl) ba (0 + 1) (by rfl) _ hca1' _ underlying3 rfl) trivial ?_
    refine q0h _ _ _ _ _ _ rfl rfl rfl fo_104_1 ?_;simp only [nmz, Nat.reduceAdd]
    refine wpX rfl (q0g 3 _ (by rfl) bb (0 + 1) (by rfl) _ hcb1' _ underlying3 rfl) trivial ?_;try simp only [nmz, Nat.reduceAdd]
    refine q1e _ _ _ _ _ _ _ _ rfl rfl rfl rfl rfl true (decide_eq_true hz) ?_;simp only [nmz, Nat.reduceAdd];refine q1b _ _ _ _ rfl rfl rfl ?_
    simp only [nmz, Nat.reduceAdd];refine q0b _ rfl rfl ?_;simp only [nmz, Nat.reduceAdd];refine q0h _ _ _ _ _ _ rfl rfl rfl fo_104_2 ?_;simp only [nmz, Nat.reduceAdd]
    refine wpX rfl (q0g 3 _ (by rfl) ba (0 + 2) (by rfl) _ hca2' _ underlying3 rfl) trivial ?_;refine q0h _ _ _ _ _ _ rfl rfl rfl fo_104_2 ?_
    simp only [nmz, Nat.reduceAdd];refine wpX rfl (q0g 3 _ (by rfl) bb (0 + 2) (by rfl) _ hcb2' _ underlying3 rfl) trivial ?_;try simp only [nmz, Nat.reduceAdd]
    refine q1e _ _ _ _ _ _ _ _ rfl rfl rfl rfl rfl (decide (n1 = n2)) (show decide (((n1 : Nat) : Int) = ((n2 : Nat) : Int)) = decide (n1 = n2) by rw [decide_eq_decide]; omega) ?_
    simp only [nmz, Nat.reduceAdd];refine q1b _ _ _ _ rfl rfl rfl ?_;simp only [nmz, Nat.reduceAdd];refine q0f _ rfl rfl ?_;simp only [nmz, Nat.reduceAdd]
    refine q0c ?_;clear hca0 hcb0 hca1 hcb1 hca2 hcb2 hB12 hB1 hB2;have h9 := H9.out;rw [decide_eq_true hb12, Bool.true_and] at h9;have HR := hid h9;clear h9;go_wp2;go_ret
    exact ⟨by rw [← HR.out]; rfl, hm3⟩
  · have hz : ¬ (b1 : Int) = (b2 : Nat) := by omega
    refine q0a [3, 1, 3, 1, 1, 3, 3, 1, 3, 1, 3, 3, 3, 3, 0, 3, 0, 3, 3, 3] (fun _ => True) (by rfl) (by rfl) trivial ?_;simp only [zz2]
    refine q0h _ _ _ _ _ _ rfl rfl rfl fo_104_0 ?_;simp only [nmz, Nat.reduceAdd]
    refine wpX rfl (q0g 25 _ (by rfl) ba (0 + 0) (by rfl) _ hca0 _ underlying25 rfl) trivial ?_;refine q0h _ _ _ _ _ _ rfl rfl rfl fo_104_0 ?_
    simp only [nmz, Nat.reduceAdd];refine wpX rfl (q0g 25 _ (by rfl) bb (0 + 0) (by rfl) _ hcb0 _ underlying25 rfl) trivial ?_;try simp only [nmz, Nat.reduceAdd]
    refine q0e rfl (fun K hK => ?_);refine q0l (q0o 24 [.tmp 6, .tmp 8] _ rfl _ func24 rfl (by kernel_rfl) [va, vb] rfl _) (hsame) ?_;rintro e w3 ⟨rfl, hg3⟩
    have hm3 := hm02.trans0 hg3;have hca1' := hg3.cell id hca1;have hcb1' := hg3.cell id hcb1;refine ⟨_, rfl, hK _ _ trivial ?_⟩;clear hK K;refine q0b _ rfl rfl ?_
    simp only [nmz, Nat.reduceAdd];refine q0h _ _ _ _ _ _ rfl rfl rfl fo_104_1 ?_;simp only [nmz, Nat.reduceAdd]
    refine wpX rfl (q0g 3 _ (by rfl) ba (0 + 1) (by rfl) _ hca1' _ underlying3 rfl) trivial ?_;refine q0h _ _ _ _ _ _ rfl rfl rfl fo_104_1 ?_
    simp only [nmz, Nat.reduceAdd];refine wpX rfl (q0g 3 _ (by rfl) bb (0 + 1) (by rfl) _ hcb1' _ underlying3 rfl) trivial ?_;try simp only [nmz, Nat.reduceAdd]
    refine q1e _ _ _ _ _ _ _ _ rfl rfl rfl rfl rfl false (decide_eq_false hz) ?_;simp only [nmz, Nat.reduceAdd];refine q1b _ _ _ _ rfl rfl rfl ?_
    simp only [nmz, Nat.reduceAdd];refine q0b _ rfl rfl ?_;simp only [nmz, Nat.reduceAdd];refine q1a rfl ?_;simp only [nmz, Nat.reduceAdd];refine q1r rfl ?_
    simp only [nmz, Nat.reduceAdd];refine q1a rfl ?_;simp only [nmz, Nat.reduceAdd];refine q1r rfl ?_;simp only [nmz, Nat.reduceAdd];refine q1a rfl ?_
    simp only [nmz, Nat.reduceAdd];refine q1b _ _ _ _ rfl rfl rfl ?_;simp only [nmz, Nat.reduceAdd];refine q0f _ rfl rfl ?_;simp only [nmz, Nat.reduceAdd]
    refine q0c ?_;clear hca0 hcb0 hca1 hcb1 hca2 hcb2 hB12 hB1 hB2;have h9 := H9.out;rw [decide_eq_false hb12, Bool.false_and] at h9;go_wp2;go_ret
    exact ⟨by rw [← h9]; rfl, hm3⟩
end Go.Proofs.YtjeonjoifjbohaaGreat
