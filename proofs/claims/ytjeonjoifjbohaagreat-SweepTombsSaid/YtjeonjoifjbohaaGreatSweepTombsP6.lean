/- What the statement SweepTombs needs, part 6. -/
import Derived.Sort.CutIn
import Derived.Test.YtjeonjoifjbohaaGreatSweepTombsP5
set_option linter.unusedVariables false
set_option linter.unusedSimpArgs false
set_option linter.unnecessarySimpa false
set_option linter.unusedSectionVars false
set_option maxRecDepth 10000
set_option maxHeartbeats 8000000
namespace Go.Proofs.YtjeonjoifjbohaaGreat
section
open Go.RowKit Go.Shelf Go.Proofs.Tryz Go.Lib
theorem valuesI_any (w : World) (ad : Option Addr) (n cap : Nat) : Calls prog 119 #[.slice ad n cap] w fun e w' => e = .returned (.func (.func 194) #[] #[.pointer (some ⟨w.heap.size, 0, none⟩)]) ∧ w' = w.alloc (.cells #[.slice ad n cap] 25) := by
 have hmf := xJ;go_enter func119, ntmps119;go_wp2;go_ret;exact ⟨rfl, rfl⟩
def ValRel (ids : List (List UInt8)) (J : List (List UInt8) → World → Prop) (W0 : World) (i : Value) (w : World) : Prop :=
 ∃ k : Nat, k ≤ ids.length ∧ i = .int .i64 k ∧ J (ids.take k) w ∧ KC W0 w
theorem yR {α : Type} {l : List α} {k : Nat} (hk : k < l.length) : l = l.take k ++ l[k] :: l.drop (k + 1) := by
 rw [List.getElem_cons_drop hk, List.take_append_drop]
theorem take_snoc {α : Type} {l : List α} {k : Nat} (hk : k < l.length) : l.take k ++ [l[k]] = l.take (k + 1) := (List.take_succ_eq_append_getElem hk).symm
theorem valuesI_gives {w : World} {B : Nat} {own : Bool} {G : Nat → Prop} {v : Value} {ids : List (List UInt8)} (hB : w.heap[B]? = some (.cells #[v] 25 (0, 0))) (hv : Sl own w G 32 IdC v ids) :
 Gives prog 194 #[.pointer (some ⟨B, 0, none⟩)] (fun x => #[idV x]) ids w := by
 intro y J W hW hJ hY h0;have hBW := hW.obj id hB;obtain ⟨ad, cap, rfl, hle, hat⟩ := Sl.at (hv.keep0 hW);have HAT := hid hat
 have hcB : W.cell? ⟨B, 0, none⟩ = some (.slice ad ids.length cap) := by simp [World.cell?, hBW]
 have HR0 : Hid (ValRel ids J W (.int .i64 (0 : Nat)) W) := hid ⟨0, Nat.zero_le _, rfl, by rw [List.take_zero]; exact h0, KC.refl _⟩;clear hB hv hat h0 hW;go_enter func194, ntmps194
 go_upto_region 0 with (fail);refine wpR [1, 3, 3] (by rfl) (by rfl) ?_;simp only [zz2];refine wpXd 25 B 0 hcB underlying25 trivial ?_;try simp only [nmz]
 refine zP _ _ _ _ _ rfl rfl rfl (by kernel_rfl) ?_;simp only [nmz];refine qA _ rfl rfl ?_;simp only [nmz];refine qB ?_;clear hcB hBW;go_wp2
 go_loopw [7] (ValRel ids J W) (fun i _ => ids.length - (intOf i).toNat)
 case atStart => exact HR0.out
 case round =>
  rename World => wr
  obtain ⟨k, hk, rfl, hJr, hkc⟩ := hrel
  by_cases hlt : k < ids.length
  · have hz : (k : Int) < (ids.length : Nat) := by omega
    obtain ⟨b, off, rfl, -, -, hcc⟩ := HAT.out k hlt;obtain ⟨cs, -, ⟨rfl, hx32⟩, hcA⟩ := hcc k hlt;have hsp := yR hlt;have hsn := take_snoc hlt;generalize ids[k] = x at *
    have hic : (qC x).size = 32 := by rw [qI, hx32]
    have hcr := hkc.cells hcA;have HSP := hid hsp;have HSN := hid hsn;clear hsp hsn hcc hcA;go_upto_region 2 with (fail);refine wpR [3, 1, 1, 1] (by rfl) (by rfl) ?_;simp only [zz2]
    refine qX _ _ _ _ _ _ _ _ _ rfl rfl rfl rfl underlying25 (n := 32) (by kernel_rfl) hlt ?_;simp only [nmz]
    refine wpXA 24 b (off + k * 32) (qC x) hcr underlying24 32 hic trivial ?_;try simp only [nmz]
    refine wpDo rfl ?_;refine qU 24 _ (by rfl) idZ (fun w2 hB2 hm2 hs2 => ?_)
    replace hB2 : w2.heap[wr.heap.size]? = some (.cells (qC (List.replicate 32 0)) 24 (0, 0)) := hB2;try simp only [nmz]
    refine wpDo rfl ?_
    refine qM 24 _ _ wr.heap.size 0 (qC x) (by rfl) (by rfl) (by rfl) (qZ _) 32 (by kernel_rfl) hic _ _ hB2 (by rw [hic, qI]; simp) (fun w3 hB3 hm3 => ?_)
    rw [qK (by rw [hic, qI]; simp)] at hB3;try simp only [nmz]
    refine qB ?_;have hmr3 : Mod NoB wr w3 := hm2.transB hm3 (Nat.le_refl _);have hJ3 := OwnFrom.mod0 hJ hJr hmr3;have hk3 := hkc.trans (KC.of0 hmr3)
    have hYk := hY _ x _ w3 HSP.out hJ3;have hca : CellsAt w3 wr.heap.size 0 (qC x) := CellsAt.whole hB3;generalize hb7 : wr.heap.size = b7 at *
    clear hkc hm2 hm3 hmr3 hB2 hcr hs2 hJr hJ3 hB3;go_upto_region 3 with (fail);refine (wpIn_wide (n := 1)).1 (wpIn_region_lit ?_)
    refine wpListIn_plain rfl fun K hK => zH (fun c h => by cases h) ?_;refine zS (jF _ (by rfl)) ?_;refine hK _ _ ?_;clear hK K
    refine wpListIn_plain rfl fun K hK => zH (fun c h => by cases h) ?_
    refine zS (zV 24 _ (by rfl) b7 0 (by rfl) (qC x) hca _ underlying24 rfl 32 (by kernel_rfl) hic) ?_;refine hK _ _ ?_;clear hK K
    refine wpListIn_plain rfl fun K hK => wpIn_yield (l := y) _ _ _ (by rfl) (by rfl) (idV x) (by rfl) hYk (fun e' w5 he' => ?_);obtain ⟨rfl, hJ5, hk5, -⟩ := he';refine ⟨_, rfl, ?_⟩
    refine hK _ _ ?_;clear hK K;refine wpListIn_plain rfl fun K hK => zH (fun c h => by cases h) ?_;refine zS (exec_not _ _ true (by rfl) (by rfl)) ?_;refine hK _ _ ?_
    clear hK K;simp only [nmz];refine wpListIn_nil ?_
    have HR : Hid (ValRel ids J W (.int .i64 ((k + 1 : Nat) : Int)) w5) := hid ⟨k + 1, by omega, rfl, by rw [← HSN.out]; exact hJ5, hk3.trans hk5⟩;clear hk3 hk5 hJ5 hYk hca;go_wp2
    go_roundw
    case rel => exact HR.out
    case measure => simp [intOf]; omega
  · have hz : ¬ (k : Int) < (ids.length : Nat) := by omega
    obtain rfl : k = ids.length := by omega
    rw [List.take_length] at hJr;have HJ := hid hJr;clear hJr;go_wp2
    go_end0
    exact ⟨⟨_, rfl⟩, HJ.out⟩
def addsL (ids : List (List UInt8)) (all : List (List UInt8 × Value)) : List (List UInt8 × Value) := ids.foldl (fun a x => putL x (.agg #[]) a) all
theorem addsL_snoc (ids : List (List UInt8)) (x : List UInt8) (all : List (List UInt8 × Value)) : addsL (ids ++ [x]) all = putL x (.agg #[]) (addsL ids all) := by simp [addsL]
theorem built_wmark : prog.built 216 [] = some #[] := by kernel_rfl
def AddI (w : World) (mb : Nat) (all : List (List UInt8 × Value)) (pre : List (List UInt8)) (W : World) : Prop :=
 MapIs idV IdOk W mb (addsL pre all) ∧ Mod (fun k => k = mb) w W ∧ W.heap[w.heap.size]? = some (.cells #[.map (some mb)] 200 (0, 0))
theorem addI_own {w : World} {mb : Nat} {all : List (List UInt8 × Value)} (hmb : mb < w.heap.size) : OwnFrom (w.heap.size + 1) (AddI w mb all) := by
 intro s A B row hs hg hr;obtain ⟨h1, h2, h3⟩ := hs;have hm : Mod (fun k => some k = row) A B := Mod.of_grown hg fun r e => e.symm
 refine ⟨h1.keep hm (fun e => by have := (hr _ e.symm).1; omega), h2.trans hm (fun k hk e => by have := (hr k e.symm).1; omega), hm.obj (fun e => by have := (hr _ e.symm).1; omega) h3⟩
def AddAx (mb : Nat) (fv : Value) (Bs : Nat) (x : List UInt8) (a : Act) (w : World) : Prop :=
 ∃ Bx, Bs < Bx ∧ w.heap[Bx]? = some (.cells (qC x) 24 (0, 0)) ∧ a = { tmps := #[.map (some mb), fv, .pointer (some ⟨Bs, 0, none⟩), undef, .map none, .pointer (some ⟨Bx, 0, none⟩), fv, idV x, undef, undef, undef, undef], defers := [] }
theorem swAdd_any {w : World} {mb gf : Nat} {lb : Array Value} {ids : List (List UInt8)} {all : List (List UInt8 × Value)} (eg : ∀ args w, (callFunc gf args).run prog w = .ok (.enter gf args) w) (hG : Gives prog gf lb (fun x => #[idV x]) ids w)
 (hok : ∀ x ∈ ids, x.length = 32) (hM : MapIs idV IdOk w mb all) :
 Calls prog 115 #[.map (some mb), .func (.func gf) #[] lb] w fun e w' => e = .returned (.map (some mb)) ∧ MapIs idV IdOk w' mb (addsL ids all) ∧ Mod (fun k => k = mb) w w' := by
 have hmb := hM.lt;refine (callsIn_wide (n := 3)).1 (callsIn_of_wp_marks func115 rfl trivial ?_ rfl)
 simp only [ntmps115, List.size_toArray, List.length_cons, List.length_nil, Nat.reduceAdd, Nat.reduceSub, Array.replicate_succ, Array.replicate_zero, List.push_toArray, List.append_toArray, List.nil_append, List.cons_append]
 gi_wp2
 have hm0 := zD w (.cells #[.map (some mb)] 200);have hv0 := heap_alloc_new w (.cells #[.map (some mb)] 200)
 have hs0 : (w.alloc (.cells #[.map (some mb)] 200)).heap.size = w.heap.size + 1 := by simp
 have hh0 : AddI w mb all [] (w.alloc (.cells #[.map (some mb)] 200)) := ⟨hM.keep0 hm0, hm0.mono (fun _ _ h => h.elim), hv0⟩
 generalize w.alloc (.cells #[.map (some mb)] 200) = W0 at *
 refine wpIn_rangeFunc_giv (gf := gf) (lb := lb) (by rfl) eg hG hm0 (fun _ => rfl)
  (AddI w mb all) (by rw [hs0]; exact addI_own hmb) hh0
  (AddAx mb (.func (.func gf) #[] lb) w.heap.size)
  (fun x a' s A B row hs hg hr => by
   obtain ⟨Bx, hlt, h1, rfl⟩ := hs;refine ⟨Bx, hlt, (hg.block Bx (Array.getElem?_eq_some_iff.1 h1).1 (fun e => ?_)).trans h1, rfl⟩;obtain ⟨_, o, ho, hc⟩ := hr Bx e.symm
   rw [h1] at ho; cases ho; cases hc)
  ?assign ?body ?done
 case assign =>
  rintro l pre x rest W K hxs ⟨hMW, hmW, hbW⟩ hK0;have hx32 : x.length = 32 := hok x (by rw [hxs]; simp);have hic : (qC x).size = 32 := by rw [qI, hx32]
  simp only [List.zip_toArray, List.zip_cons_cons, List.zip_nil_right, List.foldl_toArray', List.foldl_cons, List.foldl_nil, List.setIfInBounds_toArray, ss, sz]
  refine wpIn_region_lit ?_;refine zE rfl rfl fun K hK => ?_;refine qU 24 _ (by rfl) idZ (fun w3 hB3 hm3 hs3 => ?_)
  replace hB3 : w3.heap[W.heap.size]? = some (.cells (qC (List.replicate 32 0)) 24 (0, 0)) := hB3;refine hK _ _ ?_;clear hK K;refine zE rfl rfl fun K hK => ?_
  refine qM 24 _ _ W.heap.size 0 (qC x) (by rfl) (by rfl) (by rfl) (qZ x) 32 (by kernel_rfl) hic _ _ hB3 (by rw [hic, qI]; simp) (fun w4 hB4 hm4 => ?_)
  have hm24 : Mod NoB W w4 := hm3.transB hm4 (Nat.le_refl _);rw [qK (by rw [hic, qI]; simp)] at hB4;refine hK _ _ ?_;clear hK K;refine wpListIn_nil ?_
  have hlt := (Array.getElem?_eq_some_iff.1 hbW).1
  refine hK0 _ _ (hm24.keepsOthers0.from _) (KC.of0 hm24) ⟨hMW.keep0 hm24, hmW.trans hm24 (fun _ _ h => h.elim), hm24.obj id hbW⟩ ⟨W.heap.size, hlt, hB4, rfl⟩
 case body =>
  rintro l pre x rest a' W hxs ⟨hMW, hmW, hbW⟩ ⟨Bx, hBs, hBx, rfl⟩;have hx32 : x.length = 32 := hok x (by rw [hxs]; simp)
  have hic : (qC x).size = 32 := by rw [qI, hx32]
  have hca : CellsAt W Bx 0 (qC x) := CellsAt.whole hBx;have hcb : W.cell? ⟨w.heap.size, 0, none⟩ = some (.map (some mb)) := by simp [World.cell?, hbW]
  refine wpIn_block ?_;refine wpIn_region_lit ?_;refine zE rfl rfl fun K hK => ?_
  refine zS (zJ 200 _ (by rfl) w.heap.size 0 (by rfl) _ hcb _ underlying200 rfl) ?_;refine hK _ _ ?_;clear hK K;refine zE rfl rfl fun K hK => ?_
  refine zS (zV 24 _ (by rfl) Bx 0 (by rfl) (qC x) hca _ underlying24 rfl 32 (by kernel_rfl) hic) ?_;refine hK _ _ ?_;clear hK K;simp only [nmz]
  refine zE rfl rfl fun K hK => ?_;refine zS (qT 216 [] [] _ (by rfl) (by rfl) built_wmark) ?_;refine hK _ _ ?_;clear hK K;simp only [nmz]
  refine zE rfl rfl fun K hK => ?_;refine wp_putL keyT_id hMW x hx32 200 216 underlying200 _ _ _ (.agg #[]) (by rfl) (by rfl) (by rfl) (by rfl) (fun w4 hM4 hm4 => ?_)
  refine hK _ _ ?_;clear hK K;refine wpListIn_nil ?_
  have hmapb : ∃ es clk, W.heap[mb]? = some (.map es clk) := by
   obtain ⟨⟨es, clk, h1, _⟩, _⟩ := hMW;exact ⟨es, clk, h1⟩
  obtain ⟨es, clk, hmo⟩ := hmapb;refine ⟨?_, KC.of_mod hm4 (fun k o e ho => ?_), ?_, ?_, ?_⟩
  · exact KeepsFrom.of_grownBy hm4.grownAt (fun j e => by cases e; omega)
  · have e : k = mb := e
    subst e; rw [hmo] at ho; cases ho; rfl
  · rw [addsL_snoc]; exact hM4
  · exact hmW.trans hm4 (fun _ _ h => h)
  · exact hm4.obj (fun e => by have e : w.heap.size = mb := e; omega) hbW
 case done =>
  rintro D W hD ⟨hMW, hmW, hbW⟩ hK;have hcb : W.cell? ⟨w.heap.size, 0, none⟩ = some (.map (some mb)) := by simp [World.cell?, hbW]
  gi_wp2
  refine ⟨by simp, .inl ⟨_, _, rfl, run_takeDeferred hK, ?_⟩⟩;refine ⟨_, results_tmp rfl _ _ _, rfl, ?_, ?_⟩
  · refine hMW.keep ((Mod.refl (fun k => k = D) W).grown (grownBy_putObj' W D _) (fun k e _ => by cases e; rfl)) (fun e => by have e : mb = D := e; omega)
  · refine hmW.trans ((Mod.refl (fun k => k = D) W).grown (grownBy_putObj' W D _) (fun k e _ => by cases e; rfl)) (fun k hk e => by have e : k = D := e; omega)
theorem Sl.kc {α : Type} {w w' : World} {G : Nat → Prop} {sz : Nat} {R R' : Array Value → α → Prop} {v : Value} {l : List α} (h : Sl false w G sz R v l) (hm : KC w w') (hR : ∀ cs x, R cs x → R' cs x) : Sl false w' G sz R' v l := by
 obtain ⟨a, cap, hv, hl, hc, h⟩ := h;refine ⟨a, cap, hv, hl, hc, fun hne => ?_⟩;obtain ⟨b, off, ha, hG, -, hi⟩ := h hne
 refine ⟨b, off, ha, hG, fun e => (by cases e), fun i hlt => ?_⟩;obtain ⟨cs, h1, h2, h3⟩ := hi i hlt;exact ⟨cs, h1, hR _ _ h2, hm.cells h3⟩
abbrev AnyB : Nat → Prop := fun _ => True
abbrev HeldL := (Int × Int) × List UInt8
def xM (h : HeldL) : Array Value := #[.int .i64 h.1.1, .int .i64 h.1.2] ++ qC h.2
def HeldC (cs : Array Value) (h : HeldL) : Prop := cs = xM h ∧ h.2.length = 32
theorem heldCells_one (h : HeldL) : ∀ c ∈ xM h, c.oneCell' = true := by
 intro c hc;simp only [xM, Array.mem_append] at hc
 rcases hc with hc | hc
 · simp at hc; rcases hc with rfl | rfl <;> rfl
 · exact qZ _ c hc
theorem jE {h : HeldL} (hh : h.2.length = 32) : (xM h).size = 34 := by simp [xM, qI, hh]
abbrev RowX := Value × List HeldL
def RowAt (w : World) (x : RowX) : Prop := Sl false w AnyB 34 HeldC x.1 x.2
theorem RowAt.kc {w w' : World} {x : RowX} (h : RowAt w x) (hm : KC w w') : RowAt w' x := Sl.kc h hm fun _ _ h => h
theorem RowAt.one {w : World} {x : RowX} (h : RowAt w x) : x.1.oneCell' = true := Sl.one h
structure TagX where
 name : ByteArray
 row : RowX
structure RepX where
 name : ByteArray
 tv : Value
 tags : List TagX
 man : RowX
def TagC (w : World) (cs : Array Value) (t : TagX) : Prop := cs = #[.string t.name, t.row.1] ∧ RowAt w t.row
structure RepAt (w : World) (r : RepX) : Prop where
 tags : Sl false w AnyB 2 (TagC w) r.tv r.tags
 man : RowAt w r.man
def RepC (w : World) (cs : Array Value) (r : RepX) : Prop := cs = #[.string r.name, r.tv, r.man.1] ∧ RepAt w r
theorem RepAt.kc {w w' : World} {r : RepX} (h : RepAt w r) (hm : KC w w') : RepAt w' r := ⟨Sl.kc h.tags hm fun _ _ h => ⟨h.1, h.2.kc hm⟩, h.man.kc hm⟩
abbrev RepsAt (w : World) (v : Value) (l : List RepX) : Prop := Sl false w AnyB 3 (RepC w) v l
theorem yN {w w' : World} {v : Value} {l : List RepX} (h : RepsAt w v l) (hm : KC w w') : RepsAt w' v l := Sl.kc h hm fun _ _ h => ⟨h.1, h.2.kc hm⟩
def repRows (r : RepX) : List RowX := r.tags.map (·.row) ++ [r.man]
def rowsX (l : List RepX) : List RowX := l.flatMap repRows
theorem rowsX_app (a b : List RepX) : rowsX (a ++ b) = rowsX a ++ rowsX b := List.flatMap_append
theorem rowsX_cons (r : RepX) (b : List RepX) : rowsX (r :: b) = (r.tags.map (·.row) ++ [r.man]) ++ rowsX b := List.flatMap_cons
theorem rowsX_tag (l : List RepX) (k : Nat) (hk : k < l.length) (m : Nat) (hm : m < l[k].tags.length) : ∃ rest, rowsX l = (rowsX (l.take k) ++ (l[k].tags.take m).map (·.row)) ++ l[k].tags[m].row :: rest := by
 have h1 := congrArg rowsX (yR hk);have h2 := congrArg (List.map (·.row)) (yR hm);rw [rowsX_app, rowsX_cons] at h1;rw [List.map_append, List.map_cons] at h2
 refine ⟨(l[k].tags.drop (m + 1)).map (·.row) ++ [l[k].man] ++ rowsX (l.drop (k + 1)), ?_⟩;rw [h1, h2];simp only [List.append_assoc, List.cons_append]
theorem rowsX_man (l : List RepX) (k : Nat) (hk : k < l.length) : ∃ rest, rowsX l = (rowsX (l.take k) ++ l[k].tags.map (·.row)) ++ l[k].man :: rest := by
 have h1 := congrArg rowsX (yR hk);rw [rowsX_app, rowsX_cons] at h1;refine ⟨rowsX (l.drop (k + 1)), ?_⟩;rw [h1]
 simp only [List.append_assoc, List.cons_append, List.nil_append]
theorem rowsX_succ (l : List RepX) (k : Nat) (hk : k < l.length) : rowsX (l.take (k + 1)) = (rowsX (l.take k) ++ l[k].tags.map (·.row)) ++ [l[k].man] := by
 have h1 := congrArg rowsX (List.take_succ_eq_append_getElem hk);rw [rowsX_app, rowsX_cons] at h1;rw [h1];simp only [List.append_assoc, rowsX, List.flatMap_nil, List.append_nil]
theorem tableZ : (prog.info? 71).bind (·.zero) = some (.agg #[.slice none 0 0, .slice none 0 0]) := by kernel_rfl
theorem swRts_any (w : World) (vv rv : Value) (h1 : vv.oneCell' = true) (h2 : rv.oneCell' = true) : Calls prog 117 #[.agg #[vv, rv]] w fun e w' => e = .returned (.func (.func 192) #[] #[.pointer (some ⟨w.heap.size, 0, none⟩)]) ∧ w' = w.alloc (.cells #[vv, rv] 71) := by
 have hmf := xJ;go_enter func117, ntmps117;go_wp2;go_ret;exact ⟨rfl, rfl⟩
theorem swIds_any (w : World) (f : Fn) (lb : Array Value) : Calls prog 116 #[.func f #[] lb] w fun e w' => e = .returned (.func (.func 191) #[] #[.pointer (some ⟨w.heap.size, 0, none⟩)]) ∧ w' = w.alloc (.cells #[.func f #[] lb] 206) := by
 have hmf := xJ;go_enter func116, ntmps116;go_wp2;go_ret;exact ⟨rfl, rfl⟩
theorem fo_71_1 : zB prog 71 1 = some 1 := by kernel_rfl
theorem fo_186_1 : zB prog 186 1 = some 1 := by kernel_rfl
theorem exec_fieldAddr {P : Program} {o : Oper} {a : Act} {w : World} (s : TypeId) (x : Operand) (f k b off : Nat) (ho : o.op = .fieldAddr s x f) (hx : a.eval x = .pointer (some ⟨b, off, none⟩)) (hk : zB P s f = some k) : (execOp a.eval o).run P w = .ok (.value (.pointer (some ⟨b, off + k, none⟩))) w := by
 unfold execOp;simp only [ho, hx, Sem.run_bind, run_fieldAt hk, Result.andThen_ok, Sem.run_pure]
theorem repZ : (prog.info? 186).bind (·.zero) = some (.agg #[.string ⟨#[]⟩, .slice none 0 0, .slice none 0 0]) := by kernel_rfl
theorem tagZ : (prog.info? 188).bind (·.zero) = some (.agg #[.string ⟨#[]⟩, .slice none 0 0]) := by kernel_rfl
def RtsRel (reps : List RepX) (J : List RowX → World → Prop) (W0 : World) (i : Value) (w : World) : Prop :=
 ∃ k : Nat, k ≤ reps.length ∧ i = .int .i64 k ∧ J (rowsX (reps.take k)) w ∧ KC W0 w
def TgsRel (pre : List RowX) (tags : List TagX) (J : List RowX → World → Prop) (W0 : World) (i : Value) (w : World) : Prop :=
 ∃ m : Nat, m ≤ tags.length ∧ i = .int .i64 m ∧ J (pre ++ (tags.take m).map (·.row)) w ∧ KC W0 w
theorem swRts_gives {w : World} {B : Nat} {vv rv : Value} {reps : List RepX} (hB : w.heap[B]? = some (.cells #[vv, rv] 71 (0, 0))) (hv : RepsAt w rv reps) :
 Gives prog 192 #[.pointer (some ⟨B, 0, none⟩)] (fun x : RowX => #[x.1]) (rowsX reps) w := by
 intro y J W hW hJ hY h0;have hBW := hW.obj id hB;have hvW : RepsAt W rv reps := yN hv (KC.of0 hW);have hone := Sl.one hv;obtain ⟨ad, cap, rfl, hle, hat⟩ := Sl.at hvW
 have HAT := hid hat;have hcB : W.cell? ⟨B, 0 + 1, none⟩ = some (.slice ad reps.length cap) := by simp [World.cell?, hBW]
 have HR0 : Hid (RtsRel reps J W (.int .i64 (0 : Nat)) W) := hid ⟨0, Nat.zero_le _, rfl, by rw [List.take_zero]; exact h0, KC.refl _⟩;clear hB hv hat h0 hW hvW hone
 go_enter func192, ntmps192;go_upto_region 0 with (fail);refine wpR [3, 1, 3, 3] (by rfl) (by rfl) ?_;simp only [zz2];refine qE _ _ _ _ _ _ rfl rfl rfl fo_71_1 ?_
 simp only [nmz];refine wpXd 69 B (0 + 1) hcB underlying69 trivial ?_;try simp only [nmz]
 refine zP _ _ _ _ _ rfl rfl rfl (by kernel_rfl) ?_;simp only [nmz];refine qA _ rfl rfl ?_;simp only [nmz];refine qB ?_;clear hcB hBW;go_wp2
 go_loopw [10] (RtsRel reps J W) (fun i _ => reps.length - (intOf i).toNat)
 case atStart => exact HR0.out
 case round =>
  rename World => wr
  obtain ⟨k, hk, rfl, hJr, hkc⟩ := hrel
  by_cases hlt : k < reps.length
  · have hz : (k : Int) < (reps.length : Nat) := by omega
    obtain ⟨b, off, rfl, -, -, hcc⟩ := HAT.out k hlt;obtain ⟨cs, -, ⟨rfl, hra⟩, hcA⟩ := hcc k hlt;have hsm := rowsX_man reps k hlt;have hst := rowsX_tag reps k hlt
    have hsn := rowsX_succ reps k hlt;generalize reps[k] = x at *;have hic : (#[Value.string x.name, x.tv, x.man.1] : Array Value).size = 3 := rfl
    have h1x : ∀ c ∈ (#[Value.string x.name, x.tv, x.man.1] : Array Value), c.oneCell' = true := by
     intro c hc
     simp at hc
     rcases hc with rfl | rfl | rfl
     · rfl
     · exact Sl.one hra.tags
     · exact hra.man.one
    have hcr := hkc.cells hcA;have HRA := hid hra;have HSM := hid hsm;have HST := hid hst;have HSN := hid hsn;clear hsm hst hsn hcc hcA hra;go_upto_region 2 with (fail)
    refine wpR [3, 1, 1, 1] (by rfl) (by rfl) ?_;simp only [zz2];refine qX _ _ _ _ _ _ _ _ _ rfl rfl rfl rfl underlying69 (n := 3) (by kernel_rfl) hlt ?_;simp only [nmz]
    refine wpXA 186 b (off + k * 3) #[Value.string x.name, x.tv, x.man.1] hcr underlying186 3 hic trivial ?_;try simp only [nmz]
    refine wpDo rfl ?_;refine qU 186 _ (by rfl) repZ (fun w2 hB2 hm2 hs2 => ?_)
    replace hB2 : w2.heap[wr.heap.size]? = some (.cells #[.string ⟨#[]⟩, .slice none 0 0, .slice none 0 0] 186 (0, 0)) := hB2;try simp only [nmz]
    refine wpDo rfl ?_
    refine qM 186 _ _ wr.heap.size 0 #[Value.string x.name, x.tv, x.man.1] (by rfl) (by rfl) (by rfl) h1x 3 (by kernel_rfl) hic _ _ hB2 (by simp) (fun w3 hB3 hm3 => ?_)
    rw [qK (by simp)] at hB3;try simp only [nmz]
    refine qB ?_;have hmr3 : Mod NoB wr w3 := hm2.transB hm3 (Nat.le_refl _);have hJ3 := OwnFrom.mod0 hJ hJr hmr3;have hk3 := hkc.trans (KC.of0 hmr3)
    have hra3 := HRA.out.kc hk3;generalize hb7 : wr.heap.size = b7 at *;obtain ⟨ta, tcap, htv, htle, htat⟩ := Sl.at hra3.tags;have HTAT := hid htat;have HMAN := hid hra3.man
    have hcT : w3.cell? ⟨b7, 0 + 1, none⟩ = some (.slice ta x.tags.length tcap) := by rw [← htv]; simp [World.cell?, hB3]
    have hcM : w3.cell? ⟨b7, 0 + 2, none⟩ = some x.man.1 := by simp [World.cell?, hB3]
    have hmn1 := hra3.man.one;have HT0 : Hid (TgsRel (rowsX (reps.take k)) x.tags J w3 (.int .i64 (0 : Nat)) w3) := hid ⟨0, Nat.zero_le _, rfl, by simpa using hJ3, KC.refl _⟩
    have HK3 := hid hk3;clear hkc hm2 hm3 hmr3 hB2 hcr hs2 hJr hJ3 hB3 htat hra3 h1x htv hk3;go_upto_region 3 with (fail);refine wpR [3, 1, 3, 3] (by rfl) (by rfl) ?_
    simp only [zz2];refine qE _ _ _ _ _ _ rfl rfl rfl fo_186_1 ?_;simp only [nmz];refine wpXd 183 b7 (0 + 1) hcT underlying183 trivial ?_;try simp only [nmz]
    refine zP _ _ _ _ _ rfl rfl rfl (by kernel_rfl) ?_;simp only [nmz];refine qA _ rfl rfl ?_;simp only [nmz];refine qB ?_;clear hcT;go_wp2
    go_loopw [17] (TgsRel (rowsX (reps.take k)) x.tags J w3) (fun i _ => x.tags.length - (intOf i).toNat)
    case atStart => exact HT0.out
    case round =>
     rename World => wq
     obtain ⟨m, hmle, rfl, hJq, hkq⟩ := hrel
     by_cases hltm : m < x.tags.length
     · have hzm : (m : Int) < (x.tags.length : Nat) := by omega
       obtain ⟨tb, toff, rfl, -, -, htcc⟩ := HTAT.out m hltm;obtain ⟨cs, -, ⟨rfl, hta⟩, htA⟩ := htcc m hltm;obtain ⟨rest, hsp⟩ := HST.out m hltm
       have hsn : (x.tags.take m).map (·.row) ++ [x.tags[m].row] = (x.tags.take (m + 1)).map (·.row) := by have h9 := congrArg (List.map (·.row)) (take_snoc hltm); rw [List.map_append] at h9; exact h9
       generalize x.tags[m] = t at *;have hict : (#[Value.string t.name, t.row.1] : Array Value).size = 2 := rfl
       have h1t : ∀ c ∈ (#[Value.string t.name, t.row.1] : Array Value), c.oneCell' = true := by
        intro c hc
        simp at hc
        rcases hc with rfl | rfl
        · rfl
        · exact hta.one
       have h1r := hta.one;have hctr := hkq.cells htA;have HSP := hid hsp;have HSQ := hid hsn;clear hsp hsn htcc htA hta;go_upto_region 5 with (fail)
       refine wpR [3, 1, 1, 1] (by rfl) (by rfl) ?_;simp only [zz2];refine qX _ _ _ _ _ _ _ _ _ rfl rfl rfl rfl underlying183 (n := 2) (by kernel_rfl) hltm ?_
       simp only [nmz];refine wpXA 188 tb (toff + m * 2) #[Value.string t.name, t.row.1] hctr underlying188 2 hict trivial ?_;try simp only [nmz]
       refine wpDo rfl ?_;refine qU 188 _ (by rfl) tagZ (fun w2 hB2 hm2 hs2 => ?_)
       replace hB2 : w2.heap[wq.heap.size]? = some (.cells #[.string ⟨#[]⟩, .slice none 0 0] 188 (0, 0)) := hB2;try simp only [nmz]
       refine wpDo rfl ?_
       refine qM 188 _ _ wq.heap.size 0 #[Value.string t.name, t.row.1] (by rfl) (by rfl) (by rfl) h1t 2 (by kernel_rfl) hict _ _ hB2 (by simp) (fun w4 hB4 hm4 => ?_)
       rw [qK (by simp)] at hB4;try simp only [nmz]
       refine qB ?_;have hmr4 : Mod NoB wq w4 := hm2.transB hm4 (Nat.le_refl _);have hJ4 := OwnFrom.mod0 hJ hJq hmr4;have hk4 := hkq.trans (KC.of0 hmr4)
       have hYk := hY _ t.row _ w4 HSP.out hJ4;have hcR : w4.cell? ⟨wq.heap.size, 0 + 1, none⟩ = some t.row.1 := by simp [World.cell?, hB4]
       generalize hb9 : wq.heap.size = b9 at *;clear hkq hm2 hm4 hmr4 hB2 hctr hs2 hJq hJ4 hB4 h1t;go_upto_region 6 with (fail);refine (wpIn_wide (n := 1)).1 (wpIn_region_lit ?_)
       refine wpListIn_plain rfl fun K hK => zH (fun c h => by cases h) ?_;refine zS (jF _ (by rfl)) ?_;refine hK _ _ ?_;clear hK K
       refine wpListIn_plain rfl fun K hK => zH (fun c h => by cases h) ?_;refine zS (exec_fieldAddr 188 _ 1 1 b9 0 (by rfl) (by rfl) (by kernel_rfl)) ?_
       refine hK _ _ ?_;clear hK K;simp only [nmz];refine wpListIn_plain rfl fun K hK => zH (fun c h => by cases h) ?_
       refine zS (zJ 184 _ (by rfl) b9 (0 + 1) (by rfl) _ hcR _ underlying184 rfl) ?_;refine hK _ _ ?_;clear hK K
       refine wpListIn_plain rfl fun K hK => wpIn_yield (l := y) _ _ _ (by rfl) (by rfl) t.row.1 (by rfl) hYk (fun e' w5 he' => ?_);obtain ⟨rfl, hJ5, hk5, -⟩ := he'
       refine ⟨_, rfl, ?_⟩;refine hK _ _ ?_;clear hK K;refine wpListIn_plain rfl fun K hK => zH (fun c h => by cases h) ?_
       refine zS (exec_not _ _ true (by rfl) (by rfl)) ?_;refine hK _ _ ?_;clear hK K;simp only [nmz];refine wpListIn_nil ?_
       have HQ : Hid (TgsRel (rowsX (reps.take k)) x.tags J w3 (.int .i64 ((m + 1 : Nat) : Int)) w5) := hid ⟨m + 1, by omega, rfl, by rw [← HSQ.out, ← List.append_assoc]; exact hJ5, hk4.trans hk5⟩
       clear hk4 hk5 hJ5 hYk hcR;go_wp2
       go_roundw
       case rel => exact HQ.out
       case measure => simp [intOf]; omega
     · have hzm : ¬ (m : Int) < (x.tags.length : Nat) := by omega
       obtain rfl : m = x.tags.length := by omega
       rw [List.take_length] at hJq;obtain ⟨rest, hsp⟩ := HSM.out;have hYk := hY _ x.man _ wq hsp hJq;have hcQ := hkq.cell hcM;have hkk := HK3.out.trans hkq;clear hsp hJq hkq
       go_upto_region 8 with (fail);refine (wpIn_wide (n := 1)).1 (wpIn_region_lit ?_);refine wpListIn_plain rfl fun K hK => zH (fun c h => by cases h) ?_
       refine zS (jF _ (by rfl)) ?_;refine hK _ _ ?_;clear hK K;refine wpListIn_plain rfl fun K hK => zH (fun c h => by cases h) ?_
       refine zS (exec_fieldAddr 186 _ 2 2 b7 0 (by rfl) (by rfl) (by kernel_rfl)) ?_;refine hK _ _ ?_;clear hK K;simp only [nmz]
       refine wpListIn_plain rfl fun K hK => zH (fun c h => by cases h) ?_;refine zS (zJ 184 _ (by rfl) b7 (0 + 2) (by rfl) _ hcQ _ underlying184 rfl) ?_
       refine hK _ _ ?_;clear hK K;refine wpListIn_plain rfl fun K hK => wpIn_yield (l := y) _ _ _ (by rfl) (by rfl) x.man.1 (by rfl) hYk (fun e' w5 he' => ?_)
       obtain ⟨rfl, hJ5, hk5, -⟩ := he';refine ⟨_, rfl, ?_⟩;refine hK _ _ ?_;clear hK K;refine wpListIn_plain rfl fun K hK => zH (fun c h => by cases h) ?_
       refine zS (exec_not _ _ true (by rfl) (by rfl)) ?_;refine hK _ _ ?_;clear hK K;simp only [nmz];refine wpListIn_nil ?_
       have HR : Hid (RtsRel reps J W (.int .i64 ((k + 1 : Nat) : Int)) w5) := hid ⟨k + 1, by omega, rfl, by rw [HSN.out]; exact hJ5, hkk.trans hk5⟩;clear hkk hk5 hJ5 hYk hcQ;go_wp2
       go_roundw
       case rel => exact HR.out
       case measure => simp [intOf]; omega
  · have hz : ¬ (k : Int) < (reps.length : Nat) := by omega
    obtain rfl : k = reps.length := by omega
    rw [List.take_length] at hJr;have HJ := hid hJr;clear hJr;go_wp2
    go_end0
    exact ⟨⟨_, rfl⟩, HJ.out⟩
attribute [local go_sem] Oper.semAt_some
theorem exec_assign {P : Program} {o : Oper} {a : Act} {w : World} (x : Operand) (ho : o.op = .assign x) : (execOp a.eval o).run P w = .ok (.value (a.eval x)) w := by
 unfold execOp; simp only [ho]; rfl
theorem exec_indexAddr {P : Program} {o : Oper} {a : Act} {w : World} (t : TypeId) (x y : Operand) (e : TypeId) (b off len cap n i : Nat) (ho : o.op = .indexAddr t x y) (hx : a.eval x = .slice (some ⟨b, off, none⟩) len cap) (hy : a.eval y = .int .i64 i) (hu : P.underlying t = some (.slice e))
 (hi : (P.info? e).map (·.size) = some n) (hlt : i < len) : (execOp a.eval o).run P w = .ok (.value (.pointer (some ⟨b, off + i * n, none⟩))) w := by
 unfold execOp; simp only [ho, hx, hy, Sem.run_bind, run_indexAt_slice hu hi hlt, Result.andThen_ok, Sem.run_pure]
theorem heldZ : (prog.info? 211).bind (·.zero) = some (.agg (xM ((0, 0), List.replicate 32 0))) := by kernel_rfl
def yZ (rows : List RowX) : List (List UInt8) := rows.flatMap fun r => r.2.map (·.2)
def IdsI (J : List (List UInt8) → World → Prop) (W0 : World) (pre : List RowX) (W : World) : Prop := J (yZ pre) W ∧ KC W0 W
theorem KC.own {β : Type} (W0 : World) (B : Nat) : OwnFrom B (fun (_ : β) W => KC W0 W) := fun s A C row hs hg hr =>
 hs.trans (KC.of_mod (Mod.of_grown hg fun r e => e.symm) (S := fun k => some k = row) (fun k o e ho => by
  obtain ⟨_, o', ho', hc⟩ := hr k e.symm
  rw [ho] at ho'; cases ho'; exact hc))
def IdsAx (y B Bs : Nat) (fv : Value) (x : RowX) (a : Act) (_ : World) : Prop :=
 a = { tmps := #[.func (.yield y) #[] #[], .pointer (some ⟨B, 0, none⟩), .pointer (some ⟨Bs, 0, none⟩), x.1, undef, undef, fv, x.1, undef, undef, undef, undef, undef, undef, undef, undef, undef, undef, undef, undef], defers := [] }
theorem wpIn_yieldR {P : Program} {n l₀ : Nat} {o : Oper} {a : Act} {w : World} {K : Act → World → Prop} {Q : Exit → Act → World → Prop} {l : Nat} {R : Ending → World → Prop} (x y : Operand) (ts : Array TypeId) (ho : o.op = .call { callee := .value x, args := #[y], argTypes := ts }) (hx : a.eval x = .func (.yield l) #[] #[]) (v : Value) (hv : a.eval y = v)
 (hy : YieldAt Fence.wide 0 P l #[v] w R) (hR : ∀ e w', R e w' → ∃ v, e = .returned v ∧ K (a.put o.dst v) w') : o.wpIn (Fence.wide.inRound l₀) n P a w K Q := by
 subst hv;obtain ⟨fn, tmps, assign, body, hrun, hround⟩ := yield_round (l₀ := l₀) (yield0 (m' := n - 1) hy);unfold Oper.wpIn;refine ⟨fun _ _ => trivial, ?_⟩
 rw [Oper.semAt_eq _ _ _ (fun c h => by rw [ho] at h; cases h)]
 have e : (execOp a.eval o).run P w = .ok (.round l fn tmps assign body) w := by
  unfold execOp
  simp [ho, resolve, hx, Deferred.ofValue, invoke, hrun]
 rw [e];refine ⟨fun h => by simp [Fence.wide] at h, hround.mono fun e w' he => ?_⟩;obtain ⟨v, rfl, hk⟩ := hR e w' he;exact hk
def HlsRel (pre : List (List UInt8)) (hs : List HeldL) (J : List (List UInt8) → World → Prop) (B : Nat) (W0 : World) (i : Value) (w : World) : Prop :=
 ∃ k : Nat, k ≤ hs.length ∧ i = .int .i64 k ∧ J (pre ++ (hs.take k).map (·.2)) w ∧ KC W0 w ∧ KeepsFrom B W0 w
theorem rowIds_app (a b : List RowX) : yZ (a ++ b) = yZ a ++ yZ b := List.flatMap_append
theorem rowIds_cons (r : RowX) (b : List RowX) : yZ (r :: b) = r.2.map (·.2) ++ yZ b := List.flatMap_cons
theorem rowIds_split {rows pre rest : List RowX} {v : Value} {hs : List HeldL} (h : rows = pre ++ (v, hs) :: rest) (k : Nat) (hk : k < hs.length) : ∃ r, yZ rows = (yZ pre ++ (hs.take k).map (·.2)) ++ hs[k].2 :: r := by
 have h2 := congrArg (List.map (·.2)) (yR hk);rw [List.map_append, List.map_cons] at h2;refine ⟨(hs.drop (k + 1)).map (·.2) ++ yZ rest, ?_⟩
 rw [h, rowIds_app, rowIds_cons]
 show yZ pre ++ (hs.map (·.2) ++ yZ rest) = _
 rw [h2];simp only [List.append_assoc, List.cons_append]
theorem swIds_gives {w : World} {B gf : Nat} {lb : Array Value} {rows : List RowX} (eg : ∀ args w, (callFunc gf args).run prog w = .ok (.enter gf args) w) (hB : w.heap[B]? = some (.cells #[.func (.func gf) #[] lb] 206 (0, 0)))
 (hG : Gives prog gf lb (fun x : RowX => #[x.1]) rows w) (hrows : ∀ r ∈ rows, RowAt w r) :
 Gives prog 191 #[.pointer (some ⟨B, 0, none⟩)] (fun x => #[idV x]) (yZ rows) w := by
 intro y J W hW hJ hY h0;have hBW := hW.obj id hB;have hcB : W.cell? ⟨B, 0, none⟩ = some (.func (.func gf) #[] lb) := by simp [World.cell?, hBW]
 refine (callsIn_wide (n := 3)).1 (callsIn_of_wp_marks func191 rfl trivial ?_ rfl)
 simp only [ntmps191, List.size_toArray, List.length_cons, List.length_nil, Nat.reduceAdd, Nat.reduceSub, Array.replicate_succ, Array.replicate_zero, List.push_toArray, List.append_toArray, List.nil_append, List.cons_append]
 have hm0 := zD W (.cells #[.func (.yield y) #[] #[]] 44);have hv0 := heap_alloc_new W (.cells #[.func (.yield y) #[] #[]] 44)
 have hs0 : (W.alloc (.cells #[.func (.yield y) #[] #[]] 44)).heap.size = W.heap.size + 1 := by simp
 have hcB0 : (W.alloc (.cells #[.func (.yield y) #[] #[]] 44)).cell? ⟨B, 0, none⟩ = some (.func (.func gf) #[] lb) := (KC.of0 hm0).cell hcB
 gi_wp2
 generalize W.alloc (.cells #[.func (.yield y) #[] #[]] 44) = W0 at *
 refine wpIn_rangeFunc_giv (gf := gf) (lb := lb) (by rfl) eg hG (hW.trans0 hm0) (fun _ => rfl)
  (IdsI J W0) ?own ⟨OwnFrom.mod0 hJ h0 hm0, KC.refl _⟩
  (IdsAx y B W.heap.size (.func (.func gf) #[] lb))
  (fun x a' s A C row hs hg hr => hs)
  ?assign ?body ?done
 case own =>
  intro s A C row hs hg hr;exact ⟨hJ _ A C row hs.1 hg (fun r e => ⟨by have := (hr r e).1; omega, (hr r e).2⟩), KC.own (β := Unit) W0 _ () A C row hs.2 hg hr⟩
 case assign =>
  rintro l pre x rest Wc K hxs hI hK0
  simp only [List.zip_toArray, List.zip_cons_cons, List.zip_nil_right, List.foldl_toArray', List.foldl_cons, List.foldl_nil, List.setIfInBounds_toArray, ss, sz]
  refine wpIn_region_lit ?_;refine zE rfl rfl fun K hK => ?_;refine zS (exec_assign _ (by rfl)) ?_;refine hK _ _ ?_;clear hK K;refine wpListIn_nil ?_
  exact hK0 _ _ (KeepsFrom.refl _ _) (KC.refl _) hI rfl
 case body =>
  rintro l pre x rest a' Wc hxs ⟨hJc, hkc⟩ rfl;have hrc : RowAt Wc x := (hrows x (by rw [hxs]; simp)).kc (((KC.of0 hW).trans (KC.of0 hm0)).trans hkc);obtain ⟨v, hs⟩ := x
  replace hrc : Sl false Wc AnyB 34 HeldC v hs := hrc;obtain ⟨ad, cap, rfl, hle, hat⟩ := Sl.at hrc;have HAT := hid hat;have hcY := hkc.obj hv0 rfl
  have HR0 : Hid (HlsRel (yZ pre) hs J W0.heap.size Wc (.int .i64 (0 : Nat)) Wc) := hid ⟨0, Nat.zero_le _, rfl, by simpa using hJc, KC.refl _, KeepsFrom.refl _ _⟩
  have HSP := hid (rowIds_split hxs);clear hat hrc hW hBW hcB hG hrows hcB0 hB
  gi_wp2
  gi_loopw [10] (HlsRel (yZ pre) hs J W0.heap.size Wc) (fun i _ => hs.length - (intOf i).toNat)
  case atStart => exact HR0.out
  case round =>
   rename World => wr
   obtain ⟨k, hk, rfl, hJr, hkr, hfr⟩ := hrel
   by_cases hlt : k < hs.length
   · have hz : (k : Int) < (hs.length : Nat) := by omega
     obtain ⟨b, off, rfl, -, -, hcc⟩ := HAT.out k hlt;obtain ⟨cs, -, ⟨rfl, hx32⟩, hcA⟩ := hcc k hlt;obtain ⟨rest', hsp⟩ := HSP.out k hlt
     have hsn : (hs.take k).map (·.2) ++ [hs[k].2] = (hs.take (k + 1)).map (·.2) := by have h9 := congrArg (List.map (·.2)) (take_snoc hlt); rw [List.map_append] at h9; exact h9
     generalize hs[k] = h at *;have hic : (xM h).size = 34 := jE hx32;have hidc : (qC h.2).size = 32 := by rw [qI, hx32]
     have hcr := hkr.cells hcA;have HSN := hid hsn;have HSQ := hid hsp;clear hsp hsn hcc hcA
     gi_upto_region 5 with (fail)
     refine wpIn_region_lit ?_;refine zE rfl rfl fun K hK => ?_
     refine zS (exec_indexAddr 184 _ _ 211 b off hs.length cap 34 k (by rfl) (by rfl) (by rfl) underlying184 (by kernel_rfl) hlt) ?_;refine hK _ _ ?_;clear hK K;simp only [nmz]
     refine zE rfl rfl fun K hK => ?_;refine zS (zV 211 _ (by rfl) b (off + k * 34) (by rfl) (xM h) hcr _ underlying211 rfl 34 (by kernel_rfl) hic) ?_
     refine hK _ _ ?_;clear hK K;simp only [nmz];refine zE rfl rfl fun K hK => ?_;refine qU 211 _ (by rfl) heldZ (fun w2 hB2 hm2 hs2 => ?_)
     replace hB2 : w2.heap[wr.heap.size]? = some (.cells (xM ((0, 0), List.replicate 32 0)) 211 (0, 0)) := hB2;refine hK _ _ ?_;clear hK K;simp only [nmz]
     refine zE rfl rfl fun K hK => ?_
     refine qM 211 _ _ wr.heap.size 0 (xM h) (by rfl) (by rfl) (by rfl) (heldCells_one _) 34 (by kernel_rfl) hic _ _ hB2 (by rw [hic, jE (by simp)]; omega) (fun w3 hB3 hm3 => ?_)
     rw [qK (by rw [hic, jE (by simp)])] at hB3;refine hK _ _ ?_;clear hK K;refine wpListIn_nil ?_;have hmr3 : Mod NoB wr w3 := hm2.transB hm3 (Nat.le_refl _)
     have hJ3 := OwnFrom.mod0 hJ hJr hmr3;have hk3 := hkr.trans (KC.of0 hmr3);have hf3 : KeepsFrom W0.heap.size Wc w3 := hfr.trans (hmr3.keepsOthers0.from _)
     have hYk := hY _ h.2 _ w3 HSQ.out hJ3;have hcY3 : w3.cell? ⟨W.heap.size, 0, none⟩ = some (.func (.yield y) #[] #[]) := by simp [World.cell?, hk3.obj hcY rfl]
     have hcI : CellsAt w3 wr.heap.size (0 + 2) (qC h.2) := CellsAt.of_obj hB3 fun j hj => by
      show (#[Value.int .i64 h.1.1, Value.int .i64 h.1.2] ++ qC h.2)[0 + 2 + j]? = _
      rw [Array.getElem?_append_right (by simp)]
      simp
     generalize hb7 : wr.heap.size = b7 at *;clear hkr hm2 hm3 hmr3 hB2 hcr hs2 hJr hJ3 hB3 hfr
     gi_upto_region 6 with (fail)
     refine wpIn_region_lit ?_;refine zE rfl rfl fun K hK => ?_;refine zS (zJ 44 _ (by rfl) W.heap.size 0 (by rfl) _ hcY3 _ underlying44 rfl) ?_
     refine hK _ _ ?_;clear hK K;refine zE rfl rfl fun K hK => ?_;refine zS (exec_fieldAddr 211 _ 1 2 b7 0 (by rfl) (by rfl) (by kernel_rfl)) ?_;refine hK _ _ ?_
     clear hK K;simp only [nmz];refine zE rfl rfl fun K hK => ?_
     refine zS (zV 24 _ (by rfl) b7 (0 + 2) (by rfl) (qC h.2) hcI _ underlying24 rfl 32 (by kernel_rfl) hidc) ?_;refine hK _ _ ?_;clear hK K;simp only [nmz]
     refine wpListIn_plain rfl fun K hK => wpIn_yieldR (l := y) _ _ _ (by rfl) (by rfl) (idV h.2) (by rfl) hYk (fun e' w5 he' => ?_);obtain ⟨rfl, hJ5, hk5, hf5⟩ := he'
     refine ⟨_, rfl, ?_⟩;refine hK _ _ ?_;clear hK K;refine zE rfl rfl fun K hK => ?_;refine zS (exec_not _ _ true (by rfl) (by rfl)) ?_;refine hK _ _ ?_;clear hK K
     simp only [nmz];refine wpListIn_nil ?_
     have HR : Hid (HlsRel (yZ pre) hs J W0.heap.size Wc (.int .i64 ((k + 1 : Nat) : Int)) w5) := hid ⟨k + 1, by omega, rfl, by rw [← HSN.out, ← List.append_assoc]; exact hJ5, hk3.trans hk5, hf3.trans ⟨hf5.size, fun j o hb ho hc => hf5.same j o (by omega) ho hc⟩⟩
     clear hk3 hk5 hJ5 hYk hcY3 hcI hf3 hf5
     gi_wp2
     go_roundw
     case rel => exact HR.out
     case measure => simp [intOf]; omega
   · have hz : ¬ (k : Int) < (hs.length : Nat) := by omega
     obtain rfl : k = hs.length := by omega
     rw [List.take_length] at hJr
     have HF : Hid (KeepsFrom W0.heap.size Wc wr ∧ KC Wc wr ∧ IdsI J W0 (pre ++ [(Value.slice ad hs.length cap, hs)]) wr) := hid ⟨hfr, hkr, by rw [rowIds_app, rowIds_cons]; simpa [yZ] using hJr, hkc.trans hkr⟩
     clear hJr hkr hfr
     gi_wp2
     have h9 := HF.out;rw [hs0] at h9;exact h9
 case done =>
  rintro D Wc hD ⟨hJc, hkc⟩ hK
  have hJd : J (yZ rows) (Wc.putObj D (.deferred none)) := hJ _ Wc _ (some D) hJc (grownBy_putObj' Wc D _) (fun r e => by cases e; exact ⟨by omega, _, hK, rfl⟩)
  have HJ := hid hJd;clear hJd hJc
  gi_wp2
  refine ⟨by simp, .inl ⟨_, _, rfl, run_takeDeferred hK, ?_⟩⟩;exact ⟨_, results_none rfl _ _ _, ⟨_, rfl⟩, HJ.out⟩
end
section
open Go.RowKit Go.Shelf Go.Proofs.Tryz Go.Lib
theorem addsL_mem (ids : List (List UInt8)) : ∀ (all : List (List UInt8 × Value)) (x : List UInt8), x ∈ (addsL ids all).map (·.1) ↔ x ∈ ids ∨ x ∈ all.map (·.1) := by
 induction ids with
 | nil => intro all x; simp [addsL]
 | cons y ids ih =>
  intro all x
  show x ∈ (addsL ids (putL y (.agg #[]) all)).map (·.1) ↔ _
  rw [ih, keys_put]
  by_cases hy : y ∈ all.map (·.1)
  · rw [if_pos hy, List.mem_cons]
    constructor
    · rintro (h | h)
      · exact .inl (.inr h)
      · exact .inr h
    · rintro ((rfl | h) | h)
      · exact .inr hy
      · exact .inl h
      · exact .inr h
  · rw [if_neg hy, List.mem_cons, List.mem_append, List.mem_singleton]
    constructor
    · rintro (h | h | h)
      · exact .inl (.inr h)
      · exact .inr h
      · exact .inl (.inl h)
    · rintro ((h | h) | h)
      · exact .inr (.inr h)
      · exact .inl h
      · exact .inr (.inl h)
theorem addsL_len (ids : List (List UInt8)) : ∀ (all : List (List UInt8 × Value)), (addsL ids all).length ≤ ids.length + all.length := by
 induction ids with
 | nil => intro all; simp [addsL]
 | cons y ids ih =>
  intro all;have h1 := ih (putL y (.agg #[]) all);have h2 : (putL y (.agg #[]) all).length ≤ all.length + 1 := by rw [length_put]; split <;> omega
  show (addsL ids (putL y (.agg #[]) all)).length ≤ _
  simp only [List.length_cons];omega
def SetOf (l out : List (List UInt8)) : Prop := out.Pairwise (fun a b => a < b) ∧ ∀ x, x ∈ out ↔ x ∈ l
def SetR (w : World) (l : List (List UInt8)) : Ending → World → Prop := fun e w' => Mod NoB w w' ∧ ∃ v out, e = .returned v ∧ GatI w.heap.size w' v out ∧ SetOf l out ∧ ∀ x ∈ out, x.length = 32
theorem rowIds_ok {w : World} {rows : List RowX} (h : ∀ r ∈ rows, RowAt w r) : ∀ x ∈ yZ rows, x.length = 32 := by
 intro x hx;obtain ⟨r, hr, hx⟩ := List.mem_flatMap.1 hx;obtain ⟨y, hy, rfl⟩ := List.mem_map.1 hx;obtain ⟨a, cap, _, _, hat⟩ := Sl.at (h r hr)
 obtain ⟨i, hi, rfl⟩ := List.getElem_of_mem hy;obtain ⟨b, off, _, _, _, hc⟩ := hat i hi;obtain ⟨cs, _, ⟨_, h2⟩, _⟩ := hc i hi;exact h2
theorem rows_at {w : World} {v : Value} {reps : List RepX} (h : RepsAt w v reps) : ∀ r ∈ rowsX reps, RowAt w r := by
 intro r hr;obtain ⟨p, hp, hr⟩ := List.mem_flatMap.1 hr;obtain ⟨a, cap, _, _, hat⟩ := Sl.at h;obtain ⟨i, hi, rfl⟩ := List.getElem_of_mem hp;obtain ⟨b, off, _, _, _, hc⟩ := hat i hi
 obtain ⟨cs, _, ⟨_, h2⟩, _⟩ := hc i hi
 rcases List.mem_append.1 hr with hr | hr
 · obtain ⟨t, ht, rfl⟩ := List.mem_map.1 hr
   obtain ⟨ta, tcap, _, _, htat⟩ := Sl.at h2.tags;obtain ⟨j, hj, rfl⟩ := List.getElem_of_mem ht;obtain ⟨tb, toff, _, _, _, htc⟩ := htat j hj;obtain ⟨tcs, _, ⟨_, h3⟩, _⟩ := htc j hj
   exact h3
 · rw [List.mem_singleton] at hr
   subst hr;exact h2.man
abbrev rootsX (reps : List RepX) : List (List UInt8) := yZ (rowsX reps)
theorem swRoots_any {w : World} {vv rv : Value} {reps : List RepX} (h1 : vv.oneCell' = true) (hv : RepsAt w rv reps) (hn : (rootsX reps).length ≤ 65536) : Calls prog 47 #[.agg #[vv, rv]] w (SetR w (rootsX reps)) := by
 have hmm := @run_makeMap prog;have h2 := Sl.one hv;have hm1 := zD w (.cells #[vv, rv] 71);have hB1 := heap_alloc_new w (.cells #[vv, rv] 71)
 obtain ⟨w1, hw1⟩ : ∃ w1, w.alloc (.cells #[vv, rv] 71) = w1 := ⟨_, rfl⟩;rw [hw1] at hm1 hB1;have hs1 : w1.heap.size = w.heap.size + 1 := by rw [← hw1]; simp
 have hm2 := hm1.trans0 (zD w1 (.map #[] 0));have hM2 := heap_alloc_new w1 (.map #[] 0);have hk2 : KC w1 (w1.alloc (.map #[] 0)) := KC.of0 (zD w1 _)
 obtain ⟨w2, hw2⟩ : ∃ w2, w1.alloc (.map #[] 0) = w2 := ⟨_, rfl⟩;rw [hw2] at hm2 hM2 hk2;have hs2 : w2.heap.size = w1.heap.size + 1 := by rw [← hw2]; simp
 have hB2 := hk2.obj hB1 rfl;have hc3 := swRts_any w2 vv rv h1 h2;have hm3 := zD w2 (.cells #[vv, rv] 71);have hB3 := heap_alloc_new w2 (.cells #[vv, rv] 71)
 obtain ⟨w3, hw3⟩ : ∃ w3, w2.alloc (.cells #[vv, rv] 71) = w3 := ⟨_, rfl⟩;rw [hw3] at hm3 hB3;simp only [hw3] at hc3;have hv3 := yN hv (KC.of0 (hm2.trans0 hm3))
 have hg3 := swRts_gives hB3 hv3;have hc4 := swIds_any w3 (.func 192) #[.pointer (some ⟨w2.heap.size, 0, none⟩)]
 have hm4 := zD w3 (.cells #[.func (.func 192) #[] #[.pointer (some ⟨w2.heap.size, 0, none⟩)]] 206)
 have hB4 := heap_alloc_new w3 (.cells #[.func (.func 192) #[] #[.pointer (some ⟨w2.heap.size, 0, none⟩)]] 206)
 obtain ⟨w4, hw4⟩ : ∃ w4, w3.alloc (.cells #[.func (.func 192) #[] #[.pointer (some ⟨w2.heap.size, 0, none⟩)]] 206) = w4 := ⟨_, rfl⟩;rw [hw4] at hm4 hB4;simp only [hw4] at hc4
 have hv4 := yN hv3 (KC.of0 hm4)
 have hg4 : Gives prog 192 #[.pointer (some ⟨w2.heap.size, 0, none⟩)] (fun x : RowX => #[x.1]) (rowsX reps) w4 := swRts_gives (hm4.obj id hB3) hv4;have hrows := rows_at hv4
 have hg5 := swIds_gives (enters_of func192 (by kernel_rfl) rfl) hB4 hg4 hrows;have hmap4 : MapIs idV IdOk w4 w1.heap.size [] := (MapIs.made hM2).keep0 (hm3.trans0 hm4)
 have hc5 := swAdd_any (enters_of func191 (by kernel_rfl) rfl) hg5 (rowIds_ok hrows) hmap4;have hm04 := hm2.trans0 (hm3.trans0 hm4)
 have hnl : (addsL (yZ (rowsX reps)) []).length ≤ 65536 := by have h9 := addsL_len (yZ (rowsX reps)) []; have h8 : (yZ (rowsX reps)).length ≤ 65536 := hn; simp only [List.length_nil] at h9; omega
 have hcT : CellsAt w2 w.heap.size 0 #[vv, rv] := CellsAt.whole hB2;clear hg5 hrows hg4 hv4 hB4 hg3 hv3 hB3 hmap4 hk2 hM2 hB1 hv hB2 hw3 hw4;go_enter func47, ntmps47
 go_upto_region 1 with (fail)
 try rw [hw1]
 clear hw1;refine wpR [1, 1, 1, 1, 1, 1, 3] (by rfl) (by rfl) ?_;simp only [zz2];refine qW rfl (fun K hK => ?_);unfold Oper.wp execOp
 simp only [Array.map_empty, Option.map_none, Sem.run_bind, hmm, Result.andThen_ok, Sem.run_pure]
 try rw [hw2]
 refine hK _ _ trivial ?_;clear hK K;try simp only [nmz]
 refine wpXA 71 w.heap.size 0 #[vv, rv] hcT underlying71 2 rfl trivial ?_;try simp only [nmz]
 refine wpDo rfl ?_;refine qG (qH 117 [.tmp 4] _ rfl _ func117 rfl (by kernel_rfl) [.agg #[vv, rv]] rfl _) (hc3) ?_;rintro e wa ⟨rfl, hw⟩;obtain rfl := hw.symm
 refine ⟨_, rfl, ?_⟩;try simp only [nmz]
 refine wpDo rfl ?_;refine qG (qH 116 [.tmp 5] _ rfl _ func116 rfl (by kernel_rfl) [.func (.func 192) #[] #[.pointer (some ⟨w2.heap.size, 0, none⟩)]] rfl _) (hc4) ?_
 rintro e wb ⟨rfl, hw⟩;obtain rfl := hw.symm;refine ⟨_, rfl, ?_⟩;try simp only [nmz]
 refine wpDo rfl ?_
 refine qG (qH 115 [.tmp 3, .tmp 6] _ rfl _ func115 rfl (by kernel_rfl) [.map (some w1.heap.size), .func (.func 191) #[] #[.pointer (some ⟨w3.heap.size, 0, none⟩)]] rfl _) (hc5) ?_
 rintro e w5 ⟨rfl, hM5, hm5⟩;have hc6 := swRising_any hM5 hnl;refine ⟨_, rfl, ?_⟩;try simp only [nmz]
 refine wpDo rfl ?_;refine qG (qH 118 [.tmp 7] _ rfl _ func118 rfl (by kernel_rfl) [.map (some w1.heap.size)] rfl _) (hc6) ?_
 rintro e w6 ⟨hm6, v6, out, he6, hg6, hs6, hp6, hl6⟩;subst he6
 have HF : Hid (SetR w (rootsX reps) (.returned v6) w6) := hid ⟨(hm04.trans hm5 (fun k hk e => by have e : k = w1.heap.size := e; omega)).trans0 hm6, v6, out, rfl, hg6.base (by have := hm04.size; have := hm5.size; omega), ⟨hs6, fun x => by rw [hp6.mem_iff, addsL_mem]; simp⟩, hl6⟩
 refine ⟨_, rfl, ?_⟩;refine qD _ rfl rfl ?_;simp only [nmz];refine qB ?_;clear hm5 hm6 hg6 hs6 hp6 hl6 hM5 hc6 hm04 hc5 hc4 hc3 hm4 hm3 hm2 hm1;go_wp2;go_ret
 exact HF.out
theorem run_clos {P : Program} {o : Oper} {a : Act} {w : World} (x y : Operand) (ts : Array TypeId) (gf : Nat) (lb : Array Value) (ho : o.op = .call { callee := .value x, args := #[y], argTypes := ts }) (hx : a.eval x = .func (.func gf) #[] lb) (v : Value) (hv : a.eval y = v)
 (eg : ∀ args w, (callFunc gf args).run P w = .ok (.enter gf args) w) : (execOp a.eval o).run P w = .ok (.enter gf (#[v] ++ lb)) w := by
 subst hv;unfold execOp
 simp [ho, resolve, hx, Deferred.ofValue, invoke, eg]
theorem wmarkZ : (prog.info? 216).bind (·.zero) = some (.agg #[]) := by kernel_rfl
def DelR (w : World) (b : Bool) : Ending → World → Prop := fun e w' => e = .returned (.bool b) ∧ Mod NoB w w'
def Marked (l : List (List UInt8 × Value)) : Prop := ∀ p ∈ l, p.2 = .agg #[]
theorem addsL_marked (ids : List (List UInt8)) : ∀ (all : List (List UInt8 × Value)), Marked all → Marked (addsL ids all) := by
 induction ids with
 | nil => intro all h; exact h
 | cons y ids ih =>
  intro all h;refine ih _ fun p hp => ?_;replace hp : p ∈ putL y (.agg #[]) all := hp
  cases hg : idxL y all 0 with
  | none =>
   obtain ⟨_, h2, _⟩ := idxL_none hg;rw [h2, List.mem_append, List.mem_singleton] at hp
   rcases hp with hp | rfl
   · exact h p hp
   · rfl
  | some q =>
   obtain ⟨_, _, _, h2, _⟩ := idxL_some hg;rw [h2] at hp
   rcases List.mem_or_eq_of_mem_set hp with hp | rfl
   · exact h p hp
   · rfl
theorem swKept_any {w : World} {kb mb : Nat} {l : List (List UInt8 × Value)} (hK : w.heap[kb]? = some (.cells #[.map (some mb)] 200 (0, 0))) (hM : MapIs idV IdOk w mb l) (hl : Marked l) (x : List UInt8) (hx : x.length = 32) :
 Calls prog 126 (#[idV x] ++ #[.pointer (some ⟨kb, 0, none⟩)]) w (DelR w (decide (x ∈ l.map (·.1)))) := by
 have hic : (qC x).size = 32 := by rw [qI, hx]
 have hcb : w.cell? ⟨kb, 0, none⟩ = some (.map (some mb)) := by simp [World.cell?, hK]
 have hb : (getL x l).isSome = decide (x ∈ l.map (·.1)) := by
  cases hg : getL x l with
  | none => simp [getL_none.1 hg]
  | some v => simp only [Option.isSome_some]; rw [eq_comm, decide_eq_true_iff]; exact List.mem_map.2 ⟨_, getL_mem hg, rfl⟩
 have hv : (getL x l).getD (.agg #[]) = .agg #[] := by
  cases hg : getL x l with
  | none => rfl
  | some v => exact hl _ (getL_mem hg)
 have hlk : (if true then Value.tuple #[(getL x l).getD (.agg #[]), .bool (getL x l).isSome] else (getL x l).getD (.agg #[])) = .tuple #[.agg #[], .bool (decide (x ∈ l.map (·.1)))] := by rw [if_pos rfl, hv, hb]
 generalize decide (x ∈ l.map (·.1)) = b at *;have HLK := hid hlk;clear hb hv hlk hl
 rw [show #[idV x] ++ #[.pointer (some ⟨kb, 0, none⟩)] = #[.agg (qC x), .pointer (some ⟨kb, 0, none⟩)] from rfl];go_enter func126, ntmps126
 have hm1 := zD w (.cells (qC x) 24);have hB1 := heap_alloc_new w (.cells (qC x) 24);go_upto_region 1 with (fail)
 generalize w.alloc (.cells (qC x) 24) = w1 at *;have hcb1 := (KC.of0 hm1).cell hcb;have hM1 := hM.keep0 hm1
 have hca : CellsAt w1 w.heap.size 0 (qC x) := CellsAt.whole hB1;refine wpR [1, 1, 1, 3, 3, 3, 1, 1, 3] (by rfl) (by rfl) ?_;simp only [zz2]
 refine wpXd 200 kb 0 hcb1 underlying200 trivial ?_;try simp only [nmz]
 refine wpXA 24 w.heap.size 0 (qC x) hca underlying24 32 hic trivial ?_;try simp only [nmz]
 refine wpX rfl (yG keyT_id hM1 x hx 200 216 underlying200 (.agg #[]) wmarkZ _ _ true (by rfl) (by rfl) (by rfl) _ HLK.out) trivial ?_;refine qA _ rfl rfl ?_
 simp only [nmz];refine qJ rfl (fun w' => qP _ 0 #[.agg #[], .bool b] rfl rfl (.agg #[]) rfl) ?_;simp only [nmz]
 refine qJ rfl (fun w' => qP _ 1 #[.agg #[], .bool b] rfl rfl (.bool b) rfl) ?_;simp only [nmz];refine wpDo rfl ?_
 refine qU 216 _ (by rfl) wmarkZ (fun w3 hB3 hm3 hs3 => ?_);replace hB3 : w3.heap[w1.heap.size]? = some (.cells #[] 216 (0, 0)) := hB3;try simp only [nmz]
 refine wpDo rfl ?_;refine qM 216 _ _ w1.heap.size 0 #[] (by rfl) (by rfl) (by rfl) (by simp) 0 (by kernel_rfl) rfl _ _ hB3 (by simp) (fun w4 hB4 hm4 => ?_)
 have hS4 : Mod NoB w1 w4 := hm3.transB hm4 (Nat.le_refl _);refine qD _ rfl rfl ?_;simp only [nmz];refine qB ?_;have HF := hid (hm1.trans0 hS4)
 clear hS4 hm1 hm3 hm4 hB1 hB3 hB4 hca;go_wp2;go_ret;exact ⟨rfl, HF.out⟩
def FindR (w : World) (ids : List (List UInt8)) (del : List UInt8 → Bool) : Ending → World → Prop := fun e w' => Mod NoB w w' ∧
 ((e = .returned (.int .i64 (-1)) ∧ ∀ x ∈ ids, del x = false) ∨ (∃ pre x rest, ids = pre ++ x :: rest ∧ e = .returned (.int .i64 (pre.length : Nat)) ∧ del x = true ∧ ∀ y ∈ pre, del y = false))
def DelsOn (gf : Nat) (lb : Array Value) (del : List UInt8 → Bool) (S : Nat → Prop) (w : World) : Prop := ∀ (x : List UInt8) (W : World), x.length = 32 → Mod S w W → Calls prog gf (#[idV x] ++ lb) W (DelR W (del x))
def FindRel (w0 : World) (ids : List (List UInt8)) (del : List UInt8 → Bool) (i : Value) (w : World) : Prop := ∃ k : Nat, k ≤ ids.length ∧ i = .int .i64 k ∧ Mod NoB w0 w ∧ ∀ y ∈ ids.take k, del y = false
section
variable {w : World} {base gf : Nat} {lb : Array Value} {v : Value} {ids : List (List UInt8)} {del : List UInt8 → Bool}
theorem indexI_any (eg : ∀ args w, (callFunc gf args).run prog w = .ok (.enter gf args) w) (hv : GatI base w v ids) (h32 : ∀ x ∈ ids, x.length = 32) (hdel : DelsOn gf lb del NoB w) :
 Calls prog 197 #[v, .func (.func gf) #[] lb] w (FindR w ids del) := by
 obtain ⟨ad, cap, hve⟩ := hv.slice
 have hmx : ids.length ≤ 9223372036854775807 := by
  rcases hv.2 with ⟨_, h0⟩ | ⟨g, c, cur, _, _, _, hc, hm, _⟩
  · omega
  · unfold maxLen at hm; omega
 have HV := hid hv;have HR0 : Hid (FindRel w ids del (.int .i64 (0 : Nat)) w) := hid ⟨0, Nat.zero_le _, rfl, Mod.refl _ _, by simp⟩;have HD := hid hdel;clear hv hdel;rw [hve]
 rw [hve] at HV;clear hve;go_enter func197, ntmps197;go_wp2
 go_loopw [8] (FindRel w ids del) (fun i _ => ids.length - (intOf i).toNat)
 case atStart => exact HR0.out
 case round =>
  rename World => wr
  obtain ⟨k, hk, rfl, hmr, hpre⟩ := hrel
  by_cases hlt : k < ids.length
  · have hz : (k : Int) < (ids.length : Nat) := by omega
    obtain ⟨g, cap', cur, hce, hg, hcA, -, -, -⟩ := Gat.at (HV.out.keep0 hmr) idE_len k hlt;have hx32 := h32 _ (List.getElem_mem hlt);have hsp := yR hlt
    have hsn := take_snoc hlt;rw [idE_eq hx32] at hcA;generalize ids[k] = x at *
    cases hce
    have hic : (qC x).size = 32 := by rw [qI, hx32]
    have hcall := HD.out x wr hx32 hmr;generalize hb : del x = b at *;have HSP := hid hsp;have HSN := hid hsn;have HP := hid hpre;have HB := hid hb;clear hsp hsn hpre hb
    go_upto_region 4 with (fail);refine wpR [3, 3, 3, 3, 1, 1] (by rfl) (by rfl) ?_;simp only [zz2];refine qA _ rfl rfl ?_;simp only [nmz];refine qA _ rfl rfl ?_
    simp only [nmz];refine qA _ rfl rfl ?_;simp only [nmz];refine qX _ _ _ _ _ _ _ _ _ rfl rfl rfl rfl underlying25 (n := 32) (by kernel_rfl) hlt ?_;simp only [nmz]
    refine wpXA 24 g (k * 32) (qC x) hcA underlying24 32 hic trivial ?_;try simp only [nmz]
    refine wpDo rfl ?_;refine qG (run_clos _ _ _ gf lb (by rfl) (by rfl) (idV x) (by rfl) eg) hcall ?_;rintro e w5 ⟨rfl, hm5⟩;refine ⟨_, rfl, ?_⟩;try simp only [nmz]
    refine qB ?_;have HM := hid (hmr.trans0 hm5);clear hmr hm5 hcA hg hcall
    cases b with
    | true =>
     go_wp2;go_ret;refine ⟨HM.out, .inr ⟨ids.take k, x, ids.drop (k + 1), HSP.out, ?_, HB.out, HP.out⟩⟩
     have h9 : (ids.take k).length = k := by rw [List.length_take, Nat.min_eq_left hk]
     rw [h9]
     rfl
    | false =>
     have HR : Hid (FindRel w ids del (.int .i64 ((k + 1 : Nat) : Int)) w5) := hid ⟨k + 1, by omega, rfl, HM.out, fun y hy => by
      rw [← HSN.out, List.mem_append, List.mem_singleton] at hy
      rcases hy with hy | rfl
      · exact HP.out y hy
      · exact HB.out⟩
     clear HM HP;go_wp2
     go_roundw
     case rel => exact HR.out
     case measure => simp [intOf]; omega
  · have hz : ¬ (k : Int) < (ids.length : Nat) := by omega
    obtain rfl : k = ids.length := by omega
    have HF : Hid (FindR w ids del (.returned (.int .i64 (-1))) wr) := hid ⟨hmr, .inl ⟨rfl, by rw [List.take_length] at hpre; exact hpre⟩⟩;clear hmr hpre;go_wp2;go_ret;exact HF.out
end
theorem id_zero : (prog.info? 24).bind (·.zero) = some (.agg (Array.replicate 32 (byteV 0))) := by kernel_rfl
section
variable {P : Program} {o : Oper} {a : Act} {w : World} {K : Act → World → Prop} {Q : Exit → Act → World → Prop}
theorem wp_clearIds (t e : TypeId) (x : Operand) (b off n c : Nat) (ho : o.op = .call { callee := .builtin .clear, args := #[x], argTypes := #[t] }) (hx : a.eval x = .slice (some ⟨b, off, none⟩) (n + 1) c) (ht : P.underlying t = some (.slice e)) (hz : (P.info? e).bind (·.zero) = some (.agg (Array.replicate 32 (byteV 0))))
 (cur : Array Value) (T : TypeId) (hb : w.heap[b]? = some (.cells cur T (0, 0))) (hoff : off + (n + 1) * 32 ≤ cur.size)
 (h : ∀ w', w'.heap[b]? = some (.cells (zN cur off (Array.replicate ((n + 1) * 32) (byteV 0))) T (0, 0)) → Mod (fun k => k = b) w w' → K (a.put o.dst (.tuple #[])) w') : o.wp P a w K Q := by
 have hzv : (zeroValue e).run P w = .ok (.agg (Array.replicate 32 (byteV 0))) w := by
  cases hi : P.info? e with
  | none => simp [hi] at hz
  | some i => simp [hi] at hz; simp [zeroValue, typeInfo, hi, hz]
 have hzc : (Builtin.zeroCells (Value.agg (Array.replicate 32 (byteV 0))).cells (n + 1)).toList = List.replicate ((n + 1) * 32) (byteV 0) := by
  have h32 : (Value.agg (Array.replicate 32 (byteV 0))).cells = Array.replicate 32 (byteV 0) := rfl;rw [h32];unfold Builtin.zeroCells
  apply List.ext_getElem
  · simp
  · intro i h1 h2
    have h3 : i % 32 < 32 := Nat.mod_lt _ (by omega)
    simp [getElem!_pos, h3]
 have hst := run_storeCells_at P b off T (List.replicate ((n + 1) * 32) (byteV 0)) 0 cur w hb (by simpa using hoff) (fun v hv => by rw [List.eq_of_mem_replicate hv]; rfl)
 simp only [Nat.add_zero, List.length_replicate] at hst
 have he : (cur.toList.take off ++ List.replicate ((n + 1) * 32) (byteV 0) ++ cur.toList.drop (off + (n + 1) * 32)).toArray = zN cur off (Array.replicate ((n + 1) * 32) (byteV 0)) := by
  unfold zN
  simp
 rw [he] at hst;unfold Oper.wp execOp
 have hr : (Builtin.clear_ #[t] o.type #[.slice (some ⟨b, off, none⟩) (n + 1) c]).run P w = .ok (.tuple #[]) (w.setRow b (zN cur off (Array.replicate ((n + 1) * 32) (byteV 0)))) := by
  simp [Builtin.clear_, run_underlying ht, hzv, hzc, hst]
 simp [ho, hx, resolve, invoke, builtin, hr]
 exact h _ (setRow_heap w b cur _ T _ hb) ⟨rfl, rfl, rfl, by simp, fun k _ hk => setRow_other w b k _ (fun e => hk e)⟩
end
theorem gat_cut {base : Nat} {w w' : World} {g n cap i : Nat} {cur cs : Array Value} {l : List (List UInt8)} (h : GatI base w (.slice (some ⟨g, 0, none⟩) n cap) l) (hg : w.heap[g]? = some (.cells cur 24 (0, 0))) (hi : i ≤ l.length) (hsz : i * 32 + cs.size ≤ cur.size)
 (hg' : w'.heap[g]? = some (.cells (zN cur (i * 32) cs) 24 (0, 0))) : GatI base w' (.slice (some ⟨g, 0, none⟩) i cap) (l.take i) := by
 rcases h.2 with ⟨h1, _⟩ | ⟨g2, c, cur2, h1, hb, hg2, hc, hm, hcs, ht⟩
 · cases h1
 · have hlt : (l.take i).length = i := by rw [List.length_take, Nat.min_eq_left hi]
   cases h1
   rw [hg] at hg2
   cases hg2
   have hft : (l.take i).flatMap idE = (l.flatMap idE).take (i * 32) := (flat_take idE_len l i hi).symm;have hmul : i * 32 ≤ l.length * 32 := Nat.mul_le_mul_right _ hi
   have hlen := len_enc idE_len (l.take i);unfold GatI Gat
   refine ⟨hlen, .inr ⟨g, cap, zN cur (i * 32) cs, by rw [hlt], hb, hg', by omega, hm, by rw [jL hsz]; exact hcs, ?_⟩⟩
   have h2 : (zN cur (i * 32) cs).toList.take (i * 32) = cur.toList.take (i * 32) := by
    unfold zN;have h4 : cur.toList.length = cur.size := Array.length_toList;have h3 : (cur.toList.take (i * 32)).length = i * 32 := by rw [List.length_take]; omega
    simp only [List.append_assoc];rw [List.take_append_of_le_length (by omega), List.take_of_length_le (by omega)]
   rw [hlt, h2, hft, ← ht, List.take_take, Nat.min_eq_left hmul]
def DelsR (w : World) (base : Nat) (v : Value) (l : List (List UInt8)) : Ending → World → Prop := fun e w' => Mod (fun q => v.ownBlock = some q) w w' ∧ ∃ v', e = .returned v' ∧ GatI base w' v' l ∧ v'.ownBlock = v.ownBlock
structure DelAt (w0 : World) (base : Nat) (v : Value) (ids : List (List UInt8)) (del : List UInt8 → Bool) (ni nj : Nat) (l : List (List UInt8)) (w : World) : Prop where
 row : GatI base w v l
 len : l.length = ids.length
 lt : ni < nj
 le : nj ≤ ids.length
 took : l.take ni = (ids.take nj).filter fun x => !del x
 left : l.drop nj = ids.drop nj
 mod : Mod (fun q => v.ownBlock = some q) w0 w
def DelRel (w0 : World) (base : Nat) (v : Value) (ids : List (List UInt8)) (del : List UInt8 → Bool) (i j : Value) (w : World) : Prop := ∃ ni nj l, i = .int .i64 (ni : Nat) ∧ j = .int .i64 (nj : Nat) ∧ DelAt w0 base v ids del ni nj l w
theorem DelAt.skip {w0 w w' : World} {base ni nj : Nat} {v : Value} {ids l : List (List UInt8)} {del : List UInt8 → Bool} (h : DelAt w0 base v ids del ni nj l w) (hlt : nj < ids.length) (hd : del ids[nj] = true) (hm : Mod NoB w w') : DelAt w0 base v ids del ni (nj + 1) l w' :=
 ⟨h.row.keep0 hm, h.len, by have := h.lt; omega, hlt, by rw [h.took, ← take_snoc hlt, List.filter_append]; simp [hd], by rw [← List.drop_drop, h.left, List.drop_drop], h.mod.trans hm (fun _ _ h => h.elim)⟩
theorem DelAt.keep {w0 w w' : World} {base ni nj : Nat} {v : Value} {ids l : List (List UInt8)} {del : List UInt8 → Bool} (h : DelAt w0 base v ids del ni nj l w) (hlt : nj < ids.length) (hd : del ids[nj] = false) (hr : GatI base w' v (l.set ni ids[nj])) (hm : Mod (fun q => v.ownBlock = some q) w0 w') : DelAt w0 base v ids del (ni + 1) (nj + 1) (l.set ni ids[nj]) w' := by
 have h1 := h.lt;have h2 := h.len;refine ⟨hr, by rw [List.length_set, h2], by omega, hlt, ?_, ?_, hm⟩
 · rw [List.take_succ_eq_append_getElem (by rw [List.length_set]; omega), List.take_set_of_le (Nat.le_refl _), h.took, ← take_snoc hlt, List.filter_append]
   simp [hd]
 · rw [List.drop_set_of_lt (by omega), ← List.drop_drop, h.left, List.drop_drop]
def FindP (ids : List (List UInt8)) (del : List UInt8 → Bool) (r : Int) : Prop := (r = -1 ∧ ∀ x ∈ ids, del x = false) ∨ (∃ pre x rest, ids = pre ++ x :: rest ∧ r = (pre.length : Nat) ∧ del x = true ∧ ∀ y ∈ pre, del y = false)
theorem filter_none {α : Type} {l : List α} {del : α → Bool} (h : ∀ y ∈ l, del y = false) : (l.filter fun x => !del x) = l := List.filter_eq_self.2 fun y hy => by simp [h y hy]
section
variable {w : World} {base gf : Nat} {lb : Array Value} {v : Value} {ids : List (List UInt8)} {del : List UInt8 → Bool}
theorem deleteI_any (eg : ∀ args w, (callFunc gf args).run prog w = .ok (.enter gf args) w) (hv : GatI base w v ids) (h32 : ∀ x ∈ ids, x.length = 32) (hdel : DelsOn gf lb del (fun q => v.ownBlock = some q) w) :
 Calls prog 125 #[v, .func (.func gf) #[] lb] w (DelsR w base v (ids.filter fun x => !del x)) := by
 have hfind := indexI_any eg hv h32 (fun x W hx hm => hdel x W hx (hm.mono (fun _ _ h => h.elim)));obtain ⟨ad, cap, hve⟩ := hv.slice
 have hmx : ids.length ≤ 9223372036854775807 := by
  rcases hv.2 with ⟨_, h0⟩ | ⟨g, c, cur, _, _, _, hc, hm, _⟩
  · omega
  · unfold maxLen at hm; omega
 have HV := hid hv;have HD := hid hdel;have HVE := hid hve;clear hv hdel
 replace hfind := hfind.mono (R' := fun e w' => ∃ r : Int, e = .returned (.int .i64 r) ∧ FindP ids del r ∧ Mod NoB w w') (by
  rintro e w' ⟨hm, ⟨rfl, h⟩ | ⟨pre, x, rest, h1, rfl, h2⟩⟩
  · exact ⟨-1, rfl, .inl ⟨rfl, h⟩, hm⟩
  · exact ⟨_, rfl, .inr ⟨pre, x, rest, h1, rfl, h2⟩, hm⟩)
 rw [hve] at HV hfind
 suffices hsuf : Calls prog 125 #[.slice ad ids.length cap, .func (.func gf) #[] lb] w (DelsR w base v (ids.filter fun x => !del x)) by rw [hve]; rw [hve] at hsuf; exact hsuf
 clear hve;go_enter func125, ntmps125;go_upto_region 1 with (fail);refine wpR [3, 3, 1, 3] (by rfl) (by rfl) ?_;simp only [zz2];refine qA _ rfl rfl ?_;simp only [nmz]
 refine qA _ rfl rfl ?_;simp only [nmz];refine wpDo rfl ?_
 refine qG (qH 197 [.tmp 8, .tmp 9] _ rfl _ func197 rfl (by kernel_rfl) [.slice ad ids.length cap, .func (.func gf) #[] lb] rfl _) (hfind) ?_
 rintro e w2 ⟨r, rfl, hfp, hm2⟩;refine ⟨_, rfl, ?_⟩;refine qD _ rfl rfl ?_;simp only [nmz];refine qB ?_;clear hfind
 rcases hfp with ⟨rfl, hall⟩ | ⟨pre, x, rest, hids, rfl, hx, hpre⟩
 · have HF : Hid (DelsR w base v (ids.filter fun x => !del x) (.returned (.slice ad ids.length cap)) w2) := hid ⟨hm2.mono (fun _ _ h => h.elim), _, rfl, by rw [filter_none hall]; exact HV.out.keep0 hm2, by rw [HVE.out]⟩
   clear hall hm2;go_wp2;go_ret;exact HF.out
 have hpl : pre.length < ids.length := by rw [hids]; simp
 have h0 : DelAt w base v ids del pre.length (pre.length + 1) ids w2 := by
  refine ⟨by rw [HVE.out]; exact HV.out.keep0 hm2, rfl, by omega, hpl, ?_, rfl, hm2.mono (fun _ _ h => h.elim)⟩;have e1 : ids.take pre.length = pre := by rw [hids, List.take_left]
  have e2 : ids.take (pre.length + 1) = pre ++ [x] := by rw [hids, List.take_append, List.take_of_length_le (by omega)]; simp
  rw [e1, e2, List.filter_append, filter_none hpre]
  simp [hx]
 have HR0 : Hid (DelRel w base v ids del (.int .i64 (pre.length : Nat)) (.int .i64 ((pre.length + 1 : Nat) : Int)) w2) := hid ⟨_, _, ids, rfl, rfl, h0⟩
 generalize pre.length = k0 at *;have hk1 : ((k0 : Nat) : Int) ≠ -1 := by omega
 clear h0 hids hx hpre hm2;go_wp2
 go_loopw [5, 6] (DelRel w base v ids del) (fun _ j _ => ids.length - (intOf j).toNat)
 case atStart => exact HR0.out
 case round =>
  rename World => wr
  obtain ⟨ni, nj, l, rfl, rfl, hda⟩ := hrel;have HDA := hid hda;have hij := hda.lt;have hjn := hda.le;have hln := hda.len
  by_cases hlt : nj < ids.length
  · have hz : (nj : Int) < (ids.length : Nat) := by omega
    have hrow := hda.row;rw [HVE.out] at hrow;obtain ⟨g, cap', cur, hce, hg, hcA, -, -, -⟩ := Gat.at hrow idE_len nj (by omega)
    obtain ⟨rfl, rfl⟩ : ad = some ⟨g, 0, none⟩ ∧ cap = cap' := by injection hce with e1 e2 e3; exact ⟨e1, e3⟩
    have hx32 := h32 _ (List.getElem_mem hlt)
    have hlx : l[nj]'(by omega) = ids[nj] := by
     have h1 := List.getElem_drop (xs := l) (i := nj) (j := 0) (h := by simp; omega);have h2 := List.getElem_drop (xs := ids) (i := nj) (j := 0) (h := by simp; omega)
     simp only [Nat.add_zero] at h1 h2;rw [← h1, ← h2]
     congr 1
     exact hda.left
    rw [hlx, idE_eq hx32] at hcA;have hskip := fun (w' : World) hd hm => hda.skip (w' := w') hlt hd hm;have hkeep := fun (w' : World) hd hr hm => hda.keep (w' := w') hlt hd hr hm
    generalize ids[nj] = x at *;have hic : (qC x).size = 32 := by rw [qI, hx32]
    have HSK := hid hskip;have HKP := hid hkeep;have hmr := hda.mod;clear hskip hkeep hlx hce hda hrow;go_upto_region 7 with (fail)
    refine wpR [3, 3, 3, 1, 1, 1] (by rfl) (by rfl) ?_;simp only [zz2];refine qA _ rfl rfl ?_;simp only [nmz];refine qA _ rfl rfl ?_;simp only [nmz]
    refine qX _ _ _ _ _ _ _ _ _ rfl rfl rfl rfl underlying25 (n := 32) (by kernel_rfl) hlt ?_;simp only [nmz]
    refine wpXA 24 g (nj * 32) (qC x) hcA underlying24 32 hic trivial ?_;try simp only [nmz]
    refine wpDo rfl ?_;refine qU 24 _ (by rfl) idZ (fun w3 hB3 hm3 hs3 => ?_)
    replace hB3 : w3.heap[wr.heap.size]? = some (.cells (qC (List.replicate 32 0)) 24 (0, 0)) := hB3;try simp only [nmz]
    refine wpDo rfl ?_
    refine qM 24 _ _ wr.heap.size 0 (qC x) (by rfl) (by rfl) (by rfl) (qZ _) 32 (by kernel_rfl) hic _ _ hB3 (by rw [hic, qI]; simp) (fun w4 hB4 hm4 => ?_)
    rw [qK (by rw [hic, qI]; simp)] at hB4;try simp only [nmz]
    refine qB ?_;have hmr4 : Mod NoB wr w4 := hm3.transB hm4 (Nat.le_refl _);generalize hb7 : wr.heap.size = b7 at *
    have hgb : g < b7 := by rw [← hb7]; exact (Array.getElem?_eq_some_iff.1 hg).1
    have hcall := HD.out x w4 hx32 (by rw [HVE.out] at hmr ⊢; exact hmr.trans hmr4 (fun _ _ h => h.elim));generalize hbb : del x = bb at *;have HBB := hid hbb
    have hg4 := hmr4.obj id hg;clear hm3 hm4 hB3 hs3 hbb hcA;go_upto_region 8 with (fail);refine wpR [3, 1, 1, 3] (by rfl) (by rfl) ?_;simp only [zz2];refine qA _ rfl rfl ?_
    simp only [nmz];refine wpXA 24 b7 0 (qC x) (CellsAt.whole hB4) underlying24 32 hic trivial ?_;try simp only [nmz]
    refine wpDo rfl ?_;refine qG (run_clos _ _ _ gf lb (by rfl) (by rfl) (idV x) (by rfl) eg) hcall ?_;rintro e w5 ⟨rfl, hm5⟩;refine ⟨_, rfl, ?_⟩;try simp only [nmz]
    refine xL _ _ _ rfl rfl rfl ?_;simp only [nmz];refine qB ?_;have hmr5 := hmr4.trans0 hm5;have hB5 := hm5.obj id hB4;have hg5 := hm5.obj id hg4;clear hcall hB4 hg4
    cases bb with
    | true =>
     have HR : Hid (DelRel w base v ids del (.int .i64 (ni : Nat)) (.int .i64 ((nj + 1 : Nat) : Int)) w5) := hid ⟨_, _, l, rfl, rfl, HSK.out w5 rfl hmr5⟩
     clear hmr4 hmr5 hm5 hB5 hg5 hg hmr;go_wp2
     go_roundw
     case rel => exact HR.out
     case measure => simp [intOf]; omega
    | false =>
     have hrow5 := HDA.out.row;rw [HVE.out] at hrow5;obtain ⟨g2, cap2, cur2, hce2, hg2, -, hsz2, -, hput⟩ := Gat.at (hrow5.keep0 hmr5) idE_len ni (by omega)
     obtain rfl : g = g2 := by injection hce2 with e1 e2 e3; injection e1 with e1; injection e1
     have hput' := fun (w6 : World) (h : w6.heap[g]? = some (.cells (zN cur2 (ni * 32) (qC x)) 24 (0, 0))) => hput x w6 (by rw [idE_eq hx32]; exact h)
     have HPUT := hid hput';clear hput hput' hrow5;go_upto_region 9 with (fail);refine wpR [3, 3, 1, 3, 1] (by rfl) (by rfl) ?_;simp only [zz2];refine qA _ rfl rfl ?_
     simp only [nmz];refine qA _ rfl rfl ?_;simp only [nmz];refine wpXA 24 b7 0 (qC x) (CellsAt.whole hB5) underlying24 32 hic trivial ?_;try simp only [nmz]
     refine qX _ _ _ _ _ _ _ _ _ rfl rfl rfl rfl underlying25 (n := 32) (by kernel_rfl) (by omega) ?_;simp only [nmz];refine wpDo rfl ?_
     refine qM 24 _ _ g (ni * 32) (qC x) (by rfl) (by rfl) (by rfl) (qZ _) 32 (by kernel_rfl) hic _ _ hg2 (by rw [hic]; exact hsz2) (fun w6 hB6 hm6 => ?_)
     try simp only [nmz]
     refine qB ?_
     have HR : Hid (DelRel w base v ids del (.int .i64 ((ni + 1 : Nat) : Int)) (.int .i64 ((nj + 1 : Nat) : Int)) w6) := hid ⟨_, _, l.set ni x, rfl, rfl, HKP.out w6 rfl (by rw [HVE.out]; exact HPUT.out w6 hB6) ((hmr.trans hmr5 (fun _ _ h => h.elim)).trans hm6 (fun k _ e => by rw [HVE.out, show k = g from e]; rfl))⟩
     clear hmr4 hmr5 hm5 hB5 hg5 hg hmr hB6 hm6 hg2;go_wp2
     go_roundw
     case rel => exact HR.out
     case measure => simp [intOf]; omega
  · have hz : ¬ (nj : Int) < (ids.length : Nat) := by omega
    obtain rfl : nj = ids.length := by omega
    have hrow := hda.row;rw [HVE.out] at hrow;obtain ⟨g, cap', cur, hce, hg, -, -, -, -⟩ := Gat.at hrow idE_len ni (by omega)
    obtain ⟨rfl, rfl⟩ : ad = some ⟨g, 0, none⟩ ∧ cap = cap' := by injection hce with e1 e2 e3; exact ⟨e1, e3⟩
    obtain ⟨hcs, hncap⟩ : cur.size = cap * 32 ∧ ids.length ≤ cap := by
     rcases hrow.2 with ⟨h1, _⟩ | ⟨g2, c, cur2, h1, _, hg2, hc, _, hcs, _⟩
     · cases h1
     · injection h1 with e1 e2 e3
       injection e1 with e1;injection e1 with e1;subst e1 e3;rw [hg] at hg2
       cases hg2
       exact ⟨hcs, by omega⟩
    obtain ⟨m, hm⟩ : ∃ m, ids.length - ni = m + 1 := ⟨ids.length - ni - 1, by omega⟩
    have hsl : sliced (some ⟨g, 0, none⟩) ni ids.length cap 32 = .slice (some ⟨g, ni * 32, none⟩) (m + 1) (cap - ni) := by
     unfold sliced;rw [if_neg (by omega), hm]
     simp [jH]
    have hst : sliced (some ⟨g, 0, none⟩) 0 ni cap 32 = .slice (some ⟨g, 0, none⟩) ni cap := by
     simp only [sliced, Option.map_some, jH, Nat.zero_mul, Nat.add_zero, Nat.sub_zero, ite_self]
    have htk := hda.took;rw [List.take_length] at htk;have hmr := hda.mod;have HSL := hid hsl;have HST := hid hst;clear hsl hst hce hda;go_upto_region 11 with (fail)
    refine wpR [3, 3, 3, 1] (by rfl) (by rfl) ?_;simp only [zz2];refine qA _ rfl rfl ?_;simp only [nmz];refine qA _ rfl rfl ?_;simp only [nmz]
    refine wpPi_sliceFrom 25 24 _ _ _ _ _ ni 32 rfl rfl rfl rfl underlying25 (by kernel_rfl) (by omega) ?_;simp only [nmz];refine wpDo rfl ?_;rw [HSL.out]
    refine wp_clearIds 25 24 _ g (ni * 32) m (cap - ni) (by rfl) (by rfl) underlying25 id_zero _ _ hg (by omega) (fun w3 hB3 hm3 => ?_);try simp only [nmz]
    refine qB ?_;have hcut := gat_cut (i := ni) hrow hg (by omega) (by rw [Array.size_replicate]; omega) hB3;rw [htk] at hcut
    have HF : Hid (DelsR w base v (ids.filter fun x => !del x) (.returned (sliced (some ⟨g, 0, none⟩) 0 ni cap 32)) w3) := hid ⟨hmr.trans hm3 (fun k _ e => by rw [HVE.out, show k = g from e]; rfl), _, rfl, by rw [HST.out]; exact hcut, by rw [HST.out, HVE.out]; rfl⟩
    clear hcut hB3 hm3 hg hmr hrow htk;go_upto_region 12 with (fail);refine wpR [3, 3, 3, 3] (by rfl) (by rfl) ?_;simp only [zz2];refine qA _ rfl rfl ?_;simp only [nmz]
    refine qA _ rfl rfl ?_;simp only [nmz];refine wpPi_sliceTo 25 24 _ _ _ _ _ ni 32 rfl rfl rfl rfl underlying25 (by kernel_rfl) (by omega) ?_;simp only [nmz]
    refine qD _ rfl rfl ?_;simp only [nmz];refine qB ?_;go_wp2;go_ret;have h9 := HF.out;rw [HST.out] at h9;exact h9
end
def emptyW (w : World) : World := { w with heap := #[] }
theorem emptyW_mod (w : World) : Mod NoB (emptyW w) w := ⟨rfl, rfl, rfl, by simp [emptyW], fun k hk _ => by simp [emptyW] at hk⟩
theorem LkAt.bare {w0 w : World} {p : Value} {limit : Int} {l : LinkL} {F : Nat → Prop} (h : LkAt w0 w p limit l F) : LkAt (emptyW w) w p limit l F := ⟨emptyW_mod w, h.ok, fun k _ => by simp [emptyW], h.lt⟩
structure House where
 bs : Nat
 ms : Nat
 wd : Nat
 room : Int
 q : Value
 limit : Int
def HsAt (w : World) (h : House) (c : BlobL) (l : LinkL) (Ft : Nat → Prop) : Prop :=
 ∃ bl F, StInv w h.bs h.ms h.wd h.room bl ∧ cont bl = c ∧ LkAt (emptyW w) w h.q h.limit l F ∧ (∀ k, SFoot h.bs h.ms bl k → ¬ F k) ∧ (∀ k, SFoot h.bs h.ms bl k → Ft k) ∧ (∀ k, F k → Ft k) ∧ ∀ k, Ft k → k < w.heap.size
def HStep (w : World) (h : House) (Ft : Nat → Prop) (w' : World) (c' : BlobL) (l' : LinkL) : Prop := ∃ Ft', HsAt w' h c' l' Ft' ∧ Mod Ft w w' ∧ ∀ k, Ft' k → Ft k ∨ New w w' k
section
variable {w w' : World} {h : House} {c c' : BlobL} {l l' : LinkL} {Ft : Nat → Prop}
theorem HsAt.lt (H : HsAt w h c l Ft) : ∀ k, Ft k → k < w.heap.size := by
 obtain ⟨_, _, _, _, _, _, _, _, h⟩ := H;exact h
theorem HsAt.keep {S : Nat → Prop} (H : HsAt w h c l Ft) (hm : Mod S w w') (hS : ∀ k, Ft k → ¬ S k) : HsAt w' h c l Ft := by
 obtain ⟨bl, F, h1, h2, h3, h4, h5, h6, h7⟩ := H
 exact ⟨bl, F, h1.keep hm (fun k hk => hS k (h5 k hk)), h2, (h3.keep hm (fun k hk => hS k (h6 k hk)) (fun k hk => by simp [emptyW] at hk)).bare, h4, h5, h6, fun k hk => Nat.lt_of_lt_of_le (h7 k hk) hm.size⟩
theorem HsAt.keep0 (H : HsAt w h c l Ft) (hm : Mod NoB w w') : HsAt w' h c l Ft := H.keep hm fun _ _ => id
theorem HStep.of0 (H : HsAt w h c l Ft) (hm : Mod NoB w w') : HStep w h Ft w' c l := ⟨Ft, H.keep0 hm, hm.mono (fun _ _ h => h.elim), fun _ hk => .inl hk⟩
theorem HStep.trans {w1 : World} {c1 : BlobL} {l1 : LinkL} (h1 : HStep w h Ft w1 c1 l1) (h2 : ∀ F1, HsAt w1 h c1 l1 F1 → HStep w1 h F1 w' c' l') : HStep w h Ft w' c' l' := by
 obtain ⟨F1, a1, b1, d1⟩ := h1;obtain ⟨F2, a2, b2, d2⟩ := h2 F1 a1;refine ⟨F2, a2, b1.trans b2 (fun k hk hf => (d1 k hf).elim id (fun hn => by have := hn.1; omega)), fun k hk => ?_⟩
 rcases d2 k hk with h | h
 · rcases d1 k h with h | h
   · exact .inl h
   · exact .inr ⟨h.1, Nat.lt_of_lt_of_le h.2 b2.size⟩
 · exact .inr ⟨Nat.le_trans b1.size h.1, h.2⟩
theorem HsAt.nd (H : HsAt w h c l Ft) : (c.map (·.1)).Nodup := by
 obtain ⟨bl, F, h1, rfl, _⟩ := H;exact h1.nd
theorem HsAt.small (H : HsAt w h c l Ft) : (∀ p ∈ c, p.1.length = 32 ∧ p.2.length ≤ 4096) ∧ c.length ≤ 10000 ∧ l.length ≤ 65536 := by
 obtain ⟨bl, F, h1, rfl, h3, _⟩ := H;refine ⟨fun p hp => ?_, by simpa [cont] using h1.few, h3.facts.2.2.2.2.2⟩;obtain ⟨b, hb, rfl⟩ := List.mem_map.1 hp
 exact ⟨h1.ok b hb, h1.sz b hb⟩
theorem HsAt.drop (H : HsAt w h c l Ft) (di : List UInt8) (hd : di.length = 32) : Calls prog 30 #[.pointer (some ⟨h.bs, 0, none⟩), .agg (qC di)] w (fun e w' => ∃ v, e = .returned v ∧ HStep w h Ft w' (delL di c) l) := by
 obtain ⟨bl, F, h1, rfl, h3, h4, h5, h6, h7⟩ := H;refine (bDrop_any h1 di hd).mono ?_;rintro e w' ⟨rfl, bl', k1, k2, k3, k4⟩
 have hF : ∀ k, F k → ¬ (k = h.bs ∨ k = h.ms) := fun k hk e => h4 k (e.elim (fun e => .inl e) (fun e => .inr (.inl e))) hk
 refine ⟨_, rfl, fun k => Ft k ∨ New w w' k, ⟨bl', F, k1, k2, (h3.keep k3 hF (fun k hk => by simp [emptyW] at hk)).bare, fun k hk hf => ?_, fun k hk => (k4 k hk).imp (h5 k) id, fun k hk => .inl (h6 k hk), fun k hk => hk.elim (fun hk => Nat.lt_of_lt_of_le (h7 k hk) k3.size) (fun hk => hk.2)⟩, k3.mono (fun k _ e => h5 k (e.elim (fun e => .inl e) (fun e => .inr (.inl e)))), fun k hk => hk⟩
 rcases k4 k hk with hk | hk
 · exact h4 k hk hf
 · have := h3.lt k hf
   have := hk.1;omega
theorem HsAt.forget (H : HsAt w h c l Ft) (x : List UInt8) (hx : x.length = 32) : Calls prog 127 #[h.q, .agg (qC x)] w (fun e w' => e = .returned (.int .i64 (forgetN l x)) ∧ HStep w h Ft w' c (forgetL l x)) := by
 obtain ⟨bl, F, h1, rfl, h3, h4, h5, h6, h7⟩ := H;refine (forget_at h3 x hx).mono ?_;rintro e w' ⟨rfl, F', k1, k2, k3⟩
 refine ⟨rfl, fun k => Ft k ∨ New w w' k, ⟨bl, F', h1.keep k2 (fun k hk hf => h4 k hk hf), rfl, k1.bare, fun k hk hf => ?_, fun k hk => .inl (h5 k hk), fun k hk => (k3 k hk).imp (h6 k) id, fun k hk => hk.elim (fun hk => Nat.lt_of_lt_of_le (h7 k hk) k2.size) (fun hk => hk.2)⟩, k2.mono (fun k _ e => h6 k e), fun k hk => hk⟩
 rcases k3 k hf with hf | hf
 · exact h4 k hk hf
 · have := h1.lt k hk
   have := hf.1;omega
theorem HsAt.size (H : HsAt w h c l Ft) (di : List UInt8) (hd : di.length = 32) : Calls prog 91 #[.pointer (some ⟨h.bs, 0, none⟩), .agg (qC di)] w (SizeR w (getL di c)) := by
 obtain ⟨bl, F, h1, rfl, _⟩ := H;exact bSize_any h1 di hd
theorem HsAt.ids (H : HsAt w h c l Ft) : Calls prog 38 #[.pointer (some ⟨h.bs, 0, none⟩)] w (IDsR w c) := by
 obtain ⟨bl, F, h1, rfl, _⟩ := H;exact bIDs_any h1
theorem HsAt.width (H : HsAt w h c l Ft) : Calls prog 124 #[.pointer (some ⟨h.bs, 0, none⟩)] w (RetE (.int .i64 h.wd) w) := by
 obtain ⟨bl, F, h1, rfl, _⟩ := H;exact bWidth_any h1
theorem nameB_none : nameB ⟨#[]⟩ = false := by decide +kernel
theorem HsAt.none (H : HsAt w h c l Ft) : Calls prog 123 #[h.q, .string ⟨#[]⟩, .agg (qC (List.replicate 32 0)), .int .i64 0] w (fun e w' => (∃ er : Int, er ≠ 1 ∧ e = .returned (.tuple #[.bool false, .int .i64 er])) ∧ HStep w h Ft w' c l) := by
 obtain ⟨bl, F, h1, rfl, h3, h4, h5, h6, h7⟩ := H;refine (link_at h3 (⟨#[]⟩, List.replicate 32 0) (by simp [KeyOk]) (Nat.zero_le _) 0).mono ?_
 have ha : (addE true h.limit l (⟨#[]⟩, List.replicate 32 0) 0).1 = false ∧ (addE true h.limit l (⟨#[]⟩, List.replicate 32 0) 0).2 ≠ 1 := by
  unfold addE;rw [nameB_none]
  simp
 rintro e w' ⟨rfl, F', k1, k2, k3⟩;rw [addL, ha.1] at k1
 refine ⟨⟨_, ha.2, by rw [ha.1]⟩, fun k => Ft k ∨ New w w' k, ⟨bl, F', h1.keep k2 (fun k hk hf => h4 k hk hf), rfl, k1.bare, fun k hk hf => ?_, fun k hk => .inl (h5 k hk), fun k hk => (k3 k hk).imp (h6 k) id, fun k hk => hk.elim (fun hk => Nat.lt_of_lt_of_le (h7 k hk) k2.size) (fun hk => hk.2)⟩, k2.mono (fun k _ e => h6 k e), fun k hk => hk⟩
 rcases k3 k hf with hf | hf
 · exact h4 k hk hf
 · have := h1.lt k hk
   have := hf.1;omega
end
theorem fo_104_0 : zB prog 104 0 = some 0 := by kernel_rfl
theorem fo_104_1 : zB prog 104 1 = some 1 := by kernel_rfl
theorem fo_104_2 : zB prog 104 2 = some 2 := by kernel_rfl
abbrev SwS := BlobL × LinkL × Nat × Nat
def swStep (s : SwS) (x : List UInt8) : SwS := (delL x s.1, forgetL s.2.1 x, s.2.2.1 + ((getL x s.1).getD []).length, s.2.2.2 + forgetN s.2.1 x)
def swRun (xs : List (List UInt8)) (c : BlobL) (l : LinkL) : SwS := xs.foldl swStep (c, l, 0, 0)
theorem swRun_snoc (xs : List (List UInt8)) (x : List UInt8) (c : BlobL) (l : LinkL) : swRun (xs ++ [x]) c l = swStep (swRun xs c l) x := by simp [swRun]
def goneL (ids marks : List (List UInt8)) : List (List UInt8) := ids.filter fun x => !decide (x ∈ marks)
theorem sweptZ : (prog.info? 104).bind (·.zero) = some (.agg #[.slice none 0 0, .int .i64 0, .int .i64 0]) := by kernel_rfl
theorem setZ : (prog.info? 200).bind (·.zero) = some (.map none) := by kernel_rfl
theorem built_id0 : prog.built 24 [] = some (qC (List.replicate 32 0)) := by kernel_rfl
def qR (bv : Value) (b n : Nat) : Array Value := #[bv, .int .i64 b, .int .i64 n]
structure SwpAt (w0 : World) (h : House) (Ft : Nat → Prop) (c : BlobL) (l : LinkL) (gone : List (List UInt8)) (ob : Nat) (bv : Value) (k : Nat) (s : SwS) (w : World) (Fk : Nat → Prop) : Prop where
 run : swRun (gone.take k) c l = s
 at' : HsAt w h s.1 s.2.1 Fk
 mod : Mod Ft w0 w
 sub : ∀ j, Fk j → Ft j ∨ New w0 w j
 nob : ¬ Fk ob
 nrow : ∀ q, bv.ownBlock = some q → ¬ Fk q
 box : w.heap[ob]? = some (.cells (qR bv s.2.2.1 s.2.2.2) 104 (0, 0))
 row : GatI w0.heap.size w bv gone
 b1 : s.2.2.1 ≤ k * 4096
 n1 : s.2.2.2 ≤ k * 65536
def SwpRel (w0 : World) (h : House) (Ft : Nat → Prop) (c : BlobL) (l : LinkL) (gone : List (List UInt8)) (ob : Nat) (bv : Value) (i : Value) (w : World) : Prop :=
 ∃ k s Fk, k ≤ gone.length ∧ i = .int .i64 (k : Nat) ∧ SwpAt w0 h Ft c l gone ob bv k s w Fk
def SwpR (w : World) (h : House) (Ft : Nat → Prop) (c : BlobL) (l : LinkL) (marks : List (List UInt8)) : Ending → World → Prop := fun e w' =>
 ∃ ids bv s Ft', IDsC c ids ∧ swRun (goneL ids marks) c l = s ∧ e = .returned (.tuple #[.agg (qR bv s.2.2.1 s.2.2.2), .int .i64 0]) ∧ GatI w.heap.size w' bv (goneL ids marks) ∧
  HsAt w' h s.1 s.2.1 Ft' ∧ Mod Ft w w' ∧ (∀ k, Ft' k → Ft k ∨ New w w' k) ∧ ∀ q, bv.ownBlock = some q → ¬ Ft' q
section
variable {w : World} {h : House} {c : BlobL} {l : LinkL} {Ft : Nat → Prop}
theorem swSweep_any (H : HsAt w h c l Ft) {own : Bool} {G : Nat → Prop} {v : Value} {marks : List (List UInt8)} (hv : Sl own w G 32 IdC v marks) (hG : ∀ k, G k → ¬ Ft k) : Calls prog 53 #[.pointer (some ⟨h.bs, 0, none⟩), h.q, v] w (SwpR w h Ft c l marks) := by
 have hmm := @run_makeMap prog;have HH := hid H;have HV := hid hv;obtain ⟨vad, vcap, hve, -, -⟩ := Sl.at hv
 have hmk32 : ∀ x ∈ marks, x.length = 32 := by
  intro x hx;obtain ⟨a, cap, _, _, hat⟩ := Sl.at hv;obtain ⟨i, hi, rfl⟩ := List.getElem_of_mem hx;obtain ⟨b, off, _, _, _, hc⟩ := hat i hi;obtain ⟨cs, _, ⟨_, h2⟩, _⟩ := hc i hi
  exact h2
 rw [hve] at HV;subst hve;clear H hv
 have hz : ¬ (h.wd : Int) = 0 := by
  obtain ⟨bl, F, h1, _⟩ := HH.out;have := h1.wok;omega
 generalize hq : h.q = qv;go_enter func53, ntmps53;go_upto_region 0 with (fail);refine wpR [1, 3] (by rfl) (by rfl) ?_;simp only [zz2];refine wpDo rfl ?_
 refine qU 104 _ (by rfl) sweptZ (fun w1 hB1 hm1 hs1 => ?_);replace hB1 : w1.heap[w.heap.size]? = some (.cells #[.slice none 0 0, .int .i64 0, .int .i64 0] 104 (0, 0)) := hB1
 refine qD _ rfl rfl ?_;simp only [nmz];refine qB ?_;have hlk := (HH.out.keep0 hm1).none;rw [hq] at hlk;go_upto_region 1 with (fail)
 refine wpR [3, 0, 1, 3, 3, 3, 3, 3] (by rfl) (by rfl) ?_;simp only [zz2];refine qA _ rfl rfl ?_;simp only [nmz]
 refine qS rfl (fun w' hS => qT 24 [] [] _ (by rfl) (by rfl) built_id0) ?_;simp only [nmz];refine wpDo rfl ?_
 refine qG (qH 123 [.tmp 16, .const (.string { data := #[] }), .tmp 17, .const (.int .i64 0)] _ rfl _ func123 rfl (by kernel_rfl) [qv, .string ⟨#[]⟩, .agg (qC (List.replicate 32 0)), .int .i64 0] rfl _) (hlk) ?_
 rintro e w2 ⟨⟨er, her, rfl⟩, hst2⟩;refine ⟨_, rfl, ?_⟩;refine qA _ rfl rfl ?_;simp only [nmz]
 refine qJ rfl (fun w' => qP _ 0 #[.bool false, .int .i64 er] rfl rfl (.bool false) rfl) ?_;simp only [nmz]
 refine qJ rfl (fun w' => qP _ 1 #[.bool false, .int .i64 er] rfl rfl (.int .i64 er) rfl) ?_;simp only [nmz];refine qD _ rfl rfl ?_;simp only [nmz]
 refine qD _ rfl rfl ?_;simp only [nmz];refine qB ?_;obtain ⟨F2, H2, hm2, hs2⟩ := hst2;have hwid := H2.width;clear hlk;have HWID := hid hwid;clear hwid
 have hz1 : ((h.wd : Int) == 0) = false := by simpa using hz
 have her1 : (er == 1) = false := by simpa using her
 clear hz her;go_upto_region 4 with (go_at_call 124; refine HWID.out.mono ?_; rintro _ w3 ⟨rfl, hw3⟩; obtain rfl := hw3.symm)
 have hobF : ¬ Ft w.heap.size := fun e => by have := HH.out.lt _ e; omega
 have hob2 : ¬ F2 w.heap.size := fun e => (hs2 _ e).elim hobF (fun h => by have := h.1; omega);have hBo2 := hm2.obj hobF hB1
 have hm02 : Mod Ft w w2 := (hm1.mono (fun _ _ h => h.elim)).trans hm2 (fun _ _ h => h)
 have hs02 : ∀ k, F2 k → Ft k ∨ New w w2 k := fun k hk => (hs2 k hk).imp id (fun h => ⟨by have := h.1; have := hm1.size; omega, h.2⟩);have hlt2 := H2.lt;have hw02 := hm02.size
 clear hz1 her1 HWID hm2 hs2 hB1;refine wpR [1, 3, 1, 1, 1, 1] (by rfl) (by rfl) ?_;simp only [zz2];refine qW rfl (fun K hK => ?_);unfold Oper.wp execOp
 simp only [Array.map_empty, Option.map_none, Sem.run_bind, hmm, Result.andThen_ok, Sem.run_pure];have hB3 := heap_alloc_new w2 (.map #[] 0);have hm3 := zD w2 (.map #[] 0)
 have hs3 : (w2.alloc (.map #[] 0)).heap.size = w2.heap.size + 1 := by simp
 generalize w2.alloc (.map #[] 0) = w3 at hB3 hm3 hs3 ⊢;have hM3 : MapIs idV IdOk w3 w2.heap.size [] := MapIs.made hB3;have hval := valuesI_any w3 vad marks.length vcap
 refine hK _ _ trivial ?_;clear hK K;refine qA _ rfl rfl ?_;simp only [nmz];refine wpDo rfl ?_
 refine qG (qH 119 [.tmp 30] _ rfl _ func119 rfl (by kernel_rfl) [.slice vad marks.length vcap] rfl _) (hval) ?_;rintro e w4 ⟨rfl, hw4⟩
 have hm4 : Mod NoB w3 w4 := by rw [hw4]; exact zD w3 _
 have hB4 : w4.heap[w3.heap.size]? = some (.cells #[.slice vad marks.length vcap] 25 (0, 0)) := by rw [hw4]; exact heap_alloc_new w3 _
 clear hw4;have hadd := swAdd_any (enters_of func194 (by kernel_rfl) rfl) (valuesI_gives hB4 (((HV.out.keep hm02 hG (fun _ _ h => h)).keep0 hm3).keep0 hm4)) hmk32 (hM3.keep0 hm4)
 refine ⟨_, rfl, ?_⟩;try simp only [nmz]
 refine wpDo rfl ?_
 refine qG (qH 115 [.tmp 29, .tmp 31] _ rfl _ func115 rfl (by kernel_rfl) [.map (some w2.heap.size), .func (.func 194) #[] #[.pointer (some ⟨w3.heap.size, 0, none⟩)]] rfl _) (hadd) ?_
 rintro e w5 ⟨rfl, hM5, hm5⟩;refine ⟨_, rfl, ?_⟩;try simp only [nmz]
 refine wpDo rfl ?_;refine qU 200 _ (by rfl) setZ (fun w6 hB6 hm6 hs6 => ?_);replace hB6 : w6.heap[w5.heap.size]? = some (.cells #[.map none] 200 (0, 0)) := hB6
 try simp only [nmz]
 refine wpDo rfl ?_;refine zA 200 _ _ w5.heap.size 0 (.map (some w2.heap.size)) (by rfl) (by rfl) (by rfl) rfl (by kernel_rfl) _ _ hB6 (by simp) (fun w7 hB7 hm7 => ?_)
 replace hB7 : w7.heap[w5.heap.size]? = some (.cells #[.map (some w2.heap.size)] 200 (0, 0)) := hB7;try simp only [nmz]
 refine qB ?_;have hm25 : Mod NoB w2 w5 := (hm3.trans0 hm4).transB hm5 (Nat.le_refl _);have hm27 : Mod NoB w2 w7 := (hm25.trans0 hm6).transB hm7 hm25.size;have hmbk := hM5.lt
 have hM7 := (hM5.keep0 hm6).keep hm7 (fun e => by have e : w2.heap.size = w5.heap.size := e; omega);have hkb7 : w5.heap.size < w7.heap.size := (Array.getElem?_eq_some_iff.1 hB7).1
 have hob2' : w.heap.size < w2.heap.size := (Array.getElem?_eq_some_iff.1 hBo2).1;generalize hmb : w2.heap.size = mb at *;generalize hkb : w5.heap.size = kb at *
 have hmk := addsL_marked marks [] (by simp [Marked])
 have hmem : ∀ x, decide (x ∈ (addsL marks []).map (·.1)) = decide (x ∈ marks) := fun x => by rw [decide_eq_decide, addsL_mem]; simp
 have H7 := H2.keep0 hm27;have hBo7 := hm27.obj id hBo2;have hids := H7.ids;have hc32 := H7.small.1;have hs27 := hm27.size
 clear hB6 hm3 hm4 hm5 hm6 hm7 hM3 hB3 hB4 hval hadd hM5 hs3 hs6 hm25;go_upto_region 5 with (fail);refine wpR [3, 1, 1, 1, 3, 1] (by rfl) (by rfl) ?_;simp only [zz2]
 refine qA _ rfl rfl ?_;simp only [nmz];refine wpDo rfl ?_
 refine qG (qH 38 [.tmp 33] _ rfl _ func38 rfl (by kernel_rfl) [.pointer (some ⟨h.bs, 0, none⟩)] rfl _) (hids) ?_;rintro e w8 ⟨hm8, v8, ids, he8, hg8, hidc⟩;subst he8
 have hi32 : ∀ x ∈ ids, x.length = 32 := fun x hx => by
  obtain ⟨p, hp, rfl⟩ := List.mem_map.1 ((hidc.2.mem_iff).1 hx);exact (hc32 p hp).1
 have hdels : DelsOn 126 #[.pointer (some ⟨kb, 0, none⟩)] (fun x => decide (x ∈ marks)) (fun q => v8.ownBlock = some q) w8 := fun x W hx hm => by
  have hno : ∀ k, k < w7.heap.size → ¬ (v8.ownBlock = some k) := fun k hk e => by have := (hg8.lt e).1; omega
  have h1 := swKept_any (hm.obj (hno kb hkb7) (hm8.obj id hB7)) ((hM7.keep0 hm8).keep hm (hno mb (by omega))) hmk x hx;rw [hmem] at h1;exact h1
 have hdelc := deleteI_any (enters_of func126 (by kernel_rfl) rfl) hg8 hi32 hdels;refine ⟨_, rfl, ?_⟩;try simp only [nmz]
 refine wpX rfl (yM 126 [.tmp 10] (by rfl) [.pointer (some ⟨kb, 0, none⟩)] (by rfl)) trivial ?_;try simp only [nmz]
 refine wpDo rfl ?_
 refine qG (qH 125 [.tmp 34, .tmp 35] _ rfl _ func125 rfl (by kernel_rfl) [v8, .func (.func 126) #[] #[.pointer (some ⟨kb, 0, none⟩)]] rfl _) (hdelc) ?_
 rintro e w9 ⟨hm9, bv, he9, hg9, ho9⟩;subst he9;have hbv : ∀ q, bv.ownBlock = some q → w7.heap.size ≤ q := fun q hq => by rw [ho9] at hq; exact (hg8.lt hq).1
 have hm79 : Mod NoB w7 w9 := hm8.trans hm9 (fun k hk e => by have := (hg8.lt e).1; omega);have hBo9 := hm79.obj id hBo7;refine ⟨_, rfl, ?_⟩
 refine qE _ _ _ _ _ _ rfl rfl rfl fo_104_0 ?_;simp only [nmz];refine wpDo rfl ?_
 refine zA 25 _ _ w.heap.size 0 bv (by rfl) (by rfl) (by rfl) (xX hg9) (by kernel_rfl) _ _ hBo9 (by simp) (fun w10 hB10 hm10 => ?_)
 replace hB10 : w10.heap[w.heap.size]? = some (.cells #[bv, .int .i64 0, .int .i64 0] 104 (0, 0)) := hB10;try simp only [nmz]
 refine qB ?_;have hm29 := hm27.trans0 hm79
 have hg10 : GatI w.heap.size w10 bv (goneL ids marks) := (hg9.keep hm10 (fun q hq e => by have := hbv q hq; have e : q = w.heap.size := e; omega)).base (by omega)
 have hAt : SwpAt w h Ft c l (goneL ids marks) w.heap.size bv 0 (c, l, 0, 0) w10 F2 := by
  refine ⟨rfl, (H2.keep0 hm29).keep hm10 (fun k hk e => hob2 (by rw [← show k = w.heap.size from e]; exact hk)), ?_, ?_, hob2, fun q hq hf => ?_, hB10, hg10, Nat.le_refl _, Nat.le_refl _⟩
  · exact (hm02.trans hm29 (fun _ _ h => h.elim)).trans hm10 (fun k hk e => by have e : k = w.heap.size := e; omega)
  · intro k hk
    exact (hs02 k hk).imp id (fun h => ⟨h.1, by have := h.2; have := hm29.size; have := hm10.size; omega⟩)
  · have := hbv q hq
    have := hlt2 q hf;omega
 obtain ⟨gad, gcap, hgv⟩ := hg10.slice
 have hgl : (goneL ids marks).length ≤ 9223372036854775807 := by
  rcases hg10.2 with ⟨_, h0⟩ | ⟨g, cc, cur, _, _, _, hc, hm, _⟩
  · omega
  · unfold maxLen at hm; omega
 have hgl2 : (goneL ids marks).length ≤ 10000 := by
  have h1 : (goneL ids marks).length ≤ ids.length := List.length_filter_le _ _;have h2 := hidc.2.length_eq;have h3 := H7.small.2.1
  simp at h2
  omega
 have hg32 : ∀ x ∈ goneL ids marks, x.length = 32 := fun x hx => hi32 x (List.mem_filter.1 hx).1;have HIDC := hid hidc;generalize hgone : goneL ids marks = gone at *
 have HGO := hid hgone;have HR0 : Hid (SwpRel w h Ft c l gone w.heap.size bv (.int .i64 (0 : Nat)) w10) := hid ⟨0, _, F2, Nat.zero_le _, rfl, hAt⟩
 have hcB : w10.cell? ⟨w.heap.size, 0, none⟩ = some bv := by simp [World.cell?, hB10]
 rw [hgv] at hcB HR0;generalize hob : w.heap.size = ob at *
 clear hgone hAt hg10 hB10 hm10 hBo9 hm79 hbv hg9 ho9 hm9 hdelc hdels hm29 hi32 hg8 hidc hm8 H7 hids hBo7 hmem hmk hM7 hm27 H2 hB7 hlt2 hs02 hm02 hBo2 hm1
 go_upto_region 6 with (fail);refine wpR [3, 1, 3, 3] (by rfl) (by rfl) ?_;simp only [zz2];refine qE _ _ _ _ _ _ rfl rfl rfl fo_104_0 ?_;simp only [nmz]
 refine wpXd 25 ob 0 hcB underlying25 trivial ?_;try simp only [nmz]
 refine zP _ _ _ _ _ rfl rfl rfl (by kernel_rfl) ?_;simp only [nmz];refine qA _ rfl rfl ?_;simp only [nmz];refine qB ?_;clear hcB;go_wp2
 go_loopw [41] (SwpRel w h Ft c l gone ob (.slice gad gone.length gcap)) (fun i _ => gone.length - (intOf i).toNat)
 case atStart => exact HR0.out
 case round =>
  rename World => wr
  obtain ⟨k, s, Fk, hk, rfl, hat⟩ := hrel;have hrow := hat.row
  by_cases hlt : k < gone.length
  · have hz : (k : Int) < (gone.length : Nat) := by omega
    obtain ⟨g, cap', cur, hce, hg, hcA, -, -, -⟩ := Gat.at hrow idE_len k hlt
    obtain ⟨rfl, rfl⟩ : gad = some ⟨g, 0, none⟩ ∧ gcap = cap' := by injection hce with e1 e2 e3; exact ⟨e1, e3⟩
    have hx32 := hg32 _ (List.getElem_mem hlt);rw [idE_eq hx32] at hcA;have hrun : swRun (gone.take (k + 1)) c l = swStep s gone[k] := by rw [← take_snoc hlt, swRun_snoc, hat.run]
    generalize gone[k] = x at *;have hic : (qC x).size = 32 := by rw [qI, hx32]
    have HRUN := hid hrun;have HAT := hid hat;have hboxr := hat.box;have hobk := hat.nob;have hnrk := hat.nrow g rfl
    have hobr : ob < wr.heap.size := (Array.getElem?_eq_some_iff.1 hboxr).1;have hgr : g < wr.heap.size := (Array.getElem?_eq_some_iff.1 hg).1;have hltk := hat.at'.lt
    have hsm := hat.at'.small;have hb1 := hat.b1;have hn1 := hat.n1
    have hgne : g ≠ ob := fun e => by
     subst e;rw [hg] at hboxr;injection hboxr with h1;injection h1 with _ h2 _;exact absurd h2 (by decide)
    clear hrun hat hce;go_upto_region 8 with (fail);refine wpR [3, 1, 1, 1] (by rfl) (by rfl) ?_;simp only [zz2]
    refine qX _ _ _ _ _ _ _ _ _ rfl rfl rfl rfl underlying25 (n := 32) (by kernel_rfl) hlt ?_;simp only [nmz]
    refine wpXA 24 g (k * 32) (qC x) hcA underlying24 32 hic trivial ?_;try simp only [nmz]
    refine wpDo rfl ?_;refine qU 24 _ (by rfl) idZ (fun w2 hB2 hm2 hs2 => ?_)
    replace hB2 : w2.heap[wr.heap.size]? = some (.cells (qC (List.replicate 32 0)) 24 (0, 0)) := hB2;try simp only [nmz]
    refine wpDo rfl ?_
    refine qM 24 _ _ wr.heap.size 0 (qC x) (by rfl) (by rfl) (by rfl) (qZ _) 32 (by kernel_rfl) hic _ _ hB2 (by rw [hic, qI]; simp) (fun w3 hB3 hm3 => ?_)
    rw [qK (by rw [hic, qI]; simp)] at hB3;try simp only [nmz]
    refine qB ?_;have hmr3 : Mod NoB wr w3 := hm2.transB hm3 (Nat.le_refl _);have H3 := HAT.out.at'.keep0 hmr3;have hbox3 := hmr3.obj id hboxr;have hrow3 := hrow.keep0 hmr3
    have hib3 : wr.heap.size < w3.heap.size := (Array.getElem?_eq_some_iff.1 hB3).1;have hsz := H3.size x hx32;clear hm2 hm3 hB2 hs2 hcA hg hboxr hrow
    generalize hib : wr.heap.size = ib at *;obtain ⟨m, hmm2⟩ : ∃ m, ((getL x s.1).getD []).length = m := ⟨_, rfl⟩
    have hm4096 : m ≤ 4096 := by
     rw [← hmm2]
     cases hgx : getL x s.1 with
     | none => simp
     | some b => exact (hsm.1 _ (getL_mem hgx)).2
    obtain ⟨mo, hmo⟩ : ∃ mo, (getL x s.1).isSome = mo := ⟨_, rfl⟩;unfold SizeR at hsz;rw [hmm2, hmo] at hsz;have HMM := hid hmm2;clear hmm2 hmo;go_upto_region 9 with (fail)
    refine wpR [3, 1, 1, 3, 3, 3, 3, 3] (by rfl) (by rfl) ?_;simp only [zz2];refine qA _ rfl rfl ?_;simp only [nmz]
    refine wpXA 24 ib 0 (qC x) (CellsAt.whole hB3) underlying24 32 hic trivial ?_;try simp only [nmz]
    refine wpDo rfl ?_;refine qG (qH 91 [.tmp 46, .tmp 47] _ rfl _ func91 rfl (by kernel_rfl) [.pointer (some ⟨h.bs, 0, none⟩), .agg (qC x)] rfl _) (hsz) ?_
    rintro e w4 ⟨hm4, he4⟩;subst he4;refine ⟨_, rfl, ?_⟩;refine qA _ rfl rfl ?_;simp only [nmz]
    refine qJ rfl (fun w' => qP _ 0 #[.int .i64 (m : Nat), .bool mo] rfl rfl (.int .i64 (m : Nat)) rfl) ?_;simp only [nmz]
    refine qJ rfl (fun w' => qP _ 1 #[.int .i64 (m : Nat), .bool mo] rfl rfl (.bool mo) rfl) ?_;simp only [nmz];refine qD _ rfl rfl ?_;simp only [nmz]
    refine qD _ rfl rfl ?_;simp only [nmz];refine qB ?_;have H4 := H3.keep0 hm4;have hbox4 := hm4.obj id hbox3;have hB4 := hm4.obj id hB3
    have hrow4 := hrow3.keep0 hm4;have hmr4 := hmr3.trans0 hm4;have hs34 := hm4.size;have hdrop := H4.drop x hx32;clear hsz H3 hB3 hbox3 hrow3 hm4 hmr3;go_upto_region 10 with (fail)
    refine wpR [3, 1, 1] (by rfl) (by rfl) ?_;simp only [zz2];refine qA _ rfl rfl ?_;simp only [nmz]
    refine wpXA 24 ib 0 (qC x) (CellsAt.whole hB4) underlying24 32 hic trivial ?_;try simp only [nmz]
    refine wpDo rfl ?_;refine qG (qH 30 [.tmp 51, .tmp 52] _ rfl _ func30 rfl (by kernel_rfl) [.pointer (some ⟨h.bs, 0, none⟩), .agg (qC x)] rfl _) (hdrop) ?_
    rintro e w5 ⟨v5, rfl, F5, H5, hm5, hs5⟩;refine ⟨_, rfl, ?_⟩;try simp only [nmz]
    refine qB ?_;have hibk : ¬ Fk ib := fun e => by have := hltk _ e; omega
    have hbox5 := hm5.obj hobk hbox4;have hB5 := hm5.obj hibk hB4;have hrow5 := hrow4.keep hm5 (fun q hq => by have hq : some g = some q := hq; cases hq; exact hnrk)
    have hs4 := hmr4.size;have hno5 : ∀ j, j < w4.heap.size → ¬ Fk j → ¬ F5 j := fun j hj hf hf5 => (hs5 j hf5).elim hf (fun h => by have := h.1; omega)
    have hob5 := hno5 ob (by omega) hobk;have hib5 := hno5 ib (by omega) hibk;have hg5 := hno5 g (by omega) hnrk
    have hcb5 : w5.cell? ⟨ob, 0 + 1, none⟩ = some (.int .i64 (s.2.2.1 : Nat)) := by simp [World.cell?, hbox5, qR]
    clear hdrop hbox4 hB4 hrow4 H4;go_upto_region 11 with (fail);refine wpR [3, 1, 3, 3, 3, 1] (by rfl) (by rfl) ?_;simp only [zz2]
    refine qE _ _ _ _ _ _ rfl rfl rfl fo_104_1 ?_;simp only [nmz];refine wpXd 3 ob (0 + 1) hcb5 underlying3 trivial ?_;refine qA _ rfl rfl ?_;simp only [nmz]
    refine zT _ _ _ _ ((s.2.2.1 : Nat) : Int) ((m : Nat) : Int) ((s.2.2.1 + m : Nat) : Int) rfl rfl rfl rfl (by omega) (by omega) (by omega) ?_;simp only [nmz]
    refine qE _ _ _ _ _ _ rfl rfl rfl fo_104_1 ?_;simp only [nmz];refine wpDo rfl ?_
    refine zA 3 _ _ ob (0 + 1) (.int .i64 ((s.2.2.1 + m : Nat) : Int)) (by rfl) (by rfl) (by rfl) rfl (by kernel_rfl) _ _ hbox5 (by simp [qR]) (fun w6 hB6 hm6 => ?_)
    replace hB6 : w6.heap[ob]? = some (.cells (qR (.slice (some ⟨g, 0, none⟩) gone.length gcap) (s.2.2.1 + m) s.2.2.2) 104 (0, 0)) := hB6;try simp only [nmz]
    refine qB ?_;have H6 := H5.keep hm6 (fun j hj e => hob5 (by rw [← show j = ob from e]; exact hj));have hid6 := hm6.objB (b := ib) (by omega) hB5
    have hrow6 := hrow5.keep hm6 (fun q hq e => by have hq : some g = some q := hq; cases hq; exact hgne e)
    have hcn6 : w6.drew.cell? ⟨ob, 0 + 2, none⟩ = some (.int .i64 (s.2.2.2 : Nat)) := by
     have h1 : w6.drew.heap[ob]? = _ := hB6
     simp [World.cell?, h1, qR]
    have hcx6 : CellsAt w6.drew ib 0 (qC x) := CellsAt.whole (w := w6.drew) hid6;have hdr : Mod NoB w6 w6.drew := (Mod.refl _ _).drew;have hfor := (H6.keep0 hdr).forget x hx32
    rw [hq] at hfor;have hle5 := hm5.size;have hle6 := hm6.size;have hfl : forgetN s.2.1 x ≤ 65536 := Nat.le_trans (List.length_filter_le _ _) hsm.2.2
    obtain ⟨fn, hfn⟩ : ∃ n, forgetN s.2.1 x = n := ⟨_, rfl⟩;rw [hfn] at hfl;simp only [hfn] at hfor;have HFN := hid hfn
    obtain ⟨SC, hSC⟩ : ∃ SC : World → Prop, SC = fun w' => w'.cell? ⟨ob, 0 + 2, none⟩ = some (.int .i64 (s.2.2.2 : Nat)) ∧ CellsAt w' ib 0 (qC x) := ⟨_, rfl⟩
    have hSi : ∀ w', SC w' → w'.cell? ⟨ob, 0 + 2, none⟩ = some (.int .i64 (s.2.2.2 : Nat)) ∧ CellsAt w' ib 0 (qC x) := fun w' h => by rw [hSC] at h; exact h
    have hSm : ∀ w', w'.cell? ⟨ob, 0 + 2, none⟩ = some (.int .i64 (s.2.2.2 : Nat)) ∧ CellsAt w' ib 0 (qC x) → SC w' := fun w' h => by rw [hSC]; exact h
    have hS : SC w6.drew := hSm _ ⟨hcn6, hcx6⟩;clear hfn hSC hcn6 hbox5 hB5 hrow5 H5;go_upto_region 12 with (fail)
    refine wpRP [(0, 3), (1, 0), (2, 3), (3, 0), (4, 1), (5, 3), (6, 3), (7, 2)] [7] SC hS ?_;simp only [zz4];refine qE _ _ _ _ _ _ rfl rfl rfl fo_104_2 ?_;simp only [nmz]
    refine wpLd 3 ob (0 + 2) (fun w' hS => (hSi _ hS).1) underlying3 ?_;simp only [nmz];refine qA _ rfl rfl ?_;simp only [nmz]
    refine wpLA 24 ib 0 (qC x) (fun w' hS => (hSi _ hS).2) underlying24 32 hic ?_;simp only [nmz];refine qW rfl (fun K hK => ?_)
    refine qG (qH 127 [.tmp 61, .tmp 62] _ rfl _ func127 rfl (by kernel_rfl) [qv, .agg (qC x)] rfl _) (hfor) ?_;rintro e w7 ⟨rfl, F7, H7, hm7, hs7⟩
    have hB7 := hm7.obj hob5 (hdr.obj id hB6);have hS2 : SC w7 := hSm _ ⟨by simp [World.cell?, hB7, qR], hcx6.keep hm7 hib5⟩;refine ⟨_, rfl, hK _ _ hS2 ?_⟩;clear hK K
    try simp only [nmz]
    refine zT _ _ _ _ ((s.2.2.2 : Nat) : Int) ((fn : Nat) : Int) ((s.2.2.2 + fn : Nat) : Int) rfl rfl rfl rfl (by omega) (by omega) (by omega) ?_;simp only [nmz]
    refine qE _ _ _ _ _ _ rfl rfl rfl fo_104_2 ?_;simp only [nmz];refine zR rfl (fun K hK => ?_)
    refine zA 3 _ _ ob (0 + 2) (.int .i64 ((s.2.2.2 + fn : Nat) : Int)) (by rfl) (by rfl) (by rfl) rfl (by kernel_rfl) _ _ hB7 (by simp [qR]) (fun w8 hB8 hm8 => ?_)
    replace hB8 : w8.heap[ob]? = some (.cells (qR (.slice (some ⟨g, 0, none⟩) gone.length gcap) (s.2.2.1 + m) (s.2.2.2 + fn)) 104 (0, 0)) := hB8;refine hK _ _ ?_;clear hK K
    try simp only [nmz]
    refine qB ?_;have hno7 : ∀ j, j < w6.heap.size → ¬ F5 j → ¬ F7 j := fun j hj hf hf7 => (hs7 j hf7).elim hf (fun h => by have h := h.1; have : w6.heap.size ≤ j := h; omega)
    have hob7 := hno7 ob (by omega) hob5;have hg7 := hno7 g (by omega) hg5;have hle7 : w6.heap.size ≤ w7.heap.size := hm7.size;have hle8 := hm8.size;have hA := HAT.out
    have hlt0 : w.heap.size = ob := hob
    have hF5 : ∀ j, j < ob → F5 j → Ft j := fun j hj hf => by
     rcases hs5 j hf with h | h
     · rcases hA.sub j h with h | h
       · exact h
       · have := h.1; omega
     · have := h.1; omega
    have hmodA : Mod Ft w w8 := by
     refine Mod.trans (Mod.trans (Mod.trans (Mod.trans (Mod.trans (Mod.trans hA.mod hmr4 (fun _ _ h => h.elim)) hm5 (fun j hj hf => ?_)) hm6 (fun j hj e => ?_)) hdr (fun _ _ h => h.elim)) hm7 (fun j hj hf => hF5 j (by omega) hf)) hm8 (fun j hj e => ?_)
     · rcases hA.sub j hf with h | h
       · exact h
       · have := h.1; omega
     · have e : j = ob := e; omega
     · have e : j = ob := e; omega
    have hAt : SwpAt w h Ft c l gone ob (.slice (some ⟨g, 0, none⟩) gone.length gcap) (k + 1) (swStep s x) w8 F7 := by
     refine ⟨HRUN.out, H7.keep hm8 (fun j hj e => hob7 (by rw [← show j = ob from e]; exact hj)), hmodA, fun j hf => ?_, hob7, fun q hq => ?_, ?_, ?_, ?_, ?_⟩
     · rcases hs7 j hf with h7 | h7
       · rcases hs5 j h7 with h5 | h5
         · exact (hA.sub j h5).imp id (fun h => ⟨h.1, by have := h.2; omega⟩)
         · exact .inr ⟨by have := h5.1; omega, by have := h5.2; omega⟩
       · exact .inr ⟨by have h := h7.1; have : w6.heap.size ≤ j := h; omega, by have := h7.2; omega⟩
     · have hq : some g = some q := hq
       cases hq
       exact hg7
     · unfold swStep
       rw [HMM.out, HFN.out];exact hB8
     · exact ((hrow6.keep0 hdr).keep hm7 (fun q hq => by have hq : some g = some q := hq; cases hq; exact hg5)).keep hm8 (fun q hq e => by have hq : some g = some q := hq; cases hq; exact hgne e)
     · unfold swStep
       rw [HMM.out]
       show s.2.2.1 + m ≤ _
       omega
     · unfold swStep
       rw [HFN.out]
       show s.2.2.2 + fn ≤ _
       omega
    have HR : Hid (SwpRel w h Ft c l gone ob (.slice (some ⟨g, 0, none⟩) gone.length gcap) (.int .i64 ((k + 1 : Nat) : Int)) w8) := hid ⟨k + 1, _, F7, by omega, rfl, hAt⟩
    clear hAt hmodA hA hB8 hm8 hm7 hm6 hm5 hs7 hs5 hB7 hS hS2 hSi hSm H6 hrow6 hfor hB6 hid6 hcx6 hdr hmr4 H7;go_wp2
    go_roundw
    case rel => exact HR.out
    case measure => simp [intOf]; omega
  · have hz : ¬ (k : Int) < (gone.length : Nat) := by omega
    obtain rfl : k = gone.length := by omega
    have hbox := hat.box;have hrun := hat.run;rw [List.take_length] at hrun;have hone : (Value.slice gad gone.length gcap).oneCell' = true := rfl
    have hall : ∀ cc ∈ qR (.slice gad gone.length gcap) s.2.2.1 s.2.2.2, cc.oneCell' = true := by
     intro cc hc
     simp [qR] at hc
     rcases hc with rfl | rfl | rfl <;> rfl
    have hca : CellsAt wr ob 0 (qR (.slice gad gone.length gcap) s.2.2.1 s.2.2.2) := CellsAt.whole hbox;go_upto_region 14 with (fail)
    refine wpR [1, 1, 3] (by rfl) (by rfl) ?_;simp only [zz2];refine wpXA 104 ob 0 (qR (.slice gad gone.length gcap) s.2.2.1 s.2.2.2) hca underlying104 3 rfl trivial ?_
    try simp only [nmz]
    refine wpDo rfl ?_
    refine qM 104 _ _ ob 0 (qR (.slice gad gone.length gcap) s.2.2.1 s.2.2.2) (by rfl) (by rfl) (by rfl) hall 3 (by kernel_rfl) rfl _ _ hbox (by simp [qR]) (fun w9 hB9 hm9 => ?_)
    rw [qK rfl] at hB9;refine qD _ rfl rfl ?_;simp only [nmz];refine qB ?_;have hlt0 : w.heap.size = ob := hob;have hnob := hat.nob
    have HF : Hid (SwpR w h Ft c l marks (.returned (.tuple #[.agg (qR (.slice gad gone.length gcap) s.2.2.1 s.2.2.2), .int .i64 0])) w9) := hid (by
     refine ⟨ids, .slice gad gone.length gcap, s, Fk, HIDC.out, by rw [HGO.out]; exact hrun, rfl, ?_, hat.at'.keep hm9 (fun j hj e => hnob (by rw [← show j = ob from e]; exact hj)), hat.mod.trans hm9 (fun j hj e => by have e : j = ob := e; omega), fun j hj => (hat.sub j hj).imp id (fun h => ⟨h.1, by have := h.2; have := hm9.size; omega⟩), hat.nrow⟩
     rw [HGO.out];refine hrow.keep hm9 (fun q hq e => ?_);have e : q = ob := e;rw [e] at hq
     rcases hrow.2 with ⟨h1, _⟩ | ⟨g, cc, cur, h1, _, hg, _⟩
     · injection h1 with h1
       rw [h1] at hq
       cases hq
     · injection h1 with h1
       rw [h1] at hq;have hq : some g = some ob := hq
       cases hq
       rw [hg] at hbox;injection hbox with h1;injection h1 with _ h2 _
       exact absurd h2 (by decide))
    clear hm9 hrow hat hbox hca hrun;go_wp2;refine bodyPost_ret (xH (P := prog) (ty := 104) rfl _ _ ob _ _ _ _ (by rfl) hB9 underlying104 rfl (by kernel_rfl)) rfl ?_
    exact HF.out
end
end
section
open Go.RowKit Go.Proofs.Tryz Go.Lib
structure Evt where
 r : Int
 n : Int
 deps : List Int
 kind : Int
 repo : ByteArray
 tag : ByteArray
 id : List UInt8
 refs : List (List UInt8)
 deriving DecidableEq
def zO (e : Evt) (dv rv : Value) : Array Value :=
 #[.int .i64 e.r, .int .i64 e.n, dv, .int .i64 e.kind, .string e.repo, .string e.tag] ++ qC e.id ++ #[rv]
def EvR (own : Bool) (w : World) (G : Nat → Prop) (cs : Array Value) (e : Evt) : Prop :=
 ∃ dv rv, cs = zO e dv rv ∧ e.id.length = 32 ∧ Sl own w G 1 IntC dv e.deps ∧ Sl own w G 32 IdC rv e.refs ∧ e.repo.size ≤ maxLen ∧ e.tag.size ≤ maxLen
structure EvCells (cs : Array Value) (e : Evt) (dv rv : Value) : Prop where
 size : cs.size = 39
 c0 : cs[0]? = some (.int .i64 e.r)
 c1 : cs[1]? = some (.int .i64 e.n)
 c2 : cs[2]? = some dv
 c3 : cs[3]? = some (.int .i64 e.kind)
 c4 : cs[4]? = some (.string e.repo)
 c5 : cs[5]? = some (.string e.tag)
 c38 : cs[38]? = some rv
 dot : cs.extract 0 2 = #[.int .i64 e.r, .int .i64 e.n]
 id : cs.extract 6 38 = qC e.id
theorem zG (e : Evt) (dv rv : Value) (h : e.id.length = 32) : EvCells (zO e dv rv) e dv rv := by
 have hi : (qC e.id).size = 32 := by rw [qI, h]
 have hl : (e.id.map byteV).length = 32 := by simpa using h
 refine ⟨by simp [zO, hi], ?_, ?_, ?_, ?_, ?_, ?_, ?_, ?_, ?_⟩
 all_goals try (simp [zO, qC, h]; done)
 · apply Array.toList_inj.1
   simp only [zO, qC, Array.toList_extract, Array.toList_append, List.extract_eq_take_drop]
   simp [hl]
theorem evCells_one {e : Evt} {dv rv : Value} (h1 : dv.oneCell' = true) (h2 : rv.oneCell' = true) : ∀ c ∈ zO e dv rv, c.oneCell' = true := by
 intro c hc;simp only [zO, Array.mem_append] at hc
 rcases hc with (hc | hc) | hc
 · simp at hc
   rcases hc with rfl | rfl | rfl | rfl | rfl | rfl <;> first | rfl | exact h1
 · exact qZ _ c hc
 · simp at hc; subst hc; exact h2
theorem EvR.keep {own : Bool} {w w' : World} {G S : Nat → Prop} {cs : Array Value} {e : Evt} (h : EvR own w G cs e) (hm : Mod S w w') (hd : ∀ k, G k → ¬ S k) : EvR own w' G cs e := by
 obtain ⟨dv, rv, hc, hi, h1, h2, h3⟩ := h;exact ⟨dv, rv, hc, hi, h1.keep hm hd fun _ _ h => h, h2.keep hm hd fun _ _ h => h, h3⟩
theorem EvR.mono {own : Bool} {w : World} {G G' : Nat → Prop} {cs : Array Value} {e : Evt} (h : EvR own w G cs e) (hg : ∀ k, G k → G' k) : EvR own w G' cs e := by
 obtain ⟨dv, rv, hc, hi, h1, h2, h3⟩ := h;exact ⟨dv, rv, hc, hi, h1.mono hg fun _ _ h => h, h2.mono hg fun _ _ h => h, h3⟩
theorem EvR.keep0 {own : Bool} {w w' : World} {G : Nat → Prop} {cs : Array Value} {e : Evt} (h : EvR own w G cs e) (hm : Mod NoB w w') : EvR own w' G cs e := h.keep hm (fun _ _ => id)
theorem EvR.weak {own : Bool} {w : World} {G : Nat → Prop} {cs : Array Value} {e : Evt} (h : EvR own w G cs e) : EvR false w G cs e := by
 obtain ⟨dv, rv, hc, hi, h1, h2, h3⟩ := h;exact ⟨dv, rv, hc, hi, h1.weak, h2.weak, h3⟩
theorem SlEv.keep0 {own own' : Bool} {w w' : World} {E G : Nat → Prop} {v : Value} {l : List Evt} (h : Sl own w E 39 (EvR own' w G) v l) (hm : Mod NoB w w') : Sl own w' E 39 (EvR own' w' G) v l := h.keep hm (fun _ _ => id) (fun _ _ h => h.keep0 hm)
end
section
open Go.RowKit Go.Shelf Go.Proofs.Tryz Go.Lib
theorem fo_152_0 : zB prog 152 0 = some 0 := by kernel_rfl
instance : Inhabited DescL := ⟨descZ⟩
def ReachR (w : World) (mb : Nat) (all : Marks) : Ending → World → Prop := fun e w' => e = .returned (.tuple #[]) ∧ MarksAt w' mb all ∧ Mod (fun k => k = mb) w w'
def foldM (c : BlobM) (f depth : Nat) (ds : List DescL) (all : Marks) : Marks := ds.foldl (fun all d => if jA d then yA c f d.id (depth + 1) all else leafM all d.id) all
theorem foldM_succ (c : BlobM) (f depth : Nat) (ds : List DescL) (all : Marks) (k : Nat) (hk : k < ds.length) : foldM c f depth (ds.take (k + 1)) all = if jA ds[k] then yA c f ds[k].id (depth + 1) (foldM c f depth (ds.take k) all) else leafM (foldM c f depth (ds.take k) all) ds[k].id := by
 unfold foldM;rw [List.take_succ_eq_append_getElem hk, List.foldl_append]
 rfl
def ReachRel (w0 : World) (mb : Nat) (c : BlobM) (f depth : Nat) (ds : List DescL) (all : Marks) (i : Value) (w : World) : Prop := ∃ k : Nat, k ≤ ds.length ∧ i = .int .i64 k ∧ MarksAt w mb (foldM c f depth (ds.take k) all) ∧ Mod (fun q => q = mb) w0 w
theorem descRow_at1 {m : Nat} {x : List UInt8} {n : Nat} {p : List UInt8} : ∀ j, j < (qC x).size → (xV m x n p)[1 + j]? = (qC x)[j]? := by
 intro j hj;rw [qI] at hj;rw [← Array.getElem?_toList, ← Array.getElem?_toList, Nat.add_comm];simp only [xV, List.getElem?_cons_succ, qC]
 rw [List.getElem?_append_left (by simpa using hj)]
theorem wasM_eq (all : Marks) (id : List UInt8) (depth : Nat) : wasM all id depth = ((getL id all).isSome && (decide (0 < (getL id all).getD 0) && decide ((getL id all).getD 0 ≤ depth))) := by
 unfold wasM
 cases getL id all <;> simp
theorem mark_look (id : List UInt8) (all : Marks) : (if true = true then Value.tuple #[(getL id (marksV all)).getD (linkV 0), .bool (getL id (marksV all)).isSome] else (getL id (marksV all)).getD (linkV 0)) = .tuple #[linkV ((((getL id all).getD 0 : Nat)) : Int), .bool (getL id all).isSome] := by
 rw [if_pos rfl, marks_get]
 cases getL id all <;> rfl
theorem linkV_one (n : Int) : ∀ c ∈ (#[.int .i64 n] : Array Value), c.oneCell' = true := by simp [Value.oneCell']
section
variable {bs ms wd : Nat} {room : Int} {bl : List Blb} {mb : Nat}
theorem StInv.keepM {w w' : World} (h : StInv w bs ms wd room bl) (hmb : ¬ SFoot bs ms bl mb) (hm : Mod (fun k => k = mb) w w') : StInv w' bs ms wd room bl := h.keep hm (fun k hk e => hmb (by have e' : k = mb := e; rw [← e']; exact hk))
theorem clReach_any (hmb : ¬ SFoot bs ms bl mb) : ∀ (f : Nat) (id : List UInt8) (depth : Nat) (all : Marks) (w : World), id.length = 32 → 0 < depth → depth + f = 6 → 0 < f → StInv w bs ms wd room bl → MarksAt w mb all →
 Calls prog 87 #[.pointer (some ⟨bs, 0, none⟩), .agg (qC id), .int .i64 depth, .map (some mb)] w (ReachR w mb (yA (cont bl) f id depth all))
 | 0, _, _, _, _, _, _, _, h, _, _ => by omega
 | f + 1, di, depth, all, w, hid, hd0, hdf, _, hst, hM => by
  have ih := clReach_any hmb f;have IH := Lib.hid ih;have hic : (qC di).size = 32 := by rw [qI, hid]
  have H := Lib.hid hst;have HM := Lib.hid hM;have hmbl : mb < w.heap.size := hM.lt;have HW := Lib.hid (wasM_eq all di depth);have HLK := Lib.hid (mark_look di all)
  obtain ⟨kk, hkk⟩ : ∃ q, (getL di all).getD 0 = q := ⟨_, rfl⟩;obtain ⟨is, his⟩ : ∃ q, (getL di all).isSome = q := ⟨_, rfl⟩;rw [hkk, his] at HW HLK
  have hwas : ∃ q, wasM all di depth = q := ⟨_, rfl⟩;obtain ⟨was, hwas⟩ := hwas;rw [hwas] at HW;have HWAS := Lib.hid hwas;have hdz : depth ≤ 5 := by omega
  clear hst hM hkk his hwas ih;go_enter func87, ntmps87;go_upto_region 0 with (fail);refine wpR [1] (by rfl) (by rfl) ?_;simp only [zz2];refine wpDo rfl ?_
  refine xF 24 _ _ (by rfl) (by rfl) (fun w1 hB1 hm1 hs1 => ?_);replace hB1 : w1.heap[w.heap.size]? = some (.cells (qC di) 24 (0, 0)) := hB1;try simp only [nmz]
  refine qB ?_;have HM1 := Lib.hid (HM.out.keep0 hm1);have hm1s : w.heap.size < w1.heap.size := hs1;generalize hb5 : w.heap.size = b5 at *;go_upto_region 1 with (fail)
  refine wpR [3, 1, 1, 3, 3, 3, 1, 1, 3] (by rfl) (by rfl) ?_;simp only [zz2];refine qA _ rfl rfl ?_;simp only [nmz]
  refine wpXA 24 b5 0 (qC di) (CellsAt.whole hB1) underlying24 32 hic trivial ?_;try simp only [nmz]
  refine wpX rfl (yG keyT_id HM1.out di hid 144 152 underlying144 (linkV 0) cmarkZ _ _ true (by rfl) (by rfl) (by rfl) _ HLK.out) trivial ?_;refine qA _ rfl rfl ?_
  simp only [nmz];refine qJ (v := ?_) rfl (fun w' => ?_) ?_; rotate_left; · (go_simp; try with_reducible rfl)
  simp only [nmz];refine qJ (v := ?_) rfl (fun w' => ?_) ?_; rotate_left; · (go_simp; try with_reducible rfl)
  simp only [nmz];refine wpDo rfl ?_;refine qU 152 _ (by rfl) cmarkZ (fun w2 hB2 hm2 hs2 => ?_)
  replace hB2 : w2.heap[w1.heap.size]? = some (.cells #[.int .i64 0] 152 (0, 0)) := hB2;try simp only [nmz]
  refine wpDo rfl ?_;refine qM 152 _ _ w1.heap.size 0 #[.int .i64 kk] (by rfl) (by rfl) (by rfl) (linkV_one _) 1 (by kernel_rfl) rfl _ _ hB2 (by simp) (fun w3 hB3 hm3 => ?_)
  rw [qK (by rfl)] at hB3;refine qD _ rfl rfl ?_;simp only [nmz];refine qB ?_;have hm13 : Mod NoB w1 w3 := hm2.transB hm3 (Nat.le_refl _)
  have HB1 := Lib.hid (hm13.obj id hB1);have hck : w3.cell? ⟨w1.heap.size, 0, none⟩ = some (.int .i64 kk) := by simp [World.cell?, hB3]
  have HM03 := Lib.hid (hm1.trans0 hm13);replace HM1 := Lib.hid (HM1.out.keep0 hm13);generalize hb8 : w1.heap.size = b8 at *;clear hm1 hm13 hm2 hm3 hB1 hB2 hB3 hs1 hs2
  go_upto_region 2 with (fail)
  go_cut [35] (fun s wx => s = .bool was ∧ wx = w3)
  case first =>
   have hw := HW.out
   cases is with
   | false =>
    obtain rfl : was = false := by simpa using hw
    clear hw;refine wpR [3, 3, 3, 0, 3, 3, 3, 3, 0, 3, 3, 3] (by rfl) (by rfl) ?_;simp only [zz2];refine qA _ rfl rfl ?_;simp only [nmz];refine qA _ rfl rfl ?_
    simp only [nmz];refine qV rfl ?_;simp only [nmz];refine zK rfl ?_;simp only [nmz];refine qV rfl ?_;simp only [nmz];refine qQ _ _ _ _ rfl rfl rfl ?_
    simp only [nmz];refine qA _ rfl rfl ?_;simp only [nmz];refine qV rfl ?_;simp only [nmz];refine zK rfl ?_;simp only [nmz];refine qV rfl ?_
    simp only [nmz];refine qV rfl ?_;simp only [nmz];refine qQ _ _ _ _ rfl rfl rfl ?_;simp only [nmz];refine qB ?_;go_wp2
    go_meet
    case rel => exact ⟨rfl, rfl⟩
   | true =>
    by_cases hk0 : 0 < kk
    · have hz : (kk : Int) > 0 := by omega
      by_cases hkd : kk ≤ depth
      · have hz2 : (kk : Int) ≤ (depth : Int) := by omega
        obtain rfl : was = true := by simpa [hk0, hkd] using hw
        clear hw;refine wpR [3, 3, 3, 1, 3, 3, 3, 3, 1, 3, 3, 3] (by rfl) (by rfl) ?_;simp only [zz2];refine qA _ rfl rfl ?_;simp only [nmz];refine qA _ rfl rfl ?_
        simp only [nmz];refine qE _ _ _ _ _ _ rfl rfl rfl fo_152_0 ?_;simp only [nmz];refine wpXd (v := (.int .i64 kk)) 3 b8 0 hck underlying3 trivial ?_;try simp only [nmz]
        refine qY _ _ _ _ _ _ _ _ rfl rfl rfl rfl rfl true (decide_eq_true hz) ?_;simp only [nmz];refine qQ _ _ _ _ rfl rfl rfl ?_;simp only [nmz]
        refine qA _ rfl rfl ?_;simp only [nmz];refine qE _ _ _ _ _ _ rfl rfl rfl fo_152_0 ?_;simp only [nmz]
        refine wpXd (v := (.int .i64 kk)) 3 b8 0 hck underlying3 trivial ?_;refine qA _ rfl rfl ?_;simp only [nmz]
        refine qY _ _ _ _ _ _ _ _ rfl rfl rfl rfl rfl true (decide_eq_true hz2) ?_;simp only [nmz];refine qQ _ _ _ _ rfl rfl rfl ?_;simp only [nmz];refine qB ?_
        go_wp2
        go_meet
        case rel => exact ⟨rfl, rfl⟩
      · have hz2 : ¬ (kk : Int) ≤ (depth : Int) := by omega
        obtain rfl : was = false := by simpa [hk0, hkd] using hw
        clear hw;refine wpR [3, 3, 3, 1, 3, 3, 3, 3, 1, 3, 3, 3] (by rfl) (by rfl) ?_;simp only [zz2];refine qA _ rfl rfl ?_;simp only [nmz];refine qA _ rfl rfl ?_
        simp only [nmz];refine qE _ _ _ _ _ _ rfl rfl rfl fo_152_0 ?_;simp only [nmz];refine wpXd (v := (.int .i64 kk)) 3 b8 0 hck underlying3 trivial ?_;try simp only [nmz]
        refine qY _ _ _ _ _ _ _ _ rfl rfl rfl rfl rfl true (decide_eq_true hz) ?_;simp only [nmz];refine qQ _ _ _ _ rfl rfl rfl ?_;simp only [nmz]
        refine qA _ rfl rfl ?_;simp only [nmz];refine qE _ _ _ _ _ _ rfl rfl rfl fo_152_0 ?_;simp only [nmz]
        refine wpXd (v := (.int .i64 kk)) 3 b8 0 hck underlying3 trivial ?_;refine qA _ rfl rfl ?_;simp only [nmz]
        refine qY _ _ _ _ _ _ _ _ rfl rfl rfl rfl rfl false (decide_eq_false hz2) ?_;simp only [nmz];refine qQ _ _ _ _ rfl rfl rfl ?_;simp only [nmz];refine qB ?_
        go_wp2
        go_meet
        case rel => exact ⟨rfl, rfl⟩
    · have hz : ¬ (kk : Int) > 0 := by omega
      obtain rfl : was = false := by simpa [hk0] using hw
      clear hw;refine wpR [3, 3, 3, 1, 3, 3, 3, 3, 0, 3, 3, 3] (by rfl) (by rfl) ?_;simp only [zz2];refine qA _ rfl rfl ?_;simp only [nmz];refine qA _ rfl rfl ?_
      simp only [nmz];refine qE _ _ _ _ _ _ rfl rfl rfl fo_152_0 ?_;simp only [nmz];refine wpXd (v := (.int .i64 kk)) 3 b8 0 hck underlying3 trivial ?_;try simp only [nmz]
      refine qY _ _ _ _ _ _ _ _ rfl rfl rfl rfl rfl false (decide_eq_false hz) ?_;simp only [nmz];refine qQ _ _ _ _ rfl rfl rfl ?_;simp only [nmz]
      refine qA _ rfl rfl ?_;simp only [nmz];refine qV rfl ?_;simp only [nmz];refine zK rfl ?_;simp only [nmz];refine qV rfl ?_;simp only [nmz]
      refine qV rfl ?_;simp only [nmz];refine qQ _ _ _ _ rfl rfl rfl ?_;simp only [nmz];refine qB ?_;go_wp2
      go_meet
      case rel => exact ⟨rfl, rfl⟩
  case rest =>
   obtain ⟨rfl, hw⟩ := hcut;obtain rfl := hw.symm;clear HW hck HLK
   cases was with
   | true =>
    have HF : Hid (ReachR w mb (yA (cont bl) (f + 1) di depth all) (.returned (.tuple #[])) w3) := Lib.hid ⟨rfl, by unfold yA; rw [if_pos HWAS.out]; exact HM1.out, HM03.out.mono (fun _ _ h => h.elim)⟩
    go_wp2
    go_end0
    exact HF.out
   | false =>
    have HRE : Hid (yA (cont bl) (f + 1) di depth all = if 4 < depth then putL di depth all else match descsOf (cont bl) di with | none => putL di depth all | some ds => foldM (cont bl) f depth ds (putL di depth all)) := Lib.hid (by
     unfold yA;rw [if_neg (by rw [HWAS.out]; simp)]
     rfl)
    have hb1c := HB1.out;go_upto_region 3 with (fail);refine wpR [3, 1, 3, 0, 1] (by rfl) (by rfl) ?_;simp only [zz2];refine qA _ rfl rfl ?_;simp only [nmz]
    refine wpXA 24 b5 0 (qC di) (CellsAt.whole hb1c) underlying24 32 hic trivial ?_;refine qA _ rfl rfl ?_;simp only [nmz]
    refine qS rfl (fun w' hS => qT 152 [(0, _)] [(0, .int .i64 depth)] _ (by rfl) (by rfl) (built_cmark depth)) ?_;simp only [nmz];refine wpDo rfl ?_
    refine wp_putL keyT_id HM1.out di hid 144 152 underlying144 _ _ _ (linkV depth) (by rfl) (by rfl) (by rfl) (by rfl) (fun w4 hM4 hm4 => ?_);rw [marks_put] at hM4
    have HM4 := Lib.hid hM4;try simp only [nmz]
    refine qB ?_;have hm04 : Mod (fun k => k = mb) w w4 := (HM03.out.mono (fun _ _ h => h.elim)).trans hm4 (fun _ _ h => h);have H4 := Lib.hid (H.out.keepM hmb hm04)
    have hb14 := hm4.objB (b := b5) (by omega) hb1c;have HM04 := Lib.hid hm04;obtain ⟨all1, hall1⟩ : ∃ q, putL di depth all = q := ⟨_, rfl⟩;rw [hall1] at HM4 HRE
    have hget := bGet_any H4.out di hid;clear hM4 hm4 hm04 hb1c hall1;obtain ⟨r, hr⟩ : ∃ q, getL di (cont bl) = q := ⟨_, rfl⟩;rw [hr] at hget;have HGR := Lib.hid hr;clear hr
    cases r with
    | none =>
     have HF0 : Hid (yA (cont bl) (f + 1) di depth all = all1) := Lib.hid (by
      rw [HRE.out];have : descsOf (cont bl) di = none := by unfold descsOf; rw [HGR.out]
      rw [this]
      split <;> rfl)
     go_upto_region 4 with (fail);refine wpR [3, 1, 1, 3, 3, 3, 3, 3] (by rfl) (by rfl) ?_;simp only [zz2];refine qA _ rfl rfl ?_;simp only [nmz]
     refine wpXA 24 b5 0 (qC di) (CellsAt.whole hb14) underlying24 32 hic trivial ?_;try simp only [nmz]
     refine wpDo rfl ?_;refine qG (qH 33 [.tmp 41, .tmp 42] _ rfl _ func33 rfl (by kernel_rfl) [.pointer (some ⟨bs, 0, none⟩), .agg (qC di)] rfl _) (hget) ?_
     rintro e w5 ⟨hm5, rfl⟩;refine ⟨_, rfl, ?_⟩;refine qA _ rfl rfl ?_;simp only [nmz]
     refine qJ (v := ?_) rfl (fun w' => ?_) ?_; rotate_left; · (go_simp; try with_reducible rfl)
     simp only [nmz];refine qJ (v := ?_) rfl (fun w' => ?_) ?_; rotate_left; · (go_simp; try with_reducible rfl)
     simp only [nmz];refine qD _ rfl rfl ?_;simp only [nmz];refine qD _ rfl rfl ?_;simp only [nmz];refine qB ?_;go_upto_region 5 with (fail)
     refine wpR [3, 1, 3, 3, 3, 1, 1, 1, 1] (by rfl) (by rfl) ?_;simp only [zz2];refine qA _ rfl rfl ?_;simp only [nmz];refine wpDo rfl ?_
     refine qG (qH 158 [.tmp 47] _ rfl _ func158 rfl (by kernel_rfl) [.slice none 0 0] rfl _) (mDecode_any (b := []) (Sl.nil true w5 (fun _ => True) 1 ByteC) (by simp)) ?_
     rintro e w6 ⟨hm6, cs, er, at_, rfl, her, hmc⟩;have hcs := hmc.size;have hone := hmc.one;refine ⟨_, rfl, ?_⟩;refine qA _ rfl rfl ?_;simp only [nmz]
     refine qJ (v := ?_) rfl (fun w' => ?_) ?_; rotate_left; · (go_simp; try with_reducible rfl)
     simp only [nmz];refine qJ (v := ?_) rfl (fun w' => ?_) ?_; rotate_left; · (go_simp; try with_reducible rfl)
     simp only [nmz];refine wpDo rfl ?_;refine qU 163 _ (by rfl) manZ_i (fun w7 hB7 hm7 hs7 => ?_)
     replace hB7 : w7.heap[w6.heap.size]? = some (.cells (zF 0 [] descZ (.slice none 0 0) (.slice none 0 0)) 163 (0, 0)) := hB7;try simp only [nmz]
     refine wpDo rfl ?_;refine qU 255 _ (by rfl) fltZ (fun w8 hB8 hm8 hs8 => ?_)
     replace hB8 : w8.heap[w7.heap.size]? = some (.cells #[.int .i64 0, .int .i64 0] 255 (0, 0)) := hB8;try simp only [nmz]
     refine wpDo rfl ?_
     refine qM 163 _ _ w6.heap.size 0 cs (by rfl) (by rfl) (by rfl) hone 39 (by kernel_rfl) hcs _ _ (hm8.obj id hB7) (by rw [hcs]; exact Nat.le_of_eq (zQ xQ).symm) (fun w9 hB9 hm9 => ?_)
     have hB8' := hm9.objB (by omega) hB8;try simp only [nmz]
     refine wpDo rfl ?_
     refine qM 255 _ _ w7.heap.size 0 #[.int .i64 er, .int .i64 at_] (by rfl) (by rfl) (by rfl) (by simp [Value.oneCell']) 2 (by kernel_rfl) rfl _ _ hB8' (by simp) (fun wa hBa hma => ?_)
     try simp only [nmz]
     refine qB ?_
     have hm4a : Mod NoB w4 wa := ((((hm5.trans0 hm6).trans0 hm7).trans0 hm8).transB hm9 (by have := hm5.size; have := hm6.size; omega)).transB hma (by have := hm5.size; have := hm6.size; have := hm7.size; omega)
     have HF : Hid (ReachR w mb (yA (cont bl) (f + 1) di depth all) (.returned (.tuple #[])) wa) := Lib.hid ⟨rfl, by rw [HF0.out]; exact HM4.out.keep0 hm4a, HM04.out.trans hm4a (fun _ _ h => h.elim)⟩
     clear hm5 hm6 hm7 hm8 hm9 hma hm4a hB7 hB8 hB8' hB9 hBa hmc hb14;go_upto_region 6 with (fail);refine wpR [3, 3, 3, 3, 0, 3, 3, 3, 3, 3, 3] (by rfl) (by rfl) ?_;simp only [zz2]
     refine qA _ rfl rfl ?_;simp only [nmz];refine xL _ _ false (by rfl) (by rfl) (by rfl) ?_;simp only [nmz];refine qA _ rfl rfl ?_;simp only [nmz]
     refine qV rfl ?_;simp only [nmz];refine zK rfl ?_;simp only [nmz];refine qV rfl ?_;simp only [nmz];refine qQ _ _ _ _ rfl rfl rfl ?_;simp only [nmz]
     refine qA _ rfl rfl ?_;simp only [nmz];refine qV rfl ?_;simp only [nmz];refine qV rfl ?_;simp only [nmz];refine qQ _ _ _ _ rfl rfl rfl ?_
     simp only [nmz];refine qB ?_;go_wp2
     go_end0
     exact HF.out
    | some m =>
     have hml : m.length ≤ 4096 := by
      have h1 := HGR.out;rw [getB] at h1
      cases hf : findB di bl with
      | none => rw [hf] at h1; cases h1
      | some b =>
       rw [hf] at h1;simp only [Option.map_some, Option.some.injEq] at h1;rw [← h1];exact H.out.sz b (findB_some hf).1
     have HDO : Hid (descsOf (cont bl) di = (decL m).map jG) := Lib.hid (by unfold descsOf; rw [HGR.out]);go_upto_region 4 with (fail)
     refine wpR [3, 1, 1, 3, 3, 3, 3, 3] (by rfl) (by rfl) ?_;simp only [zz2];refine qA _ rfl rfl ?_;simp only [nmz]
     refine wpXA 24 b5 0 (qC di) (CellsAt.whole hb14) underlying24 32 hic trivial ?_;try simp only [nmz]
     refine wpDo rfl ?_;refine qG (qH 33 [.tmp 41, .tmp 42] _ rfl _ func33 rfl (by kernel_rfl) [.pointer (some ⟨bs, 0, none⟩), .agg (qC di)] rfl _) (hget) ?_
     rintro e w5 ⟨hm5, bv, rfl, hbv⟩;refine ⟨_, rfl, ?_⟩;refine qA _ rfl rfl ?_;simp only [nmz]
     refine qJ (v := ?_) rfl (fun w' => ?_) ?_; rotate_left; · (go_simp; try with_reducible rfl)
     simp only [nmz];refine qJ (v := ?_) rfl (fun w' => ?_) ?_; rotate_left; · (go_simp; try with_reducible rfl)
     simp only [nmz];refine qD _ rfl rfl ?_;simp only [nmz];refine qD _ rfl rfl ?_;simp only [nmz];refine qB ?_;go_upto_region 5 with (fail)
     refine wpR [3, 1, 3, 3, 3, 1, 1, 1, 1] (by rfl) (by rfl) ?_;simp only [zz2];refine qA _ rfl rfl ?_;simp only [nmz];refine wpDo rfl ?_
     refine qG (qH 158 [.tmp 47] _ rfl _ func158 rfl (by kernel_rfl) [bv] rfl _) (mDecode_any (Bts.sl hbv) hml) ?_;rintro e w6 ⟨hm6, cs, er, at_, rfl, her, hmc⟩
     have hcs := hmc.size;have hone := hmc.one;refine ⟨_, rfl, ?_⟩;refine qA _ rfl rfl ?_;simp only [nmz]
     refine qJ (v := ?_) rfl (fun w' => ?_) ?_; rotate_left; · (go_simp; try with_reducible rfl)
     simp only [nmz];refine qJ (v := ?_) rfl (fun w' => ?_) ?_; rotate_left; · (go_simp; try with_reducible rfl)
     simp only [nmz];refine wpDo rfl ?_;refine qU 163 _ (by rfl) manZ_i (fun w7 hB7 hm7 hs7 => ?_)
     replace hB7 : w7.heap[w6.heap.size]? = some (.cells (zF 0 [] descZ (.slice none 0 0) (.slice none 0 0)) 163 (0, 0)) := hB7;try simp only [nmz]
     refine wpDo rfl ?_;refine qU 255 _ (by rfl) fltZ (fun w8 hB8 hm8 hs8 => ?_)
     replace hB8 : w8.heap[w7.heap.size]? = some (.cells #[.int .i64 0, .int .i64 0] 255 (0, 0)) := hB8;try simp only [nmz]
     refine wpDo rfl ?_
     refine qM 163 _ _ w6.heap.size 0 cs (by rfl) (by rfl) (by rfl) hone 39 (by kernel_rfl) hcs _ _ (hm8.obj id hB7) (by rw [hcs]; exact Nat.le_of_eq (zQ xQ).symm) (fun w9 hB9 hm9 => ?_)
     rw [qK (by rw [hcs]; exact (zQ xQ).symm)] at hB9;have hB8' := hm9.objB (by omega) hB8;try simp only [nmz]
     refine wpDo rfl ?_
     refine qM 255 _ _ w7.heap.size 0 #[.int .i64 er, .int .i64 at_] (by rfl) (by rfl) (by rfl) (by simp [Value.oneCell']) 2 (by kernel_rfl) rfl _ _ hB8' (by simp) (fun wa hBa hma => ?_)
     rw [qK (by rfl)] at hBa;have hB9' := hma.objB (by omega) hB9;try simp only [nmz]
     refine qB ?_;have h56 := hm5.size;have h66 := hm6.size;have h67 := hm7.size
     have hm6a : Mod NoB w6 wa := ((hm7.trans0 hm8).transB hm9 (Nat.le_refl _)).transB hma (by omega);have hm4a : Mod NoB w4 wa := (hm5.trans0 hm6).trans0 hm6a
     have HMC := Lib.hid (hmc.keep0 hm6a);have hce : wa.cell? ⟨w7.heap.size, 0, none⟩ = some (.int .i64 er) := by simp [World.cell?, hBa]
     have HER := Lib.hid her;have HMa := Lib.hid (HM4.out.keep0 hm4a);have H4a := Lib.hid (H4.out.keep0 hm4a)
     have HM0a : Hid (Mod (fun k => k = mb) w wa) := Lib.hid (HM04.out.trans hm4a (fun _ _ h => h.elim));generalize hb13 : w7.heap.size = b13 at *
     generalize hb12 : w6.heap.size = b12 at *;clear hm5 hm6 hm7 hm8 hm9 hma hm4a hm6a hB7 hB8 hB8' hB9 hBa hmc hb14 her hbv
     by_cases hez : er = 0
     rotate_left
     · have hF0 : yA (cont bl) (f + 1) di depth all = all1 := by
        rw [HRE.out, HDO.out]
        have : decL m = none := by
         cases hd : decL m with
         | none => rfl
         | some q => exact absurd (HER.out.2 (by rw [hd]; rfl)) hez
        rw [this]
        simp
       have HF : Hid (ReachR w mb (yA (cont bl) (f + 1) di depth all) (.returned (.tuple #[])) wa) := Lib.hid ⟨rfl, by rw [hF0]; exact HMa.out, HM0a.out⟩;clear hF0
       go_upto_region 6 with (fail);refine wpR [3, 3, 3, 3, 1, 3, 3, 3, 3, 3, 3] (by rfl) (by rfl) ?_;simp only [zz2];refine qA _ rfl rfl ?_;simp only [nmz]
       refine xL _ _ true (by rfl) (by rfl) (by rfl) ?_;simp only [nmz];refine qA _ rfl rfl ?_;simp only [nmz];refine qE _ _ _ _ _ _ rfl rfl rfl fo_255_0 ?_
       simp only [nmz];refine wpXd (v := (.int .i64 er)) 33 b13 0 hce underlying33 trivial ?_;try simp only [nmz]
       refine qY _ _ _ _ _ _ _ _ rfl rfl rfl rfl rfl true (decide_eq_true hez) ?_;simp only [nmz];refine qQ _ _ _ _ rfl rfl rfl ?_;simp only [nmz]
       refine qA _ rfl rfl ?_;simp only [nmz];refine qV rfl ?_;simp only [nmz];refine qV rfl ?_;simp only [nmz];refine qQ _ _ _ _ rfl rfl rfl ?_
       simp only [nmz];refine qB ?_;go_wp2
       go_end0
       exact HF.out
     · subst hez
       obtain ⟨M, hM⟩ : ∃ M, decL m = some M := Option.isSome_iff_exists.1 (HER.out.1 rfl);have hmc := HMC.out;rw [hM] at hmc;replace hmc : ManC w5.heap.size wa cs M := hmc
       by_cases hd4 : 4 < depth
       · have hz4 : (depth : Int) > 4 := by omega
         have HF : Hid (ReachR w mb (yA (cont bl) (f + 1) di depth all) (.returned (.tuple #[])) wa) := Lib.hid ⟨rfl, by rw [HRE.out, if_pos hd4]; exact HMa.out, HM0a.out⟩
         clear hmc;go_upto_region 6 with (fail);refine wpR [3, 3, 3, 3, 1, 3, 3, 3, 3, 3, 3] (by rfl) (by rfl) ?_;simp only [zz2];refine qA _ rfl rfl ?_;simp only [nmz]
         refine xL _ _ true (by rfl) (by rfl) (by rfl) ?_;simp only [nmz];refine qA _ rfl rfl ?_;simp only [nmz];refine qE _ _ _ _ _ _ rfl rfl rfl fo_255_0 ?_
         simp only [nmz];refine wpXd (v := (.int .i64 0)) 33 b13 0 hce underlying33 trivial ?_;try simp only [nmz]
         refine qY _ _ _ _ _ _ _ _ rfl rfl rfl rfl rfl false (by decide) ?_;simp only [nmz];refine qQ _ _ _ _ rfl rfl rfl ?_;simp only [nmz]
         refine qA _ rfl rfl ?_;simp only [nmz];refine qA _ rfl rfl ?_;simp only [nmz];refine qY _ _ _ _ _ _ _ _ rfl rfl rfl rfl rfl true (decide_eq_true hz4) ?_
         simp only [nmz];refine qQ _ _ _ _ rfl rfl rfl ?_;simp only [nmz];refine qB ?_;go_wp2
         go_end0
         exact HF.out
       · have hz4 : ¬ (depth : Int) > 4 := by omega
         have hlens := decL_len hM;have hids := decL_ids hM
         have hR0 : yA (cont bl) (f + 1) di depth all = foldM (cont bl) f depth (jG M) all1 := by
          rw [HRE.out, if_neg hd4, HDO.out, hM]
          rfl
         have HR0 := Lib.hid hR0;have hdc := mDescs_any hmc ⟨hlens.1, hlens.2.1⟩
         have hdl : (jG M).length ≤ 33 := by
          unfold jG;simp only [List.length_append]
          split <;> simp <;> omega
         have HIDS := Lib.hid hids;obtain ⟨ds, hds⟩ : ∃ ds, jG M = ds := ⟨_, rfl⟩;rw [hds] at hdc HR0 HIDS hdl;clear hR0 hlens hids hmc HMC hM hds HRE HDO HER
         go_upto_region 6 with (fail);refine wpR [3, 3, 3, 3, 1, 3, 3, 3, 3, 3, 3] (by rfl) (by rfl) ?_;simp only [zz2];refine qA _ rfl rfl ?_;simp only [nmz]
         refine xL _ _ true (by rfl) (by rfl) (by rfl) ?_;simp only [nmz];refine qA _ rfl rfl ?_;simp only [nmz];refine qE _ _ _ _ _ _ rfl rfl rfl fo_255_0 ?_
         simp only [nmz];refine wpXd (v := (.int .i64 0)) 33 b13 0 hce underlying33 trivial ?_;try simp only [nmz]
         refine qY _ _ _ _ _ _ _ _ rfl rfl rfl rfl rfl false (by decide) ?_;simp only [nmz];refine qQ _ _ _ _ rfl rfl rfl ?_;simp only [nmz]
         refine qA _ rfl rfl ?_;simp only [nmz];refine qA _ rfl rfl ?_;simp only [nmz]
         refine qY _ _ _ _ _ _ _ _ rfl rfl rfl rfl rfl false (decide_eq_false hz4) ?_;simp only [nmz];refine qQ _ _ _ _ rfl rfl rfl ?_;simp only [nmz]
         refine qB ?_;clear hce;go_upto_region 7 with (fail);refine wpR [1, 1, 3, 3] (by rfl) (by rfl) ?_;simp only [zz2]
         refine wpXA 163 b12 0 cs (CellsAt.whole hB9') underlying163 39 hcs trivial ?_;try simp only [nmz]
         refine wpDo rfl ?_;refine qG (qH 159 [.tmp 62] _ rfl _ func159 rfl (by kernel_rfl) [.agg cs] rfl _) hdc ?_;rintro e wb ⟨hmb', dv, rfl, hgd⟩
         have HGD := Lib.hid hgd;obtain ⟨dad, dcap, rfl⟩ := hgd.slice;clear hgd;refine ⟨_, rfl, ?_⟩;try simp only [nmz]
         refine zP _ _ _ _ _ rfl rfl rfl (by kernel_rfl) ?_;simp only [nmz];refine qA _ rfl rfl ?_;simp only [nmz];refine qB ?_
         have HRL : Hid (ReachRel wb mb (cont bl) f depth ds all1 (.int .i64 (0 : Nat)) wb) := Lib.hid ⟨0, Nat.zero_le _, rfl, HMa.out.keep0 hmb', Mod.refl _ _⟩
         have H4b := Lib.hid (H4a.out.keep0 hmb');have HM0b : Hid (Mod (fun k => k = mb) w wb) := Lib.hid (HM0a.out.trans hmb' (fun _ _ h => h.elim))
         have hmbb : mb < wa.heap.size := HMa.out.lt;have hwab : wa.heap.size ≤ wb.heap.size := hmb'.size
         have hgl : ∀ q, (Value.slice dad ds.length dcap).ownBlock = some q → q ≠ mb := fun q hq => by
          have := (HGD.out.lt hq).1;omega
         clear hmb' hB9' hdc;go_wp2
         go_loopw [65] (ReachRel wb mb (cont bl) f depth ds all1) (fun i _ => ds.length - (intOf i).toNat)
         case atStart => exact HRL.out
         case round =>
          rename World => wr
          obtain ⟨k, hk, rfl, hMr, hmr⟩ := hrel;have HMR := Lib.hid hMr;have HmR := Lib.hid hmr;have hmbr : mb < wr.heap.size := hMr.lt
          by_cases hlt : k < ds.length
          · have hzk : (k : Int) < (ds.length : Nat) := by omega
            have hgr : GatD wa.heap.size wr (.slice dad ds.length dcap) ds := HGD.out.keep hmr (fun q hq e => hgl q hq e)
            obtain ⟨g, cap', cur, hq, hgc, hcc, hsz, -, -⟩ := hgr.at descE_len k hlt
            cases hq
            have hfs := foldM_succ (cont bl) f depth ds all1 k hlt;have hdid := HIDS.out ds[k] (List.getElem_mem _);generalize ds[k] = d at *;rw [descE_eq hdid] at hcc
            have hdsz : (zI d).size = 35 := xC hdid;have hdic : (qC d.id).size = 32 := by rw [qI, hdid]
            have hdone : ∀ c ∈ zI d, c.oneCell' = true := descRow_one _ _ _ _;have HFS := Lib.hid hfs;clear hfs hMr hmr hgr;go_upto_region 9 with (fail)
            refine wpR [3, 1, 1, 1] (by rfl) (by rfl) ?_;simp only [zz2];refine qX _ _ _ _ _ _ _ _ _ rfl rfl rfl rfl underlying161 (n := 35) (by kernel_rfl) hlt ?_
            simp only [nmz];refine wpXA 46 g (k * 35) (zI d) hcc underlying46 35 hdsz trivial ?_;try simp only [nmz]
            refine wpDo rfl ?_;refine qU 46 _ (by rfl) descZ_i (fun wc hBc hmc hsc => ?_)
            replace hBc : wc.heap[wr.heap.size]? = some (.cells (zI descZ) 46 (0, 0)) := hBc;try simp only [nmz]
            refine wpDo rfl ?_
            refine qM 46 _ _ wr.heap.size 0 (zI d) (by rfl) (by rfl) (by rfl) hdone 35 (by kernel_rfl) hdsz _ _ hBc (by rw [hdsz]; exact Nat.le_of_eq (xC xQ).symm) (fun wd' hBd hmd => ?_)
            rw [qK (by rw [hdsz]; exact (xC xQ).symm)] at hBd;try simp only [nmz]
            refine qB ?_;have hmrd : Mod NoB wr wd' := hmc.transB hmd (Nat.le_refl _)
            have hcm : wd'.cell? ⟨wr.heap.size, 0, none⟩ = some (.int .i64 d.media) := by rw [cell_of_row _ _ _ _ _ _ hBd]; rfl
            have hci : CellsAt wd' wr.heap.size 1 (qC d.id) := CellsAt.of_obj hBd descRow_at1;replace HMR := Lib.hid (HMR.out.keep0 hmrd)
            replace HmR : Hid (Mod (fun q => q = mb) wb wd') := Lib.hid (HmR.out.trans hmrd (fun _ _ h => h.elim));have Hd := Lib.hid (H4b.out.keepM hmb HmR.out)
            have hmbd : mb < wd'.heap.size := HMR.out.lt;generalize hb15 : wr.heap.size = b15 at *;clear hmc hmd hmrd hBc hBd hcc hgc hsz;go_upto_region 10 with (fail)
            go_cut [76] (fun s wx => s = .bool (jA d) ∧ wx = wd')
            case first =>
             by_cases h3 : d.media = 3
             · have hz3 : (d.media : Int) = 3 := by omega
               have ht : jA d = true := by simp [jA, h3]
               refine wpR [3, 1, 3, 3, 3, 0, 3, 3] (by rfl) (by rfl) ?_;simp only [zz2];refine qE _ _ _ _ _ _ rfl rfl rfl fo_46_0 ?_;simp only [nmz]
               refine wpXd (v := (.int .i64 d.media)) 3 b15 0 hcm underlying3 trivial ?_;try simp only [nmz]
               refine qY _ _ _ _ _ _ _ _ rfl rfl rfl rfl rfl true (decide_eq_true hz3) ?_;simp only [nmz];refine qA _ rfl rfl ?_;simp only [nmz];refine qV rfl ?_
               simp only [nmz];refine zK rfl ?_;simp only [nmz];refine qV rfl ?_;simp only [nmz];refine qQ _ _ _ _ rfl rfl rfl ?_;simp only [nmz]
               refine qB ?_;go_wp2
               go_meet
               case rel => exact ⟨by rw [ht], rfl⟩
             · have hz3 : ¬ (d.media : Int) = 3 := by omega
               by_cases h4 : d.media = 4
               · have hz4' : (d.media : Int) = 4 := by omega
                 have ht : jA d = true := by simp [jA, h4]
                 refine wpR [3, 1, 3, 3, 3, 1, 3, 3] (by rfl) (by rfl) ?_;simp only [zz2];refine qE _ _ _ _ _ _ rfl rfl rfl fo_46_0 ?_;simp only [nmz]
                 refine wpXd (v := (.int .i64 d.media)) 3 b15 0 hcm underlying3 trivial ?_;try simp only [nmz]
                 refine qY _ _ _ _ _ _ _ _ rfl rfl rfl rfl rfl false (decide_eq_false hz3) ?_;simp only [nmz];refine qA _ rfl rfl ?_;simp only [nmz]
                 refine qE _ _ _ _ _ _ rfl rfl rfl fo_46_0 ?_;simp only [nmz];refine wpXd (v := (.int .i64 d.media)) 3 b15 0 hcm underlying3 trivial ?_;try simp only [nmz]
                 refine qY _ _ _ _ _ _ _ _ rfl rfl rfl rfl rfl true (decide_eq_true hz4') ?_;simp only [nmz];refine qQ _ _ _ _ rfl rfl rfl ?_;simp only [nmz]
                 refine qB ?_;go_wp2
                 go_meet
                 case rel => exact ⟨by rw [ht], rfl⟩
               · have hz4' : ¬ (d.media : Int) = 4 := by omega
                 have ht : jA d = false := by simp [jA, h3, h4]
                 refine wpR [3, 1, 3, 3, 3, 1, 3, 3] (by rfl) (by rfl) ?_;simp only [zz2];refine qE _ _ _ _ _ _ rfl rfl rfl fo_46_0 ?_;simp only [nmz]
                 refine wpXd (v := (.int .i64 d.media)) 3 b15 0 hcm underlying3 trivial ?_;try simp only [nmz]
                 refine qY _ _ _ _ _ _ _ _ rfl rfl rfl rfl rfl false (decide_eq_false hz3) ?_;simp only [nmz];refine qA _ rfl rfl ?_;simp only [nmz]
                 refine qE _ _ _ _ _ _ rfl rfl rfl fo_46_0 ?_;simp only [nmz];refine wpXd (v := (.int .i64 d.media)) 3 b15 0 hcm underlying3 trivial ?_;try simp only [nmz]
                 refine qY _ _ _ _ _ _ _ _ rfl rfl rfl rfl rfl false (decide_eq_false hz4') ?_;simp only [nmz];refine qQ _ _ _ _ rfl rfl rfl ?_;simp only [nmz]
                 refine qB ?_;go_wp2
                 go_meet
                 case rel => exact ⟨by rw [ht], rfl⟩
            case rest =>
             obtain ⟨rfl, hw⟩ := hcut;obtain rfl := hw.symm;clear hcm;obtain ⟨tr, htr⟩ : ∃ q, jA d = q := ⟨_, rfl⟩;rw [htr] at HFS ⊢;clear htr
             cases tr with
             | true =>
              have hrec := IH.out d.id (depth + 1) _ _ hdid (by omega) (by omega) (by omega) Hd.out HMR.out;go_upto_region 11 with (fail)
              refine wpR [3, 3, 1, 3, 3, 3, 1] (by rfl) (by rfl) ?_;simp only [zz2];refine qA _ rfl rfl ?_;simp only [nmz]
              refine qE _ _ _ _ _ _ rfl rfl rfl fo_46_1 ?_;simp only [nmz];refine wpXA 24 b15 1 (qC d.id) hci underlying24 32 hdic trivial ?_
              refine qA _ rfl rfl ?_;simp only [nmz];refine zT _ _ _ _ (depth : Int) 1 ((depth + 1 : Nat) : Int) rfl rfl rfl rfl (by omega) (by omega) (by omega) ?_
              simp only [nmz];refine qA _ rfl rfl ?_;simp only [nmz];refine wpDo rfl ?_
              refine qG (qH 87 [.tmp 77, .tmp 79, .tmp 81, .tmp 82] _ rfl _ func87 rfl (by kernel_rfl) [.pointer (some ⟨bs, 0, none⟩), .agg (qC d.id), .int .i64 ((depth + 1 : Nat) : Int), .map (some mb)] rfl _) (hrec) ?_
              rintro e we ⟨rfl, hMe, hme⟩
              have HR : Hid (ReachRel wb mb (cont bl) f depth ds all1 (.int .i64 ((k + 1 : Nat) : Int)) we) := Lib.hid ⟨k + 1, by omega, rfl, by rw [HFS.out]; exact hMe, HmR.out.trans hme (fun _ _ h => h)⟩
              refine ⟨_, rfl, ?_⟩;try simp only [nmz]
              refine qB ?_;clear hMe hme hci hrec;go_wp2
              go_roundw
              case rel => exact HR.out
              case measure => simp [intOf]; omega
             | false =>
              have HLK := Lib.hid (mark_look d.id (foldM (cont bl) f depth (ds.take k) all1))
              obtain ⟨kk2, hkk2⟩ : ∃ q, (getL d.id (foldM (cont bl) f depth (ds.take k) all1)).getD 0 = q := ⟨_, rfl⟩
              obtain ⟨is2, his2⟩ : ∃ q, (getL d.id (foldM (cont bl) f depth (ds.take k) all1)).isSome = q := ⟨_, rfl⟩;rw [hkk2, his2] at HLK;have HIS2 := Lib.hid his2
              clear hkk2 his2;go_upto_region 12 with (fail);refine wpR [3, 3, 1, 1, 3, 3, 3, 1, 1, 3] (by rfl) (by rfl) ?_;simp only [zz2];refine qA _ rfl rfl ?_
              simp only [nmz];refine qE _ _ _ _ _ _ rfl rfl rfl fo_46_1 ?_;simp only [nmz];refine wpXA 24 b15 1 (qC d.id) hci underlying24 32 hdic trivial ?_
              try simp only [nmz]
              refine wpX rfl (yG keyT_id HMR.out d.id hdid 144 152 underlying144 (linkV 0) cmarkZ _ _ true (by rfl) (by rfl) (by rfl) _ HLK.out) trivial ?_
              refine qA _ rfl rfl ?_;simp only [nmz];refine qJ (v := ?_) rfl (fun w' => ?_) ?_; rotate_left; · (go_simp; try with_reducible rfl)
              simp only [nmz];refine qJ (v := ?_) rfl (fun w' => ?_) ?_; rotate_left; · (go_simp; try with_reducible rfl)
              simp only [nmz];refine wpDo rfl ?_;refine qU 152 _ (by rfl) cmarkZ (fun we hBe hme hse => ?_)
              replace hBe : we.heap[wd'.heap.size]? = some (.cells #[.int .i64 0] 152 (0, 0)) := hBe;try simp only [nmz]
              refine wpDo rfl ?_
              refine qM 152 _ _ wd'.heap.size 0 #[.int .i64 kk2] (by rfl) (by rfl) (by rfl) (linkV_one _) 1 (by kernel_rfl) rfl _ _ hBe (by simp) (fun wf hBf hmf => ?_)
              refine qD _ rfl rfl ?_;simp only [nmz];refine qB ?_;have hmdf : Mod NoB wd' wf := hme.transB hmf (Nat.le_refl _);have hcf := hci.keep hmdf id
              have HMf := Lib.hid (HMR.out.keep0 hmdf);have HmF : Hid (Mod (fun q => q = mb) wb wf) := Lib.hid (HmR.out.trans hmdf (fun _ _ h => h.elim))
              clear hme hmf hmdf hBe hBf hse hci
              cases is2 with
              | true =>
               have HR : Hid (ReachRel wb mb (cont bl) f depth ds all1 (.int .i64 ((k + 1 : Nat) : Int)) wf) := Lib.hid ⟨k + 1, by omega, rfl, by rw [HFS.out]; simp only [Bool.false_eq_true, if_false]; unfold leafM; rw [if_pos HIS2.out]; exact HMf.out, HmF.out⟩
               clear hcf;go_wp2
               go_roundw
               case rel => exact HR.out
               case measure => simp [intOf]; omega
              | false =>
               go_upto_region 14 with (fail);refine wpR [3, 3, 1, 0, 1] (by rfl) (by rfl) ?_;simp only [zz2];refine qA _ rfl rfl ?_;simp only [nmz]
               refine qE _ _ _ _ _ _ rfl rfl rfl fo_46_1 ?_;simp only [nmz];refine wpXA 24 b15 1 (qC d.id) hcf underlying24 32 hdic trivial ?_;try simp only [nmz]
               refine qS rfl (fun w' hS => qT 152 [] [] _ (by rfl) (by rfl) built_cmark0) ?_;simp only [nmz];refine qW rfl (fun K hK => ?_)
               refine wp_putL keyT_id HMf.out d.id hdid 144 152 underlying144 _ _ _ (linkV ((0 : Nat) : Int)) (by rfl) (by rfl) (by rfl) (by rfl) (fun wg hMg hmg => ?_)
               rw [marks_put] at hMg
               have HR : Hid (ReachRel wb mb (cont bl) f depth ds all1 (.int .i64 ((k + 1 : Nat) : Int)) wg) := Lib.hid ⟨k + 1, by omega, rfl, by rw [HFS.out]; simp only [Bool.false_eq_true, if_false]; unfold leafM; rw [if_neg (by rw [HIS2.out]; simp)]; exact hMg, HmF.out.trans hmg (fun _ _ h => h)⟩
               refine hK _ _ trivial ?_;clear hMg hmg;clear hK K;try simp only [nmz]
               refine qB ?_;clear hcf;go_wp2
               go_roundw
               case rel => exact HR.out
               case measure => simp [intOf]; omega
          · have hzk : ¬ (k : Int) < (ds.length : Nat) := by omega
            obtain rfl : k = ds.length := by omega
            have HF : Hid (ReachR w mb (yA (cont bl) (f + 1) di depth all) (.returned (.tuple #[])) wr) := Lib.hid ⟨rfl, by
             rw [HR0.out];have h1 := HMR.out;rw [List.take_length] at h1
             exact h1, HM0b.out.trans HmR.out (fun _ _ h => h)⟩
            clear hMr hmr;go_wp2
            go_end0
            exact HF.out
end
def allDescs (c : BlobM) : List (List UInt8) := c.flatMap fun p => ((decL p.2).map jG).getD [] |>.map (·.id)
theorem allDescs_len (c : BlobM) : (allDescs c).length ≤ 33 * c.length := by
 induction c with
 | nil => simp [allDescs]
 | cons p c ih =>
  have h : (((decL p.2).map jG).getD []).length ≤ 33 := by
   cases hd : decL p.2 with
   | none => simp
   | some m =>
    have := decL_len hd;simp only [Option.map_some, Option.getD_some, jG, List.length_append]
    split <;> simp <;> omega
  simp only [allDescs, List.flatMap_cons, List.length_append, List.length_map, List.length_cons] at ih ⊢;omega
theorem descsOf_mem {c : BlobM} {id : List UInt8} {ds : List DescL} (h : descsOf c id = some ds) : ∀ d ∈ ds, d.id ∈ allDescs c := by
 intro d hd;unfold descsOf at h
 cases hg : getL id c with
 | none => rw [hg] at h; cases h
 | some b =>
  rw [hg] at h;refine List.mem_flatMap.2 ⟨(id, b), getL_mem hg, List.mem_map.2 ⟨d, ?_, rfl⟩⟩;have h' : (decL b).map jG = some ds := h
  show d ∈ ((decL b).map jG).getD []
  rw [h'];exact hd
theorem inR_mem {c : BlobM} : ∀ {f : Nat} {id : List UInt8} {depth : Nat} {x : List UInt8}, inR c f id depth x → x = id ∨ x ∈ allDescs c
 | 0, _, _, _, h => h.elim
 | f + 1, id, depth, x, h => by
  rcases h with rfl | ⟨_, ds, hds, d, hd, hx⟩
  · exact .inl rfl
  · right
    have hm := descsOf_mem hds d hd
    split at hx
    · rcases inR_mem hx with rfl | hx
      · exact hm
      · exact hx
    · rw [hx]; exact hm
theorem marks_len (c : BlobM) (roots : List (List UInt8)) (h : ((marksL c roots).map (·.1)).Nodup) : (marksL c roots).length ≤ roots.length + 33 * c.length := by
 have h1 := xW (l := (marksL c roots).map (·.1)) (m := roots ++ allDescs c) h (fun x hx => by
  have hs : (getL x (marksL c roots)).isSome = true := by
   cases hg : getL x (marksL c roots) with
   | none => exact absurd hx (getL_none.1 hg)
   | some k => rfl
  obtain ⟨r, hr, hi⟩ := (marks_keys c roots x).1 hs
  rcases inR_mem hi with rfl | hm
  · exact List.mem_append_left _ hr
  · exact List.mem_append_right _ hm)
 have h2 := allDescs_len c;simp only [List.length_map, List.length_append] at h1;omega
theorem marks_of {c : BlobM} {roots ids : List (List UInt8)} (hs : ids.Pairwise (fun a b => a < b)) (hp : ids.Perm ((marksL c roots).map (·.1))) : MarkOf c roots ids := by
 refine ⟨hs, fun x => ?_⟩;rw [hp.mem_iff, ← marks_keys c roots x]
 cases hg : getL x (marksL c roots) with
 | none => simp [getL_none.1 hg]
 | some k =>
  simp only [Option.isSome_some, iff_true];exact List.mem_map.2 ⟨_, getL_mem hg, rfl⟩
def MarkR (w : World) (c : BlobM) (roots : List (List UInt8)) : Ending → World → Prop := fun e w' => Mod NoB w w' ∧ ∃ v ids, e = .returned v ∧ GatI w.heap.size w' v ids ∧ MarkOf c roots ids ∧ ∀ x ∈ ids, x.length = 32
def MarkRel (w0 : World) (mb : Nat) (c : BlobM) (roots : List (List UInt8)) (i : Value) (w : World) : Prop := ∃ k : Nat, k ≤ roots.length ∧ i = .int .i64 k ∧ MarksAt w mb (marksL c (roots.take k)) ∧ Mod NoB w0 w
theorem marksL_succ (c : BlobM) (roots : List (List UInt8)) (k : Nat) (hk : k < roots.length) : marksL c (roots.take (k + 1)) = yA c 5 roots[k] 1 (marksL c (roots.take k)) := by
 unfold marksL;rw [List.take_succ_eq_append_getElem hk, List.foldl_append]
 rfl
section
variable {w : World} {bs ms wd : Nat} {room : Int} {bl : List Blb}
theorem clMark_any (h : StInv w bs ms wd room bl) {own : Bool} {G : Nat → Prop} {v : Value} {roots : List (List UInt8)} (hv : Sl own w G 32 IdC v roots) (hn : roots.length ≤ 10000) (hc : (cont bl).length ≤ 1000) : Calls prog 22 #[.pointer (some ⟨bs, 0, none⟩), v] w (MarkR w (cont bl) roots) := by
 have hmm := @run_makeMap prog;have H := hid h;have HV := hid hv;obtain ⟨ad, cap, rfl, -, hat⟩ := Sl.at hv;have HAT := hid hat;clear h hv hat;go_enter func22, ntmps22
 go_upto_region 1 with (fail);refine wpR [1, 3] (by rfl) (by rfl) ?_;simp only [zz2];refine qW rfl (fun K hK => ?_);unfold Oper.wp execOp
 simp only [Array.map_empty, Option.map_none, Sem.run_bind, hmm, Result.andThen_ok, Sem.run_pure];have hB := heap_alloc_new w (.map #[] 0);have hM := zD w (.map #[] 0)
 have hs : w.heap.size < (w.alloc (.map #[] 0)).heap.size := by simp
 generalize w.alloc (.map #[] 0) = w1 at hB hM hs ⊢;refine hK _ _ trivial ?_;clear hK K;refine qD _ rfl rfl ?_;simp only [nmz];refine qB ?_
 have hMA : MarksAt w1 w.heap.size (marksL (cont bl) []) := MapIs.made hB
 have HR0 : Hid (MarkRel w w.heap.size (cont bl) roots (.int .i64 (0 : Nat)) w1) := hid ⟨0, Nat.zero_le _, rfl, by rw [List.take_zero]; exact hMA, hM⟩
 generalize hmb : w.heap.size = mb at *;have hns : ¬ SFoot bs ms bl mb := fun e => by have := H.out.lt mb e; omega
 clear hmm hB hM hMA;go_wp2
 go_loopw [11] (MarkRel w mb (cont bl) roots) (fun i _ => roots.length - (intOf i).toNat)
 case atStart => exact HR0.out
 case round =>
  rename World => wr
  obtain ⟨k, hk, rfl, hMr, hm⟩ := hrel;have HMR := hid hMr
  by_cases hlt : k < roots.length
  · have hz : (k : Int) < (roots.length : Nat) := by omega
    obtain ⟨b, off, rfl, -, -, hcc⟩ := HAT.out k hlt;obtain ⟨cs, -, ⟨rfl, hx32⟩, hcA⟩ := hcc k hlt;have hms := marksL_succ (cont bl) roots k hlt;generalize roots[k] = x at *
    have hic : (qC x).size = 32 := by rw [qI, hx32]
    have hcr := hcA.keep hm id;have Hr := hid (H.out.keep0 hm);have HMS := hid hms;clear hms hcc hcA hMr;go_upto_region 4 with (fail);refine wpR [3, 1, 1, 1] (by rfl) (by rfl) ?_
    simp only [zz2];refine qX _ _ _ _ _ _ _ _ _ rfl rfl rfl rfl underlying25 (n := 32) (by kernel_rfl) hlt ?_;simp only [nmz]
    refine wpXA 24 b (off + k * 32) (qC x) hcr underlying24 32 hic trivial ?_;try simp only [nmz]
    refine wpDo rfl ?_;refine qU 24 _ (by rfl) idZ (fun w2 hB2 hm2 hs2 => ?_)
    replace hB2 : w2.heap[wr.heap.size]? = some (.cells (qC (List.replicate 32 0)) 24 (0, 0)) := hB2;try simp only [nmz]
    refine wpDo rfl ?_
    refine qM 24 _ _ wr.heap.size 0 (qC x) (by rfl) (by rfl) (by rfl) (qZ _) 32 (by kernel_rfl) hic _ _ hB2 (by rw [hic, qI]; simp) (fun w3 hB3 hm3 => ?_)
    rw [qK (by rw [hic, qI]; simp)] at hB3;try simp only [nmz]
    refine qB ?_;have hmr3 : Mod NoB wr w3 := hm2.transB hm3 (Nat.le_refl _);have hm03 := hm.trans0 hmr3;have H3 := hid (Hr.out.keep0 hmr3)
    have HM3 := hid (HMR.out.keep0 hmr3);have hrec := clReach_any hns 5 x 1 _ _ hx32 (by omega) (by omega) (by omega) H3.out HM3.out;have hno := clNone_any H3.out
    generalize hb7 : wr.heap.size = b7 at *;clear hm hm2 hm3 hmr3 hB2 hcr hs2;go_upto_region 7 with (go_at_call 86; refine hno.mono ?_; rintro _ w4 ⟨rfl, hw⟩; obtain rfl := hw.symm)
    refine wpR [3, 1, 3, 1] (by rfl) (by rfl) ?_;simp only [zz2];refine qA _ rfl rfl ?_;simp only [nmz]
    refine wpXA 24 b7 0 (qC x) (CellsAt.whole hB3) underlying24 32 hic trivial ?_;refine qA _ rfl rfl ?_;simp only [nmz];refine wpDo rfl ?_
    refine qG (qH 87 [.tmp 20, .tmp 21, .const (.int .i64 1), .tmp 22] _ rfl _ func87 rfl (by kernel_rfl) [.pointer (some ⟨bs, 0, none⟩), .agg (qC x), .int .i64 ((1 : Nat) : Int), .map (some mb)] rfl _) (hrec) ?_
    rintro e w5 ⟨rfl, hM5, hm5⟩
    have HR : Hid (MarkRel w mb (cont bl) roots (.int .i64 ((k + 1 : Nat) : Int)) w5) := hid ⟨k + 1, by omega, rfl, by rw [HMS.out]; exact hM5, hm03.transB hm5 (by omega)⟩
    refine ⟨_, rfl, ?_⟩;try simp only [nmz]
    refine qB ?_;clear hB3 hM5 hm5 hm03 hrec hno;go_wp2
    go_roundw
    case rel => exact HR.out
    case measure => simp [intOf]; omega
  · have hz : ¬ (k : Int) < (roots.length : Nat) := by omega
    obtain rfl : k = roots.length := by omega
    have hMf := HMR.out;rw [List.take_length] at hMf
    have hnd : ((marksL (cont bl) roots).map (·.1)).Nodup := by
     have := hMf.nd
     simpa [marksV, List.map_map, Function.comp_def] using this
    have hln := marks_len (cont bl) roots hnd;have hris := clRising_any hMf (by unfold marksV; rw [List.length_map]; omega)
    have hkm : (marksV (marksL (cont bl) roots)).map (·.1) = (marksL (cont bl) roots).map (·.1) := by simp [marksV, List.map_map, Function.comp_def]
    rw [hkm] at hris;clear hMr hMf hkm hnd hln;go_upto_region 9 with (fail);refine wpR [3, 1, 3] (by rfl) (by rfl) ?_;simp only [zz2];refine qA _ rfl rfl ?_;simp only [nmz]
    refine wpDo rfl ?_;refine qG (qH 84 [.tmp 25] _ rfl _ func84 rfl (by kernel_rfl) [.map (some mb)] rfl _) (hris) ?_
    rintro e w6 ⟨hm6, v6, ids, he6, hg6, hs6, hp6, hl6⟩;subst he6
    have HF : Hid (MarkR w (cont bl) roots (.returned v6) w6) := hid ⟨hm.trans0 hm6, v6, ids, rfl, hg6.base (by have := hm.size; omega), marks_of hs6 hp6, hl6⟩;refine ⟨_, rfl, ?_⟩
    refine qD _ rfl rfl ?_;simp only [nmz];refine qB ?_;clear hm hm6 hg6 hs6 hp6 hl6;go_wp2;go_ret;exact HF.out
end
theorem fo_115_6 : zB prog 115 6 = some 38 := by kernel_rfl
theorem eventZ : (prog.info? 115).bind (·.zero) = some (.agg (zO ⟨0, 0, [], 0, ⟨#[]⟩, ⟨#[]⟩, List.replicate 32 0, []⟩ (.slice none 0 0) (.slice none 0 0))) := by kernel_rfl
def refsL (l : List Evt) : List (List UInt8) := l.flatMap (·.refs)
theorem addsL_app (a b : List (List UInt8)) (all : List (List UInt8 × Value)) : addsL (a ++ b) all = addsL b (addsL a all) := by simp [addsL]
theorem refsL_snoc (l : List Evt) (k : Nat) (hk : k < l.length) : refsL (l.take (k + 1)) = refsL (l.take k) ++ l[k].refs := by
 have h := congrArg refsL (List.take_succ_eq_append_getElem hk);rw [h];unfold refsL;rw [List.flatMap_append, List.flatMap_cons, List.flatMap_nil, List.append_nil]
theorem Sl.memR {α : Type} {own : Bool} {w : World} {G : Nat → Prop} {sz : Nat} {R R' : Array Value → α → Prop} {v : Value} {l : List α} (h : Sl own w G sz R v l) (hR : ∀ cs x, x ∈ l → R cs x → R' cs x) : Sl own w G sz R' v l := by
 obtain ⟨a, cap, hv, hl, hc, h⟩ := h;refine ⟨a, cap, hv, hl, hc, fun hne => ?_⟩;obtain ⟨b, off, ha, hG, ho, hi⟩ := h hne;refine ⟨b, off, ha, hG, ho, fun i hlt => ?_⟩
 obtain ⟨cs, h1, h2, h3⟩ := hi i hlt;exact ⟨cs, h1, hR _ _ (List.getElem_mem hlt) h2, h3⟩
theorem slI {base : Nat} {w : World} {v : Value} {ids : List (List UInt8)} (h : GatI base w v ids) (h32 : ∀ x ∈ ids, x.length = 32) : Sl true w (fun q => base ≤ q ∧ q < w.heap.size ∧ v.ownBlock = some q) 32 IdC v ids :=
 Sl.memR (h.sl idE_len) fun cs x hx hcs => ⟨by rw [hcs, idE_eq (h32 x hx)], h32 x hx⟩
def MarkedOf (c : BlobM) (roots : List (List UInt8)) (l : List Evt) (out : List (List UInt8)) : Prop := out.Pairwise (fun a b => a < b) ∧ ∀ x, x ∈ out ↔ (∃ r ∈ roots, inR c 5 r 1 x) ∨ x ∈ refsL l
def MarksR (w : World) (c : BlobM) (roots : List (List UInt8)) (l : List Evt) : Ending → World → Prop := fun e w' => Mod NoB w w' ∧ ∃ v out, e = .returned v ∧ GatI w.heap.size w' v out ∧ MarkedOf c roots l out ∧ ∀ x ∈ out, x.length = 32
def MksRel (w0 : World) (mb : Nat) (ids : List (List UInt8)) (l : List Evt) (i : Value) (w : World) : Prop := ∃ k : Nat, k ≤ l.length ∧ i = .int .i64 k ∧ MapIs idV IdOk w mb (addsL (refsL (l.take k)) (addsL ids [])) ∧ Mod NoB w0 w
theorem lt_nodup {l : List (List UInt8)} (h : l.Pairwise (fun a b => a < b)) : l.Nodup := h.imp fun {a b} hab e => by rw [e] at hab; exact List.lt_irrefl _ hab
theorem swMarks_any {w : World} {bs ms wd : Nat} {room : Int} {bl : List Blb} (H : StInv w bs ms wd room bl) (hc : (cont bl).length ≤ 1000) {vv rv ev : Value} {reps : List RepX} (h1 : vv.oneCell' = true) (hv : RepsAt w rv reps) (hn : (rootsX reps).length ≤ 10000)
 {own own' : Bool} {E G : Nat → Prop} {l : List Evt} (hev : Sl own w E 39 (EvR own' w G) ev l) (hr : (refsL l).length ≤ 20000) :
 Calls prog 48 #[.pointer (some ⟨bs, 0, none⟩), .agg #[vv, rv], ev] w (MarksR w (cont bl) (rootsX reps) l) := by
 have hmm := @run_makeMap prog;have h2 := Sl.one hv;have HH := Lib.hid H;have HV := Lib.hid hv;have HEV := Lib.hid hev;obtain ⟨ead, ecap, rfl, hel, -⟩ := Sl.at hev;clear H hv hev
 go_enter func48, ntmps48;go_upto_region 0 with (fail);refine wpR [1, 3] (by rfl) (by rfl) ?_;simp only [zz2];refine wpDo rfl ?_
 refine xF 71 _ _ (by rfl) (by rfl) (fun w1 hB1 hm1 hs1 => ?_);replace hB1 : w1.heap[w.heap.size]? = some (.cells #[vv, rv] 71 (0, 0)) := hB1;refine qD _ rfl rfl ?_
 simp only [nmz];refine qB ?_;go_upto_region 1 with (fail);refine wpR [1, 3, 1, 1, 1, 1, 1, 3] (by rfl) (by rfl) ?_;simp only [zz2];refine qW rfl (fun K hK => ?_)
 unfold Oper.wp execOp;simp only [Array.map_empty, Option.map_none, Sem.run_bind, hmm, Result.andThen_ok, Sem.run_pure];have hB3 := heap_alloc_new w1 (.map #[] 0)
 have hm3 := zD w1 (.map #[] 0);have hs3 : (w1.alloc (.map #[] 0)).heap.size = w1.heap.size + 1 := by simp
 generalize w1.alloc (.map #[] 0) = w3 at hB3 hm3 hs3 ⊢;have hM3 : MapIs idV IdOk w3 w1.heap.size [] := MapIs.made hB3;have hm03 := hm1.trans0 hm3
 have hcT : CellsAt w3 w.heap.size 0 #[vv, rv] := CellsAt.whole (hm3.obj id hB1);have hroots := swRoots_any h1 (yN HV.out (KC.of0 hm03)) (by omega);refine hK _ _ trivial ?_
 clear hK K;refine qA _ rfl rfl ?_;simp only [nmz];refine wpXA 71 w.heap.size 0 #[vv, rv] hcT underlying71 2 rfl trivial ?_;try simp only [nmz]
 refine wpDo rfl ?_;refine qG (qH 47 [.tmp 12] _ rfl _ func47 rfl (by kernel_rfl) [.agg #[vv, rv]] rfl _) (hroots) ?_;rintro e w4 ⟨hm4, v4, R, he4, hg4, hset4, hl4⟩
 subst he4;have hRn : R.length ≤ (rootsX reps).length := xW (lt_nodup hset4.1) (fun x hx => (hset4.2 x).1 hx);have hm04 := hm03.trans0 hm4
 have hmark := clMark_any (HH.out.keep0 hm04) (slI hg4 hl4) (by omega) hc;refine ⟨_, rfl, ?_⟩;try simp only [nmz]
 refine wpDo rfl ?_;refine qG (qH 22 [.tmp 11, .tmp 13] _ rfl _ func22 rfl (by kernel_rfl) [.pointer (some ⟨bs, 0, none⟩), v4] rfl _) (hmark) ?_
 rintro e w5 ⟨hm5, v5, ids, he5, hg5, hset5, hl5⟩;subst he5;have hm05 := hm04.trans0 hm5;obtain ⟨ad5, cap5, hv5⟩ := hg5.slice;have hg5' := hg5;rw [hv5] at hg5'
 have hval := valuesI_any w5 ad5 ids.length cap5;rw [← hv5] at hval;refine ⟨_, rfl, ?_⟩;try simp only [nmz]
 refine wpDo rfl ?_;refine qG (qH 119 [.tmp 14] _ rfl _ func119 rfl (by kernel_rfl) [v5] rfl _) (hval) ?_;rintro e w6 ⟨rfl, hw6⟩
 have hm6 : Mod NoB w5 w6 := by rw [hw6]; exact zD w5 _
 have hB6 : w6.heap[w5.heap.size]? = some (.cells #[v5] 25 (0, 0)) := by rw [hw6]; exact heap_alloc_new w5 _
 clear hw6;have hadd := swAdd_any (enters_of func194 (by kernel_rfl) rfl) (valuesI_gives hB6 (slI (hg5.keep0 hm6) hl5)) hl5 (hM3.keep0 (hm4.trans0 (hm5.trans0 hm6)))
 refine ⟨_, rfl, ?_⟩;try simp only [nmz]
 refine wpDo rfl ?_
 refine qG (qH 115 [.tmp 10, .tmp 15] _ rfl _ func115 rfl (by kernel_rfl) [.map (some w1.heap.size), .func (.func 194) #[] #[.pointer (some ⟨w5.heap.size, 0, none⟩)]] rfl _) (hadd) ?_
 rintro e w7 ⟨rfl, hM7, hm7⟩;refine ⟨_, rfl, ?_⟩;refine qD _ rfl rfl ?_;simp only [nmz];refine qB ?_
 have hm25 : Mod NoB w w7 := (hm05.trans0 hm6).trans hm7 (fun k hk e => by have e : k = w1.heap.size := e; have := hm1.size; omega)
 have hidn : ids.length ≤ 43000 := by
  have h9 := xW (l := ids) (m := R ++ allDescs (cont bl)) (lt_nodup hset5.1) (fun x hx => by
   obtain ⟨r, hr, hi⟩ := (hset5.2 x).1 hx
   rcases inR_mem hi with rfl | hm
   · exact List.mem_append_left _ hr
   · exact List.mem_append_right _ hm)
  have h8 := allDescs_len (cont bl);simp only [List.length_append] at h9;omega
 have hmarks : ∀ x, x ∈ ids ↔ ∃ r ∈ rootsX reps, inR (cont bl) 5 r 1 x := fun x => by
  rw [hset5.2 x];exact ⟨fun ⟨r, h1, h2⟩ => ⟨r, (hset4.2 r).1 h1, h2⟩, fun ⟨r, h1, h2⟩ => ⟨r, (hset4.2 r).2 h1, h2⟩⟩
 have HMK := Lib.hid hmarks;have hw1 : w.heap.size < w1.heap.size := hs1;generalize hmb : w1.heap.size = mb at *
 have HR0 : Hid (MksRel w mb ids l (.int .i64 (0 : Nat)) w7) := Lib.hid ⟨0, Nat.zero_le _, rfl, by rw [List.take_zero]; exact hM7, hm25⟩
 clear hm25 hM7 hm7 hadd hB6 hm6 hval hg5' hv5 hm05 hset5 hg5 hm5 hmark hm04 hRn hset4 hg4 hm4 hroots hcT hm03 hM3 hs3 hm3 hB3 hB1 hm1 hmarks;go_wp2
 go_loopw [19] (MksRel w mb ids l) (fun i _ => l.length - (intOf i).toNat)
 case atStart => exact HR0.out
 case round =>
  rename World => wr
  obtain ⟨k, hk, rfl, hMr, hmr⟩ := hrel
  by_cases hlt : k < l.length
  · have hz : (k : Int) < (l.length : Nat) := by omega
    obtain ⟨_, _, hae, -, hat⟩ := (SlEv.keep0 HEV.out hmr).at;injection hae with hae1 hae2 hae3;subst hae1 hae3;obtain ⟨b, off, rfl, -, -, hcc⟩ := hat k hlt
    obtain ⟨cs, -, ⟨dv, fv, rfl, hid, hdv, hfv, -, -⟩, hcA⟩ := hcc k hlt;have hsn := refsL_snoc l k hlt
    have hsp : refsL l = refsL (l.take k) ++ (l[k].refs ++ refsL (l.drop (k + 1))) := by
     have h := congrArg refsL (yR hlt);rw [h];unfold refsL;rw [List.flatMap_append, List.flatMap_cons]
    have hr32 : ∀ x ∈ l[k].refs, x.length = 32 := by
     intro x hx;obtain ⟨a, cap, _, _, hat⟩ := Sl.at hfv;obtain ⟨i, hi, rfl⟩ := List.getElem_of_mem hx;obtain ⟨b, off, _, _, _, hc⟩ := hat i hi;obtain ⟨cs, _, ⟨_, h2⟩, _⟩ := hc i hi
     exact h2
    generalize l[k] = ev at *;have hes := zG ev dv fv hid;have hic := hes.size;have hc38 := hes.c38;have h1v := evCells_one (e := ev) (Sl.one hdv) (Sl.one hfv)
    obtain ⟨ra, rcap, hfe, -, -⟩ := Sl.at hfv
    have hzs : (zO ⟨0, 0, [], 0, ⟨#[]⟩, ⟨#[]⟩, List.replicate 32 0, []⟩ (.slice none 0 0) (.slice none 0 0)).size = 39 := (zG _ _ _ (by simp)).size
    have HSN := Lib.hid hsn;clear hsn hsp hat hcc hae2 hes hdv;go_upto_region 4 with (fail);refine wpR [3, 1, 1, 1] (by rfl) (by rfl) ?_;simp only [zz2]
    refine qX _ _ _ _ _ _ _ _ _ rfl rfl rfl rfl underlying72 (n := 39) (by kernel_rfl) hlt ?_;simp only [nmz]
    refine wpXA 115 b (off + k * 39) (zO ev dv fv) hcA underlying115 39 hic trivial ?_;try simp only [nmz]
    refine wpDo rfl ?_;refine qU 115 _ (by rfl) eventZ (fun w2 hB2 hm2 hs2 => ?_)
    replace hB2 : w2.heap[wr.heap.size]? = some (.cells (zO ⟨0, 0, [], 0, ⟨#[]⟩, ⟨#[]⟩, List.replicate 32 0, []⟩ (.slice none 0 0) (.slice none 0 0)) 115 (0, 0)) := hB2
    try simp only [nmz]
    refine wpDo rfl ?_
    refine qM 115 _ _ wr.heap.size 0 (zO ev dv fv) (by rfl) (by rfl) (by rfl) h1v 39 (by kernel_rfl) hic _ _ hB2 (by rw [hic, hzs]; omega) (fun w3 hB3 hm3 => ?_)
    rw [qK (by rw [hic, hzs])] at hB3;try simp only [nmz]
    refine qB ?_;have hmr3 : Mod NoB wr w3 := hm2.transB hm3 (Nat.le_refl _);have hm03 := hmr.trans0 hmr3;have hMk3 := hMr.keep0 hmr3
    have hcR : w3.cell? ⟨wr.heap.size, 0 + 38, none⟩ = some fv := (CellsAt.whole hB3).cell hc38;have hfv3 := hfv.keep0 hmr3;rw [hfe] at hcR hfv3
    clear hcA hm2 hm3 hB2 hs2 hMr hmr hB3 hc38 hfv hmr3;generalize hb9 : wr.heap.size = b9 at *;have hval := valuesI_any w3 ra ev.refs.length rcap;go_upto_region 5 with (fail)
    refine wpR [3, 3, 1, 1, 1] (by rfl) (by rfl) ?_;simp only [zz2];refine qA _ rfl rfl ?_;simp only [nmz];refine qE _ _ _ _ _ _ rfl rfl rfl fo_115_6 ?_
    simp only [nmz];refine wpXd 25 b9 (0 + 38) hcR underlying25 trivial ?_;try simp only [nmz]
    refine wpDo rfl ?_;refine qG (qH 119 [.tmp 25] _ rfl _ func119 rfl (by kernel_rfl) [.slice ra ev.refs.length rcap] rfl _) (hval) ?_;rintro e w4 ⟨rfl, hw4⟩
    have hm4 : Mod NoB w3 w4 := by rw [hw4]; exact zD w3 _
    have hB4 : w4.heap[w3.heap.size]? = some (.cells #[.slice ra ev.refs.length rcap] 25 (0, 0)) := by rw [hw4]; exact heap_alloc_new w3 _
    clear hw4;have hadd := swAdd_any (enters_of func194 (by kernel_rfl) rfl) (valuesI_gives hB4 (hfv3.keep0 hm4)) hr32 (hMk3.keep0 hm4);refine ⟨_, rfl, ?_⟩;try simp only [nmz]
    refine wpDo rfl ?_
    refine qG (qH 115 [.tmp 23, .tmp 26] _ rfl _ func115 rfl (by kernel_rfl) [.map (some mb), .func (.func 194) #[] #[.pointer (some ⟨w3.heap.size, 0, none⟩)]] rfl _) (hadd) ?_
    rintro e w5 ⟨rfl, hM5, hm5⟩;rw [← addsL_app, ← HSN.out] at hM5
    have HR : Hid (MksRel w mb ids l (.int .i64 ((k + 1 : Nat) : Int)) w5) := Lib.hid ⟨k + 1, by omega, rfl, hM5, (hm03.trans0 hm4).trans hm5 (fun j hj e => by have e : j = mb := e; omega)⟩
    refine ⟨_, rfl, ?_⟩;try simp only [nmz]
    refine qB ?_;clear hm03 hMk3 hcR hfv3 hval hm4 hB4 hadd hM5 hm5;go_wp2
    go_roundw
    case rel => exact HR.out
    case measure => simp [intOf]; omega
  · have hz : ¬ (k : Int) < (l.length : Nat) := by omega
    obtain rfl : k = l.length := by omega
    rw [List.take_length] at hMr
    have hln : (addsL (refsL l) (addsL ids [])).length ≤ 65536 := by
     have h1 := addsL_len (refsL l) (addsL ids []);have h2 := addsL_len ids [];simp only [List.length_nil] at h2;omega
    have hris := swRising_any hMr hln;clear hMr;go_upto_region 7 with (fail);refine wpR [3, 1, 3] (by rfl) (by rfl) ?_;simp only [zz2];refine qA _ rfl rfl ?_;simp only [nmz]
    refine wpDo rfl ?_;refine qG (qH 118 [.tmp 29] _ rfl _ func118 rfl (by kernel_rfl) [.map (some mb)] rfl _) (hris) ?_
    rintro e w6 ⟨hm6, v6, out, he6, hg6, hs6, hp6, hl6⟩;subst he6
    have HF : Hid (MarksR w (cont bl) (rootsX reps) l (.returned v6) w6) := Lib.hid ⟨hmr.trans0 hm6, v6, out, rfl, hg6.base (by have := hmr.size; omega), ⟨hs6, fun x => by rw [hp6.mem_iff, addsL_mem, addsL_mem, HMK.out]; simp [or_comm]⟩, hl6⟩
    refine ⟨_, rfl, ?_⟩;refine qD _ rfl rfl ?_;simp only [nmz];refine qB ?_;clear hmr hm6 hg6 hs6 hp6 hl6 hris;go_wp2;go_ret;exact HF.out
def cutTo (n k : Nat) (x : List UInt8) : List UInt8 := x.take n ++ List.replicate (k - n) 0 ++ x.drop k
theorem cutTo_len {n k : Nat} {x : List UInt8} (hx : x.length = 32) (hn : n ≤ k) (hk : k ≤ 32) : (cutTo n k x).length = 32 := by simp [cutTo, hx]; omega
theorem cutTo_start {n : Nat} {x : List UInt8} : cutTo n n x = x := by simp [cutTo]
theorem cutTo_end {n : Nat} {x : List UInt8} (hx : x.length = 32) : cutTo n 32 x = cutI n x := by
 unfold cutTo cutI;rw [List.drop_of_length_le (by omega), List.append_nil]
theorem cutTo_step {n k : Nat} {x : List UInt8} (hx : x.length = 32) (hn : n ≤ k) (hk : k < 32) : (qC (cutTo n k x)).setIfInBounds k (byteV 0) = qC (cutTo n (k + 1) x) := by
 apply Array.toList_inj.1
 have h1 : (x.take n).length = n := by simp [hx]; omega
 have e : List.replicate (k + 1 - n) (0 : UInt8) = List.replicate (k - n) 0 ++ [0] := by rw [show k + 1 - n = (k - n) + 1 by omega, List.replicate_succ']
 have d : x.drop k = x[k]'(by omega) :: x.drop (k + 1) := List.drop_eq_getElem_cons (by omega);simp only [qC, cutTo, Array.toList_setIfInBounds];rw [e, d]
 have hl : ((x.take n ++ List.replicate (k - n) 0).map byteV).length = k := by simp [hx]; omega
 rw [List.map_append, List.set_append_right _ _ (by rw [hl]; exact Nat.le_refl _), hl, Nat.sub_self]
 simp
 rw [← List.map_drop, d, ← List.map_drop]
 rfl
def CutRel (n : Nat) (x : List UInt8) (b : Nat) (w0 : World) (i : Value) (w : World) : Prop := ∃ k : Nat, n ≤ k ∧ k ≤ 32 ∧ i = .int .i64 k ∧ w.heap[b]? = some (.cells (qC (cutTo n k x)) 24 (0, 0)) ∧ Mod (fun q => q = b) w0 w
theorem refCut_any (x : List UInt8) (hx : x.length = 32) (n : Nat) (h1 : 1 ≤ n) (h2 : n ≤ 32) (w : World) : Calls prog 151 #[.agg (qC x), .int .i64 n] w (CutR2 w n x) := by
 have hrs : (qC (cutI n x)).size = 32 := by rw [qI, cutI_len hx h2]
 have HE := hid (cutTo_end (n := n) hx);go_enter func151, ntmps151;go_upto_region 0 with (fail);refine wpR [1, 1, 3] (by rfl) (by rfl) ?_;simp only [zz2];refine wpDo rfl ?_
 refine xF 24 _ _ (by rfl) (by rfl) (fun w1 hB1 hm1 hs1 => ?_);replace hB1 : w1.heap[w.heap.size]? = some (.cells (qC x) 24 (0, 0)) := hB1;try simp only [nmz]
 refine wpDo rfl ?_;refine qU 24 _ (by rfl) idZ (fun w2 hB2 hm2 hs2 => ?_)
 replace hB2 : w2.heap[w1.heap.size]? = some (.cells (qC (List.replicate 32 0)) 24 (0, 0)) := hB2;refine qD _ rfl rfl ?_;simp only [nmz];refine qB ?_
 replace hB1 := hm2.obj id hB1;have hM2 := hm1.trans0 hm2;have hne : w.heap.size ≠ w1.heap.size := by omega
 have hs1' : w.heap.size ≤ w1.heap.size := hm1.size;generalize hb1 : w.heap.size = b1 at *;generalize hb2 : w1.heap.size = b2 at *;clear hm1 hm2;go_wp2
 go_loopw [6] (CutRel n x b1 w2) (fun i _ => 32 - (intOf i).toNat)
 case atStart => exact ⟨n, Nat.le_refl _, h2, rfl, by rw [cutTo_start]; exact hB1, Mod.refl _ _⟩
 case round =>
  rename World => wr
  obtain ⟨k, hnk, hk, rfl, hrow, hm⟩ := hrel
  by_cases hlt : k < 32
  · have hz : (k : Int) < 32 := by omega
    have hst := cutTo_step hx hnk hlt;have hsz : (qC (cutTo n k x)).size = 32 := by rw [qI, cutTo_len hx hnk hk]
    go_upto_region 6 with (fail);refine wpR [3, 3, 1] (by rfl) (by rfl) ?_;simp only [zz2];refine qA _ rfl rfl ?_;simp only [nmz]
    refine qO _ _ _ _ _ _ _ _ rfl rfl rfl rfl underlying24 (n := 1) (by kernel_rfl) hlt ?_;simp only [nmz];refine wpDo rfl ?_
    refine zA 5 _ _ b1 (k * 1) (byteV 0) (by rfl) (by rfl) (by rfl) rfl (by kernel_rfl) _ _ hrow (by rw [hsz]; omega) (fun w3 hB3 hm3 => ?_);rw [Nat.mul_one, hst] at hB3
    have hM3 : Mod (fun q => q = b1) w2 w3 := hm.trans hm3 (fun _ _ h => h);try simp only [nmz]
    refine qB ?_;clear hm hm3 hrow hst hsz;go_wp2
    go_roundw
    case rel => exact ⟨k + 1, by omega, by omega, by go_num, hB3, hM3⟩
    case measure => simp [intOf]; omega
  · have hz : ¬ (k : Int) < 32 := by omega
    obtain rfl : k = 32 := by omega
    rw [HE.out] at hrow;have hB23 := hm.objB (fun e => hne e.symm) hB2;have hM3 : Mod NoB w wr := hM2.transB hm (by omega);clear hm hM2 hB2;go_upto_region 7 with (fail)
    refine wpR [1, 1, 3] (by rfl) (by rfl) ?_;simp only [zz2];refine wpXA 24 b1 0 (qC (cutI n x)) (CellsAt.whole hrow) underlying24 32 hrs trivial ?_;try simp only [nmz]
    refine wpDo rfl ?_
    refine qM 24 _ _ b2 0 (qC (cutI n x)) (by rfl) (by rfl) (by rfl) (qZ _) 32 (by kernel_rfl) hrs _ _ hB23 (by rw [hrs, qI]; simp) (fun w4 hB4 hm4 => ?_)
    rw [qK (by rw [hrs, qI]; rfl)] at hB4;refine qD _ rfl rfl ?_;simp only [nmz];refine qB ?_;have hM4 : Mod NoB w w4 := hM3.transB hm4 (by omega)
    clear hm4 hM3;go_wp2;refine bodyPost_ret (xH (P := prog) (ty := 24) rfl _ _ b2 _ _ _ _ (by rfl) hB4 underlying24 rfl (by rw [hrs]; kernel_rfl)) rfl ?_
    exact ⟨rfl, hM4⟩
theorem refOf_any {own : Bool} {G : Nat → Prop} {v : Value} {m : List UInt8} {w : World} (h : Sl own w G 1 ByteC v m) (hl : m.length ≤ 1000000) (n : Nat) (h1 : 1 ≤ n) (h2 : n ≤ 32) : Calls prog 79 #[v, .int .i64 n] w (OfR w n m) := by
 have H := hid h;obtain ⟨ad, cap, rfl, -, -⟩ := Sl.at h;have hsl : (shaL m).length = 32 := shaL_len _;have hrs : (qC (ofI n m)).size = 32 := by rw [qI, ofI_len h2]
 have HC := hid (show cutI n (shaL m) = ofI n m from rfl);clear h;go_enter func79, ntmps79;go_upto_region 0 with (fail);refine wpR [1, 3] (by rfl) (by rfl) ?_;simp only [zz2]
 refine wpDo rfl ?_;refine qU 24 _ (by rfl) idZ (fun w1 hB1 hm1 hs1 => ?_);replace hB1 : w1.heap[w.heap.size]? = some (.cells (qC (List.replicate 32 0)) 24 (0, 0)) := hB1
 refine qD _ rfl rfl ?_;simp only [nmz];refine qB ?_;go_upto_region 1 with (fail);refine wpR [3, 1, 3, 1, 3, 3, 1, 3] (by rfl) (by rfl) ?_;simp only [zz2]
 refine qA _ rfl rfl ?_;simp only [nmz];refine wpDo rfl ?_
 refine qG (qH 152 [.tmp 6] _ rfl _ func152 rfl (by kernel_rfl) [.slice ad m.length cap] rfl _) (refSum_any (H.out.keep0 hm1) (by omega)) ?_;rintro e w2 ⟨rfl, hm2⟩
 refine ⟨_, rfl, ?_⟩;refine qA _ rfl rfl ?_;simp only [nmz];refine wpDo rfl ?_
 refine qG (qH 151 [.tmp 7, .tmp 8] _ rfl _ func151 rfl (by kernel_rfl) [.agg (qC (shaL m)), .int .i64 n] rfl _) (refCut_any (shaL m) hsl n h1 h2 _) ?_
 rintro e w3 ⟨rfl, hm3⟩;rw [HC.out];have hB3 := (hm2.trans0 hm3).obj id hB1;refine ⟨_, rfl, ?_⟩;try simp only [nmz]
 refine qJ (v := ?_) rfl (fun w' => ?_) ?_; rotate_left; · (go_simp; try with_reducible rfl)
 simp only [nmz];refine qJ (v := ?_) rfl (fun w' => ?_) ?_; rotate_left; · (go_simp; try with_reducible rfl)
 simp only [nmz];refine wpDo rfl ?_
 refine qM 24 _ _ w.heap.size 0 (qC (ofI n m)) (by rfl) (by rfl) (by rfl) (qZ _) 32 (by kernel_rfl) hrs _ _ hB3 (by rw [hrs, qI]; simp) (fun w4 hB4 hm4 => ?_)
 rw [qK (by rw [hrs, qI]; rfl)] at hB4;refine qD _ rfl rfl ?_;simp only [nmz];refine qB ?_
 have hM4 : Mod NoB w w4 := ((hm1.trans0 hm2).trans0 hm3).transB hm4 (Nat.le_refl _);clear hm1 hm2 hm3 hm4;go_wp2
 refine bodyPost_ret (xH (P := prog) (ty := 24) rfl _ _ w.heap.size _ _ _ _ (by rfl) hB4 underlying24 rfl (by rw [hrs]; kernel_rfl)) rfl ?_;exact ⟨rfl, hM4⟩
theorem fo_68_0 : zB prog 68 0 = some 0 := by kernel_rfl
def pickZ (x n : Int) : Int := if n ≤ 0 then 0 else x % n
theorem pickZ_lt (x n : Int) (h : 0 < n) : 0 ≤ pickZ x n ∧ pickZ x n < n := by
 unfold pickZ;rw [if_neg (by omega)];exact ⟨Int.emod_nonneg _ (by omega), Int.emod_lt_of_pos _ h⟩
theorem tmod_up (x n : Int) (h : 0 < n) : (if x.tmod n < 0 then x.tmod n + n else x.tmod n) = x % n := by
 have h1 := Int.tmod_lt_of_pos x h;have h2 := Int.lt_tmod_of_pos x h;have h3 : x.tmod n = x - n * x.tdiv n := by have := Int.mul_tdiv_add_tmod x n; omega
 split
 · rw [h3, ← Int.emod_eq_of_lt (a := x - n * x.tdiv n + n) (b := n) (by omega) (by omega)]
   rw [show x - n * x.tdiv n + n = x + n * (1 - x.tdiv n) by rw [Int.mul_sub]; omega];rw [Int.add_mul_emod_self_left]
 · rw [← Int.emod_eq_of_lt (a := x.tmod n) (b := n) (by omega) (by omega), h3]
   rw [show x - n * x.tdiv n = x + n * (- x.tdiv n) by rw [Int.mul_neg]; omega];rw [Int.add_mul_emod_self_left]
abbrev I64 (x : Int) : Prop := -9223372036854775808 ≤ x ∧ x ≤ 9223372036854775807
theorem pick_any (x n : Int) (hx : I64 x) (hn : n ≤ 1000000) (w : World) : Calls prog 17 #[.int .i64 x, .int .i64 n] w (RetE (.int .i64 (pickZ x n)) w) := by
 obtain ⟨hx1, hx2⟩ := hx
 by_cases h0 : n ≤ 0
 · rw [show pickZ x n = 0 by simp [pickZ, h0]]
   go_enter func17, ntmps17;go_wp2;go_ret;exact ⟨rfl, rfl⟩
 · have hp := tmod_up x n (by omega)
   have h1 := Int.tmod_lt_of_pos x (show 0 < n by omega);have h2 := Int.lt_tmod_of_pos x (show 0 < n by omega);rw [show pickZ x n = x % n by simp [pickZ, h0]];rw [← hp];clear hp
   go_enter func17, ntmps17;go_wp2
   all_goals
    go_ret;exact ⟨rfl, rfl⟩
def RetK (v : Value) (w : World) : Ending → World → Prop := fun e w' => e = .returned v ∧ Mod NoB w w'
def widZ (wd : Int) : Nat := (1 + pickZ wd 32).toNat
theorem widZ_ok (wd : Int) : 1 ≤ widZ wd ∧ widZ wd ≤ 32 := by
 have := pickZ_lt wd 32 (by omega);unfold widZ;omega
theorem width_any (wd : Int) (hw : I64 wd) (lv kv : Value) (h1 : lv.oneCell' = true) (h2 : kv.oneCell' = true) (w : World) : Calls prog 108 #[.agg #[.int .i64 wd, lv, kv]] w (RetK (.int .i64 (widZ wd : Nat)) w) := by
 have hp := pickZ_lt wd 32 (by omega);have hz : ((widZ wd : Nat) : Int) = 1 + pickZ wd 32 := by unfold widZ; omega
 have HZ := hid hz;have hpk := fun w' => pick_any wd 32 hw (by omega) w';obtain ⟨pz, hpz⟩ : ∃ p, pickZ wd 32 = p := ⟨_, rfl⟩;rw [hpz] at hp HZ;simp only [hpz] at hpk;clear hz hpz
 go_enter func108, ntmps108;go_upto_region 0 with (fail);refine wpR [1, 3] (by rfl) (by rfl) ?_;simp only [zz2];refine wpDo rfl ?_
 refine xF 68 _ _ (by rfl) (by rfl) (fun w1 hB1 hm1 hs1 => ?_);replace hB1 : w1.heap[w.heap.size]? = some (.cells #[.int .i64 wd, lv, kv] 68 (0, 0)) := hB1
 refine qD _ rfl rfl ?_;simp only [nmz];refine qB ?_;have hc : w1.cell? ⟨w.heap.size, 0 + 0, none⟩ = some (.int .i64 wd) := by simp [World.cell?, hB1]
 go_upto_region 1 with (fail);refine wpR [3, 1, 1, 3, 3] (by rfl) (by rfl) ?_;simp only [zz2];refine qE _ _ _ _ _ _ rfl rfl rfl fo_68_0 ?_;simp only [nmz]
 refine wpXd 3 w.heap.size (0 + 0) hc underlying3 trivial ?_;try simp only [nmz]
 refine wpDo rfl ?_;refine qG (qH 17 [.tmp 4, .const (.int .i64 32)] _ rfl _ func17 rfl (by kernel_rfl) [.int .i64 wd, .int .i64 32] rfl _) (hpk _) ?_
 rintro e w2 ⟨rfl, hw2⟩;obtain rfl := hw2.symm;refine ⟨_, rfl, ?_⟩;try simp only [nmz]
 refine zT _ _ _ _ 1 pz (1 + pz) rfl rfl rfl rfl rfl (by omega) (by omega) ?_;simp only [nmz];refine qD _ rfl rfl ?_;simp only [nmz];refine qB ?_;clear hB1 hc
 go_wp2;go_ret;exact ⟨by rw [HZ.out]; rfl, hm1⟩
def repoZ (n : Int) : ByteArray := [(⟨#[97]⟩ : ByteArray), ⟨#[98, 47, 99]⟩, ⟨#[100]⟩].getD (pickZ n 3).toNat ⟨#[]⟩
theorem str_zs : (prog.info? 9).map (fun i => (i.zero, i.size)) = some (some (.string ⟨#[]⟩), 1) := by kernel_rfl
theorem repo_any (n : Int) (hn : I64 n) (w : World) : Calls prog 69 #[.int .i64 n] w (RetK (.string (repoZ n)) w) := by
 have hp := pickZ_lt n 3 (by omega);have hpk := fun w' => pick_any n 3 hn (by omega) w';obtain ⟨k, hk⟩ : ∃ k : Nat, pickZ n 3 = k := ⟨(pickZ n 3).toNat, by omega⟩
 have hr : repoZ n = [(⟨#[97]⟩ : ByteArray), ⟨#[98, 47, 99]⟩, ⟨#[100]⟩].getD k ⟨#[]⟩ := by unfold repoZ; rw [hk]; rfl
 rw [hk] at hp;simp only [hk] at hpk;rw [hr];have hk3 : k < 3 := by omega
 clear hr hk hp;go_enter func69, ntmps69;go_upto_region 1 with (fail);refine wpR [1, 3, 1, 3, 1, 3] (by rfl) (by rfl) ?_;simp only [zz2];refine wpDo rfl ?_
 refine xP 127 9 3 [(0, _), (1, _), (2, _)] [.string ⟨#[97]⟩, .string ⟨#[98, 47, 99]⟩, .string ⟨#[100]⟩] (.string ⟨#[]⟩) 1 (by rfl) (by rfl) (by rfl) underlying127 str_zs (by omega) (by omega) (by simp [Value.cells]) (fun w1 hB1 hm1 hs1 => ?_)
 have hc : w1.cell? ⟨w.heap.size, k * 1, none⟩ = some (.string ([(⟨#[97]⟩ : ByteArray), ⟨#[98, 47, 99]⟩, ⟨#[100]⟩].getD k ⟨#[]⟩)) := by
  rcases (show k = 0 ∨ k = 1 ∨ k = 2 by omega) with rfl | rfl | rfl <;> simp [World.cell?, hB1, Value.cells]
 generalize w.heap.size = b1 at *;refine qA _ rfl rfl ?_;simp only [nmz];refine wpDo rfl ?_
 refine qG (qH 17 [.tmp 4, .const (.int .i64 3)] _ rfl _ func17 rfl (by kernel_rfl) [.int .i64 n, .int .i64 3] rfl _) (hpk _) ?_;rintro e w2 ⟨rfl, hw2⟩
 obtain rfl := hw2.symm;refine ⟨_, rfl, ?_⟩;try simp only [nmz]
 refine qX _ _ _ _ _ _ _ _ _ rfl rfl rfl rfl underlying127 (n := 1) (by kernel_rfl) hk3 ?_;simp only [nmz];refine wpXd 9 b1 (k * 1) hc underlying9 trivial ?_
 refine qD _ rfl rfl ?_;simp only [nmz];refine qB ?_;clear hB1 hc;go_wp2;go_ret;exact ⟨rfl, hm1⟩
section
variable {w w' : World} {h : House} {c c' : BlobL} {l l' : LinkL} {Ft : Nat → Prop}
theorem HsAt.put (H : HsAt w h c l Ft) {own : Bool} {G : Nat → Prop} {v : Value} {m : List UInt8} (hv : Sl own w G 1 ByteC v m) (hm : m.length ≤ 4096) (hroom : h.room = 67108864) (hfew : c.length < 10000) :
 Calls prog 37 #[.pointer (some ⟨h.bs, 0, Option.none⟩), .agg (qC (ofI h.wd m)), v] w (fun e w' => (∃ v, e = .returned v) ∧ HStep w h Ft w' (putB (ofI h.wd m) m c) l) := by
 obtain ⟨bl, F, h1, rfl, h3, h4, h5, h6, h7⟩ := H;have hu := h1.used;refine (bPut_any h1 hv hm (by omega) (by simpa [cont] using hfew)).mono ?_
 rintro e w' ⟨⟨ok, er, rfl⟩, bl', k1, k2, k3, k4⟩;have hF : ∀ k, F k → ¬ (k = h.bs ∨ k = h.ms) := fun k hk e => h4 k (e.elim (fun e => .inl e) (fun e => .inr (.inl e))) hk
 refine ⟨⟨_, rfl⟩, fun k => Ft k ∨ New w w' k, ⟨bl', F, k1, k2, (h3.keep k3 hF (fun k hk => by simp [emptyW] at hk)).bare, fun k hk hf => ?_, fun k hk => (k4 k hk).imp (h5 k) id, fun k hk => .inl (h6 k hk), fun k hk => hk.elim (fun hk => Nat.lt_of_lt_of_le (h7 k hk) k3.size) (fun hk => hk.2)⟩, k3.mono (fun k _ e => h5 k (e.elim (fun e => .inl e) (fun e => .inr (.inl e)))), fun k hk => hk⟩
 rcases k4 k hk with hk | hk
 · exact h4 k hk hf
 · have := h3.lt k hf
   have := hk.1;omega
theorem HsAt.lay (H : HsAt w h c l Ft) (k : Key) (hk : KeyOk k) (hsz : k.1.size ≤ maxLen) (size : Int) :
 Calls prog 110 #[h.q, .string k.1, .agg (qC k.2), .int .i64 size] w (fun e w' => (∃ v, e = .returned v) ∧ HStep w h Ft w' c (addL false h.limit l k size)) := by
 obtain ⟨bl, F, h1, rfl, h3, h4, h5, h6, h7⟩ := H;refine (lay_at h3 k hk hsz size).mono ?_;rintro e w' ⟨rfl, F', k1, k2, k3⟩
 refine ⟨⟨_, rfl⟩, fun k => Ft k ∨ New w w' k, ⟨bl, F', h1.keep k2 (fun k hk hf => h4 k hk hf), rfl, k1.bare, fun k hk hf => ?_, fun k hk => .inl (h5 k hk), fun k hk => (k3 k hk).imp (h6 k) id, fun k hk => hk.elim (fun hk => Nat.lt_of_lt_of_le (h7 k hk) k2.size) (fun hk => hk.2)⟩, k2.mono (fun k _ e => h6 k e), fun k hk => hk⟩
 rcases k3 k hf with hf | hf
 · exact h4 k hk hf
 · have := h1.lt k hk
   have := hf.1;omega
theorem putB_len (di m : List UInt8) (c : BlobL) : (putB di m c).length ≤ c.length + 1 := by
 unfold putB
 split <;> simp
end
end
end Go.Proofs.YtjeonjoifjbohaaGreat
