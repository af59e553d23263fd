/- What the statement SweepTombs needs, part 4. -/
import Derived.Lib.SliceRun
import Derived.Test.YtjeonjoifjbohaaGreatSweepTombsP3
set_option linter.unusedVariables false
set_option linter.unusedSimpArgs false
set_option linter.unnecessarySimpa false
set_option linter.unusedSectionVars false
set_option maxRecDepth 10000
set_option maxHeartbeats 8000000
namespace Go.Proofs.YtjeonjoifjbohaaGreat
section
open Go.RowKit Go.Proofs.Tryz Go.Lib
theorem fltZ : (prog.info? 255).bind (·.zero) = some (.agg #[.int .i64 0, .int .i64 0]) := by kernel_rfl
section
variable {w : World} {rb wb : Nat} {bv : Value} {b : List UInt8} {a : Nat} {e p : Int}
theorem rEnd_any (h : RdI w rb wb bv b a e p) : Calls prog 245 #[.pointer (some ⟨rb, 0, none⟩)] w (EndR w b a e p) := by
 have H := hid h;have hal := h.al;have hln := h.len;have hzp := h.z;have hc0 := h.cell.1
 have hfl := hid (fun (w' : World) (hw' : RdI w' rb wb bv b a e p) => wFailed_at hw'.cell.2.2.2.1);obtain ⟨ad, cap, rfl, -, -⟩ := Sl.at h.sl;clear h;go_enter func245, ntmps245
 go_upto_region 0 with (fail);refine wpR [1] (by rfl) (by rfl) ?_;simp only [zz2];refine wpDo rfl ?_;refine qU 255 _ (by rfl) fltZ (fun w1 hB1 hm1 hs1 => ?_)
 replace hB1 : w1.heap[w.heap.size]? = some (.cells #[.int .i64 0, .int .i64 0] 255 (0, 0)) := hB1;try simp only [nmz]
 refine qB ?_;have H1 := hid (H.out.keep0 hm1);replace hc0 := hm1.cell id hc0;go_upto_region 3 with (fail);have hS : Mod NoB w1 w1.drew := (Mod.refl _ _).drew
 by_cases he : e = 0
 · subst he
   obtain rfl := hzp rfl
   rcases Nat.lt_or_ge a b.length with hlt | hge
   · have hlz : (a : Int) < (b.length : Nat) := by omega
     refine wpRP [(0, 3), (1, 3), (2, 3), (3, 0), (4, 1), (5, 3), (6, 3), (7, 3), (8, 3), (9, 3), (10, 0), (11, 3), (12, 3), (13, 3), (14, 0), (15, 3), (16, 3), (17, 3), (18, 3)] [] (fun w' => Mod NoB w1 w') hS ?_
     simp only [zz4];refine qA _ rfl rfl ?_;simp only [nmz];refine qF _ _ rfl rfl rfl ?_;simp only [nmz];refine qE _ _ _ _ _ _ rfl rfl rfl jJ ?_
     simp only [nmz];refine wpLd 318 rb 0 (fun w' hS => hS.cell id H1.out.cell.1) underlying318 ?_;simp only [nmz];refine qW rfl (fun K hK => ?_)
     refine qG (qH 252 [.tmp 18] _ rfl _ func252 rfl (by kernel_rfl) [.pointer (some ⟨wb, 0, none⟩)] rfl _) (hfl.out _ (H1.out.keep0 hS)) ?_;rintro e w2 ⟨rfl, hw⟩
     subst hw;refine ⟨_, rfl, hK _ _ hS ?_⟩;clear hK K;try simp only [nmz]
     refine xL _ _ false (by rfl) (by rfl) (by rfl) ?_;simp only [nmz];refine qA _ rfl rfl ?_;simp only [nmz];refine qA _ rfl rfl ?_;simp only [nmz]
     refine qF _ _ rfl rfl rfl ?_;simp only [nmz];refine qE _ _ _ _ _ _ rfl rfl rfl xA ?_;simp only [nmz]
     refine wpLd 3 rb 2 (fun w' hS => hS.cell id H1.out.cell.2.2.1) underlying3 ?_;simp only [nmz];refine qA _ rfl rfl ?_;simp only [nmz]
     refine qF _ _ rfl rfl rfl ?_;simp only [nmz];refine qE _ _ _ _ _ _ rfl rfl rfl jI ?_;simp only [nmz]
     refine wpLd 53 rb 1 (fun w' hS => hS.cell id H1.out.cell.2.1) underlying53 ?_;simp only [nmz];refine zP _ _ _ _ _ rfl rfl rfl (by kernel_rfl) ?_;simp only [nmz]
     refine qY _ _ _ _ _ _ _ _ rfl rfl rfl rfl rfl true (decide_eq_true (by omega)) ?_;simp only [nmz];refine qQ _ _ _ _ rfl rfl rfl ?_;simp only [nmz]
     refine qD _ rfl rfl ?_;simp only [nmz];refine qB ?_;have H3 := hid (H1.out.keep0 hS);have HM3 : Hid (Mod NoB w w1.drew) := hid (hm1.trans0 hS)
     have hB3 := hS.obj id hB1;clear hS hm1 hB1 hc0 H1 H hfl;generalize w1.drew = w3 at *;go_upto_region 4 with (fail);refine wpR [3, 3, 3, 1, 0, 1] (by rfl) (by rfl) ?_
     simp only [zz2];refine qA _ rfl rfl ?_;simp only [nmz];refine qF _ _ rfl rfl rfl ?_;simp only [nmz];refine qE _ _ _ _ _ _ rfl rfl rfl xA ?_
     simp only [nmz];refine wpXd (v := (.int .i64 a)) 3 rb 2 H3.out.cell.2.2.1 underlying3 trivial ?_;try simp only [nmz]
     refine qS rfl (fun w' hS => qT 255 [(0, _), (1, _)] [(0, .int .i64 4), (1, .int .i64 a)] _ (by rfl) (by rfl) (built_fault 4 a)) ?_;simp only [nmz]
     refine wpDo rfl ?_
     refine qM 255 _ _ w.heap.size 0 #[.int .i64 4, .int .i64 a] (by rfl) (by rfl) (by rfl) (by simp [Value.oneCell']) 2 (by kernel_rfl) rfl _ _ hB3 (by simp) (fun w4 hB4 hm4 => ?_)
     rw [qK (by rfl)] at hB4;try simp only [nmz]
     refine qB ?_;have hM4 : Hid (Mod NoB w w4) := hid (HM3.out.transB hm4 (Nat.le_refl _));clear hm4 hB3;go_wp2
     refine bodyPost_ret (results_cell_row (P := prog) (ty := 255) rfl _ _ w.heap.size _ _ _ _ (by rfl) hB4 underlying255 rfl (by kernel_rfl)) rfl ?_
     exact ⟨hM4.out, 4, a, rfl, by omega, by omega⟩
   · have hlz : ¬ (a : Int) < (b.length : Nat) := by omega
     refine wpRP [(0, 3), (1, 3), (2, 3), (3, 0), (4, 1), (5, 3), (6, 3), (7, 3), (8, 3), (9, 3), (10, 0), (11, 3), (12, 3), (13, 3), (14, 0), (15, 3), (16, 3), (17, 3), (18, 3)] [] (fun w' => Mod NoB w1 w') hS ?_
     simp only [zz4];refine qA _ rfl rfl ?_;simp only [nmz];refine qF _ _ rfl rfl rfl ?_;simp only [nmz];refine qE _ _ _ _ _ _ rfl rfl rfl jJ ?_
     simp only [nmz];refine wpLd 318 rb 0 (fun w' hS => hS.cell id H1.out.cell.1) underlying318 ?_;simp only [nmz];refine qW rfl (fun K hK => ?_)
     refine qG (qH 252 [.tmp 18] _ rfl _ func252 rfl (by kernel_rfl) [.pointer (some ⟨wb, 0, none⟩)] rfl _) (hfl.out _ (H1.out.keep0 hS)) ?_;rintro e w2 ⟨rfl, hw⟩
     subst hw;refine ⟨_, rfl, hK _ _ hS ?_⟩;clear hK K;try simp only [nmz]
     refine xL _ _ false (by rfl) (by rfl) (by rfl) ?_;simp only [nmz];refine qA _ rfl rfl ?_;simp only [nmz];refine qA _ rfl rfl ?_;simp only [nmz]
     refine qF _ _ rfl rfl rfl ?_;simp only [nmz];refine qE _ _ _ _ _ _ rfl rfl rfl xA ?_;simp only [nmz]
     refine wpLd 3 rb 2 (fun w' hS => hS.cell id H1.out.cell.2.2.1) underlying3 ?_;simp only [nmz];refine qA _ rfl rfl ?_;simp only [nmz]
     refine qF _ _ rfl rfl rfl ?_;simp only [nmz];refine qE _ _ _ _ _ _ rfl rfl rfl jI ?_;simp only [nmz]
     refine wpLd 53 rb 1 (fun w' hS => hS.cell id H1.out.cell.2.1) underlying53 ?_;simp only [nmz];refine zP _ _ _ _ _ rfl rfl rfl (by kernel_rfl) ?_;simp only [nmz]
     refine qY _ _ _ _ _ _ _ _ rfl rfl rfl rfl rfl false (decide_eq_false (by omega)) ?_;simp only [nmz];refine qQ _ _ _ _ rfl rfl rfl ?_;simp only [nmz]
     refine qD _ rfl rfl ?_;simp only [nmz];refine qB ?_;have H3 := hid (H1.out.keep0 hS);have HM3 : Hid (Mod NoB w w1.drew) := hid (hm1.trans0 hS)
     have hB3 := hS.obj id hB1;clear hS hm1 hB1 hc0 H1 H hfl;generalize w1.drew = w3 at *;go_upto_region 5 with (fail);refine wpR [3, 3, 3, 1, 3, 3, 1, 1] (by rfl) (by rfl) ?_
     simp only [zz2];refine qA _ rfl rfl ?_;simp only [nmz];refine qF _ _ rfl rfl rfl ?_;simp only [nmz];refine qE _ _ _ _ _ _ rfl rfl rfl jJ ?_
     simp only [nmz];refine wpXd (v := (.pointer (some ⟨wb, 0, none⟩))) 318 rb 0 H3.out.cell.1 underlying318 trivial ?_;refine qF _ _ rfl rfl rfl ?_;simp only [nmz]
     refine qE _ _ _ _ _ _ rfl rfl rfl fo_320_0 ?_;simp only [nmz];refine wpXA 255 wb 0 #[.int .i64 0, .int .i64 0] H3.out.row underlying255 2 rfl trivial ?_
     try simp only [nmz]
     refine wpDo rfl ?_
     refine qM 255 _ _ w.heap.size 0 #[.int .i64 0, .int .i64 0] (by rfl) (by rfl) (by rfl) (by simp [Value.oneCell']) 2 (by kernel_rfl) rfl _ _ hB3 (by simp) (fun w4 hB4 hm4 => ?_)
     rw [qK (by rfl)] at hB4;try simp only [nmz]
     refine qB ?_;have hM4 : Hid (Mod NoB w w4) := hid (HM3.out.transB hm4 (Nat.le_refl _));clear hm4 hB3;go_wp2
     refine bodyPost_ret (results_cell_row (P := prog) (ty := 255) rfl _ _ w.heap.size _ _ _ _ (by rfl) hB4 underlying255 rfl (by kernel_rfl)) rfl ?_
     exact ⟨hM4.out, 0, 0, rfl, by omega, by omega⟩
 · have hd : decide (e ≠ 0) = true := by simpa using he
   have hf2 := hfl.out;simp only [hd] at hf2;replace hfl := hid hf2;clear hf2
   refine wpRP [(0, 3), (1, 3), (2, 3), (3, 0), (4, 1), (5, 3), (6, 3), (7, 3), (8, 3), (9, 3), (10, 0), (11, 3), (12, 3), (13, 3), (14, 0), (15, 3), (16, 3), (17, 3), (18, 3)] [] (fun w' => Mod NoB w1 w') hS ?_
   simp only [zz4];refine qA _ rfl rfl ?_;simp only [nmz];refine qF _ _ rfl rfl rfl ?_;simp only [nmz];refine qE _ _ _ _ _ _ rfl rfl rfl jJ ?_
   simp only [nmz];refine wpLd 318 rb 0 (fun w' hS => hS.cell id H1.out.cell.1) underlying318 ?_;simp only [nmz];refine qW rfl (fun K hK => ?_)
   refine qG (qH 252 [.tmp 18] _ rfl _ func252 rfl (by kernel_rfl) [.pointer (some ⟨wb, 0, none⟩)] rfl _) (hfl.out _ (H1.out.keep0 hS)) ?_;rintro e w2 ⟨rfl, hw⟩
   subst hw;refine ⟨_, rfl, hK _ _ hS ?_⟩;clear hK K;try simp only [nmz]
   refine xL _ _ true (by rfl) (by rfl) (by rfl) ?_;simp only [nmz];refine qA _ rfl rfl ?_;simp only [nmz];refine qV rfl ?_;simp only [nmz]
   refine qV rfl ?_;simp only [nmz];refine qV rfl ?_;simp only [nmz];refine zK rfl ?_;simp only [nmz];refine qV rfl ?_;simp only [nmz]
   refine qV rfl ?_;simp only [nmz];refine qV rfl ?_;simp only [nmz];refine zK rfl ?_;simp only [nmz];refine qV rfl ?_;simp only [nmz]
   refine qV rfl ?_;simp only [nmz];refine qQ _ _ _ _ rfl rfl rfl ?_;simp only [nmz];refine qD _ rfl rfl ?_;simp only [nmz];refine qB ?_
   have H3 := hid (H1.out.keep0 hS);have HM3 : Hid (Mod NoB w w1.drew) := hid (hm1.trans0 hS);have hB3 := hS.obj id hB1;clear hS hm1 hB1 hc0 H1 H hfl;generalize w1.drew = w3 at *
   go_upto_region 5 with (fail);refine wpR [3, 3, 3, 1, 3, 3, 1, 1] (by rfl) (by rfl) ?_;simp only [zz2];refine qA _ rfl rfl ?_;simp only [nmz]
   refine qF _ _ rfl rfl rfl ?_;simp only [nmz];refine qE _ _ _ _ _ _ rfl rfl rfl jJ ?_;simp only [nmz]
   refine wpXd (v := (.pointer (some ⟨wb, 0, none⟩))) 318 rb 0 H3.out.cell.1 underlying318 trivial ?_;refine qF _ _ rfl rfl rfl ?_;simp only [nmz]
   refine qE _ _ _ _ _ _ rfl rfl rfl fo_320_0 ?_;simp only [nmz];refine wpXA 255 wb 0 #[.int .i64 e, .int .i64 p] H3.out.row underlying255 2 rfl trivial ?_
   try simp only [nmz]
   refine wpDo rfl ?_
   refine qM 255 _ _ w.heap.size 0 #[.int .i64 e, .int .i64 p] (by rfl) (by rfl) (by rfl) (by simp [Value.oneCell']) 2 (by kernel_rfl) rfl _ _ hB3 (by simp) (fun w4 hB4 hm4 => ?_)
   rw [qK (by rfl)] at hB4;try simp only [nmz]
   refine qB ?_;have hM4 : Hid (Mod NoB w w4) := hid (HM3.out.transB hm4 (Nat.le_refl _));clear hm4 hB3;go_wp2
   refine bodyPost_ret (results_cell_row (P := prog) (ty := 255) rfl _ _ w.heap.size _ _ _ _ (by rfl) hB4 underlying255 rfl (by kernel_rfl)) rfl ?_
   exact ⟨hM4.out, e, p, rfl, by omega, by omega⟩
theorem zero_wrong : prog.built 320 [] = some #[.int .i64 0, .int .i64 0] := by kernel_rfl
theorem built_reader (wb : Nat) (v : Value) (h : v.cells = #[v]) : prog.built 344 [(0, .pointer (some ⟨wb, 0, none⟩)), (1, v)] = some #[.pointer (some ⟨wb, 0, none⟩), v, .int .i64 0] := by
 have z : (prog.info? 344).bind (·.zero) = some (.agg #[.pointer none, .slice none 0 0, .int .i64 0]) := by kernel_rfl
 have p : yD prog 344 = some [(0, 1), (1, 1), (2, 1)] := by kernel_rfl
 rw [xG z p, zU (off := 0) (size := 1) rfl (by rfl) (by simp), zU (off := 1) (size := 1) rfl (by rw [h]; rfl) (by simp [zN, Value.cells]), yL, h]
 rfl
def NewRd (w : World) (b : List UInt8) : Ending → World → Prop := fun x w' => ∃ rb wb bv, x = .returned (.pointer (some ⟨rb, 0, none⟩)) ∧ RdI w' rb wb bv b 0 0 0 ∧ Mod NoB w w' ∧ ∀ k, k = rb ∨ k = wb ∨ bv.ownBlock = some k → w.heap.size ≤ k
theorem rNew_any {own : Bool} {G : Nat → Prop} {v : Value} {w : World} {b : List UInt8} (h : Sl own w G 1 ByteC v b) (hl : b.length ≤ 4096) : Calls prog 211 #[v] w (NewRd w b) := by
 have H := hid h;clear h;go_enter func211, ntmps211;go_upto_region 1 with (fail);refine wpR [0, 1, 3, 1, 0, 1, 3] (by rfl) (by rfl) ?_;simp only [zz2]
 refine qS rfl (fun w' hS => qT 320 [] [] _ (by rfl) (by rfl) zero_wrong) ?_;simp only [nmz];refine wpDo rfl ?_
 refine xF 320 _ _ (by rfl) (by rfl) (fun w1 hB1 hm1 hs1 => ?_);replace hB1 : w1.heap[w.heap.size]? = some (.cells #[.int .i64 0, .int .i64 0] 320 (0, 0)) := hB1
 refine qA _ rfl rfl ?_;simp only [nmz];refine wpDo rfl ?_
 refine qG (qH 239 [.tmp 5] _ rfl _ func239 rfl (by kernel_rfl) [v] rfl _) (cloneB_any (H.out.keep0 hm1) (by omega)) ?_;rintro e w2 ⟨v2, rfl, hv2, hm2⟩
 have hvc : v2.cells = #[v2] := by obtain ⟨ad, cap, rfl, -, -⟩ := Sl.at hv2.sl; rfl
 have hbr := built_reader w.heap.size v2 hvc;refine ⟨_, rfl, ?_⟩;try simp only [nmz]
 refine qS rfl (fun w' hS => qT 344 [(0, _), (1, _)] [(0, .pointer (some ⟨w.heap.size, 0, none⟩)), (1, v2)] _ (by rfl) (by rfl) hbr) ?_;simp only [nmz]
 refine wpDo rfl ?_;refine xF 344 _ _ (by rfl) (by rfl) (fun w3 hB3 hm3 hs3 => ?_)
 replace hB3 : w3.heap[w2.heap.size]? = some (.cells #[.pointer (some ⟨w.heap.size, 0, none⟩), v2, .int .i64 0] 344 (0, 0)) := hB3;refine qD _ rfl rfl ?_;simp only [nmz]
 refine qB ?_;have hB1' := (hm2.trans0 hm3).obj id hB1;have hs1 := hs1;have hs2 := hm2.size;have hv3 := Bts.keep hv2 hm3 (fun _ _ => id)
 have hvk : ∀ k, v2.ownBlock = some k → w1.heap.size ≤ k ∧ k < w2.heap.size := fun k hk => Bts.lt hv2 hk
 have HT : Hid (NewRd w b (.returned (.pointer (some ⟨w2.heap.size, 0, none⟩))) w3) := hid ⟨_, _, v2, rfl, ⟨hB3, hB1', (hv3.sl.weak).mono (fun k hk => hk.2.2) (fun _ _ h => h), fun k hk => ⟨by have := hvk k hk; have := hm3.size; omega, by have := hvk k hk; omega, by have := hvk k hk; omega⟩, hl, by omega, fun _ => rfl, by omega⟩, (hm1.trans0 hm2).trans0 hm3, fun k hk => by
  rcases hk with rfl | rfl | hk
  · omega
  · omega
  · have := hvk k hk; omega⟩
 clear hB1 hB3 hm1 hm2 hm3 hv2 hv3 hB1' hvk;go_wp2;go_ret;exact HT.out
end
end
section
open Go.RowKit Go.Shelf Go.Proofs.Tryz Go.Lib
section
variable {P : Program} {w : World} {o : Oper} {a : Act}
theorem run_typeInfo {t : TypeId} {i : TypeInfo} (h : P.info? t = some i) : (typeInfo t).run P w = .ok i w := by simp [typeInfo, h]
theorem run_methP (n : Nat) (t e : TypeId) (p : Addr) (name : String) (f : FuncId)
 (hm : ((P.info? t).bind fun i => (i.methods.find? (·.name == name)).map fun m => (m.path, m.func)) = some (#[], some (f, true))) (ht : P.underlying t = some (.pointer e)) :
 (_root_.Go.method (n + 1) t (.pointer (some p)) name).run P w = .ok (f, .pointer (some p)) w := by
 cases hi : P.info? t with
 | none => simp [hi] at hm
 | some i =>
  simp only [hi, Option.bind_some] at hm
  cases hf : i.methods.find? (·.name == name) with
  | none => simp [hf] at hm
  | some m =>
   simp only [hf, Option.map_some, Option.some.injEq, Prod.mk.injEq] at hm;obtain ⟨hp, hfn⟩ := hm
   simp [_root_.Go.method, run_typeInfo hi, hf, hp, hfn, _root_.Go.follow, _root_.Go.receiverAt, run_underlying ht, _root_.Go.Place.get]
theorem run_wrapNil (ts : Array TypeId) (t : TypeId) (p : Addr) (s m : ByteArray) : (Builtin.ssaWrapNilChk_ ts t #[.pointer (some p), .string s, .string m]).run P w = .ok (.pointer (some p)) w := by rfl
theorem run_methV (n : Nat) (t e : TypeId) (p : Addr) (name : String) (f : FuncId) (v : Value) (d : TypeDesc)
 (hm : ((P.info? t).bind fun i => (i.methods.find? (·.name == name)).map fun m => (m.path, m.func)) = some (#[], some (f, false))) (ht : P.underlying t = some (.pointer e))
 (hu : P.underlying e = some d) (hd : (match d with | .struct _ | .array _ _ => true | _ => false) = false) (hc : w.cell? p = some v) :
 (_root_.Go.method (n + 1) t (.pointer (some p)) name).run P w = .ok (f, v) w := by
 have hagg : (isAgg e).run P w = .ok false w := by
  unfold isAgg;rw [Sem.run_bind, run_underlying hu w]
  cases d <;> simp_all
 cases hi : P.info? t with
 | none => simp [hi] at hm
 | some i =>
  simp only [hi, Option.bind_some] at hm
  cases hf : i.methods.find? (·.name == name) with
  | none => simp [hf] at hm
  | some m =>
   simp only [hf, Option.map_some, Option.some.injEq, Prod.mk.injEq] at hm;obtain ⟨hp, hfn⟩ := hm
   have hl : (loadVar e p).run P w = .ok v w := by
    unfold loadVar;rw [Sem.run_bind, hagg]
    simp [load, Sem.run, hc]
   simp [_root_.Go.method, run_typeInfo hi, hf, hp, hfn, _root_.Go.follow, _root_.Go.receiverAt, run_underlying ht, _root_.Go.Place.get, run_wrapNil, asAddr, hl, strVal]
theorem run_invoke (x : Operand) (name : String) (xs : List Operand) (ts : Array TypeId) (ho : o.op = .call { callee := .invoke x name, args := xs.toArray, argTypes := ts }) (t : TypeId) (v : Value) (hx : a.eval x = .iface t v) (f : FuncId) (r : Value)
 (hm : ∀ n, (_root_.Go.method (n + 1) t v name).run P w = .ok (f, r) w) (hpos : 0 < P.types.size) (fn : Func) (hf : P.funcs[f]? = some fn) (hb : fn.body.isSome = true) (hn : (fn.name == "runtime.NumGoroutine") = false) (args : List Value) (ha : xs.map a.eval = args) :
 (execOp a.eval o).run P w = .ok (.enter f (r :: args).toArray) w := by
 subst ha;have hb' : ¬ fn.body = none := by intro h; simp [h] at hb
 have hn' : ¬ fn.name = "runtime.NumGoroutine" := by simpa using hn
 obtain ⟨n, hn1⟩ : ∃ n, P.types.size + Made.depth = n + 1 := ⟨P.types.size + Made.depth - 1, by omega⟩;unfold execOp
 simp [ho, resolve, invoke, callMethod, hx, hn1, hm, callFunc, hf, hb', hn']
 exact List.take_of_length_le (by simp)
end
theorem pTypes : 0 < prog.types.size := of_decide_eq_true (by kernel_rfl)
theorem meth_Less : ((prog.info? 178).bind fun i => (i.methods.find? (·.name == "Less")).map fun m => (m.path, m.func)) = some (#[], some (345, false)) := by kernel_rfl
theorem meth_Len : ((prog.info? 178).bind fun i => (i.methods.find? (·.name == "Len")).map fun m => (m.path, m.func)) = some (#[], some (105, false)) := by kernel_rfl
theorem meth_Swap : ((prog.info? 178).bind fun i => (i.methods.find? (·.name == "Swap")).map fun m => (m.path, m.func)) = some (#[], some (348, false)) := by kernel_rfl
theorem meth_Push : ((prog.info? 178).bind fun i => (i.methods.find? (·.name == "Push")).map fun m => (m.path, m.func)) = some (#[], some (347, true)) := by kernel_rfl
theorem meth_Pop : ((prog.info? 178).bind fun i => (i.methods.find? (·.name == "Pop")).map fun m => (m.path, m.func)) = some (#[], some (346, true)) := by kernel_rfl
section
variable {α : Type} [Inhabited α] {enc : α → List Value} {e k : Nat} {base : Nat} {w : World} {v : Value} {l : List α}
omit [Inhabited α] in
theorem flat_split (enc : α → List Value) (l : List α) (i : Nat) (hi : i < l.length) : l.flatMap enc = (l.take i).flatMap enc ++ (enc l[i] ++ (l.drop (i + 1)).flatMap enc) := by
 conv => lhs; rw [← List.take_append_drop i l, List.drop_eq_getElem_cons hi]
 rw [List.flatMap_append, List.flatMap_cons]
omit [Inhabited α] in
theorem flat_set (enc : α → List Value) (l : List α) (i : Nat) (x : α) (hi : i < l.length) : (l.set i x).flatMap enc = (l.take i).flatMap enc ++ (enc x ++ (l.drop (i + 1)).flatMap enc) := by
 rw [List.set_eq_take_append_cons_drop, if_pos hi, List.flatMap_append, List.flatMap_cons]
theorem Gat.at (h : Gat enc e k base w v l) (hk : ∀ x, (enc x).length = k) (i : Nat) (hi : i < l.length) : ∃ g cap cur, v = .slice (some ⟨g, 0, none⟩) l.length cap ∧ w.heap[g]? = some (.cells cur e (0, 0)) ∧ CellsAt w g (i * k) (enc l[i]).toArray ∧ i * k + k ≤ cur.size ∧ base ≤ g ∧
 ∀ (x : α) (w' : World), w'.heap[g]? = some (.cells (zN cur (i * k) (enc x).toArray) e (0, 0)) → Gat enc e k base w' v (l.set i x) := by
 rcases h.2 with ⟨rfl, h0⟩ | ⟨g, cap, cur, rfl, hb, hg, hc, hm, hcs, ht⟩
 · omega
 · have hlen := len_enc hk l
   have hA : ((l.take i).flatMap enc).length = i * k := by rw [len_enc hk, List.length_take, Nat.min_eq_left (by omega)]
   have hC : ((l.drop (i + 1)).flatMap enc).length = (l.length - (i + 1)) * k := by rw [len_enc hk, List.length_drop]
   have hnk : i * k + k ≤ l.length * k := by
    have : (i + 1) * k ≤ l.length * k := Nat.mul_le_mul_right _ hi
    rwa [Nat.succ_mul] at this
   have hck : l.length * k ≤ cap * k := Nat.mul_le_mul_right _ hc;have hcur : cur.toList = l.flatMap enc ++ cur.toList.drop (l.length * k) := by rw [← ht, List.take_append_drop]
   have hsp := flat_split enc l i hi;refine ⟨g, cap, cur, rfl, hg, CellsAt.of_obj hg (fun j hj => ?_), by omega, hb, fun x w' hw' => ?_⟩
   · have hj' : j < k := by simpa [hk] using hj
     have h1 := flat_enc hk l i hi j hj';rw [← ht, List.getElem?_take_of_lt (by omega)] at h1;rw [Array.getElem?_toList] at h1;rw [h1]; simp
   · have hx := hk x
     have hrow : (zN cur (i * k) (enc x).toArray).toList = (l.set i x).flatMap enc ++ cur.toList.drop (l.length * k) := by
      rw [flat_set enc l i x hi];unfold zN;simp only [List.size_toArray, hx]
      have h1 : cur.toList.take (i * k) = (l.take i).flatMap enc := by
       conv => lhs; rw [hcur, hsp]
       rw [List.append_assoc, List.take_append_of_le_length (by omega), List.take_of_length_le (by omega)]
      have h2 : cur.toList.drop (i * k + k) = (l.drop (i + 1)).flatMap enc ++ cur.toList.drop (l.length * k) := by
       conv => lhs; rw [hcur, hsp]
       have e1 : ((l.take i).flatMap enc ++ (enc l[i] ++ (l.drop (i + 1)).flatMap enc)) ++ cur.toList.drop (l.length * k) = ((l.take i).flatMap enc ++ enc l[i]) ++ ((l.drop (i + 1)).flatMap enc ++ cur.toList.drop (l.length * k)) := by simp
       rw [e1, List.drop_append_of_le_length (by rw [List.length_append, hA, hk]; omega), List.drop_of_length_le (by rw [List.length_append, hA, hk]; omega), List.nil_append]
      rw [h1, h2]
      simp
     have hl2 : ((l.set i x).flatMap enc).length = l.length * k := by rw [len_enc hk, List.length_set]
     refine ⟨by rw [hl2, List.length_set], .inr ⟨g, cap, _, by rw [List.length_set], hb, hw', by rw [List.length_set]; exact hc, hm, by rw [jL (by simp [hk]; omega)]; exact hcs, ?_⟩⟩
     rw [hrow, List.length_set, List.take_append_of_le_length (by omega), List.take_of_length_le (by omega)]
end
def idE (x : List UInt8) : List Value := if x.length = 32 then idL x else List.replicate 32 (byteV 0)
theorem idE_len (x : List UInt8) : (idE x).length = 32 := by
 unfold idE
 split
 · rename_i h; exact idL_len h
 · simp
theorem idE_one (x : List UInt8) : ∀ c ∈ idE x, c.oneCell' = true := by
 unfold idE
 split
 · exact idL_one x
 · intro c hc; rw [List.eq_of_mem_replicate hc]; rfl
theorem idE_eq {x : List UInt8} (h : x.length = 32) : (idE x).toArray = qC x := by unfold idE; rw [if_pos h]; simp [idL]
abbrev GatI (base : Nat) (w : World) (v : Value) (l : List (List UInt8)) : Prop := Gat idE 24 32 base w v l
structure DgI (w : World) (hb base : Nat) (v : Value) (l : List (List UInt8)) : Prop where
 box : w.heap[hb]? = some (.cells #[v] 179 (0, 0))
 row : GatI base w v l
 ids : ∀ x ∈ l, x.length = 32
 ne : ∀ q, v.ownBlock = some q → q ≠ hb
 few : l.length ≤ 65536
theorem DgI.cell {w : World} {hb base : Nat} {v : Value} {l : List (List UInt8)} (h : DgI w hb base v l) : w.cell? ⟨hb, 0, none⟩ = some v := by simp [World.cell?, h.box]
theorem DgI.keep {S : Nat → Prop} {w w' : World} {hb base : Nat} {v : Value} {l : List (List UInt8)} (h : DgI w hb base v l) (hm : Mod S w w') (h1 : ¬ S hb) (h2 : ∀ q, v.ownBlock = some q → ¬ S q) : DgI w' hb base v l :=
 ⟨hm.obj h1 h.box, h.row.keep hm h2, h.ids, h.ne, h.few⟩
theorem DgI.keep0 {w w' : World} {hb base : Nat} {v : Value} {l : List (List UInt8)} (h : DgI w hb base v l) (hm : Mod NoB w w') : DgI w' hb base v l := h.keep hm id (fun _ _ => id)
theorem atD_mem {l : List (List UInt8)} {i : Nat} (hi : i < l.length) : atD l i ∈ l := by rw [at_lt hi]; exact List.getElem_mem _
section
variable {w : World} {hb base : Nat} {v : Value} {l : List (List UInt8)}
theorem DgI.at (h : DgI w hb base v l) (i : Nat) (hi : i < l.length) : ∃ g cap cur, v = .slice (some ⟨g, 0, none⟩) l.length cap ∧ w.heap[g]? = some (.cells cur 24 (0, 0)) ∧ CellsAt w g (i * 32) (qC (atD l i)) ∧ i * 32 + 32 ≤ cur.size ∧ base ≤ g ∧ (atD l i).length = 32 ∧
 ∀ (x : List UInt8) (w' : World), x.length = 32 → w'.heap[g]? = some (.cells (zN cur (i * 32) (qC x)) 24 (0, 0)) → GatI base w' v (l.set i x) := by
 obtain ⟨g, cap, cur, h1, h2, h3, h4, h5, h6⟩ := h.row.at idE_len i hi;have hm := h.ids _ (atD_mem hi);rw [at_lt hi] at hm ⊢
 refine ⟨g, cap, cur, h1, h2, ?_, h4, h5, hm, fun x w' hx hw => h6 x w' ?_⟩
 · rw [← idE_eq hm]; exact h3
 · rw [idE_eq hx]; exact hw
theorem dgLen_any {ad : Option Addr} {n cap : Nat} (w : World) : Calls prog 105 #[.slice ad n cap] w (RetE (.int .i64 n) w) := by
 go_enter func105, ntmps105;go_upto_region 1 with (fail);refine wpR [3, 3, 3] (by rfl) (by rfl) ?_;simp only [zz2];refine qA _ rfl rfl ?_;simp only [nmz]
 refine zP _ _ _ _ _ rfl rfl rfl (by kernel_rfl) ?_;simp only [nmz];refine qD _ rfl rfl ?_;simp only [nmz];refine qB ?_;go_wp2;go_ret;exact ⟨rfl, rfl⟩
theorem dgLess_any (h : DgI w hb base v l) (i j : Nat) (hi : i < l.length) (hj : j < l.length) : Calls prog 345 #[v, .int .i64 i, .int .i64 j] w (RetM (.bool (decide (atD l i < atD l j))) w) := by
 obtain ⟨g, cap, cur, rfl, hg, hci, -, -, hli, -⟩ := h.at i hi;obtain ⟨g2, cap2, cur2, he, hg2, hcj, -, -, hlj, -⟩ := h.at j hj
 cases he
 have hneg := cmpI_neg (atD l i) (atD l j);have hic := qI (atD l i);have hjc := qI (atD l j);rw [hli] at hic;rw [hlj] at hjc;generalize atD l i = x at *
 generalize atD l j = y at *;obtain ⟨c, hc⟩ : ∃ c, cmpI x y = c := ⟨_, rfl⟩;have hsc := fun w' => shaCompare_any x y hli hlj w';rw [hc] at hneg;simp only [hc] at hsc
 have hd : decide (c < 0) = decide (x < y) := by rw [decide_eq_decide]; exact hneg
 rw [← hd];clear h hc hd hneg;go_enter func345, ntmps345;go_upto_region 1 with (fail);have hS : Mod NoB w w.drew := (Mod.refl _ _).drew
 refine wpRP [(0, 3), (1, 3), (2, 3), (3, 0), (4, 3), (5, 3), (6, 3), (7, 0), (8, 1), (9, 3), (10, 3)] [] (fun w' => Mod NoB w w') hS ?_;simp only [zz4]
 refine qA _ rfl rfl ?_;simp only [nmz];refine qA _ rfl rfl ?_;simp only [nmz]
 refine qX _ _ _ _ _ _ _ _ _ rfl rfl rfl rfl underlying179 (n := 32) (by kernel_rfl) hi ?_;simp only [nmz]
 refine wpLA 24 g (i * 32) (qC x) (fun w' hS => hci.keep hS id) underlying24 32 hic ?_;simp only [nmz];refine qA _ rfl rfl ?_;simp only [nmz]
 refine qA _ rfl rfl ?_;simp only [nmz];refine qX _ _ _ _ _ _ _ _ _ rfl rfl rfl rfl underlying179 (n := 32) (by kernel_rfl) hj ?_;simp only [nmz]
 refine wpLA 24 g (j * 32) (qC y) (fun w' hS => hcj.keep hS id) underlying24 32 hjc ?_;simp only [nmz];refine qW rfl (fun K hK => ?_)
 refine qG (qH 35 [.tmp 10, .tmp 14] _ rfl _ func35 rfl (by kernel_rfl) [.agg (qC x), .agg (qC y)] rfl _) (hsc _) ?_;rintro e w2 ⟨rfl, hg2⟩
 have hS2 := hS.trans0 hg2.mod;refine ⟨_, rfl, hK _ _ hS2 ?_⟩;clear hK K;try simp only [nmz]
 refine qY _ _ _ _ _ _ _ _ rfl rfl rfl rfl rfl (decide (c < 0)) rfl ?_;simp only [nmz];refine qD _ rfl rfl ?_;simp only [nmz];refine qB ?_;go_wp2;go_ret
 exact ⟨rfl, hS2⟩
def DgM (w : World) (v : Value) (hb : Nat) (w' : World) (v' : Value) : Prop := Mod (fun k => k = hb ∨ v.ownBlock = some k) w w' ∧ ∀ q, v'.ownBlock = some q → v.ownBlock = some q ∨ w.heap.size ≤ q
theorem DgM.refl (w : World) (v : Value) (hb : Nat) : DgM w v hb w v := ⟨Mod.refl _ _, fun _ h => .inl h⟩
theorem DgM.trans {w w1 w2 : World} {v v1 v2 : Value} {hb : Nat} (h : DgM w v hb w1 v1) (k : DgM w1 v1 hb w2 v2) : DgM w v hb w2 v2 :=
 ⟨h.1.trans k.1 (fun q hq e => e.elim .inl fun e => (h.2 q e).elim .inr fun e => by omega), fun q hq => (k.2 q hq).elim (h.2 q) fun e => .inr (Nat.le_trans h.1.size e)⟩
theorem DgM.trans0 {w w1 w2 : World} {v v1 : Value} {hb : Nat} (h : DgM w v hb w1 v1) (k : Mod NoB w1 w2) : DgM w v hb w2 v1 := ⟨h.1.trans k (fun _ _ h => h.elim), h.2⟩
def DgTo (w : World) (hb base : Nat) (v : Value) (l' : List (List UInt8)) (w' : World) : Prop := ∃ v', DgI w' hb base v' l' ∧ DgM w v hb w' v'
theorem dgSwap_any (h : DgI w hb base v l) (i j : Nat) (hi : i < l.length) (hj : j < l.length) : Calls prog 348 #[v, .int .i64 i, .int .i64 j] w (fun e w' => e = .returned (.tuple #[]) ∧ DgTo w hb base v (swp l i j) w') := by
 obtain ⟨g, cap, cur, rfl, hg, hci, hszi, hbg, hli, hpi⟩ := h.at i hi;obtain ⟨g2, cap2, cur2, he, hg2, hcj, hszj, -, hlj, -⟩ := h.at j hj
 cases he
 have H := hid h;have hic := qI (atD l i);have hjc := qI (atD l j);rw [hli] at hic;rw [hlj] at hjc;obtain ⟨x, hx⟩ : ∃ x, atD l i = x := ⟨_, rfl⟩
 obtain ⟨y, hy⟩ : ∃ y, atD l j = y := ⟨_, rfl⟩;rw [hx] at hci hli hic;rw [hy] at hcj hlj hjc;have HXY : Hid (swp l i j = (l.set i y).set j x) := hid (by unfold swp; rw [hx, hy])
 have HPI := hid hpi;have hgn : g ≠ hb := h.ne g rfl;clear h hpi hx hy hg2;go_enter func348, ntmps348;go_upto_region 0 with (fail);have hS : Mod NoB w w.drew := (Mod.refl _ _).drew
 refine wpRP [(0, 3), (1, 3), (2, 3), (3, 3), (4, 3), (5, 3), (6, 3), (7, 0), (8, 3), (9, 3), (10, 3), (11, 0), (12, 3), (13, 2), (14, 3), (15, 2)] [13, 15] (fun w' => Mod NoB w w') hS ?_
 simp only [zz4];refine qA _ rfl rfl ?_;simp only [nmz];refine qA _ rfl rfl ?_;simp only [nmz];refine qA _ rfl rfl ?_;simp only [nmz]
 refine qA _ rfl rfl ?_;simp only [nmz];refine qA _ rfl rfl ?_;simp only [nmz];refine qA _ rfl rfl ?_;simp only [nmz]
 refine qX _ _ _ _ _ _ _ _ _ rfl rfl rfl rfl underlying179 (n := 32) (by kernel_rfl) hj ?_;simp only [nmz]
 refine wpLA 24 g (j * 32) (qC y) (fun w' hS => hcj.keep hS id) underlying24 32 hjc ?_;simp only [nmz];refine qA _ rfl rfl ?_;simp only [nmz]
 refine qA _ rfl rfl ?_;simp only [nmz];refine qX _ _ _ _ _ _ _ _ _ rfl rfl rfl rfl underlying179 (n := 32) (by kernel_rfl) hi ?_;simp only [nmz]
 refine wpLA 24 g (i * 32) (qC x) (fun w' hS => hci.keep hS id) underlying24 32 hic ?_;simp only [nmz]
 refine qX _ _ _ _ _ _ _ _ _ rfl rfl rfl rfl underlying179 (n := 32) (by kernel_rfl) hi ?_;simp only [nmz];refine zR rfl (fun K hK => ?_)
 refine qM 24 _ _ g (i * 32) (qC y) (by rfl) (by rfl) (by rfl) (qZ _) 32 (by kernel_rfl) hjc _ _ (hS.obj id hg) (by omega) (fun w3 hB3 hm3 => ?_)
 have hm03 : Mod (fun k => k = g) w w3 := (hS.mono (fun _ _ h => h.elim)).trans hm3 (fun _ _ h => h);have hrow3 := HPI.out y w3 hlj hB3
 have hD3 : DgI w3 hb base (.slice (some ⟨g, 0, none⟩) l.length cap) (l.set i y) := ⟨hm03.objB (fun e => hgn e.symm) H.out.box, hrow3, fun q hq => by
  rcases List.mem_or_eq_of_mem_set hq with hq | hq
  · exact H.out.ids q hq
  · rw [hq]; exact hlj, H.out.ne, by rw [List.length_set]; exact H.out.few⟩
 obtain ⟨g4, cap4, cur4, he4, hg4, -, hsz4, -, -, hp4⟩ := hD3.at j (by rw [List.length_set]; exact hj);rw [List.length_set] at he4
 cases he4
 refine hK _ _ ?_;clear hK K;try simp only [nmz]
 refine qX _ _ _ _ _ _ _ _ _ rfl rfl rfl rfl underlying179 (n := 32) (by kernel_rfl) hj ?_;simp only [nmz];refine zR rfl (fun K hK => ?_)
 refine qM 24 _ _ g (j * 32) (qC x) (by rfl) (by rfl) (by rfl) (qZ _) 32 (by kernel_rfl) hic _ _ hg4 (by omega) (fun w5 hB5 hm5 => ?_)
 have hrow5 := hp4 x w5 hli hB5
 have HR : Hid (DgTo w hb base (.slice (some ⟨g, 0, none⟩) l.length cap) (swp l i j) w5) := hid ⟨_, ⟨hm5.objB (fun e => hgn e.symm) hD3.box, by rw [HXY.out]; exact hrow5, fun q hq => by
  rw [HXY.out] at hq
  rcases List.mem_or_eq_of_mem_set hq with hq | hq
  · exact hD3.ids q hq
  · rw [hq]; exact hli, H.out.ne, by rw [swp_len]; exact H.out.few⟩, (hm03.mono (fun k _ e => .inr (by have e' : k = g := e; rw [e']; rfl))).trans hm5 (fun k _ e => .inr (by have e' : k = g := e; rw [e']; rfl)), fun q hq => .inl hq⟩
 refine hK _ _ ?_;clear hm3 hm5 hB3 hB5 hrow3 hrow5 hp4 hg4 hD3 hm03;clear hK K;try simp only [nmz]
 refine qB ?_;clear hS;go_wp2
 go_end0
 exact ⟨rfl, HR.out⟩
end
section
variable {P : Program} {w : World} {o : Oper} {a : Act}
theorem exec_assert (x : Operand) (ti t : TypeId) (v : Value) (ho : o.op = .typeAssert x ti t false) (hx : a.eval x = .iface t v) (hn : (∀ ms, P.underlying t ≠ some (.interface ms)) ∧ (P.underlying t).isSome = true) : (execOp a.eval o).run P w = .ok (.value v) w := by
 unfold execOp;simp only [ho, hx];obtain ⟨hn, hs⟩ := hn;obtain ⟨d, hd⟩ := Option.isSome_iff_exists.1 hs
 cases d <;> simp [Instr.typeAssert, run_underlying hd]
 exact absurd hd (hn _)
theorem exec_mkIface (x : Operand) (t : TypeId) (v : Value) (ho : o.op = .makeInterface t x) (hx : a.eval x = v) (hn : (∀ ms, P.underlying t ≠ some (.interface ms)) ∧ (P.underlying t).isSome = true) : (execOp a.eval o).run P w = .ok (.value (.iface t v)) w := by
 subst hx;unfold execOp;simp only [ho];obtain ⟨hn, hs⟩ := hn;obtain ⟨d, hd⟩ := Option.isSome_iff_exists.1 hs
 cases d <;> simp [Instr.makeInterface, run_underlying hd]
 exact absurd hd (hn _)
end
theorem flat_take {α : Type} {enc : α → List Value} {k : Nat} (hk : ∀ x, (enc x).length = k) : ∀ (l : List α) (i : Nat), i ≤ l.length → (l.flatMap enc).take (i * k) = (l.take i).flatMap enc := by
 intro l
 induction l with
 | nil => intro i hi; simp
 | cons x l ih =>
  intro i hi
  cases i with
  | zero => simp
  | succ i =>
   have hi' : i ≤ l.length := by simpa using hi
   rw [List.flatMap_cons, List.take_succ_cons, List.flatMap_cons, ← ih i hi', Nat.succ_mul, List.take_append, hk, List.take_of_length_le (by rw [hk]; omega), show i * k + k - k = i * k by omega]
theorem wp_gatV {α : Type} {P : Program} {o : Oper} {a : Act} {w : World} {K : Act → World → Prop} {Q : Exit → Act → World → Prop} (enc : α → List Value) (s x : Operand) (t e : TypeId) (z : Value) (k bytes : Nat) (ho : o.op = .call { callee := .builtin .append, args := #[s, x], argTypes := #[t, t] })
 (ht : P.underlying t = some (.slice e)) (hi : (P.info? e).map (fun i => (i.zero, i.size, i.bytes)) = some (some z, k, bytes)) (hzs : z.cells.size = k) (hk0 : 0 < k) (h1 : ∀ x, ∀ c ∈ enc x, c.oneCell' = true)
 (base : Nat) (v : Value) (l : List α) (hs : a.eval s = v) (hown : Gat enc e k base w v l) (u : Value) (m : List α) (hx : a.eval x = u) (hsrc : Src w k u m.length (m.flatMap enc)) (h63 : l.length + m.length ≤ maxLen) (hlen : (l.length + m.length) * bytes ≤ 140737488355328) (hbase : base ≤ w.heap.size)
 (h : ∀ v' w', Gat enc e k base w' v' (l ++ m) → Mod (fun q => v.ownBlock = some q) w w' → (v'.ownBlock = v.ownBlock ∨ v'.ownBlock = some w.heap.size) → K (a.put o.dst v') w') : o.wp P a w K Q := by
 refine wp_append s x t e z k bytes ho ht hi hzs hk0 base v l.length _ hs hown u m.length _ hx hsrc (fun c hc => ?_) h63 hlen hbase (fun v' w' ho' hg hv => ?_)
 · obtain ⟨y, _, hy⟩ := List.mem_flatMap.1 hc
   exact h1 y c hy
 · refine h v' w' ?_ ((Mod.refl _ _).grown hg (fun k e _ => e)) hv
   unfold Gat;rw [List.length_append, List.flatMap_append];exact ho'
theorem id_noIface : (∀ ms, prog.underlying 24 ≠ some (.interface ms)) ∧ (prog.underlying 24).isSome = true := ⟨fun ms h => (by rw [underlying24] at h; cases h), by rw [underlying24]; rfl⟩
theorem pdg_noIface : (∀ ms, prog.underlying 178 ≠ some (.interface ms)) ∧ (prog.underlying 178).isSome = true := ⟨fun ms h => (by rw [underlying178] at h; cases h), by rw [underlying178]; rfl⟩
section
variable {w : World} {hb base : Nat} {v : Value} {l : List (List UInt8)}
theorem dgPush_any (h : DgI w hb base v l) (hbw : base ≤ w.heap.size) (x : List UInt8) (hx : x.length = 32) (hfew : l.length < 65536) : Calls prog 347 #[.pointer (some ⟨hb, 0, none⟩), .iface 24 (.agg (qC x))] w (fun e w' => e = .returned (.tuple #[]) ∧ DgTo w hb base v (l ++ [x]) w') := by
 have H := hid h;have hbn := h.ne;have hbs : hb < w.heap.size := (Array.getElem?_eq_some_iff.1 h.box).1;have hic : (qC x).size = 32 := by rw [qI, hx]
 have HE := hid (idE_eq hx);obtain ⟨ad, cap, rfl⟩ := h.row.slice;clear h;go_enter func347, ntmps347;go_upto_region 0 with (fail)
 have hS : Mod (fun k => (Value.slice ad l.length cap).ownBlock = some k) w w.drew := (Mod.refl _ _).drew;have HD := hid (H.out.keep0 (Mod.refl NoB w).drew)
 refine wpRP [(0, 3), (1, 3), (2, 3), (3, 0), (4, 3), (5, 1), (6, 1), (7, 1), (8, 3), (9, 2)] [9] (fun w' => Mod (fun k => (Value.slice ad l.length cap).ownBlock = some k) w w') hS ?_
 simp only [zz4];refine qA _ rfl rfl ?_;simp only [nmz];refine qA _ rfl rfl ?_;simp only [nmz];refine qF _ _ rfl rfl rfl ?_;simp only [nmz]
 refine wpLd 179 hb 0 (fun w' hS => hS.cell (fun e => hbn hb e rfl) H.out.cell) underlying179 ?_;simp only [nmz];refine qA _ rfl rfl ?_;simp only [nmz]
 refine wpX rfl (exec_assert _ _ 24 (.agg (qC x)) (by rfl) (by rfl) id_noIface) hS ?_;try simp only [nmz]
 refine qW rfl (fun K hK => ?_)
 refine zC 179 24 _ (.agg (qC x)) (.agg (qC (List.replicate 32 0))) 32 (by rfl) (by rfl) underlying179 (by kernel_rfl) (by omega) (by omega) hic (fun w3 hB3 hm3 hs3 => ?_)
 have hsrc := src_lit (enc := idE) (e := 24) (x := x) idE_len (by rw [HE.out]; exact hB3);replace HD := hid (HD.out.keep0 hm3)
 have hS3 : Mod (fun k => (Value.slice ad l.length cap).ownBlock = some k) w w3 := hS.trans hm3 (fun _ _ h => h.elim);refine hK _ _ hS3 ?_;clear hK K;try simp only [nmz]
 refine qW rfl (fun K hK => ?_)
 refine wp_gatV idE _ _ 179 24 (.agg (qC (List.replicate 32 0))) 32 32 (by rfl) underlying179 id_i (by kernel_rfl) (by omega) idE_one base _ l (by rfl) HD.out.row _ [x] (by rfl) hsrc (by unfold maxLen; simp; omega) (by simp; omega) (by have := hS3.size; omega) (fun v4 w4 hg4 hm4 hvv4 => ?_)
 have hS4 : Mod (fun k => (Value.slice ad l.length cap).ownBlock = some k) w w4 := hS3.trans hm4 (fun k _ e => e);have hbx4 := hm4.obj (b := hb) (fun e => hbn hb e rfl) HD.out.box
 have hv1 : v4.oneCell' = true := xX hg4
 have hn4 : ∀ q, v4.ownBlock = some q → q ≠ hb := fun q hq => by
  rcases hvv4 with e | e
  · rw [e] at hq; exact hbn q hq
  · rw [e] at hq
    have := Option.some.inj hq;have := hS3.size;omega
 refine hK _ _ hS4 ?_;clear hK K;refine qF _ _ rfl rfl rfl ?_;simp only [nmz];refine zR rfl (fun K hK => ?_)
 refine zA 179 _ _ hb 0 v4 (by rfl) (by rfl) (by rfl) hv1 (by kernel_rfl) _ _ hbx4 (by simp) (fun w5 hB5 hm5 => ?_)
 replace hB5 : w5.heap[hb]? = some (.cells #[v4] 179 (0, 0)) := hB5
 have HR : Hid (DgTo w hb base (.slice ad l.length cap) (l ++ [x]) w5) := hid ⟨v4, ⟨hB5, hg4.keep hm5 (fun q hq e => hn4 q hq e), fun q hq => by
  rcases List.mem_append.1 hq with hq | hq
  · exact H.out.ids q hq
  · simp at hq; rw [hq]; exact hx, hn4, by simp; omega⟩, (hS4.mono (fun _ _ h => .inr h)).trans hm5 (fun _ _ h => .inl h), fun q hq => by
  rcases hvv4 with e | e
  · rw [e] at hq; exact .inl hq
  · rw [e] at hq
    have := Option.some.inj hq;have := hS3.size
    exact .inr (by omega)⟩
 clear hS hS3 hS4 hm4 hm5 hB3 hm3 hB5 hg4 hbx4 hsrc HD;refine hK _ _ ?_;clear hK K;try simp only [nmz]
 refine qB ?_;go_wp2
 go_end0
 exact ⟨rfl, HR.out⟩
def PopR (w : World) (hb base : Nat) (v : Value) (l : List (List UInt8)) : Ending → World → Prop := fun e w' => e = .returned (.iface 24 (.agg (qC (atD l (l.length - 1))))) ∧ DgTo w hb base v l.dropLast w'
theorem dgPop_any (h : DgI w hb base v l) (hbw : base ≤ w.heap.size) (hne : 0 < l.length) : Calls prog 346 #[.pointer (some ⟨hb, 0, none⟩)] w (PopR w hb base v l) := by
 have H := hid h;have hbl := h.ne;have hbhw : hb < w.heap.size := (Array.getElem?_eq_some_iff.1 h.box).1;have hfew := h.few
 obtain ⟨g, cap, cur, rfl, hg, hci, hszi, hbg, hli, -⟩ := h.at (l.length - 1) (by omega);have hrow := h.row;have hto := owns_to hrow (i := l.length - 1) (by omega)
 have hcap : l.length ≤ cap := by
  rcases hrow.2 with ⟨h1, h2⟩ | ⟨g', cap', cur', h1, h2, h3, h4, h5⟩
  · omega
  · cases h1; exact h4
 have hd : l.dropLast = l.take (l.length - 1) := List.dropLast_eq_take;have hft := flat_take idE_len l (l.length - 1) (by omega)
 have hlt : (l.take (l.length - 1)).length = l.length - 1 := by rw [List.length_take]; omega
 unfold PopR;obtain ⟨x, hx⟩ : ∃ x, atD l (l.length - 1) = x := ⟨_, rfl⟩;have hic := qI (atD l (l.length - 1));rw [hli] at hic;rw [hx] at hic hci hli ⊢
 obtain ⟨n1, hn1⟩ : ∃ n, l.length - 1 = n := ⟨_, rfl⟩;rw [hn1] at hto hft hlt hci hszi hd;obtain ⟨sv, hsv⟩ : ∃ q, sliced (some ⟨g, 0, none⟩) 0 n1 cap 32 = q := ⟨_, rfl⟩
 have HSV := hid hsv;rw [hsv] at hto;have HTO := hid hto;have hs1 : sv.oneCell' = true := by rw [← hsv]; rfl
 have HD := hid hd;have HFT := hid hft;have HLT := hid hlt;clear h hrow hto hsv hd hft hlt hx;go_enter func346, ntmps346;go_upto_region 1 with (fail)
 have hS : Mod NoB w w.drew := (Mod.refl _ _).drew
 refine wpRP [(0, 3), (1, 3), (2, 0), (3, 3), (4, 3), (5, 0), (6, 3), (7, 3), (8, 3), (9, 0), (10, 1), (11, 2)] [11] (fun w' => Mod NoB w w') hS ?_;simp only [zz4]
 refine qA _ rfl rfl ?_;simp only [nmz];refine qF _ _ rfl rfl rfl ?_;simp only [nmz];refine wpLd 179 hb 0 (fun w' hS => hS.cell id H.out.cell) underlying179 ?_
 simp only [nmz];refine qA _ rfl rfl ?_;simp only [nmz];refine qF _ _ rfl rfl rfl ?_;simp only [nmz]
 refine wpLd 179 hb 0 (fun w' hS => hS.cell id H.out.cell) underlying179 ?_;simp only [nmz];refine zP _ _ _ _ _ rfl rfl rfl (by kernel_rfl) ?_;simp only [nmz]
 refine zZ _ _ _ _ ((l.length : Nat) : Int) 1 (n1 : Int) rfl rfl rfl rfl (by omega) (by omega) (by omega) ?_;simp only [nmz]
 refine qX _ _ _ _ _ _ _ _ _ rfl rfl rfl rfl underlying179 (n := 32) (by kernel_rfl) (by omega) ?_;simp only [nmz]
 refine wpLA 24 g (n1 * 32) (qC x) (fun w' hS => hci.keep hS id) underlying24 32 hic ?_;simp only [nmz];refine qW rfl (fun K hK => ?_)
 refine qU 24 _ (by rfl) idZ (fun w3 hB3 hm3 hs3 => ?_);replace hB3 : w3.heap[w.drew.heap.size]? = some (.cells (qC (List.replicate 32 0)) 24 (0, 0)) := hB3
 have hS3 := hS.trans0 hm3;refine hK _ _ hS3 ?_;clear hK K;try simp only [nmz]
 refine zR rfl (fun K hK => ?_)
 refine qM 24 _ _ w.drew.heap.size 0 (qC x) (by rfl) (by rfl) (by rfl) (qZ _) 32 (by kernel_rfl) hic _ _ hB3 (by rw [hic, qI]; simp) (fun w4 hB4 hm4 => ?_)
 rw [qK (by rw [hic, qI]; simp)] at hB4;have hS4 : Mod NoB w w4 := hS3.transB hm4 hS.size;refine hK _ _ ?_;clear hK K;try simp only [nmz]
 refine qB ?_;have hwd : w.heap.size ≤ w.drew.heap.size := hS.size;generalize hb3 : w.drew.heap.size = b3 at *;have H4 := hid (H.out.keep0 hS4);have HM4 := hid hS4
 clear hS hS3 hS4 hm3 hm4 hB3 hci hg;go_upto_region 2 with (fail);have hS : Mod NoB w4 w4.drew := (Mod.refl _ _).drew
 refine wpRP [(0, 3), (1, 3), (2, 3), (3, 0), (4, 3), (5, 3), (6, 0), (7, 3), (8, 3), (9, 3), (10, 3), (11, 2)] [11] (fun w' => Mod NoB w4 w') hS ?_;simp only [zz4]
 refine qA _ rfl rfl ?_;simp only [nmz];refine qA _ rfl rfl ?_;simp only [nmz];refine qF _ _ rfl rfl rfl ?_;simp only [nmz]
 refine wpLd 179 hb 0 (fun w' hS => hS.cell id H4.out.cell) underlying179 ?_;simp only [nmz];refine qA _ rfl rfl ?_;simp only [nmz];refine qF _ _ rfl rfl rfl ?_
 simp only [nmz];refine wpLd 179 hb 0 (fun w' hS => hS.cell id H4.out.cell) underlying179 ?_;simp only [nmz];refine zP _ _ _ _ _ rfl rfl rfl (by kernel_rfl) ?_;simp only [nmz]
 refine zZ _ _ _ _ ((l.length : Nat) : Int) 1 (n1 : Int) rfl rfl rfl rfl (by omega) (by omega) (by omega) ?_;simp only [nmz]
 refine wpPi_sliceTo 179 24 _ _ _ _ _ n1 32 rfl rfl rfl rfl underlying179 (by kernel_rfl) (by omega) ?_;simp only [nmz];refine qF _ _ rfl rfl rfl ?_;simp only [nmz]
 refine zR rfl (fun K hK => ?_);rw [HSV.out]
 refine zA 179 _ _ hb 0 sv (by rfl) (by rfl) (by rfl) hs1 (by kernel_rfl) _ _ (hS.obj id H4.out.box) (by simp) (fun w5 hB5 hm5 => ?_)
 replace hB5 : w5.heap[hb]? = some (.cells #[sv] 179 (0, 0)) := hB5
 have hM5 : Mod (fun k => k = hb) w w5 := ((HM4.out.trans0 hS).mono (fun _ _ h => h.elim)).trans hm5 (fun _ _ h => h)
 have hrow5 : GatI base w5 sv (l.take n1) := by
  have h1 := HTO.out.1
  have h2 : GatI base w sv (l.take n1) := by
   unfold GatI Gat;rw [HLT.out, ← HFT.out];exact h1
  exact h2.keep hM5 (fun q hq e => hbl q (by rw [← HTO.out.2]; exact hq) e)
 have HR : Hid (DgTo w hb base (.slice (some ⟨g, 0, none⟩) l.length cap) l.dropLast w5) := hid ⟨sv, ⟨hB5, by rw [HD.out]; exact hrow5, fun q hq => by
  rw [HD.out] at hq
  exact H.out.ids q (List.mem_of_mem_take hq), fun q hq => hbl q (by rw [← HTO.out.2]; exact hq), by rw [HD.out, HLT.out]; omega⟩, hM5.mono (fun _ _ h => .inl h), fun q hq => .inl (by rw [← HTO.out.2]; exact hq)⟩
 have hB45 := hm5.objB (b := b3) (by omega) (hS.obj id hB4);refine hK _ _ ?_;clear hK K;try simp only [nmz]
 refine qB ?_;clear hS hm5 hB5 hM5 hrow5 hB4;go_upto_region 3 with (fail);refine wpR [1, 1, 3] (by rfl) (by rfl) ?_;simp only [zz2]
 refine wpXA 24 b3 0 (qC x) (CellsAt.whole hB45) underlying24 32 hic trivial ?_;try simp only [nmz]
 refine wpX rfl (exec_mkIface _ 24 (.agg (qC x)) (by rfl) (by rfl) id_noIface) trivial ?_;refine qD _ rfl rfl ?_;simp only [nmz];refine qB ?_;clear hB45;go_wp2
 go_ret;exact ⟨rfl, HR.out⟩
end
section
variable {P : Program} {w : World} {o : Oper} {a : Act}
theorem exec_quo2 (t : TypeId) (x y : Operand) (yt : TypeId) (m d : Int) (ho : o.op = .binOp .quo t x y yt) (hx : a.eval x = .int .i64 m) (hy : a.eval y = .int .i64 2) (hd : Int.tdiv m 2 = d) (h1 : -9223372036854775808 ≤ d) (h2 : d ≤ 9223372036854775807) : (execOp a.eval o).run P w = .ok (.value (.int .i64 d)) w := by
 subst hd;have hw := wrap_in h1 h2;unfold execOp
 simp [ho, hx, hy, eqGuard, binOp, Op.intArith, Op.intDiv, hw]
end
section
variable {w : World} {hb base : Nat} {v : Value} {l : List (List UInt8)} {o : Oper} {a : Act}
theorem DgI.stay (h : DgI w hb base v l) : DgTo w hb base v l w := ⟨v, h, DgM.refl _ _ _⟩
theorem inv_Less (h : DgI w hb base v l) (x y z : Operand) (ts : Array TypeId) (i j : Nat) (ho : o.op = .call { callee := .invoke x "Less", args := #[y, z], argTypes := ts }) (hx : a.eval x = .iface 178 (.pointer (some ⟨hb, 0, none⟩))) (hy : a.eval y = .int .i64 i) (hz : a.eval z = .int .i64 j) :
 (execOp a.eval o).run prog w = .ok (.enter 345 #[v, .int .i64 i, .int .i64 j]) w :=
 run_invoke x "Less" [y, z] ts ho _ _ hx 345 v (fun n => run_methV n 178 179 _ "Less" 345 v _ meth_Less underlying178 underlying179 rfl h.cell) pTypes _ func345 rfl (by kernel_rfl) [.int .i64 i, .int .i64 j] (by simp [hy, hz])
theorem inv_Swap (h : DgI w hb base v l) (x y z : Operand) (ts : Array TypeId) (i j : Nat) (ho : o.op = .call { callee := .invoke x "Swap", args := #[y, z], argTypes := ts }) (hx : a.eval x = .iface 178 (.pointer (some ⟨hb, 0, none⟩))) (hy : a.eval y = .int .i64 i) (hz : a.eval z = .int .i64 j) :
 (execOp a.eval o).run prog w = .ok (.enter 348 #[v, .int .i64 i, .int .i64 j]) w :=
 run_invoke x "Swap" [y, z] ts ho _ _ hx 348 v (fun n => run_methV n 178 179 _ "Swap" 348 v _ meth_Swap underlying178 underlying179 rfl h.cell) pTypes _ func348 rfl (by kernel_rfl) [.int .i64 i, .int .i64 j] (by simp [hy, hz])
theorem inv_Len (h : DgI w hb base v l) (x : Operand) (ts : Array TypeId) (ho : o.op = .call { callee := .invoke x "Len", args := #[], argTypes := ts }) (hx : a.eval x = .iface 178 (.pointer (some ⟨hb, 0, none⟩))) :
 (execOp a.eval o).run prog w = .ok (.enter 105 #[v]) w :=
 run_invoke x "Len" [] ts ho _ _ hx 105 v (fun n => run_methV n 178 179 _ "Len" 105 v _ meth_Len underlying178 underlying179 rfl h.cell) pTypes _ func105 rfl (by kernel_rfl) [] rfl
theorem inv_Push (u : Value) (x y : Operand) (ts : Array TypeId) (ho : o.op = .call { callee := .invoke x "Push", args := #[y], argTypes := ts }) (hx : a.eval x = .iface 178 (.pointer (some ⟨hb, 0, none⟩))) (hy : a.eval y = u) :
 (execOp a.eval o).run prog w = .ok (.enter 347 #[.pointer (some ⟨hb, 0, none⟩), u]) w :=
 run_invoke x "Push" [y] ts ho _ _ hx 347 _ (fun n => run_methP n 178 179 _ "Push" 347 meth_Push underlying178) pTypes _ func347 rfl (by kernel_rfl) [u] (by simp [hy])
theorem inv_Pop (x : Operand) (ts : Array TypeId) (ho : o.op = .call { callee := .invoke x "Pop", args := #[], argTypes := ts }) (hx : a.eval x = .iface 178 (.pointer (some ⟨hb, 0, none⟩))) :
 (execOp a.eval o).run prog w = .ok (.enter 346 #[.pointer (some ⟨hb, 0, none⟩)]) w :=
 run_invoke x "Pop" [] ts ho _ _ hx 346 _ (fun n => run_methP n 178 179 _ "Pop" 346 meth_Pop underlying178) pTypes _ func346 rfl (by kernel_rfl) [] rfl
theorem dgLen_of (h : DgI w hb base v l) : Calls prog 105 #[v] w (RetE (.int .i64 l.length) w) := by
 obtain ⟨ad, cap, rfl⟩ := h.row.slice;exact dgLen_any w
def HeapTo (w : World) (hb base : Nat) (v : Value) (l : List (List UInt8)) (w' : World) : Prop := ∃ l', l'.Perm l ∧ Heap leB l' l'.length ∧ DgTo w hb base v l' w'
def UpRel (w0 : World) (hb base : Nat) (v0 : Value) (l : List (List UInt8)) (i : Value) (w : World) : Prop := ∃ (j : Nat) (l' : List (List UInt8)) (v : Value), i = .int .i64 j ∧ j < l.length ∧ l'.Perm l ∧ UpI leB l' l'.length j ∧ DgI w hb base v l' ∧ DgM w0 v0 hb w v
theorem heapUp_any (h : DgI w hb base v l) (j : Nat) (hj : j < l.length) (hu : UpI leB l l.length j) : Calls prog 185 #[.iface 178 (.pointer (some ⟨hb, 0, none⟩)), .int .i64 j] w (fun e w' => e = .returned (.tuple #[]) ∧ HeapTo w hb base v l w') := by
 have hfew := h.few;have H0 : Hid (UpRel w hb base v l (.int .i64 j) w) := hid ⟨j, l, v, rfl, hj, .refl _, hu, h, DgM.refl _ _ _⟩;obtain ⟨n, hn⟩ : ∃ n, l.length = n := ⟨_, rfl⟩
 have HN := hid hn;clear h hu;go_enter func185, ntmps185;go_wp2
 go_loopw [1] (UpRel w hb base v l) (fun i _ => (intOf i).toNat)
 case atStart => exact H0.out
 case round =>
  rename World => wr
  obtain ⟨j, l', v', rfl, hj, hp, hu, hd, hm⟩ := hrel;have hlen := hp.length_eq;have HU := hid hu;have HD := hid hd;have HP := hid hp
  by_cases h0 : j = 0
  · subst h0
    go_upto_region 0 with (fail);refine wpR [3, 3, 1, 3] (by rfl) (by rfl) ?_;simp only [zz2];refine qA _ rfl rfl ?_;simp only [nmz]
    refine yC _ _ _ _ ((0 : Nat) : Int) 1 rfl rfl rfl rfl (by omega) (by omega) ?_;simp only [nmz]
    refine wpX rfl (exec_quo2 _ _ _ _ (((0 : Nat) : Int) - 1) 0 (by rfl) (by rfl) (by rfl) (by decide) (by omega) (by omega)) trivial ?_;refine qD _ rfl rfl ?_
    simp only [nmz];refine qB ?_;go_upto_region 1 with (fail);refine wpR [3, 3, 3, 3, 3, 3, 3, 1, 3, 3] (by rfl) (by rfl) ?_;simp only [zz2];refine qA _ rfl rfl ?_
    simp only [nmz];refine qA _ rfl rfl ?_;simp only [nmz];refine qY _ _ _ _ _ _ _ _ rfl rfl rfl rfl rfl true (by decide) ?_;simp only [nmz]
    refine qA _ rfl rfl ?_;simp only [nmz];refine qV rfl ?_;simp only [nmz];refine qV rfl ?_;simp only [nmz];refine qV rfl ?_;simp only [nmz]
    refine yV rfl trivial ?_;simp only [nmz];refine qV rfl ?_;simp only [nmz];refine qQ _ _ _ _ rfl rfl rfl ?_;simp only [nmz];refine qB ?_
    have HT : Hid (HeapTo w hb base v l wr) := hid ⟨l', HP.out, HU.out.done (.inl rfl), v', HD.out, hm⟩;clear hu hd hp;go_wp2
    go_end0
    exact ⟨rfl, HT.out⟩
  · have hjp := par_lt (i := j) (by omega)
    obtain ⟨q, hq⟩ : ∃ q, par j = q := ⟨_, rfl⟩;have hqj : q < j := by omega
    have hz : ¬ (q : Int) = (j : Int) := by omega
    have htd : Int.tdiv ((j : Int) - 1) 2 = (q : Int) := by
     rw [show (j : Int) - 1 = ((j - 1 : Nat) : Int) by omega];rw [← hq];unfold par;rw [Int.tdiv_eq_ediv_of_nonneg (by omega)]
     simp
    have hls := dgLess_any hd j q (by omega) (by omega);have HQ := hid hq;clear hu hp hq;go_upto_region 0 with (fail);refine wpR [3, 3, 1, 3] (by rfl) (by rfl) ?_;simp only [zz2]
    refine qA _ rfl rfl ?_;simp only [nmz];refine yC _ _ _ _ (j : Int) 1 rfl rfl rfl rfl (by omega) (by omega) ?_;simp only [nmz]
    refine wpX rfl (exec_quo2 _ _ _ _ ((j : Int) - 1) q (by rfl) (by rfl) (by rfl) htd (by omega) (by omega)) trivial ?_;refine qD _ rfl rfl ?_;simp only [nmz]
    refine qB ?_;clear htd
    by_cases hless : atD l' j < atD l' q
    · have hlt : decide (atD l' j < atD l' q) = true := decide_eq_true hless
      rw [hlt] at hls;go_upto_region 1 with (fail);refine wpR [3, 3, 3, 3, 3, 3, 3, 1, 3, 3] (by rfl) (by rfl) ?_;simp only [zz2];refine qA _ rfl rfl ?_;simp only [nmz]
      refine qA _ rfl rfl ?_;simp only [nmz];refine qY _ _ _ _ _ _ _ _ rfl rfl rfl rfl rfl false (decide_eq_false hz) ?_;simp only [nmz];refine qA _ rfl rfl ?_
      simp only [nmz];refine qA _ rfl rfl ?_;simp only [nmz];refine qA _ rfl rfl ?_;simp only [nmz];refine qA _ rfl rfl ?_;simp only [nmz];refine wpDo rfl ?_
      refine qG (inv_Less HD.out _ _ _ _ j q (by rfl) (by rfl) (by rfl) (by rfl)) hls ?_;rintro e w2 ⟨rfl, hm2⟩;refine ⟨_, rfl, ?_⟩;try simp only [nmz]
      refine xL _ _ _ rfl rfl rfl ?_;simp only [nmz];refine qQ _ _ _ _ rfl rfl rfl ?_;simp only [nmz];refine qB ?_;have HD2 := hid (HD.out.keep0 hm2)
      have hsw := dgSwap_any HD2.out q j (by omega) (by omega);go_upto_region 2 with (fail);refine wpR [3, 3, 3, 1] (by rfl) (by rfl) ?_;simp only [zz2]
      refine qA _ rfl rfl ?_;simp only [nmz];refine qA _ rfl rfl ?_;simp only [nmz];refine qA _ rfl rfl ?_;simp only [nmz];refine wpDo rfl ?_
      refine qG (inv_Swap HD2.out _ _ _ _ q j (by rfl) (by rfl) (by rfl) (by rfl)) hsw ?_;rintro e w3 ⟨rfl, v3, hd3, hm3⟩;have HD3 := hid hd3
      have hM3 : DgM w v hb w3 v3 := (hm.trans0 hm2).trans hm3;refine ⟨_, rfl, ?_⟩;try simp only [nmz]
      refine qB ?_
      have HR : Hid (UpRel w hb base v l (.int .i64 q) w3) := hid ⟨q, swp l' q j, v3, rfl, by omega, (swp_perm (by omega) (by omega)).trans HP.out, by
       rw [swp_len, ← HQ.out]
       exact UpI.step (le := leB) leB_trans HU.out (Nat.le_refl _) (by omega) (by omega) (by rw [HQ.out]; exact leB_of_lt hless), HD3.out, hM3⟩
      clear hd hd3 hm hm2 hm3 hM3 hls hsw hless hlt;go_wp2
      go_roundw
      case rel => exact HR.out
      case measure => simp [intOf]; omega
    · have hlt : decide (atD l' j < atD l' q) = false := decide_eq_false hless
      rw [hlt] at hls;go_upto_region 1 with (fail);refine wpR [3, 3, 3, 3, 3, 3, 3, 1, 3, 3] (by rfl) (by rfl) ?_;simp only [zz2];refine qA _ rfl rfl ?_;simp only [nmz]
      refine qA _ rfl rfl ?_;simp only [nmz];refine qY _ _ _ _ _ _ _ _ rfl rfl rfl rfl rfl false (decide_eq_false hz) ?_;simp only [nmz];refine qA _ rfl rfl ?_
      simp only [nmz];refine qA _ rfl rfl ?_;simp only [nmz];refine qA _ rfl rfl ?_;simp only [nmz];refine qA _ rfl rfl ?_;simp only [nmz];refine wpDo rfl ?_
      refine qG (inv_Less HD.out _ _ _ _ j q (by rfl) (by rfl) (by rfl) (by rfl)) hls ?_;rintro e w2 ⟨rfl, hm2⟩;refine ⟨_, rfl, ?_⟩;try simp only [nmz]
      refine xL _ _ _ rfl rfl rfl ?_;simp only [nmz];refine qQ _ _ _ _ rfl rfl rfl ?_;simp only [nmz];refine qB ?_
      have HT : Hid (HeapTo w hb base v l w2) := hid ⟨l', HP.out, HU.out.done (.inr (by rw [HQ.out]; exact hless)), v', HD.out.keep0 hm2, hm.trans0 hm2⟩
      clear hd hm hm2 hls hless hlt;go_wp2
      go_end0
      exact ⟨rfl, HT.out⟩
def IsB (e : Ending) : Prop := ∃ b : Bool, e = .returned (.bool b)
def DownTo (w : World) (hb base : Nat) (v : Value) (l : List (List UInt8)) (n : Nat) (w' : World) : Prop := ∃ l', l'.Perm l ∧ Heap leB l' n ∧ (∀ k, n ≤ k → atD l' k = atD l k) ∧ DgTo w hb base v l' w'
def DownRel (w0 : World) (hb base : Nat) (v0 : Value) (l : List (List UInt8)) (n : Nat) (i : Value) (w : World) : Prop := ∃ (j : Nat) (l' : List (List UInt8)) (v : Value), i = .int .i64 j ∧ j ≤ n ∧ (n = 0 ∨ j < n) ∧ l'.Perm l ∧ DownI leB l' n j ∧ (∀ k, n ≤ k → atD l' k = atD l k) ∧ DgI w hb base v l' ∧ DgM w0 v0 hb w v
theorem heapDown_any (h : DgI w hb base v l) (n : Nat) (hn : n < l.length) (hu : DownI leB l n 0) : Calls prog 186 #[.iface 178 (.pointer (some ⟨hb, 0, none⟩)), .int .i64 (0 : Nat), .int .i64 n] w (fun e w' => IsB e ∧ DownTo w hb base v l n w') := by
 have hfew := h.few;have H0 : Hid (DownRel w hb base v l n (.int .i64 (0 : Nat)) w) := hid ⟨0, l, v, rfl, by omega, by omega, .refl _, hu, fun _ _ => rfl, h, DgM.refl _ _ _⟩
 clear h hu;go_enter func186, ntmps186;go_upto_region 1 with (fail);go_wp2
 go_loopw [7] (DownRel w hb base v l n) (fun i _ => n - (intOf i).toNat)
 case atStart => exact H0.out
 case round =>
  rename World => wr
  obtain ⟨j, l', v', rfl, hjn, hjn2, hp, hu, hfx, hd, hm⟩ := hrel;have hlen := hp.length_eq;have HU := hid hu;have HD := hid hd;have HP := hid hp;have HF := hid hfx
  have hj1 : (2 : Int) * (j : Int) = ((2 * j : Nat) : Int) := by omega
  clear hu hp hfx hd;go_upto_region 2 with (fail);refine wpR [3, 3, 3, 3] (by rfl) (by rfl) ?_;simp only [zz2];refine qA _ rfl rfl ?_;simp only [nmz]
  refine xT _ _ _ _ 2 (j : Int) ((2 * j : Nat) : Int) rfl rfl rfl rfl hj1 (by omega) (by omega) ?_;simp only [nmz]
  refine zT _ _ _ _ ((2 * j : Nat) : Int) 1 ((2 * j + 1 : Nat) : Int) rfl rfl rfl rfl (by omega) (by omega) (by omega) ?_;simp only [nmz];refine qD _ rfl rfl ?_
  simp only [nmz];refine qB ?_;clear hj1
  by_cases hleaf : n ≤ 2 * j + 1
  · have hz : ((2 * j + 1 : Nat) : Int) ≥ (n : Int) := by omega
    go_upto_region 3 with (fail);refine wpR [3, 3, 3, 3, 3, 3, 3] (by rfl) (by rfl) ?_;simp only [zz2];refine qA _ rfl rfl ?_;simp only [nmz];refine qA _ rfl rfl ?_
    simp only [nmz];refine qY _ _ _ _ _ _ _ _ rfl rfl rfl rfl rfl true (decide_eq_true (by omega)) ?_;simp only [nmz];refine qA _ rfl rfl ?_;simp only [nmz]
    refine qV rfl ?_;simp only [nmz];refine qV rfl ?_;simp only [nmz];refine qQ _ _ _ _ rfl rfl rfl ?_;simp only [nmz];refine qB ?_
    have HT : Hid (DownTo w hb base v l n wr) := hid ⟨l', HP.out, HU.out.leaf hleaf, HF.out, v', HD.out, hm⟩;clear hm;go_wp2;go_ret;exact ⟨⟨_, rfl⟩, HT.out⟩
  · have hz : ¬ ((2 * j + 1 : Nat) : Int) ≥ (n : Int) := by omega
    go_upto_region 3 with (fail);refine wpR [3, 3, 3, 3, 3, 3, 3] (by rfl) (by rfl) ?_;simp only [zz2];refine qA _ rfl rfl ?_;simp only [nmz];refine qA _ rfl rfl ?_
    simp only [nmz];refine qY _ _ _ _ _ _ _ _ rfl rfl rfl rfl rfl false (decide_eq_false (by omega)) ?_;simp only [nmz];refine qA _ rfl rfl ?_;simp only [nmz]
    refine qA _ rfl rfl ?_;simp only [nmz];refine qY _ _ _ _ _ _ _ _ rfl rfl rfl rfl rfl false (by simp only [cmpB, decide_eq_false_iff_not]; omega) ?_;simp only [nmz]
    refine qQ _ _ _ _ rfl rfl rfl ?_;simp only [nmz];refine qB ?_;go_upto_region 5 with (fail);refine wpR [3, 3, 3] (by rfl) (by rfl) ?_;simp only [zz2]
    refine qA _ rfl rfl ?_;simp only [nmz];refine zT _ _ _ _ ((2 * j + 1 : Nat) : Int) 1 ((2 * j + 2 : Nat) : Int) rfl rfl rfl rfl (by omega) (by omega) (by omega) ?_
    simp only [nmz];refine qD _ rfl rfl ?_;simp only [nmz];refine qB ?_
    by_cases hj2 : 2 * j + 2 < n
    · have hz2 : ((2 * j + 2 : Nat) : Int) < (n : Int) := by omega
      have hls := dgLess_any HD.out (2 * j + 2) (2 * j + 1) (by omega) (by omega)
      by_cases hless : atD l' (2 * j + 2) < atD l' (2 * j + 1)
      · have hlt : decide (atD l' (2 * j + 2) < atD l' (2 * j + 1)) = true := decide_eq_true hless
        rw [hlt] at hls;go_upto_region 6 with (fail);refine wpR [3, 3, 3, 3, 3, 3, 3, 1, 3] (by rfl) (by rfl) ?_;simp only [zz2];refine qA _ rfl rfl ?_;simp only [nmz]
        refine qA _ rfl rfl ?_;simp only [nmz];refine qY _ _ _ _ _ _ _ _ rfl rfl rfl rfl rfl true (decide_eq_true hz2) ?_;simp only [nmz];refine qA _ rfl rfl ?_
        simp only [nmz];refine qA _ rfl rfl ?_;simp only [nmz];refine qA _ rfl rfl ?_;simp only [nmz];refine qA _ rfl rfl ?_;simp only [nmz];refine wpDo rfl ?_
        refine qG (inv_Less HD.out _ _ _ _ (2 * j + 2) (2 * j + 1) (by rfl) (by rfl) (by rfl) (by rfl)) hls ?_;rintro e w2 ⟨rfl, hm2⟩
        have hmm2 : DgM w v hb w2 v' := hm.trans0 hm2;refine ⟨_, rfl, ?_⟩;refine qQ _ _ _ _ rfl rfl rfl ?_;simp only [nmz];refine qB ?_
        have HC : Hid (∀ k, 0 < k → k < n → par k = j → leB (atD l' (2 * j + 2)) (atD l' k)) := hid (fun k h0 hk hpk => by
         rcases par_of hpk h0 with rfl | rfl
         · exact leB_of_lt hless
         · exact leB_refl _)
        have HDw2 := hid (HD.out.keep0 hm2);have hls2 := dgLess_any HDw2.out (2 * j + 2) j (by omega) (by omega)
        by_cases hless2 : atD l' (2 * j + 2) < atD l' j
        · have hlt2 : decide (atD l' (2 * j + 2) < atD l' j) = true := decide_eq_true hless2
          rw [hlt2] at hls2;go_upto_region 8 with (fail);refine wpR [3, 3, 3, 1, 3] (by rfl) (by rfl) ?_;simp only [zz2];refine qA _ rfl rfl ?_;simp only [nmz]
          refine qA _ rfl rfl ?_;simp only [nmz];refine qA _ rfl rfl ?_;simp only [nmz];refine wpDo rfl ?_
          refine qG (inv_Less HDw2.out _ _ _ _ (2 * j + 2) j (by rfl) (by rfl) (by rfl) (by rfl)) hls2 ?_;rintro e w4 ⟨rfl, hm4⟩;refine ⟨_, rfl, ?_⟩;try simp only [nmz]
          refine xL _ _ true (by rfl) (by rfl) (by rfl) ?_;simp only [nmz];refine qB ?_;have HD4 := hid (HDw2.out.keep0 hm4)
          have hsw := dgSwap_any HD4.out j (2 * j + 2) (by omega) (by omega);go_upto_region 9 with (fail);refine wpR [3, 3, 3, 1] (by rfl) (by rfl) ?_;simp only [zz2]
          refine qA _ rfl rfl ?_;simp only [nmz];refine qA _ rfl rfl ?_;simp only [nmz];refine qA _ rfl rfl ?_;simp only [nmz];refine wpDo rfl ?_
          refine qG (inv_Swap HD4.out _ _ _ _ j (2 * j + 2) (by rfl) (by rfl) (by rfl) (by rfl)) hsw ?_;rintro e w5 ⟨rfl, v5, hd5, hm5⟩;have HD5 := hid hd5
          have hM5 : DgM w v hb w5 v5 := (hmm2.trans0 hm4).trans hm5;refine ⟨_, rfl, ?_⟩;try simp only [nmz]
          refine qB ?_
          have HR : Hid (DownRel w hb base v l n (.int .i64 ((2 * j + 2 : Nat) : Int)) w5) := hid ⟨2 * j + 2, swp l' j (2 * j + 2), v5, rfl, by omega, by omega, (swp_perm (by omega) (by omega)).trans HP.out, HU.out.step (by omega) (by omega) (by omega) (by unfold par; omega) (leB_of_lt hless2) HC.out, fun k hk => by
           rw [swp_at (by omega) (by omega), if_neg (by omega), if_neg (by omega)]
           exact HF.out k hk, HD5.out, hM5⟩
          clear hd5 hm4 hm5 hM5 hls2 hsw hless2 hlt2;go_wp2
          go_roundw
          case rel => exact HR.out
          case measure => simp [intOf]; omega
        · have hlt2 : decide (atD l' (2 * j + 2) < atD l' j) = false := decide_eq_false hless2
          rw [hlt2] at hls2;go_upto_region 8 with (fail);refine wpR [3, 3, 3, 1, 3] (by rfl) (by rfl) ?_;simp only [zz2];refine qA _ rfl rfl ?_;simp only [nmz]
          refine qA _ rfl rfl ?_;simp only [nmz];refine qA _ rfl rfl ?_;simp only [nmz];refine wpDo rfl ?_
          refine qG (inv_Less HDw2.out _ _ _ _ (2 * j + 2) j (by rfl) (by rfl) (by rfl) (by rfl)) hls2 ?_;rintro e w4 ⟨rfl, hm4⟩;refine ⟨_, rfl, ?_⟩;try simp only [nmz]
          refine xL _ _ false (by rfl) (by rfl) (by rfl) ?_;simp only [nmz];refine qB ?_
          have HT : Hid (DownTo w hb base v l n w4) := hid ⟨l', HP.out, DownI.stop (le := leB) leB_trans HU.out (show leB (atD l' j) (atD l' (2 * j + 2)) from hless2) HC.out, HF.out, v', HDw2.out.keep0 hm4, hmm2.trans0 hm4⟩
          clear hm4 hls2 hless2 hlt2;go_wp2;go_ret;exact ⟨⟨_, rfl⟩, HT.out⟩
      · have hlt : decide (atD l' (2 * j + 2) < atD l' (2 * j + 1)) = false := decide_eq_false hless
        rw [hlt] at hls;go_upto_region 6 with (fail);refine wpR [3, 3, 3, 3, 3, 3, 3, 1, 3] (by rfl) (by rfl) ?_;simp only [zz2];refine qA _ rfl rfl ?_;simp only [nmz]
        refine qA _ rfl rfl ?_;simp only [nmz];refine qY _ _ _ _ _ _ _ _ rfl rfl rfl rfl rfl true (decide_eq_true hz2) ?_;simp only [nmz];refine qA _ rfl rfl ?_
        simp only [nmz];refine qA _ rfl rfl ?_;simp only [nmz];refine qA _ rfl rfl ?_;simp only [nmz];refine qA _ rfl rfl ?_;simp only [nmz];refine wpDo rfl ?_
        refine qG (inv_Less HD.out _ _ _ _ (2 * j + 2) (2 * j + 1) (by rfl) (by rfl) (by rfl) (by rfl)) hls ?_;rintro e w2 ⟨rfl, hm2⟩
        have hmm2 : DgM w v hb w2 v' := hm.trans0 hm2;refine ⟨_, rfl, ?_⟩;refine qQ _ _ _ _ rfl rfl rfl ?_;simp only [nmz];refine qB ?_
        have HC : Hid (∀ k, 0 < k → k < n → par k = j → leB (atD l' (2 * j + 1)) (atD l' k)) := hid (fun k h0 hk hpk => by
         rcases par_of hpk h0 with rfl | rfl
         · exact leB_refl _
         · exact hless)
        have HDw2 := hid (HD.out.keep0 hm2);have hls2 := dgLess_any HDw2.out (2 * j + 1) j (by omega) (by omega)
        by_cases hless2 : atD l' (2 * j + 1) < atD l' j
        · have hlt2 : decide (atD l' (2 * j + 1) < atD l' j) = true := decide_eq_true hless2
          rw [hlt2] at hls2;go_upto_region 8 with (fail);refine wpR [3, 3, 3, 1, 3] (by rfl) (by rfl) ?_;simp only [zz2];refine qA _ rfl rfl ?_;simp only [nmz]
          refine qA _ rfl rfl ?_;simp only [nmz];refine qA _ rfl rfl ?_;simp only [nmz];refine wpDo rfl ?_
          refine qG (inv_Less HDw2.out _ _ _ _ (2 * j + 1) j (by rfl) (by rfl) (by rfl) (by rfl)) hls2 ?_;rintro e w4 ⟨rfl, hm4⟩;refine ⟨_, rfl, ?_⟩;try simp only [nmz]
          refine xL _ _ true (by rfl) (by rfl) (by rfl) ?_;simp only [nmz];refine qB ?_;have HD4 := hid (HDw2.out.keep0 hm4)
          have hsw := dgSwap_any HD4.out j (2 * j + 1) (by omega) (by omega);go_upto_region 9 with (fail);refine wpR [3, 3, 3, 1] (by rfl) (by rfl) ?_;simp only [zz2]
          refine qA _ rfl rfl ?_;simp only [nmz];refine qA _ rfl rfl ?_;simp only [nmz];refine qA _ rfl rfl ?_;simp only [nmz];refine wpDo rfl ?_
          refine qG (inv_Swap HD4.out _ _ _ _ j (2 * j + 1) (by rfl) (by rfl) (by rfl) (by rfl)) hsw ?_;rintro e w5 ⟨rfl, v5, hd5, hm5⟩;have HD5 := hid hd5
          have hM5 : DgM w v hb w5 v5 := (hmm2.trans0 hm4).trans hm5;refine ⟨_, rfl, ?_⟩;try simp only [nmz]
          refine qB ?_
          have HR : Hid (DownRel w hb base v l n (.int .i64 ((2 * j + 1 : Nat) : Int)) w5) := hid ⟨2 * j + 1, swp l' j (2 * j + 1), v5, rfl, by omega, by omega, (swp_perm (by omega) (by omega)).trans HP.out, HU.out.step (by omega) (by omega) (by omega) (by unfold par; omega) (leB_of_lt hless2) HC.out, fun k hk => by
           rw [swp_at (by omega) (by omega), if_neg (by omega), if_neg (by omega)]
           exact HF.out k hk, HD5.out, hM5⟩
          clear hd5 hm4 hm5 hM5 hls2 hsw hless2 hlt2;go_wp2
          go_roundw
          case rel => exact HR.out
          case measure => simp [intOf]; omega
        · have hlt2 : decide (atD l' (2 * j + 1) < atD l' j) = false := decide_eq_false hless2
          rw [hlt2] at hls2;go_upto_region 8 with (fail);refine wpR [3, 3, 3, 1, 3] (by rfl) (by rfl) ?_;simp only [zz2];refine qA _ rfl rfl ?_;simp only [nmz]
          refine qA _ rfl rfl ?_;simp only [nmz];refine qA _ rfl rfl ?_;simp only [nmz];refine wpDo rfl ?_
          refine qG (inv_Less HDw2.out _ _ _ _ (2 * j + 1) j (by rfl) (by rfl) (by rfl) (by rfl)) hls2 ?_;rintro e w4 ⟨rfl, hm4⟩;refine ⟨_, rfl, ?_⟩;try simp only [nmz]
          refine xL _ _ false (by rfl) (by rfl) (by rfl) ?_;simp only [nmz];refine qB ?_
          have HT : Hid (DownTo w hb base v l n w4) := hid ⟨l', HP.out, DownI.stop (le := leB) leB_trans HU.out (show leB (atD l' j) (atD l' (2 * j + 1)) from hless2) HC.out, HF.out, v', HDw2.out.keep0 hm4, hmm2.trans0 hm4⟩
          clear hm4 hls2 hless2 hlt2;go_wp2;go_ret;exact ⟨⟨_, rfl⟩, HT.out⟩
    · have hz2 : ¬ ((2 * j + 2 : Nat) : Int) < (n : Int) := by omega
      go_upto_region 6 with (fail);refine wpR [3, 3, 3, 3, 3, 3, 3, 1, 3] (by rfl) (by rfl) ?_;simp only [zz2];refine qA _ rfl rfl ?_;simp only [nmz]
      refine qA _ rfl rfl ?_;simp only [nmz];refine qY _ _ _ _ _ _ _ _ rfl rfl rfl rfl rfl false (decide_eq_false hz2) ?_;simp only [nmz];refine qA _ rfl rfl ?_
      simp only [nmz];refine qV rfl ?_;simp only [nmz];refine qV rfl ?_;simp only [nmz];refine qV rfl ?_;simp only [nmz];refine yV rfl trivial ?_
      simp only [nmz];refine qQ _ _ _ _ rfl rfl rfl ?_;simp only [nmz];refine qB ?_
      have HC : Hid (∀ k, 0 < k → k < n → par k = j → leB (atD l' (2 * j + 1)) (atD l' k)) := hid (fun k h0 hk hpk => by
       rcases par_of hpk h0 with rfl | rfl
       · exact leB_refl _
       · omega)
      have HDwr := hid (HD.out);have hls2 := dgLess_any HDwr.out (2 * j + 1) j (by omega) (by omega)
      by_cases hless2 : atD l' (2 * j + 1) < atD l' j
      · have hlt2 : decide (atD l' (2 * j + 1) < atD l' j) = true := decide_eq_true hless2
        rw [hlt2] at hls2;go_upto_region 8 with (fail);refine wpR [3, 3, 3, 1, 3] (by rfl) (by rfl) ?_;simp only [zz2];refine qA _ rfl rfl ?_;simp only [nmz]
        refine qA _ rfl rfl ?_;simp only [nmz];refine qA _ rfl rfl ?_;simp only [nmz];refine wpDo rfl ?_
        refine qG (inv_Less HDwr.out _ _ _ _ (2 * j + 1) j (by rfl) (by rfl) (by rfl) (by rfl)) hls2 ?_;rintro e w4 ⟨rfl, hm4⟩;refine ⟨_, rfl, ?_⟩;try simp only [nmz]
        refine xL _ _ true (by rfl) (by rfl) (by rfl) ?_;simp only [nmz];refine qB ?_;have HD4 := hid (HDwr.out.keep0 hm4)
        have hsw := dgSwap_any HD4.out j (2 * j + 1) (by omega) (by omega);go_upto_region 9 with (fail);refine wpR [3, 3, 3, 1] (by rfl) (by rfl) ?_;simp only [zz2]
        refine qA _ rfl rfl ?_;simp only [nmz];refine qA _ rfl rfl ?_;simp only [nmz];refine qA _ rfl rfl ?_;simp only [nmz];refine wpDo rfl ?_
        refine qG (inv_Swap HD4.out _ _ _ _ j (2 * j + 1) (by rfl) (by rfl) (by rfl) (by rfl)) hsw ?_;rintro e w5 ⟨rfl, v5, hd5, hm5⟩;have HD5 := hid hd5
        have hM5 : DgM w v hb w5 v5 := (hm.trans0 hm4).trans hm5;refine ⟨_, rfl, ?_⟩;try simp only [nmz]
        refine qB ?_
        have HR : Hid (DownRel w hb base v l n (.int .i64 ((2 * j + 1 : Nat) : Int)) w5) := hid ⟨2 * j + 1, swp l' j (2 * j + 1), v5, rfl, by omega, by omega, (swp_perm (by omega) (by omega)).trans HP.out, HU.out.step (by omega) (by omega) (by omega) (by unfold par; omega) (leB_of_lt hless2) HC.out, fun k hk => by
         rw [swp_at (by omega) (by omega), if_neg (by omega), if_neg (by omega)]
         exact HF.out k hk, HD5.out, hM5⟩
        clear hd5 hm4 hm5 hM5 hls2 hsw hless2 hlt2;go_wp2
        go_roundw
        case rel => exact HR.out
        case measure => simp [intOf]; omega
      · have hlt2 : decide (atD l' (2 * j + 1) < atD l' j) = false := decide_eq_false hless2
        rw [hlt2] at hls2;go_upto_region 8 with (fail);refine wpR [3, 3, 3, 1, 3] (by rfl) (by rfl) ?_;simp only [zz2];refine qA _ rfl rfl ?_;simp only [nmz]
        refine qA _ rfl rfl ?_;simp only [nmz];refine qA _ rfl rfl ?_;simp only [nmz];refine wpDo rfl ?_
        refine qG (inv_Less HDwr.out _ _ _ _ (2 * j + 1) j (by rfl) (by rfl) (by rfl) (by rfl)) hls2 ?_;rintro e w4 ⟨rfl, hm4⟩;refine ⟨_, rfl, ?_⟩;try simp only [nmz]
        refine xL _ _ false (by rfl) (by rfl) (by rfl) ?_;simp only [nmz];refine qB ?_
        have HT : Hid (DownTo w hb base v l n w4) := hid ⟨l', HP.out, DownI.stop (le := leB) leB_trans HU.out (show leB (atD l' j) (atD l' (2 * j + 1)) from hless2) HC.out, HF.out, v', HDwr.out.keep0 hm4, hm.trans0 hm4⟩
        clear hm4 hls2 hless2 hlt2;go_wp2;go_ret;exact ⟨⟨_, rfl⟩, HT.out⟩
theorem heapPush_any (h : DgI w hb base v l) (hbw : base ≤ w.heap.size) (x : List UInt8) (hx : x.length = 32) (hfew : l.length < 65536) (hh : Heap leB l l.length) : Calls prog 103 #[.iface 178 (.pointer (some ⟨hb, 0, none⟩)), .iface 24 (.agg (qC x))] w (fun e w' => e = .returned (.tuple #[]) ∧ HeapTo w hb base v (l ++ [x]) w') := by
 have hp := dgPush_any h hbw x hx hfew;have HU := hid (UpI.snoc (x := x) hh);have hbl : hb < w.heap.size := (Array.getElem?_eq_some_iff.1 h.box).1;clear h hh
 go_enter func103, ntmps103;go_upto_region 0 with (fail);refine wpR [3, 3, 1] (by rfl) (by rfl) ?_;simp only [zz2];refine qA _ rfl rfl ?_;simp only [nmz]
 refine qA _ rfl rfl ?_;simp only [nmz];refine wpDo rfl ?_;refine qG (inv_Push _ _ _ _ (by rfl) (by rfl) (by rfl)) hp ?_;rintro e w2 ⟨rfl, v2, hd2, hm2⟩
 refine ⟨_, rfl, ?_⟩;try simp only [nmz]
 refine qB ?_;have HD2 := hid hd2;have hup := heapUp_any HD2.out l.length (by simp) (by rw [List.length_append, List.length_singleton]; exact HU.out);have hln := dgLen_of hd2
 rw [List.length_append, List.length_singleton] at hln;clear hd2;go_upto_region 1 with (fail);refine wpR [3, 3, 1, 3, 1] (by rfl) (by rfl) ?_;simp only [zz2]
 refine qA _ rfl rfl ?_;simp only [nmz];refine qA _ rfl rfl ?_;simp only [nmz];refine wpDo rfl ?_;refine qG (inv_Len HD2.out _ _ (by rfl) (by rfl)) hln ?_
 rintro e w3 ⟨rfl, hw⟩;obtain rfl := hw.symm;refine ⟨_, rfl, ?_⟩;try simp only [nmz]
 refine zZ _ _ _ _ ((l.length + 1 : Nat) : Int) 1 (l.length : Int) rfl rfl rfl rfl (by omega) (by omega) (by omega) ?_;simp only [nmz];refine wpDo rfl ?_
 refine qG (qH 185 [.tmp 7, .tmp 10] _ rfl _ func185 rfl (by kernel_rfl) [.iface 178 (.pointer (some ⟨hb, 0, none⟩)), .int .i64 l.length] rfl _) (hup) ?_
 rintro e w4 ⟨rfl, l4, hp4, hh4, v4, hd4, hm4⟩;have HR : Hid (HeapTo w hb base v (l ++ [x]) w4) := hid ⟨l4, hp4, hh4, v4, hd4, hm2.trans hm4⟩;refine ⟨_, rfl, ?_⟩;try simp only [nmz]
 refine qB ?_;clear hm2 hp4 hh4 hd4 hm4 hup hln;go_wp2
 go_end0
 exact ⟨rfl, HR.out⟩
def HpPopR (w : World) (hb base : Nat) (v : Value) (l : List (List UInt8)) : Ending → World → Prop := fun e w' => ∃ x l', e = .returned (.iface 24 (.agg (qC x))) ∧ x.length = 32 ∧ (x :: l').Perm l ∧ Heap leB l' l'.length ∧ (∀ y ∈ l, leB x y) ∧ DgTo w hb base v l' w'
theorem heapPop_any (h : DgI w hb base v l) (hbw : base ≤ w.heap.size) (hne : 0 < l.length) (hh : Heap leB l l.length) : Calls prog 106 #[.iface 178 (.pointer (some ⟨hb, 0, none⟩))] w (HpPopR w hb base v l) := by
 obtain ⟨n, hn⟩ : ∃ n, l.length = n + 1 := ⟨l.length - 1, by omega⟩;rw [hn] at hh;have hln := dgLen_of h;rw [hn] at hln;have hsw := dgSwap_any h 0 n (by omega) (by omega)
 have HD := hid h;have hst := DownI.start hh (by omega);have hfew := h.few;have hids := h.ids;have htop := Heap.top leB_refl leB_trans hh;have HST := hid hst;have HTOP := hid htop
 have HIDS := hid hids;clear h hh hst htop hids;go_enter func106, ntmps106;go_upto_region 1 with (fail);refine wpR [3, 1, 3, 3] (by rfl) (by rfl) ?_;simp only [zz2]
 refine qA _ rfl rfl ?_;simp only [nmz];refine wpDo rfl ?_;refine qG (inv_Len HD.out _ _ (by rfl) (by rfl)) hln ?_;rintro e w3 ⟨rfl, hw⟩;obtain rfl := hw.symm
 refine ⟨_, rfl, ?_⟩;try simp only [nmz]
 refine zZ _ _ _ _ ((n + 1 : Nat) : Int) 1 (n : Int) rfl rfl rfl rfl (by omega) (by omega) (by omega) ?_;simp only [nmz];refine qD _ rfl rfl ?_;simp only [nmz]
 refine qB ?_;go_upto_region 2 with (fail);refine wpR [3, 3, 1] (by rfl) (by rfl) ?_;simp only [zz2];refine qA _ rfl rfl ?_;simp only [nmz]
 refine qA _ rfl rfl ?_;simp only [nmz];refine wpDo rfl ?_;refine qG (inv_Swap HD.out _ _ _ _ 0 n (by rfl) (by rfl) (by rfl) (by rfl)) hsw ?_
 rintro e w4 ⟨rfl, v4, hd4, hm4⟩;have HD4 := hid hd4;refine ⟨_, rfl, ?_⟩;try simp only [nmz]
 refine qB ?_;have hdn := heapDown_any HD4.out n (by rw [swp_len]; omega) HST.out;clear hd4 hsw;go_upto_region 3 with (fail);refine wpR [3, 3, 1] (by rfl) (by rfl) ?_
 simp only [zz2];refine qA _ rfl rfl ?_;simp only [nmz];refine qA _ rfl rfl ?_;simp only [nmz];refine wpDo rfl ?_
 refine qG (qH 186 [.tmp 10, .const (.int .i64 0), .tmp 11] _ rfl _ func186 rfl (by kernel_rfl) [.iface 178 (.pointer (some ⟨hb, 0, none⟩)), .int .i64 (0 : Nat), .int .i64 n] rfl _) (hdn) ?_
 rintro e w5 ⟨⟨b5, rfl⟩, l5, hp5, hh5, hf5, v5, hd5, hm5⟩;have HD5 := hid hd5;refine ⟨_, rfl, ?_⟩;try simp only [nmz]
 refine qB ?_;have hl5 : l5.length = n + 1 := by rw [hp5.length_eq, swp_len, hn]
 have hpop := dgPop_any HD5.out (by have := hm4.1.size; have := hm5.1.size; omega) (by omega)
 have hx5 : atD l5 (l5.length - 1) = atD l 0 := by
  rw [hl5, Nat.add_sub_cancel, hf5 n (Nat.le_refl _), swp_at (by omega) (by omega), if_pos rfl]
 have hx32 : (atD l 0).length = 32 := HIDS.out _ (atD_mem (by omega));have hP5 : l5.Perm l := hp5.trans (swp_perm (by omega) (by omega))
 have hsp : l5 = l5.dropLast ++ [atD l 0] := by
  have hne5 : l5 ≠ [] := by intro e; rw [e] at hl5; simp at hl5
  have h1 := List.dropLast_concat_getLast hne5
  have h2 : l5.getLast hne5 = atD l 0 := by
   rw [List.getLast_eq_getElem, ← hx5, at_lt (by omega)]
  rw [h2] at h1;exact h1.symm
 have HFIN : Hid ((atD l 0 :: l5.dropLast).Perm l ∧ Heap leB l5.dropLast l5.dropLast.length ∧ ∀ y ∈ l, leB (atD l 0) y) := hid ⟨by
  refine List.Perm.trans ?_ hP5
  conv => rhs; rw [hsp]
  exact (List.perm_append_comm (l₁ := [atD l 0]) (l₂ := l5.dropLast)), by
  rw [List.dropLast_eq_take, List.length_take, hl5, Nat.add_sub_cancel, Nat.min_eq_left (by omega)];exact Heap.take hh5, fun y hy => by
  obtain ⟨k, hk, rfl⟩ := List.getElem_of_mem hy;have := HTOP.out k (by omega)
  rwa [at_lt hk] at this⟩
 unfold PopR at hpop;rw [hx5] at hpop;obtain ⟨x, hx⟩ : ∃ x, atD l 0 = x := ⟨_, rfl⟩;rw [hx] at hpop hx32 HFIN;clear hp5 hh5 hf5 hd5 hsp hx5 hP5 hx hdn;go_upto_region 4 with (fail)
 refine wpR [3, 1, 3] (by rfl) (by rfl) ?_;simp only [zz2];refine qA _ rfl rfl ?_;simp only [nmz];refine wpDo rfl ?_;refine qG (inv_Pop _ _ (by rfl) (by rfl)) hpop ?_
 rintro e w6 ⟨rfl, v6, hd6, hm6⟩
 have HR : Hid (HpPopR w hb base v l (.returned (.iface 24 (.agg (qC x)))) w6) := hid ⟨x, l5.dropLast, rfl, hx32, HFIN.out.1, HFIN.out.2.1, HFIN.out.2.2, v6, hd6, (hm4.trans hm5).trans hm6⟩
 refine ⟨_, rfl, ?_⟩;refine qD _ rfl rfl ?_;simp only [nmz];refine qB ?_;clear hm4 hm5 hm6 hd6 hpop;go_wp2;go_ret;exact HR.out
end
end
section
open Go.RowKit Go.Shelf Go.Maps Go.Sort Go.WideShapes Go.WideMaps Go.Proofs.Tryz Go.Lib
def StrC (cs : Array Value) (x : ByteArray) : Prop := cs = #[.string x]
def sortS (ks : List ByteArray) : List ByteArray := ((ks.map (·.data.toList)).mergeSort fun x y => decide (x ≤ y)).map fun x => ⟨x.toArray⟩
def ReposOf (l : LinkL) (names : List ByteArray) : Prop := names.Pairwise (fun a b => a.data.toList < b.data.toList) ∧ ∀ r, r ∈ names ↔ 0 < cntOf l r
theorem sortS_perm (ks : List ByteArray) : (sortS ks).Perm ks := by
 have h := (List.mergeSort_perm (ks.map (·.data.toList)) (fun x y => decide (x ≤ y))).map (fun x : List UInt8 => (⟨x.toArray⟩ : ByteArray))
 simpa [sortS, List.map_map, Function.comp_def] using h
theorem sortS_sorted {ks : List ByteArray} (hn : ks.Nodup) : (sortS ks).Pairwise (fun a b => a.data.toList < b.data.toList) := by
 have tr : ∀ a b c : List UInt8, decide (a ≤ b) = true → decide (b ≤ c) = true → decide (a ≤ c) = true := fun a b c h1 h2 => by simp only [decide_eq_true_eq] at *; exact List.le_trans h1 h2
 have tot : ∀ a b : List UInt8, (decide (a ≤ b) || decide (b ≤ a)) = true := fun a b => by simp only [Bool.or_eq_true, decide_eq_true_eq]; exact List.le_total a b
 have h := List.pairwise_mergeSort tr tot (ks.map (·.data.toList))
 have hnd : (ks.map (·.data.toList)).Nodup := by
  refine List.pairwise_map.2 (hn.imp fun {a b} hne e => hne ?_);obtain ⟨⟨a⟩⟩ := a; obtain ⟨⟨b⟩⟩ := b
  simp at e; rw [e]
 have hnd2 : ((ks.map (·.data.toList)).mergeSort fun x y => decide (x ≤ y)).Nodup := (List.mergeSort_perm _ _).nodup_iff.2 hnd;unfold sortS;rw [List.pairwise_map]
 refine (h.and hnd2).imp fun {a b} hab => ?_;obtain ⟨h1, h2⟩ := hab;simp only [decide_eq_true_eq] at h1
 rcases List.le_iff_lt_or_eq.1 h1 with h3 | h3
 · exact h3
 · exact absurd h3 h2
theorem flatMap_one {α β : Type} (f : α → β) : ∀ l : List α, l.flatMap (fun a => [f a]) = l.map f
 | [] => rfl
 | x :: l => by simp [List.flatMap_cons, flatMap_one f l]
theorem perm_keys {H : Type} (f : MapEntry → Lit × DataW H) (es : List MapEntry) : (((es.map f).foldr DataW.insert []).map (fun p => strOf p.1)).Perm (es.map fun x => strOf (f x).1) := by
 have := (sorted_perm (es.map f)).map (fun p => strOf p.1);rw [List.map_map] at this;exact this
section
variable {w : World} {mu : Nat} {us : List (ByteArray × Nat)}
theorem keysS_any (w : World) (mu : Nat) : Calls prog 143 #[.map (some mu)] w fun e w' => e = .returned (.func (.func 204) #[] #[.pointer (some ⟨w.heap.size, 0, none⟩)]) ∧ w' = w.alloc (.cells #[.map (some mu)] 98) :=
 callsIn_wide.1 (AnyZ.keys_in keysA Fence.wide 5 trivial rfl (some mu) w)
theorem sorts_in (m : Nat) : AnyZ.SortsIn prog sortedA_ren Fence.wide m :=
 ⟨fun blk off cap ss W hH hblk hsz => callsIn_wide.2 (AnyM.slices_Sort_string sortA blk off cap ss W hH hblk hsz),
  fun p cap W => callsIn_wide.2 (AnyM.slices_Sort_string_none sortA p cap W)⟩
theorem owns_uses (hum : MapIs Value.string (fun _ => True) w mu (us.map fun p => (p.1, useV p.2))) (hsz : ∀ p ∈ us, p.1.size ≤ maxLen) (hlen : us.length ≤ 65536) :
 ∃ D0 : DataW Unit, w.ownsMap prog 9 (fun _ => some (.nil, [])) mu us.length D0 ∧ (strKeys D0).Perm (us.map (·.1.data.toList)) ∧ Maps.size D0 = us.length := by
 obtain ⟨⟨es, clk, hb, hkd, hbo, hbn⟩, hnd, _⟩ := hum;have hlen' : es.size = us.length := by have := congrArg List.length hkd; simpa using this
 have hkeys : es.toList.map (·.key) = us.map fun p => Value.string p.1 := by
  have := congrArg (List.map (·.1)) hkd
  simpa [List.map_map, Function.comp_def] using this
 have hkof : ∀ x ∈ es.toList, ∃ s : ByteArray, x.key = .string s ∧ s.size ≤ maxLen := by
  intro x hx;have h1 : x.key ∈ es.toList.map (·.key) := List.mem_map.2 ⟨x, hx, rfl⟩;rw [hkeys] at h1;obtain ⟨p, hp, e⟩ := List.mem_map.1 h1;exact ⟨p.1, e.symm, hsz p hp⟩
 have hrg : es.toList.map (fun x => strOf (WideElems.rg (H := Unit) prog 9 (fun _ => some (.nil, [])) x).1) = us.map (·.1.data.toList) := by
  have h2 : es.toList.map (fun x => strOf (WideElems.rg (H := Unit) prog 9 (fun _ => some (.nil, [])) x).1) = (es.toList.map (·.key)).map (fun v => match v with | .string s => s.data.toList | _ => []) := by
   rw [List.map_map]
   apply List.map_congr_left
   intro x hx;obtain ⟨s, hs, hl⟩ := hkof x hx
   simp [WideElems.rg, WideElems.rd, hs, keyOf_string_mk underlying9 hl, strOf]
  rw [h2, hkeys, List.map_map]; rfl
 refine ⟨_, ⟨es, clk, hb, ⟨?_, ⟨hbo, hbn, ?_⟩, ?_⟩, by omega, rfl⟩, ?_, ?_⟩
 · unfold maxLen; omega
 · rw [hkeys]
   have : (us.map fun p => p.1).Nodup := by simpa [List.map_map, Function.comp_def] using hnd
   refine List.pairwise_map.2 ((List.pairwise_map.1 this).imp fun hne e => hne (by simpa using e))
 · intro x hx
   obtain ⟨s, hs, hl⟩ := hkof x hx;exact ⟨(.string s.data.toList, .nil), by simp only [WideElems.rd, hs, keyOf_string_mk underlying9 hl, Option.bind_some, Option.map_some]⟩
 · simp only [strKeys]
   rw [← hrg];exact perm_keys _ _
 · simp only [Maps.size]
   rw [(sorted_perm _).length_eq]; simp [hlen']
theorem sortedS_any (hum : MapIs Value.string (fun _ => True) w mu (us.map fun p => (p.1, useV p.2))) (hsz : ∀ p ∈ us, p.1.size ≤ maxLen) (hlen : us.length ≤ 65536) :
 Calls prog 142 #[.func (.func 204) #[] #[.pointer (some ⟨w.heap.size, 0, none⟩)]] (w.alloc (.cells #[.map (some mu)] 98)) (RetN w fun v w' => Sl true w' (New w w') 1 StrC v (sortS (us.map (·.1)))) := by
 obtain ⟨D0, hown, hperm, hsize⟩ := owns_uses hum hsz hlen;have hbl := hown.lt
 have hseq : SeqGives Fence.wide 2 prog 204 #[.pointer (some ⟨w.heap.size, 0, none⟩)] encStr (fun ss => ss.Perm (strKeys D0)) (Maps.size D0) (w.alloc (.cells #[.map (some mu)] 98)) :=
  AnyZ.keys_gives (ρ := keysA_ren) { keysA with } Fence.wide _ trivial rfl (by omega) w.heap.size mu us.length D0 _ (by simp) (by simp) (by
   obtain ⟨es, clock, hb, Ft, hs, hD⟩ := hown
   exact ⟨es, clock, (Below.heap_alloc _ _ mu hbl).trans hb, Ft, hs, hD⟩)
 have h := AnyZ.sorted_in sortedA Fence.wide 5 trivial trivial trivial trivial rfl (by omega) (sorts_in _) (enters_of func203 (by kernel_rfl) rfl) 204 #[.pointer (some ⟨w.heap.size, 0, none⟩)] trivial (enters_of func204 (by kernel_rfl) rfl) _ _ (by rw [hsize]; unfold maxLen; omega) (by rw [hsize]; omega) _ hseq
 refine (callsIn_wide.1 h).mono ?_;rintro e w' ⟨v, ss, rfl, hp, hrow, hnil, hb⟩
 have hsort : ss.mergeSort (fun x y => decide (x ≤ y)) = (us.map (·.1.data.toList)).mergeSort (fun x y => decide (x ≤ y)) := mergeSort_of_perm (hp.trans hperm)
 have hM : Mod NoB w w' := (zD w _).trans0 ((Mod.of_below hb).mono fun k hk h => by omega);refine ⟨v, rfl, hM, ?_⟩
 have hlen2 : ss.length = (sortS (us.map (·.1))).length := by
  rw [(sortS_perm _).length_eq, (hp.trans hperm).length_eq]; simp
 have hmap : (ss.mergeSort (fun x y => decide (x ≤ y))).map encStr = (sortS (us.map (·.1))).map Value.string := by
  rw [hsort]; unfold sortS; simp [List.map_map, Function.comp_def]
 have hS := Sl.of_owns (R := StrC) (css := (sortS (us.map (·.1))).map fun x => #[.string x]) (l := sortS (us.map (·.1))) hrow (by rw [hmap, List.flatMap_map]; exact (flatMap_one _ _).symm) (by simp) ⟨by simp, fun i h h' => by simp [StrC]⟩ hlen2
 exact hS.mono (fun k hk => ⟨by have h1 := hk.1; simp at h1; omega, hk.2.1⟩) (fun _ _ h => h)
end
section
variable {w : World} {bl ml mu : Nat} {limit : Int} {hold : Value} {l : LinkL} {us : List (ByteArray × Nat)}
theorem LkInv.repos (h : LkInv w bl ml mu limit hold l us) : ReposOf l (sortS (us.map (·.1))) ∧ us.length ≤ 65536 ∧ ∀ p ∈ us, p.1.size ≤ 128 := by
 have hmem : ∀ p ∈ us, ∃ q ∈ l, q.1.1 = p.1 := fun p hp => cntOf_pos ((h.uk p.1).1 (List.mem_map.2 ⟨p, hp, rfl⟩))
 refine ⟨⟨sortS_sorted h.und, fun r => by rw [(sortS_perm _).mem_iff]; exact h.uk r⟩, ?_, fun p hp => ?_⟩
 · have hsub : ∀ r ∈ us.map (·.1), r ∈ l.map (·.1.1) := fun r hr => by
    obtain ⟨q, hq, e⟩ := cntOf_pos ((h.uk r).1 hr);exact List.mem_map.2 ⟨q, hq, e⟩
   have := xW h.und hsub;have h2 := h.few
   simp at this; omega
 · obtain ⟨q, hq, e⟩ := hmem p hp
   have := h.nm q hq;rw [e] at this;unfold nameB at this;simp only [Bool.and_eq_true, decide_eq_true_eq] at this;exact this.1
theorem repos_any (h : LkInv w bl ml mu limit hold l us) : Calls prog 66 #[.pointer (some ⟨bl, 0, none⟩)] w (RetN w fun v w' => ∃ names, ReposOf l names ∧ Sl true w' (New w w') 1 StrC v names) := by
 obtain ⟨hR, hlen, hsz⟩ := h.repos;have hc := h.cell.2.2.1;have hsz' : ∀ p ∈ us, p.1.size ≤ maxLen := fun p hp => by have := hsz p hp; unfold maxLen; omega
 go_enter func66, ntmps66;go_upto_region 3 with (go_at_call 141; refine h.made.mono ?_; rintro _ w1 ⟨rfl, hw⟩; obtain rfl := hw.symm)
 refine wpR [3, 3, 3, 1, 1, 1, 3] (by rfl) (by rfl) ?_;simp only [zz2];refine qA _ rfl rfl ?_;simp only [nmz];refine qF _ _ rfl rfl rfl ?_;simp only [nmz]
 refine qE _ _ _ _ _ _ rfl rfl rfl fo_101_2 ?_;simp only [nmz];refine wpXd 98 bl 2 hc underlying98 trivial ?_;try simp only [nmz]
 refine wpDo rfl ?_;go_wp2_with (go_at_call 143; refine (keysS_any _ mu).mono ?_; rintro _ w2 ⟨rfl, rfl⟩);try simp only [nmz]
 refine wpDo rfl ?_;go_wp2_with (go_at_call 142; refine (sortedS_any h.um hsz' hlen).mono ?_; rintro _ w3 ⟨v, rfl, hm3, hv⟩);refine qD _ rfl rfl ?_;simp only [nmz]
 refine qB ?_;go_wp2;go_ret;exact ⟨v, rfl, hm3, _, hR, hv⟩
end
end
section
open Go.RowKit Go.Shelf Go.Proofs.Tryz Go.Lib
def forgetL (l : LinkL) (x : List UInt8) : LinkL := l.filter fun p => decide (p.1.2 ≠ x)
def forgetN (l : LinkL) (x : List UInt8) : Nat := (l.filter fun p => decide (p.1.2 = x)).length
theorem delL_filter {α β : Type} [DecidableEq α] (k : α) : ∀ (l : List (α × β)), (l.map (·.1)).Nodup → delL k l = l.filter fun p => decide (p.1 ≠ k)
 | [], _ => rfl
 | p :: l, h => by
  simp only [List.map_cons, List.nodup_cons] at h;unfold delL
  by_cases hp : k = p.1
  · have hall : l.filter (fun p => decide (p.1 ≠ k)) = l := List.filter_eq_self.2 fun q hq => by
     have : q.1 ≠ k := fun e => h.1 (by rw [← hp, ← e]; exact List.mem_map.2 ⟨q, hq, rfl⟩)
     simpa using this
    rw [if_pos hp, List.filter_cons_of_neg (by simp [hp]), hall]
  · rw [if_neg hp, List.filter_cons_of_pos (by simpa using fun e => hp e.symm), delL_filter k l h.2]
theorem unL_filter (l : LinkL) (k : Key) (h : (l.map (·.1)).Nodup) : unL l k = l.filter fun p => decide (p.1 ≠ k) := by
 unfold unL
 split
 · exact delL_filter k l h
 · rename_i hs
   have hn : getL k l = none := by simpa using hs
   have := getL_none.1 hn
   exact (List.filter_eq_self.2 fun q hq => by
    have : q.1 ≠ k := fun e => this (e ▸ List.mem_map.2 ⟨q, hq, rfl⟩)
    simpa using this).symm
theorem nodup_filter {l : LinkL} {f : Key × Int → Bool} (h : (l.map (·.1)).Nodup) : ((l.filter f).map (·.1)).Nodup := h.sublist (List.filter_sublist.map _)
def hasR (rs : List ByteArray) (r : ByteArray) : Bool := rs.any fun a => decide (a = r)
theorem hasR_iff (rs : List ByteArray) (r : ByteArray) : hasR rs r = true ↔ r ∈ rs := by
 simp only [hasR, List.any_eq_true, decide_eq_true_eq];exact ⟨fun ⟨a, h, e⟩ => e ▸ h, fun h => ⟨r, h, rfl⟩⟩
def fgL (l : LinkL) (x : List UInt8) (rs : List ByteArray) : LinkL := l.filter fun p => decide (¬ (hasR rs p.1.1 = true ∧ p.1.2 = x))
def fgN (l : LinkL) (x : List UInt8) (rs : List ByteArray) : Nat := (l.filter fun p => decide (hasR rs p.1.1 = true ∧ p.1.2 = x)).length
theorem fgL_nil (l : LinkL) (x : List UInt8) : fgL l x [] = l := by simp [fgL, hasR]
theorem fgN_nil (l : LinkL) (x : List UInt8) : fgN l x [] = 0 := by simp [fgN, hasR]
theorem fgL_snoc (l : LinkL) (x : List UInt8) (rs : List ByteArray) (r : ByteArray) (h : (l.map (·.1)).Nodup) : unL (fgL l x rs) (r, x) = fgL l x (rs ++ [r]) := by
 unfold fgL;rw [unL_filter _ _ (nodup_filter h), List.filter_filter]
 apply List.filter_congr
 intro p _;rw [Bool.eq_iff_iff];simp only [Bool.and_eq_true, decide_eq_true_eq, hasR_iff, List.mem_append, List.mem_singleton, Prod.ext_iff, ne_eq]
 constructor
 · rintro ⟨h1, h2⟩ ⟨h3 | h3, h4⟩
   · exact h2 ⟨h3, h4⟩
   · exact h1 ⟨h3, h4⟩
 · intro h1
   exact ⟨fun ⟨h2, h3⟩ => h1 ⟨.inr h2, h3⟩, fun ⟨h2, h3⟩ => h1 ⟨.inl h2, h3⟩⟩
theorem getL_fg (l : LinkL) (x : List UInt8) (rs : List ByteArray) (r : ByteArray) (hr : r ∉ rs) (h : (l.map (·.1)).Nodup) : (getL (r, x) (fgL l x rs)).isSome = (getL (r, x) l).isSome := by
 have key : ∀ m : LinkL, (getL (r, x) m).isSome = true ↔ (r, x) ∈ m.map (·.1) := fun m => by
  have := getL_none (k := (r, x)) (l := m)
  cases hg : getL (r, x) m with
  | none => simp [this.1 hg]
  | some v =>
   simp only [Option.isSome_some, true_iff];exact Classical.byContradiction fun hn => by rw [this.2 hn] at hg; cases hg
 rw [Bool.eq_iff_iff, key, key];unfold fgL;simp only [List.mem_map, List.mem_filter, decide_eq_true_eq, hasR_iff]
 constructor
 · rintro ⟨p, ⟨h1, _⟩, h2⟩; exact ⟨p, h1, h2⟩
 · rintro ⟨p, h1, h2⟩; exact ⟨p, ⟨h1, fun h3 => hr (by have h4 := h3.1; rw [h2] at h4; exact h4)⟩, h2⟩
theorem count_key : ∀ {l : LinkL} {k : Key}, (l.map (·.1)).Nodup → (l.filter fun p => decide (p.1 = k)).length = if (getL k l).isSome then 1 else 0
 | [], k, _ => by simp [getL]
 | p :: l, k, h => by
  simp only [List.map_cons, List.nodup_cons] at h;have ih := count_key (k := k) h.2
  by_cases hp : p.1 = k
  · have hn : getL k l = none := getL_none.2 (hp ▸ h.1)
    rw [hn] at ih;simp only [List.filter_cons, hp, decide_true, if_true, List.length_cons, ih]
    simp [getL, hp]
  · simp only [List.filter_cons, hp, decide_false, Bool.false_eq_true, if_false, ih]
    have hp' : ¬ k = p.1 := fun e => hp e.symm
    simp [getL, hp']
theorem length_filter_or {α : Type} (f g : α → Bool) (h : ∀ a, ¬ (f a = true ∧ g a = true)) : ∀ l : List α, (l.filter fun a => f a || g a).length = (l.filter f).length + (l.filter g).length
 | [] => rfl
 | a :: l => by
  have ih := length_filter_or f g h l;have := h a;simp only [List.filter_cons]
  cases hf : f a <;> cases hg : g a <;> simp_all <;> omega
theorem fgN_snoc (l : LinkL) (x : List UInt8) (rs : List ByteArray) (r : ByteArray) (hr : r ∉ rs) (h : (l.map (·.1)).Nodup) : fgN l x (rs ++ [r]) = fgN l x rs + (if (getL (r, x) l).isSome then 1 else 0) := by
 rw [← count_key h];unfold fgN;rw [← length_filter_or]
 · congr 1
   apply List.filter_congr
   intro p _;rw [Bool.eq_iff_iff];simp only [Bool.or_eq_true, decide_eq_true_eq, hasR_iff, List.mem_append, List.mem_singleton, Prod.ext_iff]
   constructor
   · rintro ⟨h1 | h1, h2⟩
     · exact .inl ⟨h1, h2⟩
     · exact .inr ⟨h1, h2⟩
   · rintro (⟨h1, h2⟩ | ⟨h1, h2⟩)
     · exact ⟨.inl h1, h2⟩
     · exact ⟨.inr h1, h2⟩
 · intro p
   simp only [decide_eq_true_eq, hasR_iff, Prod.ext_iff];rintro ⟨⟨h1, _⟩, h2, _⟩;exact hr (h2 ▸ h1)
theorem fg_all (l : LinkL) (x : List UInt8) (rs : List ByteArray) (h : ∀ r, r ∈ rs ↔ 0 < cntOf l r) : fgL l x rs = forgetL l x ∧ fgN l x rs = forgetN l x := by
 constructor
 · unfold fgL forgetL
   apply List.filter_congr
   intro p hp;have := (hasR_iff rs p.1.1).2 ((h p.1.1).2 (cntOf_of_mem hp))
   simp [this]
 · unfold fgN forgetN
   congr 1
   apply List.filter_congr
   intro p hp;have := (hasR_iff rs p.1.1).2 ((h p.1.1).2 (cntOf_of_mem hp))
   simp [this]
theorem fgN_le (l : LinkL) (x : List UInt8) (rs : List ByteArray) : fgN l x rs ≤ l.length := List.length_filter_le _ _
section
variable {w0 w : World} {p : Value} {limit : Int} {l : LinkL} {F : Nat → Prop}
theorem repos_at (h : LkAt w0 w p limit l F) : Calls prog 66 #[p] w (RetN w fun v w' => ∃ names, ReposOf l names ∧ Sl true w' (New w w') 1 StrC v names) := by
 obtain ⟨_, ⟨bl, ml, mu, hold, us, rfl, hi, hF⟩, _, _⟩ := id h;exact repos_any hi
theorem LStep.trans {w1 w2 : World} {l1 l2 : LinkL} (h : LStep w0 w p limit F w1 l1) (k : ∀ F1, LkAt w0 w1 p limit l1 F1 → LStep w0 w1 p limit F1 w2 l2) : LStep w0 w p limit F w2 l2 := by
 obtain ⟨F1, h1, m1, n1⟩ := h;obtain ⟨F2, h2, m2, n2⟩ := k F1 h1;refine ⟨F2, h2, m1.trans m2 (fun k hk hs => (n1 k hs).elim id fun hn => ?_), fun k hk => ?_⟩
 · have := hn.1; omega
 · rcases n2 k hk with h | h
   · exact (n1 k h).imp id fun hn => ⟨hn.1, Nat.lt_of_lt_of_le hn.2 m2.size⟩
   · exact .inr ⟨Nat.le_trans m1.size h.1, h.2⟩
def FgRel (w0 w w1 : World) (p : Value) (limit : Int) (l : LinkL) (F : Nat → Prop) (x : List UInt8) (names : List ByteArray) (n i : Value) (wr : World) : Prop :=
 ∃ k Fk, k ≤ names.length ∧ i = .int .i64 k ∧ n = .int .i64 (fgN l x (names.take k)) ∧ LkAt w0 wr p limit (fgL l x (names.take k)) Fk ∧ Mod F w wr ∧ (∀ j, Fk j → F j ∨ w1.heap.size ≤ j) ∧ (∀ j, w.heap.size ≤ j → j < w1.heap.size → wr.heap[j]? = w1.heap[j]?) ∧ Mod (fun j => F j) w1 wr
theorem forget_at (h : LkAt w0 w p limit l F) (x : List UInt8) (hx : x.length = 32) :
 Calls prog 127 #[p, .agg (qC x)] w (fun e w' => e = .returned (.int .i64 (forgetN l x)) ∧ LStep w0 w p limit F w' (forgetL l x)) := by
 obtain ⟨bp, rfl⟩ := h.facts.1;have hnd := h.facts.2.1;have hfew := h.facts.2.2.2.2.2;go_enter func127, ntmps127;go_upto_region 0 with (fail);refine wpR [1, 3] (by rfl) (by rfl) ?_
 simp only [zz2];refine wpDo rfl ?_;refine xF 24 _ _ (by rfl) (by rfl) (fun w1 hB1 hm1 hs1 => ?_)
 replace hB1 : w1.heap[w.heap.size]? = some (.cells (qC x) 24 (0, 0)) := hB1;refine qD _ rfl rfl ?_;simp only [nmz];refine qB ?_;have h1 := h.keep0 hm1
 have hlt := h.lt;go_upto_region 1 with (fail);refine wpR [3, 1, 3, 3] (by rfl) (by rfl) ?_;simp only [zz2];refine qA _ rfl rfl ?_;simp only [nmz];refine wpDo rfl ?_
 go_wp2_with (go_at_call 66; refine (repos_at h1).mono ?_; rintro _ w2 ⟨v, rfl, hm2, names, hnames, hsl⟩; obtain ⟨na, nc, rfl, hnl, hna⟩ := id hsl.at);try simp only [nmz]
 refine zP _ _ _ _ _ rfl rfl rfl (by kernel_rfl) ?_;simp only [nmz];refine qA _ rfl rfl ?_;simp only [nmz];refine qB ?_;have hrd := hm2.obj id hB1
 have h2 := h1.keep0 hm2;have hM2 := hm1.trans0 hm2;have hs2 := hm2.size;have hndn : names.Nodup := hnames.1.imp fun {a b} hab e => by rw [e] at hab; exact List.lt_irrefl _ hab
 have hmem := hnames.2;have HND := hid hndn;have HMEM := hid hmem;have HNA := hid hna;clear hB1 hnames hsl hndn hmem hna h1;go_wp2
 go_loopw [4, 6, 10] (fun n _ i wx => FgRel w0 w w2 (.pointer (some ⟨bp, 0, none⟩)) limit l F x names n i wx) (fun _ _ i _ => names.length - (intOf i).toNat)
 case atStart => exact ⟨0, F, by omega, rfl, by simp [fgN_nil], by simpa [fgL_nil] using h2, hM2.mono (fun _ _ h => h.elim), fun j hj => .inl hj, fun _ _ _ => rfl, Mod.refl _ _⟩
 case round =>
  rename_i wr
  obtain ⟨k, Fk, hk, rfl, rfl, hA, hM, hFk, hkeep, hMw⟩ := hrel
  by_cases hlt2 : k < names.length
  · have hz : (k : Int) < (names.length : Int) := by omega
    obtain ⟨ba, oa, rfl, hba, -, hca⟩ := HNA.out k hlt2;obtain ⟨_, -, rfl, hca⟩ := hca k hlt2
    have hnm : wr.cell? ⟨ba, oa + k * 1, none⟩ = some (.string names[k]) := by
     have h1 := CellsAt.one.1 hca;rw [World.cell?_of_block (w := w2) (hkeep ba (by have := hba.1; omega) hba.2)]; exact h1
    have hbx : wr.heap[w.heap.size]? = some (.cells (qC x) 24 (0, 0)) := (hkeep _ (Nat.le_refl _) (by omega)).trans hrd
    have hcx : CellsAt wr w.heap.size 0 (qC x) := CellsAt.whole hbx
    have hin : names[k] ∉ names.take k := fun hm => by
     have h1 := List.nodup_iff_pairwise_ne.1 HND.out;obtain ⟨i, hi, e⟩ := List.getElem_of_mem hm;have hik : i < k := by simp at hi; omega
     rw [List.getElem_take] at e;exact (List.pairwise_iff_getElem.1 h1 i k (by omega) hlt2 hik) e
    have hgs := getL_fg l x (names.take k) names[k] hin hnd;have hst := fgL_snoc l x (names.take k) names[k] hnd;have hcn := fgN_snoc l x (names.take k) names[k] hin hnd
    rw [← List.take_succ_eq_append_getElem hlt2] at hst hcn;have hcle := fgN_le l x (names.take k);obtain ⟨t, ht⟩ : ∃ t, (getL (names[k], x) l).isSome = t := ⟨_, rfl⟩
    rw [ht] at hgs hcn;have HGS := hid hgs;have HST := hid hst;have HCN := hid hcn;clear hgs hst hcn ht hca hin;have hun := unlink_at hA (names[k], x) hx
    rw [HGS.out, HST.out] at hun;go_upto_region 3 with (fail);refine wpR [3, 1, 3] (by rfl) (by rfl) ?_;simp only [zz2]
    refine qX _ _ _ _ _ _ _ _ _ rfl rfl rfl rfl underlying127 (n := 1) (by kernel_rfl) hlt2 ?_;simp only [nmz];refine wpXd 9 ba (oa + k * 1) hnm underlying9 trivial ?_
    refine qD _ rfl rfl ?_;simp only [nmz];refine qB ?_;go_upto_region 4 with (fail);refine wpR [3, 3, 1, 1] (by rfl) (by rfl) ?_;simp only [zz2]
    refine qA _ rfl rfl ?_;simp only [nmz];refine qA _ rfl rfl ?_;simp only [nmz]
    refine wpXA 24 w.heap.size 0 (qC x) hcx underlying24 32 (by rw [qI]; exact hx) trivial ?_;try simp only [nmz]
    refine wpDo rfl ?_;go_wp2_with (go_at_call 198; refine hun.mono ?_; rintro _ w4 ⟨rfl, hL⟩);try simp only [nmz]
    refine qB ?_;obtain ⟨F2, hA2, hm4, hn4⟩ := hL
    have hrel2 : ∀ (n2 : Nat), n2 = fgN l x (names.take (k + 1)) → FgRel w0 w w2 (.pointer (some ⟨bp, 0, none⟩)) limit l F x names (.int .i64 n2) (.int .i64 ((k : Int) + 1)) w4 := fun n2 hn2 => by
     have hsz4 := hMw.size
     refine ⟨k + 1, F2, by omega, by go_num, by rw [hn2], hA2, hM.trans hm4 (fun j hj hs => (hFk j hs).elim id fun h => ?_), fun j hj => ?_, fun j h3 h4 => ?_, hMw.trans hm4 (fun j hj hs => (hFk j hs).elim id fun h => ?_)⟩
     · have := hM2.size; omega
     · rcases hn4 j hj with h | h
       · exact hFk j h
       · exact .inr (by have := h.1; omega)
     · rw [hm4.block j (by omega) (fun hs => (hFk j hs).elim (fun h => by have := hlt j h; omega) fun h => by omega)]
       exact hkeep j h3 h4
     · omega
    have HREL := hid hrel2;clear hrel2 hm4 hn4 hA2 hA hun
    cases t
    · go_wp2
      go_roundw
      case rel => exact HREL.out _ (by have := HCN.out; simpa using this.symm)
      case measure => simp [intOf]; omega
    · go_wp2
      go_roundw
      case rel =>
       refine HREL.out (fgN l x (names.take k) + 1) ?_;have := HCN.out; simpa using this.symm
      case measure => simp [intOf]; omega
  · have hz : ¬ (k : Int) < (names.length : Int) := by omega
    have e : names.take k = names := List.take_of_length_le (by omega);rw [e] at hA ⊢;have hall := fg_all l x names HMEM.out;rw [hall.1] at hA;rw [hall.2]
    have HL : Hid (LStep w0 w (.pointer (some ⟨bp, 0, none⟩)) limit F wr (forgetL l x)) := ⟨Fk, hA, hM, fun j hj => (hFk j hj).imp id fun h => ⟨by have := hM2.size; omega, hA.lt j hj⟩⟩
    clear hall hA hM hMw hkeep;go_wp2;go_ret;exact ⟨rfl, HL.out⟩
end
def idV (x : List UInt8) : Value := .agg (qC x)
def IdOk (x : List UInt8) : Prop := x.length = 32
theorem run_eqId (n : Nat) (x y : List UInt8) (hx : x.length = 32) (hy : y.length = 32) (w : World) : (Op.equalIn (n + 2) 24 (.agg (qC x)) (.agg (qC y))).run prog w = .ok (x == y) w :=
 run_equalIn_bytes w n 24 5 32 underlying24 underlying5 (fun w => sizeU8 w) x y hx hy
theorem keyT_id : KeyT prog 24 idV IdOk := by
 refine ⟨fun e x w hx => run_checkKey_id e 9998 x hx w, fun x y w hx hy => ?_, ⟨_, underlying24, .inl fun x y => rfl⟩, fun x _ => ?_⟩
 · unfold Op.equal Op.maxDepth idV
   rw [show (10000 : Nat) = 9998 + 2 from rfl, run_eqId 9998 x y hx hy]
   congr 1
   rw [Bool.eq_iff_iff]; simp
 · simp only [Instr.sameBits, idV, Bool.and_eq_true, beq_self_eq_true, true_and, List.all_eq_true]
   intro q hq;obtain ⟨a, b⟩ := q
   have hab : ∀ (l : List Value) (p : Value × Value), p ∈ l.zip l → p.1 = p.2 ∧ p.1 ∈ l := by
    intro l
    induction l with
    | nil => intro p hp; simp at hp
    | cons v l ih =>
     intro p hp;rw [List.zip_cons_cons, List.mem_cons] at hp
     rcases hp with rfl | hp
     · simp
     · exact ⟨(ih p hp).1, List.mem_cons_of_mem _ (ih p hp).2⟩
   obtain ⟨h1, h2⟩ := hab _ _ hq;have h1' : a = b := h1;subst h1';simp only [qC] at h2
   simp at h2; obtain ⟨c, _, rfl⟩ := h2; simp [Instr.sameBits, byteV]
theorem idV_inj {a b : List UInt8} (h : idV a = idV b) : a = b := by
 have h1 : (qC a).toList = (qC b).toList := by rw [Value.agg.inj h]
 simp only [qC] at h1;exact (List.map_inj_right (fun _ _ e => byteV_inj e)).1 h1
abbrev BlobL := List (List UInt8 × List UInt8)
structure Blb where
 id : List UInt8
 blk : Nat
 val : Value
 bytes : List UInt8
def cont (bl : List Blb) : BlobL := bl.map fun b => (b.id, b.bytes)
def usedL : BlobL → Nat
 | [] => 0
 | p :: l => p.2.length + usedL l
structure StInv (w : World) (bs ms wd : Nat) (room : Int) (bl : List Blb) : Prop where
 box : w.heap[bs]? = some (.cells #[.int .i64 wd, .int .i64 room, .int .i64 (usedL (cont bl) : Nat), .map (some ms)] 95 (0, 0))
 lm : MapIs idV IdOk w ms (bl.map fun b => (b.id, useV b.blk))
 kb : ∀ b ∈ bl, w.heap[b.blk]? = some (.cells #[b.val] 170 (0, 0))
 bt : ∀ b ∈ bl, Bts 0 w b.val b.bytes
 sz : ∀ b ∈ bl, b.bytes.length ≤ 4096
 few : bl.length ≤ 10000
 wok : 1 ≤ wd ∧ wd ≤ 32
def SFoot (bs ms : Nat) (bl : List Blb) (k : Nat) : Prop := k = bs ∨ k = ms ∨ ∃ b ∈ bl, k = b.blk ∨ b.val.ownBlock = some k
section
variable {w : World} {bs ms wd : Nat} {room : Int} {bl : List Blb}
theorem StInv.keep {S : Nat → Prop} {w' : World} (h : StInv w bs ms wd room bl) (hm : Mod S w w') (hS : ∀ k, SFoot bs ms bl k → ¬ S k) : StInv w' bs ms wd room bl :=
 ⟨hm.obj (hS _ (.inl rfl)) h.box, h.lm.keep hm (hS _ (.inr (.inl rfl))), fun b hb => hm.obj (hS _ (.inr (.inr ⟨b, hb, .inl rfl⟩))) (h.kb b hb), fun b hb => xO (h.bt b hb) hm (fun k hk => hS _ (.inr (.inr ⟨b, hb, .inr hk⟩))), h.sz, h.few, h.wok⟩
theorem StInv.keep0 {w' : World} (h : StInv w bs ms wd room bl) (hm : Mod NoB w w') : StInv w' bs ms wd room bl := h.keep hm (fun _ _ => id)
theorem StInv.cell (h : StInv w bs ms wd room bl) : w.cell? ⟨bs, 0, none⟩ = some (.int .i64 wd) ∧ w.cell? ⟨bs, 1, none⟩ = some (.int .i64 room) ∧ w.cell? ⟨bs, 2, none⟩ = some (.int .i64 (usedL (cont bl) : Nat)) ∧ w.cell? ⟨bs, 3, none⟩ = some (.map (some ms)) := by
 simp [World.cell?, h.box]
theorem StInv.lt (h : StInv w bs ms wd room bl) : ∀ k, SFoot bs ms bl k → k < w.heap.size := by
 intro k hk
 rcases hk with rfl | rfl | ⟨b, hb, rfl | hk⟩
 · exact (Array.getElem?_eq_some_iff.1 h.box).1
 · exact h.lm.lt
 · exact (Array.getElem?_eq_some_iff.1 (h.kb b hb)).1
 · exact (World.ownsRow.lt (h.bt b hb) k hk).2
theorem StInv.nd (h : StInv w bs ms wd room bl) : ((cont bl).map (·.1)).Nodup := by
 have := h.lm.nd
 simpa [cont, List.map_map, Function.comp_def] using this
theorem StInv.ok (h : StInv w bs ms wd room bl) : ∀ b ∈ bl, b.id.length = 32 := fun b hb => h.lm.ok (b.id, useV b.blk) (List.mem_map.2 ⟨b, hb, rfl⟩)
def findB (id : List UInt8) : List Blb → Option Blb
 | [] => none
 | b :: l => if id = b.id then some b else findB id l
theorem findB_some {id : List UInt8} {b : Blb} : ∀ {bl : List Blb}, findB id bl = some b → b ∈ bl ∧ b.id = id
 | c :: l, h => by
  unfold findB at h
  split at h
  · rename_i hc; cases h; exact ⟨by simp, hc.symm⟩
  · have := findB_some h; exact ⟨by simp [this.1], this.2⟩
theorem findB_map {γ : Type} (f : Blb → γ) (id : List UInt8) (bl : List Blb) : getL id (bl.map fun b => (b.id, f b)) = (findB id bl).map f := by
 induction bl with
 | nil => rfl
 | cons b l ih => simp only [List.map_cons, getL, findB]; split <;> simp_all
theorem getB (id : List UInt8) (bl : List Blb) : getL id (cont bl) = (findB id bl).map (·.bytes) := findB_map _ _ _
def blkV : Option Blb → Value
 | some b => useV b.blk
 | none => .pointer none
theorem keptZ : (prog.info? 166).bind (·.zero) = some (.pointer none) := by kernel_rfl
theorem StInv.look (h : StInv w bs ms wd room bl) {o : Oper} {a : Act} (m x : Operand) (id : List UInt8) (hid : id.length = 32) (ho : o.op = .lookup 93 m x true) (hm : a.eval m = .map (some ms)) (hx : a.eval x = idV id) :
 (execOp a.eval o).run prog w = .ok (.value (.tuple #[blkV (findB id bl), .bool (findB id bl).isSome])) w :=
 yG keyT_id h.lm id hid 93 166 underlying93 (.pointer none) keptZ m x true ho hm hx _ (by
  rw [findB_map]
  cases findB id bl <;> rfl)
def BNewR (wd room : Int) (w : World) (e : Ending) (w' : World) : Prop := ∃ bs ms, e = .returned (.tuple #[.pointer (some ⟨bs, 0, none⟩), .int .i64 0]) ∧ StInv w' bs ms wd.toNat room [] ∧ Mod NoB w w' ∧ ∀ k, SFoot bs ms [] k → New w w' k
theorem bNew_any (wd room : Int) (hw : 1 ≤ wd ∧ wd ≤ 32) (hr : 0 ≤ room ∧ room ≤ 67108864) (w : World) : Calls prog 78 #[.int .i64 wd, .int .i64 room] w (BNewR wd room w) := by
 have hmm := @run_makeMap prog;obtain ⟨h1, h2⟩ := hw;obtain ⟨h3, h4⟩ := hr;go_enter func78, ntmps78;go_upto_region 3 with (fail)
 refine wpR [3, 3, 1, 1, 1, 3, 3] (by rfl) (by rfl) ?_;simp only [zz2];refine qA _ rfl rfl ?_;simp only [nmz];refine qA _ rfl rfl ?_;simp only [nmz]
 refine qW rfl (fun K hK => ?_);unfold Oper.wp execOp;simp only [Array.map_empty, Option.map_none, Sem.run_bind, hmm, Result.andThen_ok, Sem.run_pure]
 have hB := heap_alloc_new w (.map #[] 0);have hM := zD w (.map #[] 0);have hs : w.heap.size < (w.alloc (.map #[] 0)).heap.size := by simp
 generalize w.alloc (.map #[] 0) = w1 at hB hM hs ⊢;refine hK _ _ trivial ?_;clear hK K;try simp only [nmz]
 refine wpDo rfl ?_;go_wp2;try simp only [nmz]
 refine wpDo rfl ?_;refine xF 95 _ _ (by rfl) (by rfl) (fun w3 hB2 hm2 hs2 => ?_);refine qD _ rfl rfl ?_;simp only [nmz];refine qD _ rfl rfl ?_;simp only [nmz]
 refine qB ?_;go_wp2;go_ret2;have hB' := hm2.obj id hB;have hwt : ((wd.toNat : Nat) : Int) = wd := Int.toNat_of_nonneg (by omega)
 refine ⟨_, w.heap.size, rfl, ⟨by rw [hwt]; exact hB2, MapIs.made hB', by simp, by simp, by simp, by simp, by omega⟩, hM.trans0 hm2, fun k hk => ?_⟩
 rcases hk with rfl | rfl | ⟨b, hb, _⟩
 · exact ⟨by omega, by omega⟩
 · exact ⟨by omega, by omega⟩
 · simp at hb
def NoStore (w : World) (v : Value) : Prop := v = .pointer none ∨ ∃ b x y z, v = .pointer (some ⟨b, 0, none⟩) ∧ w.heap[b]? = some (.cells #[x, y, z, .map none] 95 (0, 0))
theorem bNone_at (b : Nat) (m : Option Nat) (w : World) (hc : w.cell? ⟨b, 3, none⟩ = some (.map m)) : Calls prog 92 #[.pointer (some ⟨b, 0, none⟩)] w (RetE (.bool m.isNone) w) := by
 have he := fun (w : World) => run_eql_map_nil (P := prog) w 93 24 166 m underlying93
 cases m
 all_goals
  go_enter func92, ntmps92;go_wp2;go_ret;exact ⟨rfl, rfl⟩
theorem bNone_nil (w : World) : Calls prog 92 #[.pointer none] w (RetE (.bool true) w) := by
 go_enter func92, ntmps92;go_wp2;go_ret;exact ⟨rfl, rfl⟩
theorem bNone_no {v : Value} (h : NoStore w v) : Calls prog 92 #[v] w (RetE (.bool true) w) := by
 rcases h with rfl | ⟨b, x, y, z, rfl, hb⟩
 · exact bNone_nil w
 · exact bNone_at b none w (by simp [World.cell?, hb])
theorem StInv.made (h : StInv w bs ms wd room bl) : Calls prog 92 #[.pointer (some ⟨bs, 0, none⟩)] w (RetE (.bool false) w) := bNone_at bs (some ms) w h.cell.2.2.2
theorem bWidth_any (h : StInv w bs ms wd room bl) : Calls prog 124 #[.pointer (some ⟨bs, 0, none⟩)] w (RetE (.int .i64 wd) w) := by
 have hc := h.cell.1;go_enter func124, ntmps124;go_wp2_with (go_at_call 92; refine h.made.mono ?_; rintro _ w1 ⟨rfl, hw⟩; obtain rfl := hw.symm);go_ret;exact ⟨rfl, rfl⟩
theorem bWidth_no {v : Value} (h : NoStore w v) : Calls prog 124 #[v] w (RetE (.int .i64 0) w) := by
 go_enter func124, ntmps124;go_wp2_with (go_at_call 92; refine (bNone_no h).mono ?_; rintro _ w1 ⟨rfl, hw⟩; obtain rfl := hw.symm);go_ret;exact ⟨rfl, rfl⟩
end
theorem fo_95_3 : zB prog 95 3 = some 3 := by kernel_rfl
theorem fo_170_0 : zB prog 170 0 = some 0 := by kernel_rfl
section
variable {w : World} {bs ms wd : Nat} {room : Int} {bl : List Blb}
def GetR (w : World) (r : Option (List UInt8)) : Ending → World → Prop := fun e w' => Mod NoB w w' ∧ match r with
 | some m => ∃ v, e = .returned (.tuple #[v, .bool true]) ∧ Bts w.heap.size w' v m
 | none => e = .returned (.tuple #[.slice none 0 0, .bool false])
theorem bGet_any (h : StInv w bs ms wd room bl) (di : List UInt8) (hid : di.length = 32) : Calls prog 33 #[.pointer (some ⟨bs, 0, none⟩), .agg (qC di)] w (GetR w (getL di (cont bl))) := by
 have hrs : (qC di).size = 32 := by rw [qI, hid]
 have H := Lib.hid h;rw [getB];obtain ⟨fb, hfb⟩ : ∃ q, findB di bl = q := ⟨_, rfl⟩;rw [hfb];have HFB := Lib.hid hfb
 have hl := fun (w' : World) (hm : Mod NoB w w') (o : Oper) (a : Act) (m x : Operand) => @StInv.look w' bs ms wd room bl (H.out.keep0 hm) o a m x di hid;simp only [hfb] at hl
 have HL := Lib.hid hl;clear h hfb hl;go_enter func33, ntmps33;go_upto_region 0 with (fail);refine wpR [1, 3, 3] (by rfl) (by rfl) ?_;simp only [zz2];refine wpDo rfl ?_
 refine xF 24 _ _ (by rfl) (by rfl) (fun w1 hB1 hm1 hs1 => ?_);replace hB1 : w1.heap[w.heap.size]? = some (.cells (qC di) 24 (0, 0)) := hB1;refine qD _ rfl rfl ?_
 simp only [nmz];refine qD _ rfl rfl ?_;simp only [nmz];refine qB ?_;have hc3 := (H.out.keep0 hm1).cell.2.2.2;have hcI := CellsAt.whole hB1
 go_upto_region 1 with (fail);refine wpR [3, 1] (by rfl) (by rfl) ?_;simp only [zz2];refine qA _ rfl rfl ?_;simp only [nmz];refine wpDo rfl ?_
 go_wp2_with (go_at_call 92; refine (H.out.keep0 hm1).made.mono ?_; rintro _ w2 ⟨rfl, hw⟩; obtain rfl := hw.symm);try simp only [nmz]
 refine qB ?_;go_upto_region 3 with (fail);have hS : Mod NoB w1 w1.drew := (Mod.refl _ _).drew
 cases fb with
 | none =>
  refine wpRP [(0, 3), (1, 3), (2, 3), (3, 0), (4, 0), (5, 0), (6, 3), (7, 3), (8, 3), (9, 3), (10, 3)] [] (fun w' => Mod NoB w1 w') hS ?_;simp only [zz4]
  refine qA _ rfl rfl ?_;simp only [nmz];refine qF _ _ rfl rfl rfl ?_;simp only [nmz];refine qE _ _ _ _ _ _ rfl rfl rfl fo_95_3 ?_;simp only [nmz]
  refine wpLd 93 bs 3 (fun w' hS => hS.cell id hc3) underlying93 ?_;simp only [nmz];refine wpLA 24 w.heap.size 0 (qC di) (fun w' hS => hcI.keep hS id) underlying24 32 hrs ?_
  simp only [nmz];refine qS rfl (fun w' hS => HL.out w' (hm1.trans0 hS) _ _ _ _ (by rfl) (by rfl) (by rfl)) ?_;simp only [nmz];refine qA _ rfl rfl ?_;simp only [nmz]
  refine qJ (v := ?_) rfl (fun w' => ?_) ?_; rotate_left; · (go_simp; try with_reducible rfl)
  simp only [nmz];refine qJ (v := ?_) rfl (fun w' => ?_) ?_; rotate_left; · (go_simp; try with_reducible rfl)
  simp only [nmz];refine qD _ rfl rfl ?_;simp only [nmz];refine qD _ rfl rfl ?_;simp only [nmz];refine qB ?_;have hMr := hm1.trans0 hS
  clear hS hm1 hc3 hcI hB1;go_wp2;go_ret2;exact ⟨hMr, rfl⟩
 | some b =>
  obtain ⟨hbm, rfl⟩ := findB_some HFB.out;have hkb := H.out.kb b hbm;have hbt := H.out.bt b hbm;have hsz := H.out.sz b hbm
  have hc0 : w.cell? ⟨b.blk, 0, none⟩ = some b.val := by simp [World.cell?, hkb]
  clear hkb;refine wpRP [(0, 3), (1, 3), (2, 3), (3, 0), (4, 0), (5, 0), (6, 3), (7, 3), (8, 3), (9, 3), (10, 3)] [] (fun w' => Mod NoB w1 w') hS ?_;simp only [zz4]
  refine qA _ rfl rfl ?_;simp only [nmz];refine qF _ _ rfl rfl rfl ?_;simp only [nmz];refine qE _ _ _ _ _ _ rfl rfl rfl fo_95_3 ?_;simp only [nmz]
  refine wpLd 93 bs 3 (fun w' hS => hS.cell id hc3) underlying93 ?_;simp only [nmz];refine wpLA 24 w.heap.size 0 (qC b.id) (fun w' hS => hcI.keep hS id) underlying24 32 hrs ?_
  simp only [nmz];refine qS rfl (fun w' hS => HL.out w' (hm1.trans0 hS) _ _ _ _ (by rfl) (by rfl) (by rfl)) ?_;simp only [nmz];refine qA _ rfl rfl ?_;simp only [nmz]
  refine qJ (v := ?_) rfl (fun w' => ?_) ?_; rotate_left; · (go_simp; try with_reducible rfl)
  simp only [nmz];refine qJ (v := ?_) rfl (fun w' => ?_) ?_; rotate_left; · (go_simp; try with_reducible rfl)
  simp only [nmz];refine qD _ rfl rfl ?_;simp only [nmz];refine qD _ rfl rfl ?_;simp only [nmz];refine qB ?_;have hM1 := hm1.trans0 hS
  have hc0 := hM1.cell id hc0;have hbk : Bts 0 w1.drew b.val b.bytes := xO hbt hM1 (fun _ _ => id);clear hS hm1 hc3 hcI hB1;go_upto_region 6 with (fail)
  refine wpR [3, 3, 3, 1, 1, 3, 3] (by rfl) (by rfl) ?_;simp only [zz2];refine qA _ rfl rfl ?_;simp only [nmz];refine qF _ _ rfl rfl rfl ?_;simp only [nmz]
  refine qE _ _ _ _ _ _ rfl rfl rfl fo_170_0 ?_;simp only [nmz];refine wpXd (v := b.val) 53 b.blk 0 hc0 underlying53 trivial ?_;try simp only [nmz]
  refine wpDo rfl ?_;refine qG (qH 93 [.tmp 24] _ rfl _ func93 rfl (by kernel_rfl) [b.val] rfl _) (bytesClone_any (Bts.sl hbk) (by omega)) ?_
  rintro e w3 ⟨v3, rfl, hb3, hm3⟩;have hb3 : Bts w.heap.size w3 v3 b.bytes := owns_base hb3 hM1.size;refine ⟨_, rfl, ?_⟩;refine qD _ rfl rfl ?_;simp only [nmz]
  refine qD _ rfl rfl ?_;simp only [nmz];refine qB ?_;have hMr := hM1.trans0 hm3;clear hm3 hM1 hc0;go_wp2;go_ret2;exact ⟨hMr, v3, rfl, hb3⟩
def SizeR (w : World) (r : Option (List UInt8)) : Ending → World → Prop := fun e w' => Mod NoB w w' ∧ e = .returned (.tuple #[.int .i64 ((r.getD []).length : Nat), .bool r.isSome])
theorem bSize_any (h : StInv w bs ms wd room bl) (di : List UInt8) (hid : di.length = 32) : Calls prog 91 #[.pointer (some ⟨bs, 0, none⟩), .agg (qC di)] w (SizeR w (getL di (cont bl))) := by
 have hrs : (qC di).size = 32 := by rw [qI, hid]
 have H := Lib.hid h;have hg := fun (w1 : World) (hm : Mod NoB w w1) => bGet_any (h.keep0 hm) di hid;obtain ⟨r, hr⟩ : ∃ q, getL di (cont bl) = q := ⟨_, rfl⟩;rw [hr]
 simp only [hr] at hg;clear h hr;go_enter func91, ntmps91;go_upto_region 0 with (fail);refine wpR [1, 3, 3] (by rfl) (by rfl) ?_;simp only [zz2];refine wpDo rfl ?_
 refine xF 24 _ _ (by rfl) (by rfl) (fun w1 hB1 hm1 hs1 => ?_);replace hB1 : w1.heap[w.heap.size]? = some (.cells (qC di) 24 (0, 0)) := hB1;refine qD _ rfl rfl ?_
 simp only [nmz];refine qD _ rfl rfl ?_;simp only [nmz];refine qB ?_;have hcI := CellsAt.whole hB1
 cases r with
 | none =>
  go_upto_region 1 with (fail);refine wpR [3, 1, 1, 3, 3, 3, 3, 3] (by rfl) (by rfl) ?_;simp only [zz2];refine qA _ rfl rfl ?_;simp only [nmz]
  refine wpXA 24 w.heap.size 0 (qC di) hcI underlying24 32 hrs trivial ?_;try simp only [nmz]
  refine wpDo rfl ?_;refine qG (qH 33 [.tmp 9, .tmp 10] _ rfl _ func33 rfl (by kernel_rfl) [.pointer (some ⟨bs, 0, none⟩), .agg (qC di)] rfl _) (hg _ hm1) ?_
  rintro e w2 ⟨hm2, rfl⟩;refine ⟨_, rfl, ?_⟩;refine qA _ rfl rfl ?_;simp only [nmz]
  refine qJ (v := ?_) rfl (fun w' => ?_) ?_; rotate_left; · (go_simp; try with_reducible rfl)
  simp only [nmz];refine qJ (v := ?_) rfl (fun w' => ?_) ?_; rotate_left; · (go_simp; try with_reducible rfl)
  simp only [nmz];refine qD _ rfl rfl ?_;simp only [nmz];refine qD _ rfl rfl ?_;simp only [nmz];refine qB ?_;have hMr := hm1.trans0 hm2;go_wp2;go_ret2
  exact ⟨hMr, rfl⟩
 | some m =>
  go_upto_region 1 with (fail);refine wpR [3, 1, 1, 3, 3, 3, 3, 3] (by rfl) (by rfl) ?_;simp only [zz2];refine qA _ rfl rfl ?_;simp only [nmz]
  refine wpXA 24 w.heap.size 0 (qC di) hcI underlying24 32 hrs trivial ?_;try simp only [nmz]
  refine wpDo rfl ?_;refine qG (qH 33 [.tmp 9, .tmp 10] _ rfl _ func33 rfl (by kernel_rfl) [.pointer (some ⟨bs, 0, none⟩), .agg (qC di)] rfl _) (hg _ hm1) ?_
  rintro e w2 ⟨hm2, v2, rfl, hb2⟩;obtain ⟨a2, c2, rfl, -, -⟩ := Sl.at hb2.sl;refine ⟨_, rfl, ?_⟩;refine qA _ rfl rfl ?_;simp only [nmz]
  refine qJ (v := ?_) rfl (fun w' => ?_) ?_; rotate_left; · (go_simp; try with_reducible rfl)
  simp only [nmz];refine qJ (v := ?_) rfl (fun w' => ?_) ?_; rotate_left; · (go_simp; try with_reducible rfl)
  simp only [nmz];refine qD _ rfl rfl ?_;simp only [nmz];refine qD _ rfl rfl ?_;simp only [nmz];refine qB ?_;have hMr := hm1.trans0 hm2;go_wp2;go_ret2
  exact ⟨hMr, rfl⟩
end
theorem fo_95_2 : zB prog 95 2 = some 2 := by kernel_rfl
def delB (di : List UInt8) : List Blb → List Blb
 | [] => []
 | b :: l => if di = b.id then l else b :: delB di l
theorem delB_map {γ : Type} (f : Blb → γ) (di : List UInt8) (bl : List Blb) : delL di (bl.map fun b => (b.id, f b)) = (delB di bl).map fun b => (b.id, f b) := by
 induction bl with
 | nil => rfl
 | cons b l ih => simp only [List.map_cons, delL, delB]; split <;> simp_all
theorem delB_mem {di : List UInt8} {b : Blb} : ∀ {bl : List Blb}, b ∈ delB di bl → b ∈ bl
 | c :: l, h => by
  unfold delB at h
  split at h
  · exact List.mem_cons_of_mem _ h
  · rcases List.mem_cons.1 h with rfl | h
    · exact List.mem_cons_self
    · exact List.mem_cons_of_mem _ (delB_mem h)
theorem delB_len (di : List UInt8) (bl : List Blb) : (delB di bl).length ≤ bl.length := by
 induction bl with
 | nil => exact Nat.le_refl _
 | cons b l ih => unfold delB; split <;> simp <;> omega
theorem usedL_del {di : List UInt8} {m : List UInt8} : ∀ {c : BlobL}, getL di c = some m → usedL (delL di c) + m.length = usedL c
 | p :: l, h => by
  unfold getL at h;unfold delL
  split at h
  · rename_i hk; rw [if_pos hk]; cases h; simp only [usedL]; omega
  · rename_i hk; rw [if_neg hk]; simp only [usedL]; have := usedL_del h; omega
theorem usedL_le {c : BlobL} (h : ∀ p ∈ c, p.2.length ≤ 4096) : usedL c ≤ 4096 * c.length := by
 induction c with
 | nil => simp [usedL]
 | cons p l ih => simp only [usedL, List.length_cons]; have := h p (by simp); have := ih (fun q hq => h q (by simp [hq])); omega
section
variable {w : World} {bs ms wd : Nat} {room : Int} {bl : List Blb}
theorem StInv.nes (h : StInv w bs ms wd room bl) : bs ≠ ms ∧ ∀ b ∈ bl, b.blk ≠ bs ∧ b.blk ≠ ms ∧ (∀ k, b.val.ownBlock = some k → k ≠ bs ∧ k ≠ ms) := by
 obtain ⟨es, clk, h1, _⟩ := h.lm.obj;have hb := h.box;refine ⟨fun e => ?_, fun b hbm => ⟨fun e => ?_, fun e => ?_, fun k hk => ?_⟩⟩
 · rw [e, h1] at hb; cases hb
 · have h3 := h.kb b hbm; rw [e, hb] at h3
   have h3 := (Obj.cells.inj (Option.some.inj h3)).1;have := congrArg Array.size h3; simp at this
 · have h3 := h.kb b hbm; rw [e, h1] at h3; cases h3
 · rcases (h.bt b hbm).2 with ⟨hv, -⟩ | ⟨g, cap, cur, hv, -, hg, -⟩
   · rw [hv] at hk; cases hk
   · rw [hv] at hk
     obtain rfl : g = k := by simpa [Value.ownBlock] using hk
     refine ⟨fun e => ?_, fun e => ?_⟩
     · rw [e, hb] at hg
       have h3 := (Obj.cells.inj (Option.some.inj hg)).2.1;exact absurd h3 (by decide)
     · rw [e, h1] at hg; cases hg
theorem StInv.used (h : StInv w bs ms wd room bl) : usedL (cont bl) ≤ 40960000 := by
 have h1 := usedL_le (c := cont bl) (fun p hp => by
  obtain ⟨b, hb, rfl⟩ := List.mem_map.1 hp
  exact h.sz b hb)
 have h2 := h.few;have h3 : (cont bl).length = bl.length := by simp [cont]
 omega
def StTo (w : World) (bs ms wd : Nat) (room : Int) (bl : List Blb) (w' : World) (c : BlobL) : Prop :=
 ∃ bl', StInv w' bs ms wd room bl' ∧ cont bl' = c ∧ Mod (fun k => k = bs ∨ k = ms) w w' ∧ ∀ k, SFoot bs ms bl' k → SFoot bs ms bl k ∨ New w w' k
theorem StInv.to0 (h : StInv w bs ms wd room bl) {w' : World} (hm : Mod NoB w w') : StTo w bs ms wd room bl w' (cont bl) := ⟨bl, h.keep0 hm, rfl, hm.mono (fun _ _ h => h.elim), fun _ h => .inl h⟩
theorem bDrop_any (h : StInv w bs ms wd room bl) (di : List UInt8) (hid : di.length = 32) : Calls prog 30 #[.pointer (some ⟨bs, 0, none⟩), .agg (qC di)] w (fun e w' => e = .returned (.bool (getL di (cont bl)).isSome) ∧ StTo w bs ms wd room bl w' (delL di (cont bl))) := by
 have hrs : (qC di).size = 32 := by rw [qI, hid]
 have H := Lib.hid h;have hg := fun (w1 : World) (hm : Mod NoB w w1) => bSize_any (h.keep0 hm) di hid;have hto0 := fun (w' : World) (hm : Mod NoB w w') => h.to0 hm
 have hud := @usedL_del di;have hus := h.used;have HC : Hid (delL di (cont bl) = cont (delB di bl)) := Lib.hid (delB_map (fun b => b.bytes) di bl)
 obtain ⟨r, hr⟩ : ∃ q, getL di (cont bl) = q := ⟨_, rfl⟩;rw [hr];simp only [hr] at hg;have HR := Lib.hid hr;have HTO := Lib.hid hto0;clear h hr hto0;go_enter func30, ntmps30
 go_upto_region 0 with (fail);refine wpR [1, 3] (by rfl) (by rfl) ?_;simp only [zz2];refine wpDo rfl ?_;refine xF 24 _ _ (by rfl) (by rfl) (fun w1 hB1 hm1 hs1 => ?_)
 replace hB1 : w1.heap[w.heap.size]? = some (.cells (qC di) 24 (0, 0)) := hB1;refine qD _ rfl rfl ?_;simp only [nmz];refine qB ?_;have hcI := CellsAt.whole hB1
 go_upto_region 1 with (fail);refine wpR [3, 1, 1, 3, 3, 3, 3, 3] (by rfl) (by rfl) ?_;simp only [zz2];refine qA _ rfl rfl ?_;simp only [nmz]
 refine wpXA 24 w.heap.size 0 (qC di) hcI underlying24 32 hrs trivial ?_;try simp only [nmz]
 refine wpDo rfl ?_;refine qG (qH 91 [.tmp 8, .tmp 9] _ rfl _ func91 rfl (by kernel_rfl) [.pointer (some ⟨bs, 0, none⟩), .agg (qC di)] rfl _) (hg _ hm1) ?_
 rintro e w2 ⟨hm2, rfl⟩;refine ⟨_, rfl, ?_⟩;refine qA _ rfl rfl ?_;simp only [nmz]
 refine qJ (v := ?_) rfl (fun w' => ?_) ?_; rotate_left; · (go_simp; try with_reducible rfl)
 simp only [nmz];refine qJ (v := ?_) rfl (fun w' => ?_) ?_; rotate_left; · (go_simp; try with_reducible rfl)
 simp only [nmz];refine qD _ rfl rfl ?_;simp only [nmz];refine qD _ rfl rfl ?_;simp only [nmz];refine qB ?_;have hM2 := hm1.trans0 hm2
 have hcI2 := hcI.keep hm2 id
 cases r with
 | none =>
  have hdel : delL di (cont bl) = cont bl := by
   have h1 := HR.out;rw [getL_none] at h1
   have := (idxL_none (k := di) (l := cont bl) (i := 0) (by
    cases hx : idxL di (cont bl) 0 with
    | none => rfl
    | some q =>
     have h2 := idxL_get di (cont bl) 0;rw [hx, HR.out] at h2
     cases h2)).2.2.1
   exact this
  have hto := HTO.out _ hM2;rw [← hdel] at hto;have HT := Lib.hid hto;clear hm1 hm2 hM2 hto hdel hud;go_wp2;go_ret;exact ⟨rfl, HT.out⟩
 | some m =>
  have hud := hud HR.out;have h2 := H.out.keep0 hM2;have hu2 := h2.cell.2.2.1;have hnes := h2.nes;have hbox := h2.box
  have hd1 : ((usedL (cont bl) : Nat) : Int) - (m.length : Nat) = ((usedL (delL di (cont bl)) : Nat) : Int) := by omega
  have HNES := Lib.hid hnes;obtain ⟨u0, hu0⟩ : ∃ q, ((usedL (cont bl) : Nat) : Int) = q := ⟨_, rfl⟩;obtain ⟨u1, hu1⟩ : ∃ q, ((usedL (delL di (cont bl)) : Nat) : Int) = q := ⟨_, rfl⟩
  have HU1 := Lib.hid hu1;rw [hu0] at hu2 hbox hd1;rw [hu1] at hd1;have hb0 : 0 ≤ u1 ∧ u1 ≤ 40960000 := by omega
  clear hnes hu0 hu1 hud hus;go_upto_region 3 with (fail);simp only [Option.getD_some];refine wpR [3, 3, 3, 1, 3, 3, 3, 3, 1] (by rfl) (by rfl) ?_;simp only [zz2]
  refine qA _ rfl rfl ?_;simp only [nmz];refine qF _ _ rfl rfl rfl ?_;simp only [nmz];refine qE _ _ _ _ _ _ rfl rfl rfl fo_95_2 ?_;simp only [nmz]
  refine wpXd (v := (.int .i64 u0)) 3 bs 2 hu2 underlying3 trivial ?_;refine qA _ rfl rfl ?_;simp only [nmz]
  refine zZ _ _ _ _ u0 ((m.length : Nat) : Int) u1 rfl rfl rfl rfl hd1 (by omega) (by omega) ?_;simp only [nmz];refine qF _ _ rfl rfl rfl ?_;simp only [nmz]
  refine qE _ _ _ _ _ _ rfl rfl rfl fo_95_2 ?_;simp only [nmz];refine wpDo rfl ?_
  refine zA 3 _ _ bs 2 (.int .i64 u1) (by rfl) (by rfl) (by rfl) rfl (by kernel_rfl) _ _ hbox (by simp) (fun w3 hB3 hm3 => ?_)
  replace hB3 : w3.heap[bs]? = some (.cells #[.int .i64 wd, .int .i64 room, .int .i64 u1, .map (some ms)] 95 (0, 0)) := hB3;try simp only [nmz]
  refine qB ?_;have hlt0 := h2.lt bs (.inl rfl);have hltb : bs < w.heap.size := H.out.lt bs (.inl rfl);have hltm : ms < w.heap.size := H.out.lt ms (.inr (.inl rfl))
  have hcI3 := hcI2.keep hm3 (fun e => by omega);have hlm3 := h2.lm.keep hm3 (fun e => HNES.out.1 e.symm)
  have hc3 : w3.cell? ⟨bs, 3, none⟩ = some (.map (some ms)) := by simp [World.cell?, hB3]
  go_upto_region 4 with (fail);have hS : Mod NoB w3 w3.drew := (Mod.refl _ _).drew;refine wpRP [(0, 3), (1, 3), (2, 3), (3, 0), (4, 0), (5, 2)] [5] (fun w' => Mod NoB w3 w') hS ?_
  simp only [zz4];refine qA _ rfl rfl ?_;simp only [nmz];refine qF _ _ rfl rfl rfl ?_;simp only [nmz];refine qE _ _ _ _ _ _ rfl rfl rfl fo_95_3 ?_
  simp only [nmz];refine wpLd 93 bs 3 (fun w' hS => hS.cell id hc3) underlying93 ?_;simp only [nmz]
  refine wpLA 24 w.heap.size 0 (qC di) (fun w' hS => hcI3.keep hS id) underlying24 32 hrs ?_;simp only [nmz];refine zR rfl (fun K hK => ?_)
  refine wp_delL keyT_id (hlm3.keep0 hS) di hid 93 166 underlying93 _ _ (by rfl) (by rfl) (by rfl) (fun w4 hlm4 hm4 => ?_);refine hK _ _ ?_;clear hK K;try simp only [nmz]
  refine qB ?_;have hm24 : Mod (fun k => k = bs ∨ k = ms) w2 w4 := ((hm3.mono (fun _ _ h => .inl h)).trans hS (fun _ _ h => h.elim)).trans hm4 (fun _ _ h => .inr h)
  have hM4 : Mod (fun k => k = bs ∨ k = ms) w w4 := (hM2.mono (fun _ _ h => h.elim)).trans hm24 (fun _ _ h => h);have hB4 := hm4.objB (b := bs) (HNES.out.1) (hS.obj id hB3)
  have hst : StInv w4 bs ms wd room (delB di bl) := by
   refine ⟨?_, ?_, fun b hb => ?_, fun b hb => ?_, fun b hb => h2.sz b (delB_mem hb), Nat.le_trans (delB_len _ _) h2.few, h2.wok⟩
   · rw [← HC.out, HU1.out]; exact hB4
   · rw [delB_map (fun b => useV b.blk)] at hlm4; exact hlm4
   · have hn := HNES.out.2 b (delB_mem hb)
     exact hm24.obj (fun e => e.elim hn.1 hn.2.1) (h2.kb b (delB_mem hb))
   · have hn := HNES.out.2 b (delB_mem hb)
     exact xO (h2.bt b (delB_mem hb)) hm24 (fun k hk e => e.elim (hn.2.2 k hk).1 (hn.2.2 k hk).2)
  have HT : Hid (StTo w bs ms wd room bl w4 (delL di (cont bl))) := Lib.hid ⟨_, hst, HC.out.symm, hM4, fun k hk => .inl (by
   rcases hk with rfl | rfl | ⟨b, hb, hk⟩
   · exact .inl rfl
   · exact .inr (.inl rfl)
   · exact .inr (.inr ⟨b, delB_mem hb, hk⟩))⟩
  clear hm3 hm4 hm24 hM4 hS hB3 hB4 hst hlm3 hlm4 hm1 hm2 hM2;go_wp2;go_ret;exact ⟨rfl, HT.out⟩
end
def cutI (n : Nat) (x : List UInt8) : List UInt8 := x.take n ++ List.replicate (32 - n) 0
theorem cutI_len {n : Nat} {x : List UInt8} (hx : x.length = 32) (hn : n ≤ 32) : (cutI n x).length = 32 := by simp [cutI, hx]; omega
def ofI (n : Nat) (m : List UInt8) : List UInt8 := cutI n (shaL m)
theorem ofI_len {n : Nat} {m : List UInt8} (hn : n ≤ 32) : (ofI n m).length = 32 := cutI_len (shaL_len _) hn
theorem ofI_whole (m : List UInt8) : ofI 32 m = shaL m := by
 unfold ofI cutI;rw [List.take_of_length_le (by rw [shaL_len]; omega)]
 simp
theorem cut_row {n : Nat} {x : List UInt8} (hx : x.length = 32) (hn : n ≤ 32) : zN (qC x) n (qC (List.replicate (32 - n) 0)) = qC (cutI n x) := by
 unfold zN qC cutI;simp only [List.size_toArray, List.length_map, List.length_replicate, List.map_append, List.map_take]
 rw [List.drop_of_length_le (by simp [hx]; omega), List.append_nil]
section
variable {P : Program} {o : Oper} {a : Act} {w : World} {K : Act → World → Prop} {Q : Exit → Act → World → Prop}
theorem exec_sliceFromA (t e : TypeId) (x y : Operand) (b l n : Nat) (ho : o.op = .slice t x (some y) none none) (hx : a.eval x = .pointer (some ⟨b, 0, none⟩)) (hy : a.eval y = .int .i64 l) (ht : P.underlying t = some (.array n e)) (he : (P.info? e).map (·.size) = some 1) (hl : l ≤ n) :
 (execOp a.eval o).run P w = .ok (.value (.slice (some (if n = l then ⟨b, 0, none⟩ else ⟨b, l, none⟩)) (n - l) (n - l))) w := by
 have h1 : P.arrayLen t = n := by simp [Program.arrayLen, ht]
 have h2 : P.elem t = e := by simp [Program.elem, ht]
 have h3 : (sizeOf e).run P w = .ok 1 w := by
  cases hq : P.info? e with
  | none => simp [hq] at he
  | some j => simp [hq] at he; simp [sizeOf, typeInfo, hq, he]
 have h := run_sliceAt_array_l (P := P) w t ⟨b, 0, none⟩ (by rw [h1, h2]; exact ht) .i64 (l : Int) (by omega) (by rw [h1]; omega);rw [h2, h3, h1] at h
 have hm : (match (some y : Option Operand) with | some z => some (a.eval z) | none => none) = some (.int .i64 l) := by simp [hy]
 unfold execOp;simp only [ho, hx, Option.map_some, Option.map_none, hy, Sem.run_bind, h, Result.andThen_ok, Sem.run_pure]
 congr 3
 simp [slicedAt, Addr.add]
 by_cases h0 : l = 0
 · subst h0; simp
 · simp [h0]
theorem wp_clearRow (t e : TypeId) (x : Operand) (b off n c : Nat) (ho : o.op = .call { callee := .builtin .clear, args := #[x], argTypes := #[t] }) (hx : a.eval x = .slice (some ⟨b, off, none⟩) (n + 1) c) (ht : P.underlying t = some (.slice e)) (hz : (P.info? e).bind (·.zero) = some (byteV 0))
 (cur : Array Value) (T : TypeId) (hb : w.heap[b]? = some (.cells cur T (0, 0))) (hoff : off + (n + 1) ≤ cur.size)
 (h : ∀ w', w'.heap[b]? = some (.cells (zN cur off (qC (List.replicate (n + 1) 0))) T (0, 0)) → Mod (fun k => k = b) w w' → K (a.put o.dst (.tuple #[])) w') : o.wp P a w K Q := by
 have hzv : (zeroValue e).run P w = .ok (byteV 0) w := by
  cases hi : P.info? e with
  | none => simp [hi] at hz
  | some i => simp [hi] at hz; simp [zeroValue, typeInfo, hi, hz]
 have hzc : (Builtin.zeroCells (byteV 0).cells (n + 1)).toList = List.replicate (n + 1) (byteV 0) := by
  simp [Builtin.zeroCells, byteV, Value.cells]
  apply List.ext_getElem
  · simp
  · intro i h1 h2
    simp [Nat.mod_one]
 have hst := run_storeCells_at P b off T (List.replicate (n + 1) (byteV 0)) 0 cur w hb (by simpa using hoff) (fun v hv => by rw [List.eq_of_mem_replicate hv]; rfl)
 simp only [Nat.add_zero, List.length_replicate] at hst
 have he : (cur.toList.take off ++ List.replicate (n + 1) (byteV 0) ++ cur.toList.drop (off + (n + 1))).toArray = zN cur off (qC (List.replicate (n + 1) 0)) := by
  unfold zN qC
  simp
 rw [he] at hst;unfold Oper.wp execOp
 have hr : (Builtin.clear_ #[t] o.type #[.slice (some ⟨b, off, none⟩) (n + 1) c]).run P w = .ok (.tuple #[]) (w.setRow b (zN cur off (qC (List.replicate (n + 1) 0)))) := by
  simp [Builtin.clear_, run_underlying ht, hzv, hzc, hst]
 simp [ho, hx, resolve, invoke, builtin, hr]
 exact h _ (setRow_heap w b cur _ T _ hb) ⟨rfl, rfl, rfl, by simp, fun k _ hk => setRow_other w b k _ (fun e => hk e)⟩
end
theorem u8_zero : (prog.info? 5).bind (·.zero) = some (byteV 0) := by kernel_rfl
def CutR2 (w : World) (n : Nat) (x : List UInt8) : Ending → World → Prop := fun e w' => e = .returned (.tuple #[.agg (qC (cutI n x)), .int .i64 0]) ∧ Mod NoB w w'
theorem shaCut_any (x : List UInt8) (hx : x.length = 32) (n : Nat) (h1 : 1 ≤ n) (h2 : n ≤ 32) (w : World) : Calls prog 95 #[.agg (qC x), .int .i64 n] w (CutR2 w n x) := by
 have hrs : (qC (cutI n x)).size = 32 := by rw [qI, cutI_len hx h2]
 have hxs : (qC x).size = 32 := by rw [qI, hx]
 have HR := hid (cut_row hx h2);go_enter func95, ntmps95;go_upto_region 0 with (fail);refine wpR [1, 1, 3] (by rfl) (by rfl) ?_;simp only [zz2];refine wpDo rfl ?_
 refine xF 24 _ _ (by rfl) (by rfl) (fun w1 hB1 hm1 hs1 => ?_);replace hB1 : w1.heap[w.heap.size]? = some (.cells (qC x) 24 (0, 0)) := hB1;try simp only [nmz]
 refine wpDo rfl ?_;refine qU 24 _ (by rfl) idZ (fun w2 hB2 hm2 hs2 => ?_)
 replace hB2 : w2.heap[w1.heap.size]? = some (.cells (qC (List.replicate 32 0)) 24 (0, 0)) := hB2;refine qD _ rfl rfl ?_;simp only [nmz];refine qB ?_
 replace hB1 := hm2.obj id hB1;have hM2 := hm1.trans0 hm2;have hne : w.heap.size ≠ w1.heap.size := by omega
 have hs1' : w.heap.size ≤ w1.heap.size := hm1.size;generalize hb1 : w.heap.size = b1 at *;generalize hb2 : w1.heap.size = b2 at *;clear hm1 hm2
 rcases Nat.lt_or_ge n 32 with hlt | hge
 · obtain ⟨m, hm⟩ : ∃ m, 32 - n = m + 1 := ⟨31 - n, by omega⟩
   have hn32 : ¬ 32 = n := by omega
   rw [hm] at HR;go_upto_region 3 with (fail);refine wpR [3, 0, 1] (by rfl) (by rfl) ?_;simp only [zz2];refine qA _ rfl rfl ?_;simp only [nmz]
   refine qS rfl (fun w' hS => (exec_sliceFromA (P := prog) 24 5 _ _ b1 n 32 (by rfl) (by rfl) (by rfl) underlying24 (by kernel_rfl) (by omega)).trans (by rw [if_neg hn32, hm])) ?_
   simp only [nmz];refine wpDo rfl ?_;refine wp_clearRow 53 5 _ b1 n m _ (by rfl) (by rfl) underlying53 u8_zero _ _ hB1 (by rw [hxs]; omega) (fun w3 hB3 hm3 => ?_)
   rw [HR.out] at hB3;try simp only [nmz]
   refine qB ?_;have hM3 : Mod NoB w w3 := hM2.transB hm3 (by omega);have hB23 := hm3.objB (by omega) hB2;clear hm3 hM2 hB1 hB2;go_upto_region 4 with (fail)
   refine wpR [1, 1, 3] (by rfl) (by rfl) ?_;simp only [zz2];refine wpXA 24 b1 0 (qC (cutI n x)) (CellsAt.whole hB3) underlying24 32 hrs trivial ?_;try simp only [nmz]
   refine wpDo rfl ?_
   refine qM 24 _ _ b2 0 (qC (cutI n x)) (by rfl) (by rfl) (by rfl) (qZ _) 32 (by kernel_rfl) hrs _ _ hB23 (by rw [hrs, qI]; simp) (fun w4 hB4 hm4 => ?_)
   rw [qK (by rw [hrs, qI]; rfl)] at hB4;refine qD _ rfl rfl ?_;simp only [nmz];refine qB ?_;have hM4 : Mod NoB w w4 := hM3.transB hm4 (by omega)
   clear hm4 hM3;go_wp2;refine bodyPost_ret (xH (P := prog) (ty := 24) rfl _ _ b2 _ _ _ _ (by rfl) hB4 underlying24 rfl (by rw [hrs]; kernel_rfl)) rfl ?_
   exact ⟨rfl, hM4⟩
 · obtain rfl : n = 32 := by omega
   have hcx : cutI 32 x = x := by unfold cutI; rw [List.take_of_length_le (by omega)]; simp
   have HCX := hid hcx;go_upto_region 3 with (fail);refine wpR [3, 0, 1] (by rfl) (by rfl) ?_;simp only [zz2];refine qA _ rfl rfl ?_;simp only [nmz]
   refine qS rfl (fun w' hS => (exec_sliceFromA (P := prog) 24 5 _ _ b1 32 32 (by rfl) (by rfl) (by rfl) underlying24 (by kernel_rfl) (by omega)).trans (by rw [if_pos rfl])) ?_
   simp only [nmz];refine qW rfl (fun K hK => ?_);unfold Oper.wp execOp
   simp [resolve, invoke, builtin, Builtin.clear_, run_underlying underlying53]
   refine hK _ _ trivial ?_;clear hK K;try simp only [nmz]
   refine qB ?_;go_upto_region 4 with (fail);refine wpR [1, 1, 3] (by rfl) (by rfl) ?_;simp only [zz2]
   refine wpXA 24 b1 0 (qC x) (CellsAt.whole hB1) underlying24 32 hxs trivial ?_;try simp only [nmz]
   refine wpDo rfl ?_
   refine qM 24 _ _ b2 0 (qC x) (by rfl) (by rfl) (by rfl) (qZ _) 32 (by kernel_rfl) hxs _ _ hB2 (by rw [hxs, qI]; simp) (fun w4 hB4 hm4 => ?_)
   rw [qK (by rw [hxs, qI]; rfl)] at hB4;refine qD _ rfl rfl ?_;simp only [nmz];refine qB ?_;have hM4 : Mod NoB w w4 := hM2.transB hm4 (by omega)
   clear hm4 hM2;go_wp2;refine bodyPost_ret (xH (P := prog) (ty := 24) rfl _ _ b2 _ _ _ _ (by rfl) hB4 underlying24 rfl (by rw [hxs]; kernel_rfl)) rfl ?_
   exact ⟨by rw [HCX.out]; rfl, hM4⟩
def OfR (w : World) (n : Nat) (m : List UInt8) : Ending → World → Prop := fun e w' => e = .returned (.tuple #[.agg (qC (ofI n m)), .int .i64 0]) ∧ Mod NoB w w'
theorem shaOf_any {own : Bool} {G : Nat → Prop} {v : Value} {m : List UInt8} {w : World} (h : Sl own w G 1 ByteC v m) (hl : m.length ≤ 1000000) (n : Nat) (h1 : 1 ≤ n) (h2 : n ≤ 32) : Calls prog 36 #[v, .int .i64 n] w (OfR w n m) := by
 have H := hid h;obtain ⟨ad, cap, rfl, -, -⟩ := Sl.at h;have hsl : (shaL m).length = 32 := shaL_len _;have hrs : (qC (ofI n m)).size = 32 := by rw [qI, ofI_len h2]
 have HC := hid (show cutI n (shaL m) = ofI n m from rfl);clear h;go_enter func36, ntmps36;go_upto_region 0 with (fail);refine wpR [1, 3] (by rfl) (by rfl) ?_;simp only [zz2]
 refine wpDo rfl ?_;refine qU 24 _ (by rfl) idZ (fun w1 hB1 hm1 hs1 => ?_);replace hB1 : w1.heap[w.heap.size]? = some (.cells (qC (List.replicate 32 0)) 24 (0, 0)) := hB1
 refine qD _ rfl rfl ?_;simp only [nmz];refine qB ?_;go_upto_region 1 with (fail);refine wpR [3, 1, 3, 1, 3, 3, 1, 3] (by rfl) (by rfl) ?_;simp only [zz2]
 refine qA _ rfl rfl ?_;simp only [nmz];refine wpDo rfl ?_
 refine qG (qH 96 [.tmp 6] _ rfl _ func96 rfl (by kernel_rfl) [.slice ad m.length cap] rfl _) (shaSum_any (H.out.keep0 hm1) (by omega)) ?_;rintro e w2 ⟨rfl, hm2⟩
 refine ⟨_, rfl, ?_⟩;refine qA _ rfl rfl ?_;simp only [nmz];refine wpDo rfl ?_
 refine qG (qH 95 [.tmp 7, .tmp 8] _ rfl _ func95 rfl (by kernel_rfl) [.agg (qC (shaL m)), .int .i64 n] rfl _) (shaCut_any (shaL m) hsl n h1 h2 _) ?_
 rintro e w3 ⟨rfl, hm3⟩;rw [HC.out];have hB3 := (hm2.trans0 hm3).obj id hB1;refine ⟨_, rfl, ?_⟩;try simp only [nmz]
 refine qJ (v := ?_) rfl (fun w' => ?_) ?_; rotate_left; · (go_simp; try with_reducible rfl)
 simp only [nmz];refine qJ (v := ?_) rfl (fun w' => ?_) ?_; rotate_left; · (go_simp; try with_reducible rfl)
 simp only [nmz];refine wpDo rfl ?_
 refine qM 24 _ _ w.heap.size 0 (qC (ofI n m)) (by rfl) (by rfl) (by rfl) (qZ _) 32 (by kernel_rfl) hrs _ _ hB3 (by rw [hrs, qI]; simp) (fun w4 hB4 hm4 => ?_)
 rw [qK (by rw [hrs, qI]; rfl)] at hB4;refine qD _ rfl rfl ?_;simp only [nmz];refine qB ?_
 have hM4 : Mod NoB w w4 := ((hm1.trans0 hm2).trans0 hm3).transB hm4 (Nat.le_refl _);clear hm1 hm2 hm3 hm4;go_wp2
 refine bodyPost_ret (xH (P := prog) (ty := 24) rfl _ _ w.heap.size _ _ _ _ (by rfl) hB4 underlying24 rfl (by rw [hrs]; kernel_rfl)) rfl ?_;exact ⟨rfl, hM4⟩
end
section
open Go.RowKit Go.Proofs.Tryz Go.Lib
theorem fill_all {n : Nat} : ∀ (vals : List Value) (k : Nat) (pre old : List Value), pre.length = k * n → old.length = vals.length * n → (∀ v ∈ vals, v.cells.size = n) →
 Instr.fill (fun i => some (i * n, n)) (pre ++ old).toArray ((List.range' k vals.length).zip vals) = some (pre ++ vals.flatMap fun v => v.cells.toList).toArray
 | [], k, pre, old, hp, ho, _ => by
  obtain rfl : old = [] := List.eq_nil_of_length_eq_zero (by simpa using ho)
  simp [yL]
 | v :: vals, k, pre, old, hp, ho, hv => by
  have hv1 := hv v (by simp);rw [List.length_cons, Nat.succ_mul] at ho
  rw [List.length_cons, List.range'_succ, List.zip_cons_cons, zU (off := k * n) (size := n) rfl hv1 (by simp; omega)]
  have e : zN (pre ++ old).toArray (k * n) v.cells = ((pre ++ v.cells.toList) ++ old.drop n).toArray := by
   unfold zN;have h1 : (pre ++ old).take (k * n) = pre := by rw [← hp, List.take_left]
   have h2 : (pre ++ old).drop (k * n + v.cells.size) = old.drop n := by rw [hv1, ← hp, List.drop_append]; simp
   simp only [h1, h2]
  rw [e, fill_all vals (k + 1) (pre ++ v.cells.toList) (old.drop n) (by simp [hp, hv1, Nat.succ_mul]) (by simp; omega) (fun x hx => hv x (by simp [hx]))]
  simp
theorem xP {P : Program} {o : Oper} {a : Act} {w : World} {K : Act → World → Prop} {Q : Exit → Act → World → Prop} (t e : TypeId) (len : Nat) (parts : List (Nat × Operand)) (vals : List Value) (z : Value) (n : Nat) (ho : o.op = .buildSlice t len parts.toArray)
 (hx : (parts.map fun x => (x.1, a.eval x.2)) = (List.range' 0 len).zip vals) (hl : vals.length = len) (hu : P.underlying t = some (.slice e))
 (hi : (P.info? e).map (fun i => (i.zero, i.size)) = some (some z, n)) (h0 : 0 < len * n) (hn' : len * n ≤ 16777216) (hv : ∀ v ∈ vals, v.cells.size = n)
 (h : ∀ w', w'.heap[w.heap.size]? = some (.cells (vals.flatMap fun v => v.cells.toList).toArray e (0, 0)) → Mod NoB w w' → w.heap.size < w'.heap.size → K (a.put o.dst (.slice (some ⟨w.heap.size, 0, none⟩) len len)) w') : o.wp P a w K Q := by
 unfold Oper.wp execOp;simp only [ho]
 cases hi' : P.info? e with
 | none => simp [hi'] at hi
 | some i =>
  simp only [hi', Option.map_some, Option.some.injEq, Prod.mk.injEq] at hi;obtain ⟨hz0, hz1⟩ := hi
  have hf := fill_all vals 0 [] ((Array.range (len * n)).map (fun x => z.cells[x % z.cells.size]!)).toList (by simp) (by simp [hl]) hv;rw [hl] at hf
  have hr : (Instr.buildSlice t len (Array.map (fun x => (x.1, a.eval x.2)) parts.toArray)).run P w = .ok (.slice (some ⟨w.heap.size, 0, none⟩) len len) (w.alloc (.cells (vals.flatMap fun v => v.cells.toList).toArray e)) := by
   have hf' : Instr.fill (fun i => some (i * n, n)) ((Array.range (len * n)).map (fun x => z.cells[x % z.cells.size]!)) (List.map (fun x => (x.1, a.eval x.2)) parts) = some (vals.flatMap fun v => v.cells.toList).toArray := by
    rw [hx]; simpa only [List.nil_append, Array.toArray_toList] using hf
   have h00 : ¬ len * n = 0 := by omega
   have h24 : ¬ 2 ^ 24 < len * n := by omega
   unfold Instr.buildSlice;simp only [Sem.run_bind, run_underlying hu, Result.andThen_ok, sizeOf, typeInfo, hi', hz1, Sem.run_pure, zeroValue, hz0]
   simp [h00, hf', newRow, Nat.not_lt.2 hn', hi', hz0, hz1]
  simp only [Sem.run_bind, hr, Result.andThen_ok, Sem.run_pure];exact h _ (heap_alloc_new _ _) (zD _ _) (by simp)
end
section
open Go.RowKit Go.Shelf Go.Proofs.Tryz Go.Lib
theorem fo_95_0 : zB prog 95 0 = some 0 := by kernel_rfl
theorem fo_95_1 : zB prog 95 1 = some 1 := by kernel_rfl
theorem yM {P : Program} {w : World} {o : Oper} {a : Act} (f : FuncId) (xs : List Operand) (ho : o.op = .makeFunc (.func f) #[] xs.toArray) (vals : List Value) (hx : xs.map a.eval = vals) : (execOp a.eval o).run P w = .ok (.value (.func (.func f) #[] vals.toArray)) w := by
 subst hx;unfold execOp
 simp [ho, Instr.makeFunc]
theorem exec_moveV {P : Program} {o : Oper} {a : Act} {w : World} (x : Operand) (ho : o.op = .move x) (v : Value) (hv : a.eval x = v) : (execOp a.eval o).run P w = .ok (.value v) w := by
 subst hv;unfold execOp; simp only [ho]; rfl
theorem qP {P : Program} {o : Oper} {a : Act} {w : World} (x : Operand) (i : Nat) (vs : Array Value) (ho : o.op = .extract x i) (hx : a.eval x = .tuple vs) (v : Value) (hv : vs[i]? = some v) : (execOp a.eval o).run P w = .ok (.value v) w := by
 unfold execOp
 simp [ho, hx, Instr.extract, hv]
theorem exec_neq_id {P : Program} {w : World} {o : Oper} {a : Act} (t : TypeId) (x y : Operand) (yt : TypeId) (ho : o.op = .binOp .neq t x y yt) (xs ys : List UInt8)
 (hx : a.eval x = .agg (qC xs)) (hy : a.eval y = .agg (qC ys)) (n : Nat) (e : TypeId) (ht : P.underlying t = some (.array n e)) (he : P.underlying e = some (.int .u8))
 (hsz : (P.info? e).map (·.size) = some 1) (hg : P.eqGuardType P.depth t = false) (hxs : xs.length = n) (hys : ys.length = n) (b : Bool) (hb : decide (xs ≠ ys) = b) :
 (execOp a.eval o).run P w = .ok (.value (.bool b)) w := by
 subst hb
 have hs : ∀ w, (sizeOf e).run P w = .ok 1 w := fun w => by
  cases hq : P.info? e with
  | none => simp [hq] at hsz
  | some i => simp [hq] at hsz; simp [sizeOf, typeInfo, hq, hsz]
 have h1 := run_eqGuard_agg (P := P) w .neq t x y (qC xs) (qC ys) hg
 have h2 : (binOp .neq t (.agg (xs.map Extern.Stop.cell).toArray) (.agg (ys.map Extern.Stop.cell).toArray)).run P w = .ok (.bool (!(xs == ys))) w := by
  rw [run_neq_struct, run_equalIn_bytes w 9998 t e n ht he hs xs ys hxs hys]; rfl
 unfold execOp;simp only [ho, hx, hy, Sem.run_bind, h1, Result.andThen_ok]
 rw [show qC xs = (xs.map Extern.Stop.cell).toArray from rfl, show qC ys = (ys.map Extern.Stop.cell).toArray from rfl, h2];simp only [Result.andThen_ok, Sem.run_pure]
 have h3 : (!(xs == ys)) = decide (xs ≠ ys) := by rw [Bool.eq_iff_iff]; simp
 rw [h3]
theorem wp_allocAt {P : Program} {o : Oper} {a : Act} {w : World} {K : Act → World → Prop} {Q : Exit → Act → World → Prop} (elem : TypeId) (z : Value) (ho : o.op = .alloc elem) (hz : (P.info? elem).bind (·.zero) = some z)
 (h : ∀ b w', b = w.heap.size → w'.heap[b]? = some (.cells z.cells elem (0, 0)) → Mod NoB w w' → b < w'.heap.size → K (a.put o.dst (.pointer (some ⟨b, 0, none⟩))) w') : o.wp P a w K Q :=
 qU elem z ho hz (fun w' h1 h2 h3 => h _ w' rfl h1 h2 h3)
def NewRow (n : Nat) (cs : Array Value) (T : TypeId) (v : Value) (w : World) : Prop := ∃ b, v = .pointer (some ⟨b, 0, none⟩) ∧ n ≤ b ∧ w.heap[b]? = some (.cells cs T (0, 0))
theorem newRow_keep (n : Nat) (cs : Array Value) (T : TypeId) : ∀ (v : Value) (w w' : World), NewRow n cs T v w → Mod NoB w w' → NewRow n cs T v w' := fun _ _ _ ⟨b, h1, h2, h3⟩ hm => ⟨b, h1, h2, hm.obj id h3⟩
theorem bytesEqual_any {o o' : Bool} {G G' : Nat → Prop} {va vb : Value} {la lb : List UInt8} {w : World} (ha : Sl o w G 1 ByteC va la) (hb : Sl o' w G' 1 ByteC vb lb) :
 Calls prog 101 #[va, vb] w (RetE (.bool (decide (la = lb))) w) := by
 go_enter func101, ntmps101;go_upto_region 1 with (fail);refine wpR [3, 1, 3, 1, 0, 3] (by rfl) (by rfl) ?_;simp only [zz2];refine qA _ rfl rfl ?_;simp only [nmz]
 refine wpX rfl (jB 53 5 9 _ (by rfl) va (by rfl) ha underlying53 underlying5 underlying9) trivial ?_;refine qA _ rfl rfl ?_;simp only [nmz]
 refine wpX rfl (jB 53 5 9 _ (by rfl) vb (by rfl) hb underlying53 underlying5 underlying9) trivial ?_;try simp only [nmz]
 refine qS rfl (fun w' hS => exec_eql_str _ _ _ _ rfl _ _ rfl rfl (decide (la = lb)) (by rw [decide_eq_decide]; exact bytes_inj)) ?_;simp only [nmz]
 refine qD _ rfl rfl ?_;simp only [nmz];refine qB ?_;go_wp2;go_ret;exact ⟨rfl, rfl⟩
theorem bWhen_any (b : Bool) (n : Int) (w : World) : Calls prog 98 #[.bool b, .int .i64 n] w (RetE (.int .i64 (if b then n else 0)) w) := by
 cases b
 all_goals
  go_enter func98, ntmps98;go_wp2;go_ret;exact ⟨rfl, rfl⟩
section
variable {w : World} {bs ms wd : Nat} {room : Int} {bl : List Blb}
structure PutEnv (w : World) (b3 b4 b5 b8 b9 bs : Nat) (di m : List UInt8) (v pv : Value) (is : Bool) : Prop where
 c3 : w.cell? ⟨b3, 0, none⟩ = some (.pointer (some ⟨bs, 0, none⟩))
 c4 : CellsAt w b4 0 (qC di)
 c5 : w.cell? ⟨b5, 0, none⟩ = some v
 c8 : w.cell? ⟨b8, 0, none⟩ = some pv
 c9 : w.cell? ⟨b9, 0, none⟩ = some (.bool is)
 sl : Sl false w (fun _ => True) 1 ByteC v m
theorem PutEnv.keep0 {w w' : World} {b3 b4 b5 b8 b9 bs : Nat} {di m : List UInt8} {v pv : Value} {is : Bool} (h : PutEnv w b3 b4 b5 b8 b9 bs di m v pv is) (hm : Mod NoB w w') : PutEnv w' b3 b4 b5 b8 b9 bs di m v pv is :=
 ⟨hm.cell id h.c3, h.c4.keep hm id, hm.cell id h.c5, hm.cell id h.c8, hm.cell id h.c9, Sl.keep0 h.sl hm⟩
variable {b3 b4 b5 b8 b9 : Nat} {di m : List UInt8} {v pv : Value} {is : Bool}
theorem bPut1_any (h : PutEnv w b3 b4 b5 b8 b9 bs di m v pv is) (hm : m.length ≤ 4096) : Calls prog 97 #[.pointer (some ⟨b5, 0, none⟩)] w (RetM (.int .i64 0) w) := by
 obtain ⟨ad, cap, rfl, -, -⟩ := Sl.at h.sl;have hc := h.c5;have hz : ¬ (m.length : Int) > 4096 := by omega
 clear h;go_enter func97, ntmps97;go_upto_region 1 with (fail);refine wpR [1, 3, 3, 1, 3] (by rfl) (by rfl) ?_;simp only [zz2]
 refine wpXd (v := (.slice ad m.length cap)) 53 b5 0 hc underlying53 trivial ?_;try simp only [nmz]
 refine zP _ _ _ _ _ rfl rfl rfl (by kernel_rfl) ?_;simp only [nmz];refine qY _ _ _ _ _ _ _ _ rfl rfl rfl rfl rfl false (decide_eq_false hz) ?_;simp only [nmz]
 refine wpDo rfl ?_;refine qG (qH 98 [.tmp 4, .const (.int .i64 4)] _ rfl _ func98 rfl (by kernel_rfl) [.bool false, .int .i64 4] rfl _) (bWhen_any false 4 _) ?_
 rintro e w1 ⟨rfl, hw⟩;obtain rfl := hw.symm;simp only [Bool.false_eq_true, if_false];refine ⟨_, rfl, ?_⟩;refine qD _ rfl rfl ?_;simp only [nmz];refine qB ?_;go_wp2
 go_ret;exact ⟨rfl, Mod.refl _ _⟩
theorem bPut2_any (h : PutEnv w b3 b4 b5 b8 b9 bs (ofI wd m) m v pv is) (hst : StInv w bs ms wd room bl) (hm : m.length ≤ 4096) : Calls prog 99 #[.pointer (some ⟨b5, 0, none⟩), .pointer (some ⟨b3, 0, none⟩), .pointer (some ⟨b4, 0, none⟩)] w (RetM (.int .i64 0) w) := by
 obtain ⟨ad, cap, rfl, -, -⟩ := Sl.at h.sl;have hw1 := hst.wok;have hdl : (ofI wd m).length = 32 := ofI_len hw1.2
 have hrs : (qC (ofI wd m)).size = 32 := by rw [qI, hdl]
 have hwc := hst.cell.1;have hc5 := h.c5;have hc3 := h.c3;have hc4 := h.c4;have hsl := hid h.sl;clear h hst;go_enter func99, ntmps99;go_upto_region 1 with (fail)
 go_cut [4] (fun v wx => ∃ b, v = .pointer (some ⟨b, 0, none⟩) ∧ wx.heap[b]? = some (.cells (qC (ofI wd m)) 24 (0, 0)) ∧ w.heap.size ≤ b ∧ Mod NoB w wx)
 case first =>
  have hS : Mod NoB w w.drew := (Mod.refl _ _).drew;have hT : Mod NoB w w.drew := (Mod.refl _ _).drew
  refine jC [(0, 0), (1, 0), (2, 3), (3, 3), (4, 0)] 6 [(11, 3)] [] (fun w' => Mod NoB w w') #[true, true, true, true, true, false, false, false, false, false, false, false] (by kernel_rfl) (by kernel_rfl) (by kernel_rfl) (by kernel_rfl) (by kernel_rfl) (fun _ _ _ _ hd h => ⟨hd.trans h.1, h.2⟩) hS ?_
  simp only [zz4];refine wpLd 53 b5 0 (fun w' hS => hS.cell id hc5) underlying53 ?_;simp only [nmz];refine wpLd 29 b3 0 (fun w' hS => hS.cell id hc3) underlying29 ?_;simp only [nmz]
  refine qF _ _ rfl rfl rfl ?_;simp only [nmz];refine qE _ _ _ _ _ _ rfl rfl rfl fo_95_0 ?_;simp only [nmz]
  refine wpLd 3 bs 0 (fun w' hS => hS.cell id hwc) underlying3 ?_;simp only [nmz];refine qB ?_;refine zM [5, 9] (by kernel_rfl) ?_
  simp only [zz3, false_implies, implies_true];refine ⟨?_, ?_⟩
  · intro K hK
    simp only [zz5]
    refine qG (qH 36 [.tmp 7, .tmp 11] _ rfl _ func36 rfl (by kernel_rfl) [.slice ad m.length cap, .int .i64 wd] rfl _) (shaOf_any (hsl.out.keep0 hT) (by omega) wd hw1.1 hw1.2) ?_
    rintro e w2 ⟨rfl, hm2⟩
    try replace hB4 := hm2.obj id hB4
    replace hT := hT.trans0 hm2;clear hm2;refine ⟨_, rfl, hK _ _ hT ?_⟩;clear hK K;try simp only [nmz]
    refine xB 6 (.tuple #[.agg (qC (ofI wd m)), .int .i64 0]) (by kernel_rfl) (fun _ _ _ _ hd h => ⟨hd.trans h.1, h.2⟩) (fun w' => by simp only [zz5]; exact exec_moveV _ rfl (.tuple #[.agg (qC (ofI wd m)), .int .i64 0]) rfl) hT ?_
    simp only [zz5];try simp only [nmz]
    refine xB 7 (.agg (qC (ofI wd m))) (by kernel_rfl) (fun _ _ _ _ hd h => ⟨hd.trans h.1, h.2⟩) (fun w' => by simp only [zz5]; exact qP _ 0 #[.agg (qC (ofI wd m)), .int .i64 0] rfl rfl (.agg (qC (ofI wd m))) rfl) hT ?_
    simp only [zz5];try simp only [nmz]
    refine xB 8 (.int .i64 0) (by kernel_rfl) (fun _ _ _ _ hd h => ⟨hd.trans h.1, h.2⟩) (fun w' => by simp only [zz5]; exact qP _ 1 #[.agg (qC (ofI wd m)), .int .i64 0] rfl rfl (.int .i64 0) rfl) hT ?_
    simp only [zz5];try simp only [nmz]
    refine zM [9] (by kernel_rfl) ?_;simp only [zz3, false_implies, implies_true];intro K hK;simp only [zz5]
    refine wp_allocAt 24 _ (by rfl) idZ (fun b w4 hbe hB4 hm4 hs4 => ?_);replace hB4 : w4.heap[b]? = some (.cells (qC (List.replicate 32 0)) 24 (0, 0)) := hB4
    have hbn : w.heap.size ≤ b := by rw [hbe]; exact hT.size
    replace hT := hT.trans0 hm4;clear hm4 hbe hs4;refine hK _ _ hT ?_;clear hK K;try simp only [nmz]
    refine zM [10] (by kernel_rfl) ?_;simp only [zz3, false_implies, implies_true];intro K hK;simp only [zz5]
    refine qM 24 _ _ b 0 (qC (ofI wd m)) (by rfl) (by rfl) (by rfl) (qZ _) 32 (by kernel_rfl) hrs _ _ hB4 (by rw [hrs, qI]; simp) (fun w3 hB3 hm3 => ?_)
    rw [qK (by rw [hrs, qI]; rfl)] at hB3;replace hT : Mod NoB w w3 := hT.transB hm3 hbn;clear hB4 hm3;have hB4 := hB3;clear hB3;refine hK _ _ hT ?_;clear hK K
    try simp only [nmz]
    refine xS ?_;try simp only [zz4]
    refine qD _ rfl rfl ?_;simp only [nmz];refine qB ?_;go_wp2
    go_meet
    case rel => exact ⟨b, rfl, hB4, hbn, hT⟩
  · intro K hK
    simp only [zz5];refine wp_allocAt 24 _ (by rfl) idZ (fun b w4 hbe hB4 hm4 hs4 => ?_);replace hB4 : w4.heap[b]? = some (.cells (qC (List.replicate 32 0)) 24 (0, 0)) := hB4
    have hbn : w.heap.size ≤ b := by rw [hbe]; exact hT.size
    replace hT := hT.trans0 hm4;clear hm4 hbe hs4;refine hK _ _ hT ?_;clear hK K;try simp only [nmz]
    refine zM [5] (by kernel_rfl) ?_;simp only [zz3, false_implies, implies_true];intro K hK;simp only [zz5]
    refine qG (qH 36 [.tmp 7, .tmp 11] _ rfl _ func36 rfl (by kernel_rfl) [.slice ad m.length cap, .int .i64 wd] rfl _) (shaOf_any (hsl.out.keep0 hT) (by omega) wd hw1.1 hw1.2) ?_
    rintro e w2 ⟨rfl, hm2⟩
    try replace hB4 := hm2.obj id hB4
    replace hT := hT.trans0 hm2;clear hm2;refine ⟨_, rfl, hK _ _ hT ?_⟩;clear hK K;try simp only [nmz]
    refine xB 6 (.tuple #[.agg (qC (ofI wd m)), .int .i64 0]) (by kernel_rfl) (fun _ _ _ _ hd h => ⟨hd.trans h.1, h.2⟩) (fun w' => by simp only [zz5]; exact exec_moveV _ rfl (.tuple #[.agg (qC (ofI wd m)), .int .i64 0]) rfl) hT ?_
    simp only [zz5];try simp only [nmz]
    refine xB 7 (.agg (qC (ofI wd m))) (by kernel_rfl) (fun _ _ _ _ hd h => ⟨hd.trans h.1, h.2⟩) (fun w' => by simp only [zz5]; exact qP _ 0 #[.agg (qC (ofI wd m)), .int .i64 0] rfl rfl (.agg (qC (ofI wd m))) rfl) hT ?_
    simp only [zz5];try simp only [nmz]
    refine xB 8 (.int .i64 0) (by kernel_rfl) (fun _ _ _ _ hd h => ⟨hd.trans h.1, h.2⟩) (fun w' => by simp only [zz5]; exact qP _ 1 #[.agg (qC (ofI wd m)), .int .i64 0] rfl rfl (.int .i64 0) rfl) hT ?_
    simp only [zz5];try simp only [nmz]
    refine zM [10] (by kernel_rfl) ?_;simp only [zz3, false_implies, implies_true];intro K hK;simp only [zz5]
    refine qM 24 _ _ b 0 (qC (ofI wd m)) (by rfl) (by rfl) (by rfl) (qZ _) 32 (by kernel_rfl) hrs _ _ hB4 (by rw [hrs, qI]; simp) (fun w3 hB3 hm3 => ?_)
    rw [qK (by rw [hrs, qI]; rfl)] at hB3;replace hT : Mod NoB w w3 := hT.transB hm3 hbn;clear hB4 hm3;have hB4 := hB3;clear hB3;refine hK _ _ hT ?_;clear hK K
    try simp only [nmz]
    refine xS ?_;try simp only [zz4]
    refine qD _ rfl rfl ?_;simp only [nmz];refine qB ?_;go_wp2
    go_meet
    case rel => exact ⟨b, rfl, hB4, hbn, hT⟩
 case rest =>
  rename World => wx
  obtain ⟨b, rfl, hB4, hbn, hT⟩ := hcut;have hc4' := hc4.keep hT id;go_upto_region 2 with (fail);refine wpR [1, 1, 0, 1, 3] (by rfl) (by rfl) ?_;simp only [zz2]
  refine wpXA 24 b 0 (qC (ofI wd m)) (CellsAt.whole hB4) underlying24 32 hrs trivial ?_;try simp only [nmz]
  refine wpXA 24 b4 0 (qC (ofI wd m)) hc4' underlying24 32 hrs trivial ?_;try simp only [nmz]
  refine qS rfl (fun w' hS => exec_neq_id _ _ _ _ rfl (ofI wd m) (ofI wd m) rfl rfl 32 5 underlying24 underlying5 (by kernel_rfl) (by kernel_rfl) hdl hdl false (decide_eq_false (fun h => h rfl))) ?_
  simp only [nmz];refine wpDo rfl ?_
  refine qG (qH 98 [.tmp 17, .const (.int .i64 8)] _ rfl _ func98 rfl (by kernel_rfl) [.bool false, .int .i64 8] rfl _) (bWhen_any false 8 _) ?_;rintro e w5 ⟨rfl, hw⟩
  obtain rfl := hw.symm;simp only [Bool.false_eq_true, if_false];refine ⟨_, rfl, ?_⟩;refine qD _ rfl rfl ?_;simp only [nmz];refine qB ?_;go_wp2;go_ret;exact ⟨rfl, hT⟩
theorem bPut3_no (h : PutEnv w b3 b4 b5 b8 b9 bs di m v pv false) : Calls prog 100 #[.pointer (some ⟨b9, 0, none⟩), .pointer (some ⟨b8, 0, none⟩), .pointer (some ⟨b5, 0, none⟩)] w (RetM (.int .i64 0) w) := by
 have hc9 := h.c9;clear h;go_enter func100, ntmps100;go_upto_region 1 with (fail);have hS : Mod NoB w w.drew := (Mod.refl _ _).drew
 refine wpRP [(0, 0), (1, 3), (2, 0), (3, 3), (4, 3), (5, 0), (6, 0), (7, 1), (8, 3), (9, 3), (10, 1), (11, 3)] [] (fun w' => Mod NoB w w') hS ?_;simp only [zz4]
 refine wpLd 4 b9 0 (fun w' hS => hS.cell id hc9) underlying4 ?_;simp only [nmz];refine qA _ rfl rfl ?_;simp only [nmz];refine zK rfl ?_;simp only [nmz]
 refine qV rfl ?_;simp only [nmz];refine qV rfl ?_;simp only [nmz];refine zK rfl ?_;simp only [nmz];refine zK rfl ?_;simp only [nmz]
 refine yV rfl hS ?_;simp only [nmz];refine qV rfl ?_;simp only [nmz];refine qQ _ _ _ _ rfl rfl rfl ?_;simp only [nmz];refine qW rfl (fun K hK => ?_)
 refine qG (qH 98 [.tmp 13, .const (.int .i64 9)] _ rfl _ func98 rfl (by kernel_rfl) [.bool false, .int .i64 9] rfl _) (bWhen_any false 9 _) ?_;rintro e w5 ⟨rfl, hw⟩
 subst hw;simp only [Bool.false_eq_true, if_false];refine ⟨_, rfl, hK _ _ hS ?_⟩;clear hK K;refine qD _ rfl rfl ?_;simp only [nmz];refine qB ?_;go_wp2;go_ret
 exact ⟨rfl, hS⟩
theorem bPut3_old {bk : Nat} {bv : Value} {mo : List UInt8} (h : PutEnv w b3 b4 b5 b8 b9 bs di m v (useV bk) true) (hkc : w.cell? ⟨bk, 0, none⟩ = some bv) (hbt : Sl false w (fun _ => True) 1 ByteC bv mo) :
 Calls prog 100 #[.pointer (some ⟨b9, 0, none⟩), .pointer (some ⟨b8, 0, none⟩), .pointer (some ⟨b5, 0, none⟩)] w (RetM (.int .i64 (if mo = m then 0 else 9)) w) := by
 have hc9 := h.c9;have hc8 : w.cell? ⟨b8, 0, none⟩ = some (.pointer (some ⟨bk, 0, none⟩)) := h.c8;have hc5 := h.c5;have hsl := hid h.sl;have HBT := hid hbt
 obtain ⟨r, hr⟩ : ∃ q, (if mo = m then (0 : Int) else 9) = q := ⟨_, rfl⟩;rw [hr]
 have HEQ := hid (show (if (!decide (mo = m)) = true then (9 : Int) else 0) = r by rw [← hr]; by_cases hq : mo = m <;> simp [hq]);clear h hbt hr;go_enter func100, ntmps100
 go_upto_region 1 with (fail);have hS : Mod NoB w w.drew := (Mod.refl _ _).drew
 refine wpRP [(0, 0), (1, 3), (2, 0), (3, 3), (4, 3), (5, 0), (6, 0), (7, 1), (8, 3), (9, 3), (10, 1), (11, 3)] [] (fun w' => Mod NoB w w') hS ?_;simp only [zz4]
 refine wpLd 4 b9 0 (fun w' hS => hS.cell id hc9) underlying4 ?_;simp only [nmz];refine qA _ rfl rfl ?_;simp only [nmz]
 refine wpLd 166 b8 0 (fun w' hS => hS.cell id hc8) underlying166 ?_;simp only [nmz];refine qF _ _ rfl rfl rfl ?_;simp only [nmz]
 refine qE _ _ _ _ _ _ rfl rfl rfl fo_170_0 ?_;simp only [nmz];refine wpLd 53 bk 0 (fun w' hS => hS.cell id hkc) underlying53 ?_;simp only [nmz]
 refine wpLd 53 b5 0 (fun w' hS => hS.cell id hc5) underlying53 ?_;simp only [nmz];refine qW rfl (fun K hK => ?_)
 refine qG (qH 101 [.tmp 9, .tmp 10] _ rfl _ func101 rfl (by kernel_rfl) [bv, v] rfl _) (bytesEqual_any (HBT.out.keep0 hS) (hsl.out.keep0 hS)) ?_;rintro e w5 ⟨rfl, hw⟩
 subst hw;generalize decide (mo = m) = eqb at *;refine ⟨_, rfl, hK _ _ hS ?_⟩;clear hK K;try simp only [nmz]
 refine xL _ _ eqb rfl rfl rfl ?_;simp only [nmz];refine qQ _ _ _ _ rfl rfl rfl ?_;simp only [nmz];refine qW rfl (fun K hK => ?_)
 refine qG (qH 98 [.tmp 13, .const (.int .i64 9)] _ rfl _ func98 rfl (by kernel_rfl) [.bool (!eqb), .int .i64 9] rfl _) (bWhen_any (!eqb) 9 _) ?_;rintro e w6 ⟨rfl, hw6⟩
 subst hw6;rw [HEQ.out];refine ⟨_, rfl, hK _ _ hS ?_⟩;clear hK K;refine qD _ rfl rfl ?_;simp only [nmz];refine qB ?_;go_wp2;go_ret;exact ⟨rfl, hS⟩
theorem bPut4_old (h : PutEnv w b3 b4 b5 b8 b9 bs di m v pv true) : Calls prog 102 #[.pointer (some ⟨b9, 0, none⟩), .pointer (some ⟨b3, 0, none⟩), .pointer (some ⟨b5, 0, none⟩)] w (RetM (.int .i64 0) w) := by
 have hc9 := h.c9;clear h;go_enter func102, ntmps102;go_upto_region 1 with (fail);have hS : Mod NoB w w.drew := (Mod.refl _ _).drew
 refine wpRP [(0, 0), (1, 3), (2, 3), (3, 0), (4, 3), (5, 3), (6, 0), (7, 0), (8, 3), (9, 3), (10, 0), (11, 3), (12, 3), (13, 0), (14, 3), (15, 3), (16, 1), (17, 3)] [] (fun w' => Mod NoB w w') hS ?_
 simp only [zz4];refine wpLd 4 b9 0 (fun w' hS => hS.cell id hc9) underlying4 ?_;simp only [nmz];refine xL _ _ _ rfl rfl rfl ?_;simp only [nmz];refine qA _ rfl rfl ?_
 simp only [nmz];refine zK rfl ?_;simp only [nmz];refine qV rfl ?_;simp only [nmz];refine qV rfl ?_;simp only [nmz];refine zK rfl ?_;simp only [nmz]
 refine zK rfl ?_;simp only [nmz];refine qV rfl ?_;simp only [nmz];refine qV rfl ?_;simp only [nmz];refine zK rfl ?_;simp only [nmz]
 refine qV rfl ?_;simp only [nmz];refine qV rfl ?_;simp only [nmz];refine zK rfl ?_;simp only [nmz];refine qV rfl ?_;simp only [nmz]
 refine qQ _ _ _ _ rfl rfl rfl ?_;simp only [nmz];refine qW rfl (fun K hK => ?_)
 refine qG (qH 98 [.tmp 19, .const (.int .i64 10)] _ rfl _ func98 rfl (by kernel_rfl) [.bool false, .int .i64 10] rfl _) (bWhen_any false 10 _) ?_;rintro e w5 ⟨rfl, hw⟩
 subst hw;simp only [Bool.false_eq_true, if_false];refine ⟨_, rfl, hK _ _ hS ?_⟩;clear hK K;refine qD _ rfl rfl ?_;simp only [nmz];refine qB ?_;go_wp2;go_ret
 exact ⟨rfl, hS⟩
theorem bPut4_no (h : PutEnv w b3 b4 b5 b8 b9 bs di m v pv false) (hst : StInv w bs ms wd room bl) (hm : m.length ≤ 4096) (hroom : (usedL (cont bl) : Int) + (m.length : Int) ≤ room) : Calls prog 102 #[.pointer (some ⟨b9, 0, none⟩), .pointer (some ⟨b3, 0, none⟩), .pointer (some ⟨b5, 0, none⟩)] w (RetM (.int .i64 0) w) := by
 obtain ⟨ad, cap, rfl, -, -⟩ := Sl.at h.sl;have hc9 := h.c9;have hc3 := h.c3;have hc5 := h.c5;have hcu := hst.cell.2.2.1;have hcr := hst.cell.2.1;have hus := hst.used
 obtain ⟨u, hu⟩ : ∃ q, ((usedL (cont bl) : Nat) : Int) = q := ⟨_, rfl⟩;rw [hu] at hcu hroom;have hub : 0 ≤ u ∧ u ≤ 40960000 := by omega
 have hz : ¬ (u + (m.length : Int) > room) := by omega
 clear h hst hu hus;go_enter func102, ntmps102;go_upto_region 1 with (fail);have hS : Mod NoB w w.drew := (Mod.refl _ _).drew
 refine wpRP [(0, 0), (1, 3), (2, 3), (3, 0), (4, 3), (5, 3), (6, 0), (7, 0), (8, 3), (9, 3), (10, 0), (11, 3), (12, 3), (13, 0), (14, 3), (15, 3), (16, 1), (17, 3)] [] (fun w' => Mod NoB w w') hS ?_
 simp only [zz4];refine wpLd 4 b9 0 (fun w' hS => hS.cell id hc9) underlying4 ?_;simp only [nmz];refine xL _ _ _ rfl rfl rfl ?_;simp only [nmz];refine qA _ rfl rfl ?_
 simp only [nmz];refine wpLd 29 b3 0 (fun w' hS => hS.cell id hc3) underlying29 ?_;simp only [nmz];refine qF _ _ rfl rfl rfl ?_;simp only [nmz]
 refine qE _ _ _ _ _ _ rfl rfl rfl fo_95_2 ?_;simp only [nmz];refine wpLd 3 bs 2 (fun w' hS => hS.cell id hcu) underlying3 ?_;simp only [nmz]
 refine wpLd 53 b5 0 (fun w' hS => hS.cell id hc5) underlying53 ?_;simp only [nmz];refine zP _ _ _ _ _ rfl rfl rfl (by kernel_rfl) ?_;simp only [nmz]
 refine zT _ _ _ _ u ((m.length : Nat) : Int) (u + (m.length : Int)) rfl rfl rfl rfl rfl (by omega) (by omega) ?_;simp only [nmz]
 refine wpLd 29 b3 0 (fun w' hS => hS.cell id hc3) underlying29 ?_;simp only [nmz];refine qF _ _ rfl rfl rfl ?_;simp only [nmz]
 refine qE _ _ _ _ _ _ rfl rfl rfl fo_95_1 ?_;simp only [nmz];refine wpLd 3 bs 1 (fun w' hS => hS.cell id hcr) underlying3 ?_;simp only [nmz]
 refine qY _ _ _ _ _ _ _ _ rfl rfl rfl rfl rfl false (decide_eq_false hz) ?_;simp only [nmz];refine qQ _ _ _ _ rfl rfl rfl ?_;simp only [nmz]
 refine qW rfl (fun K hK => ?_)
 refine qG (qH 98 [.tmp 19, .const (.int .i64 10)] _ rfl _ func98 rfl (by kernel_rfl) [.bool false, .int .i64 10] rfl _) (bWhen_any false 10 _) ?_;rintro e w5 ⟨rfl, hw⟩
 subst hw;simp only [Bool.false_eq_true, if_false];refine ⟨_, rfl, hK _ _ hS ?_⟩;clear hK K;refine qD _ rfl rfl ?_;simp only [nmz];refine qB ?_;go_wp2;go_ret
 exact ⟨rfl, hS⟩
def putB (di m : List UInt8) (c : BlobL) : BlobL := if (getL di c).isSome then c else c ++ [(di, m)]
theorem usedL_app (c : BlobL) (di m : List UInt8) : usedL (c ++ [(di, m)]) = usedL c + m.length := by
 induction c with
 | nil => simp [usedL]
 | cons p c ih => simp only [List.cons_append, usedL, ih]; omega
theorem cell_one {w : World} {b : Nat} {v : Value} {T : TypeId} {fz : Nat × Nat} (h : w.heap[b]? = some (.cells #[v] T fz)) : w.cell? ⟨b, 0, none⟩ = some v := by simp [World.cell?, h]
theorem why_i : (prog.info? 175).map (fun i => (i.zero, i.size)) = some (some .nilFunc, 1) := by kernel_rfl
theorem pKeptZ : (prog.info? 166).bind (·.zero) = some (.pointer none) := by kernel_rfl
theorem boolZ : (prog.info? 4).bind (·.zero) = some (.bool false) := by kernel_rfl
theorem built_kept (v : Value) (h : v.cells = #[v]) : prog.built 170 [(0, v)] = some #[v] := by
 have z : (prog.info? 170).bind (·.zero) = some (.agg #[.slice none 0 0]) := by kernel_rfl
 have p : yD prog 170 = some [(0, 1)] := by kernel_rfl
 rw [xG z p, zU (off := 0) (size := 1) rfl (by rw [h]; rfl) (by simp), yL, h]
 rfl
def PutRel (w0 : World) (i : Value) (w : World) : Prop := ∃ k : Nat, k ≤ 4 ∧ i = .int .i64 k ∧ Mod NoB w0 w
end
section
variable {w : World} {bs ms wd : Nat} {room : Int} {bl : List Blb}
def PutR (w : World) (bs ms wd : Nat) (room : Int) (bl : List Blb) (m : List UInt8) : Ending → World → Prop := fun e w' => (∃ (ok : Bool) (er : Int), e = .returned (.tuple #[.bool ok, .int .i64 er])) ∧ StTo w bs ms wd room bl w' (putB (ofI wd m) m (cont bl))
theorem StInv.more (h : StInv w bs ms wd room bl) {w1 w2 w3 w4 : World} {di m : List UInt8} {vk : Value} {bk : Nat} (hfew : bl.length < 10000) (hsz : m.length ≤ 4096) (hf : getL di (cont bl) = none) (h1 : Mod NoB w w1) (hb : Bts w.heap.size w1 vk m) (hkn : w.heap.size ≤ bk) (hkb : w2.heap[bk]? = some (.cells #[vk] 170 (0, 0))) (h2 : Mod NoB w1 w2)
 (hm : MapIs idV IdOk w3 ms (putL di (useV bk) (bl.map fun b => (b.id, useV b.blk)))) (h3 : Mod (fun j => j = ms) w2 w3)
 (hbox : w4.heap[bs]? = some (.cells #[.int .i64 wd, .int .i64 room, .int .i64 ((usedL (cont bl) : Nat) + (m.length : Nat) : Int), .map (some ms)] 95 (0, 0))) (h4 : Mod (fun j => j = bs) w3 w4) :
 StTo w bs ms wd room bl w4 (putB di m (cont bl)) := by
 have hn := h.nes;have h24 : Mod (fun k => k = bs ∨ k = ms) w2 w4 := (h3.mono (fun _ _ h => .inr h)).trans h4 (fun _ _ h => .inl h);have h02 := h1.trans0 h2
 have hM : Mod (fun k => k = bs ∨ k = ms) w w4 := (h02.mono (fun _ _ h => h.elim)).trans h24 (fun _ _ h => h);have hlb := h.lt bs (.inl rfl);have hlm := h.lt ms (.inr (.inl rfl))
 have hs1 := h1.size;have hs2 := h2.size;have hs3 := h3.size;have hs4 := h4.size;have hbkl : bk < w2.heap.size := (Array.getElem?_eq_some_iff.1 hkb).1
 have hfm : getL di (bl.map fun b => (b.id, useV b.blk)) = none := by
  rw [getL_none] at hf ⊢
  simpa [cont, List.map_map, Function.comp_def] using hf
 have hpu : putB di m (cont bl) = cont (bl ++ [⟨di, bk, vk, m⟩]) := by
  unfold putB;rw [hf]
  simp [cont]
 have hvk : ∀ k, vk.ownBlock = some k → w.heap.size ≤ k ∧ k < w1.heap.size := fun k hk => World.ownsRow.lt hb k hk;rw [hpu]
 refine ⟨bl ++ [⟨di, bk, vk, m⟩], ⟨?_, ?_, ?_, ?_, ?_, ?_, h.wok⟩, rfl, hM, ?_⟩
 · rw [← hpu]
   have e : usedL (putB di m (cont bl)) = usedL (cont bl) + m.length := by unfold putB; rw [hf]; exact usedL_app _ _ _
   rw [e, Int.natCast_add]; exact hbox
 · rw [putL_none hfm] at hm
   have := hm.keep h4 (fun e => hn.1 e.symm)
   simpa using this
 · intro b hb'
   rcases List.mem_append.1 hb' with hb' | hb'
   · have := hn.2 b hb'
     exact hM.obj (fun e => e.elim this.1 this.2.1) (h.kb b hb')
   · rw [List.mem_singleton] at hb'; subst hb'
     exact h24.obj (fun e => by
      have e' : bk = bs ∨ bk = ms := e
      omega) hkb
 · intro b hb'
   rcases List.mem_append.1 hb' with hb' | hb'
   · have := hn.2 b hb'
     exact xO (h.bt b hb') hM (fun k hk e => e.elim (this.2.2 k hk).1 (this.2.2 k hk).2)
   · rw [List.mem_singleton] at hb'; subst hb'
     have hb0 : Bts 0 w1 vk m := owns_base hb (Nat.zero_le _);have hb1 : Bts 0 w2 vk m := xO hb0 h2 (fun _ _ => id)
     exact xO hb1 h24 (fun k hk e => by
      have := (hvk k hk).1;have e' : k = bs ∨ k = ms := e
      omega)
 · intro b hb'
   rcases List.mem_append.1 hb' with hb' | hb'
   · exact h.sz b hb'
   · rw [List.mem_singleton] at hb'; subst hb'; exact hsz
 · simp; omega
 · intro k hk
   rcases hk with rfl | rfl | ⟨b, hb', hk⟩
   · exact .inl (.inl rfl)
   · exact .inl (.inr (.inl rfl))
   · rcases List.mem_append.1 hb' with hb' | hb'
     · exact .inl (.inr (.inr ⟨b, hb', hk⟩))
     · rw [List.mem_singleton] at hb'; subst hb'
       right
       rcases hk with rfl | hk
       · exact ⟨hkn, by show k < _; omega⟩
       · have := hvk k hk
         exact ⟨this.1, by omega⟩
theorem bPut_any (h : StInv w bs ms wd room bl) {own : Bool} {G : Nat → Prop} {v : Value} {m : List UInt8} (hv : Sl own w G 1 ByteC v m) (hm : m.length ≤ 4096) (hroom : (usedL (cont bl) : Int) + (m.length : Int) ≤ room) (hfew : bl.length < 10000) :
 Calls prog 37 #[.pointer (some ⟨bs, 0, none⟩), .agg (qC (ofI wd m)), v] w (PutR w bs ms wd room bl m) := by
 have hsl0 : Sl false w (fun _ => True) 1 ByteC v m := hv.weak.mono (fun _ _ => trivial) (fun _ _ h => h)
 have hv1 : v.oneCell' = true := by obtain ⟨ad, cap, rfl, -, -⟩ := Sl.at hv; rfl
 have hvc : v.cells = #[v] := by obtain ⟨ad, cap, rfl, -, -⟩ := Sl.at hv; rfl
 have hwd := h.wok;have hdl : (ofI wd m).length = 32 := ofI_len hwd.2;have hus := h.used;have H := hid h;have hdi : Hid (ofI wd m = ofI wd m) := hid rfl
 obtain ⟨fb, hfb⟩ : ∃ q, findB (ofI wd m) bl = q := ⟨_, rfl⟩;obtain ⟨pv, hpv⟩ : ∃ q, blkV fb = q := ⟨_, rfl⟩;obtain ⟨is, his⟩ : ∃ q, fb.isSome = q := ⟨_, rfl⟩
 have hl := fun (w' : World) (hm : Mod NoB w w') (o : Oper) (a : Act) (mm x : Operand) => @StInv.look w' bs ms wd room bl (h.keep0 hm) o a mm x (ofI wd m) hdl
 simp only [hfb, hpv, his] at hl;have HL := hid hl;have HFB := hid hfb;have HPV := hid hpv;have HIS := hid his;have hp1 : pv.oneCell' = true := by rw [← hpv]; cases fb <;> rfl
 have HGB := hid (getB (ofI wd m) bl);have hrs : (qC (ofI wd m)).size = 32 := by rw [qI, hdl]
 have HSL := hid hsl0;obtain ⟨di, hdie⟩ : ∃ q, ofI wd m = q := ⟨_, rfl⟩;have HDI := hid hdie;rw [hdie] at hrs hdl ⊢;clear h hv hsl0 hfb hpv his hl hdi hdie;go_enter func37, ntmps37
 go_upto_region 0 with (fail);refine wpR [1, 1, 1, 3, 3] (by rfl) (by rfl) ?_;simp only [zz2];refine wpDo rfl ?_;refine xF 29 _ _ (by rfl) (by rfl) (fun w1 hB1 hm1 hs1 => ?_)
 replace hB1 : w1.heap[w.heap.size]? = some (.cells #[.pointer (some ⟨bs, 0, none⟩)] 29 (0, 0)) := hB1;try simp only [nmz]
 refine wpDo rfl ?_;refine xF 24 _ _ (by rfl) (by rfl) (fun w2 hB2 hm2 hs2 => ?_);replace hB2 : w2.heap[w1.heap.size]? = some (.cells (qC di) 24 (0, 0)) := hB2
 try simp only [nmz]
 refine wpDo rfl ?_;refine xF 53 _ _ (by rfl) (by rfl) (fun w3 hB3 hm3 hs3 => ?_);replace hB3 : w3.heap[w2.heap.size]? = some (.cells #[v] 53 (0, 0)) := by rw [← hvc]; exact hB3
 refine qD _ rfl rfl ?_;simp only [nmz];refine qD _ rfl rfl ?_;simp only [nmz];refine qB ?_;have hM3 := (hm1.trans0 hm2).trans0 hm3
 have hb3 := (hm2.trans0 hm3).obj id hB1;have hb4 := hm3.obj id hB2;have hs03 := hM3.size;have hn3 : w.heap.size ≤ w.heap.size := Nat.le_refl _
 generalize hb3e : w.heap.size = b3 at *;generalize hb4e : w1.heap.size = b4 at *;generalize hb5e : w2.heap.size = b5 at *;clear hm1 hm2 hm3 hB1 hB2;have hc3 := cell_one hb3
 have hc4 := CellsAt.whole hb4;have hc5 := cell_one hB3;go_upto_region 1 with (fail);refine wpR [1, 1] (by rfl) (by rfl) ?_;simp only [zz2]
 refine wpXd (v := (.pointer (some ⟨bs, 0, none⟩))) 29 b3 0 hc3 underlying29 trivial ?_;try simp only [nmz]
 refine wpDo rfl ?_;go_wp2_with (go_at_call 92; refine (H.out.keep0 hM3).made.mono ?_; rintro _ wx ⟨rfl, hw⟩; obtain rfl := hw.symm);try simp only [nmz]
 refine qB ?_;have hms3 := (H.out.keep0 hM3).cell.2.2.2;go_upto_region 3 with (fail);have hS : Mod NoB w3 w3.drew := (Mod.refl _ _).drew
 refine wp_region_plan [.inl [(0, 0), (1, 3), (2, 3), (3, 0), (4, 0), (5, 0), (6, 3), (7, 3), (8, 3)], .inr (.inr (2, #[true, true, true, true, true, true, true, true, true, false, false, false, false])), .inr (.inl 11), .inr (.inl 12)] (fun w' => Mod NoB w3 w') (by kernel_rfl) (by kernel_rfl) (by kernel_rfl) (fun _ _ _ _ hd h => ⟨hd.trans h.1, h.2⟩) hS ?_
 refine wpPlan_seg ?_;simp only [List.map_cons, List.map_nil, Array.getD_eq_getD_getElem?, List.getElem?_toArray, List.getElem?_cons_succ, List.getElem?_cons_zero, Option.getD_some]
 refine wpLd 29 b3 0 (fun w' hS => hS.cell id hc3) underlying29 ?_;simp only [nmz];refine qF _ _ rfl rfl rfl ?_;simp only [nmz]
 refine qE _ _ _ _ _ _ rfl rfl rfl fo_95_3 ?_;simp only [nmz];refine wpLd 93 bs 3 (fun w' hS => hS.cell id hms3) underlying93 ?_;simp only [nmz]
 refine wpLA 24 b4 0 (qC di) (fun w' hS => hc4.keep hS id) underlying24 32 hrs ?_;simp only [nmz]
 refine qS rfl (fun w' hS => HL.out w' (hM3.trans0 hS) _ _ _ _ (by rfl) (by rfl) (by rw [HDI.out]; rfl)) ?_;simp only [nmz];refine qA _ rfl rfl ?_;simp only [nmz]
 refine qJ (v := ?_) rfl (fun w' => ?_) ?_; rotate_left; · (go_simp; try with_reducible rfl)
 simp only [nmz];refine qJ (v := ?_) rfl (fun w' => ?_) ?_; rotate_left; · (go_simp; try with_reducible rfl)
 simp only [nmz];refine qB ?_;refine planQ_normal ?_
 refine wpPlan_dep [(8, NewRow w3.heap.size #[.pointer none] 166), (9, NewRow w3.heap.size #[.bool false] 4)] [(9, 8, []), (10, 9, [])] ?hF ?hS (by decide) (by kernel_rfl) (by kernel_rfl) (by kernel_rfl) ?hw ?hend ?hop
 case hF =>
  intro x hx;simp only [List.mem_cons, List.not_mem_nil, or_false] at hx
  rcases hx with rfl | rfl
  · exact newRow_keep _ _ _
  · exact newRow_keep _ _ _
 case hS => exact (fun _ hm => hS.trans0 hm)
 case hw =>
  intro q hq;simp only [List.mem_cons, List.not_mem_nil, or_false] at hq
  rcases hq with rfl | rfl <;> rfl
 case hop =>
  intro q hq ps w1 hm hps hds hnd hpn K hK;simp only [List.mem_cons, List.not_mem_nil, or_false] at hq
  rcases hq with rfl | rfl
  · simp only [depF, Nat.reduceEqDiff, if_true, if_false, reduceIte] at hK
    simp only [Array.getD_eq_getD_getElem?, List.getElem?_toArray, List.getElem?_cons_succ, List.getElem?_cons_zero, Option.getD_some];clear hps hds;have hsz0 := (hS.trans0 hm).size
    refine qU 166 _ (by rfl) pKeptZ (fun w2 hB2 hm2 hs2 => ?_);exact hK _ _ hm2 ⟨_, rfl, hsz0, hB2⟩
  · simp only [depF, Nat.reduceEqDiff, if_true, if_false, reduceIte] at hK
    simp only [Array.getD_eq_getD_getElem?, List.getElem?_toArray, List.getElem?_cons_succ, List.getElem?_cons_zero, Option.getD_some];clear hps hds;have hsz0 := (hS.trans0 hm).size
    refine qU 4 _ (by rfl) boolZ (fun w2 hB2 hm2 hs2 => ?_);exact hK _ _ hm2 ⟨_, rfl, hsz0, hB2⟩
 case hend =>
  intro vals wz hvl hGM hJ;obtain ⟨v8, vals1, rfl, hvl1⟩ := vals_cons hvl;obtain ⟨v9, vals2, rfl, hvl2⟩ := vals_cons hvl1;obtain rfl := List.eq_nil_of_length_eq_zero hvl2
  simp only [List.map_cons, List.map_nil, List.zip_cons_cons, List.zip_nil_left] at hJ ⊢;have h8 := hJ (8, v8) (by simp)
  simp only [depF, Nat.reduceEqDiff, if_true, if_false, reduceIte] at h8;have h9 := hJ (9, v9) (by simp);simp only [depF, Nat.reduceEqDiff, if_true, if_false, reduceIte] at h9
  clear hJ hvl hvl1 hvl2;have hGM8 := hGM;simp only [puts];try simp only [nmz]
  refine wpPlan_one rfl (fun K hK => ?_);simp only [Array.getD_eq_getD_getElem?, List.getElem?_toArray, List.getElem?_cons_succ, List.getElem?_cons_zero, Option.getD_some]
  have hSg := hS.trans0 hGM;obtain ⟨b8, rfl, hb8n, hB8⟩ := h8;obtain ⟨b9, rfl, hb9n, hB9⟩ := h9
  have h89 : b8 ≠ b9 := fun e => by
   subst e;have h := Option.some.inj (hB8.symm.trans hB9);injection h with _ hT _;exact absurd hT (by decide)
  refine zA 166 _ _ b8 0 pv (by rfl) (by rfl) (by rfl) hp1 (by kernel_rfl) _ _ hB8 (by simp) (fun w4 hB4 hm4 => ?_)
  replace hB4 : w4.heap[b8]? = some (.cells #[pv] 166 (0, 0)) := hB4;replace hB9 := hm4.objB (fun e => h89 e.symm) hB9;have hS4 : Mod NoB w3 w4 := hSg.transB hm4 hb8n
  refine hK _ _ hS4 ?_;clear hK K;try simp only [nmz]
  refine wpPlan_one rfl (fun K hK => ?_);simp only [Array.getD_eq_getD_getElem?, List.getElem?_toArray, List.getElem?_cons_succ, List.getElem?_cons_zero, Option.getD_some]
  refine zA 4 _ _ b9 0 (.bool is) (by rfl) (by rfl) (by rfl) rfl (by kernel_rfl) _ _ hB9 (by simp) (fun w5 hB5 hm5 => ?_)
  replace hB5 : w5.heap[b9]? = some (.cells #[.bool is] 4 (0, 0)) := hB5;replace hB4 := hm5.objB h89 hB4;have hS5 : Mod NoB w3 w5 := hS4.transB hm5 hb9n;refine hK _ _ hS5 ?_
  clear hK K;try simp only [nmz]
  refine wpPlan_fin ?_;have hM5 := hM3.trans0 hS5
  have HENV : Hid (PutEnv w5 b3 b4 b5 b8 b9 bs (ofI wd m) m v pv is) := hid ⟨cell_one (hS5.obj id hb3), by rw [HDI.out]; exact CellsAt.whole (hS5.obj id hb4), cell_one (hS5.obj id hB3), cell_one hB4, cell_one hB5, HSL.out.keep0 hM5⟩
  clear hS hSg hS4 hS5 hm4 hm5 hGM hGM8 hB8 hB4 hB9 hB5 hc3 hc4 hc5 hb3 hb4 hB3 hms3 hM3;go_upto_region 4 with (fail);refine wpR [1, 1, 1, 1, 1, 3, 3] (by rfl) (by rfl) ?_
  simp only [zz2];refine wpX rfl (yM 97 [.tmp 5] (by rfl) [.pointer (some ⟨b5, 0, none⟩)] (by rfl)) trivial ?_;try simp only [nmz]
  refine wpX rfl (yM 99 [.tmp 5, .tmp 3, .tmp 4] (by rfl) [.pointer (some ⟨b5, 0, none⟩), .pointer (some ⟨b3, 0, none⟩), .pointer (some ⟨b4, 0, none⟩)] (by rfl)) trivial ?_
  try simp only [nmz]
  refine wpX rfl (yM 100 [.tmp 9, .tmp 8, .tmp 5] (by rfl) [.pointer (some ⟨b9, 0, none⟩), .pointer (some ⟨b8, 0, none⟩), .pointer (some ⟨b5, 0, none⟩)] (by rfl)) trivial ?_
  try simp only [nmz]
  refine wpX rfl (yM 102 [.tmp 9, .tmp 3, .tmp 5] (by rfl) [.pointer (some ⟨b9, 0, none⟩), .pointer (some ⟨b3, 0, none⟩), .pointer (some ⟨b5, 0, none⟩)] (by rfl)) trivial ?_
  try simp only [nmz]
  refine wpDo rfl ?_
  refine xP 177 175 4 [(0, _), (1, _), (2, _), (3, _)] [.func (.func 97) #[] #[.pointer (some ⟨b5, 0, none⟩)], .func (.func 99) #[] #[.pointer (some ⟨b5, 0, none⟩), .pointer (some ⟨b3, 0, none⟩), .pointer (some ⟨b4, 0, none⟩)], .func (.func 100) #[] #[.pointer (some ⟨b9, 0, none⟩), .pointer (some ⟨b8, 0, none⟩), .pointer (some ⟨b5, 0, none⟩)], .func (.func 102) #[] #[.pointer (some ⟨b9, 0, none⟩), .pointer (some ⟨b3, 0, none⟩), .pointer (some ⟨b5, 0, none⟩)]] .nilFunc 1 (by rfl) (by rfl) (by rfl) underlying177 why_i (by omega) (by omega) (by simp [Value.cells]) (fun w6 hB6 hm6 hs6 => ?_)
  have hM6 := hM5.trans0 hm6;replace HENV := hid (HENV.out.keep0 hm6);generalize w5.heap.size = b28 at *;try simp only [nmz]
  refine zP _ _ _ _ _ rfl rfl rfl (by kernel_rfl) ?_;simp only [nmz];refine qA _ rfl rfl ?_;simp only [nmz];refine qB ?_
  have HC0 : Hid (w6.cell? ⟨b28, 0, none⟩ = some (.func (.func 97) #[] #[.pointer (some ⟨b5, 0, none⟩)])) := hid (by simp [World.cell?, hB6, Value.cells])
  have HC1 : Hid (w6.cell? ⟨b28, 1, none⟩ = some (.func (.func 99) #[] #[.pointer (some ⟨b5, 0, none⟩), .pointer (some ⟨b3, 0, none⟩), .pointer (some ⟨b4, 0, none⟩)])) := hid (by simp [World.cell?, hB6, Value.cells])
  have HC2 : Hid (w6.cell? ⟨b28, 2, none⟩ = some (.func (.func 100) #[] #[.pointer (some ⟨b9, 0, none⟩), .pointer (some ⟨b8, 0, none⟩), .pointer (some ⟨b5, 0, none⟩)])) := hid (by simp [World.cell?, hB6, Value.cells])
  have HC3 : Hid (w6.cell? ⟨b28, 3, none⟩ = some (.func (.func 102) #[] #[.pointer (some ⟨b9, 0, none⟩), .pointer (some ⟨b3, 0, none⟩), .pointer (some ⟨b5, 0, none⟩)])) := hid (by simp [World.cell?, hB6, Value.cells])
  clear hB6 hm6 hM5;go_wp2
  go_loopw [30] (PutRel w6) (fun i _ => 4 - (intOf i).toNat)
  case atStart => exact ⟨0, by omega, rfl, Mod.refl _ _⟩
  case round =>
   rename World => wr
   obtain ⟨k, hk, rfl, hmr⟩ := hrel;have hMr := hM6.trans0 hmr
   by_cases hlt : k < 4
   · have hzk : (k : Int) < 4 := by omega
     have henv := HENV.out.keep0 hmr;have hstr := H.out.keep0 hMr
     rcases (by omega : k = 0 ∨ k = 1 ∨ k = 2 ∨ k = 3) with hq | hq | hq | hq
     · have hcell : wr.cell? ⟨b28, k * 1, none⟩ = some (.func (.func 97) #[] #[.pointer (some ⟨b5, 0, none⟩)]) := by rw [hq]; exact hmr.cell id HC0.out
       go_upto_region 6 with (fail);refine wpR [3, 1, 3] (by rfl) (by rfl) ?_;simp only [zz2]
       refine qX _ _ _ _ _ _ _ _ _ rfl rfl rfl rfl underlying177 (n := 1) (by kernel_rfl) hlt ?_;simp only [nmz]
       refine wpXd (v := (.func (.func 97) #[] #[.pointer (some ⟨b5, 0, none⟩)])) 175 b28 (k * 1) hcell underlying175 trivial ?_;refine qD _ rfl rfl ?_;simp only [nmz]
       refine qB ?_;clear hcell;go_upto_region 7 with (fail);refine wpR [3, 1, 3] (by rfl) (by rfl) ?_;simp only [zz2];refine qA _ rfl rfl ?_;simp only [nmz]
       refine wpDo rfl ?_;refine wp_callv 97 _ [] _ #[] #[.pointer (some ⟨b5, 0, none⟩)] (by rfl) (by rfl) (enters_of func97 (by kernel_rfl) rfl) ?_
       show Calls prog 97 #[.pointer (some ⟨b5, 0, none⟩)] _ _
       refine (bPut1_any henv hm).mono ?_;rintro e w8 ⟨rfl, hm8⟩;have hm68 := hmr.trans0 hm8;refine ⟨_, rfl, ?_⟩;refine qD _ rfl rfl ?_;simp only [nmz];refine qB ?_
       clear hmr hMr hm8;go_wp2
       go_roundw
       case rel => exact ⟨k + 1, by omega, by go_num, hm68⟩
       case measure => simp [intOf]; omega
     · have hcell : wr.cell? ⟨b28, k * 1, none⟩ = some (.func (.func 99) #[] #[.pointer (some ⟨b5, 0, none⟩), .pointer (some ⟨b3, 0, none⟩), .pointer (some ⟨b4, 0, none⟩)]) := by rw [hq]; exact hmr.cell id HC1.out
       go_upto_region 6 with (fail);refine wpR [3, 1, 3] (by rfl) (by rfl) ?_;simp only [zz2]
       refine qX _ _ _ _ _ _ _ _ _ rfl rfl rfl rfl underlying177 (n := 1) (by kernel_rfl) hlt ?_;simp only [nmz]
       refine wpXd (v := (.func (.func 99) #[] #[.pointer (some ⟨b5, 0, none⟩), .pointer (some ⟨b3, 0, none⟩), .pointer (some ⟨b4, 0, none⟩)])) 175 b28 (k * 1) hcell underlying175 trivial ?_
       refine qD _ rfl rfl ?_;simp only [nmz];refine qB ?_;clear hcell;go_upto_region 7 with (fail);refine wpR [3, 1, 3] (by rfl) (by rfl) ?_;simp only [zz2]
       refine qA _ rfl rfl ?_;simp only [nmz];refine wpDo rfl ?_
       refine wp_callv 99 _ [] _ #[] #[.pointer (some ⟨b5, 0, none⟩), .pointer (some ⟨b3, 0, none⟩), .pointer (some ⟨b4, 0, none⟩)] (by rfl) (by rfl) (enters_of func99 (by kernel_rfl) rfl) ?_
       show Calls prog 99 #[.pointer (some ⟨b5, 0, none⟩), .pointer (some ⟨b3, 0, none⟩), .pointer (some ⟨b4, 0, none⟩)] _ _
       refine (bPut2_any henv hstr hm).mono ?_;rintro e w8 ⟨rfl, hm8⟩;have hm68 := hmr.trans0 hm8;refine ⟨_, rfl, ?_⟩;refine qD _ rfl rfl ?_;simp only [nmz]
       refine qB ?_;clear hmr hMr hm8;go_wp2
       go_roundw
       case rel => exact ⟨k + 1, by omega, by go_num, hm68⟩
       case measure => simp [intOf]; omega
     · cases fb with
       | none =>
        obtain rfl : false = is := HIS.out
        have hcell : wr.cell? ⟨b28, k * 1, none⟩ = some (.func (.func 100) #[] #[.pointer (some ⟨b9, 0, none⟩), .pointer (some ⟨b8, 0, none⟩), .pointer (some ⟨b5, 0, none⟩)]) := by rw [hq]; exact hmr.cell id HC2.out
        go_upto_region 6 with (fail);refine wpR [3, 1, 3] (by rfl) (by rfl) ?_;simp only [zz2]
        refine qX _ _ _ _ _ _ _ _ _ rfl rfl rfl rfl underlying177 (n := 1) (by kernel_rfl) hlt ?_;simp only [nmz]
        refine wpXd (v := (.func (.func 100) #[] #[.pointer (some ⟨b9, 0, none⟩), .pointer (some ⟨b8, 0, none⟩), .pointer (some ⟨b5, 0, none⟩)])) 175 b28 (k * 1) hcell underlying175 trivial ?_
        refine qD _ rfl rfl ?_;simp only [nmz];refine qB ?_;clear hcell;go_upto_region 7 with (fail);refine wpR [3, 1, 3] (by rfl) (by rfl) ?_;simp only [zz2]
        refine qA _ rfl rfl ?_;simp only [nmz];refine wpDo rfl ?_
        refine wp_callv 100 _ [] _ #[] #[.pointer (some ⟨b9, 0, none⟩), .pointer (some ⟨b8, 0, none⟩), .pointer (some ⟨b5, 0, none⟩)] (by rfl) (by rfl) (enters_of func100 (by kernel_rfl) rfl) ?_
        show Calls prog 100 #[.pointer (some ⟨b9, 0, none⟩), .pointer (some ⟨b8, 0, none⟩), .pointer (some ⟨b5, 0, none⟩)] _ _
        refine (bPut3_no henv).mono ?_;rintro e w8 ⟨rfl, hm8⟩;have hm68 := hmr.trans0 hm8;refine ⟨_, rfl, ?_⟩;refine qD _ rfl rfl ?_;simp only [nmz];refine qB ?_
        clear hmr hMr hm8;go_wp2
        go_roundw
        case rel => exact ⟨k + 1, by omega, by go_num, hm68⟩
        case measure => simp [intOf]; omega
       | some b =>
        obtain rfl : true = is := HIS.out;obtain rfl : useV b.blk = pv := HPV.out;obtain ⟨hbm, hbid⟩ := findB_some HFB.out;have hkc := cell_one (hstr.kb b hbm)
        have hbs : Sl false wr (fun _ => True) 1 ByteC b.val b.bytes := (Bts.sl (hstr.bt b hbm)).weak.mono (fun _ _ => trivial) (fun _ _ h => h)
        have hsome : Hid ((getL (ofI wd m) (cont bl)).isSome = true) := hid (by rw [HGB.out, HFB.out]; rfl)
        have hputb : Hid (putB (ofI wd m) m (cont bl) = cont bl) := hid (by unfold putB; rw [if_pos hsome.out])
        obtain ⟨er, her⟩ : ∃ q, (if b.bytes = m then (0 : Int) else 9) = q := ⟨_, rfl⟩;have HER := hid her;clear her
        have hcell : wr.cell? ⟨b28, k * 1, none⟩ = some (.func (.func 100) #[] #[.pointer (some ⟨b9, 0, none⟩), .pointer (some ⟨b8, 0, none⟩), .pointer (some ⟨b5, 0, none⟩)]) := by rw [hq]; exact hmr.cell id HC2.out
        go_upto_region 6 with (fail);refine wpR [3, 1, 3] (by rfl) (by rfl) ?_;simp only [zz2]
        refine qX _ _ _ _ _ _ _ _ _ rfl rfl rfl rfl underlying177 (n := 1) (by kernel_rfl) hlt ?_;simp only [nmz]
        refine wpXd (v := (.func (.func 100) #[] #[.pointer (some ⟨b9, 0, none⟩), .pointer (some ⟨b8, 0, none⟩), .pointer (some ⟨b5, 0, none⟩)])) 175 b28 (k * 1) hcell underlying175 trivial ?_
        refine qD _ rfl rfl ?_;simp only [nmz];refine qB ?_;clear hcell;go_upto_region 7 with (fail);refine wpR [3, 1, 3] (by rfl) (by rfl) ?_;simp only [zz2]
        refine qA _ rfl rfl ?_;simp only [nmz];refine wpDo rfl ?_
        refine wp_callv 100 _ [] _ #[] #[.pointer (some ⟨b9, 0, none⟩), .pointer (some ⟨b8, 0, none⟩), .pointer (some ⟨b5, 0, none⟩)] (by rfl) (by rfl) (enters_of func100 (by kernel_rfl) rfl) ?_
        show Calls prog 100 #[.pointer (some ⟨b9, 0, none⟩), .pointer (some ⟨b8, 0, none⟩), .pointer (some ⟨b5, 0, none⟩)] _ _
        refine (bPut3_old henv hkc hbs).mono ?_;rintro e w8 ⟨rfl, hm8⟩;have hm68 := hmr.trans0 hm8;rw [HER.out];refine ⟨_, rfl, ?_⟩;refine qD _ rfl rfl ?_;simp only [nmz]
        refine qB ?_;have hMe := hM6.trans0 hm68;have hE0 : er = 0 ∨ er = 9 := by rw [← HER.out]; split <;> simp
        clear HER
        rcases hE0 with rfl | rfl
        · clear hmr hMr hm8 hMe
          go_wp2
          go_roundw
          case rel => exact ⟨k + 1, by omega, by go_num, hm68⟩
          case measure => simp [intOf]; omega
        · have HT := hid (H.out.to0 hMe)
          clear hmr hMr hm8 hMe hm68;go_wp2;go_ret2;exact ⟨⟨_, _, rfl⟩, by rw [← HDI.out] at *; rw [hputb.out]; exact HT.out⟩
     · cases fb with
       | none =>
        obtain rfl : false = is := HIS.out
        have hcell : wr.cell? ⟨b28, k * 1, none⟩ = some (.func (.func 102) #[] #[.pointer (some ⟨b9, 0, none⟩), .pointer (some ⟨b3, 0, none⟩), .pointer (some ⟨b5, 0, none⟩)]) := by rw [hq]; exact hmr.cell id HC3.out
        go_upto_region 6 with (fail);refine wpR [3, 1, 3] (by rfl) (by rfl) ?_;simp only [zz2]
        refine qX _ _ _ _ _ _ _ _ _ rfl rfl rfl rfl underlying177 (n := 1) (by kernel_rfl) hlt ?_;simp only [nmz]
        refine wpXd (v := (.func (.func 102) #[] #[.pointer (some ⟨b9, 0, none⟩), .pointer (some ⟨b3, 0, none⟩), .pointer (some ⟨b5, 0, none⟩)])) 175 b28 (k * 1) hcell underlying175 trivial ?_
        refine qD _ rfl rfl ?_;simp only [nmz];refine qB ?_;clear hcell;go_upto_region 7 with (fail);refine wpR [3, 1, 3] (by rfl) (by rfl) ?_;simp only [zz2]
        refine qA _ rfl rfl ?_;simp only [nmz];refine wpDo rfl ?_
        refine wp_callv 102 _ [] _ #[] #[.pointer (some ⟨b9, 0, none⟩), .pointer (some ⟨b3, 0, none⟩), .pointer (some ⟨b5, 0, none⟩)] (by rfl) (by rfl) (enters_of func102 (by kernel_rfl) rfl) ?_
        show Calls prog 102 #[.pointer (some ⟨b9, 0, none⟩), .pointer (some ⟨b3, 0, none⟩), .pointer (some ⟨b5, 0, none⟩)] _ _
        refine (bPut4_no henv hstr hm hroom).mono ?_;rintro e w8 ⟨rfl, hm8⟩;have hm68 := hmr.trans0 hm8;refine ⟨_, rfl, ?_⟩;refine qD _ rfl rfl ?_;simp only [nmz]
        refine qB ?_;clear hmr hMr hm8;go_wp2
        go_roundw
        case rel => exact ⟨k + 1, by omega, by go_num, hm68⟩
        case measure => simp [intOf]; omega
       | some b =>
        obtain rfl : true = is := HIS.out
        have hcell : wr.cell? ⟨b28, k * 1, none⟩ = some (.func (.func 102) #[] #[.pointer (some ⟨b9, 0, none⟩), .pointer (some ⟨b3, 0, none⟩), .pointer (some ⟨b5, 0, none⟩)]) := by rw [hq]; exact hmr.cell id HC3.out
        go_upto_region 6 with (fail);refine wpR [3, 1, 3] (by rfl) (by rfl) ?_;simp only [zz2]
        refine qX _ _ _ _ _ _ _ _ _ rfl rfl rfl rfl underlying177 (n := 1) (by kernel_rfl) hlt ?_;simp only [nmz]
        refine wpXd (v := (.func (.func 102) #[] #[.pointer (some ⟨b9, 0, none⟩), .pointer (some ⟨b3, 0, none⟩), .pointer (some ⟨b5, 0, none⟩)])) 175 b28 (k * 1) hcell underlying175 trivial ?_
        refine qD _ rfl rfl ?_;simp only [nmz];refine qB ?_;clear hcell;go_upto_region 7 with (fail);refine wpR [3, 1, 3] (by rfl) (by rfl) ?_;simp only [zz2]
        refine qA _ rfl rfl ?_;simp only [nmz];refine wpDo rfl ?_
        refine wp_callv 102 _ [] _ #[] #[.pointer (some ⟨b9, 0, none⟩), .pointer (some ⟨b3, 0, none⟩), .pointer (some ⟨b5, 0, none⟩)] (by rfl) (by rfl) (enters_of func102 (by kernel_rfl) rfl) ?_
        show Calls prog 102 #[.pointer (some ⟨b9, 0, none⟩), .pointer (some ⟨b3, 0, none⟩), .pointer (some ⟨b5, 0, none⟩)] _ _
        refine (bPut4_old henv).mono ?_;rintro e w8 ⟨rfl, hm8⟩;have hm68 := hmr.trans0 hm8;refine ⟨_, rfl, ?_⟩;refine qD _ rfl rfl ?_;simp only [nmz];refine qB ?_
        clear hmr hMr hm8;go_wp2
        go_roundw
        case rel => exact ⟨k + 1, by omega, by go_num, hm68⟩
        case measure => simp [intOf]; omega
   · have hzk : ¬ (k : Int) < 4 := by omega
     have henv := HENV.out.keep0 hmr;have hstr := H.out.keep0 hMr;have hc9 := henv.c9
     cases fb with
     | some b =>
      obtain rfl : true = is := HIS.out;have hsome : Hid ((getL (ofI wd m) (cont bl)).isSome = true) := hid (by rw [HGB.out, HFB.out]; rfl)
      have hputb : Hid (putB (ofI wd m) m (cont bl) = cont bl) := hid (by unfold putB; rw [if_pos hsome.out]);have HT := hid (H.out.to0 hMr);clear hmr hMr
      go_upto_region 11 with (fail);refine wpR [1] (by rfl) (by rfl) ?_;simp only [zz2];refine wpXd (v := (.bool true)) 4 b9 0 hc9 underlying4 trivial ?_;try simp only [nmz]
      refine qB ?_;go_wp2;go_ret2;exact ⟨⟨_, _, rfl⟩, by rw [← HDI.out] at *; rw [hputb.out]; exact HT.out⟩
     | none =>
      obtain rfl : false = is := HIS.out;have hnone : Hid (getL (ofI wd m) (cont bl) = none) := hid (by rw [HGB.out, HFB.out]; rfl);go_upto_region 11 with (fail)
      refine wpR [1] (by rfl) (by rfl) ?_;simp only [zz2];refine wpXd (v := (.bool false)) 4 b9 0 hc9 underlying4 trivial ?_;try simp only [nmz]
      refine qB ?_;have hc3 := henv.c3;have hc4 : CellsAt wr b4 0 (qC di) := by have := henv.c4; rw [HDI.out] at this; exact this
      have hc5 := henv.c5;have hmsr := hstr.cell.2.2.2;have hslr := hid henv.sl;have hlmr := hstr.lm;have hboxr := hstr.box;have hltb : bs < wr.heap.size := hstr.lt bs (.inl rfl)
      have hltm : ms < wr.heap.size := hstr.lt ms (.inr (.inl rfl));have hbm := hstr.nes.1;clear henv hc9;go_upto_region 13 with (fail)
      have hS : Mod NoB wr wr.drew := (Mod.refl _ _).drew
      refine wpRP [(0, 0), (1, 3), (2, 3), (3, 0), (4, 0), (5, 0), (6, 1), (7, 0), (8, 1), (9, 2)] [9] (fun w' => Mod NoB wr w') hS ?_;simp only [zz4]
      refine wpLd 29 b3 0 (fun w' hS => hS.cell id hc3) underlying29 ?_;simp only [nmz];refine qF _ _ rfl rfl rfl ?_;simp only [nmz]
      refine qE _ _ _ _ _ _ rfl rfl rfl fo_95_3 ?_;simp only [nmz];refine wpLd 93 bs 3 (fun w' hS => hS.cell id hmsr) underlying93 ?_;simp only [nmz]
      refine wpLA 24 b4 0 (qC di) (fun w' hS => hc4.keep hS id) underlying24 32 hrs ?_;simp only [nmz];refine wpLd 53 b5 0 (fun w' hS => hS.cell id hc5) underlying53 ?_
      simp only [nmz];refine qW rfl (fun K hK => ?_)
      refine qG (qH 93 [.tmp 46] _ rfl _ func93 rfl (by kernel_rfl) [v] rfl _) (bytesClone_any (hslr.out.keep0 hS) (by omega)) ?_;rintro e wa ⟨vk, rfl, hbk, hma⟩
      have hSa := hS.trans0 hma;have hvk1 : vk.oneCell' = true := by obtain ⟨ad, cap, rfl, -, -⟩ := Sl.at hbk.sl; rfl
      have hvkc : vk.cells = #[vk] := by obtain ⟨ad, cap, rfl, -, -⟩ := Sl.at hbk.sl; rfl
      have hbkk := built_kept vk hvkc;refine ⟨_, rfl, hK _ _ hSa ?_⟩;clear hK K;try simp only [nmz]
      refine qS rfl (fun w' hS => qT 170 [(0, _)] [(0, vk)] _ (by rfl) (by rfl) hbkk) ?_;simp only [nmz];refine qW rfl (fun K hK => ?_)
      refine xF 170 _ _ (by rfl) (by rfl) (fun wb hBb hmb hsb => ?_);replace hBb : wb.heap[wa.heap.size]? = some (.cells #[vk] 170 (0, 0)) := hBb;have hSb := hSa.trans0 hmb
      refine hK _ _ hSb ?_;clear hK K;try simp only [nmz]
      refine zR rfl (fun K hK => ?_)
      refine wp_putL keyT_id (hlmr.keep0 hSb) (ofI wd m) (by rw [HDI.out]; exact hdl) 93 166 underlying93 _ _ _ (.pointer (some ⟨wa.heap.size, 0, none⟩)) (by rfl) (by rfl) (by rw [HDI.out]; rfl) (by rfl) (fun wc hlmc hmc => ?_)
      refine hK _ _ ?_;clear hK K;try simp only [nmz]
      refine qB ?_;have hboxc := hmc.objB hbm (hSb.obj id hboxr);have hu2 : wc.cell? ⟨bs, 2, none⟩ = some (.int .i64 (usedL (cont bl) : Nat)) := by simp [World.cell?, hboxc]
      have hSc : Mod (fun k => k = ms) wr wc := (hSb.mono (fun _ _ h => h.elim)).trans hmc (fun _ _ h => h)
      have hnb3 : b3 ≠ ms := fun e => by
       subst e;obtain ⟨es, clk, hq, _⟩ := hstr.lm.obj
       simp [World.cell?, hq] at hc3
      have hnb5 : b5 ≠ ms := fun e => by
       subst e;obtain ⟨es, clk, hq, _⟩ := hstr.lm.obj
       simp [World.cell?, hq] at hc5
      have hc3c := hSc.cell (fun e => hnb3 e) hc3;have hc5c := hSc.cell (fun e => hnb5 e) hc5;obtain ⟨adv, capv, rfl, -, -⟩ := Sl.at hslr.out
      obtain ⟨u, hu⟩ : ∃ q, ((usedL (cont bl) : Nat) : Int) = q := ⟨_, rfl⟩;have HU := hid hu;have hub : 0 ≤ u ∧ u ≤ 40960000 := by omega
      rw [hu] at hu2 hboxc;have hsza := hSa.size;have HCLM := hid hlmc;have hMa := hMr.trans0 hSa;have hbk0 : Bts w.heap.size wa vk m := owns_base hbk hMr.size
      have hkna : w.heap.size ≤ wa.heap.size := hMa.size;clear hlmc hlmr hmsr hboxr hu;go_upto_region 14 with (fail);have hS2 : Mod NoB wc wc.drew := (Mod.refl _ _).drew
      refine wpRP [(0, 0), (1, 3), (2, 3), (3, 0), (4, 0), (5, 3), (6, 3), (7, 3), (8, 3), (9, 2)] [9] (fun w' => Mod NoB wc w') hS2 ?_;simp only [zz4]
      refine wpLd 29 b3 0 (fun w' hS => hS.cell id hc3c) underlying29 ?_;simp only [nmz];refine qF _ _ rfl rfl rfl ?_;simp only [nmz]
      refine qE _ _ _ _ _ _ rfl rfl rfl fo_95_2 ?_;simp only [nmz];refine wpLd 3 bs 2 (fun w' hS => hS.cell id hu2) underlying3 ?_;simp only [nmz]
      refine wpLd 53 b5 0 (fun w' hS => hS.cell id hc5c) underlying53 ?_;simp only [nmz];refine zP _ _ _ _ _ rfl rfl rfl (by kernel_rfl) ?_;simp only [nmz]
      refine zT _ _ _ _ u ((m.length : Nat) : Int) (u + (m.length : Nat)) rfl rfl rfl rfl rfl (by omega) (by omega) ?_;simp only [nmz];refine qF _ _ rfl rfl rfl ?_
      simp only [nmz];refine qE _ _ _ _ _ _ rfl rfl rfl fo_95_2 ?_;simp only [nmz];refine zR rfl (fun K hK => ?_)
      refine zA 3 _ _ bs 2 (.int .i64 (u + (m.length : Nat))) (by rfl) (by rfl) (by rfl) rfl (by kernel_rfl) _ _ (hS2.obj id hboxc) (by simp) (fun wd' hBd hmd => ?_)
      replace hBd : wd'.heap[bs]? = some (.cells #[.int .i64 wd, .int .i64 room, .int .i64 (u + (m.length : Nat)), .map (some ms)] 95 (0, 0)) := hBd;refine hK _ _ ?_;clear hK K
      try simp only [nmz]
      refine qB ?_;have hbox4 := hBd;rw [← HU.out] at hbox4;have hmb' : Mod NoB wa wb := hmb
      have h4 : Mod (fun j => j = bs) wc wd' := (hS2.mono (fun _ _ h => h.elim)).trans hmd (fun _ _ h => h)
      have HT := hid (H.out.more hfew hm hnone.out hMa hbk0 hkna hBb hmb' HCLM.out hmc hbox4 h4)
      clear hS hS2 hSa hSb hSc hma hmb hmb' hmc hmd h4 hMa hMr hmr hBb hBd hbox4 hbk hbk0 hboxc hc3c hc5c hu2 HCLM hbkk hstr;go_wp2;go_ret2
      exact ⟨⟨_, _, rfl⟩, by rw [← HDI.out] at *; exact HT.out⟩
end
end
end Go.Proofs.YtjeonjoifjbohaaGreat
