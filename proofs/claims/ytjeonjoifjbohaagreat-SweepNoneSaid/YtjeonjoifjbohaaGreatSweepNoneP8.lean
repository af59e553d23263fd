/- What the statement SweepNone needs, part 8. -/
import Derived.WalkKit
import Derived.ProofKit
import Derived.OpenShut
import Derived.ChangeStays
import Derived.ChangeBook
import Derived.ChangeSlices
import Derived.Test.YtjeonjoifjbohaaGreatSweepNoneP7
set_option linter.unusedVariables false
set_option linter.unusedSimpArgs false
set_option linter.unnecessarySimpa false
set_option linter.unusedSectionVars false
set_option maxRecDepth 10000
set_option maxHeartbeats 8000000
namespace Go.Proofs.YtjeonjoifjbohaaGreat
open Go.RowKit Go.Shelf Go.Proofs.Tryz Go.Lib
theorem wp_bytesConst {P : Program} {o : Oper} {a : Act} {w : World} {K : Act → World → Prop} {Q : Exit → Act → World → Prop} (t e : TypeId) (x : Operand) (b n c : Nat) (C : Array Value) (ho : o.op = .convert t t x) (hx : a.eval x = .slice (some ⟨b, 0, none⟩) n c)
 (ht : P.underlying t = some (.slice e)) (he : P.underlying e = some (.int .u8)) (hb : w.heap[b]? = some (.cells C e (0, 0)))
 (h : ∀ w', w'.heap[b]? = some (.cells C e (C.size, C.size + 1)) → Mod (fun k => k = b) w w' → K (a.put o.dst (.slice (some ⟨b, 0, none⟩) n c)) w') : o.wp P a w K Q := by
 have hsh : w.shape? b = some (e, C.size) := by unfold World.shape?; rw [hb]
 have hr : (convert t t (.slice (some ⟨b, 0, none⟩) n c)).run P w = .ok (.slice (some ⟨b, 0, none⟩) n c) (w.freeze ⟨b, C.size, none⟩ 1) := by
  simp [convert, run_underlying ht, run_underlying he, markStringish, hsh]
 unfold Oper.wp execOp;simp only [ho, hx, Sem.run_bind, hr, Result.andThen_ok, Sem.run_pure];refine h _ ?_ ⟨rfl, rfl, rfl, ?_, fun k hk hne => ?_⟩
 · unfold World.freeze
   rw [if_neg (by decide)]
   show (w.heap.modify b _)[b]? = _
   rw [Array.getElem?_modify, if_pos rfl, hb]
   rfl
 · unfold World.freeze
   rw [if_neg (by decide)]
   simp
 · unfold World.freeze
   rw [if_neg (by decide)]
   show (w.heap.modify b _)[k]? = _
   rw [Array.getElem?_modify, if_neg (fun e => hne e.symm)]
theorem sl_bytes {w : World} {b n : Nat} {l : List UInt8} {T : TypeId} {fr : Nat × Nat} (h : w.heap[b]? = some (.cells (q0d l) T fr)) (hn : n = l.length) (hm : l.length ≤ 1000) : Sl false w AnyB 1 ByteC (.slice (some ⟨b, 0, none⟩) n n) l := by
 subst hn
 refine ⟨some ⟨b, 0, none⟩, l.length, rfl, Nat.le_refl _, by unfold maxLen; omega, fun _ => ⟨b, 0, rfl, trivial, fun e => (by cases e), fun i hi => ⟨#[byteV l[i]], rfl, rfl, ?_⟩⟩⟩
 refine CellsAt.of_obj h fun j hj => ?_;have h0 : j = 0 := by simpa using hj
 subst h0
 simp [q0d, hi]
theorem cells_nth {w : World} {b : Nat} {C : Array Value} {T : TypeId} {fr : Nat × Nat} (h : w.heap[b]? = some (.cells C T fr)) (i : Nat) (c : Value) (hc : C[i]? = some c) : CellsAt w b (0 + i * 1) #[c] := CellsAt.of_obj h fun j hj => by
 have h0 : j = 0 := by simpa using hj
 subst h0
 simpa using hc
theorem results_row3 {P : Program} {fn : Func} {p q r : Tmp} {ty tz tx : TypeId} (h : fn.results = #[.cell p ty, .cell q tz, .cell r tx]) (tmps : Array Value) (w : World) (g1 g2 g3 : Nat) (t1 t2 t3 : TypeId) (c1 c2 c3 : Array Value) (f1 f2 f3 : Nat × Nat) (d1 d2 d3 : TypeDesc)
 (hp1 : tmps.getD p undef = .pointer (some ⟨g1, 0, none⟩)) (hg1 : w.heap[g1]? = some (.cells c1 t1 f1)) (hp2 : tmps.getD q undef = .pointer (some ⟨g2, 0, none⟩)) (hg2 : w.heap[g2]? = some (.cells c2 t2 f2)) (hp3 : tmps.getD r undef = .pointer (some ⟨g3, 0, none⟩)) (hg3 : w.heap[g3]? = some (.cells c3 t3 f3))
 (hu1 : P.underlying ty = some d1) (hd1 : (match d1 with | .struct _ | .array _ _ => true | _ => false) = true) (hi1 : (P.info? ty).map (·.size) = some c1.size)
 (hu2 : P.underlying tz = some d2) (hd2 : (match d2 with | .struct _ | .array _ _ => true | _ => false) = true) (hi2 : (P.info? tz).map (·.size) = some c2.size)
 (hu3 : P.underlying tx = some d3) (hd3 : (match d3 with | .struct _ | .array _ _ => true | _ => false) = true) (hi3 : (P.info? tx).map (·.size) = some c3.size) :
 (results fn tmps).run P w = .ok (.tuple #[.agg c1, .agg c2, .agg c3]) w := by
 have e1 : tmps[p]?.getD undef = .pointer (some ⟨g1, 0, none⟩) := by simpa using hp1
 have e2 : tmps[q]?.getD undef = .pointer (some ⟨g2, 0, none⟩) := by simpa using hp2
 have e3 : tmps[r]?.getD undef = .pointer (some ⟨g3, 0, none⟩) := by simpa using hp3
 simp [results, h, e1, e2, e3, asAddr, run_loadVar_row w g1 t1 ty c1 f1 d1 hg1 hu1 hd1 hi1, run_loadVar_row w g2 t2 tz c2 f2 d2 hg2 hu2 hd2 hi2, run_loadVar_row w g3 t3 tx c3 f3 d3 hg3 hu3 hd3 hi3]
def idA : List UInt8 := shaL [65]
def idB : List UInt8 := shaL [66, 33]
def TwoR (w : World) : Ending → World → Prop := fun e w' => Mod NoB w w' ∧ ∃ lv kv, e = .returned (.tuple #[.agg (q0d idA), .agg (q0d idB), .agg #[.int .i64 31, lv, kv]]) ∧ LsAt w' lv [[65], [66, 33]] ∧ Sl false w' AnyB 1 IntC kv [0, 0, 0, 1]
theorem houseZ : (prog.info? 68).bind (·.zero) = some (.agg #[.int .i64 0, .slice none 0 0, .slice none 0 0]) := by kernel_rfl
theorem byte_zs : (prog.info? 5).map (fun i => (i.zero, i.size)) = some (some (byteV 0), 1) := by kernel_rfl
theorem bytes_zs : (prog.info? 53).map (fun i => (i.zero, i.size)) = some (some (.slice none 0 0), 1) := by kernel_rfl
theorem built_house (n : Int) (ad bd : Option Addr) (k c k' c' : Nat) : prog.built 68 [(0, .int .i64 n), (1, .slice ad k c), (2, .slice bd k' c')] = some #[.int .i64 n, .slice ad k c, .slice bd k' c'] := by
 have p : q3g prog 68 = some [(0, 1), (1, 1), (2, 1)] := by kernel_rfl
 rw [q2k houseZ p, q1u (off := 0) (size := 1) rfl (by rfl) (by simp), q1u (off := 1) (size := 1) rfl (by rfl) (by simp [q1m, Value.cells]), q1u (off := 2) (size := 1) rfl (by rfl) (by simp [q1m, Value.cells]), q3n]
 rfl
theorem two_any (w : World) : Calls prog 55 #[] w (TwoR w) := by
 have hA : (q0d idA).size = 32 := by rw [q0i]; exact shaL_len _
 have hB : (q0d idB).size = 32 := by rw [q0i]; exact shaL_len _
 have hz32 : (q0d (List.replicate 32 0)).size = 32 := idZ_size;go_enter func55, ntmps55;go_upto_region 0 with (fail)
 refine q0a [1, 1, 1] (fun _ => True) (by rfl) (by rfl) trivial ?_;simp only [zz2];refine q0e rfl (fun K hK => ?_)
 refine q1c 24 _ (by rfl) idZ (fun w1 hB1 hm1 hs1 => ?_);replace hB1 : w1.heap[w.heap.size]? = some (.cells (q0d (List.replicate 32 0)) 24 (0, 0)) := hB1
 refine hK _ _ trivial ?_;clear hK K;try simp only [nmz, Nat.reduceAdd]
 refine q0e rfl (fun K hK => ?_);refine q1c 24 _ (by rfl) idZ (fun w2 hB2 hm2 hs2 => ?_)
 replace hB2 : w2.heap[w1.heap.size]? = some (.cells (q0d (List.replicate 32 0)) 24 (0, 0)) := hB2;refine hK _ _ trivial ?_;clear hK K;try simp only [nmz, Nat.reduceAdd]
 refine q0e rfl (fun K hK => ?_);refine q1c 68 _ (by rfl) houseZ (fun w3 hB3 hm3 hs3 => ?_)
 replace hB3 : w3.heap[w2.heap.size]? = some (.cells #[.int .i64 0, .slice none 0 0, .slice none 0 0] 68 (0, 0)) := hB3;refine hK _ _ trivial ?_;clear hK K
 try simp only [nmz, Nat.reduceAdd]
 refine q0c ?_;have hB13 := (hm2.trans0 hm3).obj id hB1;have hB23 := hm3.obj id hB2;have hm03 := (hm1.trans0 hm2).trans0 hm3;have hs12 : w1.heap.size < w2.heap.size := hs2
 have hs01 : w.heap.size < w1.heap.size := hs1;generalize hb0 : w.heap.size = b0 at *;generalize hb1 : w1.heap.size = b1 at *;generalize hb2 : w2.heap.size = b2 at *
 clear hm1 hm2 hm3 hB1 hB2 hs1 hs2;go_upto_region 1 with (fail);refine q0a [1, 1, 1, 1, 1, 1, 1, 1, 1, 1, 1, 1, 0, 1, 1, 1] (fun _ => True) (by rfl) (by rfl) trivial ?_
 simp only [zz2];refine q0e rfl (fun K hK => ?_)
 refine q1n 53 5 _ (byteV 65) (byteV 0) 1 (by rfl) (by rfl) underlying53 byte_zs (by omega) (by omega) rfl (fun w4 hB4 hm4 hs4 => ?_)
 replace hB4 : w4.heap[w3.heap.size]? = some (.cells (q0d [65]) 5 (0, 0)) := hB4;refine hK _ _ trivial ?_;clear hK K;try simp only [nmz, Nat.reduceAdd]
 refine q0e rfl (fun K hK => ?_);refine wp_bytesConst 53 5 _ w3.heap.size 1 1 _ (by rfl) (by rfl) underlying53 underlying5 hB4 (fun w5 hB5 hm5 => ?_)
 have hm35 : Mod NoB w3 w5 := hm4.transB hm5 (Nat.le_refl _);have hsA := shaSum_any (sl_bytes (n := 1) hB5 rfl (by simp)) (by simp);refine hK _ _ trivial ?_;clear hK K
 try simp only [nmz, Nat.reduceAdd]
 refine q0e rfl (fun K hK => ?_);refine q0l (q0o 96 [.tmp 4] _ rfl _ func96 rfl (by kernel_rfl) [.slice (some ⟨w3.heap.size, 0, none⟩) 1 1] rfl _) (hsA) ?_
 rintro e w6 ⟨rfl, hm6⟩;have hm36 := hm35.trans0 hm6;refine ⟨_, rfl, hK _ _ trivial ?_⟩;clear hK K;try simp only [nmz, Nat.reduceAdd]
 refine q0e rfl (fun K hK => ?_)
 refine q2t 53 5 2 [(0, _), (1, _)] [byteV 66, byteV 33] (byteV 0) 1 (by rfl) (by rfl) (by rfl) underlying53 byte_zs (by omega) (by omega) (by simp [Value.cells, byteV]) (fun w7 hB7 hm7 hs7 => ?_)
 replace hB7 : w7.heap[w6.heap.size]? = some (.cells (q0d [66, 33]) 5 (0, 0)) := hB7;refine hK _ _ trivial ?_;clear hK K;try simp only [nmz, Nat.reduceAdd]
 refine q0e rfl (fun K hK => ?_);refine wp_bytesConst 53 5 _ w6.heap.size 2 2 _ (by rfl) (by rfl) underlying53 underlying5 hB7 (fun w8 hB8 hm8 => ?_)
 have hm68 : Mod NoB w6 w8 := hm7.transB hm8 (Nat.le_refl _);have hsB := shaSum_any (sl_bytes (n := 2) hB8 rfl (by simp)) (by simp);refine hK _ _ trivial ?_;clear hK K
 try simp only [nmz, Nat.reduceAdd]
 refine q0e rfl (fun K hK => ?_);refine q0l (q0o 96 [.tmp 7] _ rfl _ func96 rfl (by kernel_rfl) [.slice (some ⟨w6.heap.size, 0, none⟩) 2 2] rfl _) (hsB) ?_
 rintro e w9 ⟨rfl, hm9⟩;have hm39 := hm36.trans0 (hm68.trans0 hm9);clear hm36 hm68 hm9 hm7 hm8 hB7 hB8 hsA hsB hm35 hm6 hB4 hB5 hm4 hm5;refine ⟨_, rfl, hK _ _ trivial ?_⟩;clear hK K
 try simp only [nmz, Nat.reduceAdd]
 refine q0e rfl (fun K hK => ?_);refine q1n 53 5 _ (byteV 65) (byteV 0) 1 (by rfl) (by rfl) underlying53 byte_zs (by omega) (by omega) rfl (fun wa hBa hma hsa => ?_)
 replace hBa : wa.heap[w9.heap.size]? = some (.cells (q0d [65]) 5 (0, 0)) := hBa;refine hK _ _ trivial ?_;clear hK K;try simp only [nmz, Nat.reduceAdd]
 refine q0e rfl (fun K hK => ?_);refine wp_bytesConst 53 5 _ w9.heap.size 1 1 _ (by rfl) (by rfl) underlying53 underlying5 hBa (fun wb hBb hmb => ?_)
 have hm9b : Mod NoB w9 wb := hma.transB hmb (Nat.le_refl _);refine hK _ _ trivial ?_;clear hK K;try simp only [nmz, Nat.reduceAdd]
 refine q0e rfl (fun K hK => ?_)
 refine q2t 53 5 2 [(0, _), (1, _)] [byteV 66, byteV 33] (byteV 0) 1 (by rfl) (by rfl) (by rfl) underlying53 byte_zs (by omega) (by omega) (by simp [Value.cells, byteV]) (fun wc hBc hmc hsc => ?_)
 replace hBc : wc.heap[wb.heap.size]? = some (.cells (q0d [66, 33]) 5 (0, 0)) := hBc;refine hK _ _ trivial ?_;clear hK K;try simp only [nmz, Nat.reduceAdd]
 refine q0e rfl (fun K hK => ?_);refine wp_bytesConst 53 5 _ wb.heap.size 2 2 _ (by rfl) (by rfl) underlying53 underlying5 hBc (fun wd hBd hmd => ?_)
 have hmbd : Mod NoB wb wd := hmc.transB hmd (Nat.le_refl _);refine hK _ _ trivial ?_;clear hK K;try simp only [nmz, Nat.reduceAdd]
 refine q0e rfl (fun K hK => ?_)
 refine q2t 22 53 2 [(0, _), (1, _)] [.slice (some ⟨w9.heap.size, 0, none⟩) 1 1, .slice (some ⟨wb.heap.size, 0, none⟩) 2 2] (.slice none 0 0) 1 (by rfl) (by rfl) (by rfl) underlying22 bytes_zs (by omega) (by omega) (by simp [Value.cells]) (fun we hBe hme hse => ?_)
 replace hBe : we.heap[wd.heap.size]? = some (.cells #[.slice (some ⟨w9.heap.size, 0, none⟩) 1 1, .slice (some ⟨wb.heap.size, 0, none⟩) 2 2] 53 (0, 0)) := hBe
 refine hK _ _ trivial ?_;clear hK K;try simp only [nmz, Nat.reduceAdd]
 refine q0e rfl (fun K hK => ?_)
 refine q2t 64 3 4 [(0, _), (1, _), (2, _), (3, _)] [.int .i64 0, .int .i64 0, .int .i64 0, .int .i64 1] (.int .i64 0) 1 (by rfl) (by rfl) (by rfl) underlying64 int_zs (by omega) (by omega) (by simp [Value.cells]) (fun wf hBf hmf hsf => ?_)
 replace hBf : wf.heap[we.heap.size]? = some (.cells #[.int .i64 0, .int .i64 0, .int .i64 0, .int .i64 1] 3 (0, 0)) := hBf
 have hm3f : Mod NoB w3 wf := hm39.trans0 ((hm9b.trans0 hmbd).trans0 (hme.trans0 hmf));have hX1 := hm3f.obj id hB13;refine hK _ _ trivial ?_;clear hK K
 try simp only [nmz, Nat.reduceAdd]
 refine q0j rfl (fun w' hS => q0y 68 [(0, _), (1, _), (2, _)] [(0, .int .i64 31), (1, .slice (some ⟨wd.heap.size, 0, none⟩) 2 2), (2, .slice (some ⟨we.heap.size, 0, none⟩) 4 4)] _ (by rfl) (by rfl) (built_house 31 _ _ 2 2 4 4)) ?_
 simp only [nmz, Nat.reduceAdd];refine q0e rfl (fun K hK => ?_)
 refine q0r 24 _ _ b0 0 (q0d idA) (by rfl) (by rfl) (by rfl) (q0x _) 32 (by kernel_rfl) hA _ _ hX1 (by rw [hA, hz32]; omega) (fun wg hBg hmg => ?_)
 rw [q0n (by rw [hA, hz32])] at hBg;have hX2 := hmg.objB (b := b1) (by omega) (hm3f.obj id hB23);have hX3 := hmg.objB (b := b2) (by omega) (hm3f.obj id hB3)
 refine hK _ _ trivial ?_;clear hK K;try simp only [nmz, Nat.reduceAdd]
 refine q0e rfl (fun K hK => ?_)
 refine q0r 24 _ _ b1 0 (q0d idB) (by rfl) (by rfl) (by rfl) (q0x _) 32 (by kernel_rfl) hB _ _ hX2 (by rw [hB, hz32]; omega) (fun wh hBh hmh => ?_)
 rw [q0n (by rw [hB, hz32])] at hBh;have hY1 := hmh.objB (b := b0) (by omega) hBg;have hY3 := hmh.objB (b := b2) (by omega) hX3;refine hK _ _ trivial ?_;clear hK K
 try simp only [nmz, Nat.reduceAdd]
 refine q0e rfl (fun K hK => ?_)
 refine q0r 68 _ _ b2 0 #[.int .i64 31, .slice (some ⟨wd.heap.size, 0, none⟩) 2 2, .slice (some ⟨we.heap.size, 0, none⟩) 4 4] (by rfl) (by rfl) (by rfl) (by intro c hc; simp at hc; rcases hc with rfl | rfl | rfl <;> rfl) 3 (by kernel_rfl) rfl _ _ hY3 (by simp) (fun wi hBi hmi => ?_)
 rw [q0n (by simp)] at hBi;have hZ1 := hmi.objB (b := b0) (by omega) hY1;have hZ2 := hmi.objB (b := b1) (by omega) hBh;refine hK _ _ trivial ?_;clear hK K
 try simp only [nmz, Nat.reduceAdd]
 refine q0c ?_;have hb23 : b2 < w3.heap.size := (Array.getElem?_eq_some_iff.1 hB3).1
 have keep : ∀ k o, w3.heap.size ≤ k → wf.heap[k]? = some o → wi.heap[k]? = some o := fun k o hk ho =>
  hmi.obj (fun e => by have e : k = b2 := e; omega) (hmh.obj (fun e => by have e : k = b1 := e; omega) (hmg.obj (fun e => by have e : k = b0 := e; omega) ho))
 have hM : Mod NoB w wi := (((hm03.trans0 hm3f).transB hmg (by omega)).transB hmh (by omega)).transB hmi (by omega);have s9 := hm39.size;have sb := hm9b.size;have sd := hmbd.size
 have se := hme.size;have kb := keep _ _ (by omega) ((hmbd.trans0 (hme.trans0 hmf)).obj id hBb);have kd := keep _ _ (by omega) ((hme.trans0 hmf).obj id hBd)
 have ke := keep _ _ (by omega) (hmf.obj id hBe);have kf := keep _ _ (by omega) hBf
 have hl : LsAt wi (.slice (some ⟨wd.heap.size, 0, none⟩) 2 2) [[65], [66, 33]] := by
  refine ⟨_, _, rfl, Nat.le_refl _, by unfold maxLen; omega, fun _ => ⟨wd.heap.size, 0, rfl, trivial, fun e => (by cases e), fun i hi => ?_⟩⟩
  match i, hi with
  | 0, _ => exact ⟨#[.slice (some ⟨w9.heap.size, 0, none⟩) 1 1], rfl, ⟨_, rfl, sl_bytes kb rfl (by simp)⟩, cells_nth ke _ _ rfl⟩
  | 1, _ => exact ⟨#[.slice (some ⟨wb.heap.size, 0, none⟩) 2 2], rfl, ⟨_, rfl, sl_bytes kd rfl (by simp)⟩, cells_nth ke _ _ rfl⟩
 have hk4 : Sl false wi AnyB 1 IntC (.slice (some ⟨we.heap.size, 0, none⟩) 4 4) [0, 0, 0, 1] := by
  refine ⟨_, _, rfl, Nat.le_refl _, by unfold maxLen; omega, fun _ => ⟨we.heap.size, 0, rfl, trivial, fun e => (by cases e), fun i hi => ?_⟩⟩
  match i, hi with
  | 0, _ => exact ⟨_, rfl, rfl, cells_nth kf _ _ rfl⟩
  | 1, _ => exact ⟨_, rfl, rfl, cells_nth kf _ _ rfl⟩
  | 2, _ => exact ⟨_, rfl, rfl, cells_nth kf _ _ rfl⟩
  | 3, _ => exact ⟨_, rfl, rfl, cells_nth kf _ _ rfl⟩
 have HF : Hid (TwoR w (.returned (.tuple #[.agg (q0d idA), .agg (q0d idB), .agg #[.int .i64 31, .slice (some ⟨wd.heap.size, 0, none⟩) 2 2, .slice (some ⟨we.heap.size, 0, none⟩) 4 4]])) wi) := hid ⟨hM, _, _, rfl, hl, hk4⟩
 clear hM hl hk4 kb kd ke kf keep hm3f hm39 hm9b hmbd hme hmf hma hmb hmc hmd hmg hmh hmi hBa hBb hBc hBd hBe hBf hBg hBh hX1 hX2 hX3 hY1 hY3 hm03;go_wp2
 refine bodyPost_ret (results_row3 (P := prog) (ty := 24) (tz := 24) (tx := 68) rfl _ _ b0 b1 b2 _ _ _ _ _ _ _ _ _ _ _ _ (by rfl) hZ1 (by rfl) hZ2 (by rfl) hBi underlying24 rfl (by rw [hA]; kernel_rfl) underlying24 rfl (by rw [hB]; kernel_rfl) underlying68 rfl (by kernel_rfl)) rfl ?_
 exact HF.out
end Go.Proofs.YtjeonjoifjbohaaGreat
namespace Go.Proofs.YtjeonjoifjbohaaGreat
open Go.RowKit Go.Proofs.Tryz Go.Lib
theorem idA_len : idA.length = 32 := shaL_len _
theorem idB_len : idB.length = 32 := shaL_len _
theorem idA_ne_idB : idA ≠ idB := by decide +kernel
theorem idB_ne_idA : idB ≠ idA := fun e => idA_ne_idB e.symm
theorem wid31 : widZ 31 = 32 := by decide
theorem decA : decL [65] = none := by decide +kernel
attribute [local irreducible] shaL ofI
def cAB : BlobL := [(idA, [65]), (idB, [66, 33])]
def rA : ByteArray := ⟨#[97]⟩
def lAB : LinkL := [((rA, idA), 1), ((rA, idB), 2)]
theorem cOf_AB : cOf 32 [[65], [66, 33]] = cAB := by
 have h1 : putB idA [65] [] = [(idA, [65])] := rfl
 have h2 : putB idB [66, 33] [(idA, [65])] = cAB := by
  unfold putB;rw [if_neg (by simp [getL, idB_ne_idA, idA_ne_idB])]
  rfl
 have h3 : ofI 32 [65] = idA := ofI_whole _;have h4 : ofI 32 [66, 33] = idB := ofI_whole _;unfold cOf;rw [List.foldl_cons, List.foldl_cons, List.foldl_nil, h3, h4, h1, h2]
theorem nameB_a : nameB rA = true := by decide +kernel
theorem addL_ok (l : LinkL) (k : Key) (size : Int) (hn : nameB k.1 = true) (h0 : 0 ≤ size) (h1 : size ≤ 4096) (hg : getL k l = none) (hl : l.length < 65536) : addL false 1099511627776 l k size = l ++ [(k, size)] := by
 have h : (addE false 1099511627776 l k size).1 = true := by
  unfold addE;rw [if_pos hn, if_neg (by omega), hg]
  simp [holdB, Nat.not_le.2 hl]
 unfold addL;rw [if_pos h]
theorem lOf_AB : lOf 32 [[65], [66, 33]] [0, 0, 0, 1] (laysN [[65], [66, 33]] [0, 0, 0, 1]) = lAB := by
 have h0 : laysN [[65], [66, 33]] [0, 0, 0, 1] = 2 := rfl;have hr : repoZ 0 = rA := rfl
 have e1 : layZ 32 [[65], [66, 33]] [] 0 0 = [((rA, idA), 1)] := by
  have h := addL_ok [] (rA, idA) 1 nameB_a (by omega) (by omega) rfl (by simp);have h3 : ofI 32 [65] = idA := ofI_whole _
  show addL false 1099511627776 [] (repoZ 0, ofI 32 [65]) (([65] : List UInt8).length : Nat) = _
  rw [h3, hr];exact h
 have e2 : layZ 32 [[65], [66, 33]] [((rA, idA), 1)] 0 1 = lAB := by
  have h := addL_ok [((rA, idA), 1)] (rA, idB) 2 nameB_a (by omega) (by omega) (by simp [getL, idB_ne_idA, idA_ne_idB]) (by simp);have h3 : ofI 32 [66, 33] = idB := ofI_whole _
  show addL false 1099511627776 [((rA, idA), 1)] (repoZ 0, ofI 32 [66, 33]) (([66, 33] : List UInt8).length : Nat) = _
  rw [h3, hr];exact h
 rw [h0]
 show layZ 32 [[65], [66, 33]] (layZ 32 [[65], [66, 33]] [] 0 0) 0 1 = lAB
 rw [e1, e2]
theorem getAB1 : getL idA cAB = some [65] := by simp [cAB, getL]
theorem inR_A (x : List UInt8) : inR cAB 5 idA 1 x ↔ x = idA := by
 have hd : descsOf cAB idA = none := by unfold descsOf; rw [getAB1]; simp [decA]
 constructor
 · rintro (h | ⟨_, ds, hds, _⟩)
   · exact h
   · rw [hd] at hds; cases hds
 · intro h; exact .inl h
theorem sorted_ext {l m : List (List UInt8)} (hl : l.Pairwise (fun a b => a < b)) (hm : m.Pairwise (fun a b => a < b)) (h : ∀ x, x ∈ l ↔ x ∈ m) : l = m := by
 have hp : l.Perm m := (List.perm_ext_iff_of_nodup (lt_nodup hl) (lt_nodup hm)).2 h;exact hp.eq_of_pairwise (fun a b _ _ h1 h2 => absurd (ltB_trans h1 h2) (List.lt_irrefl _)) hl hm
theorem marks_A {out : List (List UInt8)} (h : MarkedOf cAB [idA] [] out) : out = [idA] := by
 refine sorted_ext h.1 (List.pairwise_singleton _ _) fun x => ?_;rw [h.2 x]
 simp [refsL, inR_A]
theorem roots_A {out : List (List UInt8)} (h : SetOf [idA] out) : out = [idA] := sorted_ext h.1 (List.pairwise_singleton _ _) h.2
theorem gone_A {ids : List (List UInt8)} (h : IDsC cAB ids) : goneL ids [idA] = [idB] := by
 have hp : (goneL ids [idA]).Pairwise (fun a b => a < b) := h.1.sublist List.filter_sublist;refine sorted_ext hp (List.pairwise_singleton _ _) fun x => ?_;unfold goneL
 rw [List.mem_filter, h.2.mem_iff];simp only [cAB, List.map_cons, List.map_nil, List.mem_cons, List.not_mem_nil, or_false, Bool.not_eq_true', decide_eq_false_iff_not]
 constructor
 · rintro ⟨rfl | rfl, h2⟩
   · exact absurd rfl h2
   · rfl
 · rintro rfl
   exact ⟨.inr rfl, fun e => idA_ne_idB e.symm⟩
theorem run_A : swRun [idB] cAB lAB = ([(idA, [65])], [((rA, idA), 1)], 2, 1) := by
 have hne := idA_ne_idB;have hn2 : idB ≠ idA := fun e => hne e.symm
 simp [swRun, swStep, cAB, lAB, delL, getL, forgetL, forgetN, hne, hn2]
end Go.Proofs.YtjeonjoifjbohaaGreat
namespace Go.Proofs.YtjeonjoifjbohaaGreat
open Go.RowKit Go.Shelf Go.Proofs.Tryz Go.Lib
theorem q2g {P : Program} {o : Oper} {a : Act} {w : World} {K : Act → World → Prop} {Q : Exit → Act → World → Prop} (t e : TypeId) (x : Operand) (v : Value) (z : Value) (n : Nat) (ho : o.op = .buildSlice t 1 #[(0, x)]) (hx : a.eval x = v) (hu : P.underlying t = some (.slice e))
 (hi : (P.info? e).map (fun i => (i.zero, i.size)) = some (some z, n)) (hn : 0 < n) (hn' : n ≤ 16777216) (hv : v.cells.size = n)
 (h : ∀ b w', w'.heap[b]? = some (.cells v.cells e (0, 0)) → Mod NoB w w' → K (a.put o.dst (.slice (some ⟨b, 0, none⟩) 1 1)) w') : o.wp P a w K Q :=
 q1n t e x v z n ho hx hu hi hn hn' hv fun w' h1 h2 _ => h _ w' h1 h2
theorem built_swept (ad : Option Addr) (k c : Nat) (x y : Int) : prog.built 104 [(0, .slice ad k c), (1, .int .i64 x), (2, .int .i64 y)] = some #[.slice ad k c, .int .i64 x, .int .i64 y] := by
 have p : q3g prog 104 = some [(0, 1), (1, 1), (2, 1)] := by kernel_rfl
 rw [q2k sweptZ p, q1u (off := 0) (size := 1) rfl (by rfl) (by simp), q1u (off := 1) (size := 1) rfl (by rfl) (by simp [q1m, Value.cells]), q1u (off := 2) (size := 1) rfl (by rfl) (by simp [q1m, Value.cells]), q3n]
 rfl
theorem id_zs : (prog.info? 24).map (fun i => (i.zero, i.size)) = some (some (.agg (q0d (List.replicate 32 0))), 32) := by kernel_rfl
theorem awake_any (w : World) : Calls prog 42 #[] w (RetM (.bool true) w) := by
 have hA : (q0d idA).size = 32 := by rw [q0i, idA_len]
 have hB : (q0d idB).size = 32 := by rw [q0i, idB_len]
 have hz32 : (q0d (List.replicate 32 0)).size = 32 := idZ_size;go_enter func42, ntmps42;go_upto_region 1 with (fail)
 refine q0a [1, 3, 3, 3, 3, 1, 1, 1, 1, 1, 1] (fun _ => True) (by rfl) (by rfl) trivial ?_;simp only [zz2];refine q0e rfl (fun K hK => ?_)
 refine q0l (q0o 55 [] _ rfl _ func55 rfl (by kernel_rfl) [] rfl _) (two_any _) ?_;rintro e w1 ⟨hm1, lv, kv, he1, hl1, hk1⟩;subst he1;refine ⟨_, rfl, hK _ _ trivial ?_⟩
 clear hK K;refine q0b _ rfl rfl ?_;simp only [nmz, Nat.reduceAdd]
 refine q0q rfl (fun w' => q0s _ 0 #[.agg (q0d idA), .agg (q0d idB), .agg #[.int .i64 31, lv, kv]] rfl rfl (.agg (q0d idA)) rfl) ?_
 simp only [nmz, Nat.reduceAdd]
 refine q0q rfl (fun w' => q0s _ 1 #[.agg (q0d idA), .agg (q0d idB), .agg #[.int .i64 31, lv, kv]] rfl rfl (.agg (q0d idB)) rfl) ?_
 simp only [nmz, Nat.reduceAdd]
 refine q0q rfl (fun w' => q0s _ 2 #[.agg (q0d idA), .agg (q0d idB), .agg #[.int .i64 31, lv, kv]] rfl rfl (.agg #[.int .i64 31, lv, kv]) rfl) ?_
 simp only [nmz, Nat.reduceAdd];refine q0e rfl (fun K hK => ?_);refine q1c 24 _ (by rfl) idZ (fun w2 hB2 hm2 hs2 => ?_)
 replace hB2 : w2.heap[w1.heap.size]? = some (.cells (q0d (List.replicate 32 0)) 24 (0, 0)) := hB2;refine hK _ _ trivial ?_;clear hK K;try simp only [nmz, Nat.reduceAdd]
 refine q0e rfl (fun K hK => ?_);refine q1c 24 _ (by rfl) idZ (fun w3 hB3 hm3 hs3 => ?_)
 replace hB3 : w3.heap[w2.heap.size]? = some (.cells (q0d (List.replicate 32 0)) 24 (0, 0)) := hB3;refine hK _ _ trivial ?_;clear hK K;try simp only [nmz, Nat.reduceAdd]
 refine q0e rfl (fun K hK => ?_);refine q1c 68 _ (by rfl) houseZ (fun w4 hB4 hm4 hs4 => ?_)
 replace hB4 : w4.heap[w3.heap.size]? = some (.cells #[.int .i64 0, .slice none 0 0, .slice none 0 0] 68 (0, 0)) := hB4;have hX1 := (hm3.trans0 hm4).obj id hB2
 refine hK _ _ trivial ?_;clear hK K;try simp only [nmz, Nat.reduceAdd]
 refine q0e rfl (fun K hK => ?_)
 refine q0r 24 _ _ w1.heap.size 0 (q0d idA) (by rfl) (by rfl) (by rfl) (q0x _) 32 (by kernel_rfl) hA _ _ hX1 (by rw [hA, hz32]; omega) (fun w5 hB5 hm5 => ?_)
 rw [q0n (by rw [hA, hz32])] at hB5;have hX2 := hm5.objB (b := w2.heap.size) (by omega) (hm4.obj id hB3);have hX3 := hm5.objB (b := w3.heap.size) (by omega) hB4
 refine hK _ _ trivial ?_;clear hK K;try simp only [nmz, Nat.reduceAdd]
 refine q0e rfl (fun K hK => ?_)
 refine q0r 24 _ _ w2.heap.size 0 (q0d idB) (by rfl) (by rfl) (by rfl) (q0x _) 32 (by kernel_rfl) hB _ _ hX2 (by rw [hB, hz32]; omega) (fun w6 hB6 hm6 => ?_)
 rw [q0n (by rw [hB, hz32])] at hB6;have hY1 := hm6.objB (b := w1.heap.size) (by omega) hB5;have hY3 := hm6.objB (b := w3.heap.size) (by omega) hX3;refine hK _ _ trivial ?_
 clear hK K;try simp only [nmz, Nat.reduceAdd]
 refine q0e rfl (fun K hK => ?_)
 refine q0r 68 _ _ w3.heap.size 0 #[.int .i64 31, lv, kv] (by rfl) (by rfl) (by rfl) (by intro c hc; simp at hc; rcases hc with rfl | rfl | rfl <;> first | rfl | exact Sl.one hl1 | exact Sl.one hk1) 3 (by kernel_rfl) rfl _ _ hY3 (by simp) (fun w7 hB7 hm7 => ?_)
 rw [q0n (by simp)] at hB7;have hZ1 := hm7.objB (b := w1.heap.size) (by omega) hY1;have hZ2 := hm7.objB (b := w2.heap.size) (by omega) hB6;refine hK _ _ trivial ?_
 clear hK K;try simp only [nmz, Nat.reduceAdd]
 refine q0c ?_;have s1 := hm2.size;have s2 := hm3.size;have s3 := hm4.size
 have hm17 : Mod NoB w1 w7 := ((((hm2.trans0 hm3).trans0 hm4).transB hm5 (Nat.le_refl _)).transB hm6 s1).transB hm7 (by omega);have hl7 := q4f hl1 hm17
 have hk7 := hk1.keep0 hm17;have hm07 := hm1.trans0 hm17
 have hbl := built_any (w := w7) (wd := 31) (by constructor <;> omega) hl7 hk7 (by simp) (by simp) (by simp) (by intro x hx; simp at hx; rcases hx with rfl | rfl <;> constructor <;> omega)
 rw [wid31] at hbl;have b17 : w1.heap.size < w7.heap.size := (Array.getElem?_eq_some_iff.1 hZ1).1;have b27 : w2.heap.size < w7.heap.size := (Array.getElem?_eq_some_iff.1 hZ2).1
 generalize hb1 : w1.heap.size = b1 at *;generalize hb2 : w2.heap.size = b2 at *;generalize hb3 : w3.heap.size = b3 at *
 clear hm1 hm2 hm3 hm4 hm5 hm6 hm7 hB2 hB3 hB4 hB5 hB6 hX1 hX2 hX3 hY1 hY3 hm17 hl1 hk1 hs2 hs3 hs4;have hcH : CellsAt w7 b3 0 #[.int .i64 31, lv, kv] := CellsAt.whole hB7
 go_upto_region 2 with (fail);refine q0a [1, 1, 3, 3, 3, 3, 3] (fun _ => True) (by rfl) (by rfl) trivial ?_;simp only [zz2]
 refine wpX rfl (q0m 68 _ (by rfl) b3 0 (by rfl) #[.int .i64 31, lv, kv] hcH _ underlying68 rfl 3 (by kernel_rfl) rfl) trivial ?_;try simp only [nmz, Nat.reduceAdd]
 refine q0e rfl (fun K hK => ?_);refine q0l (q0o 43 [.tmp 15] _ rfl _ func43 rfl (by kernel_rfl) [.agg #[.int .i64 31, lv, kv]] rfl _) (hbl) ?_
 rintro e w8 ⟨h, hhw, hhr, hhl, ⟨qb, hhq⟩, he8, Ft, hat, hFn, hm78⟩;subst he8;rw [hhq];refine ⟨_, rfl, hK _ _ trivial ?_⟩;clear hK K;refine q0b _ rfl rfl ?_
 simp only [nmz, Nat.reduceAdd]
 refine q0q rfl (fun w' => q0s _ 0 #[.pointer (some ⟨h.bs, 0, none⟩), .pointer (some ⟨qb, 0, none⟩)] rfl rfl (.pointer (some ⟨h.bs, 0, none⟩)) rfl) ?_
 simp only [nmz, Nat.reduceAdd]
 refine q0q rfl (fun w' => q0s _ 1 #[.pointer (some ⟨h.bs, 0, none⟩), .pointer (some ⟨qb, 0, none⟩)] rfl rfl (.pointer (some ⟨qb, 0, none⟩)) rfl) ?_
 simp only [nmz, Nat.reduceAdd];refine q0f _ rfl rfl ?_;simp only [nmz, Nat.reduceAdd];refine q0f _ rfl rfl ?_;simp only [nmz, Nat.reduceAdd];refine q0c ?_
 rw [cOf_AB, lOf_AB] at hat;have hI1 : CellsAt w8 b1 0 (q0d idA) := CellsAt.whole (hm78.obj id hZ1);have hI2 : CellsAt w8 b2 0 (q0d idB) := CellsAt.whole (hm78.obj id hZ2)
 have hm08 := hm07.trans0 hm78;clear hbl hl7 hk7 hcH hB7 hZ1 hZ2;go_upto_region 5 with (fail);refine q0a [3, 1, 1, 1, 3] (fun _ => True) (by rfl) (by rfl) trivial ?_
 simp only [zz2];refine q0b _ rfl rfl ?_;simp only [nmz, Nat.reduceAdd]
 refine wpX rfl (q0m 24 _ (by rfl) b1 0 (by rfl) (q0d idA) hI1 _ underlying24 rfl 32 (by kernel_rfl) hA) trivial ?_;try simp only [nmz, Nat.reduceAdd]
 refine q0e rfl (fun K hK => ?_);refine q0l (q0o 56 [.tmp 26] _ rfl _ func56 rfl (by kernel_rfl) [.agg (q0d idA)] rfl _) (tagged_any idA idA_len _) ?_
 rintro e w9 ⟨hm9, vv, rv, reps, he9, hvv, hreps, hroots⟩;subst he9;have hat9 := hat.keep0 hm9
 have hmk : Calls prog 48 #[.pointer (some ⟨h.bs, 0, none⟩), .agg #[vv, rv], .slice none 0 0] w9 (MarksR w9 cAB [idA] []) := by
  obtain ⟨bl, F, k1, k2, _⟩ := hat9
  have h9 := swMarks_any (l := []) k1 (by rw [k2]; simp [cAB]) hvv hreps (by rw [hroots]; simp) (Sl.nil false w9 AnyB 39 (EvR false w9 AnyB)) (by simp [refsL]);rw [k2, hroots] at h9
  exact h9
 refine ⟨_, rfl, hK _ _ trivial ?_⟩;clear hK K;try simp only [nmz, Nat.reduceAdd]
 refine q0e rfl (fun K hK => ?_)
 refine q0l (q0o 48 [.tmp 25, .tmp 27, .const (.slice none 0 0)] _ rfl _ func48 rfl (by kernel_rfl) [.pointer (some ⟨h.bs, 0, none⟩), .agg #[vv, rv], .slice none 0 0] rfl _) (hmk) ?_
 rintro e wa ⟨hma, vM, out, hea, hga, hMo, hla⟩;subst hea;obtain rfl := marks_A hMo;refine ⟨_, rfl, hK _ _ trivial ?_⟩;clear hK K;refine q0f _ rfl rfl ?_
 simp only [nmz, Nat.reduceAdd];refine q0c ?_;have hlt8 := hat.lt;have hm8a := hm9.trans0 hma;have hata := hat.keep0 hm8a;have hslM := slI hga hla;have s9 := hm9.size
 have hGM : ∀ k, (w9.heap.size ≤ k ∧ k < wa.heap.size ∧ vM.ownBlock = some k) → ¬ Ft k := fun k hk hf => by have := hlt8 _ hf; have := hk.1; omega
 have hsw := swSweep_any hata hslM hGM;rw [hhq] at hsw;clear hmk hreps hroots hga hMo;go_upto_region 6 with (fail)
 refine q0a [3, 3, 3, 1, 3, 3, 3, 1, 1, 3] (fun _ => True) (by rfl) (by rfl) trivial ?_;simp only [zz2];refine q0b _ rfl rfl ?_;simp only [nmz, Nat.reduceAdd]
 refine q0b _ rfl rfl ?_;simp only [nmz, Nat.reduceAdd];refine q0b _ rfl rfl ?_;simp only [nmz, Nat.reduceAdd];refine q0e rfl (fun K hK => ?_)
 refine q0l (q0o 53 [.tmp 30, .tmp 31, .tmp 32] _ rfl _ func53 rfl (by kernel_rfl) [.pointer (some ⟨h.bs, 0, none⟩), .pointer (some ⟨qb, 0, none⟩), vM] rfl _) (hsw) ?_
 rintro e wb ⟨ids, bv, s, Fb, hidc, hrun, heb, hgb, hatb, hmb, hsb, hnb⟩;subst heb;rw [gone_A hidc] at hrun hgb;rw [run_A] at hrun;subst hrun;refine ⟨_, rfl, hK _ _ trivial ?_⟩
 clear hK K;refine q0b _ rfl rfl ?_;simp only [nmz, Nat.reduceAdd]
 refine q0q rfl (fun w' => q0s _ 0 #[.agg (q0z bv 2 1), .int .i64 0] rfl rfl (.agg (q0z bv 2 1)) rfl) ?_;simp only [nmz, Nat.reduceAdd]
 refine q0q rfl (fun w' => q0s _ 1 #[.agg (q0z bv 2 1), .int .i64 0] rfl rfl (.int .i64 0) rfl) ?_;simp only [nmz, Nat.reduceAdd]
 refine q0e rfl (fun K hK => ?_);refine q1c 104 _ (by rfl) sweptZ (fun wc hBc hmc hsc => ?_)
 replace hBc : wc.heap[wb.heap.size]? = some (.cells #[.slice none 0 0, .int .i64 0, .int .i64 0] 104 (0, 0)) := hBc;refine hK _ _ trivial ?_;clear hK K
 try simp only [nmz, Nat.reduceAdd]
 refine q0e rfl (fun K hK => ?_)
 refine q0r 104 _ _ wb.heap.size 0 (q0z bv 2 1) (by rfl) (by rfl) (by rfl) (by intro c hc; simp [q0z] at hc; rcases hc with rfl | rfl | rfl <;> first | rfl | exact owns_one hgb) 3 (by kernel_rfl) rfl _ _ hBc (by simp [q0z]) (fun wd hBd hmd => ?_)
 rw [q0n (by simp [q0z])] at hBd;refine hK _ _ trivial ?_;clear hK K;refine q0f _ rfl rfl ?_;simp only [nmz, Nat.reduceAdd];refine q0c ?_
 have hmbd : Mod NoB wb wd := hmc.transB hmd (Nat.le_refl _);have hF1 : ∀ k, k < w7.heap.size → ¬ Ft k := fun k hk e => by have := hFn _ e; omega
 have hI1a := hI1.keep hm8a id;have hI1d := (hI1a.keep hmb (hF1 b1 b17)).keep hmbd id;have hI2d := ((hI2.keep hm8a id).keep hmb (hF1 b2 b27)).keep hmbd id
 have hMd := (hslM.keep hmb hGM (fun _ _ h => h)).keep0 hmbd;have hVd := slI (hgb.keep0 hmbd) (fun x hx => by simp at hx; rw [hx]; exact idB_len)
 have hCd : CellsAt wd wb.heap.size 0 (q0z bv 2 1) := CellsAt.whole hBd;have s78 := hm78.size
 have hm0d : Mod NoB w wd := ((hm08.trans0 hm8a).trans hmb (fun k hk hf => by have h1 := hFn k hf; have h2 := hm07.size; omega)).trans0 hmbd;generalize hbo : wb.heap.size = bo at *
 clear hsw hata hat hlt8 hslM hGM hmb hsb hnb hatb hgb hidc hBc hmc hmd hBd hmbd hI1 hI2 hI1a hla;go_upto_region 7 with (fail);have hS : Mod NoB wd wd.drew := (Mod.refl _ _).drew
 have hT : Mod NoB wd wd.drew := (Mod.refl _ _).drew
 refine wp_region_tree [(0, 0), (3, 0)] 3 [(5, 1), (6, 3), (7, 3), (8, 0), (9, 1), (10, 1), (11, 3), (12, 3), (13, 3), (14, 3), (15, 3), (16, 3), (17, 0), (18, 0), (19, 1), (20, 0), (21, 1), (22, 3), (23, 3)] [] (fun w' => Mod NoB wd w') #[true, false, false, true, false, false, false, false, false, false, false, false, false, false, false, false, false, false, false, false, false, false, false, false] (by kernel_rfl) (by kernel_rfl) (by kernel_rfl) (by kernel_rfl) (by kernel_rfl) (fun _ _ _ _ hd h => ⟨hd.trans h.1, h.2⟩) hS ?_
 simp only [zz4];refine q0j rfl (fun w' hS => q0m 24 _ (by rfl) b1 0 (by rfl) (q0d idA) (hI1d.keep hS id) _ underlying24 rfl 32 (by kernel_rfl) hA) ?_
 simp only [nmz, Nat.reduceAdd];refine q0j rfl (fun w' hS => q0m 24 _ (by rfl) b1 0 (by rfl) (q0d idA) (hI1d.keep hS id) _ underlying24 rfl 32 (by kernel_rfl) hA) ?_
 simp only [nmz, Nat.reduceAdd];refine q0c ?_;refine q0u [1, 4] (by kernel_rfl) ?_;simp only [zz3, false_implies, implies_true];refine ⟨?_, ?_⟩
 · intro K hK
   simp only [zz5];refine q0l (q0o 56 [.tmp 36] _ rfl _ func56 rfl (by kernel_rfl) [.agg (q0d idA)] rfl _) (tagged_any idA idA_len _) ?_
   rintro e we ⟨hme, tv, tr, treps, rfl, htv, htr, htroots⟩
   try replace hX := hX.keep0 hme
   replace hT := hT.trans0 hme;clear hme;refine ⟨_, rfl, hK _ _ hT ?_⟩;clear hK K;try simp only [nmz, Nat.reduceAdd]
   refine q0u [2, 4] (by kernel_rfl) ?_;simp only [zz3, false_implies, implies_true];refine ⟨?_, ?_⟩
   · intro K hK
     simp only [zz5];refine q0l (q0o 47 [.tmp 37] _ rfl _ func47 rfl (by kernel_rfl) [.agg #[tv, tr]] rfl _) (swRoots_any htv htr (by rw [htroots]; simp)) ?_
     rintro e wf ⟨hmf, vR, outR, rfl, hgR, hsR, hlR⟩;rw [htroots] at hsR;obtain rfl := roots_A hsR;have hR := slI hgR hlR
     try replace hX := hX.keep0 hmf
     replace hT := hT.trans0 hmf;clear hmf hgR hsR hlR htr;refine ⟨_, rfl, hK _ _ hT ?_⟩;clear hK K;try simp only [nmz, Nat.reduceAdd]
     refine q0u [4] (by kernel_rfl) ?_;simp only [zz3, false_implies, implies_true];intro K hK;simp only [zz5]
     refine q2g 25 24 _ (.agg (q0d idA)) (.agg (q0d (List.replicate 32 0))) 32 (by rfl) (by rfl) underlying25 id_zs (by omega) (by omega) hA (fun bX wg hBg hmg => ?_)
     have hX : Sl false wg AnyB 32 IdC (.slice (some ⟨bX, 0, none⟩) 1 1) [idA] := sl_one hBg ⟨rfl, idA_len⟩ 32 hA
     try replace htr := repsAt_kc htr (KC.of0 hmg)
     try replace hR := hR.keep0 hmg
     replace hT := hT.trans0 hmg;clear hmg hBg;refine hK _ _ hT ?_;clear hK K;try simp only [nmz, Nat.reduceAdd]
     refine q1g ?_;try simp only [zz4]
     try simp only [nmz, Nat.reduceAdd]
     refine q0e rfl (fun K hK => ?_)
     refine q0l (q0o 24 [.tmp 38, .tmp 40] _ rfl _ func24 rfl (by kernel_rfl) [vR, .slice (some ⟨bX, 0, none⟩) 1 1] rfl _) (q3q _ _ _ _ _ _ _ _ _ hR hX) ?_
     rintro e wh ⟨rfl, hmh⟩;replace hT := hT.trans0 hmh;rw [decide_eq_true rfl];clear hmh hR hX;refine ⟨_, rfl, hK _ _ hT ?_⟩;clear hK K;refine q0b _ rfl rfl ?_
     simp only [nmz, Nat.reduceAdd];refine q0b _ rfl rfl ?_;simp only [nmz, Nat.reduceAdd]
     refine q0j rfl (fun w' hS => q0m 24 _ (by rfl) b1 0 (by rfl) (q0d idA) (hI1d.keep hS id) _ underlying24 rfl 32 (by kernel_rfl) hA) ?_
     simp only [nmz, Nat.reduceAdd];refine q0e rfl (fun K hK => ?_)
     refine q2g 25 24 _ (.agg (q0d idA)) (.agg (q0d (List.replicate 32 0))) 32 (by rfl) (by rfl) underlying25 id_zs (by omega) (by omega) hA (fun bY wi hBi hmi => ?_)
     have hY : Sl false wi AnyB 32 IdC (.slice (some ⟨bY, 0, none⟩) 1 1) [idA] := sl_one hBi ⟨rfl, idA_len⟩ 32 hA;replace hT := hT.trans0 hmi;clear hmi hBi;refine hK _ _ hT ?_
     clear hK K;try simp only [nmz, Nat.reduceAdd]
     refine q0e rfl (fun K hK => ?_)
     refine q0l (q0o 24 [.tmp 43, .tmp 45] _ rfl _ func24 rfl (by kernel_rfl) [vM, .slice (some ⟨bY, 0, none⟩) 1 1] rfl _) (q3q _ _ _ _ _ _ _ _ _ (hMd.keep0 hT) hY) ?_
     rintro e wj ⟨rfl, hmj⟩;replace hT := hT.trans0 hmj;rw [decide_eq_true rfl];clear hmj hY;refine ⟨_, rfl, hK _ _ hT ?_⟩;clear hK K;refine q1b _ _ _ _ rfl rfl rfl ?_
     simp only [nmz, Nat.reduceAdd];refine q0b _ rfl rfl ?_;simp only [nmz, Nat.reduceAdd];refine q0b _ rfl rfl ?_;simp only [nmz, Nat.reduceAdd]
     refine q0q (v := ?_) rfl (fun w' => ?_) ?_; rotate_left; · (go_simp; try with_reducible rfl)
     simp only [nmz, Nat.reduceAdd];refine q1b _ _ _ _ rfl rfl rfl ?_;simp only [nmz, Nat.reduceAdd];refine q0b _ rfl rfl ?_;simp only [nmz, Nat.reduceAdd]
     refine q0j rfl (fun w' hS => q0m 104 _ (by rfl) bo 0 (by rfl) (q0z bv 2 1) (hCd.keep hS id) _ underlying104 rfl 3 (by kernel_rfl) rfl) ?_
     simp only [nmz, Nat.reduceAdd]
     refine q0j rfl (fun w' hS => q0m 24 _ (by rfl) b2 0 (by rfl) (q0d idB) (hI2d.keep hS id) _ underlying24 rfl 32 (by kernel_rfl) hB) ?_
     simp only [nmz, Nat.reduceAdd];refine q0e rfl (fun K hK => ?_)
     refine q2g 25 24 _ (.agg (q0d idB)) (.agg (q0d (List.replicate 32 0))) 32 (by rfl) (by rfl) underlying25 id_zs (by omega) (by omega) hB (fun bZ wk hBk hmk => ?_)
     have hZ : Sl false wk AnyB 32 IdC (.slice (some ⟨bZ, 0, none⟩) 1 1) [idB] := sl_one hBk ⟨rfl, idB_len⟩ 32 hB;replace hT := hT.trans0 hmk;clear hmk hBk;refine hK _ _ hT ?_
     clear hK K;try simp only [nmz, Nat.reduceAdd]
     refine q0j rfl (fun w' hS => q0y 104 [(0, _), (1, _), (2, _)] [(0, .slice (some ⟨bZ, 0, none⟩) 1 1), (1, .int .i64 2), (2, .int .i64 1)] _ (by rfl) (by rfl) (built_swept _ 1 1 2 1)) ?_
     simp only [nmz, Nat.reduceAdd];refine q0e rfl (fun K hK => ?_)
     refine q0l (q0o 54 [.tmp 53, .tmp 56] _ rfl _ func54 rfl (by kernel_rfl) [.agg (q0z bv 2 1), .agg (q0z (.slice (some ⟨bZ, 0, none⟩) 1 1) 2 1)] rfl _) (sameSwept_any (hVd.keep0 hT) hZ 2 1 2 1) ?_
     rintro e wl ⟨rfl, hml⟩;replace hT := hT.trans0 hml;simp only [decide_true, Bool.and_self];clear hml hZ;refine ⟨_, rfl, hK _ _ hT ?_⟩;clear hK K
     refine q1b _ _ _ _ rfl rfl rfl ?_;simp only [nmz, Nat.reduceAdd];refine q0f _ rfl rfl ?_;simp only [nmz, Nat.reduceAdd];refine q0c ?_
     have HF := hid (hm0d.trans0 hT);go_wp2;go_ret;exact ⟨rfl, HF.out⟩
   · intro K hK
     simp only [zz5]
     refine q2g 25 24 _ (.agg (q0d idA)) (.agg (q0d (List.replicate 32 0))) 32 (by rfl) (by rfl) underlying25 id_zs (by omega) (by omega) hA (fun bX wg hBg hmg => ?_)
     have hX : Sl false wg AnyB 32 IdC (.slice (some ⟨bX, 0, none⟩) 1 1) [idA] := sl_one hBg ⟨rfl, idA_len⟩ 32 hA
     try replace htr := repsAt_kc htr (KC.of0 hmg)
     try replace hR := hR.keep0 hmg
     replace hT := hT.trans0 hmg;clear hmg hBg;refine hK _ _ hT ?_;clear hK K;try simp only [nmz, Nat.reduceAdd]
     refine q0u [2] (by kernel_rfl) ?_;simp only [zz3, false_implies, implies_true];intro K hK;simp only [zz5]
     refine q0l (q0o 47 [.tmp 37] _ rfl _ func47 rfl (by kernel_rfl) [.agg #[tv, tr]] rfl _) (swRoots_any htv htr (by rw [htroots]; simp)) ?_
     rintro e wf ⟨hmf, vR, outR, rfl, hgR, hsR, hlR⟩;rw [htroots] at hsR;obtain rfl := roots_A hsR;have hR := slI hgR hlR
     try replace hX := hX.keep0 hmf
     replace hT := hT.trans0 hmf;clear hmf hgR hsR hlR htr;refine ⟨_, rfl, hK _ _ hT ?_⟩;clear hK K;try simp only [nmz, Nat.reduceAdd]
     refine q1g ?_;try simp only [zz4]
     try simp only [nmz, Nat.reduceAdd]
     refine q0e rfl (fun K hK => ?_)
     refine q0l (q0o 24 [.tmp 38, .tmp 40] _ rfl _ func24 rfl (by kernel_rfl) [vR, .slice (some ⟨bX, 0, none⟩) 1 1] rfl _) (q3q _ _ _ _ _ _ _ _ _ hR hX) ?_
     rintro e wh ⟨rfl, hmh⟩;replace hT := hT.trans0 hmh;rw [decide_eq_true rfl];clear hmh hR hX;refine ⟨_, rfl, hK _ _ hT ?_⟩;clear hK K;refine q0b _ rfl rfl ?_
     simp only [nmz, Nat.reduceAdd];refine q0b _ rfl rfl ?_;simp only [nmz, Nat.reduceAdd]
     refine q0j rfl (fun w' hS => q0m 24 _ (by rfl) b1 0 (by rfl) (q0d idA) (hI1d.keep hS id) _ underlying24 rfl 32 (by kernel_rfl) hA) ?_
     simp only [nmz, Nat.reduceAdd];refine q0e rfl (fun K hK => ?_)
     refine q2g 25 24 _ (.agg (q0d idA)) (.agg (q0d (List.replicate 32 0))) 32 (by rfl) (by rfl) underlying25 id_zs (by omega) (by omega) hA (fun bY wi hBi hmi => ?_)
     have hY : Sl false wi AnyB 32 IdC (.slice (some ⟨bY, 0, none⟩) 1 1) [idA] := sl_one hBi ⟨rfl, idA_len⟩ 32 hA;replace hT := hT.trans0 hmi;clear hmi hBi;refine hK _ _ hT ?_
     clear hK K;try simp only [nmz, Nat.reduceAdd]
     refine q0e rfl (fun K hK => ?_)
     refine q0l (q0o 24 [.tmp 43, .tmp 45] _ rfl _ func24 rfl (by kernel_rfl) [vM, .slice (some ⟨bY, 0, none⟩) 1 1] rfl _) (q3q _ _ _ _ _ _ _ _ _ (hMd.keep0 hT) hY) ?_
     rintro e wj ⟨rfl, hmj⟩;replace hT := hT.trans0 hmj;rw [decide_eq_true rfl];clear hmj hY;refine ⟨_, rfl, hK _ _ hT ?_⟩;clear hK K;refine q1b _ _ _ _ rfl rfl rfl ?_
     simp only [nmz, Nat.reduceAdd];refine q0b _ rfl rfl ?_;simp only [nmz, Nat.reduceAdd];refine q0b _ rfl rfl ?_;simp only [nmz, Nat.reduceAdd]
     refine q0q (v := ?_) rfl (fun w' => ?_) ?_; rotate_left; · (go_simp; try with_reducible rfl)
     simp only [nmz, Nat.reduceAdd];refine q1b _ _ _ _ rfl rfl rfl ?_;simp only [nmz, Nat.reduceAdd];refine q0b _ rfl rfl ?_;simp only [nmz, Nat.reduceAdd]
     refine q0j rfl (fun w' hS => q0m 104 _ (by rfl) bo 0 (by rfl) (q0z bv 2 1) (hCd.keep hS id) _ underlying104 rfl 3 (by kernel_rfl) rfl) ?_
     simp only [nmz, Nat.reduceAdd]
     refine q0j rfl (fun w' hS => q0m 24 _ (by rfl) b2 0 (by rfl) (q0d idB) (hI2d.keep hS id) _ underlying24 rfl 32 (by kernel_rfl) hB) ?_
     simp only [nmz, Nat.reduceAdd];refine q0e rfl (fun K hK => ?_)
     refine q2g 25 24 _ (.agg (q0d idB)) (.agg (q0d (List.replicate 32 0))) 32 (by rfl) (by rfl) underlying25 id_zs (by omega) (by omega) hB (fun bZ wk hBk hmk => ?_)
     have hZ : Sl false wk AnyB 32 IdC (.slice (some ⟨bZ, 0, none⟩) 1 1) [idB] := sl_one hBk ⟨rfl, idB_len⟩ 32 hB;replace hT := hT.trans0 hmk;clear hmk hBk;refine hK _ _ hT ?_
     clear hK K;try simp only [nmz, Nat.reduceAdd]
     refine q0j rfl (fun w' hS => q0y 104 [(0, _), (1, _), (2, _)] [(0, .slice (some ⟨bZ, 0, none⟩) 1 1), (1, .int .i64 2), (2, .int .i64 1)] _ (by rfl) (by rfl) (built_swept _ 1 1 2 1)) ?_
     simp only [nmz, Nat.reduceAdd];refine q0e rfl (fun K hK => ?_)
     refine q0l (q0o 54 [.tmp 53, .tmp 56] _ rfl _ func54 rfl (by kernel_rfl) [.agg (q0z bv 2 1), .agg (q0z (.slice (some ⟨bZ, 0, none⟩) 1 1) 2 1)] rfl _) (sameSwept_any (hVd.keep0 hT) hZ 2 1 2 1) ?_
     rintro e wl ⟨rfl, hml⟩;replace hT := hT.trans0 hml;simp only [decide_true, Bool.and_self];clear hml hZ;refine ⟨_, rfl, hK _ _ hT ?_⟩;clear hK K
     refine q1b _ _ _ _ rfl rfl rfl ?_;simp only [nmz, Nat.reduceAdd];refine q0f _ rfl rfl ?_;simp only [nmz, Nat.reduceAdd];refine q0c ?_
     have HF := hid (hm0d.trans0 hT);go_wp2;go_ret;exact ⟨rfl, HF.out⟩
 · intro K hK
   simp only [zz5]
   refine q2g 25 24 _ (.agg (q0d idA)) (.agg (q0d (List.replicate 32 0))) 32 (by rfl) (by rfl) underlying25 id_zs (by omega) (by omega) hA (fun bX wg hBg hmg => ?_)
   have hX : Sl false wg AnyB 32 IdC (.slice (some ⟨bX, 0, none⟩) 1 1) [idA] := sl_one hBg ⟨rfl, idA_len⟩ 32 hA
   try replace htr := repsAt_kc htr (KC.of0 hmg)
   try replace hR := hR.keep0 hmg
   replace hT := hT.trans0 hmg;clear hmg hBg;refine hK _ _ hT ?_;clear hK K;try simp only [nmz, Nat.reduceAdd]
   refine q0u [1] (by kernel_rfl) ?_;simp only [zz3, false_implies, implies_true];intro K hK;simp only [zz5]
   refine q0l (q0o 56 [.tmp 36] _ rfl _ func56 rfl (by kernel_rfl) [.agg (q0d idA)] rfl _) (tagged_any idA idA_len _) ?_
   rintro e we ⟨hme, tv, tr, treps, rfl, htv, htr, htroots⟩
   try replace hX := hX.keep0 hme
   replace hT := hT.trans0 hme;clear hme;refine ⟨_, rfl, hK _ _ hT ?_⟩;clear hK K;try simp only [nmz, Nat.reduceAdd]
   refine q0u [2] (by kernel_rfl) ?_;simp only [zz3, false_implies, implies_true];intro K hK;simp only [zz5]
   refine q0l (q0o 47 [.tmp 37] _ rfl _ func47 rfl (by kernel_rfl) [.agg #[tv, tr]] rfl _) (swRoots_any htv htr (by rw [htroots]; simp)) ?_
   rintro e wf ⟨hmf, vR, outR, rfl, hgR, hsR, hlR⟩;rw [htroots] at hsR;obtain rfl := roots_A hsR;have hR := slI hgR hlR
   try replace hX := hX.keep0 hmf
   replace hT := hT.trans0 hmf;clear hmf hgR hsR hlR htr;refine ⟨_, rfl, hK _ _ hT ?_⟩;clear hK K;try simp only [nmz, Nat.reduceAdd]
   refine q1g ?_;try simp only [zz4]
   try simp only [nmz, Nat.reduceAdd]
   refine q0e rfl (fun K hK => ?_)
   refine q0l (q0o 24 [.tmp 38, .tmp 40] _ rfl _ func24 rfl (by kernel_rfl) [vR, .slice (some ⟨bX, 0, none⟩) 1 1] rfl _) (q3q _ _ _ _ _ _ _ _ _ hR hX) ?_
   rintro e wh ⟨rfl, hmh⟩;replace hT := hT.trans0 hmh;rw [decide_eq_true rfl];clear hmh hR hX;refine ⟨_, rfl, hK _ _ hT ?_⟩;clear hK K;refine q0b _ rfl rfl ?_
   simp only [nmz, Nat.reduceAdd];refine q0b _ rfl rfl ?_;simp only [nmz, Nat.reduceAdd]
   refine q0j rfl (fun w' hS => q0m 24 _ (by rfl) b1 0 (by rfl) (q0d idA) (hI1d.keep hS id) _ underlying24 rfl 32 (by kernel_rfl) hA) ?_
   simp only [nmz, Nat.reduceAdd];refine q0e rfl (fun K hK => ?_)
   refine q2g 25 24 _ (.agg (q0d idA)) (.agg (q0d (List.replicate 32 0))) 32 (by rfl) (by rfl) underlying25 id_zs (by omega) (by omega) hA (fun bY wi hBi hmi => ?_)
   have hY : Sl false wi AnyB 32 IdC (.slice (some ⟨bY, 0, none⟩) 1 1) [idA] := sl_one hBi ⟨rfl, idA_len⟩ 32 hA;replace hT := hT.trans0 hmi;clear hmi hBi;refine hK _ _ hT ?_
   clear hK K;try simp only [nmz, Nat.reduceAdd]
   refine q0e rfl (fun K hK => ?_)
   refine q0l (q0o 24 [.tmp 43, .tmp 45] _ rfl _ func24 rfl (by kernel_rfl) [vM, .slice (some ⟨bY, 0, none⟩) 1 1] rfl _) (q3q _ _ _ _ _ _ _ _ _ (hMd.keep0 hT) hY) ?_
   rintro e wj ⟨rfl, hmj⟩;replace hT := hT.trans0 hmj;rw [decide_eq_true rfl];clear hmj hY;refine ⟨_, rfl, hK _ _ hT ?_⟩;clear hK K;refine q1b _ _ _ _ rfl rfl rfl ?_
   simp only [nmz, Nat.reduceAdd];refine q0b _ rfl rfl ?_;simp only [nmz, Nat.reduceAdd];refine q0b _ rfl rfl ?_;simp only [nmz, Nat.reduceAdd]
   refine q0q (v := ?_) rfl (fun w' => ?_) ?_; rotate_left; · (go_simp; try with_reducible rfl)
   simp only [nmz, Nat.reduceAdd];refine q1b _ _ _ _ rfl rfl rfl ?_;simp only [nmz, Nat.reduceAdd];refine q0b _ rfl rfl ?_;simp only [nmz, Nat.reduceAdd]
   refine q0j rfl (fun w' hS => q0m 104 _ (by rfl) bo 0 (by rfl) (q0z bv 2 1) (hCd.keep hS id) _ underlying104 rfl 3 (by kernel_rfl) rfl) ?_
   simp only [nmz, Nat.reduceAdd]
   refine q0j rfl (fun w' hS => q0m 24 _ (by rfl) b2 0 (by rfl) (q0d idB) (hI2d.keep hS id) _ underlying24 rfl 32 (by kernel_rfl) hB) ?_
   simp only [nmz, Nat.reduceAdd];refine q0e rfl (fun K hK => ?_)
   refine q2g 25 24 _ (.agg (q0d idB)) (.agg (q0d (List.replicate 32 0))) 32 (by rfl) (by rfl) underlying25 id_zs (by omega) (by omega) hB (fun bZ wk hBk hmk => ?_)
   have hZ : Sl false wk AnyB 32 IdC (.slice (some ⟨bZ, 0, none⟩) 1 1) [idB] := sl_one hBk ⟨rfl, idB_len⟩ 32 hB;replace hT := hT.trans0 hmk;clear hmk hBk;refine hK _ _ hT ?_
   clear hK K;try simp only [nmz, Nat.reduceAdd]
   refine q0j rfl (fun w' hS => q0y 104 [(0, _), (1, _), (2, _)] [(0, .slice (some ⟨bZ, 0, none⟩) 1 1), (1, .int .i64 2), (2, .int .i64 1)] _ (by rfl) (by rfl) (built_swept _ 1 1 2 1)) ?_
   simp only [nmz, Nat.reduceAdd];refine q0e rfl (fun K hK => ?_)
   refine q0l (q0o 54 [.tmp 53, .tmp 56] _ rfl _ func54 rfl (by kernel_rfl) [.agg (q0z bv 2 1), .agg (q0z (.slice (some ⟨bZ, 0, none⟩) 1 1) 2 1)] rfl _) (sameSwept_any (hVd.keep0 hT) hZ 2 1 2 1) ?_
   rintro e wl ⟨rfl, hml⟩;replace hT := hT.trans0 hml;simp only [decide_true, Bool.and_self];clear hml hZ;refine ⟨_, rfl, hK _ _ hT ?_⟩;clear hK K
   refine q1b _ _ _ _ rfl rfl rfl ?_;simp only [nmz, Nat.reduceAdd];refine q0f _ rfl rfl ?_;simp only [nmz, Nat.reduceAdd];refine q0c ?_
   have HF := hid (hm0d.trans0 hT);go_wp2;go_ret;exact ⟨rfl, HF.out⟩
end Go.Proofs.YtjeonjoifjbohaaGreat
namespace Go.Proofs.YtjeonjoifjbohaaGreat
open Go.RowKit Go.Shelf Go.Proofs.Tryz Go.Lib
theorem built_swept0 : prog.built 104 [] = some #[.slice none 0 0, .int .i64 0, .int .i64 0] := by kernel_rfl
def noneV : Value := .tuple #[.agg (q0z (.slice none 0 0) 0 0), .int .i64 1]
section
variable {w : World} {h : House} {c : BlobL} {l : LinkL} {Ft : Nat → Prop}
theorem NoStore.keepF {S : Nat → Prop} {w' : World} {v : Value} (hn : NoStore w v) (hm : Mod S w w') (hS : ∀ b, v = .pointer (some ⟨b, 0, none⟩) → ¬ S b) : NoStore w' v := by
 rcases hn with rfl | ⟨b, x, y, z, rfl, hb⟩
 · exact .inl rfl
 · exact .inr ⟨b, x, y, z, rfl, hm.obj (hS b rfl) hb⟩
theorem swSweep_noStore (H : HsAt w h c l Ft) {v : Value} (hn : NoStore w v) (hF : ∀ b, v = .pointer (some ⟨b, 0, none⟩) → ¬ Ft b) (mv : Value) (h1 : mv.oneCell' = true) :
 Calls prog 53 #[v, h.q, mv] w (fun e w' => e = .returned noneV ∧ HStep w h Ft w' c l) := by
 have HH := hid H;clear H;generalize hq : h.q = qv;go_enter func53, ntmps53;go_upto_region 0 with (fail);refine q0a [1, 3] (fun _ => True) (by rfl) (by rfl) trivial ?_
 simp only [zz2];refine q0e rfl (fun K hK => ?_);refine q1c 104 _ (by rfl) sweptZ (fun w1 hB1 hm1 hs1 => ?_)
 replace hB1 : w1.heap[w.heap.size]? = some (.cells #[.slice none 0 0, .int .i64 0, .int .i64 0] 104 (0, 0)) := hB1;refine hK _ _ trivial ?_;clear hK K
 refine q0f _ rfl rfl ?_;simp only [nmz, Nat.reduceAdd];refine q0c ?_;have H1 := HH.out.keep0 hm1;have hlk := H1.none;rw [hq] at hlk;go_upto_region 1 with (fail)
 refine q0a [3, 0, 1, 3, 3, 3, 3, 3] (fun _ => True) (by rfl) (by rfl) trivial ?_;simp only [zz2];refine q0b _ rfl rfl ?_;simp only [nmz, Nat.reduceAdd]
 refine q0j rfl (fun w' hS => q0y 24 [] [] _ (by rfl) (by rfl) built_id0) ?_;simp only [nmz, Nat.reduceAdd];refine q0e rfl (fun K hK => ?_)
 refine q0l (q0o 123 [.tmp 16, .const (.string { data := #[] }), .tmp 17, .const (.int .i64 0)] _ rfl _ func123 rfl (by kernel_rfl) [qv, .string ⟨#[]⟩, .agg (q0d (List.replicate 32 0)), .int .i64 0] rfl _) (hlk) ?_
 rintro e w2 ⟨⟨er, her, rfl⟩, hst2⟩;refine ⟨_, rfl, hK _ _ trivial ?_⟩;clear hK K;refine q0b _ rfl rfl ?_;simp only [nmz, Nat.reduceAdd]
 refine q0q rfl (fun w' => q0s _ 0 #[.bool false, .int .i64 er] rfl rfl (.bool false) rfl) ?_;simp only [nmz, Nat.reduceAdd]
 refine q0q rfl (fun w' => q0s _ 1 #[.bool false, .int .i64 er] rfl rfl (.int .i64 er) rfl) ?_;simp only [nmz, Nat.reduceAdd];refine q0f _ rfl rfl ?_
 simp only [nmz, Nat.reduceAdd];refine q0f _ rfl rfl ?_;simp only [nmz, Nat.reduceAdd];refine q0c ?_;obtain ⟨F2, H2, hmd, hs2⟩ := hst2
 have hobF : ¬ Ft w.heap.size := fun e => by have := HH.out.lt _ e; omega
 have hob2 : ¬ F2 w.heap.size := fun e => (hs2 _ e).elim hobF (fun h => by have := h.1; omega);have hBo2 := hmd.obj hobF hB1
 have hwid := bWidth_no (NoStore.keepF (NoStore.keepF hn hm1 (fun _ _ => id)) hmd hF);have HWID := hid hwid
 have hm02 : Mod Ft w w2 := (hm1.mono (fun _ _ h => h.elim)).trans hmd (fun _ _ h => h)
 have hs02 : ∀ k, F2 k → Ft k ∨ New w w2 k := fun k hk => (hs2 k hk).imp id (fun h => ⟨by have := h.1; have := hm1.size; omega, h.2⟩);clear hlk hwid hn hm1 hmd hs2 hB1 H1
 go_upto_region 3 with (go_at_call 124; refine HWID.out.mono ?_; rintro _ w3 ⟨rfl, hw3⟩; obtain rfl := hw3.symm)
 refine q0a [0, 1, 3] (fun _ => True) (by rfl) (by rfl) trivial ?_;simp only [zz2]
 refine q0j rfl (fun w' hS => q0y 104 [] [] _ (by rfl) (by rfl) built_swept0) ?_;simp only [nmz, Nat.reduceAdd];refine q0e rfl (fun K hK => ?_)
 refine q0r 104 _ _ w.heap.size 0 #[.slice none 0 0, .int .i64 0, .int .i64 0] (by rfl) (by rfl) (by rfl) (by intro c hc; simp at hc; rcases hc with rfl | rfl <;> rfl) 3 (by kernel_rfl) rfl _ _ hBo2 (by simp) (fun w4 hB4 hm4 => ?_)
 rw [q0n (by simp)] at hB4;refine hK _ _ trivial ?_;clear hK K;refine q0f _ rfl rfl ?_;simp only [nmz, Nat.reduceAdd];refine q0c ?_
 have HST : Hid (HStep w h Ft w4 c l) := hid ⟨F2, H2.keep hm4 (fun k hk e => hob2 (by rw [← show k = w.heap.size from e]; exact hk)), hm02.trans hm4 (fun k hk e => by have e : k = w.heap.size := e; omega), fun k hk => (hs02 k hk).imp id (fun h => ⟨h.1, by have := h.2; have := hm4.size; omega⟩)⟩
 clear hm02 hs02 hm4 hBo2 H2 HWID;go_wp2
 refine bodyPost_ret (q2a (P := prog) (ty := 104) rfl _ _ w.heap.size _ _ _ _ (by rfl) hB4 underlying104 rfl (by kernel_rfl)) rfl ?_;exact ⟨rfl, HST.out⟩
theorem swSweep_noLinks (H : HsAt w h c l Ft) {v : Value} (hn : NoLinks w v) (mv : Value) (h1 : mv.oneCell' = true) :
 Calls prog 53 #[.pointer (some ⟨h.bs, 0, Option.none⟩), v, mv] w (fun e w' => e = .returned noneV ∧ HStep w h Ft w' c l) := by
 have HH := hid H
 have hz : ¬ (h.wd : Int) = 0 := by
  obtain ⟨bl, F, k1, _⟩ := H;have := k1.wok;omega
 have hz1 : ((h.wd : Int) == 0) = false := by simpa using hz
 clear H hz;go_enter func53, ntmps53;go_upto_region 0 with (fail);refine q0a [1, 3] (fun _ => True) (by rfl) (by rfl) trivial ?_;simp only [zz2]
 refine q0e rfl (fun K hK => ?_);refine q1c 104 _ (by rfl) sweptZ (fun w1 hB1 hm1 hs1 => ?_)
 replace hB1 : w1.heap[w.heap.size]? = some (.cells #[.slice none 0 0, .int .i64 0, .int .i64 0] 104 (0, 0)) := hB1;refine hK _ _ trivial ?_;clear hK K
 refine q0f _ rfl rfl ?_;simp only [nmz, Nat.reduceAdd];refine q0c ?_;have hlk := link_no (NoLinks.keep0 hn hm1) ⟨#[]⟩ (List.replicate 32 0) 0
 go_upto_region 1 with (fail);refine q0a [3, 0, 1, 3, 3, 3, 3, 3] (fun _ => True) (by rfl) (by rfl) trivial ?_;simp only [zz2];refine q0b _ rfl rfl ?_
 simp only [nmz, Nat.reduceAdd];refine q0j rfl (fun w' hS => q0y 24 [] [] _ (by rfl) (by rfl) built_id0) ?_;simp only [nmz, Nat.reduceAdd]
 refine q0e rfl (fun K hK => ?_)
 refine q0l (q0o 123 [.tmp 16, .const (.string { data := #[] }), .tmp 17, .const (.int .i64 0)] _ rfl _ func123 rfl (by kernel_rfl) [v, .string ⟨#[]⟩, .agg (q0d (List.replicate 32 0)), .int .i64 0] rfl _) (hlk) ?_
 rintro e w2 ⟨rfl, hm2⟩;refine ⟨_, rfl, hK _ _ trivial ?_⟩;clear hK K;refine q0b _ rfl rfl ?_;simp only [nmz, Nat.reduceAdd]
 refine q0q rfl (fun w' => q0s _ 0 #[.bool false, .int .i64 1] rfl rfl (.bool false) rfl) ?_;simp only [nmz, Nat.reduceAdd]
 refine q0q rfl (fun w' => q0s _ 1 #[.bool false, .int .i64 1] rfl rfl (.int .i64 1) rfl) ?_;simp only [nmz, Nat.reduceAdd];refine q0f _ rfl rfl ?_
 simp only [nmz, Nat.reduceAdd];refine q0f _ rfl rfl ?_;simp only [nmz, Nat.reduceAdd];refine q0c ?_;have hm02 := hm1.trans0 hm2;have hBo2 := hm2.obj id hB1
 have HWID := hid (HH.out.keep0 hm02).width;clear hlk hn hm1 hm2 hB1;go_upto_region 3 with (go_at_call 124; refine HWID.out.mono ?_; rintro _ w3 ⟨rfl, hw3⟩; obtain rfl := hw3.symm)
 refine q0a [0, 1, 3] (fun _ => True) (by rfl) (by rfl) trivial ?_;simp only [zz2]
 refine q0j rfl (fun w' hS => q0y 104 [] [] _ (by rfl) (by rfl) built_swept0) ?_;simp only [nmz, Nat.reduceAdd];refine q0e rfl (fun K hK => ?_)
 refine q0r 104 _ _ w.heap.size 0 #[.slice none 0 0, .int .i64 0, .int .i64 0] (by rfl) (by rfl) (by rfl) (by intro c hc; simp at hc; rcases hc with rfl | rfl <;> rfl) 3 (by kernel_rfl) rfl _ _ hBo2 (by simp) (fun w4 hB4 hm4 => ?_)
 rw [q0n (by simp)] at hB4;refine hK _ _ trivial ?_;clear hK K;refine q0f _ rfl rfl ?_;simp only [nmz, Nat.reduceAdd];refine q0c ?_
 have HST : Hid (HStep w h Ft w4 c l) := hid (HStep.of0 HH.out (hm02.transB hm4 (Nat.le_refl _)));clear hm02 hm4 hBo2 HWID;go_wp2
 refine bodyPost_ret (q2a (P := prog) (ty := 104) rfl _ _ w.heap.size _ _ _ _ (by rfl) hB4 underlying104 rfl (by kernel_rfl)) rfl ?_;exact ⟨rfl, HST.out⟩
end
end Go.Proofs.YtjeonjoifjbohaaGreat
namespace Go.Proofs.YtjeonjoifjbohaaGreat
open Go.RowKit Go.Shelf Go.Proofs.Tryz Go.Lib
def longB (L : List (List UInt8)) (n mx : Nat) : Bool := (L.take (n + 1)).any (fun m => decide (mx < m.length)) || decide (n < L.length)
theorem longB_false {L : List (List UInt8)} {n mx : Nat} (h : longB L n mx = false) : L.length ≤ n ∧ ∀ m ∈ L, m.length ≤ mx := by
 unfold longB at h;rw [Bool.or_eq_false_iff, decide_eq_false_iff_not] at h;have hl : L.length ≤ n := by omega
 rw [List.take_of_length_le (by omega)] at h;refine ⟨hl, fun m hm => ?_⟩;have h1 := List.any_eq_false.1 h.1 m hm
 simpa using h1
theorem longB_big {L : List (List UInt8)} {n mx k : Nat} (hk : k < L.length) (hn : k ≤ n) (hb : mx < L[k].length) : longB L n mx = true := by
 unfold longB
 have : (L.take (n + 1)).any (fun m => decide (mx < m.length)) = true := List.any_eq_true.2 ⟨L[k], by rw [List.mem_take_iff_getElem]; exact ⟨k, by omega, rfl⟩, by simpa using hb⟩
 rw [this, Bool.true_or]
theorem longB_many {L : List (List UInt8)} {n mx : Nat} (h : n < L.length) : longB L n mx = true := by
 unfold longB;rw [decide_eq_true h, Bool.or_true]
theorem longB_not {L : List (List UInt8)} {n mx : Nat} (h : L.length ≤ n) (h2 : ∀ m ∈ L, m.length ≤ mx) : longB L n mx = false := by
 unfold longB;rw [List.take_of_length_le (by omega), Bool.or_eq_false_iff, decide_eq_false_iff_not];refine ⟨List.any_eq_false.2 fun m hm => ?_, by omega⟩;have := h2 m hm
 simpa using this
def LngRel (w0 : World) (L : List (List UInt8)) (n mx : Nat) (i : Value) (w : World) : Prop := ∃ k : Nat, k ≤ L.length ∧ k ≤ n + 1 ∧ i = .int .i64 k ∧ Mod NoB w0 w ∧ ∀ m ∈ L.take k, m.length ≤ mx
theorem longLists_any {w : World} {lv : Value} {L : List (List UInt8)} (hl : LsAt w lv L) (n mx : Nat) (hn : n ≤ 1000000) (hsz : mx ≤ 1000000) : Calls prog 77 #[lv, .int .i64 n, .int .i64 mx] w (RetM (.bool (longB L n mx)) w) := by
 obtain ⟨lad, lcap, rfl, hle, -⟩ := Sl.at hl;have HL := hid hl
 have HR0 : Hid (LngRel w L n mx (.int .i64 (0 : Nat)) w) := hid ⟨0, Nat.zero_le _, Nat.zero_le _, rfl, Mod.refl _ _, by simp⟩;clear hl;go_enter func77, ntmps77;go_wp2
 go_loopw [7] (LngRel w L n mx) (fun i _ => L.length + 1 - (intOf i).toNat)
 case atStart => exact HR0.out
 case round =>
  rename World => wr
  obtain ⟨k, hk, hkn, rfl, hmr, hpre⟩ := hrel
  by_cases hlt : k < L.length
  · have hz : (k : Int) < (L.length : Nat) := by omega
    by_cases hkle : k ≤ n
    · have hz2 : (k : Int) ≤ (n : Nat) := by omega
      obtain ⟨_, _, hae, -, hat⟩ := (q4f HL.out hmr).at;injection hae with hae1 hae2 hae3;subst hae1 hae3;obtain ⟨b, off, rfl, -, -, hcc⟩ := hat k hlt
      obtain ⟨cs, -, ⟨vk, rfl, hvk⟩, hcA⟩ := hcc k hlt;have hc := CellsAt.one.1 hcA;have hsn := take_snoc hlt;have hbg : mx < L[k].length → longB L n mx = true := longB_big hlt hkle
      have HBG := hid hbg;clear hbg;generalize L[k] = m at *;obtain ⟨va, vc, rfl, hml, -⟩ := Sl.at hvk;clear hcc hcA hvk hat hae2;go_upto_region 4 with (fail)
      refine q0a [3, 3, 3, 1, 3, 3, 3] (fun _ => True) (by rfl) (by rfl) trivial ?_;simp only [zz2];refine q0b _ rfl rfl ?_;simp only [nmz, Nat.reduceAdd]
      refine q0b _ rfl rfl ?_;simp only [nmz, Nat.reduceAdd];refine q1f _ _ _ _ _ _ _ _ _ rfl rfl rfl rfl underlying22 (n := 1) (by kernel_rfl) hlt ?_
      simp only [nmz, Nat.reduceAdd];refine wpX rfl (q0g 53 _ (by rfl) b (off + k * 1) (by rfl) _ hc _ underlying53 rfl) trivial ?_;try simp only [nmz, Nat.reduceAdd]
      refine q1q _ _ _ _ _ rfl rfl rfl (by kernel_rfl) ?_;simp only [nmz, Nat.reduceAdd];refine q0b _ rfl rfl ?_;simp only [nmz, Nat.reduceAdd]
      refine q0q (v := ?_) rfl (fun w' => ?_) ?_; rotate_left; · (go_simp; try with_reducible rfl)
      simp only [nmz, Nat.reduceAdd];refine q0c ?_
      by_cases hbig : m.length > mx
      · have hz3 : (m.length : Int) > (mx : Nat) := by omega
        have HV := hid (HBG.out hbig);clear hc hsn hpre;go_wp2;go_ret;exact ⟨by rw [HV.out]; rfl, hmr⟩
      · have hz3 : ¬ (m.length : Int) > (mx : Nat) := by omega
        have HR : Hid (LngRel w L n mx (.int .i64 ((k + 1 : Nat) : Int)) wr) := hid ⟨k + 1, by omega, by omega, rfl, hmr, fun x hx => by
         rw [← hsn, List.mem_append, List.mem_singleton] at hx
         rcases hx with hx | rfl
         · exact hpre x hx
         · omega⟩
        clear hc hsn hpre;go_wp2
        go_roundw
        case rel => exact HR.out
        case measure => simp [intOf]; omega
    · have hz2 : ¬ (k : Int) ≤ (n : Nat) := by omega
      have hz4 : (L.length : Int) > (n : Nat) := by omega
      have HV := hid (longB_many (mx := mx) (show n < L.length by omega));clear hpre;go_wp2;go_ret;exact ⟨by rw [HV.out]; rfl, hmr⟩
  · have hz : ¬ (k : Int) < (L.length : Nat) := by omega
    obtain rfl : k = L.length := by omega
    rw [List.take_length] at hpre;have HP := hid hpre;clear hpre
    by_cases hgt : L.length > n
    · have hz4 : (L.length : Int) > (n : Nat) := by omega
      have HV := hid (longB_many (mx := mx) (show n < L.length by omega));go_wp2;go_ret;exact ⟨by rw [HV.out]; rfl, hmr⟩
    · have hz4 : ¬ (L.length : Int) > (n : Nat) := by omega
      have HV := hid (longB_not (mx := mx) (show L.length ≤ n by omega) HP.out);go_wp2;go_ret;exact ⟨by rw [HV.out]; rfl, hmr⟩
end Go.Proofs.YtjeonjoifjbohaaGreat
namespace Go.Proofs.YtjeonjoifjbohaaGreat
open Go.RowKit Go.Shelf Go.Proofs.Tryz Go.Lib
def longH (L : List (List UInt8)) (KK : List Int) : Bool := longB L 30 700 || decide (60 < KK.length)
theorem longH_false {L : List (List UInt8)} {KK : List Int} (h : longH L KK = false) : L.length ≤ 30 ∧ (∀ m ∈ L, m.length ≤ 700) ∧ KK.length ≤ 60 := by
 unfold longH at h;rw [Bool.or_eq_false_iff, decide_eq_false_iff_not] at h;have := longB_false h.1;exact ⟨this.1, this.2, by omega⟩
theorem long27_any {w : World} {wd : Int} {lv kv : Value} {L : List (List UInt8)} {KK : List Int} (hl : LsAt w lv L) (hk : Sl false w AnyB 1 IntC kv KK) : Calls prog 39 #[.agg #[.int .i64 wd, lv, kv]] w (RetM (.bool (longH L KK)) w) := by
 obtain ⟨lad, lcap, rfl, hle, -⟩ := Sl.at hl;obtain ⟨kad, kcap, rfl, hke, -⟩ := Sl.at hk;have HL := hid hl;obtain ⟨res, hres⟩ : ∃ r, longH L KK = r := ⟨_, rfl⟩;rw [hres]
 unfold longH at hres;have HRES := hid hres;clear hl hk hres;go_enter func39, ntmps39;go_upto_region 0 with (fail)
 refine q0a [1, 3] (fun _ => True) (by rfl) (by rfl) trivial ?_;simp only [zz2];refine q0e rfl (fun K hK => ?_)
 refine q2i 68 _ _ (by rfl) (by rfl) (fun w1 hB1 hm1 hs1 => ?_)
 replace hB1 : w1.heap[w.heap.size]? = some (.cells #[.int .i64 wd, .slice lad L.length lcap, .slice kad KK.length kcap] 68 (0, 0)) := hB1;refine hK _ _ trivial ?_;clear hK K
 refine q0f _ rfl rfl ?_;simp only [nmz, Nat.reduceAdd];refine q0c ?_
 have hc1 : w1.cell? ⟨w.heap.size, 0 + 1, none⟩ = some (.slice lad L.length lcap) := by simp [World.cell?, hB1]
 have hc2 : w1.cell? ⟨w.heap.size, 0 + 2, none⟩ = some (.slice kad KK.length kcap) := by simp [World.cell?, hB1]
 have hcall := longLists_any (q4f HL.out hm1) 30 700 (by omega) (by omega);obtain ⟨lb, hlb⟩ : ∃ b, longB L 30 700 = b := ⟨_, rfl⟩;rw [hlb] at HRES hcall;clear hlb
 generalize w.heap.size = hb at *;go_upto_region 1 with (fail)
 cases lb with
 | true =>
  have hr : res = true := by have h := HRES.out; simpa using h.symm
  refine q0a [3, 1, 1, 3, 3, 0, 3, 3, 3, 3] (fun _ => True) (by rfl) (by rfl) trivial ?_;simp only [zz2];refine q0h _ _ _ _ _ _ rfl rfl rfl fo_68_1 ?_
  simp only [nmz, Nat.reduceAdd];refine wpX rfl (q0g 22 _ (by rfl) hb (0 + 1) (by rfl) _ hc1 _ underlying22 rfl) trivial ?_;try simp only [nmz, Nat.reduceAdd]
  refine q0e rfl (fun K hK => ?_)
  refine q0l (q0o 77 [.tmp 4, .const (.int .i64 30), .const (.int .i64 700)] _ rfl _ func77 rfl (by kernel_rfl) [.slice lad L.length lcap, .int .i64 ((30 : Nat) : Int), .int .i64 ((700 : Nat) : Int)] rfl _) (hcall) ?_
  rintro e w2 ⟨rfl, hm2⟩;refine ⟨_, rfl, hK _ _ trivial ?_⟩;clear hK K;refine q0b _ rfl rfl ?_;simp only [nmz, Nat.reduceAdd];refine q1a rfl ?_
  simp only [nmz, Nat.reduceAdd];refine q1r rfl ?_;simp only [nmz, Nat.reduceAdd];refine q1a rfl ?_;simp only [nmz, Nat.reduceAdd];refine q1a rfl ?_
  simp only [nmz, Nat.reduceAdd];refine q1b _ _ _ _ rfl rfl rfl ?_;simp only [nmz, Nat.reduceAdd];refine q0f _ rfl rfl ?_;simp only [nmz, Nat.reduceAdd]
  refine q0c ?_;clear hc1 hc2 hB1;go_wp2;go_ret;exact ⟨by rw [hr]; rfl, hm1.trans0 hm2⟩
 | false =>
  have hr : decide (60 < KK.length) = res := by have h := HRES.out; simpa using h
  refine q0a [3, 1, 1, 3, 3, 1, 3, 3, 3, 3] (fun _ => True) (by rfl) (by rfl) trivial ?_;simp only [zz2];refine q0h _ _ _ _ _ _ rfl rfl rfl fo_68_1 ?_
  simp only [nmz, Nat.reduceAdd];refine wpX rfl (q0g 22 _ (by rfl) hb (0 + 1) (by rfl) _ hc1 _ underlying22 rfl) trivial ?_;try simp only [nmz, Nat.reduceAdd]
  refine q0e rfl (fun K hK => ?_)
  refine q0l (q0o 77 [.tmp 4, .const (.int .i64 30), .const (.int .i64 700)] _ rfl _ func77 rfl (by kernel_rfl) [.slice lad L.length lcap, .int .i64 ((30 : Nat) : Int), .int .i64 ((700 : Nat) : Int)] rfl _) (hcall) ?_
  rintro e w2 ⟨rfl, hm2⟩;have hc2' := hm2.cell id hc2;refine ⟨_, rfl, hK _ _ trivial ?_⟩;clear hK K;refine q0b _ rfl rfl ?_;simp only [nmz, Nat.reduceAdd]
  refine q0h _ _ _ _ _ _ rfl rfl rfl fo_68_2 ?_;simp only [nmz, Nat.reduceAdd]
  refine wpX rfl (q0g 64 _ (by rfl) hb (0 + 2) (by rfl) _ hc2' _ underlying64 rfl) trivial ?_;try simp only [nmz, Nat.reduceAdd]
  refine q1q _ _ _ _ _ rfl rfl rfl (by kernel_rfl) ?_;simp only [nmz, Nat.reduceAdd]
  refine q1e _ _ _ _ _ _ _ _ rfl rfl rfl rfl rfl (decide (60 < KK.length)) (show decide (((KK.length : Nat) : Int) > 60) = decide (60 < KK.length) by rw [decide_eq_decide]; omega) ?_
  simp only [nmz, Nat.reduceAdd];refine q1b _ _ _ _ rfl rfl rfl ?_;simp only [nmz, Nat.reduceAdd];refine q0f _ rfl rfl ?_;simp only [nmz, Nat.reduceAdd]
  refine q0c ?_;clear hc1 hc2 hc2' hB1;rw [hr];go_wp2;go_ret;exact ⟨rfl, hm1.trans0 hm2⟩
end Go.Proofs.YtjeonjoifjbohaaGreat
namespace Go.Proofs.YtjeonjoifjbohaaGreat
open Go.RowKit Go.Shelf Go.Proofs.Tryz Go.Lib
theorem pst_zs : (prog.info? 29).map (fun i => (i.zero, i.size)) = some (some (.pointer none), 1) := by kernel_rfl
theorem plk_zs : (prog.info? 76).map (fun i => (i.zero, i.size)) = some (some (.pointer none), 1) := by kernel_rfl
theorem built_store0 : prog.built 95 [] = some #[.int .i64 0, .int .i64 0, .int .i64 0, .map none] := by kernel_rfl
theorem built_links0 : prog.built 101 [] = some #[.int .i64 0, .map none, .map none, .nilFunc] := by kernel_rfl
theorem hs_comp {w w1 w2 : World} {F F1 F2 : Nat → Prop} (m1 : Mod F w w1) (s1 : ∀ j, F1 j → F j ∨ New w w1 j) (m2 : Mod F1 w1 w2) (s2 : ∀ j, F2 j → F1 j ∨ New w1 w2 j) : Mod F w w2 ∧ ∀ j, F2 j → F j ∨ New w w2 j := by
 refine ⟨m1.trans m2 (fun k hk hf => (s1 k hf).elim id (fun hn => by have := hn.1; omega)), fun k hk => ?_⟩
 rcases s2 k hk with h | h
 · rcases s1 k h with h | h
   · exact .inl h
   · exact .inr ⟨h.1, Nat.lt_of_lt_of_le h.2 m2.size⟩
 · exact .inr ⟨Nat.le_trans m1.size h.1, h.2⟩
theorem hs_none {w w' : World} {F : Nat → Prop} (hm : Mod NoB w w') : Mod F w w' := hm.mono fun _ _ h => h.elim
def NonRel (w0 : World) (h : House) (Ft : Nat → Prop) (c : BlobL) (l : LinkL) (i : Value) (w : World) : Prop := ∃ k : Nat, k ≤ 2 ∧ i = .int .i64 k ∧ HStep w0 h Ft w c l
theorem sweepNone_walk {w : World} {wd : Int} (hwd : I64 wd) {lv kv mv : Value} {L : List (List UInt8)} {KK : List Int} {marks : List (List UInt8)} (hl : LsAt w lv L) (hk : Sl false w AnyB 1 IntC kv KK) (hK2 : ∀ x ∈ KK, I64 x) {G : Nat → Prop} (hv : Sl false w G 32 IdC mv marks) :
 Calls prog 9 #[.agg #[.int .i64 wd, lv, kv], mv] w (RetM (.bool true) w) := by
 have hl1 := Sl.one hl;have hk1 := Sl.one hk;have HL := hid hl;have HKV := hid hk;obtain ⟨mad, mcap, rfl, hmle, -⟩ := Sl.at hv;clear hl hk;go_enter func9, ntmps9
 go_upto_region 0 with (fail);refine q0a [1, 3] (fun _ => True) (by rfl) (by rfl) trivial ?_;simp only [zz2];refine q0e rfl (fun K hK => ?_)
 refine q2i 68 _ _ (by rfl) (by rfl) (fun w1 hB1 hm1 hs1 => ?_);replace hB1 : w1.heap[w.heap.size]? = some (.cells #[.int .i64 wd, lv, kv] 68 (0, 0)) := hB1
 refine hK _ _ trivial ?_;clear hK K;refine q0f _ rfl rfl ?_;simp only [nmz, Nat.reduceAdd];refine q0c ?_
 have hcH : CellsAt w1 w.heap.size 0 #[.int .i64 wd, lv, kv] := CellsAt.whole hB1
 have hlong := fun w' (hm : Mod NoB w w') => long27_any (wd := wd) (q4f HL.out hm) (HKV.out.keep0 hm);obtain ⟨lg, hlg⟩ : ∃ b, longH L KK = b := ⟨_, rfl⟩
 simp only [hlg] at hlong;have HLG := hid hlg;clear hlg;have hawk := fun w' => awake_any w';generalize hhb : w.heap.size = hb at *;go_upto_region 1 with (fail)
 cases lg with
 | true =>
  refine q0a [1, 1, 3, 3, 3, 3, 3] (fun _ => True) (by rfl) (by rfl) trivial ?_;simp only [zz2]
  refine wpX rfl (q0m 68 _ (by rfl) hb 0 (by rfl) #[.int .i64 wd, lv, kv] hcH _ underlying68 rfl 3 (by kernel_rfl) rfl) trivial ?_;try simp only [nmz, Nat.reduceAdd]
  refine q0e rfl (fun K hK => ?_);refine q0l (q0o 39 [.tmp 15] _ rfl _ func39 rfl (by kernel_rfl) [.agg #[.int .i64 wd, lv, kv]] rfl _) (hlong _ hm1) ?_
  rintro e w2 ⟨rfl, hm2⟩;refine ⟨_, rfl, hK _ _ trivial ?_⟩;clear hK K;refine q0b _ rfl rfl ?_;simp only [nmz, Nat.reduceAdd];refine q1a rfl ?_
  simp only [nmz, Nat.reduceAdd];refine q1a rfl ?_;simp only [nmz, Nat.reduceAdd];refine q1a rfl ?_;simp only [nmz, Nat.reduceAdd]
  refine q1b _ _ _ _ rfl rfl rfl ?_;simp only [nmz, Nat.reduceAdd];refine q0c ?_;go_wp2_with (go_at_call 42; refine (hawk _).mono ?_; rintro _ w3 ⟨rfl, hm3⟩);go_ret
  exact ⟨rfl, (hm1.trans0 hm2).trans0 hm3⟩
 | false =>
  obtain ⟨hL30, hL700, hK60⟩ := longH_false HLG.out
  by_cases hmk : marks.length > 60
  · have hz : (marks.length : Int) > 60 := by omega
    refine q0a [1, 1, 3, 3, 3, 3, 3] (fun _ => True) (by rfl) (by rfl) trivial ?_;simp only [zz2]
    refine wpX rfl (q0m 68 _ (by rfl) hb 0 (by rfl) #[.int .i64 wd, lv, kv] hcH _ underlying68 rfl 3 (by kernel_rfl) rfl) trivial ?_;try simp only [nmz, Nat.reduceAdd]
    refine q0e rfl (fun K hK => ?_);refine q0l (q0o 39 [.tmp 15] _ rfl _ func39 rfl (by kernel_rfl) [.agg #[.int .i64 wd, lv, kv]] rfl _) (hlong _ hm1) ?_
    rintro e w2 ⟨rfl, hm2⟩;refine ⟨_, rfl, hK _ _ trivial ?_⟩;clear hK K;refine q0b _ rfl rfl ?_;simp only [nmz, Nat.reduceAdd];refine q0b _ rfl rfl ?_
    simp only [nmz, Nat.reduceAdd];refine q1q _ _ _ _ _ rfl rfl rfl (by kernel_rfl) ?_;simp only [nmz, Nat.reduceAdd]
    refine q1e _ _ _ _ _ _ _ _ rfl rfl rfl rfl rfl true (decide_eq_true hz) ?_;simp only [nmz, Nat.reduceAdd];refine q1b _ _ _ _ rfl rfl rfl ?_
    simp only [nmz, Nat.reduceAdd];refine q0c ?_;go_wp2_with (go_at_call 42; refine (hawk _).mono ?_; rintro _ w3 ⟨rfl, hm3⟩);go_ret;exact ⟨rfl, (hm1.trans0 hm2).trans0 hm3⟩
  · have hz : ¬ (marks.length : Int) > 60 := by omega
    refine q0a [1, 1, 3, 3, 3, 3, 3] (fun _ => True) (by rfl) (by rfl) trivial ?_;simp only [zz2]
    refine wpX rfl (q0m 68 _ (by rfl) hb 0 (by rfl) #[.int .i64 wd, lv, kv] hcH _ underlying68 rfl 3 (by kernel_rfl) rfl) trivial ?_;try simp only [nmz, Nat.reduceAdd]
    refine q0e rfl (fun K hK => ?_);refine q0l (q0o 39 [.tmp 15] _ rfl _ func39 rfl (by kernel_rfl) [.agg #[.int .i64 wd, lv, kv]] rfl _) (hlong _ hm1) ?_
    rintro e w2 ⟨rfl, hm2⟩;refine ⟨_, rfl, hK _ _ trivial ?_⟩;clear hK K;refine q0b _ rfl rfl ?_;simp only [nmz, Nat.reduceAdd];refine q0b _ rfl rfl ?_
    simp only [nmz, Nat.reduceAdd];refine q1q _ _ _ _ _ rfl rfl rfl (by kernel_rfl) ?_;simp only [nmz, Nat.reduceAdd]
    refine q1e _ _ _ _ _ _ _ _ rfl rfl rfl rfl rfl false (decide_eq_false hz) ?_;simp only [nmz, Nat.reduceAdd];refine q1b _ _ _ _ rfl rfl rfl ?_
    simp only [nmz, Nat.reduceAdd];refine q0c ?_;have hm02 := hm1.trans0 hm2;have s02 := hm02.size;rw [hhb] at s02
    have hbl := built_any hwd (q4f HL.out hm02) (HKV.out.keep0 hm02) (by omega) (fun b hb => Nat.le_trans (hL700 b hb) (by omega)) (by omega) hK2;have hcH2 := hcH.keep hm2 id
    go_upto_region 3 with (fail);refine q0a [1, 1, 3, 3, 3, 3, 3] (fun _ => True) (by rfl) (by rfl) trivial ?_;simp only [zz2]
    refine wpX rfl (q0m 68 _ (by rfl) hb 0 (by rfl) #[.int .i64 wd, lv, kv] hcH2 _ underlying68 rfl 3 (by kernel_rfl) rfl) trivial ?_;try simp only [nmz, Nat.reduceAdd]
    refine q0e rfl (fun K hK => ?_);refine q0l (q0o 43 [.tmp 24] _ rfl _ func43 rfl (by kernel_rfl) [.agg #[.int .i64 wd, lv, kv]] rfl _) (hbl) ?_
    rintro e w3 ⟨h, hhw, hhr, hhl, ⟨qb, hhq⟩, he3, Ft, hat, hFn, hm3⟩;subst he3;rw [hhq];refine ⟨_, rfl, hK _ _ trivial ?_⟩;clear hK K;refine q0b _ rfl rfl ?_
    simp only [nmz, Nat.reduceAdd]
    refine q0q rfl (fun w' => q0s _ 0 #[.pointer (some ⟨h.bs, 0, none⟩), .pointer (some ⟨qb, 0, none⟩)] rfl rfl (.pointer (some ⟨h.bs, 0, none⟩)) rfl) ?_
    simp only [nmz, Nat.reduceAdd]
    refine q0q rfl (fun w' => q0s _ 1 #[.pointer (some ⟨h.bs, 0, none⟩), .pointer (some ⟨qb, 0, none⟩)] rfl rfl (.pointer (some ⟨qb, 0, none⟩)) rfl) ?_
    simp only [nmz, Nat.reduceAdd];refine q0f _ rfl rfl ?_;simp only [nmz, Nat.reduceAdd];refine q0f _ rfl rfl ?_;simp only [nmz, Nat.reduceAdd];refine q0c ?_
    go_upto_region 6 with (fail);have hm03 := hm02.trans0 hm3;have hlt3 := hat.lt;refine q0a [0, 1, 1, 0, 1, 1, 3, 3] (fun _ => True) (by rfl) (by rfl) trivial ?_
    simp only [zz2];refine q0j rfl (fun w' hS => q0y 95 [] [] _ (by rfl) (by rfl) built_store0) ?_;simp only [nmz, Nat.reduceAdd];refine q0e rfl (fun K hK => ?_)
    refine q2i 95 _ _ (by rfl) (by rfl) (fun w4 hB4 hm4 hs4 => ?_)
    replace hB4 : w4.heap[w3.heap.size]? = some (.cells #[.int .i64 0, .int .i64 0, .int .i64 0, .map none] 95 (0, 0)) := hB4;refine hK _ _ trivial ?_;clear hK K
    try simp only [nmz, Nat.reduceAdd]
    refine q0e rfl (fun K hK => ?_)
    refine q2t 96 29 2 [(0, _), (1, _)] [.pointer none, .pointer (some ⟨w3.heap.size, 0, none⟩)] (.pointer none) 1 (by rfl) (by rfl) (by rfl) underlying96 pst_zs (by omega) (by omega) (by simp [Value.cells]) (fun w5 hB5 hm5 hs5 => ?_)
    replace hB5 : w5.heap[w4.heap.size]? = some (.cells #[.pointer none, .pointer (some ⟨w3.heap.size, 0, none⟩)] 29 (0, 0)) := hB5;refine hK _ _ trivial ?_;clear hK K
    try simp only [nmz, Nat.reduceAdd]
    refine q0j rfl (fun w' hS => q0y 101 [] [] _ (by rfl) (by rfl) built_links0) ?_;simp only [nmz, Nat.reduceAdd];refine q0e rfl (fun K hK => ?_)
    refine q2i 101 _ _ (by rfl) (by rfl) (fun w6 hB6 hm6 hs6 => ?_)
    replace hB6 : w6.heap[w5.heap.size]? = some (.cells #[.int .i64 0, .map none, .map none, .nilFunc] 101 (0, 0)) := hB6;refine hK _ _ trivial ?_;clear hK K
    try simp only [nmz, Nat.reduceAdd]
    refine q0e rfl (fun K hK => ?_)
    refine q2t 102 76 2 [(0, _), (1, _)] [.pointer none, .pointer (some ⟨w5.heap.size, 0, none⟩)] (.pointer none) 1 (by rfl) (by rfl) (by rfl) underlying102 plk_zs (by omega) (by omega) (by simp [Value.cells]) (fun w7 hB7 hm7 hs7 => ?_)
    replace hB7 : w7.heap[w6.heap.size]? = some (.cells #[.pointer none, .pointer (some ⟨w5.heap.size, 0, none⟩)] 76 (0, 0)) := hB7;refine hK _ _ trivial ?_;clear hK K
    refine q0f _ rfl rfl ?_;simp only [nmz, Nat.reduceAdd];refine q0f _ rfl rfl ?_;simp only [nmz, Nat.reduceAdd];refine q0c ?_
    have hm37 := (hm4.trans0 hm5).trans0 (hm6.trans0 hm7);have hat7 := hat.keep0 hm37;have hids := hat7.ids;have HIDS := hid hids
    have hX4 := (hm5.trans0 (hm6.trans0 hm7)).obj id hB4;have hX5 := (hm6.trans0 hm7).obj id hB5;have hX6 := hm7.obj id hB6;clear hids hB4 hB5 hB6;go_upto_region 7 with (fail)
    refine q0a [3, 1, 3] (fun _ => True) (by rfl) (by rfl) trivial ?_;simp only [zz2];refine q0b _ rfl rfl ?_;simp only [nmz, Nat.reduceAdd]
    refine q0e rfl (fun K hK => ?_);refine q0l (q0o 38 [.tmp 40] _ rfl _ func38 rfl (by kernel_rfl) [.pointer (some ⟨h.bs, 0, none⟩)] rfl _) (HIDS.out) ?_
    rintro e w8 ⟨hm8, v9, ids, he8, hg8, hidc⟩;subst he8;refine ⟨_, rfl, hK _ _ trivial ?_⟩;clear hK K;refine q0f _ rfl rfl ?_;simp only [nmz, Nat.reduceAdd]
    refine q0c ?_;have hatS := hat7.keep0 hm8;have hY4 := hm8.obj id hX4;have hY5 := hm8.obj id hX5;have hY6 := hm8.obj id hX6;have hY7 := hm8.obj id hB7
    have hid32 : ∀ x ∈ ids, x.length = 32 := fun x hx => by
     obtain ⟨p, hp, rfl⟩ := List.mem_map.1 ((hidc.2.mem_iff).1 hx);exact (hat7.small.1 p hp).1
    have hvS := slI hg8 hid32;have s4 := hm4.size;have s5 := hm5.size;have s6 := hm6.size;have s7 := hm7.size;have s37 := hm37.size;have s8 := hm8.size
    have hmvS : Mod NoB w w8 := (hm03.trans0 hm37).trans0 hm8;have l7 : w6.heap.size < w7.heap.size := hs7;have HIDC := hid hidc
    have HR0 : Hid (NonRel w8 h Ft (cOf (widZ wd) L) (lOf (widZ wd) L KK (laysN L KK)) (.int .i64 (0 : Nat)) w8) := hid ⟨0, by omega, rfl, HStep.of0 hatS (Mod.refl _ _)⟩
    generalize cOf (widZ wd) L = cc at *;generalize lOf (widZ wd) L KK (laysN L KK) = ll at *
    clear hatS hat7 hat hm37 hm8 hX4 hX5 hX6 hB7 HIDS hidc hg8 hbl hm3 hm03 hm1 hm2 hm02 hlong hcH hcH2 hB1;go_wp2
    go_loopw [10] (NonRel w8 h Ft cc ll) (fun i _ => 2 - (intOf i).toNat)
    case atStart => exact HR0.out
    case round =>
     rename World => wr
     obtain ⟨k, hk, rfl, Fk, hatk, hmk, hsk⟩ := hrel;have hnF : ∀ j, w3.heap.size ≤ j → ¬ Ft j := fun j hj e => by have := hlt3 j e; omega
     have hnK : ∀ j, w3.heap.size ≤ j → j < w8.heap.size → ¬ Fk j := fun j h1 h2 e => (hsk j e).elim (hnF j h1) (fun h => by have := h.1; omega)
     by_cases hlt : k < 2
     · have hz : (k : Int) < 2 := by omega
       have keepk : ∀ j o, w3.heap.size ≤ j → w8.heap[j]? = some o → wr.heap[j]? = some o := fun j o hj ho => hmk.obj (hnF j hj) ho
       obtain ⟨sv, hcs, hns, hsF⟩ : ∃ sv, wr.cell? ⟨w4.heap.size, k * 1, none⟩ = some sv ∧ NoStore wr sv ∧ ∀ b, sv = .pointer (some ⟨b, 0, none⟩) → ¬ Fk b := by
        have h5 := keepk _ _ (by omega) hY5;have h4 := keepk _ _ (Nat.le_refl _) hY4
        rcases (show k = 0 ∨ k = 1 by omega) with rfl | rfl
        · exact ⟨.pointer none, by simp [World.cell?, h5], .inl rfl, fun b e => by cases e⟩
        · refine ⟨.pointer (some ⟨w3.heap.size, 0, none⟩), by simp [World.cell?, h5], .inr ⟨_, _, _, _, rfl, h4⟩, fun b e => ?_⟩
          cases e
          exact hnK _ (Nat.le_refl _) (by omega)
       have hsw1 := swSweep_noStore hatk hns hsF (.slice mad marks.length mcap) rfl;rw [hhq] at hsw1;clear hns hsF;go_upto_region 11 with (fail)
       refine q0a [3, 3, 3, 1, 3, 3, 1, 3, 3, 3, 1, 1, 3] (fun _ => True) (by rfl) (by rfl) trivial ?_;simp only [zz2];refine q0b _ rfl rfl ?_
       simp only [nmz, Nat.reduceAdd];refine q0b _ rfl rfl ?_;simp only [nmz, Nat.reduceAdd]
       refine q1f _ _ _ _ _ _ _ _ _ rfl rfl rfl rfl underlying96 (n := 1) (by kernel_rfl) hlt ?_;simp only [nmz, Nat.reduceAdd]
       refine wpX rfl (q0g 29 _ (by rfl) w4.heap.size (k * 1) (by rfl) _ hcs _ underlying29 rfl) trivial ?_;refine q0b _ rfl rfl ?_;simp only [nmz, Nat.reduceAdd]
       refine q0b _ rfl rfl ?_;simp only [nmz, Nat.reduceAdd];refine q0e rfl (fun K hK => ?_)
       refine q0l (q0o 53 [.tmp 50, .tmp 51, .tmp 52] _ rfl _ func53 rfl (by kernel_rfl) [sv, .pointer (some ⟨qb, 0, none⟩), .slice mad marks.length mcap] rfl _) (hsw1) ?_
       rintro e wa ⟨rfl, Fa, hata, hma, hsa⟩;refine ⟨_, rfl, hK _ _ trivial ?_⟩;clear hK K;refine q0b _ rfl rfl ?_;simp only [nmz, Nat.reduceAdd]
       refine q0q rfl (fun w' => q0s _ 0 #[.agg (q0z (.slice none 0 0) 0 0), .int .i64 1] rfl rfl (.agg (q0z (.slice none 0 0) 0 0)) rfl) ?_
       simp only [nmz, Nat.reduceAdd];refine q0q rfl (fun w' => q0s _ 1 #[.agg (q0z (.slice none 0 0) 0 0), .int .i64 1] rfl rfl (.int .i64 1) rfl) ?_
       simp only [nmz, Nat.reduceAdd];refine q0e rfl (fun K hK => ?_);refine q1c 104 _ (by rfl) sweptZ (fun wb hBb hmb hsb => ?_)
       replace hBb : wb.heap[wa.heap.size]? = some (.cells #[.slice none 0 0, .int .i64 0, .int .i64 0] 104 (0, 0)) := hBb;refine hK _ _ trivial ?_;clear hK K
       try simp only [nmz, Nat.reduceAdd]
       refine q0e rfl (fun K hK => ?_)
       refine q0r 104 _ _ wa.heap.size 0 (q0z (.slice none 0 0) 0 0) (by rfl) (by rfl) (by rfl) (by intro c hc; simp [q0z] at hc; rcases hc with rfl | rfl <;> rfl) 3 (by kernel_rfl) rfl _ _ hBb (by simp [q0z]) (fun wc hBc hmc => ?_)
       rw [q0n (by simp [q0z])] at hBc;refine hK _ _ trivial ?_;clear hK K;refine q0f _ rfl rfl ?_;simp only [nmz, Nat.reduceAdd];refine q0c ?_
       have hmac : Mod NoB wa wc := hmb.transB hmc (Nat.le_refl _);have hatc := hata.keep0 hmac
       have hnA : ∀ j, w3.heap.size ≤ j → j < w8.heap.size → ¬ Fa j := fun j h1 h2 e => (hsa j e).elim (hnK j h1 h2) (fun h => by have := h.1; have := hmk.size; omega)
       have keepc : ∀ j o, w3.heap.size ≤ j → j < w8.heap.size → wr.heap[j]? = some o → wc.heap[j]? = some o := fun j o h1 h2 ho => hmac.obj id (hma.obj (hnK j h1 h2) ho)
       obtain ⟨lvv, hcl, hnl⟩ : ∃ lvv, wc.cell? ⟨w6.heap.size, k * 1, none⟩ = some lvv ∧ NoLinks wc lvv := by
        have h7 := keepc _ _ (by omega) (by omega) (keepk _ _ (by omega) hY7);have h6 := keepc _ _ (by omega) (by omega) (keepk _ _ (by omega) hY6)
        rcases (show k = 0 ∨ k = 1 by omega) with rfl | rfl
        · exact ⟨.pointer none, by simp [World.cell?, h7], .inl rfl⟩
        · exact ⟨.pointer (some ⟨w5.heap.size, 0, none⟩), by simp [World.cell?, h7], .inr ⟨_, _, _, _, rfl, h6⟩⟩
       have hsw2 := swSweep_noLinks hatc hnl (.slice mad marks.length mcap) rfl;have hob1 : wa.heap.size < wc.heap.size := (Array.getElem?_eq_some_iff.1 hBc).1;have hltA := hata.lt
       generalize hbo1 : wa.heap.size = ob1 at *;go_upto_region 12 with (fail)
       refine q0a [3, 3, 3, 3, 1, 3, 1, 3, 3, 3, 1, 1, 3] (fun _ => True) (by rfl) (by rfl) trivial ?_;simp only [zz2];refine q0b _ rfl rfl ?_
       simp only [nmz, Nat.reduceAdd];refine q0b _ rfl rfl ?_;simp only [nmz, Nat.reduceAdd];refine q0b _ rfl rfl ?_;simp only [nmz, Nat.reduceAdd]
       refine q1f _ _ _ _ _ _ _ _ _ rfl rfl rfl rfl underlying102 (n := 1) (by kernel_rfl) hlt ?_;simp only [nmz, Nat.reduceAdd]
       refine wpX rfl (q0g 76 _ (by rfl) w6.heap.size (k * 1) (by rfl) _ hcl _ underlying76 rfl) trivial ?_;refine q0b _ rfl rfl ?_;simp only [nmz, Nat.reduceAdd]
       refine q0e rfl (fun K hK => ?_)
       refine q0l (q0o 53 [.tmp 57, .tmp 61, .tmp 62] _ rfl _ func53 rfl (by kernel_rfl) [.pointer (some ⟨h.bs, 0, none⟩), lvv, .slice mad marks.length mcap] rfl _) (hsw2) ?_
       rintro e wd2 ⟨rfl, Fd, hatd, hmd, hsd⟩;refine ⟨_, rfl, hK _ _ trivial ?_⟩;clear hK K;refine q0b _ rfl rfl ?_;simp only [nmz, Nat.reduceAdd]
       refine q0q rfl (fun w' => q0s _ 0 #[.agg (q0z (.slice none 0 0) 0 0), .int .i64 1] rfl rfl (.agg (q0z (.slice none 0 0) 0 0)) rfl) ?_
       simp only [nmz, Nat.reduceAdd];refine q0q rfl (fun w' => q0s _ 1 #[.agg (q0z (.slice none 0 0) 0 0), .int .i64 1] rfl rfl (.int .i64 1) rfl) ?_
       simp only [nmz, Nat.reduceAdd];refine q0e rfl (fun K hK => ?_);refine q1c 104 _ (by rfl) sweptZ (fun we hBe hme hse => ?_)
       replace hBe : we.heap[wd2.heap.size]? = some (.cells #[.slice none 0 0, .int .i64 0, .int .i64 0] 104 (0, 0)) := hBe;refine hK _ _ trivial ?_;clear hK K
       try simp only [nmz, Nat.reduceAdd]
       refine q0e rfl (fun K hK => ?_)
       refine q0r 104 _ _ wd2.heap.size 0 (q0z (.slice none 0 0) 0 0) (by rfl) (by rfl) (by rfl) (by intro c hc; simp [q0z] at hc; rcases hc with rfl | rfl <;> rfl) 3 (by kernel_rfl) rfl _ _ hBe (by simp [q0z]) (fun wf hBf hmf => ?_)
       rw [q0n (by simp [q0z])] at hBf;refine hK _ _ trivial ?_;clear hK K;refine q0f _ rfl rfl ?_;simp only [nmz, Nat.reduceAdd];refine q0c ?_
       have hmdf : Mod NoB wd2 wf := hme.transB hmf (Nat.le_refl _);have hAo : ¬ Fa ob1 := fun e => by have := hltA _ e; omega
       have hBc' := hmdf.obj id (hmd.obj hAo hBc);have hn0 := sameSwept_any (w := wf) (Sl.nil false wf AnyB 32 IdC) (Sl.nil false wf AnyB 32 IdC) 0 0 0 0
       have hn1 := fun w' => sameSwept_any (w := w') (Sl.nil false w' AnyB 32 IdC) (Sl.nil false w' AnyB 32 IdC) 0 0 0 0;clear hn0
       have hst : HStep w8 h Ft wf cc ll := by
        have c1 := hs_comp hmk hsk hma hsa;have c2 := hs_comp c1.1 c1.2 (hs_none hmac) (fun j h => .inl h);have c3 := hs_comp c2.1 c2.2 hmd hsd
        have c4 := hs_comp c3.1 c3.2 (hs_none hmdf) (fun j h => .inl h);exact ⟨Fd, hatd.keep0 hmdf, c4.1, c4.2⟩
       have HST := hid hst;have hcA1 : CellsAt wf ob1 0 (q0z (.slice none 0 0) 0 0) := CellsAt.whole hBc'
       have hcA2 : CellsAt wf wd2.heap.size 0 (q0z (.slice none 0 0) 0 0) := CellsAt.whole hBf
       clear hst hmk hsk hma hsa hmac hmd hsd hmdf hBc hBb hBe hBf hBc' hme hmf hatd hata hatc hatk hsw1 hsw2 hcs hcl hnl keepk keepc;go_upto_region 13 with (fail)
       refine q0a [3, 3, 3, 3, 3, 3, 3, 1, 0, 1, 3, 3, 3, 1, 0, 1, 3, 3] (fun _ => True) (by rfl) (by rfl) trivial ?_;simp only [zz2];refine q0b _ rfl rfl ?_
       simp only [nmz, Nat.reduceAdd];refine q1e _ _ _ _ _ _ _ _ rfl rfl rfl rfl rfl false rfl ?_;simp only [nmz, Nat.reduceAdd];refine q0b _ rfl rfl ?_
       simp only [nmz, Nat.reduceAdd];refine q0b _ rfl rfl ?_;simp only [nmz, Nat.reduceAdd];refine q1e _ _ _ _ _ _ _ _ rfl rfl rfl rfl rfl false rfl ?_
       simp only [nmz, Nat.reduceAdd];refine q1b _ _ _ _ rfl rfl rfl ?_;simp only [nmz, Nat.reduceAdd];refine q0b _ rfl rfl ?_;simp only [nmz, Nat.reduceAdd]
       refine wpX rfl (q0m 104 _ (by rfl) ob1 0 (by rfl) (q0z (.slice none 0 0) 0 0) hcA1 _ underlying104 rfl 3 (by kernel_rfl) rfl) trivial ?_
       try simp only [nmz, Nat.reduceAdd]
       refine q0j rfl (fun w' hS => q0y 104 [] [] _ (by rfl) (by rfl) built_swept0) ?_;simp only [nmz, Nat.reduceAdd];refine q0e rfl (fun K hK => ?_)
       refine q0l (q0o 54 [.tmp 73, .tmp 74] _ rfl _ func54 rfl (by kernel_rfl) [.agg (q0z (.slice none 0 0) 0 0), .agg (q0z (.slice none 0 0) 0 0)] rfl _) (hn1 _) ?_
       rintro e wg ⟨rfl, hmg⟩;have hcA2' := hcA2.keep hmg id;refine ⟨_, rfl, hK _ _ trivial ?_⟩;clear hK K;try simp only [nmz, Nat.reduceAdd]
       refine q2h _ _ _ rfl rfl rfl ?_;simp only [nmz, Nat.reduceAdd];refine q1b _ _ _ _ rfl rfl rfl ?_;simp only [nmz, Nat.reduceAdd];refine q0b _ rfl rfl ?_
       simp only [nmz, Nat.reduceAdd]
       refine wpX rfl (q0m 104 _ (by rfl) wd2.heap.size 0 (by rfl) (q0z (.slice none 0 0) 0 0) hcA2' _ underlying104 rfl 3 (by kernel_rfl) rfl) trivial ?_
       try simp only [nmz, Nat.reduceAdd]
       refine q0j rfl (fun w' hS => q0y 104 [] [] _ (by rfl) (by rfl) built_swept0) ?_;simp only [nmz, Nat.reduceAdd];refine q0e rfl (fun K hK => ?_)
       refine q0l (q0o 54 [.tmp 79, .tmp 80] _ rfl _ func54 rfl (by kernel_rfl) [.agg (q0z (.slice none 0 0) 0 0), .agg (q0z (.slice none 0 0) 0 0)] rfl _) (hn1 _) ?_
       rintro e wi ⟨rfl, hmi⟩
       have HRn : Hid (NonRel w8 h Ft cc ll (.int .i64 ((k + 1 : Nat) : Int)) wi) := hid ⟨k + 1, by omega, rfl, HStep.trans HST.out fun F1 h1 => HStep.of0 h1 (hmg.trans0 hmi)⟩
       refine ⟨_, rfl, hK _ _ trivial ?_⟩;clear hK K;try simp only [nmz, Nat.reduceAdd]
       refine q2h _ _ _ rfl rfl rfl ?_;simp only [nmz, Nat.reduceAdd];refine q1b _ _ _ _ rfl rfl rfl ?_;simp only [nmz, Nat.reduceAdd];refine q0c ?_
       clear hcA1 hcA2 hcA2' hmg hmi;go_wp2
       go_roundw
       case rel => exact HRn.out
       case measure => simp [intOf]; omega
     · have hz : ¬ (k : Int) < 2 := by omega
       have hkids := hatk.ids;have hvr : Sl true wr _ 32 IdC v9 ids := hvS.keep hmk (fun j hj => hnF j (by have := hj.1; omega)) (fun _ _ h => h)
       have hm0r : Mod NoB w wr := hmvS.trans hmk (fun j hj hf => by have := hFn j hf; omega);have hc32 := hatk.small.1;go_upto_region 15 with (fail)
       refine q0a [3, 1, 3, 1, 3, 1, 3, 3] (fun _ => True) (by rfl) (by rfl) trivial ?_;simp only [zz2];refine q0b _ rfl rfl ?_;simp only [nmz, Nat.reduceAdd]
       refine q0e rfl (fun K hK => ?_);refine q0l (q0o 38 [.tmp 84] _ rfl _ func38 rfl (by kernel_rfl) [.pointer (some ⟨h.bs, 0, none⟩)] rfl _) (hkids) ?_
       rintro e wx ⟨hmx, vx, idx, hex, hgx, hidx⟩;subst hex
       have hi32 : ∀ x ∈ idx, x.length = 32 := fun x hx => by
        obtain ⟨p, hp, rfl⟩ := List.mem_map.1 ((hidx.2.mem_iff).1 hx);exact (hc32 p hp).1
       have hsame := q3q _ _ _ _ vx v9 idx ids wx (slI hgx hi32) (hvr.keep0 hmx)
       have heq : idx = ids := sorted_ext hidx.1 HIDC.out.1 (fun x => by rw [hidx.2.mem_iff, HIDC.out.2.mem_iff]);rw [decide_eq_true heq] at hsame;refine ⟨_, rfl, hK _ _ trivial ?_⟩
       clear hK K;refine q0b _ rfl rfl ?_;simp only [nmz, Nat.reduceAdd];refine q0e rfl (fun K hK => ?_)
       refine q0l (q0o 24 [.tmp 85, .tmp 86] _ rfl _ func24 rfl (by kernel_rfl) [vx, v9] rfl _) (hsame) ?_;rintro e wy ⟨rfl, hmy⟩;refine ⟨_, rfl, hK _ _ trivial ?_⟩
       clear hK K;refine q0b _ rfl rfl ?_;simp only [nmz, Nat.reduceAdd];refine q0e rfl (fun K hK => ?_)
       refine q0l (q0o 42 [] _ rfl _ func42 rfl (by kernel_rfl) [] rfl _) (awake_any _) ?_;rintro e wz ⟨rfl, hmz⟩;refine ⟨_, rfl, hK _ _ trivial ?_⟩;clear hK K
       refine q1b _ _ _ _ rfl rfl rfl ?_;simp only [nmz, Nat.reduceAdd];refine q0f _ rfl rfl ?_;simp only [nmz, Nat.reduceAdd];refine q0c ?_
       have HF := hid (((hm0r.trans0 hmx).trans0 hmy).trans0 hmz);clear hmk hsk hatk hkids hvr;go_wp2;go_ret;exact ⟨rfl, HF.out⟩
end Go.Proofs.YtjeonjoifjbohaaGreat
namespace Go.Proofs.YtjeonjoifjbohaaGreat
open Go.ChangeShapes Go.WideShapes Go.ChangeAt Go.RowKit Go.Proofs.Tryz Go.Lib
theorem Mod.kept {w w' : World} (h : Mod NoB w w') (may : MemPlace → Prop) : w.keptBut w' may := by
 refine ⟨h.os, h.output, fun i hi => ?_⟩;have e := h.block i hi id
 cases hw : w.heap[i]? with
 | none => rw [hw] at e; simp [e]
 | some o =>
  rw [hw] at e
  cases o <;> simp [e]
theorem post_of_mod {H : Type} {enc : TypeId × Value → H} {P : Program} {f : Func} {s : ChangeSpec} {apart fresh handsOn : Bool} {W W' : World} {args : Array Value} {v : Value} {ds gs : List (DataW H)} {before pa pv : List MemPlace}
 (hold : DataW.Whole enc P f.params.toList s.vars apart W args.toList ds gs before) (hm : Mod NoB W W')
 (hr : ∀ (b : Nat), DataW.TrodAll enc P W' b (fun _ => false) handsOn f.resultTypes.toList (v.resultList f.resultTypes.size) (s.fn H (ds ++ gs)).results [])
 (ha : DataW.TrodAll enc P W' 0 (fun b => decide (b < W.heap.size)) true f.params.toList args.toList (s.fn H (ds ++ gs)).args pa)
 (hv : DataW.TrodVars enc P W' (fun b => decide (b < W.heap.size)) s.vars (s.fn H (ds ++ gs)).vars pv) : s.post enc P f apart fresh handsOn false W args v W' := by
 unfold ChangeSpec.post;exact ⟨ds, gs, before, [], pa, pv, hold, hr _, ha, hv, hm.kept _, fun h => Bool.noConfusion h⟩
theorem laidOut : laidOutB prog = true := by kernel_rfl
theorem carry {H : Type} {enc : TypeId × Value → H} {t : TypeId} (hr : prog.readableRec t = true) (hrow : t < prog.types.size) {W W' : World} (hm : Mod NoB W W') {v : Value} {d : DataW H} {ps : List MemPlace}
 (h : DataW.Trod enc prog W 0 (fun _ => true) true t v d ps) : DataW.Trod enc prog W' 0 (fun b => decide (b < W.heap.size)) true t v d ps := by
 obtain ⟨n, h⟩ := h;have hlt := DataW.trod_lt n t _ _ h
 refine ⟨n, DataW.trod_stays (kids_book laidOut hr) (book_sized hr) (fun h => by cases h) ⟨hrow, book_self t⟩ h (fun p hp => ?_) (fun p hp => by simpa using hlt p hp)⟩
 have hb := hlt p hp
 cases p with
 | cell b off => exact World.cell?_of_block (w := W) (hm.block b hb id)
 | map b => exact hm.block b hb id
end Go.Proofs.YtjeonjoifjbohaaGreat
namespace Go.Proofs.YtjeonjoifjbohaaGreat
open Go.ChangeShapes Go.WideShapes Go.ChangeAt Go.RowKit Go.Proofs.Tryz Go.Lib
theorem fit_i64 {n : Int} (h : (Lit.int .i64 n).wf = true) : -9223372036854775808 ≤ n ∧ n ≤ 9223372036854775807 := bounds_i64 h
theorem addr_add {w : World} {a : Addr} {v : Value} (i : Nat) (h0 : ∃ u, w.cell? (a.add 0) = some u) (h : w.cell? (a.add i) = some v) : a = ⟨a.block, a.off, none⟩ ∧ w.cell? ⟨a.block, a.off + i, none⟩ = some v := by
 obtain ⟨u, h0⟩ := h0;obtain ⟨b, off, spot⟩ := a
 have hs : spot = none := by
  simp only [Addr.add, if_true] at h0;unfold World.cell? at h0
  cases spot with
  | none => rfl
  | some s => cases hw : w.heap[b]? with
   | none => simp [hw] at h0
   | some o => cases o <;> simp [hw] at h0
 subst hs;refine ⟨rfl, ?_⟩;unfold Addr.add at h
 split at h
 · rename_i hi; subst hi; exact h
 · exact h
theorem list_of_all {α : Type} {n : Nat} {Q : Nat → α → Prop} (h : ∀ i, i < n → ∃ a, Q i a) : ∃ l : List α, l.length = n ∧ ∀ i (hi : i < l.length), Q i l[i] := by
 refine ⟨List.ofFn fun i : Fin n => Classical.choose (h i.1 i.2), by simp, fun i hi => ?_⟩;rw [List.getElem_ofFn];exact Classical.choose_spec (h i (by simpa using hi))
theorem addr_cells {w : World} {a : Addr} {i j : Nat} {u v : Value} (h0 : w.cell? ((a.add 0).add 0) = some u) (h : w.cell? ((a.add i).add j) = some v) : a = ⟨a.block, a.off, none⟩ ∧ w.cell? ⟨a.block, a.off + i + j, none⟩ = some v := by
 have e0 : (a.add 0).add 0 = a.add 0 := by simp [Addr.add]
 have h1 := (addr_add 0 ⟨u, e0 ▸ h0⟩ (e0 ▸ h0)).1;refine ⟨h1, ?_⟩;rw [h1] at h
 have e : ∀ (b o k : Nat), Addr.add ⟨b, o, none⟩ k = ⟨b, o + k, none⟩ := fun b o k => by
  unfold Addr.add
  split
  · rename_i hk; subst hk; rfl
  · rfl
 rwa [e, e] at h
section
variable {H : Type} {enc : TypeId × Value → H} {P : Program} {W : World} {sp : Nat → Bool} {held : Bool}
theorem sl_of_trod {α : Type} {R : Array Value → α → Prop} {t e : TypeId} {sz fuel : Nat} {cs : List Value} {x : DataW H × List MemPlace} (ht : P.underlying t = some (.slice e)) (hsz : P.cellsOf e = sz) (hpos : 0 < sz)
 (hR : ∀ n cs x, DataW.trod enc P W 0 sp held n e cs = some x → ∃ a, R cs.toArray a) (h : DataW.trod enc P W 0 sp held fuel t cs = some x) : ∃ v l, cs = [v] ∧ Sl false W (fun k => k < W.heap.size) sz R v l := by
 rcases DataW.trod_slice ht h with ⟨rfl, _⟩ | ⟨a, len, cap, elems, rest, n, _, rfl, _, _, hlc, hcm, hel, helem, _, _⟩
 · exact ⟨_, [], rfl, Sl.nil _ _ _ _ _⟩
 · subst hsz
   have hall : ∀ i, i < len → ∃ y : α, ∃ cs : List Value, cs.length = P.cellsOf e ∧ R cs.toArray y ∧ ∀ j, j < P.cellsOf e → W.cell? ((a.add (i * P.cellsOf e)).add j) = cs[j]? := by
    intro i hi;have h1 := helem i hi;rw [List.getElem?_eq_getElem (by omega)] at h1;obtain ⟨cs, h2, h3⟩ := Option.bind_eq_some_iff.1 h1;obtain ⟨_, hl, hc⟩ := World.cells?_some h2
    obtain ⟨y, hy⟩ := hR _ _ _ h3;exact ⟨y, cs, hl, hy, hc⟩
   obtain ⟨l, hl, hq⟩ := list_of_all hall;refine ⟨_, l, rfl, some a, cap, by rw [hl], by omega, hcm, fun hne => ?_⟩;have hp : 0 < l.length := List.length_pos_iff.2 hne
   have h0 : ∃ u, W.cell? ((a.add 0).add 0) = some u := by
    obtain ⟨cs, h1, _, h3⟩ := hq 0 hp;have := h3 0 hpos;rw [List.getElem?_eq_getElem (by omega), Nat.zero_mul] at this;exact ⟨_, this⟩
   obtain ⟨u, h0⟩ := h0
   refine ⟨a.block, a.off, by rw [← (addr_cells h0 h0).1], (block_lt_of_cell (a := ⟨a.block, a.off + 0 + 0, none⟩) (addr_cells h0 h0).2), fun h => (by cases h), fun i hi => ?_⟩
   obtain ⟨cs, h1, h2, h3⟩ := hq i hi;refine ⟨cs.toArray, by simpa using h1, h2, fun j hj => ?_⟩;have hj' : j < cs.length := by simpa using hj
   have := h3 j (by omega);rw [List.getElem?_eq_getElem hj'] at this;rw [(addr_cells h0 this).2]
   simp [List.getElem?_eq_getElem hj']
theorem field_of_trod {t : TypeId} {fs : Array Field} {fuel : Nat} {cs : List Value} {x : DataW H × List MemPlace} (ht : P.underlying t = some (.struct fs)) (h : DataW.trod enc P W 0 sp held fuel t cs = some x) :
 cs.length = P.cellsOf t ∧ ∀ (i : Nat) (f : Field), fs[i]? = some f → ∃ n y, DataW.trod enc P W 0 sp held n f.type ((cs.drop f.offset).take (P.cellsOf f.type)) = some y := by
 obtain ⟨xs, n, _, _, hl, hx, hf⟩ := DataW.trod_struct ht h;refine ⟨hl, fun i f hi => ⟨n, ?_⟩⟩
 have hi' : i < xs.length := by
  rcases Nat.lt_or_ge i fs.size with h | h
  · omega
  · rw [Array.getElem?_eq_none h] at hi; cases hi
 have := hf i f hi;rw [List.getElem?_eq_getElem hi'] at this;exact ⟨_, this⟩
theorem drop_step (cs : List Value) (k n : Nat) : cs.drop k = (cs.drop k).take n ++ cs.drop (k + n) := by
 rw [← List.drop_drop, List.take_append_drop]
end
section
variable {H : Type} {enc : TypeId × Value → H} {W : World} {sp : Nat → Bool} {held : Bool} {fuel : Nat} {cs : List Value} {x : DataW H × List MemPlace}
theorem read_u8 (h : DataW.trod enc prog W 0 sp held fuel 5 cs = some x) : ∃ b, cs = [byteV b] := by
 obtain ⟨n, rfl, _, hw⟩ := DataW.trod_int underlying5 h;have := bounds_u8 hw;refine ⟨UInt8.ofNat n.toNat, ?_⟩;unfold byteV
 rw [UInt8.toNat_ofNat_of_lt' (by rw [show UInt8.size = 256 from rfl]; omega), Int.toNat_of_nonneg this.1]
theorem read_id (h : DataW.trod enc prog W 0 sp held fuel 24 cs = some x) : ∃ i : List UInt8, i.length = 32 ∧ cs = i.map byteV := by
 obtain ⟨xs, m, _, _, hl, hx, hf⟩ := DataW.trod_array underlying24 h;have hc : prog.cellsOf 24 = 32 := by kernel_rfl
 have h5 : prog.cellsOf 5 = 1 := by kernel_rfl
 rw [hc] at hl
 have hall : ∀ i, i < 32 → ∃ b, cs[i]? = some (byteV b) := by
  intro i hi;have h1 := hf i hi;rw [List.getElem?_eq_getElem (by omega)] at h1;obtain ⟨b, hb⟩ := read_u8 h1;rw [h5, Nat.mul_one] at hb;refine ⟨b, ?_⟩
  have := congrArg (fun l => l[0]?) hb
  simpa using this
 obtain ⟨l, hl', hq⟩ := list_of_all hall;refine ⟨l, hl', List.ext_getElem (by simp; omega) fun i h1 h2 => ?_⟩;have := hq i (by simpa using h2)
 rw [List.getElem?_eq_getElem h1] at this
 simpa using this
theorem read_ids (h : DataW.trod enc prog W 0 sp held fuel 25 cs = some x) : ∃ v l, cs = [v] ∧ Sl false W (fun k => k < W.heap.size) 32 IdC v l :=
 sl_of_trod underlying25 (by kernel_rfl) (by decide) (fun _ _ _ h => by
  obtain ⟨n, hn, rfl⟩ := read_id h
  exact ⟨n, rfl, hn⟩) h
theorem read_bytes (h : DataW.trod enc prog W 0 sp held fuel 53 cs = some x) : ∃ v l, cs = [v] ∧ Sl false W (fun k => k < W.heap.size) 1 ByteC v l :=
 sl_of_trod underlying53 (by kernel_rfl) (by decide) (fun _ _ _ h => by
  obtain ⟨b, rfl⟩ := read_u8 h
  exact ⟨b, rfl⟩) h
theorem read_lists (h : DataW.trod enc prog W 0 sp held fuel 22 cs = some x) : ∃ v l, cs = [v] ∧ LsAt W v l := by
 obtain ⟨v, l, e, hs⟩ := sl_of_trod (R := BtsC W) (sz := 1) underlying22 (by kernel_rfl) (by decide) (fun _ _ _ h => by
  obtain ⟨v, l, rfl, hs⟩ := read_bytes h
  exact ⟨l, v, rfl, hs.mono (fun _ _ => trivial) (fun _ _ h => h)⟩) h
 exact ⟨v, l, e, hs.mono (fun _ _ => trivial) (fun _ _ h => h)⟩
def IntF (cs : Array Value) (n : Int) : Prop := cs = #[.int .i64 n] ∧ I64 n
theorem read_ints (h : DataW.trod enc prog W 0 sp held fuel 64 cs = some x) : ∃ v l, cs = [v] ∧ Sl false W AnyB 1 IntF v l := by
 obtain ⟨v, l, e, hs⟩ := sl_of_trod (R := IntF) (sz := 1) underlying64 (by kernel_rfl) (by decide) (fun _ _ _ h => by
  obtain ⟨n, rfl, _, hw⟩ := DataW.trod_int underlying3 h
  exact ⟨n, rfl, fit_i64 hw⟩) h
 exact ⟨v, l, e, hs.mono (fun _ _ => trivial) (fun _ _ h => h)⟩
theorem read_house (h : DataW.trod enc prog W 0 sp held fuel 68 cs = some x) : ∃ wd lv kv L KK, cs = [.int .i64 wd, lv, kv] ∧ I64 wd ∧ LsAt W lv L ∧ Sl false W AnyB 1 IntF kv KK := by
 obtain ⟨hl, hf⟩ := field_of_trod underlying68 h;have c3 : prog.cellsOf 3 = 1 := by kernel_rfl
 have c22 : prog.cellsOf 22 = 1 := by kernel_rfl
 have c64 : prog.cellsOf 64 = 1 := by kernel_rfl
 have hc : prog.cellsOf 68 = 3 := by kernel_rfl
 obtain ⟨_, _, h0⟩ : ∃ n y, DataW.trod enc prog W 0 sp held n 3 ((cs.drop 0).take (prog.cellsOf 3)) = some y := hf 0 _ rfl
 obtain ⟨_, _, h1⟩ : ∃ n y, DataW.trod enc prog W 0 sp held n 22 ((cs.drop 1).take (prog.cellsOf 22)) = some y := hf 1 _ rfl
 obtain ⟨_, _, h2⟩ : ∃ n y, DataW.trod enc prog W 0 sp held n 64 ((cs.drop 2).take (prog.cellsOf 64)) = some y := hf 2 _ rfl;obtain ⟨n, e0, _, hw⟩ := DataW.trod_int underlying3 h0
 obtain ⟨lv, L, e1, hs1⟩ := read_lists h1;obtain ⟨kv, KK, e2, hs2⟩ := read_ints h2;rw [hc] at hl;rw [c3] at e0;rw [c22] at e1;rw [c64] at e2
 refine ⟨n, lv, kv, L, KK, ?_, fit_i64 hw, hs1, hs2⟩;have := drop_step cs 0 1
 rw [e0, drop_step cs (0 + 1) 1, e1, drop_step cs (0 + 1 + 1) 1, e2, show 0 + 1 + 1 + 1 = 3 from rfl, List.drop_of_length_le (i := 3) (by omega), List.drop_zero] at this;rw [this]
 rfl
end
structure HsX where
 wd : Int
 lv : Value
 kv : Value
 L : List (List UInt8)
 KK : List Int
def HsIn (W : World) (a : HsX) : Prop := I64 a.wd ∧ LsAt W a.lv a.L ∧ Sl false W AnyB 1 IntF a.kv a.KK
section
variable {H : Type} {enc : TypeId × Value → H} {W W0 : World} {sp : Nat → Bool} {r : Reach} {b0 : Nat} {v : Value} {d : DataW H} {ps : List MemPlace}
theorem open_ids (hval : Value.okWide prog W0 r b0 25 v) (h : DataW.Trod enc prog W 0 sp true 25 v d ps) : ∃ l, Sl false W (fun k => k < W.heap.size) 32 IdC v l := by
 obtain ⟨a0, n0, c0, rfl⟩ := okWide_slice underlying25 hval;obtain ⟨fuel, h⟩ := h;obtain ⟨v, l, hv, hl⟩ := read_ids h
 have : Value.slice a0 n0 c0 = v := by simpa [Value.cells] using hv
 rw [this];exact ⟨l, hl⟩
theorem open_house (hval : Value.okWide prog W0 r b0 68 v) (h : DataW.Trod enc prog W 0 sp true 68 v d ps) : ∃ a : HsX, v = .agg #[.int .i64 a.wd, a.lv, a.kv] ∧ HsIn W a := by
 obtain ⟨cs, rfl, _⟩ := okWide_struct underlying68 hval;obtain ⟨fuel, h⟩ := h;obtain ⟨wd, lv, kv, L, KK, e, h1, h2, h3⟩ := read_house h;refine ⟨⟨wd, lv, kv, L, KK⟩, ?_, h1, h2, h3⟩
 congr 1
 exact Array.toList_inj.1 e
end
end Go.Proofs.YtjeonjoifjbohaaGreat
namespace Go.Proofs.YtjeonjoifjbohaaGreat
open Go.RowKit Go.Proofs.Tryz Go.Lib
theorem sl_mem {α : Type} {own : Bool} {w : World} {G : Nat → Prop} {n : Nat} {R : Array Value → α → Prop} {v : Value} {l : List α} {Q : α → Prop} (h : Sl own w G n R v l) (hQ : ∀ cs x, R cs x → Q x) : ∀ x ∈ l, Q x := by
 intro x hx;obtain ⟨a, cap, _, _, hat⟩ := Sl.at h;obtain ⟨i, hi, rfl⟩ := List.getElem_of_mem hx;obtain ⟨b, off, _, _, _, hc⟩ := hat i hi;obtain ⟨cs, _, h2, _⟩ := hc i hi
 exact hQ _ _ h2
theorem sweepNone_any (W : World) (a : HsX) (v : Value) (l : List (List UInt8)) (ha : HsIn W a) (hv : Sl false W (fun k => k < W.heap.size) 32 IdC v l) : Calls prog 9 #[.agg #[.int .i64 a.wd, a.lv, a.kv], v] W (RetM (.bool true) W) :=
 sweepNone_walk ha.1 ha.2.1 (ha.2.2.mono (fun _ h => h) (fun _ _ h => h.1)) (sl_mem ha.2.2 fun _ _ h => h.2) hv
end Go.Proofs.YtjeonjoifjbohaaGreat
