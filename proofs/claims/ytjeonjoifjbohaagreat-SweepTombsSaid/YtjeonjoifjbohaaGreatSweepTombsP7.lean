/- What the statement SweepTombs needs, part 7. -/
import Derived.Test.YtjeonjoifjbohaaGreatSweepTombsP6
set_option linter.unusedVariables false
set_option linter.unusedSimpArgs false
set_option linter.unnecessarySimpa false
set_option linter.unusedSectionVars false
set_option maxRecDepth 10000
set_option maxHeartbeats 8000000
namespace Go.Proofs.YtjeonjoifjbohaaGreat
section
open Go.RowKit Go.Shelf Go.Proofs.Tryz Go.Lib
theorem fo_68_1 : zB prog 68 1 = some 1 := by kernel_rfl
theorem fo_68_2 : zB prog 68 2 = some 2 := by kernel_rfl
def BtsC (w : World) (cs : Array Value) (b : List UInt8) : Prop := ∃ v, cs = #[v] ∧ Sl false w AnyB 1 ByteC v b
theorem BtsC.keep0 {w w' : World} {cs : Array Value} {b : List UInt8} (h : BtsC w cs b) (hm : Mod NoB w w') : BtsC w' cs b := by
 obtain ⟨v, h1, h2⟩ := h;exact ⟨v, h1, h2.keep0 hm⟩
abbrev LsAt (w : World) (v : Value) (L : List (List UInt8)) : Prop := Sl false w AnyB 1 (BtsC w) v L
theorem lsAt_keep0 {w w' : World} {v : Value} {L : List (List UInt8)} (h : LsAt w v L) (hm : Mod NoB w w') : LsAt w' v L := h.keep hm (fun _ _ => id) (fun _ _ h => h.keep0 hm)
def cOf (wd : Nat) (L : List (List UInt8)) : BlobL := L.foldl (fun c b => putB (ofI wd b) b c) []
theorem cOf_snoc (wd : Nat) (L : List (List UInt8)) (k : Nat) (hk : k < L.length) : cOf wd (L.take (k + 1)) = putB (ofI wd L[k]) L[k] (cOf wd (L.take k)) := by
 unfold cOf;rw [List.take_succ_eq_append_getElem hk, List.foldl_append]
 rfl
theorem cOf_len (wd : Nat) : ∀ (L : List (List UInt8)) (c : BlobL), (L.foldl (fun c b => putB (ofI wd b) b c) c).length ≤ c.length + L.length
 | [], c => by simp
 | b :: L, c => by
  have h1 := cOf_len wd L (putB (ofI wd b) b c);have h2 := putB_len (ofI wd b) b c;simp only [List.foldl_cons, List.length_cons];omega
def layZ (wd : Nat) (L : List (List UInt8)) (l : LinkL) (a b : Int) : LinkL :=
 let m := L.getD (pickZ b L.length).toNat []
 addL false 1099511627776 l (repoZ a, ofI wd m) m.length
def lOf (wd : Nat) (L : List (List UInt8)) (K : List Int) (j : Nat) : LinkL := (List.range j).foldl (fun l i => layZ wd L l (K.getD (2 * i) 0) (K.getD (2 * i + 1) 0)) []
theorem lOf_snoc (wd : Nat) (L : List (List UInt8)) (K : List Int) (j : Nat) : lOf wd L K (j + 1) = layZ wd L (lOf wd L K j) (K.getD (2 * j) 0) (K.getD (2 * j + 1) 0) := by
 unfold lOf;rw [List.range_succ, List.foldl_append]
 rfl
def laysN (L : List (List UInt8)) (K : List Int) : Nat := if L = [] then 0 else K.length / 2
def HsNew (w0 w : World) (h : House) (c : BlobL) (l : LinkL) : Prop := ∃ Ft, HsAt w h c l Ft ∧ (∀ k, Ft k → w0.heap.size ≤ k) ∧ Mod NoB w0 w
theorem HsNew.step {w0 w w' : World} {h : House} {c' : BlobL} {l' : LinkL} {Ft : Nat → Prop} (hn : ∀ k, Ft k → w0.heap.size ≤ k) (hm : Mod NoB w0 w) (hs : HStep w h Ft w' c' l') : HsNew w0 w' h c' l' := by
 obtain ⟨F', h1, h2, h3⟩ := hs;exact ⟨F', h1, fun k hk => (h3 k hk).elim (hn k) (fun h => Nat.le_trans hm.size h.1), hm.trans h2 (fun k hk hf => by have := hn k hf; omega)⟩
def BuildR (w : World) (wd : Nat) (L : List (List UInt8)) (K : List Int) : Ending → World → Prop := fun e w' =>
 ∃ h : House, h.wd = wd ∧ h.room = 67108864 ∧ h.limit = 1099511627776 ∧ (∃ b, h.q = .pointer (some ⟨b, 0, none⟩)) ∧ e = .returned (.tuple #[.pointer (some ⟨h.bs, 0, none⟩), h.q]) ∧ HsNew w w' h (cOf wd L) (lOf wd L K (laysN L K))
def BldRel1 (w0 w1 : World) (h : House) (wd : Nat) (L : List (List UInt8)) (i : Value) (w : World) : Prop := ∃ k : Nat, k ≤ L.length ∧ i = .int .i64 k ∧ HsNew w1 w h (cOf wd (L.take k)) []
def BldRel2 (w0 w1 : World) (h : House) (wd : Nat) (L : List (List UInt8)) (K : List Int) (i : Value) (w : World) : Prop := ∃ j n : Nat, n = 2 * j ∧ j ≤ laysN L K ∧ i = .int .i64 (n : Nat) ∧ HsNew w1 w h (cOf wd L) (lOf wd L K j)
theorem repoZ_size (n : Int) : (repoZ n).size ≤ maxLen := by
 have h : ∀ k : Nat, ([(⟨#[97]⟩ : ByteArray), ⟨#[98, 47, 99]⟩, ⟨#[100]⟩].getD k ⟨#[]⟩).size ≤ 3 := by
  intro k
  rcases k with _ | _ | _ | k <;> simp [ByteArray.size]
 exact Nat.le_trans (h _) (by unfold maxLen; omega)
theorem laysN_lt {L : List (List UInt8)} {K : List Int} {j n : Nat} (hn : n = 2 * j) (hlt : n + 1 < K.length) (hL : 0 < L.length) : j + 1 ≤ laysN L K := by
 unfold laysN;rw [if_neg (fun e => by rw [e] at hL; simp at hL)];omega
theorem sl_lt {α : Type} {own : Bool} {w : World} {G : Nat → Prop} {R : Array Value → α → Prop} {b off n cap : Nat} {l : List α} (h : Sl own w G 1 R (.slice (some ⟨b, off, none⟩) n cap) l) {i : Nat} (hi : i < l.length) : b < w.heap.size := by
 obtain ⟨a, c, e, _, _, h2⟩ := h;injection e with e1 e2 e3;obtain ⟨b', off', e4, _, _, hc⟩ := h2 (fun e => by rw [e] at hi; simp at hi);rw [← e1] at e4;injection e4 with e4
 injection e4 with e5 e6 e7;obtain ⟨cs, hs, _, hcs⟩ := hc i hi;have h0 := hcs 0 (by omega);rw [Array.getElem?_eq_getElem (by omega)] at h0;have := block_lt_of_cell h0;rw [e5]
 exact this
def IdBox (w0 : World) (x : List UInt8) (s : Value) (w : World) : Prop := ∃ b, s = .pointer (some ⟨b, 0, none⟩) ∧ w0.heap.size ≤ b ∧ w.heap[b]? = some (.cells (qC x) 24 (0, 0)) ∧ Mod NoB w0 w
theorem built_any {w : World} {wd : Int} (hwd : I64 wd) {lv kv : Value} {L : List (List UInt8)} {KK : List Int} (hlv : LsAt w lv L) (hkv : Sl false w AnyB 1 IntC kv KK) (hL : L.length ≤ 1000) (hL2 : ∀ b ∈ L, b.length ≤ 4096) (hkl : KK.length ≤ 1000) (hK2 : ∀ x ∈ KK, I64 x) :
 Calls prog 43 #[.agg #[.int .i64 wd, lv, kv]] w (BuildR w (widZ wd) L KK) := by
 have hwz := widZ_ok wd;have hwid := fun w' => width_any wd hwd lv kv (Sl.one hlv) (Sl.one hkv) w';have hl1 := Sl.one hlv;have hk1 := Sl.one hkv
 obtain ⟨lad, lcap, hle, -, -⟩ := Sl.at hlv;obtain ⟨kad, kcap, hke, -, -⟩ := Sl.at hkv;have HLV := hid hlv;have HKV := hid hkv;clear hlv hkv;rw [hle] at HLV hwid hl1
 rw [hke] at HKV hwid hk1;subst hle hke;generalize hwn : widZ wd = wn at *;clear hwn;go_enter func43, ntmps43;go_upto_region 0 with (fail);refine wpR [1, 3, 3] (by rfl) (by rfl) ?_
 simp only [zz2];refine wpDo rfl ?_;refine xF 68 _ _ (by rfl) (by rfl) (fun w1 hB1 hm1 hs1 => ?_)
 replace hB1 : w1.heap[w.heap.size]? = some (.cells #[.int .i64 wd, .slice lad L.length lcap, .slice kad KK.length kcap] 68 (0, 0)) := hB1;refine qD _ rfl rfl ?_
 simp only [nmz];refine qD _ rfl rfl ?_;simp only [nmz];refine qB ?_;have HLV1 := hid (lsAt_keep0 HLV.out hm1);have HKV1 := hid (HKV.out.keep0 hm1)
 have hcH : CellsAt w1 w.heap.size 0 #[.int .i64 wd, .slice lad L.length lcap, .slice kad KK.length kcap] := CellsAt.whole hB1
 have hnew := fun w' => bNew_any (wn : Int) 67108864 (by omega) (by omega) w';go_upto_region 1 with (fail);refine wpR [1, 1, 1, 3, 3, 3, 3, 3] (by rfl) (by rfl) ?_;simp only [zz2]
 refine wpXA 68 w.heap.size 0 #[.int .i64 wd, .slice lad L.length lcap, .slice kad KK.length kcap] hcH underlying68 3 rfl trivial ?_;try simp only [nmz]
 refine wpDo rfl ?_
 refine qG (qH 108 [.tmp 16] _ rfl _ func108 rfl (by kernel_rfl) [.agg #[.int .i64 wd, .slice lad L.length lcap, .slice kad KK.length kcap]] rfl _) (hwid _) ?_
 rintro e w2 ⟨rfl, hm2⟩;refine ⟨_, rfl, ?_⟩;try simp only [nmz]
 refine wpDo rfl ?_
 refine qG (qH 78 [.tmp 17, .const (.int .i64 67108864)] _ rfl _ func78 rfl (by kernel_rfl) [.int .i64 (wn : Nat), .int .i64 67108864] rfl _) (hnew _) ?_
 rintro e w3 ⟨bs, ms, rfl, hst3, hm3, hsf3⟩;refine ⟨_, rfl, ?_⟩;refine qA _ rfl rfl ?_;simp only [nmz]
 refine qJ rfl (fun w' => qP _ 0 #[.pointer (some ⟨bs, 0, none⟩), .int .i64 0] rfl rfl (.pointer (some ⟨bs, 0, none⟩)) rfl) ?_;simp only [nmz]
 refine qJ rfl (fun w' => qP _ 1 #[.pointer (some ⟨bs, 0, none⟩), .int .i64 0] rfl rfl (.int .i64 0) rfl) ?_;simp only [nmz];refine qD _ rfl rfl ?_
 simp only [nmz];refine qD _ rfl rfl ?_;simp only [nmz];refine qB ?_;rw [show ((wn : Nat) : Int).toNat = wn from by simp] at hst3
 have hqn := new_at 1099511627776 w3 (by omega) w3 (Mod.refl _ _);go_upto_region 2 with (fail);refine wpR [1, 3, 3, 3, 3, 3] (by rfl) (by rfl) ?_;simp only [zz2];refine wpDo rfl ?_
 refine qG (qH 109 [.const (.int .i64 1099511627776)] _ rfl _ func109 rfl (by kernel_rfl) [.int .i64 1099511627776] rfl _) (hqn) ?_
 rintro e w4 ⟨qb, F, rfl, hlk4, hm4, hF4⟩;refine ⟨_, rfl, ?_⟩;refine qA _ rfl rfl ?_;simp only [nmz]
 refine qJ rfl (fun w' => qP _ 0 #[.pointer (some ⟨qb, 0, none⟩), .int .i64 0] rfl rfl (.pointer (some ⟨qb, 0, none⟩)) rfl) ?_;simp only [nmz]
 refine qJ rfl (fun w' => qP _ 1 #[.pointer (some ⟨qb, 0, none⟩), .int .i64 0] rfl rfl (.int .i64 0) rfl) ?_;simp only [nmz];refine qD _ rfl rfl ?_
 simp only [nmz];refine qD _ rfl rfl ?_;simp only [nmz];refine qB ?_;have hm14 := hm2.trans0 (hm3.trans0 hm4)
 obtain ⟨h, hh⟩ : ∃ h : House, h = ⟨bs, ms, wn, 67108864, .pointer (some ⟨qb, 0, none⟩), 1099511627776⟩ := ⟨_, rfl⟩;have hhb : h.bs = bs := by rw [hh]
 have hhw : h.wd = wn := by rw [hh]
 have hhr : h.room = 67108864 := by rw [hh]
 have hhq : h.q = .pointer (some ⟨qb, 0, none⟩) := by rw [hh]
 have hhl : h.limit = 1099511627776 := by rw [hh]
 have hH0 : HsNew w1 w4 h (cOf wn (L.take 0)) [] := by
  refine ⟨fun k => SFoot bs ms [] k ∨ F k, ?_, fun k hk => ?_, hm14⟩
  · rw [hh]
    refine ⟨[], F, hst3.keep0 hm4, rfl, hlk4.bare, fun k hk hf => ?_, fun k hk => .inl hk, fun k hk => .inr hk, fun k hk => hk.elim (fun hk => Nat.lt_of_lt_of_le (hsf3 k hk).2 hm4.size) (fun hk => hlk4.lt k hk)⟩
    have h1 := (hsf3 k hk).2;have h2 := hF4 k hf;omega
  · have h3 := hm2.size
    have h4 := hm3.size
    rcases hk with hk | hk
    · have := (hsf3 k hk).1
      omega
    · have := hF4 k hk
      omega
 have HR0 : Hid (BldRel1 w w1 h wn L (.int .i64 (0 : Nat)) w4) := hid ⟨0, Nat.zero_le _, rfl, hH0⟩;have hbH := hB1;clear hH0 hh hst3 hm3 hsf3 hqn hlk4 hm4 hF4 hm2 hcH hnew hB1 hm14
 have hs1' : w.heap.size < w1.heap.size := hs1;generalize hhb2 : w.heap.size = hb at *;go_wp2
 go_loopw [8] (BldRel1 w w1 h wn L) (fun i _ => L.length - (intOf i).toNat)
 case atStart => exact HR0.out
 case round =>
  rename World => wr
  obtain ⟨k, hk, rfl, hns⟩ := hrel;obtain ⟨Ft, hat, hFn, hmr⟩ := hns;have hbr := hmr.obj id hbH
  have hcl : wr.cell? ⟨hb, 1, none⟩ = some (.slice lad L.length lcap) := by simp [World.cell?, hbr]
  have hcl0 : wr.cell? ⟨hb, 0 + 1, none⟩ = some (.slice lad L.length lcap) := hcl
  by_cases hlt : k < L.length
  · have hz : (k : Int) < (L.length : Nat) := by omega
    obtain ⟨_, _, hae, -, hatL⟩ := (lsAt_keep0 HLV1.out hmr).at;injection hae with hae1 hae2 hae3;subst hae1 hae3;obtain ⟨b, off, rfl, -, -, hcc⟩ := hatL k hlt
    obtain ⟨cs, -, ⟨vk, rfl, hvk⟩, hcA⟩ := hcc k hlt;have hck := CellsAt.one.1 hcA;have hbw : b < w1.heap.size := sl_lt HLV1.out hlt;have hmk := hL2 _ (List.getElem_mem hlt)
    have hsn := cOf_snoc wn L k hlt;have hcn : (cOf wn (L.take k)).length ≤ 1000 := Nat.le_trans (cOf_len wn (L.take k) []) (by simp; omega);generalize L[k] = m at *
    obtain ⟨va, vc, hve, -, -⟩ := Sl.at hvk;have HVK := hid hvk;rw [hve] at HVK hck;have HSN := hid hsn
    have hrc : CellsAt wr hb 0 #[.int .i64 wd, .slice (some ⟨b, off, none⟩) L.length lcap, .slice kad KK.length kcap] := CellsAt.whole hbr
    have href := fun w' (hm : Mod NoB wr w') => refOf_any (HVK.out.keep0 hm) (by omega) wn hwz.1 hwz.2;have hdi : (ofI wn m).length = 32 := ofI_len hwz.2
    have hic : (qC (ofI wn m)).size = 32 := by rw [qI, hdi]
    clear hsn hatL hcc hcA hae2 hve hvk;go_upto_region 8 with (fail)
    go_cut [9] (fun s wx => IdBox wr (ofI wn m) s wx)
    case first =>
     have hS : Mod NoB wr wr.drew := (Mod.refl _ _).drew;have hT : Mod NoB wr wr.drew := (Mod.refl _ _).drew
     refine jC [(0, 3), (1, 0), (2, 3), (3, 3), (4, 0), (5, 0)] 7 [(13, 3)] [] (fun w' => Mod NoB wr w') #[true, true, true, true, true, true, false, false, false, false, false, false, false, false] (by kernel_rfl) (by kernel_rfl) (by kernel_rfl) (by kernel_rfl) (by kernel_rfl) (fun _ _ _ _ hd h => ⟨hd.trans h.1, h.2⟩) hS ?_
     simp only [zz4];refine qE _ _ _ _ _ _ rfl rfl rfl fo_68_1 ?_;simp only [nmz];refine wpLd 22 hb (0 + 1) (fun w' hS => hS.cell id hcl0) underlying22 ?_;simp only [nmz]
     refine qA _ rfl rfl ?_;simp only [nmz];refine qX _ _ _ _ _ _ _ _ _ rfl rfl rfl rfl underlying22 (n := 1) (by kernel_rfl) hlt ?_;simp only [nmz]
     refine wpLd 53 b (off + k * 1) (fun w' hS => hS.cell id hck) underlying53 ?_;simp only [nmz]
     refine wpLA 68 hb 0 #[.int .i64 wd, .slice (some ⟨b, off, none⟩) L.length lcap, .slice kad KK.length kcap] (fun w' hS => hrc.keep hS id) underlying68 3 rfl ?_;simp only [nmz]
     refine qB ?_;refine zM [6, 11] (by kernel_rfl) ?_;simp only [zz3, false_implies, implies_true];refine ⟨?_, ?_⟩
     · intro K hK
       simp only [zz5]
       refine qG (qH 108 [.tmp 52] _ rfl _ func108 rfl (by kernel_rfl) [.agg #[.int .i64 wd, .slice (some ⟨b, off, none⟩) L.length lcap, .slice kad KK.length kcap]] rfl _) (hwid _) ?_
       rintro e w5 ⟨rfl, hm5⟩
       try replace hB4 := hm5.obj id hB4
       replace hT := hT.trans0 hm5;clear hm5;refine ⟨_, rfl, hK _ _ hT ?_⟩;clear hK K;try simp only [nmz]
       refine zM [7, 11] (by kernel_rfl) ?_;simp only [zz3, false_implies, implies_true];refine ⟨?_, ?_⟩
       · intro K hK
         simp only [zz5];refine qG (qH 79 [.tmp 51, .tmp 53] _ rfl _ func79 rfl (by kernel_rfl) [.slice va m.length vc, .int .i64 (wn : Nat)] rfl _) (href _ hT) ?_
         rintro e w6 ⟨rfl, hm6⟩
         try replace hB4 := hm6.obj id hB4
         replace hT := hT.trans0 hm6;clear hm6;refine ⟨_, rfl, hK _ _ hT ?_⟩;clear hK K;try simp only [nmz]
         refine xB 8 (.tuple #[.agg (qC (ofI wn m)), .int .i64 0]) (by kernel_rfl) (fun _ _ _ _ hd h => ⟨hd.trans h.1, h.2⟩) (fun w' => by simp only [zz5]; exact exec_moveV _ rfl (.tuple #[.agg (qC (ofI wn m)), .int .i64 0]) rfl) hT ?_
         simp only [zz5];try simp only [nmz]
         refine xB 9 (.agg (qC (ofI wn m))) (by kernel_rfl) (fun _ _ _ _ hd h => ⟨hd.trans h.1, h.2⟩) (fun w' => by simp only [zz5]; exact qP _ 0 #[.agg (qC (ofI wn m)), .int .i64 0] rfl rfl (.agg (qC (ofI wn m))) rfl) hT ?_
         simp only [zz5];try simp only [nmz]
         refine xB 10 (.int .i64 0) (by kernel_rfl) (fun _ _ _ _ hd h => ⟨hd.trans h.1, h.2⟩) (fun w' => by simp only [zz5]; exact qP _ 1 #[.agg (qC (ofI wn m)), .int .i64 0] rfl rfl (.int .i64 0) rfl) hT ?_
         simp only [zz5];try simp only [nmz]
         refine zM [11] (by kernel_rfl) ?_;simp only [zz3, false_implies, implies_true];intro K hK;simp only [zz5]
         refine wp_allocAt 24 _ (by rfl) idZ (fun b9 w7 hbe hB4 hm7 hs7 => ?_);replace hB4 : w7.heap[b9]? = some (.cells (qC (List.replicate 32 0)) 24 (0, 0)) := hB4
         have hbn : wr.heap.size ≤ b9 := by rw [hbe]; exact hT.size
         replace hT := hT.trans0 hm7;clear hm7 hbe hs7;refine hK _ _ hT ?_;clear hK K;try simp only [nmz]
         refine zM [12] (by kernel_rfl) ?_;simp only [zz3, false_implies, implies_true];intro K hK;simp only [zz5]
         refine qM 24 _ _ b9 0 (qC (ofI wn m)) (by rfl) (by rfl) (by rfl) (qZ _) 32 (by kernel_rfl) hic _ _ hB4 (by rw [hic, qI]; simp) (fun w8 hB8 hm8 => ?_)
         rw [qK (by rw [hic, qI]; rfl)] at hB8;replace hT : Mod NoB wr w8 := hT.transB hm8 hbn;clear hB4 hm8;have hB4 := hB8;clear hB8;refine hK _ _ hT ?_
         clear hK K;try simp only [nmz]
         refine xS ?_;try simp only [zz4]
         refine qD _ rfl rfl ?_;simp only [nmz];refine qB ?_;go_wp2
         go_meet
         case rel => exact ⟨b9, rfl, hbn, hB4, hT⟩
       · intro K hK
         simp only [zz5];refine wp_allocAt 24 _ (by rfl) idZ (fun b9 w7 hbe hB4 hm7 hs7 => ?_)
         replace hB4 : w7.heap[b9]? = some (.cells (qC (List.replicate 32 0)) 24 (0, 0)) := hB4;have hbn : wr.heap.size ≤ b9 := by rw [hbe]; exact hT.size
         replace hT := hT.trans0 hm7;clear hm7 hbe hs7;refine hK _ _ hT ?_;clear hK K;try simp only [nmz]
         refine zM [7] (by kernel_rfl) ?_;simp only [zz3, false_implies, implies_true];intro K hK;simp only [zz5]
         refine qG (qH 79 [.tmp 51, .tmp 53] _ rfl _ func79 rfl (by kernel_rfl) [.slice va m.length vc, .int .i64 (wn : Nat)] rfl _) (href _ hT) ?_
         rintro e w6 ⟨rfl, hm6⟩
         try replace hB4 := hm6.obj id hB4
         replace hT := hT.trans0 hm6;clear hm6;refine ⟨_, rfl, hK _ _ hT ?_⟩;clear hK K;try simp only [nmz]
         refine xB 8 (.tuple #[.agg (qC (ofI wn m)), .int .i64 0]) (by kernel_rfl) (fun _ _ _ _ hd h => ⟨hd.trans h.1, h.2⟩) (fun w' => by simp only [zz5]; exact exec_moveV _ rfl (.tuple #[.agg (qC (ofI wn m)), .int .i64 0]) rfl) hT ?_
         simp only [zz5];try simp only [nmz]
         refine xB 9 (.agg (qC (ofI wn m))) (by kernel_rfl) (fun _ _ _ _ hd h => ⟨hd.trans h.1, h.2⟩) (fun w' => by simp only [zz5]; exact qP _ 0 #[.agg (qC (ofI wn m)), .int .i64 0] rfl rfl (.agg (qC (ofI wn m))) rfl) hT ?_
         simp only [zz5];try simp only [nmz]
         refine xB 10 (.int .i64 0) (by kernel_rfl) (fun _ _ _ _ hd h => ⟨hd.trans h.1, h.2⟩) (fun w' => by simp only [zz5]; exact qP _ 1 #[.agg (qC (ofI wn m)), .int .i64 0] rfl rfl (.int .i64 0) rfl) hT ?_
         simp only [zz5];try simp only [nmz]
         refine zM [12] (by kernel_rfl) ?_;simp only [zz3, false_implies, implies_true];intro K hK;simp only [zz5]
         refine qM 24 _ _ b9 0 (qC (ofI wn m)) (by rfl) (by rfl) (by rfl) (qZ _) 32 (by kernel_rfl) hic _ _ hB4 (by rw [hic, qI]; simp) (fun w8 hB8 hm8 => ?_)
         rw [qK (by rw [hic, qI]; rfl)] at hB8;replace hT : Mod NoB wr w8 := hT.transB hm8 hbn;clear hB4 hm8;have hB4 := hB8;clear hB8;refine hK _ _ hT ?_
         clear hK K;try simp only [nmz]
         refine xS ?_;try simp only [zz4]
         refine qD _ rfl rfl ?_;simp only [nmz];refine qB ?_;go_wp2
         go_meet
         case rel => exact ⟨b9, rfl, hbn, hB4, hT⟩
     · intro K hK
       simp only [zz5];refine wp_allocAt 24 _ (by rfl) idZ (fun b9 w7 hbe hB4 hm7 hs7 => ?_)
       replace hB4 : w7.heap[b9]? = some (.cells (qC (List.replicate 32 0)) 24 (0, 0)) := hB4;have hbn : wr.heap.size ≤ b9 := by rw [hbe]; exact hT.size
       replace hT := hT.trans0 hm7;clear hm7 hbe hs7;refine hK _ _ hT ?_;clear hK K;try simp only [nmz]
       refine zM [6] (by kernel_rfl) ?_;simp only [zz3, false_implies, implies_true];intro K hK;simp only [zz5]
       refine qG (qH 108 [.tmp 52] _ rfl _ func108 rfl (by kernel_rfl) [.agg #[.int .i64 wd, .slice (some ⟨b, off, none⟩) L.length lcap, .slice kad KK.length kcap]] rfl _) (hwid _) ?_
       rintro e w5 ⟨rfl, hm5⟩
       try replace hB4 := hm5.obj id hB4
       replace hT := hT.trans0 hm5;clear hm5;refine ⟨_, rfl, hK _ _ hT ?_⟩;clear hK K;try simp only [nmz]
       refine zM [7] (by kernel_rfl) ?_;simp only [zz3, false_implies, implies_true];intro K hK;simp only [zz5]
       refine qG (qH 79 [.tmp 51, .tmp 53] _ rfl _ func79 rfl (by kernel_rfl) [.slice va m.length vc, .int .i64 (wn : Nat)] rfl _) (href _ hT) ?_;rintro e w6 ⟨rfl, hm6⟩
       try replace hB4 := hm6.obj id hB4
       replace hT := hT.trans0 hm6;clear hm6;refine ⟨_, rfl, hK _ _ hT ?_⟩;clear hK K;try simp only [nmz]
       refine xB 8 (.tuple #[.agg (qC (ofI wn m)), .int .i64 0]) (by kernel_rfl) (fun _ _ _ _ hd h => ⟨hd.trans h.1, h.2⟩) (fun w' => by simp only [zz5]; exact exec_moveV _ rfl (.tuple #[.agg (qC (ofI wn m)), .int .i64 0]) rfl) hT ?_
       simp only [zz5];try simp only [nmz]
       refine xB 9 (.agg (qC (ofI wn m))) (by kernel_rfl) (fun _ _ _ _ hd h => ⟨hd.trans h.1, h.2⟩) (fun w' => by simp only [zz5]; exact qP _ 0 #[.agg (qC (ofI wn m)), .int .i64 0] rfl rfl (.agg (qC (ofI wn m))) rfl) hT ?_
       simp only [zz5];try simp only [nmz]
       refine xB 10 (.int .i64 0) (by kernel_rfl) (fun _ _ _ _ hd h => ⟨hd.trans h.1, h.2⟩) (fun w' => by simp only [zz5]; exact qP _ 1 #[.agg (qC (ofI wn m)), .int .i64 0] rfl rfl (.int .i64 0) rfl) hT ?_
       simp only [zz5];try simp only [nmz]
       refine zM [12] (by kernel_rfl) ?_;simp only [zz3, false_implies, implies_true];intro K hK;simp only [zz5]
       refine qM 24 _ _ b9 0 (qC (ofI wn m)) (by rfl) (by rfl) (by rfl) (qZ _) 32 (by kernel_rfl) hic _ _ hB4 (by rw [hic, qI]; simp) (fun w8 hB8 hm8 => ?_)
       rw [qK (by rw [hic, qI]; rfl)] at hB8;replace hT : Mod NoB wr w8 := hT.transB hm8 hbn;clear hB4 hm8;have hB4 := hB8;clear hB8;refine hK _ _ hT ?_
       clear hK K;try simp only [nmz]
       refine xS ?_;try simp only [zz4]
       refine qD _ rfl rfl ?_;simp only [nmz];refine qB ?_;go_wp2
       go_meet
       case rel => exact ⟨b9, rfl, hbn, hB4, hT⟩
    case rest =>
     rename World => w8
     obtain ⟨ib, rfl, hib, hB8, hS8⟩ := hcut;have hib8 : ib < w8.heap.size := (Array.getElem?_eq_some_iff.1 hB8).1;have hat8 := hat.keep0 hS8;have hlt8 := hat.lt
     have hput := fun (w' : World) (hm : Mod NoB w8 w') => (hat8.keep0 hm).put (HVK.out.keep0 (hS8.trans0 hm)) hmk hhr (by omega);rw [hhb] at hput;rw [hhw] at hput
     have hcl8 := hS8.cell id hcl0;have hck8 := hS8.cell id hck;have hci8 : CellsAt w8 ib 0 (qC (ofI wn m)) := CellsAt.whole hB8;have hm18 := hmr.trans0 hS8
     clear href hrc hbr hcl hcl0 hck hB8;go_upto_region 9 with (fail);have hnF : ¬ Ft ib := fun e => by have := hlt8 _ e; omega
     have hS : CellsAt w8.drew ib 0 (qC (ofI wn m)) ∧ w8.drew.cell? ⟨hb, 0 + 1, none⟩ = some (.slice (some ⟨b, off, none⟩) L.length lcap) ∧ w8.drew.cell? ⟨b, off + k * 1, none⟩ = some (.slice va m.length vc) ∧ Mod Ft w8 w8.drew := ⟨hci8, hcl8, hck8, (Mod.refl _ _).drew⟩
     have hfin := hput w8.drew ((Mod.refl _ _).drew);have hhb1 : hb < w1.heap.size := hs1';have hb1 : b < w1.heap.size := hbw
     have hnH : ¬ Ft hb := fun e => by have := hFn _ e; omega
     have hnb : ¬ Ft b := fun e => by have := hFn _ e; omega
     refine wpRP [(0, 3), (1, 0), (2, 3), (3, 0), (4, 3), (5, 3), (6, 0), (7, 1)] [] (fun w' => CellsAt w' ib 0 (qC (ofI wn m)) ∧ w'.cell? ⟨hb, 0 + 1, none⟩ = some (.slice (some ⟨b, off, none⟩) L.length lcap) ∧ w'.cell? ⟨b, off + k * 1, none⟩ = some (.slice va m.length vc) ∧ Mod Ft w8 w') hS ?_
     simp only [zz4];refine qA _ rfl rfl ?_;simp only [nmz];refine wpLA 24 ib 0 (qC (ofI wn m)) (fun w' hS => hS.1) underlying24 32 hic ?_;simp only [nmz]
     refine qE _ _ _ _ _ _ rfl rfl rfl fo_68_1 ?_;simp only [nmz];refine wpLd 22 hb (0 + 1) (fun w' hS => hS.2.1) underlying22 ?_;simp only [nmz]
     refine qA _ rfl rfl ?_;simp only [nmz];refine qX _ _ _ _ _ _ _ _ _ rfl rfl rfl rfl underlying22 (n := 1) (by kernel_rfl) hlt ?_;simp only [nmz]
     refine wpLd 53 b (off + k * 1) (fun w' hS => hS.2.2.1) underlying53 ?_;simp only [nmz];refine qW rfl (fun K hK => ?_)
     refine qG (qH 37 [.tmp 57, .tmp 58, .tmp 63] _ rfl _ func37 rfl (by kernel_rfl) [.pointer (some ⟨bs, 0, none⟩), .agg (qC (ofI wn m)), .slice va m.length vc] rfl _) (hfin) ?_
     rintro e w9 ⟨⟨v9, rfl⟩, hst9⟩;have hmd : Mod Ft w8.drew w9 := by obtain ⟨_, _, h2, _⟩ := hst9; exact h2
     have hS9 : CellsAt w9 ib 0 (qC (ofI wn m)) ∧ w9.cell? ⟨hb, 0 + 1, none⟩ = some (.slice (some ⟨b, off, none⟩) L.length lcap) ∧ w9.cell? ⟨b, off + k * 1, none⟩ = some (.slice va m.length vc) ∧ Mod Ft w8 w9 := ⟨hci8.keep hmd hnF, hmd.cell hnH hcl8, hmd.cell hnb hck8, hS.2.2.2.trans hmd (fun _ _ h => h)⟩
     have hns9 := HsNew.step hFn (hm18.trans0 ((Mod.refl _ _).drew)) hst9
     have HR : Hid (BldRel1 w w1 h wn L (.int .i64 ((k + 1 : Nat) : Int)) w9) := hid ⟨k + 1, by omega, rfl, by rw [HSN.out]; exact hns9⟩;refine ⟨_, rfl, hK _ _ hS9 ?_⟩;clear hK K
     try simp only [nmz]
     refine qB ?_;clear hS hS9 hmd hst9 hfin hput hci8 hcl8 hck8 hat8;go_wp2
     go_roundw
     case rel => exact HR.out
     case measure => simp [intOf]; omega
  · have hz : ¬ (k : Int) < (L.length : Nat) := by omega
    obtain rfl : k = L.length := by omega
    rw [List.take_length] at hat;have HR0 : Hid (BldRel2 w w1 h wn L KK (.int .i64 (0 : Nat)) wr) := hid ⟨0, 0, rfl, Nat.zero_le _, rfl, Ft, hat, hFn, hmr⟩
    clear hat hFn hmr hbr hcl0;go_wp2;clear hcl
    go_loopw [11] (BldRel2 w w1 h wn L KK) (fun i _ => KK.length + 1 - (intOf i).toNat)
    case atStart => exact HR0.out
    case round =>
     rename World => wr
     obtain ⟨j, n, hn, hj, rfl, Ft, hat, hFn, hmr⟩ := hrel;have HN := hid hn;have HJ := hid hj;have hbr := hmr.obj id hbH
     have hcl : wr.cell? ⟨hb, 1, none⟩ = some (.slice lad L.length lcap) := by simp [World.cell?, hbr]
     have hcl0 : wr.cell? ⟨hb, 0 + 1, none⟩ = some (.slice lad L.length lcap) := hcl
     have hck : wr.cell? ⟨hb, 2, none⟩ = some (.slice kad KK.length kcap) := by simp [World.cell?, hbr]
     have hck0 : wr.cell? ⟨hb, 0 + 2, none⟩ = some (.slice kad KK.length kcap) := hck
     have hHc : CellsAt wr hb 0 #[.int .i64 wd, .slice lad L.length lcap, .slice kad KK.length kcap] := CellsAt.whole hbr;clear hn hj
     by_cases hlt : n + 1 < KK.length
     · have hz : (n : Int) + 1 < (KK.length : Nat) := by omega
       by_cases hL0 : 0 < L.length
       · have hz0 : (L.length : Int) > 0 := by omega
         obtain ⟨_, _, hae, -, hatK⟩ := (HKV1.out.keep0 hmr).at;injection hae with hae1 hae2 hae3;subst hae1 hae3;obtain ⟨kb, koff, rfl, -, -, hkc⟩ := hatK n (by omega)
         obtain ⟨cs, -, rfl, hk0A⟩ := hkc n (by omega);obtain ⟨cs, -, rfl, hk1A⟩ := hkc (n + 1) hlt;have hk0c := CellsAt.one.1 hk0A;have hk1c := CellsAt.one.1 hk1A
         have hi0 := hK2 _ (List.getElem_mem (show n < KK.length by omega));have hi1 := hK2 _ (List.getElem_mem hlt);have hlo := lOf_snoc wn L KK j;rw [← HN.out] at hlo
         have hg0 : KK.getD n 0 = KK[n] := by rw [List.getD_eq_getElem?_getD, List.getElem?_eq_getElem (by omega)]; rfl
         have hg1 : KK.getD (n + 1) 0 = KK[n + 1] := by rw [List.getD_eq_getElem?_getD, List.getElem?_eq_getElem hlt]; rfl
         rw [hg0, hg1] at hlo;generalize KK[n] = x0 at *;generalize KK[n + 1] = x1 at *;have hpl := pickZ_lt x1 L.length (by omega)
         have hpk := fun w' => pick_any x1 L.length hi1 (by omega) w';unfold layZ at hlo;obtain ⟨p, hp⟩ : ∃ p : Nat, pickZ x1 L.length = p := ⟨(pickZ x1 L.length).toNat, by omega⟩
         rw [hp] at hpl hlo;simp only [hp] at hpk;have hpL : p < L.length := by omega
         have hgm : L.getD (p : Int).toNat [] = L[p] := by rw [Int.toNat_natCast, List.getD_eq_getElem?_getD, List.getElem?_eq_getElem hpL]; rfl
         simp only [hgm] at hlo;obtain ⟨_, _, hae, -, hatL⟩ := (lsAt_keep0 HLV1.out hmr).at;injection hae with hae1 hae2' hae3;subst hae1 hae3
         obtain ⟨b, off, rfl, -, -, hcc⟩ := hatL p hpL;obtain ⟨cs, -, ⟨vk, rfl, hvk⟩, hcA⟩ := hcc p hpL;have hcb := CellsAt.one.1 hcA;have hmk := hL2 _ (List.getElem_mem hpL)
         generalize L[p] = m at *;obtain ⟨va, vc, hve, -, -⟩ := Sl.at hvk;have HVK := hid hvk;rw [hve] at HVK hcb;have HLO := hid hlo
         have hbw : kb < w1.heap.size := sl_lt HKV1.out (show n < KK.length by omega);clear hlo hatK hkc hk0A hk1A hae2 hae2' hatL hcc hcA hve hvk hp hpl hg0 hg1 hgm
         go_upto_region 13 with (fail);have hS : Mod NoB wr wr.drew := (Mod.refl _ _).drew
         refine wpRP [(0, 3), (1, 0), (2, 3), (3, 0), (4, 3), (5, 3), (6, 3), (7, 0), (8, 3), (9, 0), (10, 3), (11, 1), (12, 3), (13, 0), (14, 3)] [] (fun w' => Mod NoB wr w') hS ?_
         simp only [zz4];refine qE _ _ _ _ _ _ rfl rfl rfl fo_68_1 ?_;simp only [nmz];refine wpLd 22 hb (0 + 1) (fun w' hS => hS.cell id hcl0) underlying22 ?_
         simp only [nmz];refine qE _ _ _ _ _ _ rfl rfl rfl fo_68_2 ?_;simp only [nmz];refine wpLd 64 hb (0 + 2) (fun w' hS => hS.cell id hck0) underlying64 ?_
         simp only [nmz];refine qA _ rfl rfl ?_;simp only [nmz];refine zT _ _ _ _ (n : Int) 1 ((n + 1 : Nat) : Int) rfl rfl rfl rfl (by omega) (by omega) (by omega) ?_
         simp only [nmz];refine qX _ _ _ _ _ _ _ _ _ rfl rfl rfl rfl underlying64 (n := 1) (by kernel_rfl) hlt ?_;simp only [nmz]
         refine wpLd 3 kb (koff + (n + 1) * 1) (fun w' hS => hS.cell id hk1c) underlying3 ?_;simp only [nmz];refine qE _ _ _ _ _ _ rfl rfl rfl fo_68_1 ?_;simp only [nmz]
         refine wpLd 22 hb (0 + 1) (fun w' hS => hS.cell id hcl0) underlying22 ?_;simp only [nmz];refine zP _ _ _ _ _ rfl rfl rfl (by kernel_rfl) ?_;simp only [nmz]
         refine qW rfl (fun K hK => ?_)
         refine qG (qH 17 [.tmp 86, .tmp 89] _ rfl _ func17 rfl (by kernel_rfl) [.int .i64 x1, .int .i64 (L.length : Nat)] rfl _) (hpk _) ?_;rintro e w2 ⟨rfl, hw2⟩
         obtain rfl := hw2.symm;refine ⟨_, rfl, hK _ _ hS ?_⟩;clear hK K;try simp only [nmz]
         refine qX _ _ _ _ _ _ _ _ _ rfl rfl rfl rfl underlying22 (n := 1) (by kernel_rfl) hpL ?_;simp only [nmz]
         refine wpLd 53 b (off + p * 1) (fun w' hS => hS.cell id hcb) underlying53 ?_;simp only [nmz];refine qD _ rfl rfl ?_;simp only [nmz];refine qB ?_
         have hm1c := hmr.trans0 hS;have hat1 := hat.keep0 hS;have hHc1 := hHc.keep hS id;have hk0c1 := hS.cell id hk0c;have hck1 := hS.cell id hck0
         have HVK1 := hid (HVK.out.keep0 hS);generalize wr.drew = wq at *;have href := fun w' (hm : Mod NoB wq w') => refOf_any (HVK1.out.keep0 hm) (by omega) wn hwz.1 hwz.2
         have hdi : (ofI wn m).length = 32 := ofI_len hwz.2;have hic : (qC (ofI wn m)).size = 32 := by rw [qI, hdi]
         clear hcl hcl0 hck hck0 hbr hHc hk0c hk1c hcb HVK hS hpk hat hmr hw2;go_upto_region 14 with (fail);refine wpR [3, 1, 1, 1, 3, 3, 3, 1, 1, 3] (by rfl) (by rfl) ?_
         simp only [zz2];refine qA _ rfl rfl ?_;simp only [nmz]
         refine wpXA 68 hb 0 #[.int .i64 wd, .slice (some ⟨b, off, none⟩) L.length lcap, .slice (some ⟨kb, koff, none⟩) KK.length kcap] hHc1 underlying68 3 rfl trivial ?_
         try simp only [nmz]
         refine wpDo rfl ?_
         refine qG (qH 108 [.tmp 95] _ rfl _ func108 rfl (by kernel_rfl) [.agg #[.int .i64 wd, .slice (some ⟨b, off, none⟩) L.length lcap, .slice (some ⟨kb, koff, none⟩) KK.length kcap]] rfl _) (hwid _) ?_
         rintro e w5 ⟨rfl, hm5⟩;refine ⟨_, rfl, ?_⟩;try simp only [nmz]
         refine wpDo rfl ?_;refine qG (qH 79 [.tmp 94, .tmp 96] _ rfl _ func79 rfl (by kernel_rfl) [.slice va m.length vc, .int .i64 (wn : Nat)] rfl _) (href _ hm5) ?_
         rintro e w6 ⟨rfl, hm6⟩;refine ⟨_, rfl, ?_⟩;refine qA _ rfl rfl ?_;simp only [nmz]
         refine qJ rfl (fun w' => qP _ 0 #[.agg (qC (ofI wn m)), .int .i64 0] rfl rfl (.agg (qC (ofI wn m))) rfl) ?_;simp only [nmz]
         refine qJ rfl (fun w' => qP _ 1 #[.agg (qC (ofI wn m)), .int .i64 0] rfl rfl (.int .i64 0) rfl) ?_;simp only [nmz];refine wpDo rfl ?_
         refine qU 24 _ (by rfl) idZ (fun w7 hB7 hm7 hs7 => ?_);replace hB7 : w7.heap[w6.heap.size]? = some (.cells (qC (List.replicate 32 0)) 24 (0, 0)) := hB7
         try simp only [nmz]
         refine wpDo rfl ?_
         refine qM 24 _ _ w6.heap.size 0 (qC (ofI wn m)) (by rfl) (by rfl) (by rfl) (qZ _) 32 (by kernel_rfl) hic _ _ hB7 (by rw [hic, qI]; simp) (fun w8 hB8 hm8 => ?_)
         rw [qK (by rw [hic, qI]; simp)] at hB8;refine qD _ rfl rfl ?_;simp only [nmz];refine qB ?_;have hS6 : Mod NoB wq w6 := hm5.trans0 hm6
         have hS8 : Mod NoB wq w8 := (hS6.trans0 hm7).transB hm8 hS6.size;have hib6 := hS6.size;have hib8 : w6.heap.size < w8.heap.size := (Array.getElem?_eq_some_iff.1 hB8).1
         generalize hib : w6.heap.size = ib at *;have hat8 := hat1.keep0 hS8;have hlt1 := hat1.lt
         have hlay := fun (w' : World) (hm : Mod NoB w8 w') => (hat8.keep0 hm).lay (repoZ x0, ofI wn m) hdi (repoZ_size x0) (m.length : Nat);rw [hhq] at hlay;rw [hhl] at hlay
         simp only [← HLO.out] at hlay;have hci8 : CellsAt w8 ib 0 (qC (ofI wn m)) := CellsAt.whole hB8;have hk08 := hS8.cell id hk0c1;have hck8 := hS8.cell id hck1
         have hm18 := hm1c.trans0 hS8;have hrep := fun w' => repo_any x0 hi0 w';clear hS6 hS8 hm5 hm6 hm7 hm8 hB7 hs7 href hHc1 hB8 hat1 hk0c1 hck1;go_upto_region 15 with (fail)
         have hnF : ¬ Ft ib := fun e => by have := hlt1 _ e; omega
         have hnH : ¬ Ft hb := fun e => by have := hFn _ e; omega
         have hnb : ¬ Ft kb := fun e => by have := hFn _ e; omega
         have hS : CellsAt w8.drew ib 0 (qC (ofI wn m)) ∧ w8.drew.cell? ⟨hb, 0 + 2, none⟩ = some (.slice (some ⟨kb, koff, none⟩) KK.length kcap) ∧ w8.drew.cell? ⟨kb, koff + n * 1, none⟩ = some (.int .i64 x0) ∧ Mod Ft w8 w8.drew := ⟨hci8, hck8, hk08, (Mod.refl _ _).drew⟩
         have hnlt : n < KK.length := by omega
         refine wpRP [(0, 3), (1, 3), (2, 0), (3, 3), (4, 3), (5, 0), (7, 0), (8, 3), (9, 3), (6, 1), (10, 1)] [] (fun w' => CellsAt w' ib 0 (qC (ofI wn m)) ∧ w'.cell? ⟨hb, 0 + 2, none⟩ = some (.slice (some ⟨kb, koff, none⟩) KK.length kcap) ∧ w'.cell? ⟨kb, koff + n * 1, none⟩ = some (.int .i64 x0) ∧ Mod Ft w8 w') hS ?_
         simp only [zz4];refine qA _ rfl rfl ?_;simp only [nmz];refine qE _ _ _ _ _ _ rfl rfl rfl fo_68_2 ?_;simp only [nmz]
         refine wpLd 64 hb (0 + 2) (fun w' hS => hS.2.1) underlying64 ?_;simp only [nmz];refine qA _ rfl rfl ?_;simp only [nmz]
         refine qX _ _ _ _ _ _ _ _ _ rfl rfl rfl rfl underlying64 (n := 1) (by kernel_rfl) hnlt ?_;simp only [nmz]
         refine wpLd 3 kb (koff + n * 1) (fun w' hS => hS.2.2.1) underlying3 ?_;simp only [nmz];refine wpLA 24 ib 0 (qC (ofI wn m)) (fun w' hS => hS.1) underlying24 32 hic ?_
         simp only [nmz];refine qA _ rfl rfl ?_;simp only [nmz];refine zP _ _ _ _ _ rfl rfl rfl (by kernel_rfl) ?_;simp only [nmz];refine qW rfl (fun K hK => ?_)
         refine qG (qH 69 [.tmp 105] _ rfl _ func69 rfl (by kernel_rfl) [.int .i64 x0] rfl _) (hrep _) ?_;rintro e w9 ⟨rfl, hm9⟩
         have hm89 : Mod NoB w8 w9 := ((Mod.refl NoB w8).drew).trans0 hm9
         have hS9 : CellsAt w9 ib 0 (qC (ofI wn m)) ∧ w9.cell? ⟨hb, 0 + 2, none⟩ = some (.slice (some ⟨kb, koff, none⟩) KK.length kcap) ∧ w9.cell? ⟨kb, koff + n * 1, none⟩ = some (.int .i64 x0) ∧ Mod Ft w8 w9 := ⟨hci8.keep hm89 id, hm89.cell id hck8, hm89.cell id hk08, hm89.mono (fun _ _ h => h.elim)⟩
         have hfin := hlay w9 hm89;refine ⟨_, rfl, hK _ _ hS9 ?_⟩;clear hK K;try simp only [nmz]
         refine qW rfl (fun K hK => ?_)
         refine qG (qH 110 [.tmp 100, .tmp 106, .tmp 107, .tmp 109] _ rfl _ func110 rfl (by kernel_rfl) [.pointer (some ⟨qb, 0, none⟩), .string (repoZ x0), .agg (qC (ofI wn m)), .int .i64 (m.length : Nat)] rfl _) (hfin) ?_
         rintro e w10 ⟨⟨v10, rfl⟩, hst10⟩;have hmd : Mod Ft w9 w10 := by obtain ⟨_, _, h2, _⟩ := hst10; exact h2
         have hS10 : CellsAt w10 ib 0 (qC (ofI wn m)) ∧ w10.cell? ⟨hb, 0 + 2, none⟩ = some (.slice (some ⟨kb, koff, none⟩) KK.length kcap) ∧ w10.cell? ⟨kb, koff + n * 1, none⟩ = some (.int .i64 x0) ∧ Mod Ft w8 w10 := ⟨hS9.1.keep hmd hnF, hmd.cell hnH hS9.2.1, hmd.cell hnb hS9.2.2.1, hS9.2.2.2.trans hmd (fun _ _ h => h)⟩
         have hns := HsNew.step hFn (hm18.trans0 hm89) hst10
         have HR : Hid (BldRel2 w w1 h wn L KK (.int .i64 ((n + 2 : Nat) : Int)) w10) := hid ⟨j + 1, n + 2, by have := HN.out; omega, laysN_lt HN.out hlt hL0, rfl, hns⟩
         refine ⟨_, rfl, hK _ _ hS10 ?_⟩;clear hK K;try simp only [nmz]
         refine qB ?_;clear hS hS9 hS10 hmd hst10 hns hfin hlay hm9 hm89 hat8 hci8 hk08 hck8 hm18 hrep;go_wp2
         go_roundw
         case rel => exact HR.out
         case measure => simp [intOf]; omega
       · have hz0 : ¬ (L.length : Int) > 0 := by omega
         have hjl : j = laysN L KK := by
          have h1 := HJ.out;have h2 : L = [] := List.eq_nil_of_length_eq_zero (by omega);unfold laysN at h1 ⊢;rw [if_pos h2] at h1 ⊢;omega
         have HF : Hid (BuildR w wn L KK (.returned (.tuple #[.pointer (some ⟨bs, 0, none⟩), .pointer (some ⟨qb, 0, none⟩)])) wr) := hid ⟨h, hhw, hhr, hhl, ⟨qb, hhq⟩, by rw [hhb, hhq], Ft, by rw [← hjl]; exact hat, fun k hk => by have := hFn k hk; have := hm1.size; omega, hm1.trans0 hmr⟩
         clear hat hFn hmr hbr hHc hcl0 hck0;go_wp2;go_ret2;exact HF.out
     · have hz : ¬ (n : Int) + 1 < (KK.length : Nat) := by omega
       have hnb : n ≤ 1000 := by
        have h1 := HJ.out;have h3 := HN.out;unfold laysN at h1
        split at h1 <;> omega
       have hjl : j = laysN L KK := by
        have h1 := HJ.out;have h3 := HN.out;unfold laysN at h1 ⊢
        split at h1
        · rename_i h2
          rw [if_pos h2];omega
        · rename_i h2
          rw [if_neg h2];omega
       have HF : Hid (BuildR w wn L KK (.returned (.tuple #[.pointer (some ⟨bs, 0, none⟩), .pointer (some ⟨qb, 0, none⟩)])) wr) := hid ⟨h, hhw, hhr, hhl, ⟨qb, hhq⟩, by rw [hhb, hhq], Ft, by rw [← hjl]; exact hat, fun k hk => by have := hFn k hk; have := hm1.size; omega, hm1.trans0 hmr⟩
       clear hat hFn hmr hbr hHc hcl0 hck0;go_wp2;go_ret2;exact HF.out
end
section
open Go.RowKit Go.Proofs.Tryz Go.Lib
theorem yI (o o' : Bool) (G G' : Nat → Prop) (va vb : Value) (la lb : List (List UInt8)) (w : World) (ha : Sl o w G 32 IdC va la) (hb : Sl o' w G' 32 IdC vb lb) :
 Calls prog 24 #[va, vb] w (RetM (.bool (decide (la = lb))) w) := by
 obtain ⟨aa, ca, rfl, hla, ha⟩ := ha.at;obtain ⟨ab, cb, rfl, hlb, hb⟩ := hb.at
 by_cases hlen : la.length = lb.length
 · have e1 : ((la.length : Int) == (lb.length : Int)) = true := by simp [hlen]
   have H := hid hlen; have HA := hid ha; have HB := hid hb; clear hlen ha hb;go_enter func24, ntmps24;go_wp2
   go_loopw [5, 6] (SameRel la lb w) (fun _ i _ => la.length - (intOf i).toNat)
   case atStart => exact ⟨0, by omega, rfl, by rw [pre_zero], Mod.refl _ _⟩
   case round =>
    obtain ⟨k, hk, rfl, rfl, hm⟩ := hrel
    rename_i wr
    by_cases hs : pre k la lb = true
    · by_cases hlt : k < la.length
      · have hlt' : k < lb.length := by rw [← H.out]; exact hlt
        obtain ⟨ba, oa, rfl, -, -, hca⟩ := HA.out k hlt;obtain ⟨bb, ob, rfl, -, -, hcb⟩ := HB.out k hlt';obtain ⟨_, -, ⟨rfl, hc32⟩, hca⟩ := hca k hlt
        obtain ⟨_, -, ⟨rfl, hd32⟩, hcb⟩ := hcb k hlt';have hps := hid (pre_succ hlt hlt' hs);clear HA HB;go_wp2_with fail;have hS := hm.drew
        refine wpRP [(0, 3), (1, 3), (2, 3), (3, 0), (4, 3), (5, 3), (6, 3), (7, 0), (8, 0), (9, 3)] [] (fun w' => Mod NoB w w') hS ?_;simp only [zz4];refine qA _ rfl rfl ?_
        simp only [nmz];refine qA _ rfl rfl ?_;simp only [nmz];refine qX _ _ _ _ _ _ _ _ _ rfl rfl rfl rfl underlying25 (n := 32) (by kernel_rfl) hlt ?_
        simp only [nmz];refine qS rfl (fun w' hS => zV _ _ rfl _ _ rfl _ (hca.keep hS id) _ underlying24 rfl 32 (by kernel_rfl) (by rw [qI, hc32])) ?_
        simp only [nmz];refine qA _ rfl rfl ?_;simp only [nmz];refine qA _ rfl rfl ?_;simp only [nmz]
        refine qX _ _ _ _ _ _ _ _ _ rfl rfl rfl rfl underlying25 (n := 32) (by kernel_rfl) hlt' ?_;simp only [nmz]
        refine qS rfl (fun w' hS => zV _ _ rfl _ _ rfl _ (hcb.keep hS id) _ underlying24 rfl 32 (by kernel_rfl) (by rw [qI, hd32])) ?_;simp only [nmz]
        refine qS rfl (fun w' hS => exec_eql_id _ _ _ _ rfl _ _ rfl rfl 32 5 underlying24 underlying5 (by kernel_rfl) (by kernel_rfl) hc32 hd32 _ rfl) ?_;simp only [nmz]
        refine qD _ rfl rfl ?_;simp only [nmz];refine qB ?_;go_wp2
        go_roundw
        case rel => exact ⟨k + 1, by omega, by go_num, by rw [hps.out], hS⟩
        case measure => simp [intOf]; omega
      · go_wp2
        go_ret;exact ⟨by rw [← pre_full H.out (Nat.le_of_not_lt hlt), hs]; rfl, hm⟩
    · have hs' : pre k la lb = false := by simpa using hs
      have hps := hid (pre_false hs'); clear hs;go_wp2;go_ret;exact ⟨by rw [hps.out]; rfl, hm⟩
 · have e1 : ((la.length : Int) == (lb.length : Int)) = false := by simp; omega
   have hps := hid (decide_eq_false (show ¬ la = lb by rintro rfl; exact hlen rfl)); clear hlen;go_enter func24, ntmps24;go_wp2;refine wp_loop_once ?_;go_wp2;go_ret
   exact ⟨by rw [hps.out]; rfl, Mod.refl _ _⟩
end
section
open Go.RowKit Go.Shelf Go.Proofs.Tryz Go.Lib
theorem built_dot12 : prog.built 113 [(0, .int .i64 1), (1, .int .i64 2)] = some #[.int .i64 1, .int .i64 2] := by kernel_rfl
theorem built_held (a b : Int) (di : List UInt8) (h : di.length = 32) : prog.built 211 [(0, .agg #[.int .i64 a, .int .i64 b]), (1, .agg (qC di))] = some (xM ((a, b), di)) := by
 have p : yD prog 211 = some [(0, 2), (2, 32)] := by kernel_rfl
 have hz : (xM ((0, 0), List.replicate 32 0)).size = 34 := jE (by simp);have hi : (qC di).size = 32 := by rw [qI, h]
 rw [xG heldZ p];generalize xM ((0, 0), List.replicate 32 0) = z at hz
 rw [zU (off := 0) (size := 2) rfl (by rfl) (by rw [hz]; omega), zU (off := 2) (size := 32) rfl (by simpa [Value.cells] using hi) (by rw [jL (by rw [hz]; simp [Value.cells])]; rw [hz]; omega), yL]
 congr 1
 apply Array.toList_inj.1
 have hl : z.toList.length = 34 := by simpa using hz
 simp only [zN, Value.cells, xM, Array.toList_append, hi]
 simp [hl]
theorem built_tag (n : ByteArray) (ad : Option Addr) (k c : Nat) : prog.built 188 [(0, .string n), (1, .slice ad k c)] = some #[.string n, .slice ad k c] := by
 have p : yD prog 188 = some [(0, 1), (1, 1)] := by kernel_rfl
 rw [xG tagZ p, zU (off := 0) (size := 1) rfl (by rfl) (by simp), zU (off := 1) (size := 1) rfl (by rfl) (by simp [zN, Value.cells]), yL]
 rfl
theorem built_rep (n : ByteArray) (ad : Option Addr) (k c : Nat) : prog.built 186 [(0, .string n), (1, .slice ad k c)] = some #[.string n, .slice ad k c, .slice none 0 0] := by
 have p : yD prog 186 = some [(0, 1), (1, 1), (2, 1)] := by kernel_rfl
 rw [xG repZ p, zU (off := 0) (size := 1) rfl (by rfl) (by simp), zU (off := 1) (size := 1) rfl (by rfl) (by simp [zN, Value.cells]), yL]
 rfl
theorem built_tab (ad bd : Option Addr) (k c k' c' : Nat) : prog.built 71 [(0, .slice ad k c), (1, .slice bd k' c')] = some #[.slice ad k c, .slice bd k' c'] := by
 have p : yD prog 71 = some [(0, 1), (1, 1)] := by kernel_rfl
 rw [xG tableZ p, zU (off := 0) (size := 1) rfl (by rfl) (by simp), zU (off := 1) (size := 1) rfl (by rfl) (by simp [zN, Value.cells]), yL]
 rfl
theorem sl_one {α : Type} {w : World} {b : Nat} {cs : Array Value} {T : TypeId} {R : Array Value → α → Prop} {x : α} (h : w.heap[b]? = some (.cells cs T (0, 0))) (hR : R cs x) (n : Nat) (hn : cs.size = n) : Sl false w AnyB n R (.slice (some ⟨b, 0, none⟩) 1 1) [x] := by
 refine ⟨some ⟨b, 0, none⟩, 1, rfl, Nat.le_refl _, by unfold maxLen; omega, fun _ => ⟨b, 0, rfl, trivial, fun e => (by cases e), fun i hi => ?_⟩⟩
 have h0 : i = 0 := by simpa using hi
 subst h0;refine ⟨cs, hn, hR, ?_⟩;rw [Nat.zero_mul];exact CellsAt.whole h
theorem results_row1 {P : Program} {fn : Func} {p : Tmp} {ty : TypeId} (h : fn.results = #[.cell p ty]) (tmps : Array Value) (w : World) (g : Nat) (t : TypeId) (cs : Array Value) (fr : Nat × Nat) (d : TypeDesc)
 (hp : tmps.getD p undef = .pointer (some ⟨g, 0, none⟩)) (hg : w.heap[g]? = some (.cells cs t fr))
 (hu : P.underlying ty = some d) (hd : (match d with | .struct _ | .array _ _ => true | _ => false) = true) (hi : (P.info? ty).map (·.size) = some cs.size) :
 (results fn tmps).run P w = .ok (.agg cs) w := by
 have hp' : tmps[p]?.getD undef = .pointer (some ⟨g, 0, none⟩) := by simpa using hp
 simp [results, h, hp', asAddr, run_loadVar_row w g t ty cs fr d hg hu hd hi]
def TagdR (w : World) (id : List UInt8) : Ending → World → Prop := fun e w' => Mod NoB w w' ∧ ∃ vv rv reps, e = .returned (.agg #[vv, rv]) ∧ vv.oneCell' = true ∧ RepsAt w' rv reps ∧ rootsX reps = [id]
theorem int_zs : (prog.info? 3).map (fun i => (i.zero, i.size)) = some (some (.int .i64 0), 1) := by kernel_rfl
theorem held_zs : (prog.info? 211).map (fun i => (i.zero, i.size)) = some (some (.agg (xM ((0, 0), List.replicate 32 0))), 34) := by kernel_rfl
theorem tag_zs : (prog.info? 188).map (fun i => (i.zero, i.size)) = some (some (.agg #[.string ⟨#[]⟩, .slice none 0 0]), 2) := by kernel_rfl
theorem rep_zs : (prog.info? 186).map (fun i => (i.zero, i.size)) = some (some (.agg #[.string ⟨#[]⟩, .slice none 0 0, .slice none 0 0]), 3) := by kernel_rfl
theorem tagged_any (di : List UInt8) (hid : di.length = 32) (w : World) : Calls prog 56 #[.agg (qC di)] w (TagdR w di) := by
 have hic : (qC di).size = 32 := by rw [qI, hid]
 have hhs := jE (h := ((1, 2), di)) hid;have hbh := built_held 1 2 di hid;go_enter func56, ntmps56;go_upto_region 0 with (fail);refine wpR [1, 1] (by rfl) (by rfl) ?_
 simp only [zz2];refine wpDo rfl ?_;refine xF 24 _ _ (by rfl) (by rfl) (fun w1 hB1 hm1 hs1 => ?_)
 replace hB1 : w1.heap[w.heap.size]? = some (.cells (qC di) 24 (0, 0)) := hB1;try simp only [nmz]
 refine wpDo rfl ?_;refine qU 71 _ (by rfl) tableZ (fun w2 hB2 hm2 hs2 => ?_)
 replace hB2 : w2.heap[w1.heap.size]? = some (.cells #[.slice none 0 0, .slice none 0 0] 71 (0, 0)) := hB2;try simp only [nmz]
 refine qB ?_;have hci : CellsAt w2 w.heap.size 0 (qC di) := CellsAt.whole (hm2.obj id hB1);go_upto_region 1 with (fail)
 refine wpR [1, 0, 1, 0, 1, 0, 1, 0, 1, 0, 1] (by rfl) (by rfl) ?_;simp only [zz2];refine wpDo rfl ?_
 refine zC 64 3 _ (.int .i64 2) (.int .i64 0) 1 (by rfl) (by rfl) underlying64 int_zs (by omega) (by omega) rfl (fun w3 hB3 hm3 hs3 => ?_);have hci3 := hci.keep hm3 id
 try simp only [nmz]
 refine qS rfl (fun w' hS => qT 113 [(0, _), (1, _)] [(0, .int .i64 1), (1, .int .i64 2)] _ (by rfl) (by rfl) built_dot12) ?_;simp only [nmz]
 refine wpXA 24 w.heap.size 0 (qC di) hci3 underlying24 32 hic trivial ?_;try simp only [nmz]
 refine qS rfl (fun w' hS => qT 211 [(0, _), (1, _)] [(0, .agg #[.int .i64 1, .int .i64 2]), (1, .agg (qC di))] _ (by rfl) (by rfl) hbh) ?_;simp only [nmz]
 refine wpDo rfl ?_
 refine zC 184 211 _ (.agg (xM ((1, 2), di))) (.agg (xM ((0, 0), List.replicate 32 0))) 34 (by rfl) (by rfl) underlying184 held_zs (by omega) (by omega) hhs (fun w4 hB4 hm4 hs4 => ?_)
 replace hB4 : w4.heap[w3.heap.size]? = some (.cells (xM ((1, 2), di)) 211 (0, 0)) := hB4;try simp only [nmz]
 refine qS rfl (fun w' hS => qT 188 [(0, _), (1, _)] [(0, .string ⟨#[118]⟩), (1, .slice (some ⟨w3.heap.size, 0, none⟩) 1 1)] _ (by rfl) (by rfl) (built_tag ⟨#[118]⟩ _ 1 1)) ?_
 simp only [nmz];refine wpDo rfl ?_
 refine zC 183 188 _ (.agg #[.string ⟨#[118]⟩, .slice (some ⟨w3.heap.size, 0, none⟩) 1 1]) (.agg #[.string ⟨#[]⟩, .slice none 0 0]) 2 (by rfl) (by rfl) underlying183 tag_zs (by omega) (by omega) rfl (fun w5 hB5 hm5 hs5 => ?_)
 replace hB5 : w5.heap[w4.heap.size]? = some (.cells #[.string ⟨#[118]⟩, .slice (some ⟨w3.heap.size, 0, none⟩) 1 1] 188 (0, 0)) := hB5;try simp only [nmz]
 refine qS rfl (fun w' hS => qT 186 [(0, _), (1, _)] [(0, .string ⟨#[114]⟩), (1, .slice (some ⟨w4.heap.size, 0, none⟩) 1 1)] _ (by rfl) (by rfl) (built_rep ⟨#[114]⟩ _ 1 1)) ?_
 simp only [nmz];refine wpDo rfl ?_
 refine zC 69 186 _ (.agg #[.string ⟨#[114]⟩, .slice (some ⟨w4.heap.size, 0, none⟩) 1 1, .slice none 0 0]) (.agg #[.string ⟨#[]⟩, .slice none 0 0, .slice none 0 0]) 3 (by rfl) (by rfl) underlying69 rep_zs (by omega) (by omega) rfl (fun w6 hB6 hm6 hs6 => ?_)
 replace hB6 : w6.heap[w5.heap.size]? = some (.cells #[.string ⟨#[114]⟩, .slice (some ⟨w4.heap.size, 0, none⟩) 1 1, .slice none 0 0] 186 (0, 0)) := hB6
 have hT6 := hm5.trans0 hm6 |> fun h => (hm3.trans0 hm4).trans0 h |>.obj id hB2;try simp only [nmz]
 refine qS rfl (fun w' hS => qT 71 [(0, _), (1, _)] [(0, .slice (some ⟨w2.heap.size, 0, none⟩) 1 1), (1, .slice (some ⟨w5.heap.size, 0, none⟩) 1 1)] _ (by rfl) (by rfl) (built_tab _ _ 1 1 1 1)) ?_
 simp only [nmz];refine wpDo rfl ?_
 refine qM 71 _ _ w1.heap.size 0 #[.slice (some ⟨w2.heap.size, 0, none⟩) 1 1, .slice (some ⟨w5.heap.size, 0, none⟩) 1 1] (by rfl) (by rfl) (by rfl) (by intro c hc; simp at hc; rcases hc with rfl | rfl <;> rfl) 2 (by kernel_rfl) rfl _ _ hT6 (by simp) (fun w7 hB7 hm7 => ?_)
 rw [qK (by simp)] at hB7;try simp only [nmz]
 refine qB ?_;have hs2' := hm2.size;have hs3' := hm3.size;have hs4' := hm4.size;have hs5' := hm5.size;have hs6' := hm6.size;have h1lt : w1.heap.size < w2.heap.size := hs2
 have hM : Mod NoB w w7 := (((hm1.trans0 hm2).trans0 (hm3.trans0 hm4)).trans0 (hm5.trans0 hm6)).transB hm7 hm1.size
 have hT4 := hm7.objB (b := w3.heap.size) (by omega) ((hm5.trans0 hm6).obj id hB4);have hT5 := hm7.objB (b := w4.heap.size) (by omega) (hm6.obj id hB5)
 have hT7 := hm7.objB (b := w5.heap.size) (by omega) hB6;have hrow : RowAt w7 (.slice (some ⟨w3.heap.size, 0, none⟩) 1 1, [((1, 2), di)]) := sl_one hT4 ⟨rfl, hid⟩ 34 hhs
 have htags : Sl false w7 AnyB 2 (TagC w7) (.slice (some ⟨w4.heap.size, 0, none⟩) 1 1) [⟨⟨#[118]⟩, (.slice (some ⟨w3.heap.size, 0, none⟩) 1 1, [((1, 2), di)])⟩] := sl_one hT5 ⟨rfl, hrow⟩ 2 rfl
 have hreps : RepsAt w7 (.slice (some ⟨w5.heap.size, 0, none⟩) 1 1) [⟨⟨#[114]⟩, .slice (some ⟨w4.heap.size, 0, none⟩) 1 1, [⟨⟨#[118]⟩, (.slice (some ⟨w3.heap.size, 0, none⟩) 1 1, [((1, 2), di)])⟩], (.slice none 0 0, [])⟩] := sl_one hT7 ⟨rfl, htags, Sl.nil _ _ _ _ _⟩ 3 rfl
 have HF : Hid (TagdR w di (.returned (.agg #[.slice (some ⟨w2.heap.size, 0, none⟩) 1 1, .slice (some ⟨w5.heap.size, 0, none⟩) 1 1])) w7) := Lib.hid ⟨hM, _, _, _, rfl, rfl, hreps, rfl⟩
 clear hM hT4 hT5 hT7 hrow htags hreps hT6 hm1 hm2 hm3 hm4 hm5 hm6 hm7 hB1 hB2 hB3 hB4 hB5 hB6 hci hci3;go_wp2
 refine bodyPost_ret (results_row1 (P := prog) (ty := 71) rfl _ _ w1.heap.size _ _ _ _ (by rfl) hB7 underlying71 rfl (by kernel_rfl)) rfl ?_;exact HF.out
theorem sameSwept_any {w : World} {o o' : Bool} {G G' : Nat → Prop} {va vb : Value} {la lb : List (List UInt8)} (ha : Sl o w G 32 IdC va la) (hb : Sl o' w G' 32 IdC vb lb) (b1 n1 b2 n2 : Nat) :
 Calls prog 54 #[.agg (qR va b1 n1), .agg (qR vb b2 n2)] w (RetK (.bool (decide (la = lb) && decide (b1 = b2) && decide (n1 = n2))) w) := by
 have h1a := Sl.one ha;have h1b := Sl.one hb;obtain ⟨r, hr⟩ : ∃ r, decide (la = lb) = r := ⟨_, rfl⟩;rw [hr]
 obtain ⟨res, hres⟩ : ∃ x, (r && decide (b1 = b2) && decide (n1 = n2)) = x := ⟨_, rfl⟩;rw [hres];have HRES := hid hres;clear hres;go_enter func54, ntmps54
 go_upto_region 0 with (fail);refine wpR [1, 1, 3] (by rfl) (by rfl) ?_;simp only [zz2];refine wpDo rfl ?_;refine xF 104 _ _ (by rfl) (by rfl) (fun w1 hB1 hm1 hs1 => ?_)
 replace hB1 : w1.heap[w.heap.size]? = some (.cells (qR va b1 n1) 104 (0, 0)) := hB1;try simp only [nmz]
 refine wpDo rfl ?_;refine xF 104 _ _ (by rfl) (by rfl) (fun w2 hB2 hm2 hs2 => ?_);replace hB2 : w2.heap[w1.heap.size]? = some (.cells (qR vb b2 n2) 104 (0, 0)) := hB2
 refine qD _ rfl rfl ?_;simp only [nmz];refine qB ?_;have hm02 := hm1.trans0 hm2;have hB12 := hm2.obj id hB1
 have hca0 : w2.cell? ⟨w.heap.size, 0 + 0, none⟩ = some va := by simp [World.cell?, hB12, qR]
 have hcb0 : w2.cell? ⟨w1.heap.size, 0 + 0, none⟩ = some vb := by simp [World.cell?, hB2, qR]
 have hca1 : w2.cell? ⟨w.heap.size, 0 + 1, none⟩ = some (.int .i64 (b1 : Nat)) := by simp [World.cell?, hB12, qR]
 have hcb1 : w2.cell? ⟨w1.heap.size, 0 + 1, none⟩ = some (.int .i64 (b2 : Nat)) := by simp [World.cell?, hB2, qR]
 have hca2 : w2.cell? ⟨w.heap.size, 0 + 2, none⟩ = some (.int .i64 (n1 : Nat)) := by simp [World.cell?, hB12, qR]
 have hcb2 : w2.cell? ⟨w1.heap.size, 0 + 2, none⟩ = some (.int .i64 (n2 : Nat)) := by simp [World.cell?, hB2, qR]
 have hsame := yI _ _ _ _ va vb la lb w2 (ha.keep0 hm02) (hb.keep0 hm02);rw [hr] at hsame;clear hr;generalize w.heap.size = ba at *;generalize w1.heap.size = bb at *
 go_upto_region 1 with (fail)
 cases r with
 | false =>
  refine wpR [3, 1, 3, 1, 1, 3, 3, 0, 3, 0, 3, 3, 3, 3, 0, 3, 0, 3, 3, 3] (by rfl) (by rfl) ?_;simp only [zz2];refine qE _ _ _ _ _ _ rfl rfl rfl fo_104_0 ?_;simp only [nmz]
  refine wpXd 25 ba (0 + 0) hca0 underlying25 trivial ?_;refine qE _ _ _ _ _ _ rfl rfl rfl fo_104_0 ?_;simp only [nmz];refine wpXd 25 bb (0 + 0) hcb0 underlying25 trivial ?_
  try simp only [nmz]
  refine wpDo rfl ?_;refine qG (qH 24 [.tmp 6, .tmp 8] _ rfl _ func24 rfl (by kernel_rfl) [va, vb] rfl _) (hsame) ?_;rintro e w3 ⟨rfl, hg3⟩;have hm3 := hm02.trans0 hg3
  refine ⟨_, rfl, ?_⟩;refine qA _ rfl rfl ?_;simp only [nmz];refine qV rfl ?_;simp only [nmz];refine zK rfl ?_;simp only [nmz];refine qV rfl ?_
  simp only [nmz];refine zK rfl ?_;simp only [nmz];refine qV rfl ?_;simp only [nmz];refine qQ _ _ _ _ rfl rfl rfl ?_;simp only [nmz]
  refine qA _ rfl rfl ?_;simp only [nmz];refine qV rfl ?_;simp only [nmz];refine zK rfl ?_;simp only [nmz];refine qV rfl ?_;simp only [nmz]
  refine zK rfl ?_;simp only [nmz];refine qV rfl ?_;simp only [nmz];refine qQ _ _ _ _ rfl rfl rfl ?_;simp only [nmz];refine qD _ rfl rfl ?_
  simp only [nmz];refine qB ?_;clear hca0 hcb0 hca1 hcb1 hca2 hcb2 hB12 hB1 hB2;have h9 := HRES.out;have hres : res = false := by simpa using h9.symm
  clear h9;go_wp2;go_ret;exact ⟨by rw [hres]; rfl, hm3⟩
 | true =>
  have H9 := hid (show (decide (b1 = b2) && decide (n1 = n2)) = res by have h := HRES.out; simpa using h)
  by_cases hb12 : b1 = b2
  · have hz : (b1 : Int) = (b2 : Nat) := by omega
    have hzb : ((b1 : Int) == ((b2 : Nat) : Int)) = true := by simpa using hz
    refine wpR [3, 1, 3, 1, 1, 3, 3, 1, 3, 1, 3, 3, 3, 3, 1, 3, 1, 3, 3, 3] (by rfl) (by rfl) ?_;simp only [zz2];refine qE _ _ _ _ _ _ rfl rfl rfl fo_104_0 ?_
    simp only [nmz];refine wpXd 25 ba (0 + 0) hca0 underlying25 trivial ?_;refine qE _ _ _ _ _ _ rfl rfl rfl fo_104_0 ?_;simp only [nmz]
    refine wpXd 25 bb (0 + 0) hcb0 underlying25 trivial ?_;try simp only [nmz]
    refine wpDo rfl ?_;refine qG (qH 24 [.tmp 6, .tmp 8] _ rfl _ func24 rfl (by kernel_rfl) [va, vb] rfl _) (hsame) ?_;rintro e w3 ⟨rfl, hg3⟩
    have hm3 := hm02.trans0 hg3;have hca1' := hg3.cell id hca1;have hcb1' := hg3.cell id hcb1;have hca2' := hg3.cell id hca2;have hcb2' := hg3.cell id hcb2;refine ⟨_, rfl, ?_⟩
    refine qA _ rfl rfl ?_;simp only [nmz];refine qE _ _ _ _ _ _ rfl rfl rfl fo_104_1 ?_;simp only [nmz];refine wpXd 3 ba (0 + 1) hca1' underlying3 trivial ?_
    refine qE _ _ _ _ _ _ rfl rfl rfl fo_104_1 ?_;simp only [nmz];refine wpXd 3 bb (0 + 1) hcb1' underlying3 trivial ?_;try simp only [nmz]
    refine qY _ _ _ _ _ _ _ _ rfl rfl rfl rfl rfl true (decide_eq_true hz) ?_;simp only [nmz];refine qQ _ _ _ _ rfl rfl rfl ?_;simp only [nmz]
    refine qA _ rfl rfl ?_;simp only [nmz];refine qE _ _ _ _ _ _ rfl rfl rfl fo_104_2 ?_;simp only [nmz];refine wpXd 3 ba (0 + 2) hca2' underlying3 trivial ?_
    refine qE _ _ _ _ _ _ rfl rfl rfl fo_104_2 ?_;simp only [nmz];refine wpXd 3 bb (0 + 2) hcb2' underlying3 trivial ?_;try simp only [nmz]
    refine qY _ _ _ _ _ _ _ _ rfl rfl rfl rfl rfl (decide (n1 = n2)) (show decide (((n1 : Nat) : Int) = ((n2 : Nat) : Int)) = decide (n1 = n2) by rw [decide_eq_decide]; omega) ?_
    simp only [nmz];refine qQ _ _ _ _ rfl rfl rfl ?_;simp only [nmz];refine qD _ rfl rfl ?_;simp only [nmz];refine qB ?_
    clear hca0 hcb0 hca1 hcb1 hca2 hcb2 hB12 hB1 hB2;have h9 := H9.out;rw [decide_eq_true hb12, Bool.true_and] at h9;have HR := hid h9;clear h9;go_wp2;go_ret
    exact ⟨by rw [← HR.out]; rfl, hm3⟩
  · have hz : ¬ (b1 : Int) = (b2 : Nat) := by omega
    refine wpR [3, 1, 3, 1, 1, 3, 3, 1, 3, 1, 3, 3, 3, 3, 0, 3, 0, 3, 3, 3] (by rfl) (by rfl) ?_;simp only [zz2];refine qE _ _ _ _ _ _ rfl rfl rfl fo_104_0 ?_
    simp only [nmz];refine wpXd 25 ba (0 + 0) hca0 underlying25 trivial ?_;refine qE _ _ _ _ _ _ rfl rfl rfl fo_104_0 ?_;simp only [nmz]
    refine wpXd 25 bb (0 + 0) hcb0 underlying25 trivial ?_;try simp only [nmz]
    refine wpDo rfl ?_;refine qG (qH 24 [.tmp 6, .tmp 8] _ rfl _ func24 rfl (by kernel_rfl) [va, vb] rfl _) (hsame) ?_;rintro e w3 ⟨rfl, hg3⟩
    have hm3 := hm02.trans0 hg3;have hca1' := hg3.cell id hca1;have hcb1' := hg3.cell id hcb1;refine ⟨_, rfl, ?_⟩;refine qA _ rfl rfl ?_;simp only [nmz]
    refine qE _ _ _ _ _ _ rfl rfl rfl fo_104_1 ?_;simp only [nmz];refine wpXd 3 ba (0 + 1) hca1' underlying3 trivial ?_;refine qE _ _ _ _ _ _ rfl rfl rfl fo_104_1 ?_
    simp only [nmz];refine wpXd 3 bb (0 + 1) hcb1' underlying3 trivial ?_;try simp only [nmz]
    refine qY _ _ _ _ _ _ _ _ rfl rfl rfl rfl rfl false (decide_eq_false hz) ?_;simp only [nmz];refine qQ _ _ _ _ rfl rfl rfl ?_;simp only [nmz]
    refine qA _ rfl rfl ?_;simp only [nmz];refine qV rfl ?_;simp only [nmz];refine zK rfl ?_;simp only [nmz];refine qV rfl ?_;simp only [nmz]
    refine zK rfl ?_;simp only [nmz];refine qV rfl ?_;simp only [nmz];refine qQ _ _ _ _ rfl rfl rfl ?_;simp only [nmz];refine qD _ rfl rfl ?_
    simp only [nmz];refine qB ?_;clear hca0 hcb0 hca1 hcb1 hca2 hcb2 hB12 hB1 hB2;have h9 := H9.out;rw [decide_eq_false hb12, Bool.false_and] at h9;go_wp2;go_ret
    exact ⟨by rw [← h9]; rfl, hm3⟩
theorem wp_bytesConst {P : Program} {o : Oper} {a : Act} {w : World} {K : Act → World → Prop} {Q : Exit → Act → World → Prop} (t e : TypeId) (x : Operand) (b n c : Nat) (C : Array Value) (ho : o.op = .convert t t x) (hx : a.eval x = .slice (some ⟨b, 0, none⟩) n c)
 (ht : P.underlying t = some (.slice e)) (he : P.underlying e = some (.int .u8)) (hb : w.heap[b]? = some (.cells C e (0, 0)))
 (h : ∀ w', w'.heap[b]? = some (.cells C e (C.size, C.size + 1)) → Mod (fun k => k = b) w w' → K (a.put o.dst (.slice (some ⟨b, 0, none⟩) n c)) w') : o.wp P a w K Q := by
 have hsh : w.shape? b = some (e, C.size) := by unfold World.shape?; rw [hb]
 have hr : (convert t t (.slice (some ⟨b, 0, none⟩) n c)).run P w = .ok (.slice (some ⟨b, 0, none⟩) n c) (w.freeze ⟨b, C.size, none⟩ 1) := by
  simp [convert, run_underlying ht, run_underlying he, markStringish, hsh]
 unfold Oper.wp execOp;simp only [ho, hx, Sem.run_bind, hr, Result.andThen_ok, Sem.run_pure];refine h _ ?_ ⟨rfl, rfl, rfl, ?_, fun k hk hne => ?_⟩
 · unfold World.freeze
   rw [if_neg (by decide)]
   show (w.heap.modify b _)[b]? = _
   rw [Array.getElem?_modify, if_pos rfl, hb]
   rfl
 · unfold World.freeze
   rw [if_neg (by decide)]
   simp
 · unfold World.freeze
   rw [if_neg (by decide)]
   show (w.heap.modify b _)[k]? = _
   rw [Array.getElem?_modify, if_neg (fun e => hne e.symm)]
theorem sl_bytes {w : World} {b n : Nat} {l : List UInt8} {T : TypeId} {fr : Nat × Nat} (h : w.heap[b]? = some (.cells (qC l) T fr)) (hn : n = l.length) (hm : l.length ≤ 1000) : Sl false w AnyB 1 ByteC (.slice (some ⟨b, 0, none⟩) n n) l := by
 subst hn
 refine ⟨some ⟨b, 0, none⟩, l.length, rfl, Nat.le_refl _, by unfold maxLen; omega, fun _ => ⟨b, 0, rfl, trivial, fun e => (by cases e), fun i hi => ⟨#[byteV l[i]], rfl, rfl, ?_⟩⟩⟩
 refine CellsAt.of_obj h fun j hj => ?_;have h0 : j = 0 := by simpa using hj
 subst h0
 simp [qC, hi]
theorem cells_nth {w : World} {b : Nat} {C : Array Value} {T : TypeId} {fr : Nat × Nat} (h : w.heap[b]? = some (.cells C T fr)) (i : Nat) (c : Value) (hc : C[i]? = some c) : CellsAt w b (0 + i * 1) #[c] := CellsAt.of_obj h fun j hj => by
 have h0 : j = 0 := by simpa using hj
 subst h0
 simpa using hc
theorem results_row3 {P : Program} {fn : Func} {p q r : Tmp} {ty tz tx : TypeId} (h : fn.results = #[.cell p ty, .cell q tz, .cell r tx]) (tmps : Array Value) (w : World) (g1 g2 g3 : Nat) (t1 t2 t3 : TypeId) (c1 c2 c3 : Array Value) (f1 f2 f3 : Nat × Nat) (d1 d2 d3 : TypeDesc)
 (hp1 : tmps.getD p undef = .pointer (some ⟨g1, 0, none⟩)) (hg1 : w.heap[g1]? = some (.cells c1 t1 f1)) (hp2 : tmps.getD q undef = .pointer (some ⟨g2, 0, none⟩)) (hg2 : w.heap[g2]? = some (.cells c2 t2 f2)) (hp3 : tmps.getD r undef = .pointer (some ⟨g3, 0, none⟩)) (hg3 : w.heap[g3]? = some (.cells c3 t3 f3))
 (hu1 : P.underlying ty = some d1) (hd1 : (match d1 with | .struct _ | .array _ _ => true | _ => false) = true) (hi1 : (P.info? ty).map (·.size) = some c1.size)
 (hu2 : P.underlying tz = some d2) (hd2 : (match d2 with | .struct _ | .array _ _ => true | _ => false) = true) (hi2 : (P.info? tz).map (·.size) = some c2.size)
 (hu3 : P.underlying tx = some d3) (hd3 : (match d3 with | .struct _ | .array _ _ => true | _ => false) = true) (hi3 : (P.info? tx).map (·.size) = some c3.size) :
 (results fn tmps).run P w = .ok (.tuple #[.agg c1, .agg c2, .agg c3]) w := by
 have e1 : tmps[p]?.getD undef = .pointer (some ⟨g1, 0, none⟩) := by simpa using hp1
 have e2 : tmps[q]?.getD undef = .pointer (some ⟨g2, 0, none⟩) := by simpa using hp2
 have e3 : tmps[r]?.getD undef = .pointer (some ⟨g3, 0, none⟩) := by simpa using hp3
 simp [results, h, e1, e2, e3, asAddr, run_loadVar_row w g1 t1 ty c1 f1 d1 hg1 hu1 hd1 hi1, run_loadVar_row w g2 t2 tz c2 f2 d2 hg2 hu2 hd2 hi2, run_loadVar_row w g3 t3 tx c3 f3 d3 hg3 hu3 hd3 hi3]
def idA : List UInt8 := shaL [65]
def idB : List UInt8 := shaL [66, 33]
def TwoR (w : World) : Ending → World → Prop := fun e w' => Mod NoB w w' ∧ ∃ lv kv, e = .returned (.tuple #[.agg (qC idA), .agg (qC idB), .agg #[.int .i64 31, lv, kv]]) ∧ LsAt w' lv [[65], [66, 33]] ∧ Sl false w' AnyB 1 IntC kv [0, 0, 0, 1]
theorem houseZ : (prog.info? 68).bind (·.zero) = some (.agg #[.int .i64 0, .slice none 0 0, .slice none 0 0]) := by kernel_rfl
theorem byte_zs : (prog.info? 5).map (fun i => (i.zero, i.size)) = some (some (byteV 0), 1) := by kernel_rfl
theorem bytes_zs : (prog.info? 53).map (fun i => (i.zero, i.size)) = some (some (.slice none 0 0), 1) := by kernel_rfl
theorem built_house (n : Int) (ad bd : Option Addr) (k c k' c' : Nat) : prog.built 68 [(0, .int .i64 n), (1, .slice ad k c), (2, .slice bd k' c')] = some #[.int .i64 n, .slice ad k c, .slice bd k' c'] := by
 have p : yD prog 68 = some [(0, 1), (1, 1), (2, 1)] := by kernel_rfl
 rw [xG houseZ p, zU (off := 0) (size := 1) rfl (by rfl) (by simp), zU (off := 1) (size := 1) rfl (by rfl) (by simp [zN, Value.cells]), zU (off := 2) (size := 1) rfl (by rfl) (by simp [zN, Value.cells]), yL]
 rfl
theorem two_any (w : World) : Calls prog 55 #[] w (TwoR w) := by
 have hA : (qC idA).size = 32 := by rw [qI]; exact shaL_len _
 have hB : (qC idB).size = 32 := by rw [qI]; exact shaL_len _
 have hz32 : (qC (List.replicate 32 0)).size = 32 := idZ_size;go_enter func55, ntmps55;go_upto_region 0 with (fail);refine wpR [1, 1, 1] (by rfl) (by rfl) ?_;simp only [zz2]
 refine wpDo rfl ?_;refine qU 24 _ (by rfl) idZ (fun w1 hB1 hm1 hs1 => ?_);replace hB1 : w1.heap[w.heap.size]? = some (.cells (qC (List.replicate 32 0)) 24 (0, 0)) := hB1
 try simp only [nmz]
 refine wpDo rfl ?_;refine qU 24 _ (by rfl) idZ (fun w2 hB2 hm2 hs2 => ?_)
 replace hB2 : w2.heap[w1.heap.size]? = some (.cells (qC (List.replicate 32 0)) 24 (0, 0)) := hB2;try simp only [nmz]
 refine wpDo rfl ?_;refine qU 68 _ (by rfl) houseZ (fun w3 hB3 hm3 hs3 => ?_)
 replace hB3 : w3.heap[w2.heap.size]? = some (.cells #[.int .i64 0, .slice none 0 0, .slice none 0 0] 68 (0, 0)) := hB3;try simp only [nmz]
 refine qB ?_;have hB13 := (hm2.trans0 hm3).obj id hB1;have hB23 := hm3.obj id hB2;have hm03 := (hm1.trans0 hm2).trans0 hm3;have hs12 : w1.heap.size < w2.heap.size := hs2
 have hs01 : w.heap.size < w1.heap.size := hs1;generalize hb0 : w.heap.size = b0 at *;generalize hb1 : w1.heap.size = b1 at *;generalize hb2 : w2.heap.size = b2 at *
 clear hm1 hm2 hm3 hB1 hB2 hs1 hs2;go_upto_region 1 with (fail);refine wpR [1, 1, 1, 1, 1, 1, 1, 1, 1, 1, 1, 1, 0, 1, 1, 1] (by rfl) (by rfl) ?_;simp only [zz2];refine wpDo rfl ?_
 refine zC 53 5 _ (byteV 65) (byteV 0) 1 (by rfl) (by rfl) underlying53 byte_zs (by omega) (by omega) rfl (fun w4 hB4 hm4 hs4 => ?_)
 replace hB4 : w4.heap[w3.heap.size]? = some (.cells (qC [65]) 5 (0, 0)) := hB4;try simp only [nmz]
 refine wpDo rfl ?_;refine wp_bytesConst 53 5 _ w3.heap.size 1 1 _ (by rfl) (by rfl) underlying53 underlying5 hB4 (fun w5 hB5 hm5 => ?_)
 have hm35 : Mod NoB w3 w5 := hm4.transB hm5 (Nat.le_refl _);have hsA := shaSum_any (sl_bytes (n := 1) hB5 rfl (by simp)) (by simp);try simp only [nmz]
 refine wpDo rfl ?_;refine qG (qH 96 [.tmp 4] _ rfl _ func96 rfl (by kernel_rfl) [.slice (some ⟨w3.heap.size, 0, none⟩) 1 1] rfl _) (hsA) ?_;rintro e w6 ⟨rfl, hm6⟩
 have hm36 := hm35.trans0 hm6;refine ⟨_, rfl, ?_⟩;try simp only [nmz]
 refine wpDo rfl ?_
 refine xP 53 5 2 [(0, _), (1, _)] [byteV 66, byteV 33] (byteV 0) 1 (by rfl) (by rfl) (by rfl) underlying53 byte_zs (by omega) (by omega) (by simp [Value.cells, byteV]) (fun w7 hB7 hm7 hs7 => ?_)
 replace hB7 : w7.heap[w6.heap.size]? = some (.cells (qC [66, 33]) 5 (0, 0)) := hB7;try simp only [nmz]
 refine wpDo rfl ?_;refine wp_bytesConst 53 5 _ w6.heap.size 2 2 _ (by rfl) (by rfl) underlying53 underlying5 hB7 (fun w8 hB8 hm8 => ?_)
 have hm68 : Mod NoB w6 w8 := hm7.transB hm8 (Nat.le_refl _);have hsB := shaSum_any (sl_bytes (n := 2) hB8 rfl (by simp)) (by simp);try simp only [nmz]
 refine wpDo rfl ?_;refine qG (qH 96 [.tmp 7] _ rfl _ func96 rfl (by kernel_rfl) [.slice (some ⟨w6.heap.size, 0, none⟩) 2 2] rfl _) (hsB) ?_;rintro e w9 ⟨rfl, hm9⟩
 have hm39 := hm36.trans0 (hm68.trans0 hm9);clear hm36 hm68 hm9 hm7 hm8 hB7 hB8 hsA hsB hm35 hm6 hB4 hB5 hm4 hm5;refine ⟨_, rfl, ?_⟩;try simp only [nmz]
 refine wpDo rfl ?_;refine zC 53 5 _ (byteV 65) (byteV 0) 1 (by rfl) (by rfl) underlying53 byte_zs (by omega) (by omega) rfl (fun wa hBa hma hsa => ?_)
 replace hBa : wa.heap[w9.heap.size]? = some (.cells (qC [65]) 5 (0, 0)) := hBa;try simp only [nmz]
 refine wpDo rfl ?_;refine wp_bytesConst 53 5 _ w9.heap.size 1 1 _ (by rfl) (by rfl) underlying53 underlying5 hBa (fun wb hBb hmb => ?_)
 have hm9b : Mod NoB w9 wb := hma.transB hmb (Nat.le_refl _);try simp only [nmz]
 refine wpDo rfl ?_
 refine xP 53 5 2 [(0, _), (1, _)] [byteV 66, byteV 33] (byteV 0) 1 (by rfl) (by rfl) (by rfl) underlying53 byte_zs (by omega) (by omega) (by simp [Value.cells, byteV]) (fun wc hBc hmc hsc => ?_)
 replace hBc : wc.heap[wb.heap.size]? = some (.cells (qC [66, 33]) 5 (0, 0)) := hBc;try simp only [nmz]
 refine wpDo rfl ?_;refine wp_bytesConst 53 5 _ wb.heap.size 2 2 _ (by rfl) (by rfl) underlying53 underlying5 hBc (fun wd hBd hmd => ?_)
 have hmbd : Mod NoB wb wd := hmc.transB hmd (Nat.le_refl _);try simp only [nmz]
 refine wpDo rfl ?_
 refine xP 22 53 2 [(0, _), (1, _)] [.slice (some ⟨w9.heap.size, 0, none⟩) 1 1, .slice (some ⟨wb.heap.size, 0, none⟩) 2 2] (.slice none 0 0) 1 (by rfl) (by rfl) (by rfl) underlying22 bytes_zs (by omega) (by omega) (by simp [Value.cells]) (fun we hBe hme hse => ?_)
 replace hBe : we.heap[wd.heap.size]? = some (.cells #[.slice (some ⟨w9.heap.size, 0, none⟩) 1 1, .slice (some ⟨wb.heap.size, 0, none⟩) 2 2] 53 (0, 0)) := hBe;try simp only [nmz]
 refine wpDo rfl ?_
 refine xP 64 3 4 [(0, _), (1, _), (2, _), (3, _)] [.int .i64 0, .int .i64 0, .int .i64 0, .int .i64 1] (.int .i64 0) 1 (by rfl) (by rfl) (by rfl) underlying64 int_zs (by omega) (by omega) (by simp [Value.cells]) (fun wf hBf hmf hsf => ?_)
 replace hBf : wf.heap[we.heap.size]? = some (.cells #[.int .i64 0, .int .i64 0, .int .i64 0, .int .i64 1] 3 (0, 0)) := hBf
 have hm3f : Mod NoB w3 wf := hm39.trans0 ((hm9b.trans0 hmbd).trans0 (hme.trans0 hmf));have hX1 := hm3f.obj id hB13;try simp only [nmz]
 refine qS rfl (fun w' hS => qT 68 [(0, _), (1, _), (2, _)] [(0, .int .i64 31), (1, .slice (some ⟨wd.heap.size, 0, none⟩) 2 2), (2, .slice (some ⟨we.heap.size, 0, none⟩) 4 4)] _ (by rfl) (by rfl) (built_house 31 _ _ 2 2 4 4)) ?_
 simp only [nmz];refine wpDo rfl ?_
 refine qM 24 _ _ b0 0 (qC idA) (by rfl) (by rfl) (by rfl) (qZ _) 32 (by kernel_rfl) hA _ _ hX1 (by rw [hA, hz32]; omega) (fun wg hBg hmg => ?_)
 rw [qK (by rw [hA, hz32])] at hBg;have hX2 := hmg.objB (b := b1) (by omega) (hm3f.obj id hB23);have hX3 := hmg.objB (b := b2) (by omega) (hm3f.obj id hB3)
 try simp only [nmz]
 refine wpDo rfl ?_
 refine qM 24 _ _ b1 0 (qC idB) (by rfl) (by rfl) (by rfl) (qZ _) 32 (by kernel_rfl) hB _ _ hX2 (by rw [hB, hz32]; omega) (fun wh hBh hmh => ?_)
 rw [qK (by rw [hB, hz32])] at hBh;have hY1 := hmh.objB (b := b0) (by omega) hBg;have hY3 := hmh.objB (b := b2) (by omega) hX3;try simp only [nmz]
 refine wpDo rfl ?_
 refine qM 68 _ _ b2 0 #[.int .i64 31, .slice (some ⟨wd.heap.size, 0, none⟩) 2 2, .slice (some ⟨we.heap.size, 0, none⟩) 4 4] (by rfl) (by rfl) (by rfl) (by intro c hc; simp at hc; rcases hc with rfl | rfl | rfl <;> rfl) 3 (by kernel_rfl) rfl _ _ hY3 (by simp) (fun wi hBi hmi => ?_)
 rw [qK (by simp)] at hBi;have hZ1 := hmi.objB (b := b0) (by omega) hY1;have hZ2 := hmi.objB (b := b1) (by omega) hBh;try simp only [nmz]
 refine qB ?_;have hb23 : b2 < w3.heap.size := (Array.getElem?_eq_some_iff.1 hB3).1
 have keep : ∀ k o, w3.heap.size ≤ k → wf.heap[k]? = some o → wi.heap[k]? = some o := fun k o hk ho =>
  hmi.obj (fun e => by have e : k = b2 := e; omega) (hmh.obj (fun e => by have e : k = b1 := e; omega) (hmg.obj (fun e => by have e : k = b0 := e; omega) ho))
 have hM : Mod NoB w wi := (((hm03.trans0 hm3f).transB hmg (by omega)).transB hmh (by omega)).transB hmi (by omega);have s9 := hm39.size;have sb := hm9b.size;have sd := hmbd.size
 have se := hme.size;have kb := keep _ _ (by omega) ((hmbd.trans0 (hme.trans0 hmf)).obj id hBb);have kd := keep _ _ (by omega) ((hme.trans0 hmf).obj id hBd)
 have ke := keep _ _ (by omega) (hmf.obj id hBe);have kf := keep _ _ (by omega) hBf
 have hl : LsAt wi (.slice (some ⟨wd.heap.size, 0, none⟩) 2 2) [[65], [66, 33]] := by
  refine ⟨_, _, rfl, Nat.le_refl _, by unfold maxLen; omega, fun _ => ⟨wd.heap.size, 0, rfl, trivial, fun e => (by cases e), fun i hi => ?_⟩⟩
  match i, hi with
  | 0, _ => exact ⟨#[.slice (some ⟨w9.heap.size, 0, none⟩) 1 1], rfl, ⟨_, rfl, sl_bytes kb rfl (by simp)⟩, cells_nth ke _ _ rfl⟩
  | 1, _ => exact ⟨#[.slice (some ⟨wb.heap.size, 0, none⟩) 2 2], rfl, ⟨_, rfl, sl_bytes kd rfl (by simp)⟩, cells_nth ke _ _ rfl⟩
 have hk4 : Sl false wi AnyB 1 IntC (.slice (some ⟨we.heap.size, 0, none⟩) 4 4) [0, 0, 0, 1] := by
  refine ⟨_, _, rfl, Nat.le_refl _, by unfold maxLen; omega, fun _ => ⟨we.heap.size, 0, rfl, trivial, fun e => (by cases e), fun i hi => ?_⟩⟩
  match i, hi with
  | 0, _ => exact ⟨_, rfl, rfl, cells_nth kf _ _ rfl⟩
  | 1, _ => exact ⟨_, rfl, rfl, cells_nth kf _ _ rfl⟩
  | 2, _ => exact ⟨_, rfl, rfl, cells_nth kf _ _ rfl⟩
  | 3, _ => exact ⟨_, rfl, rfl, cells_nth kf _ _ rfl⟩
 have HF : Hid (TwoR w (.returned (.tuple #[.agg (qC idA), .agg (qC idB), .agg #[.int .i64 31, .slice (some ⟨wd.heap.size, 0, none⟩) 2 2, .slice (some ⟨we.heap.size, 0, none⟩) 4 4]])) wi) := hid ⟨hM, _, _, rfl, hl, hk4⟩
 clear hM hl hk4 kb kd ke kf keep hm3f hm39 hm9b hmbd hme hmf hma hmb hmc hmd hmg hmh hmi hBa hBb hBc hBd hBe hBf hBg hBh hX1 hX2 hX3 hY1 hY3 hm03;go_wp2
 refine bodyPost_ret (results_row3 (P := prog) (ty := 24) (tz := 24) (tx := 68) rfl _ _ b0 b1 b2 _ _ _ _ _ _ _ _ _ _ _ _ (by rfl) hZ1 (by rfl) hZ2 (by rfl) hBi underlying24 rfl (by rw [hA]; kernel_rfl) underlying24 rfl (by rw [hB]; kernel_rfl) underlying68 rfl (by kernel_rfl)) rfl ?_
 exact HF.out
end
section
open Go.RowKit Go.Proofs.Tryz Go.Lib
theorem yJ : idA.length = 32 := shaL_len _
theorem idB_len : idB.length = 32 := shaL_len _
theorem idA_ne_idB : idA ≠ idB := by decide +kernel
theorem idB_ne_idA : idB ≠ idA := fun e => idA_ne_idB e.symm
theorem wid31 : widZ 31 = 32 := by decide
theorem decA : decL [65] = none := by decide +kernel
attribute [local irreducible] shaL ofI
def cAB : BlobL := [(idA, [65]), (idB, [66, 33])]
def rA : ByteArray := ⟨#[97]⟩
def lAB : LinkL := [((rA, idA), 1), ((rA, idB), 2)]
theorem cOf_AB : cOf 32 [[65], [66, 33]] = cAB := by
 have h1 : putB idA [65] [] = [(idA, [65])] := rfl
 have h2 : putB idB [66, 33] [(idA, [65])] = cAB := by
  unfold putB;rw [if_neg (by simp [getL, idB_ne_idA, idA_ne_idB])]
  rfl
 have h3 : ofI 32 [65] = idA := ofI_whole _;have h4 : ofI 32 [66, 33] = idB := ofI_whole _;unfold cOf;rw [List.foldl_cons, List.foldl_cons, List.foldl_nil, h3, h4, h1, h2]
theorem nameB_a : nameB rA = true := by decide +kernel
theorem addL_ok (l : LinkL) (k : Key) (size : Int) (hn : nameB k.1 = true) (h0 : 0 ≤ size) (h1 : size ≤ 4096) (hg : getL k l = none) (hl : l.length < 65536) : addL false 1099511627776 l k size = l ++ [(k, size)] := by
 have h : (addE false 1099511627776 l k size).1 = true := by
  unfold addE;rw [if_pos hn, if_neg (by omega), hg]
  simp [holdB, Nat.not_le.2 hl]
 unfold addL;rw [if_pos h]
theorem lOf_AB : lOf 32 [[65], [66, 33]] [0, 0, 0, 1] (laysN [[65], [66, 33]] [0, 0, 0, 1]) = lAB := by
 have h0 : laysN [[65], [66, 33]] [0, 0, 0, 1] = 2 := rfl;have hr : repoZ 0 = rA := rfl
 have e1 : layZ 32 [[65], [66, 33]] [] 0 0 = [((rA, idA), 1)] := by
  have h := addL_ok [] (rA, idA) 1 nameB_a (by omega) (by omega) rfl (by simp);have h3 : ofI 32 [65] = idA := ofI_whole _
  show addL false 1099511627776 [] (repoZ 0, ofI 32 [65]) (([65] : List UInt8).length : Nat) = _
  rw [h3, hr];exact h
 have e2 : layZ 32 [[65], [66, 33]] [((rA, idA), 1)] 0 1 = lAB := by
  have h := addL_ok [((rA, idA), 1)] (rA, idB) 2 nameB_a (by omega) (by omega) (by simp [getL, idB_ne_idA, idA_ne_idB]) (by simp);have h3 : ofI 32 [66, 33] = idB := ofI_whole _
  show addL false 1099511627776 [((rA, idA), 1)] (repoZ 0, ofI 32 [66, 33]) (([66, 33] : List UInt8).length : Nat) = _
  rw [h3, hr];exact h
 rw [h0]
 show layZ 32 [[65], [66, 33]] (layZ 32 [[65], [66, 33]] [] 0 0) 0 1 = lAB
 rw [e1, e2]
theorem getAB1 : getL idA cAB = some [65] := by simp [cAB, getL]
theorem inR_A (x : List UInt8) : inR cAB 5 idA 1 x ↔ x = idA := by
 have hd : descsOf cAB idA = none := by unfold descsOf; rw [getAB1]; simp [decA]
 constructor
 · rintro (h | ⟨_, ds, hds, _⟩)
   · exact h
   · rw [hd] at hds; cases hds
 · intro h; exact .inl h
theorem sorted_ext {l m : List (List UInt8)} (hl : l.Pairwise (fun a b => a < b)) (hm : m.Pairwise (fun a b => a < b)) (h : ∀ x, x ∈ l ↔ x ∈ m) : l = m := by
 have hp : l.Perm m := (List.perm_ext_iff_of_nodup (lt_nodup hl) (lt_nodup hm)).2 h;exact hp.eq_of_pairwise (fun a b _ _ h1 h2 => absurd (ltB_trans h1 h2) (List.lt_irrefl _)) hl hm
theorem marks_A {out : List (List UInt8)} (h : MarkedOf cAB [idA] [] out) : out = [idA] := by
 refine sorted_ext h.1 (List.pairwise_singleton _ _) fun x => ?_;rw [h.2 x]
 simp [refsL, inR_A]
theorem roots_A {out : List (List UInt8)} (h : SetOf [idA] out) : out = [idA] := sorted_ext h.1 (List.pairwise_singleton _ _) h.2
theorem gone_A {ids : List (List UInt8)} (h : IDsC cAB ids) : goneL ids [idA] = [idB] := by
 have hp : (goneL ids [idA]).Pairwise (fun a b => a < b) := h.1.sublist List.filter_sublist;refine sorted_ext hp (List.pairwise_singleton _ _) fun x => ?_;unfold goneL
 rw [List.mem_filter, h.2.mem_iff];simp only [cAB, List.map_cons, List.map_nil, List.mem_cons, List.not_mem_nil, or_false, Bool.not_eq_true', decide_eq_false_iff_not]
 constructor
 · rintro ⟨rfl | rfl, h2⟩
   · exact absurd rfl h2
   · rfl
 · rintro rfl
   exact ⟨.inr rfl, fun e => idA_ne_idB e.symm⟩
theorem run_A : swRun [idB] cAB lAB = ([(idA, [65])], [((rA, idA), 1)], 2, 1) := by
 have hne := idA_ne_idB;have hn2 : idB ≠ idA := fun e => hne e.symm
 simp [swRun, swStep, cAB, lAB, delL, getL, forgetL, forgetN, hne, hn2]
end
section
open Go.RowKit Go.Shelf Go.Proofs.Tryz Go.Lib
theorem zL {P : Program} {o : Oper} {a : Act} {w : World} {K : Act → World → Prop} {Q : Exit → Act → World → Prop} (t e : TypeId) (x : Operand) (v : Value) (z : Value) (n : Nat) (ho : o.op = .buildSlice t 1 #[(0, x)]) (hx : a.eval x = v) (hu : P.underlying t = some (.slice e))
 (hi : (P.info? e).map (fun i => (i.zero, i.size)) = some (some z, n)) (hn : 0 < n) (hn' : n ≤ 16777216) (hv : v.cells.size = n)
 (h : ∀ b w', w'.heap[b]? = some (.cells v.cells e (0, 0)) → Mod NoB w w' → K (a.put o.dst (.slice (some ⟨b, 0, none⟩) 1 1)) w') : o.wp P a w K Q :=
 zC t e x v z n ho hx hu hi hn hn' hv fun w' h1 h2 _ => h _ w' h1 h2
theorem built_swept (ad : Option Addr) (k c : Nat) (x y : Int) : prog.built 104 [(0, .slice ad k c), (1, .int .i64 x), (2, .int .i64 y)] = some #[.slice ad k c, .int .i64 x, .int .i64 y] := by
 have p : yD prog 104 = some [(0, 1), (1, 1), (2, 1)] := by kernel_rfl
 rw [xG sweptZ p, zU (off := 0) (size := 1) rfl (by rfl) (by simp), zU (off := 1) (size := 1) rfl (by rfl) (by simp [zN, Value.cells]), zU (off := 2) (size := 1) rfl (by rfl) (by simp [zN, Value.cells]), yL]
 rfl
theorem id_zs : (prog.info? 24).map (fun i => (i.zero, i.size)) = some (some (.agg (qC (List.replicate 32 0))), 32) := by kernel_rfl
theorem awake_any (w : World) : Calls prog 42 #[] w (RetM (.bool true) w) := by
 have hA : (qC idA).size = 32 := by rw [qI, yJ]
 have hB : (qC idB).size = 32 := by rw [qI, idB_len]
 have hz32 : (qC (List.replicate 32 0)).size = 32 := idZ_size;go_enter func42, ntmps42;go_upto_region 1 with (fail)
 refine wpR [1, 3, 3, 3, 3, 1, 1, 1, 1, 1, 1] (by rfl) (by rfl) ?_;simp only [zz2];refine wpDo rfl ?_
 refine qG (qH 55 [] _ rfl _ func55 rfl (by kernel_rfl) [] rfl _) (two_any _) ?_;rintro e w1 ⟨hm1, lv, kv, he1, hl1, hk1⟩;subst he1;refine ⟨_, rfl, ?_⟩
 refine qA _ rfl rfl ?_;simp only [nmz]
 refine qJ rfl (fun w' => qP _ 0 #[.agg (qC idA), .agg (qC idB), .agg #[.int .i64 31, lv, kv]] rfl rfl (.agg (qC idA)) rfl) ?_;simp only [nmz]
 refine qJ rfl (fun w' => qP _ 1 #[.agg (qC idA), .agg (qC idB), .agg #[.int .i64 31, lv, kv]] rfl rfl (.agg (qC idB)) rfl) ?_;simp only [nmz]
 refine qJ rfl (fun w' => qP _ 2 #[.agg (qC idA), .agg (qC idB), .agg #[.int .i64 31, lv, kv]] rfl rfl (.agg #[.int .i64 31, lv, kv]) rfl) ?_
 simp only [nmz];refine wpDo rfl ?_;refine qU 24 _ (by rfl) idZ (fun w2 hB2 hm2 hs2 => ?_)
 replace hB2 : w2.heap[w1.heap.size]? = some (.cells (qC (List.replicate 32 0)) 24 (0, 0)) := hB2;try simp only [nmz]
 refine wpDo rfl ?_;refine qU 24 _ (by rfl) idZ (fun w3 hB3 hm3 hs3 => ?_)
 replace hB3 : w3.heap[w2.heap.size]? = some (.cells (qC (List.replicate 32 0)) 24 (0, 0)) := hB3;try simp only [nmz]
 refine wpDo rfl ?_;refine qU 68 _ (by rfl) houseZ (fun w4 hB4 hm4 hs4 => ?_)
 replace hB4 : w4.heap[w3.heap.size]? = some (.cells #[.int .i64 0, .slice none 0 0, .slice none 0 0] 68 (0, 0)) := hB4;have hX1 := (hm3.trans0 hm4).obj id hB2;try simp only [nmz]
 refine wpDo rfl ?_
 refine qM 24 _ _ w1.heap.size 0 (qC idA) (by rfl) (by rfl) (by rfl) (qZ _) 32 (by kernel_rfl) hA _ _ hX1 (by rw [hA, hz32]; omega) (fun w5 hB5 hm5 => ?_)
 rw [qK (by rw [hA, hz32])] at hB5;have hX2 := hm5.objB (b := w2.heap.size) (by omega) (hm4.obj id hB3);have hX3 := hm5.objB (b := w3.heap.size) (by omega) hB4
 try simp only [nmz]
 refine wpDo rfl ?_
 refine qM 24 _ _ w2.heap.size 0 (qC idB) (by rfl) (by rfl) (by rfl) (qZ _) 32 (by kernel_rfl) hB _ _ hX2 (by rw [hB, hz32]; omega) (fun w6 hB6 hm6 => ?_)
 rw [qK (by rw [hB, hz32])] at hB6;have hY1 := hm6.objB (b := w1.heap.size) (by omega) hB5;have hY3 := hm6.objB (b := w3.heap.size) (by omega) hX3;try simp only [nmz]
 refine wpDo rfl ?_
 refine qM 68 _ _ w3.heap.size 0 #[.int .i64 31, lv, kv] (by rfl) (by rfl) (by rfl) (by intro c hc; simp at hc; rcases hc with rfl | rfl | rfl <;> first | rfl | exact Sl.one hl1 | exact Sl.one hk1) 3 (by kernel_rfl) rfl _ _ hY3 (by simp) (fun w7 hB7 hm7 => ?_)
 rw [qK (by simp)] at hB7;have hZ1 := hm7.objB (b := w1.heap.size) (by omega) hY1;have hZ2 := hm7.objB (b := w2.heap.size) (by omega) hB6;try simp only [nmz]
 refine qB ?_;have s1 := hm2.size;have s2 := hm3.size;have s3 := hm4.size
 have hm17 : Mod NoB w1 w7 := ((((hm2.trans0 hm3).trans0 hm4).transB hm5 (Nat.le_refl _)).transB hm6 s1).transB hm7 (by omega);have hl7 := lsAt_keep0 hl1 hm17
 have hk7 := hk1.keep0 hm17;have hm07 := hm1.trans0 hm17
 have hbl := built_any (w := w7) (wd := 31) (by constructor <;> omega) hl7 hk7 (by simp) (by simp) (by simp) (by intro x hx; simp at hx; rcases hx with rfl | rfl <;> constructor <;> omega)
 rw [wid31] at hbl;have b17 : w1.heap.size < w7.heap.size := (Array.getElem?_eq_some_iff.1 hZ1).1;have b27 : w2.heap.size < w7.heap.size := (Array.getElem?_eq_some_iff.1 hZ2).1
 generalize hb1 : w1.heap.size = b1 at *;generalize hb2 : w2.heap.size = b2 at *;generalize hb3 : w3.heap.size = b3 at *
 clear hm1 hm2 hm3 hm4 hm5 hm6 hm7 hB2 hB3 hB4 hB5 hB6 hX1 hX2 hX3 hY1 hY3 hm17 hl1 hk1 hs2 hs3 hs4;have hcH : CellsAt w7 b3 0 #[.int .i64 31, lv, kv] := CellsAt.whole hB7
 go_upto_region 2 with (fail);refine wpR [1, 1, 3, 3, 3, 3, 3] (by rfl) (by rfl) ?_;simp only [zz2];refine wpXA 68 b3 0 #[.int .i64 31, lv, kv] hcH underlying68 3 rfl trivial ?_
 try simp only [nmz]
 refine wpDo rfl ?_;refine qG (qH 43 [.tmp 15] _ rfl _ func43 rfl (by kernel_rfl) [.agg #[.int .i64 31, lv, kv]] rfl _) (hbl) ?_
 rintro e w8 ⟨h, hhw, hhr, hhl, ⟨qb, hhq⟩, he8, Ft, hat, hFn, hm78⟩;subst he8;rw [hhq];refine ⟨_, rfl, ?_⟩;refine qA _ rfl rfl ?_;simp only [nmz]
 refine qJ rfl (fun w' => qP _ 0 #[.pointer (some ⟨h.bs, 0, none⟩), .pointer (some ⟨qb, 0, none⟩)] rfl rfl (.pointer (some ⟨h.bs, 0, none⟩)) rfl) ?_;simp only [nmz]
 refine qJ rfl (fun w' => qP _ 1 #[.pointer (some ⟨h.bs, 0, none⟩), .pointer (some ⟨qb, 0, none⟩)] rfl rfl (.pointer (some ⟨qb, 0, none⟩)) rfl) ?_;simp only [nmz]
 refine qD _ rfl rfl ?_;simp only [nmz];refine qD _ rfl rfl ?_;simp only [nmz];refine qB ?_;rw [cOf_AB, lOf_AB] at hat
 have hI1 : CellsAt w8 b1 0 (qC idA) := CellsAt.whole (hm78.obj id hZ1);have hI2 : CellsAt w8 b2 0 (qC idB) := CellsAt.whole (hm78.obj id hZ2)
 have hm08 := hm07.trans0 hm78;clear hbl hl7 hk7 hcH hB7 hZ1 hZ2;go_upto_region 5 with (fail);refine wpR [3, 1, 1, 1, 3] (by rfl) (by rfl) ?_;simp only [zz2]
 refine qA _ rfl rfl ?_;simp only [nmz];refine wpXA 24 b1 0 (qC idA) hI1 underlying24 32 hA trivial ?_;try simp only [nmz]
 refine wpDo rfl ?_;refine qG (qH 56 [.tmp 26] _ rfl _ func56 rfl (by kernel_rfl) [.agg (qC idA)] rfl _) (tagged_any idA yJ _) ?_
 rintro e w9 ⟨hm9, vv, rv, reps, he9, hvv, hreps, hroots⟩;subst he9;have hat9 := hat.keep0 hm9
 have hmk : Calls prog 48 #[.pointer (some ⟨h.bs, 0, none⟩), .agg #[vv, rv], .slice none 0 0] w9 (MarksR w9 cAB [idA] []) := by
  obtain ⟨bl, F, k1, k2, _⟩ := hat9
  have h9 := swMarks_any (l := []) k1 (by rw [k2]; simp [cAB]) hvv hreps (by rw [hroots]; simp) (Sl.nil false w9 AnyB 39 (EvR false w9 AnyB)) (by simp [refsL]);rw [k2, hroots] at h9
  exact h9
 refine ⟨_, rfl, ?_⟩;try simp only [nmz]
 refine wpDo rfl ?_
 refine qG (qH 48 [.tmp 25, .tmp 27, .const (.slice none 0 0)] _ rfl _ func48 rfl (by kernel_rfl) [.pointer (some ⟨h.bs, 0, none⟩), .agg #[vv, rv], .slice none 0 0] rfl _) (hmk) ?_
 rintro e wa ⟨hma, vM, out, hea, hga, hMo, hla⟩;subst hea;obtain rfl := marks_A hMo;refine ⟨_, rfl, ?_⟩;refine qD _ rfl rfl ?_;simp only [nmz];refine qB ?_
 have hlt8 := hat.lt;have hm8a := hm9.trans0 hma;have hata := hat.keep0 hm8a;have hslM := slI hga hla;have s9 := hm9.size
 have hGM : ∀ k, (w9.heap.size ≤ k ∧ k < wa.heap.size ∧ vM.ownBlock = some k) → ¬ Ft k := fun k hk hf => by have := hlt8 _ hf; have := hk.1; omega
 have hsw := swSweep_any hata hslM hGM;rw [hhq] at hsw;clear hmk hreps hroots hga hMo;go_upto_region 6 with (fail);refine wpR [3, 3, 3, 1, 3, 3, 3, 1, 1, 3] (by rfl) (by rfl) ?_
 simp only [zz2];refine qA _ rfl rfl ?_;simp only [nmz];refine qA _ rfl rfl ?_;simp only [nmz];refine qA _ rfl rfl ?_;simp only [nmz];refine wpDo rfl ?_
 refine qG (qH 53 [.tmp 30, .tmp 31, .tmp 32] _ rfl _ func53 rfl (by kernel_rfl) [.pointer (some ⟨h.bs, 0, none⟩), .pointer (some ⟨qb, 0, none⟩), vM] rfl _) (hsw) ?_
 rintro e wb ⟨ids, bv, s, Fb, hidc, hrun, heb, hgb, hatb, hmb, hsb, hnb⟩;subst heb;rw [gone_A hidc] at hrun hgb;rw [run_A] at hrun;subst hrun;refine ⟨_, rfl, ?_⟩
 refine qA _ rfl rfl ?_;simp only [nmz];refine qJ rfl (fun w' => qP _ 0 #[.agg (qR bv 2 1), .int .i64 0] rfl rfl (.agg (qR bv 2 1)) rfl) ?_
 simp only [nmz];refine qJ rfl (fun w' => qP _ 1 #[.agg (qR bv 2 1), .int .i64 0] rfl rfl (.int .i64 0) rfl) ?_;simp only [nmz];refine wpDo rfl ?_
 refine qU 104 _ (by rfl) sweptZ (fun wc hBc hmc hsc => ?_);replace hBc : wc.heap[wb.heap.size]? = some (.cells #[.slice none 0 0, .int .i64 0, .int .i64 0] 104 (0, 0)) := hBc
 try simp only [nmz]
 refine wpDo rfl ?_
 refine qM 104 _ _ wb.heap.size 0 (qR bv 2 1) (by rfl) (by rfl) (by rfl) (by intro c hc; simp [qR] at hc; rcases hc with rfl | rfl | rfl <;> first | rfl | exact xX hgb) 3 (by kernel_rfl) rfl _ _ hBc (by simp [qR]) (fun wd hBd hmd => ?_)
 rw [qK (by simp [qR])] at hBd;refine qD _ rfl rfl ?_;simp only [nmz];refine qB ?_;have hmbd : Mod NoB wb wd := hmc.transB hmd (Nat.le_refl _)
 have hF1 : ∀ k, k < w7.heap.size → ¬ Ft k := fun k hk e => by have := hFn _ e; omega
 have hI1a := hI1.keep hm8a id;have hI1d := (hI1a.keep hmb (hF1 b1 b17)).keep hmbd id;have hI2d := ((hI2.keep hm8a id).keep hmb (hF1 b2 b27)).keep hmbd id
 have hMd := (hslM.keep hmb hGM (fun _ _ h => h)).keep0 hmbd;have hVd := slI (hgb.keep0 hmbd) (fun x hx => by simp at hx; rw [hx]; exact idB_len)
 have hCd : CellsAt wd wb.heap.size 0 (qR bv 2 1) := CellsAt.whole hBd;have s78 := hm78.size
 have hm0d : Mod NoB w wd := ((hm08.trans0 hm8a).trans hmb (fun k hk hf => by have h1 := hFn k hf; have h2 := hm07.size; omega)).trans0 hmbd;generalize hbo : wb.heap.size = bo at *
 clear hsw hata hat hlt8 hslM hGM hmb hsb hnb hatb hgb hidc hBc hmc hmd hBd hmbd hI1 hI2 hI1a hla;go_upto_region 7 with (fail);have hS : Mod NoB wd wd.drew := (Mod.refl _ _).drew
 have hT : Mod NoB wd wd.drew := (Mod.refl _ _).drew
 refine jC [(0, 0), (3, 0)] 3 [(5, 1), (6, 3), (7, 3), (8, 0), (9, 1), (10, 1), (11, 3), (12, 3), (13, 3), (14, 3), (15, 3), (16, 3), (17, 0), (18, 0), (19, 1), (20, 0), (21, 1), (22, 3), (23, 3)] [] (fun w' => Mod NoB wd w') #[true, false, false, true, false, false, false, false, false, false, false, false, false, false, false, false, false, false, false, false, false, false, false, false] (by kernel_rfl) (by kernel_rfl) (by kernel_rfl) (by kernel_rfl) (by kernel_rfl) (fun _ _ _ _ hd h => ⟨hd.trans h.1, h.2⟩) hS ?_
 simp only [zz4];refine wpLA 24 b1 0 (qC idA) (fun w' hS => hI1d.keep hS id) underlying24 32 hA ?_;simp only [nmz]
 refine wpLA 24 b1 0 (qC idA) (fun w' hS => hI1d.keep hS id) underlying24 32 hA ?_;simp only [nmz];refine qB ?_;refine zM [1, 4] (by kernel_rfl) ?_
 simp only [zz3, false_implies, implies_true];refine ⟨?_, ?_⟩
 · intro K hK
   simp only [zz5];refine qG (qH 56 [.tmp 36] _ rfl _ func56 rfl (by kernel_rfl) [.agg (qC idA)] rfl _) (tagged_any idA yJ _) ?_
   rintro e we ⟨hme, tv, tr, treps, rfl, htv, htr, htroots⟩
   try replace hX := hX.keep0 hme
   replace hT := hT.trans0 hme;clear hme;refine ⟨_, rfl, hK _ _ hT ?_⟩;clear hK K;try simp only [nmz]
   refine zM [2, 4] (by kernel_rfl) ?_;simp only [zz3, false_implies, implies_true];refine ⟨?_, ?_⟩
   · intro K hK
     simp only [zz5];refine qG (qH 47 [.tmp 37] _ rfl _ func47 rfl (by kernel_rfl) [.agg #[tv, tr]] rfl _) (swRoots_any htv htr (by rw [htroots]; simp)) ?_
     rintro e wf ⟨hmf, vR, outR, rfl, hgR, hsR, hlR⟩;rw [htroots] at hsR;obtain rfl := roots_A hsR;have hR := slI hgR hlR
     try replace hX := hX.keep0 hmf
     replace hT := hT.trans0 hmf;clear hmf hgR hsR hlR htr;refine ⟨_, rfl, hK _ _ hT ?_⟩;clear hK K;try simp only [nmz]
     refine zM [4] (by kernel_rfl) ?_;simp only [zz3, false_implies, implies_true];intro K hK;simp only [zz5]
     refine zL 25 24 _ (.agg (qC idA)) (.agg (qC (List.replicate 32 0))) 32 (by rfl) (by rfl) underlying25 id_zs (by omega) (by omega) hA (fun bX wg hBg hmg => ?_)
     have hX : Sl false wg AnyB 32 IdC (.slice (some ⟨bX, 0, none⟩) 1 1) [idA] := sl_one hBg ⟨rfl, yJ⟩ 32 hA
     try replace htr := yN htr (KC.of0 hmg)
     try replace hR := hR.keep0 hmg
     replace hT := hT.trans0 hmg;clear hmg hBg;refine hK _ _ hT ?_;clear hK K;try simp only [nmz]
     refine xS ?_;try simp only [zz4]
     try simp only [nmz]
     refine qW rfl (fun K hK => ?_)
     refine qG (qH 24 [.tmp 38, .tmp 40] _ rfl _ func24 rfl (by kernel_rfl) [vR, .slice (some ⟨bX, 0, none⟩) 1 1] rfl _) (yI _ _ _ _ _ _ _ _ _ hR hX) ?_
     rintro e wh ⟨rfl, hmh⟩;replace hT := hT.trans0 hmh;rw [decide_eq_true rfl];clear hmh hR hX;refine ⟨_, rfl, hK _ _ hT ?_⟩;clear hK K;refine qA _ rfl rfl ?_
     simp only [nmz];refine qA _ rfl rfl ?_;simp only [nmz];refine wpLA 24 b1 0 (qC idA) (fun w' hS => hI1d.keep hS id) underlying24 32 hA ?_;simp only [nmz]
     refine qW rfl (fun K hK => ?_)
     refine zL 25 24 _ (.agg (qC idA)) (.agg (qC (List.replicate 32 0))) 32 (by rfl) (by rfl) underlying25 id_zs (by omega) (by omega) hA (fun bY wi hBi hmi => ?_)
     have hY : Sl false wi AnyB 32 IdC (.slice (some ⟨bY, 0, none⟩) 1 1) [idA] := sl_one hBi ⟨rfl, yJ⟩ 32 hA;replace hT := hT.trans0 hmi;clear hmi hBi;refine hK _ _ hT ?_
     clear hK K;try simp only [nmz]
     refine qW rfl (fun K hK => ?_)
     refine qG (qH 24 [.tmp 43, .tmp 45] _ rfl _ func24 rfl (by kernel_rfl) [vM, .slice (some ⟨bY, 0, none⟩) 1 1] rfl _) (yI _ _ _ _ _ _ _ _ _ (hMd.keep0 hT) hY) ?_
     rintro e wj ⟨rfl, hmj⟩;replace hT := hT.trans0 hmj;rw [decide_eq_true rfl];clear hmj hY;refine ⟨_, rfl, hK _ _ hT ?_⟩;clear hK K;refine qQ _ _ _ _ rfl rfl rfl ?_
     simp only [nmz];refine qA _ rfl rfl ?_;simp only [nmz];refine qA _ rfl rfl ?_;simp only [nmz]
     refine qJ (v := ?_) rfl (fun w' => ?_) ?_; rotate_left; · (go_simp; try with_reducible rfl)
     simp only [nmz];refine qQ _ _ _ _ rfl rfl rfl ?_;simp only [nmz];refine qA _ rfl rfl ?_;simp only [nmz]
     refine wpLA 104 bo 0 (qR bv 2 1) (fun w' hS => hCd.keep hS id) underlying104 3 rfl ?_;simp only [nmz]
     refine wpLA 24 b2 0 (qC idB) (fun w' hS => hI2d.keep hS id) underlying24 32 hB ?_;simp only [nmz];refine qW rfl (fun K hK => ?_)
     refine zL 25 24 _ (.agg (qC idB)) (.agg (qC (List.replicate 32 0))) 32 (by rfl) (by rfl) underlying25 id_zs (by omega) (by omega) hB (fun bZ wk hBk hmk => ?_)
     have hZ : Sl false wk AnyB 32 IdC (.slice (some ⟨bZ, 0, none⟩) 1 1) [idB] := sl_one hBk ⟨rfl, idB_len⟩ 32 hB;replace hT := hT.trans0 hmk;clear hmk hBk;refine hK _ _ hT ?_
     clear hK K;try simp only [nmz]
     refine qS rfl (fun w' hS => qT 104 [(0, _), (1, _), (2, _)] [(0, .slice (some ⟨bZ, 0, none⟩) 1 1), (1, .int .i64 2), (2, .int .i64 1)] _ (by rfl) (by rfl) (built_swept _ 1 1 2 1)) ?_
     simp only [nmz];refine qW rfl (fun K hK => ?_)
     refine qG (qH 54 [.tmp 53, .tmp 56] _ rfl _ func54 rfl (by kernel_rfl) [.agg (qR bv 2 1), .agg (qR (.slice (some ⟨bZ, 0, none⟩) 1 1) 2 1)] rfl _) (sameSwept_any (hVd.keep0 hT) hZ 2 1 2 1) ?_
     rintro e wl ⟨rfl, hml⟩;replace hT := hT.trans0 hml;simp only [decide_true, Bool.and_self];clear hml hZ;refine ⟨_, rfl, hK _ _ hT ?_⟩;clear hK K
     refine qQ _ _ _ _ rfl rfl rfl ?_;simp only [nmz];refine qD _ rfl rfl ?_;simp only [nmz];refine qB ?_;have HF := hid (hm0d.trans0 hT);go_wp2;go_ret
     exact ⟨rfl, HF.out⟩
   · intro K hK
     simp only [zz5]
     refine zL 25 24 _ (.agg (qC idA)) (.agg (qC (List.replicate 32 0))) 32 (by rfl) (by rfl) underlying25 id_zs (by omega) (by omega) hA (fun bX wg hBg hmg => ?_)
     have hX : Sl false wg AnyB 32 IdC (.slice (some ⟨bX, 0, none⟩) 1 1) [idA] := sl_one hBg ⟨rfl, yJ⟩ 32 hA
     try replace htr := yN htr (KC.of0 hmg)
     try replace hR := hR.keep0 hmg
     replace hT := hT.trans0 hmg;clear hmg hBg;refine hK _ _ hT ?_;clear hK K;try simp only [nmz]
     refine zM [2] (by kernel_rfl) ?_;simp only [zz3, false_implies, implies_true];intro K hK;simp only [zz5]
     refine qG (qH 47 [.tmp 37] _ rfl _ func47 rfl (by kernel_rfl) [.agg #[tv, tr]] rfl _) (swRoots_any htv htr (by rw [htroots]; simp)) ?_
     rintro e wf ⟨hmf, vR, outR, rfl, hgR, hsR, hlR⟩;rw [htroots] at hsR;obtain rfl := roots_A hsR;have hR := slI hgR hlR
     try replace hX := hX.keep0 hmf
     replace hT := hT.trans0 hmf;clear hmf hgR hsR hlR htr;refine ⟨_, rfl, hK _ _ hT ?_⟩;clear hK K;try simp only [nmz]
     refine xS ?_;try simp only [zz4]
     try simp only [nmz]
     refine qW rfl (fun K hK => ?_)
     refine qG (qH 24 [.tmp 38, .tmp 40] _ rfl _ func24 rfl (by kernel_rfl) [vR, .slice (some ⟨bX, 0, none⟩) 1 1] rfl _) (yI _ _ _ _ _ _ _ _ _ hR hX) ?_
     rintro e wh ⟨rfl, hmh⟩;replace hT := hT.trans0 hmh;rw [decide_eq_true rfl];clear hmh hR hX;refine ⟨_, rfl, hK _ _ hT ?_⟩;clear hK K;refine qA _ rfl rfl ?_
     simp only [nmz];refine qA _ rfl rfl ?_;simp only [nmz];refine wpLA 24 b1 0 (qC idA) (fun w' hS => hI1d.keep hS id) underlying24 32 hA ?_;simp only [nmz]
     refine qW rfl (fun K hK => ?_)
     refine zL 25 24 _ (.agg (qC idA)) (.agg (qC (List.replicate 32 0))) 32 (by rfl) (by rfl) underlying25 id_zs (by omega) (by omega) hA (fun bY wi hBi hmi => ?_)
     have hY : Sl false wi AnyB 32 IdC (.slice (some ⟨bY, 0, none⟩) 1 1) [idA] := sl_one hBi ⟨rfl, yJ⟩ 32 hA;replace hT := hT.trans0 hmi;clear hmi hBi;refine hK _ _ hT ?_
     clear hK K;try simp only [nmz]
     refine qW rfl (fun K hK => ?_)
     refine qG (qH 24 [.tmp 43, .tmp 45] _ rfl _ func24 rfl (by kernel_rfl) [vM, .slice (some ⟨bY, 0, none⟩) 1 1] rfl _) (yI _ _ _ _ _ _ _ _ _ (hMd.keep0 hT) hY) ?_
     rintro e wj ⟨rfl, hmj⟩;replace hT := hT.trans0 hmj;rw [decide_eq_true rfl];clear hmj hY;refine ⟨_, rfl, hK _ _ hT ?_⟩;clear hK K;refine qQ _ _ _ _ rfl rfl rfl ?_
     simp only [nmz];refine qA _ rfl rfl ?_;simp only [nmz];refine qA _ rfl rfl ?_;simp only [nmz]
     refine qJ (v := ?_) rfl (fun w' => ?_) ?_; rotate_left; · (go_simp; try with_reducible rfl)
     simp only [nmz];refine qQ _ _ _ _ rfl rfl rfl ?_;simp only [nmz];refine qA _ rfl rfl ?_;simp only [nmz]
     refine wpLA 104 bo 0 (qR bv 2 1) (fun w' hS => hCd.keep hS id) underlying104 3 rfl ?_;simp only [nmz]
     refine wpLA 24 b2 0 (qC idB) (fun w' hS => hI2d.keep hS id) underlying24 32 hB ?_;simp only [nmz];refine qW rfl (fun K hK => ?_)
     refine zL 25 24 _ (.agg (qC idB)) (.agg (qC (List.replicate 32 0))) 32 (by rfl) (by rfl) underlying25 id_zs (by omega) (by omega) hB (fun bZ wk hBk hmk => ?_)
     have hZ : Sl false wk AnyB 32 IdC (.slice (some ⟨bZ, 0, none⟩) 1 1) [idB] := sl_one hBk ⟨rfl, idB_len⟩ 32 hB;replace hT := hT.trans0 hmk;clear hmk hBk;refine hK _ _ hT ?_
     clear hK K;try simp only [nmz]
     refine qS rfl (fun w' hS => qT 104 [(0, _), (1, _), (2, _)] [(0, .slice (some ⟨bZ, 0, none⟩) 1 1), (1, .int .i64 2), (2, .int .i64 1)] _ (by rfl) (by rfl) (built_swept _ 1 1 2 1)) ?_
     simp only [nmz];refine qW rfl (fun K hK => ?_)
     refine qG (qH 54 [.tmp 53, .tmp 56] _ rfl _ func54 rfl (by kernel_rfl) [.agg (qR bv 2 1), .agg (qR (.slice (some ⟨bZ, 0, none⟩) 1 1) 2 1)] rfl _) (sameSwept_any (hVd.keep0 hT) hZ 2 1 2 1) ?_
     rintro e wl ⟨rfl, hml⟩;replace hT := hT.trans0 hml;simp only [decide_true, Bool.and_self];clear hml hZ;refine ⟨_, rfl, hK _ _ hT ?_⟩;clear hK K
     refine qQ _ _ _ _ rfl rfl rfl ?_;simp only [nmz];refine qD _ rfl rfl ?_;simp only [nmz];refine qB ?_;have HF := hid (hm0d.trans0 hT);go_wp2;go_ret
     exact ⟨rfl, HF.out⟩
 · intro K hK
   simp only [zz5]
   refine zL 25 24 _ (.agg (qC idA)) (.agg (qC (List.replicate 32 0))) 32 (by rfl) (by rfl) underlying25 id_zs (by omega) (by omega) hA (fun bX wg hBg hmg => ?_)
   have hX : Sl false wg AnyB 32 IdC (.slice (some ⟨bX, 0, none⟩) 1 1) [idA] := sl_one hBg ⟨rfl, yJ⟩ 32 hA
   try replace htr := yN htr (KC.of0 hmg)
   try replace hR := hR.keep0 hmg
   replace hT := hT.trans0 hmg;clear hmg hBg;refine hK _ _ hT ?_;clear hK K;try simp only [nmz]
   refine zM [1] (by kernel_rfl) ?_;simp only [zz3, false_implies, implies_true];intro K hK;simp only [zz5]
   refine qG (qH 56 [.tmp 36] _ rfl _ func56 rfl (by kernel_rfl) [.agg (qC idA)] rfl _) (tagged_any idA yJ _) ?_
   rintro e we ⟨hme, tv, tr, treps, rfl, htv, htr, htroots⟩
   try replace hX := hX.keep0 hme
   replace hT := hT.trans0 hme;clear hme;refine ⟨_, rfl, hK _ _ hT ?_⟩;clear hK K;try simp only [nmz]
   refine zM [2] (by kernel_rfl) ?_;simp only [zz3, false_implies, implies_true];intro K hK;simp only [zz5]
   refine qG (qH 47 [.tmp 37] _ rfl _ func47 rfl (by kernel_rfl) [.agg #[tv, tr]] rfl _) (swRoots_any htv htr (by rw [htroots]; simp)) ?_
   rintro e wf ⟨hmf, vR, outR, rfl, hgR, hsR, hlR⟩;rw [htroots] at hsR;obtain rfl := roots_A hsR;have hR := slI hgR hlR
   try replace hX := hX.keep0 hmf
   replace hT := hT.trans0 hmf;clear hmf hgR hsR hlR htr;refine ⟨_, rfl, hK _ _ hT ?_⟩;clear hK K;try simp only [nmz]
   refine xS ?_;try simp only [zz4]
   try simp only [nmz]
   refine qW rfl (fun K hK => ?_)
   refine qG (qH 24 [.tmp 38, .tmp 40] _ rfl _ func24 rfl (by kernel_rfl) [vR, .slice (some ⟨bX, 0, none⟩) 1 1] rfl _) (yI _ _ _ _ _ _ _ _ _ hR hX) ?_
   rintro e wh ⟨rfl, hmh⟩;replace hT := hT.trans0 hmh;rw [decide_eq_true rfl];clear hmh hR hX;refine ⟨_, rfl, hK _ _ hT ?_⟩;clear hK K;refine qA _ rfl rfl ?_;simp only [nmz]
   refine qA _ rfl rfl ?_;simp only [nmz];refine wpLA 24 b1 0 (qC idA) (fun w' hS => hI1d.keep hS id) underlying24 32 hA ?_;simp only [nmz]
   refine qW rfl (fun K hK => ?_)
   refine zL 25 24 _ (.agg (qC idA)) (.agg (qC (List.replicate 32 0))) 32 (by rfl) (by rfl) underlying25 id_zs (by omega) (by omega) hA (fun bY wi hBi hmi => ?_)
   have hY : Sl false wi AnyB 32 IdC (.slice (some ⟨bY, 0, none⟩) 1 1) [idA] := sl_one hBi ⟨rfl, yJ⟩ 32 hA;replace hT := hT.trans0 hmi;clear hmi hBi;refine hK _ _ hT ?_
   clear hK K;try simp only [nmz]
   refine qW rfl (fun K hK => ?_)
   refine qG (qH 24 [.tmp 43, .tmp 45] _ rfl _ func24 rfl (by kernel_rfl) [vM, .slice (some ⟨bY, 0, none⟩) 1 1] rfl _) (yI _ _ _ _ _ _ _ _ _ (hMd.keep0 hT) hY) ?_
   rintro e wj ⟨rfl, hmj⟩;replace hT := hT.trans0 hmj;rw [decide_eq_true rfl];clear hmj hY;refine ⟨_, rfl, hK _ _ hT ?_⟩;clear hK K;refine qQ _ _ _ _ rfl rfl rfl ?_
   simp only [nmz];refine qA _ rfl rfl ?_;simp only [nmz];refine qA _ rfl rfl ?_;simp only [nmz]
   refine qJ (v := ?_) rfl (fun w' => ?_) ?_; rotate_left; · (go_simp; try with_reducible rfl)
   simp only [nmz];refine qQ _ _ _ _ rfl rfl rfl ?_;simp only [nmz];refine qA _ rfl rfl ?_;simp only [nmz]
   refine wpLA 104 bo 0 (qR bv 2 1) (fun w' hS => hCd.keep hS id) underlying104 3 rfl ?_;simp only [nmz]
   refine wpLA 24 b2 0 (qC idB) (fun w' hS => hI2d.keep hS id) underlying24 32 hB ?_;simp only [nmz];refine qW rfl (fun K hK => ?_)
   refine zL 25 24 _ (.agg (qC idB)) (.agg (qC (List.replicate 32 0))) 32 (by rfl) (by rfl) underlying25 id_zs (by omega) (by omega) hB (fun bZ wk hBk hmk => ?_)
   have hZ : Sl false wk AnyB 32 IdC (.slice (some ⟨bZ, 0, none⟩) 1 1) [idB] := sl_one hBk ⟨rfl, idB_len⟩ 32 hB;replace hT := hT.trans0 hmk;clear hmk hBk;refine hK _ _ hT ?_
   clear hK K;try simp only [nmz]
   refine qS rfl (fun w' hS => qT 104 [(0, _), (1, _), (2, _)] [(0, .slice (some ⟨bZ, 0, none⟩) 1 1), (1, .int .i64 2), (2, .int .i64 1)] _ (by rfl) (by rfl) (built_swept _ 1 1 2 1)) ?_
   simp only [nmz];refine qW rfl (fun K hK => ?_)
   refine qG (qH 54 [.tmp 53, .tmp 56] _ rfl _ func54 rfl (by kernel_rfl) [.agg (qR bv 2 1), .agg (qR (.slice (some ⟨bZ, 0, none⟩) 1 1) 2 1)] rfl _) (sameSwept_any (hVd.keep0 hT) hZ 2 1 2 1) ?_
   rintro e wl ⟨rfl, hml⟩;replace hT := hT.trans0 hml;simp only [decide_true, Bool.and_self];clear hml hZ;refine ⟨_, rfl, hK _ _ hT ?_⟩;clear hK K
   refine qQ _ _ _ _ rfl rfl rfl ?_;simp only [nmz];refine qD _ rfl rfl ?_;simp only [nmz];refine qB ?_;have HF := hid (hm0d.trans0 hT);go_wp2;go_ret
   exact ⟨rfl, HF.out⟩
theorem built_swept0 : prog.built 104 [] = some #[.slice none 0 0, .int .i64 0, .int .i64 0] := by kernel_rfl
def noneV : Value := .tuple #[.agg (qR (.slice none 0 0) 0 0), .int .i64 1]
section
variable {w : World} {h : House} {c : BlobL} {l : LinkL} {Ft : Nat → Prop}
theorem NoStore.keepF {S : Nat → Prop} {w' : World} {v : Value} (hn : NoStore w v) (hm : Mod S w w') (hS : ∀ b, v = .pointer (some ⟨b, 0, none⟩) → ¬ S b) : NoStore w' v := by
 rcases hn with rfl | ⟨b, x, y, z, rfl, hb⟩
 · exact .inl rfl
 · exact .inr ⟨b, x, y, z, rfl, hm.obj (hS b rfl) hb⟩
theorem swSweep_noStore (H : HsAt w h c l Ft) {v : Value} (hn : NoStore w v) (hF : ∀ b, v = .pointer (some ⟨b, 0, none⟩) → ¬ Ft b) (mv : Value) (h1 : mv.oneCell' = true) :
 Calls prog 53 #[v, h.q, mv] w (fun e w' => e = .returned noneV ∧ HStep w h Ft w' c l) := by
 have HH := hid H;clear H;generalize hq : h.q = qv;go_enter func53, ntmps53;go_upto_region 0 with (fail);refine wpR [1, 3] (by rfl) (by rfl) ?_;simp only [zz2];refine wpDo rfl ?_
 refine qU 104 _ (by rfl) sweptZ (fun w1 hB1 hm1 hs1 => ?_);replace hB1 : w1.heap[w.heap.size]? = some (.cells #[.slice none 0 0, .int .i64 0, .int .i64 0] 104 (0, 0)) := hB1
 refine qD _ rfl rfl ?_;simp only [nmz];refine qB ?_;have H1 := HH.out.keep0 hm1;have hlk := H1.none;rw [hq] at hlk;go_upto_region 1 with (fail)
 refine wpR [3, 0, 1, 3, 3, 3, 3, 3] (by rfl) (by rfl) ?_;simp only [zz2];refine qA _ rfl rfl ?_;simp only [nmz]
 refine qS rfl (fun w' hS => qT 24 [] [] _ (by rfl) (by rfl) built_id0) ?_;simp only [nmz];refine wpDo rfl ?_
 refine qG (qH 123 [.tmp 16, .const (.string { data := #[] }), .tmp 17, .const (.int .i64 0)] _ rfl _ func123 rfl (by kernel_rfl) [qv, .string ⟨#[]⟩, .agg (qC (List.replicate 32 0)), .int .i64 0] rfl _) (hlk) ?_
 rintro e w2 ⟨⟨er, her, rfl⟩, hst2⟩;refine ⟨_, rfl, ?_⟩;refine qA _ rfl rfl ?_;simp only [nmz]
 refine qJ rfl (fun w' => qP _ 0 #[.bool false, .int .i64 er] rfl rfl (.bool false) rfl) ?_;simp only [nmz]
 refine qJ rfl (fun w' => qP _ 1 #[.bool false, .int .i64 er] rfl rfl (.int .i64 er) rfl) ?_;simp only [nmz];refine qD _ rfl rfl ?_;simp only [nmz]
 refine qD _ rfl rfl ?_;simp only [nmz];refine qB ?_;obtain ⟨F2, H2, hmd, hs2⟩ := hst2;have hobF : ¬ Ft w.heap.size := fun e => by have := HH.out.lt _ e; omega
 have hob2 : ¬ F2 w.heap.size := fun e => (hs2 _ e).elim hobF (fun h => by have := h.1; omega);have hBo2 := hmd.obj hobF hB1
 have hwid := bWidth_no (NoStore.keepF (NoStore.keepF hn hm1 (fun _ _ => id)) hmd hF);have HWID := hid hwid
 have hm02 : Mod Ft w w2 := (hm1.mono (fun _ _ h => h.elim)).trans hmd (fun _ _ h => h)
 have hs02 : ∀ k, F2 k → Ft k ∨ New w w2 k := fun k hk => (hs2 k hk).imp id (fun h => ⟨by have := h.1; have := hm1.size; omega, h.2⟩);clear hlk hwid hn hm1 hmd hs2 hB1 H1
 go_upto_region 3 with (go_at_call 124; refine HWID.out.mono ?_; rintro _ w3 ⟨rfl, hw3⟩; obtain rfl := hw3.symm);refine wpR [0, 1, 3] (by rfl) (by rfl) ?_;simp only [zz2]
 refine qS rfl (fun w' hS => qT 104 [] [] _ (by rfl) (by rfl) built_swept0) ?_;simp only [nmz];refine wpDo rfl ?_
 refine qM 104 _ _ w.heap.size 0 #[.slice none 0 0, .int .i64 0, .int .i64 0] (by rfl) (by rfl) (by rfl) (by intro c hc; simp at hc; rcases hc with rfl | rfl <;> rfl) 3 (by kernel_rfl) rfl _ _ hBo2 (by simp) (fun w4 hB4 hm4 => ?_)
 rw [qK (by simp)] at hB4;refine qD _ rfl rfl ?_;simp only [nmz];refine qB ?_
 have HST : Hid (HStep w h Ft w4 c l) := hid ⟨F2, H2.keep hm4 (fun k hk e => hob2 (by rw [← show k = w.heap.size from e]; exact hk)), hm02.trans hm4 (fun k hk e => by have e : k = w.heap.size := e; omega), fun k hk => (hs02 k hk).imp id (fun h => ⟨h.1, by have := h.2; have := hm4.size; omega⟩)⟩
 clear hm02 hs02 hm4 hBo2 H2 HWID;go_wp2
 refine bodyPost_ret (xH (P := prog) (ty := 104) rfl _ _ w.heap.size _ _ _ _ (by rfl) hB4 underlying104 rfl (by kernel_rfl)) rfl ?_;exact ⟨rfl, HST.out⟩
end
end
section
open Go.RowKit Go.Proofs.Tryz Go.Lib
theorem fo_115_0 : zB prog 115 0 = some 0 := by kernel_rfl
theorem fo_115_1 : zB prog 115 1 = some 2 := by kernel_rfl
theorem fo_115_2 : zB prog 115 2 = some 3 := by kernel_rfl
theorem fo_115_3 : zB prog 115 3 = some 4 := by kernel_rfl
theorem fo_115_4 : zB prog 115 4 = some 5 := by kernel_rfl
theorem fo_115_5 : zB prog 115 5 = some 6 := by kernel_rfl
theorem exec_eql_dot {w : World} {o : Oper} {a : Act} (x y : Operand) (yt : TypeId) (ho : o.op = .binOp .eql 113 x y yt) (m n p q : Int)
 (hx : a.eval x = .agg #[.int .i64 m, .int .i64 n]) (hy : a.eval y = .agg #[.int .i64 p, .int .i64 q]) (b : Bool) (hb : decide (m = p ∧ n = q) = b) : (execOp a.eval o).run prog w = .ok (.value (.bool b)) w := by
 subst hb
 have h : (binOp .eql 113 (.agg #[.int .i64 m, .int .i64 n]) (.agg #[.int .i64 p, .int .i64 q])).run prog w = .ok (.bool (decide (m = p ∧ n = q))) w := by
  go_simp
  by_cases h1 : m = p <;> by_cases h2 : n = q <;> simp [h1, h2]
 have h1 := run_eqGuard_agg (P := prog) w .eql 113 x y #[.int .i64 m, .int .i64 n] #[.int .i64 p, .int .i64 q] (by kernel_rfl);unfold execOp
 simp only [ho, hx, hy, Sem.run_bind, h1, Result.andThen_ok, h, Sem.run_pure]
theorem evCells_set2 (e : Evt) (dv rv v : Value) : (zO e dv rv).setIfInBounds 2 v = zO e v rv := by
 apply Array.toList_inj.1; simp [zO]
theorem evCells_set38 (e : Evt) (dv rv v : Value) (h : e.id.length = 32) : (zO e dv rv).setIfInBounds 38 v = zO e dv v := by
 apply Array.toList_inj.1; simp [zO, qC, h, List.set_append]
theorem EvR.one {own : Bool} {w : World} {G : Nat → Prop} {cs : Array Value} {e : Evt} (h : EvR own w G cs e) : ∀ c ∈ cs, c.oneCell' = true := by
 obtain ⟨dv, rv, rfl, hi, h1, h2, _⟩ := h;exact evCells_one h1.one h2.one
theorem EvR.size {own : Bool} {w : World} {G : Nat → Prop} {cs : Array Value} {e : Evt} (h : EvR own w G cs e) : cs.size = 39 := by
 obtain ⟨dv, rv, rfl, hi, _⟩ := h; exact (zG e dv rv hi).size
theorem sameInts_any (o o' : Bool) (G G' : Nat → Prop) (va vb : Value) (la lb : List Int) (w : World) (ha : Sl o w G 1 IntC va la) (hb : Sl o' w G' 1 IntC vb lb) :
 Calls prog 121 #[va, vb] w (RetM (.bool (decide (la = lb))) w) := by
 obtain ⟨aa, ca, rfl, hla, ha⟩ := ha.at;obtain ⟨ab, cb, rfl, hlb, hb⟩ := hb.at
 by_cases hlen : la.length = lb.length
 · have e1 : ((la.length : Int) == (lb.length : Int)) = true := by simp [hlen]
   have H := hid hlen; have HA := hid ha; have HB := hid hb; clear hlen ha hb;go_enter func121, ntmps121;go_wp2
   go_loopw [5, 6] (SameRel la lb w) (fun _ i _ => la.length - (intOf i).toNat)
   case atStart => exact ⟨0, by omega, rfl, by rw [pre_zero], Mod.refl _ _⟩
   case round =>
    obtain ⟨k, hk, rfl, rfl, hm⟩ := hrel
    rename_i wr
    by_cases hs : pre k la lb = true
    · by_cases hlt : k < la.length
      · have hlt' : k < lb.length := by rw [← H.out]; exact hlt
        obtain ⟨ba, oa, rfl, -, -, hca⟩ := HA.out k hlt;obtain ⟨bb, ob, rfl, -, -, hcb⟩ := HB.out k hlt';obtain ⟨_, -, rfl, hca⟩ := hca k hlt;obtain ⟨_, -, rfl, hcb⟩ := hcb k hlt'
        have h1 : wr.cell? ⟨ba, oa + k, none⟩ = some (.int .i64 la[k]) := by have := CellsAt.one.1 (hca.keep hm id); simpa using this
        have h2 : wr.cell? ⟨bb, ob + k, none⟩ = some (.int .i64 lb[k]) := by have := CellsAt.one.1 (hcb.keep hm id); simpa using this
        clear hca hcb;have hps := hid (pre_succ hlt hlt' hs);go_wp2_with fail
        go_quiet (fail)
        go_wp2
        go_roundw
        case rel => exact ⟨k + 1, by omega, by go_num, by rw [hps.out]; rfl, hm.drewN _⟩
        case measure => simp [intOf]; omega
      · go_wp2
        go_ret;exact ⟨by rw [← pre_full H.out (Nat.le_of_not_lt hlt), hs]; rfl, hm⟩
    · have hs' : pre k la lb = false := by simpa using hs
      have hps := hid (pre_false hs'); clear hs;go_wp2;go_ret;exact ⟨by rw [hps.out]; rfl, hm⟩
 · have e1 : ((la.length : Int) == (lb.length : Int)) = false := by simp; omega
   have hps := hid (decide_eq_false (show ¬ la = lb by rintro rfl; exact hlen rfl)); clear hlen;go_enter func121, ntmps121;go_wp2;refine wp_loop_once ?_;go_wp2;go_ret
   exact ⟨by rw [hps.out]; rfl, Mod.refl _ _⟩
theorem sameEvent_eq (o o' : Bool) (G G' : Nat → Prop) (ca cb : Array Value) (e : Evt) (w : World) (ha : EvR o w G ca e) (hb : EvR o' w G' cb e) :
 Calls prog 61 #[.agg ca, .agg cb] w (RetM (.bool true) w) := by
 obtain ⟨dv1, rv1, hca, hi1, hd1, hr1, -, -⟩ := ha;obtain ⟨dv2, rv2, hcb, hi2, hd2, hr2, -, -⟩ := hb;have cA := zG e dv1 rv1 hi1; rw [← hca] at cA; clear hca
 have cB := zG e dv2 rv2 hi2; rw [← hcb] at cB; clear hcb;go_enter func61, ntmps61;go_upto_region 1 with (fail)
 have hM : Mod NoB w ((w.alloc (.cells ca 115)).alloc (.cells cb 115)) := ((Mod.refl _ _).alloc _).alloc _
 have hA := CellsAt.whole (heap_alloc2_old w (.cells ca 115) (.cells cb 115));have hB := CellsAt.whole (heap_alloc2_new w (.cells ca 115) (.cells cb 115))
 generalize ((w.alloc (.cells ca 115)).alloc (.cells cb 115)) = W at hM hA hB ⊢;replace hd1 := hd1.keep hM (fun _ _ => id) (fun _ _ h => h)
 replace hd2 := hd2.keep hM (fun _ _ => id) (fun _ _ h => h);replace hr1 := hr1.keep hM (fun _ _ => id) (fun _ _ h => h);replace hr2 := hr2.keep hM (fun _ _ => id) (fun _ _ h => h)
 have hAd := hA.part (i := 0) (j := 2) (by rw [cA.size]; omega);have hBd := hB.part (i := 0) (j := 2) (by rw [cB.size]; omega)
 have hAi := hA.part (i := 6) (j := 38) (by rw [cA.size]; omega);have hBi := hB.part (i := 6) (j := 38) (by rw [cB.size]; omega)
 rw [cA.dot] at hAd; rw [cB.dot] at hBd; rw [cA.id] at hAi; rw [cB.id] at hBi;have hS : Mod NoB W W := Mod.refl _ _
 refine wp_region_seq [3, 0, 3, 0, 0, 3, 3, 0, 3, 0, 1, 3, 3, 3, 0, 3, 0, 0, 3, 3, 3, 0, 3, 0, 0, 3, 3, 3, 0, 3, 0, 0, 3, 3, 3, 0, 3, 0, 0, 3, 3, 3, 0, 3, 0, 1, 3, 3] (fun w' => Mod NoB W w') (by rfl) (by rfl) hS ?_
 simp only [zz2];refine qE _ _ _ _ _ _ rfl rfl rfl fo_115_0 ?_;simp only [nmz]
 refine qS rfl (fun w' hS => zV _ _ rfl _ _ rfl _ (hAd.keep hS id) _ underlying113 rfl 2 (by kernel_rfl) rfl) ?_;simp only [nmz]
 refine qE _ _ _ _ _ _ rfl rfl rfl fo_115_0 ?_;simp only [nmz]
 refine qS rfl (fun w' hS => zV _ _ rfl _ _ rfl _ (hBd.keep hS id) _ underlying113 rfl 2 (by kernel_rfl) rfl) ?_;simp only [nmz]
 refine qS rfl (fun w' hS => exec_eql_dot _ _ _ rfl _ _ _ _ rfl rfl true (decide_eq_true ⟨rfl, rfl⟩)) ?_;simp only [nmz];refine qA _ rfl rfl ?_;simp only [nmz]
 refine qE _ _ _ _ _ _ rfl rfl rfl fo_115_1 ?_;simp only [nmz]
 refine qS rfl (fun w' hS => zJ _ _ rfl _ _ rfl _ (hS.cell id (hA.cell cA.c2)) _ underlying64 rfl) ?_;simp only [nmz]
 refine qE _ _ _ _ _ _ rfl rfl rfl fo_115_1 ?_;simp only [nmz]
 refine qS rfl (fun w' hS => zJ _ _ rfl _ _ rfl _ (hS.cell id (hB.cell cB.c2)) _ underlying64 rfl) ?_;simp only [nmz];refine qW rfl (fun K hK => ?_)
 refine qG (qH 121 [.tmp 12, .tmp 14] _ rfl _ func121 rfl (by kernel_rfl) [dv1, dv2] rfl _) (sameInts_any _ _ _ _ _ _ _ _ _ (hd1.keep0 hS) (hd2.keep0 hS)) ?_
 rintro e' w1 ⟨rfl, hm1⟩;replace hS := hS.trans0 hm1;rw [decide_eq_true rfl];refine ⟨_, rfl, hK _ _ hS ?_⟩;clear hK K hm1;refine qQ _ _ _ _ rfl rfl rfl ?_;simp only [nmz]
 refine qA _ rfl rfl ?_;simp only [nmz];refine qE _ _ _ _ _ _ rfl rfl rfl fo_115_2 ?_;simp only [nmz]
 refine qS rfl (fun w' hS => zJ _ _ rfl _ _ rfl _ (hS.cell id (hA.cell cA.c3)) _ underlying3 rfl) ?_;simp only [nmz]
 refine qE _ _ _ _ _ _ rfl rfl rfl fo_115_2 ?_;simp only [nmz]
 refine qS rfl (fun w' hS => zJ _ _ rfl _ _ rfl _ (hS.cell id (hB.cell cB.c3)) _ underlying3 rfl) ?_;simp only [nmz]
 refine qS rfl (fun w' hS => exec_eql_int 3 _ _ _ rfl .i64 _ _ rfl rfl true (decide_eq_true rfl)) ?_;simp only [nmz];refine qQ _ _ _ _ rfl rfl rfl ?_;simp only [nmz]
 refine qA _ rfl rfl ?_;simp only [nmz];refine qE _ _ _ _ _ _ rfl rfl rfl fo_115_3 ?_;simp only [nmz]
 refine qS rfl (fun w' hS => zJ _ _ rfl _ _ rfl _ (hS.cell id (hA.cell cA.c4)) _ underlying9 rfl) ?_;simp only [nmz]
 refine qE _ _ _ _ _ _ rfl rfl rfl fo_115_3 ?_;simp only [nmz]
 refine qS rfl (fun w' hS => zJ _ _ rfl _ _ rfl _ (hS.cell id (hB.cell cB.c4)) _ underlying9 rfl) ?_;simp only [nmz]
 refine qS rfl (fun w' hS => exec_eql_str _ _ _ _ rfl _ _ rfl rfl true (decide_eq_true rfl)) ?_;simp only [nmz];refine qQ _ _ _ _ rfl rfl rfl ?_;simp only [nmz]
 refine qA _ rfl rfl ?_;simp only [nmz];refine qE _ _ _ _ _ _ rfl rfl rfl fo_115_4 ?_;simp only [nmz]
 refine qS rfl (fun w' hS => zJ _ _ rfl _ _ rfl _ (hS.cell id (hA.cell cA.c5)) _ underlying9 rfl) ?_;simp only [nmz]
 refine qE _ _ _ _ _ _ rfl rfl rfl fo_115_4 ?_;simp only [nmz]
 refine qS rfl (fun w' hS => zJ _ _ rfl _ _ rfl _ (hS.cell id (hB.cell cB.c5)) _ underlying9 rfl) ?_;simp only [nmz]
 refine qS rfl (fun w' hS => exec_eql_str _ _ _ _ rfl _ _ rfl rfl true (decide_eq_true rfl)) ?_;simp only [nmz];refine qQ _ _ _ _ rfl rfl rfl ?_;simp only [nmz]
 refine qA _ rfl rfl ?_;simp only [nmz];refine qE _ _ _ _ _ _ rfl rfl rfl fo_115_5 ?_;simp only [nmz]
 refine qS rfl (fun w' hS => zV _ _ rfl _ _ rfl _ (hAi.keep hS id) _ underlying24 rfl 32 (by kernel_rfl) (by rw [qI, hi1])) ?_;simp only [nmz]
 refine qE _ _ _ _ _ _ rfl rfl rfl fo_115_5 ?_;simp only [nmz]
 refine qS rfl (fun w' hS => zV _ _ rfl _ _ rfl _ (hBi.keep hS id) _ underlying24 rfl 32 (by kernel_rfl) (by rw [qI, hi2])) ?_;simp only [nmz]
 refine qS rfl (fun w' hS => exec_eql_id _ _ _ _ rfl _ _ rfl rfl 32 5 underlying24 underlying5 (by kernel_rfl) (by kernel_rfl) hi1 hi2 true (decide_eq_true rfl)) ?_
 simp only [nmz];refine qQ _ _ _ _ rfl rfl rfl ?_;simp only [nmz];refine qA _ rfl rfl ?_;simp only [nmz];refine qE _ _ _ _ _ _ rfl rfl rfl fo_115_6 ?_
 simp only [nmz];refine qS rfl (fun w' hS => zJ _ _ rfl _ _ rfl _ (hS.cell id (hA.cell cA.c38)) _ underlying25 rfl) ?_;simp only [nmz]
 refine qE _ _ _ _ _ _ rfl rfl rfl fo_115_6 ?_;simp only [nmz]
 refine qS rfl (fun w' hS => zJ _ _ rfl _ _ rfl _ (hS.cell id (hB.cell cB.c38)) _ underlying25 rfl) ?_;simp only [nmz];refine qW rfl (fun K hK => ?_)
 refine qG (qH 24 [.tmp 47, .tmp 49] _ rfl _ func24 rfl (by kernel_rfl) [rv1, rv2] rfl _) (yI _ _ _ _ _ _ _ _ _ (hr1.keep0 hS) (hr2.keep0 hS)) ?_
 rintro e' w1 ⟨rfl, hm1⟩;replace hS := hS.trans0 hm1;rw [decide_eq_true rfl];refine ⟨_, rfl, hK _ _ hS ?_⟩;clear hK K hm1;refine qQ _ _ _ _ rfl rfl rfl ?_;simp only [nmz]
 refine qD _ rfl rfl ?_;simp only [nmz];refine qB ?_;go_wp2;go_ret;exact ⟨rfl, Mod.trans hM hS (fun _ _ h => h)⟩
def SameRelE (n : Nat) (w0 : World) (s i : Value) (w : World) : Prop := ∃ k : Nat, k ≤ n ∧ i = .int .i64 k ∧ s = .bool true ∧ Mod NoB w0 w
theorem sameEvents_eq (o o' : Bool) (E G E' G' : Nat → Prop) (va vb : Value) (l : List Evt) (w : World) (ha : Sl o w E 39 (EvR o w G) va l) (hb : Sl o' w E' 39 (EvR o' w G') vb l) :
 Calls prog 52 #[va, vb] w (RetM (.bool true) w) := by
 obtain ⟨aa, ca, rfl, hla, ha⟩ := ha.at;obtain ⟨ab, cb, rfl, hlb, hb⟩ := hb.at;have e1 : ((l.length : Int) == (l.length : Int)) = true := by simp
 have HA := hid ha; have HB := hid hb; clear ha hb;go_enter func52, ntmps52;go_wp2
 go_loopw [5, 6] (SameRelE l.length w) (fun _ i _ => l.length - (intOf i).toNat)
 case atStart => exact ⟨0, by omega, rfl, rfl, Mod.refl _ _⟩
 case round =>
  obtain ⟨k, hk, rfl, rfl, hm⟩ := hrel
  rename_i wr
  by_cases hlt : k < l.length
  · obtain ⟨ba, oa, rfl, -, -, hca⟩ := HA.out k hlt
    obtain ⟨bb, ob, rfl, -, -, hcb⟩ := HB.out k hlt;obtain ⟨c1, hcs1, hca0, hca⟩ := hca k hlt;obtain ⟨c2, hcs2, hcb0, hcb⟩ := hcb k hlt
    have HS1 := hid hcs1; have HS2 := hid hcs2; clear hcs1 hcs2;clear HA HB;go_wp2_with fail;have hS := hm.drew
    refine wpRP [(0, 3), (1, 3), (2, 3), (3, 0), (4, 3), (5, 3), (6, 3), (7, 0), (8, 1), (9, 3)] [] (fun w' => Mod NoB w w') hS ?_;simp only [zz4];refine qA _ rfl rfl ?_
    simp only [nmz];refine qA _ rfl rfl ?_;simp only [nmz];refine qX _ _ _ _ _ _ _ _ _ rfl rfl rfl rfl underlying72 (n := 39) (by kernel_rfl) hlt ?_;simp only [nmz]
    refine qS rfl (fun w' hS => zV _ _ rfl _ _ rfl _ (hca.keep hS id) _ underlying115 rfl 39 (by kernel_rfl) HS1.out) ?_;simp only [nmz];refine qA _ rfl rfl ?_
    simp only [nmz];refine qA _ rfl rfl ?_;simp only [nmz];refine qX _ _ _ _ _ _ _ _ _ rfl rfl rfl rfl underlying72 (n := 39) (by kernel_rfl) hlt ?_;simp only [nmz]
    refine qS rfl (fun w' hS => zV _ _ rfl _ _ rfl _ (hcb.keep hS id) _ underlying115 rfl 39 (by kernel_rfl) HS2.out) ?_;simp only [nmz]
    refine qW rfl (fun K hK => ?_)
    refine qG (qH 61 [.tmp 24, .tmp 28] _ rfl _ func61 rfl (by kernel_rfl) [.agg c1, .agg c2] rfl _) (sameEvent_eq _ _ _ _ _ _ _ _ (hca0.keep0 hS) (hcb0.keep0 hS)) ?_
    rintro e' w1 ⟨rfl, hm1⟩;replace hS := hS.trans0 hm1;refine ⟨_, rfl, hK _ _ hS ?_⟩;clear hK K hm1 hm;refine qD _ rfl rfl ?_;simp only [nmz];refine qB ?_;go_wp2
    go_roundw
    case rel => exact ⟨k + 1, by omega, by go_num, rfl, hS⟩
    case measure => simp [intOf]; omega
  · go_wp2
    go_ret;exact ⟨rfl, hm⟩
def DotC (cs : Array Value) (x : Int × Int) : Prop := cs = #[.int .i64 x.1, .int .i64 x.2]
theorem sameDots_any (o o' : Bool) (G G' : Nat → Prop) (va vb : Value) (la lb : List (Int × Int)) (w : World) (ha : Sl o w G 2 DotC va la) (hb : Sl o' w G' 2 DotC vb lb) :
 Calls prog 58 #[va, vb] w (RetM (.bool (decide (la = lb))) w) := by
 obtain ⟨aa, ca, rfl, hla, ha⟩ := ha.at;obtain ⟨ab, cb, rfl, hlb, hb⟩ := hb.at
 by_cases hlen : la.length = lb.length
 · have e1 : ((la.length : Int) == (lb.length : Int)) = true := by simp [hlen]
   have H := hid hlen; have HA := hid ha; have HB := hid hb; clear hlen ha hb;go_enter func58, ntmps58;go_wp2
   go_loopw [5, 6] (SameRel la lb w) (fun _ i _ => la.length - (intOf i).toNat)
   case atStart => exact ⟨0, by omega, rfl, by rw [pre_zero], Mod.refl _ _⟩
   case round =>
    obtain ⟨k, hk, rfl, rfl, hm⟩ := hrel
    rename_i wr
    by_cases hs : pre k la lb = true
    · by_cases hlt : k < la.length
      · have hlt' : k < lb.length := by rw [← H.out]; exact hlt
        obtain ⟨ba, oa, rfl, -, -, hca⟩ := HA.out k hlt;obtain ⟨bb, ob, rfl, -, -, hcb⟩ := HB.out k hlt';obtain ⟨_, -, rfl, hca⟩ := hca k hlt;obtain ⟨_, -, rfl, hcb⟩ := hcb k hlt'
        have hps := hid (pre_succ hlt hlt' hs)
        have hdd : decide ((la[k]).1 = (lb[k]).1 ∧ (la[k]).2 = (lb[k]).2) = decide (la[k] = lb[k]) := by rw [decide_eq_decide]; exact Prod.ext_iff.symm
        have HDD := hid hdd;clear HA HB hdd;go_wp2_with fail;have hS := hm.drew
        refine wpRP [(0, 3), (1, 3), (2, 3), (3, 0), (4, 3), (5, 3), (6, 3), (7, 0), (8, 0), (9, 3)] [] (fun w' => Mod NoB w w') hS ?_;simp only [zz4];refine qA _ rfl rfl ?_
        simp only [nmz];refine qA _ rfl rfl ?_;simp only [nmz];refine qX _ _ _ _ _ _ _ _ _ rfl rfl rfl rfl underlying116 (n := 2) (by kernel_rfl) hlt ?_
        simp only [nmz];refine qS rfl (fun w' hS => zV _ _ rfl _ _ rfl _ (hca.keep hS id) _ underlying113 rfl 2 (by kernel_rfl) rfl) ?_;simp only [nmz]
        refine qA _ rfl rfl ?_;simp only [nmz];refine qA _ rfl rfl ?_;simp only [nmz]
        refine qX _ _ _ _ _ _ _ _ _ rfl rfl rfl rfl underlying116 (n := 2) (by kernel_rfl) hlt' ?_;simp only [nmz]
        refine qS rfl (fun w' hS => zV _ _ rfl _ _ rfl _ (hcb.keep hS id) _ underlying113 rfl 2 (by kernel_rfl) rfl) ?_;simp only [nmz]
        refine qS rfl (fun w' hS => exec_eql_dot _ _ _ rfl _ _ _ _ rfl rfl _ HDD.out) ?_;simp only [nmz];refine qD _ rfl rfl ?_;simp only [nmz];refine qB ?_
        go_wp2
        go_roundw
        case rel => exact ⟨k + 1, by omega, by go_num, by rw [hps.out], hS⟩
        case measure => simp [intOf]; omega
      · go_wp2
        go_ret;exact ⟨by rw [← pre_full H.out (Nat.le_of_not_lt hlt), hs]; rfl, hm⟩
    · have hs' : pre k la lb = false := by simpa using hs
      have hps := hid (pre_false hs'); clear hs;go_wp2;go_ret;exact ⟨by rw [hps.out]; rfl, hm⟩
 · have e1 : ((la.length : Int) == (lb.length : Int)) = false := by simp; omega
   have hps := hid (decide_eq_false (show ¬ la = lb by rintro rfl; exact hlen rfl)); clear hlen;go_enter func58, ntmps58;go_wp2;refine wp_loop_once ?_;go_wp2;go_ret
   exact ⟨by rw [hps.out]; rfl, Mod.refl _ _⟩
theorem Sl.inside {α : Type} {own : Bool} {w : World} {G : Nat → Prop} {sz : Nat} {R : Array Value → α → Prop} {v : Value} {l : List α} (h : Sl own w G sz R v l) (hz : 0 < sz) : Sl own w (fun k => k < w.heap.size) sz R v l := by
 obtain ⟨ad, cap, e, h1, h2, h3⟩ := h;refine ⟨ad, cap, e, h1, h2, fun hne => ?_⟩;obtain ⟨b, off, ha, hG, ho, hc⟩ := h3 hne;refine ⟨b, off, ha, ?_, ho, hc⟩
 cases l with
 | nil => exact absurd rfl hne
 | cons x l =>
  obtain ⟨cs, hs, _, hcs⟩ := hc 0 (by simp);have h0 := hcs 0 (by omega);rw [Array.getElem?_eq_getElem (by omega : 0 < cs.size)] at h0;exact block_lt_of_cell h0
def evt0 : Evt := ⟨0, 0, [], 0, ByteArray.empty, ByteArray.empty, List.replicate 32 0, []⟩
def evZero : Value := .agg (zO evt0 (.slice none 0 0) (.slice none 0 0))
theorem infoEvV : (prog.info? 115).map (fun i => (i.zero, i.size, i.bytes)) = some (some evZero, 39, 136) := by kernel_rfl
theorem zeroEvV : (prog.info? 115).bind (·.zero) = some evZero := by kernel_rfl
def intInfoV : Value := .int .i64 0
def idInfoV : Value := .agg (Array.replicate 32 (.int .u8 0))
theorem infoIntV : (prog.info? 3).map (fun i => (i.zero, i.size, i.bytes)) = some (some intInfoV, 1, 8) := by kernel_rfl
theorem infoIdV : (prog.info? 24).map (fun i => (i.zero, i.size, i.bytes)) = some (some idInfoV, 32, 32) := by kernel_rfl
theorem cloneInts_any (own : Bool) (G : Nat → Prop) (v : Value) (l : List Int) (w : World) (hl : Sl own w G 1 IntC v l) (hlen : l.length ≤ 1048576) :
 Calls prog 129 #[v] w (RetN w fun v' w' => Sl true w' (New w w') 1 IntC v' l) := by
 obtain ⟨css, hall, hsz, hsrc⟩ := hl.src (by omega)
 by_cases hnil : ∃ n c, v = .slice none n c
 · obtain ⟨n, c, rfl⟩ := hnil
   have h0 : l = [] ∧ n = 0 := by
    obtain ⟨h1, ad, c', h2, h3⟩ := hsrc
    cases h2
    by_cases hne : l.length = 0
    · exact ⟨List.eq_nil_of_length_eq_zero hne, hne⟩
    · obtain ⟨b, off, h4, _⟩ := h3 hne
      cases h4
   obtain ⟨rfl, rfl⟩ := h0;have he := fun w => Lib.run_eql_slice_nil (P := prog) w 64 3 none 0 c 0 0 underlying64;go_enter func129, ntmps129;go_wp2;go_ret
   exact ⟨_, rfl, Mod.refl _ _, Sl.nil _ _ _ _ _⟩
 have hsome : ∃ a0 n c, v = .slice (some a0) n c := by
  obtain ⟨h1, ad, c', h2, h3⟩ := hsrc
  cases ad with
  | none => exact absurd ⟨_, _, h2⟩ hnil
  | some a0 => exact ⟨a0, _, _, h2⟩
 obtain ⟨a0, n0, c0, rfl⟩ := hsome;have he := fun w => Lib.run_eql_slice_nil (P := prog) w 64 3 (some a0) n0 c0 0 0 underlying64;go_enter func129, ntmps129
 go_upto_region 3 with (fail);refine wpR [1, 3, 1, 3] (by rfl) (by rfl) ?_;simp only [zz2];refine wpDo rfl ?_
 refine yO 64 3 (by rfl) underlying64 (by kernel_rfl) (fun w1 hb hm hs => ?_);refine qA _ rfl rfl ?_;simp only [nmz];refine wpDo rfl ?_
 refine wp_append _ _ 64 3 intInfoV 1 8 (by rfl) underlying64 infoIntV (by rfl) (by omega) w.heap.size _ 0 [] (by rfl) (owns_empty _ hb (Nat.le_refl _)) _ l.length (css.flatMap Array.toList) (by rfl) (?_ : Src w1 1 _ l.length (css.flatMap Array.toList)) (all2_one hall fun _ _ => intC_one) (by unfold maxLen; omega) (by omega) (by omega) (fun v' w2 hown hgrow _ => ?_)
 · obtain ⟨h1, ad, c, h2, h3⟩ := hsrc
   refine ⟨h1, ad, c, h2, fun hne => ?_⟩;obtain ⟨b, off, h4, h5⟩ := h3 hne;exact ⟨b, off, h4, fun j x hx => hm.cell id (h5 j x hx)⟩
 refine qD _ rfl rfl ?_;simp only [nmz];refine qB ?_;go_wp2;go_ret;have hm2 : Mod NoB w w2 := hm.grown hgrow (fun k hk hlt => by simp [Value.ownBlock] at hk; omega)
 refine ⟨_, rfl, hm2, ?_⟩;have := Sl.of_owns hown (by simp) hsz hall (by simp);exact this.mono (fun k hk => ⟨hk.1, hk.2.1⟩) fun _ _ h => h
theorem cloneIDs_any (own : Bool) (G : Nat → Prop) (v : Value) (l : List (List UInt8)) (w : World) (hl : Sl own w G 32 IdC v l) (hlen : l.length ≤ 1048576) :
 Calls prog 130 #[v] w (RetN w fun v' w' => Sl true w' (New w w') 32 IdC v' l) := by
 obtain ⟨css, hall, hsz, hsrc⟩ := hl.src (by omega)
 by_cases hnil : ∃ n c, v = .slice none n c
 · obtain ⟨n, c, rfl⟩ := hnil
   have h0 : l = [] ∧ n = 0 := by
    obtain ⟨h1, ad, c', h2, h3⟩ := hsrc
    cases h2
    by_cases hne : l.length = 0
    · exact ⟨List.eq_nil_of_length_eq_zero hne, hne⟩
    · obtain ⟨b, off, h4, _⟩ := h3 hne
      cases h4
   obtain ⟨rfl, rfl⟩ := h0;have he := fun w => Lib.run_eql_slice_nil (P := prog) w 25 24 none 0 c 0 0 underlying25;go_enter func130, ntmps130;go_wp2;go_ret
   exact ⟨_, rfl, Mod.refl _ _, Sl.nil _ _ _ _ _⟩
 have hsome : ∃ a0 n c, v = .slice (some a0) n c := by
  obtain ⟨h1, ad, c', h2, h3⟩ := hsrc
  cases ad with
  | none => exact absurd ⟨_, _, h2⟩ hnil
  | some a0 => exact ⟨a0, _, _, h2⟩
 obtain ⟨a0, n0, c0, rfl⟩ := hsome;have he := fun w => Lib.run_eql_slice_nil (P := prog) w 25 24 (some a0) n0 c0 0 0 underlying25;go_enter func130, ntmps130
 go_upto_region 3 with (fail);refine wpR [1, 3, 1, 3] (by rfl) (by rfl) ?_;simp only [zz2];refine wpDo rfl ?_
 refine yO 25 24 (by rfl) underlying25 (by kernel_rfl) (fun w1 hb hm hs => ?_);refine qA _ rfl rfl ?_;simp only [nmz];refine wpDo rfl ?_
 refine wp_append _ _ 25 24 idInfoV 32 32 (by rfl) underlying25 infoIdV (by rfl) (by omega) w.heap.size _ 0 [] (by rfl) (owns_empty _ hb (Nat.le_refl _)) _ l.length (css.flatMap Array.toList) (by rfl) (?_ : Src w1 32 _ l.length (css.flatMap Array.toList)) (all2_one hall fun _ _ => idC_one) (by unfold maxLen; omega) (by omega) (by omega) (fun v' w2 hown hgrow _ => ?_)
 · obtain ⟨h1, ad, c, h2, h3⟩ := hsrc
   refine ⟨h1, ad, c, h2, fun hne => ?_⟩;obtain ⟨b, off, h4, h5⟩ := h3 hne;exact ⟨b, off, h4, fun j x hx => hm.cell id (h5 j x hx)⟩
 refine qD _ rfl rfl ?_;simp only [nmz];refine qB ?_;go_wp2;go_ret;have hm2 : Mod NoB w w2 := hm.grown hgrow (fun k hk hlt => by simp [Value.ownBlock] at hk; omega)
 refine ⟨_, rfl, hm2, ?_⟩;have := Sl.of_owns hown (by simp) hsz hall (by simp);exact this.mono (fun k hk => ⟨hk.1, hk.2.1⟩) fun _ _ h => h
def EvOk (e : Evt) : Prop := e.deps.length ≤ 1048576 ∧ e.refs.length ≤ 1048576
def Inn (Z : Nat → Prop) (base : Nat) (v : Value) (w : World) : Nat → Prop := fun k => base ≤ k ∧ k < w.heap.size ∧ v.ownBlock ≠ some k ∧ ¬ Z k
def EvGs (Z : Nat → Prop) (base : Nat) (w : World) (v : Value) (l : List Evt) : Prop :=
 ∃ css, w.ownsRow base 115 39 v l.length (css.flatMap Array.toList) ∧ (∀ c ∈ css, c.size = 39) ∧ All2 (EvR true w (Inn Z base v w)) css l
section
variable {Z : Nat → Prop} {base : Nat} {l : List Evt} {v : Value} {w w' : World}
theorem EvGs.nil (Z : Nat → Prop) (base : Nat) (w : World) : EvGs Z base w (.slice none 0 0) [] := ⟨[], World.ownsRow_nil _ _ _ _, by simp, by simpa using All2.nil⟩
theorem EvGs.keep {S : Nat → Prop} (h : EvGs Z base w v l) (hm : Mod S w w') (hr : ∀ k, v.ownBlock = some k → ¬ S k) (hS : ∀ k, Inn Z base v w k → ¬ S k) : EvGs Z base w' v l := by
 obtain ⟨css, h1, h2, h3⟩ := h;exact ⟨css, xO h1 hm hr, h2, h3.imp fun _ _ h => (h.keep hm hS).mono fun k hk => ⟨hk.1, Nat.lt_of_lt_of_le hk.2.1 hm.size, hk.2.2⟩⟩
theorem EvGs.keep0 (h : EvGs Z base w v l) (hm : Mod NoB w w') : EvGs Z base w' v l := h.keep hm (fun _ _ => id) (fun _ _ => id)
theorem EvGs.apart {Z' : Nat → Prop} (h : EvGs Z base w v l) (hz : ∀ k, Inn Z base v w k → ¬ Z' k) : EvGs Z' base w v l := by
 obtain ⟨css, h1, h2, h3⟩ := h;exact ⟨css, h1, h2, h3.imp fun _ _ h => h.mono fun k hk => ⟨hk.1, hk.2.1, hk.2.2.1, hz k hk⟩⟩
theorem EvGs.lt (h : EvGs Z base w v l) {q : Nat} (hq : v.ownBlock = some q) : base ≤ q ∧ q < w.heap.size := by
 obtain ⟨css, h1, -⟩ := h;exact h1.lt q hq
theorem EvGs.one (h : EvGs Z base w v l) : v.oneCell' = true := by
 obtain ⟨css, h1, -⟩ := h;exact xX h1
theorem EvGs.sl (h : EvGs Z base w v l) : Sl true w (fun k => base ≤ k ∧ k < w.heap.size ∧ v.ownBlock = some k) 39 (EvR true w (Inn Z base v w)) v l := by
 obtain ⟨css, h1, h2, h3⟩ := h;exact Sl.of_owns h1 rfl h2 h3 rfl
theorem EvGs.slb (h : EvGs Z base w v l) : Sl true w (fun k => base ≤ k ∧ k < w.heap.size) 39 (EvR true w (fun k => base ≤ k ∧ k < w.heap.size)) v l :=
 h.sl.mono (fun _ h => ⟨h.1, h.2.1⟩) (fun _ _ h => h.mono fun _ h => ⟨h.1, h.2.1⟩)
theorem EvGs.based {b' : Nat} (h : EvGs Z base w v l) (hb : b' ≤ base) : EvGs Z b' w v l := by
 obtain ⟨css, h1, h2, h3⟩ := h;exact ⟨css, owns_base h1 hb, h2, h3.imp fun _ _ h => h.mono fun k hk => ⟨Nat.le_trans hb hk.1, hk.2⟩⟩
theorem wp_evs {o : Oper} {a : Act} {K : Act → World → Prop} {Q : Exit → Act → World → Prop} (s x : Operand) (ho : o.op = .call { callee := .builtin .append, args := #[s, x], argTypes := #[72, 72] })
 (hs : a.eval s = v) (hg : EvGs Z base w v l) (b : Nat) (cs : Array Value) (e : Evt) (hx : a.eval x = .slice (some ⟨b, 0, none⟩) 1 1) (hb : w.heap[b]? = some (.cells cs 115 (0, 0))) (hy : EvR true w (Inn Z base v w) cs e)
 (hlen : l.length ≤ 1048576) (hbase : base ≤ w.heap.size)
 (h : ∀ v' w', EvGs Z base w' v' (l ++ [e]) → (v'.ownBlock = v.ownBlock ∨ v'.ownBlock = some w.heap.size) → Mod (fun q => v.ownBlock = some q) w w' → K (a.put o.dst v') w') : o.wp prog a w K Q := by
 obtain ⟨css, h1, h2, h3⟩ := hg
 refine wp_append s x 72 115 evZero 39 136 ho underlying72 infoEvV (by rfl) (by omega) base v l.length (css.flatMap Array.toList) hs h1 _ 1 cs.toList hx
  (⟨by simp [hy.size], _, _, rfl, fun _ => ⟨_, _, rfl, fun j x hx => by rw [Nat.zero_add, cell_of_row w b _ _ _ _ hb]; simpa using hx⟩⟩ : Src w 39 _ 1 cs.toList)
  (fun c hc => hy.one c (by simpa using hc)) (by unfold maxLen; omega) (by omega) hbase (fun v1 w3 hown hgrow hvv => ?_)
 have hm : Mod (fun k => v.ownBlock = some k) w w3 := (Mod.refl _ _).grown hgrow (fun k hk _ => hk)
 have up : ∀ x y, EvR true w (Inn Z base v w) x y → EvR true w3 (Inn Z base v1 w3) x y := fun x y h =>
  (h.keep hm (fun k hk => hk.2.2.1)).mono fun k hk => ⟨hk.1, Nat.lt_of_lt_of_le hk.2.1 hm.size, by
   rcases hvv with hv | hv <;> rw [hv]
   · exact hk.2.2.1
   · have := hk.2.1; intro e; cases e; omega, hk.2.2.2⟩
 refine h v1 w3 ⟨css ++ [cs], by simpa using hown, fun c hc' => ?_, (h3.imp up).snoc (up _ _ hy)⟩ hvv hm
 rcases List.mem_append.1 hc' with h | h
 · exact h2 c h
 · have : c = cs := by simpa using h
   rw [this]; exact hy.size
end
def dotEnc (d : Int × Int) : List Value := [.int .i64 d.1, .int .i64 d.2]
theorem dotEnc_len : ∀ d, (dotEnc d).length = 2 := fun _ => rfl
theorem dotEnc_one : ∀ d, ∀ c ∈ dotEnc d, c.oneCell' = true := by
 intro d c hc;simp only [dotEnc, List.mem_cons, List.not_mem_nil, or_false] at hc
 rcases hc with rfl | rfl <;> rfl
theorem dot_i : (prog.info? 113).map (fun i => (i.zero, i.size, i.bytes)) = some (some (.agg #[.int .i64 0, .int .i64 0]), 2, 16) := by kernel_rfl
abbrev DotGs (base : Nat) (w : World) (v : Value) (l : List (Int × Int)) : Prop := Gat dotEnc 113 2 base w v l
theorem DotGs.sl {base : Nat} {w : World} {v : Value} {l : List (Int × Int)} (h : DotGs base w v l) : Sl true w (fun q => base ≤ q ∧ q < w.heap.size ∧ v.ownBlock = some q) 2 DotC v l :=
 (Gat.sl h dotEnc_len).mono (fun _ h => h) (fun _ _ h => h)
theorem wp_dots {o : Oper} {a : Act} {w : World} {K : Act → World → Prop} {Q : Exit → Act → World → Prop} (s x : Operand) (ho : o.op = .call { callee := .builtin .append, args := #[s, x], argTypes := #[116, 116] })
 {base : Nat} {v : Value} {l : List (Int × Int)} (hs : a.eval s = v) (hg : DotGs base w v l) (b : Nat) (d : Int × Int) (hx : a.eval x = .slice (some ⟨b, 0, none⟩) 1 1) (hb : w.heap[b]? = some (.cells (dotEnc d).toArray 113 (0, 0)))
 (hlen : l.length ≤ 1048576) (hbase : base ≤ w.heap.size)
 (h : ∀ v' w', DotGs base w' v' (l ++ [d]) → (v'.ownBlock = v.ownBlock ∨ v'.ownBlock = some w.heap.size) → Mod (fun q => v.ownBlock = some q) w w' → K (a.put o.dst v') w') : o.wp prog a w K Q := by
 refine wp_append s x 116 113 (.agg #[.int .i64 0, .int .i64 0]) 2 16 ho underlying116 dot_i (by rfl) (by omega) base v l.length _ hs hg _ 1 _ hx (src_lit dotEnc_len hb) (fun c hc => ?_) (by unfold maxLen; omega) (by omega) hbase (fun v' w' ho' hg hv => ?_)
 · obtain ⟨y, _, hy⟩ := List.mem_flatMap.1 hc
   exact dotEnc_one y c hy
 · refine h v' w' ?_ hv ((Mod.refl _ _).grown hg (fun k e _ => e))
   show w'.ownsRow base 113 2 v' (l ++ [d]).length ((l ++ [d]).flatMap dotEnc)
   rw [List.length_append, List.flatMap_append];exact ho'
end
section
open Go.Proofs.Tryz Go.Lib
def atV (v : List Int) (r : Int) : Int := if r < 1 ∨ (v.length : Int) < r then 0 else max (v.getD (r - 1).toNat 0) 0
def hasV (v : List Int) (r n : Int) : Bool := decide (1 ≤ r ∧ 1 ≤ n ∧ n ≤ atV v r)
def joinV (s m : List Int) : List Int := (List.range (max s.length m.length)).map fun (i : Nat) => max (atV s ((i : Int) + 1)) (atV m ((i : Int) + 1))
theorem atV_nonneg (v : List Int) (r : Int) : 0 ≤ atV v r := by
 unfold atV; split <;> omega
theorem atV_out {v : List Int} {r : Int} (h : (v.length : Int) < r) : atV v r = 0 := by
 unfold atV; rw [if_pos (.inr h)]
theorem joinV_len (s m : List Int) : (joinV s m).length = max s.length m.length := by simp [joinV]
theorem atV_join (s m : List Int) (r : Int) : atV (joinV s m) r = max (atV s r) (atV m r) := by
 by_cases h1 : r < 1
 · unfold atV; simp [h1]
 by_cases h2 : ((joinV s m).length : Int) < r
 · rw [atV_out h2]
   rw [joinV_len] at h2;rw [atV_out (by omega : (s.length : Int) < r), atV_out (by omega : (m.length : Int) < r)]
   rfl
 · have h3 : (r - 1).toNat < max s.length m.length := by rw [joinV_len] at h2; omega
   have h0 : (joinV s m).getD (r - 1).toNat 0 = max (atV s r) (atV m r) := by
    have e : ((r.toNat - 1 : Nat) : Int) + 1 = r := by omega
    rw [List.getD_eq_getElem?_getD, List.getElem?_eq_getElem (by rw [joinV_len]; exact h3)]
    simp [joinV, e]
   have h4 := atV_nonneg s r
   conv => lhs; unfold atV
   rw [if_neg (by omega), h0];omega
theorem hasV_join (s m : List Int) (r n : Int) : hasV (joinV s m) r n = (hasV s r n || hasV m r n) := by
 unfold hasV;rw [atV_join, Bool.eq_iff_iff];simp only [decide_eq_true_eq, Bool.or_eq_true];omega
def keptE (v : List Int) (l : List Evt) : List Evt := l.filter fun e => !hasV v e.r e.n
def goneE (v : List Int) (l : List Evt) : List (Int × Int) := (l.filter fun e => hasV v e.r e.n).map fun e => (e.r, e.n)
theorem keptE_snoc (v : List Int) (l : List Evt) (e : Evt) : keptE v (l ++ [e]) = keptE v l ++ (if hasV v e.r e.n then [] else [e]) := by
 unfold keptE;rw [List.filter_append]
 cases h : hasV v e.r e.n <;> simp [h]
theorem goneE_snoc (v : List Int) (l : List Evt) (e : Evt) : goneE v (l ++ [e]) = goneE v l ++ (if hasV v e.r e.n then [(e.r, e.n)] else []) := by
 unfold goneE;rw [List.filter_append, List.map_append]
 cases h : hasV v e.r e.n <;> simp [h]
theorem kept_gone_len (v : List Int) (l : List Evt) : (keptE v l).length + (goneE v l).length = l.length := by
 induction l with
 | nil => rfl
 | cons e l ih =>
  unfold keptE goneE at *;simp only [List.filter_cons, List.length_map] at *
  cases hasV v e.r e.n <;> simp <;> omega
theorem keptE_again (v : List Int) (l : List Evt) : keptE v (keptE v l) = keptE v l := by simp [keptE, List.filter_filter]
theorem goneE_again (v : List Int) (l : List Evt) : goneE v (keptE v l) = [] := by
 unfold goneE keptE;rw [List.filter_filter]
 simp
theorem keptE_join (s m : List Int) (l : List Evt) : keptE (joinV s m) l = keptE m (keptE s l) := by
 unfold keptE;rw [List.filter_filter]
 congr 1
 funext e
 rw [hasV_join]
 cases hasV s e.r e.n <;> cases hasV m e.r e.n <;> rfl
end
section
open Go.RowKit Go.Proofs.Tryz Go.Lib
theorem cmp_AB : cmpI idA idB = -1 := by decide +kernel
theorem lt_AB : idA < idB := by decide +kernel
attribute [local irreducible] shaL ofI
def cA1 : BlobL := [(idA, [65])]
def lA1 : LinkL := [((rA, idA), 1)]
theorem marks_AB {l : List Evt} {out : List (List UInt8)} (h : MarkedOf cAB [idA] l out) (hl : refsL l = [idB]) : out = [idA, idB] := by
 refine sorted_ext h.1 (by simp [lt_AB]) fun x => ?_;rw [h.2 x, hl]
 simp [inR_A]
theorem gone_A1 {ids : List (List UInt8)} (h : IDsC cA1 ids) : goneL ids [idA] = [] := by
 unfold goneL;rw [List.filter_eq_nil_iff];intro x hx;rw [h.2.mem_iff] at hx
 simpa [cA1] using hx
theorem run_A1 : swRun [] cA1 lA1 = (cA1, lA1, 0, 0) := rfl
theorem run_AB : swRun [idB] cAB lAB = (cA1, lA1, 2, 1) := run_A
def evOne : Evt := ⟨1, 1, [], 0, ⟨#[]⟩, ⟨#[]⟩, List.replicate 32 0, []⟩
def xZ : Evt := ⟨2, 1, [], 0, ⟨#[]⟩, ⟨#[]⟩, List.replicate 32 0, []⟩
theorem kept_12 : keptE [1, 0] [evOne, xZ] = [xZ] := by decide
theorem gone_12 : goneE [1, 0] [evOne, xZ] = [(1, 1)] := by decide
end
section
open Go.RowKit Go.Proofs.Tryz Go.Lib
theorem fo_113_0 : zB prog 113 0 = some 0 := by kernel_rfl
theorem fo_113_1 : zB prog 113 1 = some 1 := by kernel_rfl
section
variable {P : Program} {ops : Array Oper} {Q : Exit → Act → World → Prop} {S : World → Prop} {o : Oper} {r : List (Oper × Nat)} {a : Act} {w : World}
theorem wpPi_subTo (t : TypeId) (x y : Operand) (yt : TypeId) (m n z : Int) (hw : Region.wanted o (yielded ops a.tmps) = true) (ho : o.op = .binOp .sub t x y yt) (hx : a.eval x = .int .i64 m) (hy : a.eval y = .int .i64 n)
 (hz : m - n = z) (h1 : -9223372036854775808 ≤ z) (h2 : z ≤ 9223372036854775807) (h : wpPi P ops Q S r (a.put o.dst (.int .i64 z)) w) : wpPi P ops Q S ((o, 3) :: r) a w := by
 subst hz;exact yC t x y yt m n hw ho hx hy h1 h2 h
end
theorem vAt_any {own : Bool} {G : Nat → Prop} {v : Value} {l : List Int} {w : World} (hl : Sl own w G 1 IntC v l) (r : Int) : Calls prog 134 #[v, .int .i64 r] w (RetM (.int .i64 (atV l r)) w) := by
 obtain ⟨ad, cap, rfl, hlm, hat⟩ := hl.at;have HAT := hid hat;clear hl hat
 by_cases h1 : r < 1
 · have HV : Hid (atV l r = 0) := hid (by unfold atV; rw [if_pos (.inl h1)])
   generalize atV l r = z at *;go_enter func134, ntmps134;go_wp2;go_ret;exact ⟨by rw [HV.out]; rfl, Mod.refl _ _⟩
 by_cases h2 : (l.length : Int) < r
 · have HV : Hid (atV l r = 0) := hid (atV_out h2)
   generalize atV l r = z at *;go_enter func134, ntmps134;go_wp2;go_ret;exact ⟨by rw [HV.out]; rfl, Mod.refl _ _⟩
 obtain ⟨k, rfl⟩ : ∃ k : Nat, r = (k : Int) + 1 := ⟨(r - 1).toNat, by omega⟩;have hlt : k < l.length := by omega
 have HV : Hid (atV l ((k : Int) + 1) = max l[k] 0) := hid (by
  unfold atV;rw [if_neg (by omega), show ((k : Int) + 1 - 1).toNat = k by omega, List.getD_eq_getElem?_getD, List.getElem?_eq_getElem hlt]
  rfl)
 obtain ⟨b, off, rfl, -, -, hcc⟩ := HAT.out k hlt;obtain ⟨_, -, rfl, hcA⟩ := hcc k hlt;have hc : w.cell? ⟨b, off + k * 1, none⟩ = some (.int .i64 l[k]) := CellsAt.one.1 hcA
 generalize atV l ((k : Int) + 1) = z at *;generalize l[k] = y at *;clear hcc hcA HAT;go_enter func134, ntmps134;go_upto_region 3 with (fail)
 refine wpR [3, 3, 3, 3, 1, 1, 3] (by rfl) (by rfl) ?_;simp only [zz2];refine qA _ rfl rfl ?_;simp only [nmz];refine qA _ rfl rfl ?_;simp only [nmz]
 refine wpPi_subTo _ _ _ _ _ _ (k : Int) rfl rfl rfl rfl (by omega) (by omega) (by omega) ?_;simp only [nmz]
 refine qX _ _ _ _ _ _ _ _ _ rfl rfl rfl rfl underlying64 (n := 1) (by kernel_rfl) hlt ?_;simp only [nmz]
 refine wpXd (v := (.int .i64 y)) 3 b (off + k * 1) hc underlying3 trivial ?_;try simp only [nmz]
 refine wpX rfl (exec_max _ _ _ y 0 _ (by rfl) (by rfl) (by rfl) rfl) trivial ?_;refine qD _ rfl rfl ?_;simp only [nmz];refine qB ?_;go_wp2;go_ret
 exact ⟨by rw [HV.out]; rfl, Mod.refl _ _⟩
theorem vHas_any {own : Bool} {G : Nat → Prop} {v : Value} {l : List Int} {w : World} (hl : Sl own w G 1 IntC v l) (r n : Int) : Calls prog 60 #[v, .agg #[.int .i64 r, .int .i64 n]] w (RetM (.bool (hasV l r n)) w) := by
 have hone := Sl.one hl;obtain ⟨x, hx⟩ : ∃ x, hasV l r n = x := ⟨_, rfl⟩;obtain ⟨z, hz⟩ : ∃ z, atV l r = z := ⟨_, rfl⟩
 have HX : Hid (x = decide (1 ≤ r ∧ 1 ≤ n ∧ n ≤ z)) := hid (by rw [← hx, ← hz]; rfl);have hcall := fun w' (hm : Mod NoB w w') => vAt_any (hl.keep0 hm) r;rw [hz] at hcall;rw [hx]
 clear hx hz hl;go_enter func60, ntmps60;go_upto_region 0 with (fail);refine wpR [1, 3] (by rfl) (by rfl) ?_;simp only [zz2];refine wpDo rfl ?_
 refine xF 113 _ _ (by rfl) (by rfl) (fun w1 hB1 hm1 hs1 => ?_);replace hB1 : w1.heap[w.heap.size]? = some (.cells #[.int .i64 r, .int .i64 n] 113 (0, 0)) := hB1
 refine qD _ rfl rfl ?_;simp only [nmz];refine qB ?_;have hR : w1.cell? ⟨w.heap.size, 0, none⟩ = some (.int .i64 r) := by simp [World.cell?, hB1]
 have hN : w1.cell? ⟨w.heap.size, 1, none⟩ = some (.int .i64 n) := by simp [World.cell?, hB1]
 generalize w.heap.size = b0 at *;go_upto_region 1 with (fail);have hS : Mod NoB w1 w1.drew := (Mod.refl _ _).drew
 refine wpRP [(0, 3), (1, 0), (2, 0), (3, 3), (4, 3), (5, 0), (6, 0), (7, 3), (8, 3), (9, 3), (10, 0), (11, 3), (12, 3), (13, 0), (14, 1), (15, 0), (16, 3), (17, 3)] [] (fun w' => Mod NoB w1 w') hS ?_
 simp only [zz4];refine qE _ _ _ _ _ _ rfl rfl rfl fo_113_0 ?_;simp only [nmz]
 refine qS rfl (fun w' hS => zJ 3 _ rfl _ _ rfl _ (hS.cell id hR) _ underlying3 rfl) ?_;simp only [nmz]
 by_cases g7 : 1 ≤ r
 · have h7 : Hid (decide (1 ≤ r) = true) := decide_eq_true g7; clear g7
   refine qS rfl (fun w' hS => exec_cmp .geq 3 _ _ _ .i64 r 1 rfl rfl rfl rfl true h7.out) ?_;simp only [nmz];refine qA _ rfl rfl ?_;simp only [nmz]
   refine qE _ _ _ _ _ _ rfl rfl rfl fo_113_1 ?_;simp only [nmz];refine qS rfl (fun w' hS => zJ 3 _ rfl _ _ rfl _ (hS.cell id hN) _ underlying3 rfl) ?_
   simp only [nmz]
   by_cases g11 : 1 ≤ n
   · have h11 : Hid (decide (1 ≤ n) = true) := decide_eq_true g11; clear g11
     refine qS rfl (fun w' hS => exec_cmp .geq 3 _ _ _ .i64 n 1 rfl rfl rfl rfl true h11.out) ?_;simp only [nmz];refine qQ _ _ _ _ rfl rfl rfl ?_;simp only [nmz]
     refine qA _ rfl rfl ?_;simp only [nmz];refine qE _ _ _ _ _ _ rfl rfl rfl fo_113_1 ?_;simp only [nmz]
     refine qS rfl (fun w' hS => zJ 3 _ rfl _ _ rfl _ (hS.cell id hN) _ underlying3 rfl) ?_;simp only [nmz];refine qA _ rfl rfl ?_;simp only [nmz]
     refine qE _ _ _ _ _ _ rfl rfl rfl fo_113_0 ?_;simp only [nmz];refine qS rfl (fun w' hS => zJ 3 _ rfl _ _ rfl _ (hS.cell id hR) _ underlying3 rfl) ?_
     simp only [nmz];refine qW rfl (fun K hK => ?_)
     refine qG (qH 134 [.tmp 16, .tmp 18] _ rfl _ func134 rfl (by kernel_rfl) [v, .int .i64 r] rfl _) (hcall _ (hm1.trans0 hS)) ?_;rintro e w2 ⟨rfl, hm2⟩
     replace hS := hS.trans0 hm2;refine ⟨_, rfl, hK _ _ hS ?_⟩;clear hK K hm2;try simp only [nmz]
     by_cases g20 : n ≤ z
     · have h20 : Hid (decide (n ≤ z) = true) := decide_eq_true g20; clear g20
       refine qS rfl (fun w' hS => exec_cmp .leq 3 _ _ _ .i64 n z rfl rfl rfl rfl true h20.out) ?_;simp only [nmz];refine qQ _ _ _ _ rfl rfl rfl ?_;simp only [nmz]
       refine qD _ rfl rfl ?_;simp only [nmz];refine qB ?_;go_wp2;go_ret;unfold Hid at *
       exact ⟨ret_bool (by rw [HX]; symm; first | (refine decide_eq_true ?_; simp_all; done) | (refine decide_eq_false ?_; intro he; simp_all)), hm1.trans0 hS⟩
     · have h20 : Hid (decide (n ≤ z) = false) := decide_eq_false g20; clear g20
       refine qS rfl (fun w' hS => exec_cmp .leq 3 _ _ _ .i64 n z rfl rfl rfl rfl false h20.out) ?_;simp only [nmz];refine qQ _ _ _ _ rfl rfl rfl ?_;simp only [nmz]
       refine qD _ rfl rfl ?_;simp only [nmz];refine qB ?_;go_wp2;go_ret;unfold Hid at *
       exact ⟨ret_bool (by rw [HX]; symm; first | (refine decide_eq_true ?_; simp_all; done) | (refine decide_eq_false ?_; intro he; simp_all)), hm1.trans0 hS⟩
   · have h11 : Hid (decide (1 ≤ n) = false) := decide_eq_false g11; clear g11
     refine qS rfl (fun w' hS => exec_cmp .geq 3 _ _ _ .i64 n 1 rfl rfl rfl rfl false h11.out) ?_;simp only [nmz];refine qQ _ _ _ _ rfl rfl rfl ?_;simp only [nmz]
     refine qA _ rfl rfl ?_;simp only [nmz];refine qV rfl ?_;simp only [nmz];refine zK rfl ?_;simp only [nmz];refine qV rfl ?_;simp only [nmz]
     refine qV rfl ?_;simp only [nmz];refine zK rfl ?_;simp only [nmz];refine yV rfl hS ?_;simp only [nmz];refine zK rfl ?_;simp only [nmz]
     refine qQ _ _ _ _ rfl rfl rfl ?_;simp only [nmz];refine qD _ rfl rfl ?_;simp only [nmz];refine qB ?_;go_wp2;go_ret;unfold Hid at *
     exact ⟨ret_bool (by rw [HX]; symm; first | (refine decide_eq_true ?_; simp_all; done) | (refine decide_eq_false ?_; intro he; simp_all)), hm1.trans0 hS⟩
 · have h7 : Hid (decide (1 ≤ r) = false) := decide_eq_false g7; clear g7
   refine qS rfl (fun w' hS => exec_cmp .geq 3 _ _ _ .i64 r 1 rfl rfl rfl rfl false h7.out) ?_;simp only [nmz];refine qA _ rfl rfl ?_;simp only [nmz]
   refine qV rfl ?_;simp only [nmz];refine zK rfl ?_;simp only [nmz];refine zK rfl ?_;simp only [nmz];refine qQ _ _ _ _ rfl rfl rfl ?_;simp only [nmz]
   refine qA _ rfl rfl ?_;simp only [nmz];refine qV rfl ?_;simp only [nmz];refine zK rfl ?_;simp only [nmz];refine qV rfl ?_;simp only [nmz]
   refine qV rfl ?_;simp only [nmz];refine zK rfl ?_;simp only [nmz];refine yV rfl hS ?_;simp only [nmz];refine zK rfl ?_;simp only [nmz]
   refine qQ _ _ _ _ rfl rfl rfl ?_;simp only [nmz];refine qD _ rfl rfl ?_;simp only [nmz];refine qB ?_;go_wp2;go_ret;unfold Hid at *
   exact ⟨ret_bool (by rw [HX]; symm; first | (refine decide_eq_true ?_; simp_all; done) | (refine decide_eq_false ?_; intro he; simp_all)), hm1.trans0 hS⟩
theorem swTombs3_any {own own' : Bool} {G G' : Nat → Prop} {w : World} {sb : Nat} {sv : Value} {st : List Int} {cs : Array Value} {e : Evt} (hs : w.heap[sb]? = some (.cells #[sv] 64 (0, 0))) (hl : Sl own w G 1 IntC sv st) (he : EvR own' w G' cs e) :
 Calls prog 133 (#[.agg cs] ++ #[.pointer (some ⟨sb, 0, none⟩)]) w (RetM (.bool (hasV st e.r e.n)) w) := by
 obtain ⟨dv, rv, hca, hi, -⟩ := he;have cA := zG e dv rv hi; rw [← hca] at cA; clear hca;have hone := Sl.one hl;obtain ⟨a0, c0, hsv, -, -⟩ := hl.at;have HL := hid hl
 have HSV := hid hsv;rw [show #[Value.agg cs] ++ #[.pointer (some ⟨sb, 0, none⟩)] = #[.agg cs, .pointer (some ⟨sb, 0, none⟩)] from rfl];clear hl hsv;go_enter func133, ntmps133
 go_upto_region 0 with (fail);refine wpR [1, 3] (by rfl) (by rfl) ?_;simp only [zz2];refine wpDo rfl ?_;refine xF 115 _ _ (by rfl) (by rfl) (fun w1 hB1 hm1 hs1 => ?_)
 replace hB1 : w1.heap[w.heap.size]? = some (.cells cs 115 (0, 0)) := hB1;refine qD _ rfl rfl ?_;simp only [nmz];refine qB ?_
 have hcs : w1.cell? ⟨sb, 0, none⟩ = some sv := by simp [World.cell?, hm1.obj id hs]
 have hA := CellsAt.whole hB1;have hAd := hA.part (i := 0) (j := 2) (by rw [cA.size]; omega);rw [cA.dot] at hAd;have hcall := vHas_any (HL.out.keep0 hm1) e.r e.n
 rw [HSV.out] at hcall hcs;generalize hasV st e.r e.n = x at *;clear hB1 hA hs;go_upto_region 1 with (fail);refine wpR [1, 3, 1, 1, 3] (by rfl) (by rfl) ?_;simp only [zz2]
 refine wpXd 64 sb 0 hcs underlying64 trivial ?_;refine qE _ _ _ _ _ _ rfl rfl rfl fo_115_0 ?_;simp only [nmz]
 refine wpXA 113 w.heap.size (0 + 0) #[.int .i64 e.r, .int .i64 e.n] hAd underlying113 2 rfl trivial ?_;try simp only [nmz]
 refine wpDo rfl ?_
 refine qG (qH 60 [.tmp 4, .tmp 6] _ rfl _ func60 rfl (by kernel_rfl) [.slice a0 st.length c0, .agg #[.int .i64 e.r, .int .i64 e.n]] rfl _) (hcall) ?_
 rintro e' w2 ⟨rfl, hm2⟩;refine ⟨_, rfl, ?_⟩;refine qD _ rfl rfl ?_;simp only [nmz];refine qB ?_;go_wp2;go_ret;exact ⟨rfl, hm1.trans0 hm2⟩
structure TmAt (base kb db : Nat) (kv dv : Value) (lk : List Evt) (ld : List (Int × Int)) (w : World) : Prop where
 kbox : w.heap[kb]? = some (.cells #[kv] 72 (0, 0))
 dbox : w.heap[db]? = some (.cells #[dv] 116 (0, 0))
 kept : EvGs (fun k => dv.ownBlock = some k) base w kv lk
 dots : DotGs base w dv ld
 apart : ∀ q, kv.ownBlock = some q → dv.ownBlock ≠ some q
 kblt : kb < base
 dblt : db < base
 ne : kb ≠ db
 le : base ≤ w.heap.size
theorem TmAt.keep0 {base kb db : Nat} {kv dv : Value} {lk : List Evt} {ld : List (Int × Int)} {w w' : World} (h : TmAt base kb db kv dv lk ld w) (hm : Mod NoB w w') : TmAt base kb db kv dv lk ld w' :=
 ⟨hm.obj id h.kbox, hm.obj id h.dbox, h.kept.keep0 hm, h.dots.keep0 hm, h.apart, h.kblt, h.dblt, h.ne, Nat.le_trans h.le hm.size⟩
def TmIn (base kb db : Nat) (lk : List Evt) (ld : List (Int × Int)) (w : World) : Prop := ∃ kv dv, TmAt base kb db kv dv lk ld w
def TmR (base kb db : Nat) (lk : List Evt) (ld : List (Int × Int)) (w : World) : Ending → World → Prop := fun e w' => e = .returned (.tuple #[]) ∧ TmIn base kb db lk ld w' ∧ Mod (fun k => k = kb ∨ k = db ∨ base ≤ k) w w'
theorem swTombs2_any {base kb db : Nat} {kv dv : Value} {lk : List Evt} {ld : List (Int × Int)} {own : Bool} {G : Nat → Prop} {w : World} {cs : Array Value} {e : Evt} (h : TmAt base kb db kv dv lk ld w) (he : EvR own w G cs e) (hn : ld.length ≤ 10000) :
 Calls prog 131 (#[.agg cs] ++ #[.pointer (some ⟨db, 0, none⟩)]) w (TmR base kb db lk (ld ++ [(e.r, e.n)]) w) := by
 obtain ⟨ev, rv, hca, hi, -⟩ := he;have cA := zG e ev rv hi; rw [← hca] at cA; clear hca
 rw [show #[Value.agg cs] ++ #[.pointer (some ⟨db, 0, none⟩)] = #[.agg cs, .pointer (some ⟨db, 0, none⟩)] from rfl];have HH := hid h;obtain ⟨ad, cap, hdv⟩ := Gat.slice h.dots
 have HDV := hid hdv;clear h hdv;go_enter func131, ntmps131;go_upto_region 0 with (fail);refine wpR [1] (by rfl) (by rfl) ?_;simp only [zz2];refine wpDo rfl ?_
 refine xF 115 _ _ (by rfl) (by rfl) (fun w1 hB1 hm1 hs1 => ?_);replace hB1 : w1.heap[w.heap.size]? = some (.cells cs 115 (0, 0)) := hB1;try simp only [nmz]
 refine qB ?_;have h1 := HH.out.keep0 hm1;have hcd : w1.cell? ⟨db, 0, none⟩ = some dv := by simp [World.cell?, h1.dbox]
 have hA := CellsAt.whole hB1;have hAd := hA.part (i := 0) (j := 2) (by rw [cA.size]; omega);rw [cA.dot] at hAd;rw [HDV.out] at hcd;have H1 := hid h1;clear hB1 hA h1
 go_upto_region 1 with (fail);refine wpR [1, 3, 1, 1, 1, 1] (by rfl) (by rfl) ?_;simp only [zz2];refine wpXd 116 db 0 hcd underlying116 trivial ?_
 refine qE _ _ _ _ _ _ rfl rfl rfl fo_115_0 ?_;simp only [nmz];refine wpXA 113 w.heap.size (0 + 0) #[.int .i64 e.r, .int .i64 e.n] hAd underlying113 2 rfl trivial ?_
 try simp only [nmz]
 refine wpDo rfl ?_
 refine zC 116 113 _ (.agg #[.int .i64 e.r, .int .i64 e.n]) (.agg #[.int .i64 0, .int .i64 0]) 2 (by rfl) (by rfl) underlying116 (by kernel_rfl) (by omega) (by omega) rfl (fun w2 hB2 hm2 hs2 => ?_)
 replace hB2 : w2.heap[w1.heap.size]? = some (.cells (dotEnc (e.r, e.n)).toArray 113 (0, 0)) := hB2;have h2 := H1.out.keep0 hm2;try simp only [nmz]
 refine wpDo rfl ?_;refine wp_dots _ _ (by rfl) (v := dv) (by rw [HDV.out]; rfl) h2.dots w1.heap.size (e.r, e.n) (by rfl) hB2 (by omega) h2.le (fun v3 w3 hg3 hv3 hm3 => ?_)
 have hd3 := hm3.obj (fun e => by have := (Gat.lt h2.dots e).1; have := h2.dblt; omega) h2.dbox
 have hk3 := hm3.obj (fun e => by have := (Gat.lt h2.dots e).1; have := h2.kblt; omega) h2.kbox
 have hE3 : EvGs (fun k => v3.ownBlock = some k) base w3 kv lk := by
  have hE := h2.kept.keep hm3 (fun k hk hd => h2.apart k hk hd) (fun k hk hd => hk.2.2.2 hd);obtain ⟨css, q1, q2, q3⟩ := h2.kept
  have hq := q3.imp fun _ _ h => (h.keep hm3 (fun k hk hd => hk.2.2.2 hd))
  refine ⟨css, xO q1 hm3 (fun k hk hd => h2.apart k hk hd), q2, hq.imp fun _ _ h => h.mono fun k hk => ⟨hk.1, Nat.lt_of_lt_of_le hk.2.1 hm3.size, hk.2.2.1, fun e => ?_⟩⟩
  rcases hv3 with hv | hv
  · exact hk.2.2.2 (hv ▸ e)
  · rw [hv] at e; cases e; exact Nat.lt_irrefl _ hk.2.1
 have hap3 : ∀ q, kv.ownBlock = some q → v3.ownBlock ≠ some q := fun q hq e => by
  rcases hv3 with hv | hv
  · exact h2.apart q hq (hv ▸ e)
  · rw [hv] at e; cases e; have := (h2.kept.lt hq).2; omega
 have hm03 : Mod (fun k => k = kb ∨ k = db ∨ base ≤ k) w w3 := ((hm1.trans0 hm2).mono (fun _ _ h => h.elim)).trans hm3 (fun k _ e => .inr (.inr (Gat.lt h2.dots e).1))
 have hle3 := Nat.le_trans h2.le hm3.size;try simp only [nmz]
 refine wpDo rfl ?_;refine zA 116 _ _ db 0 v3 (by rfl) (by rfl) (by rfl) (xX hg3) (by kernel_rfl) _ _ hd3 (by simp) (fun w4 hB4 hm4 => ?_)
 replace hB4 : w4.heap[db]? = some (.cells #[v3] 116 (0, 0)) := hB4
 have HF : Hid (TmR base kb db lk (ld ++ [(e.r, e.n)]) w (.returned (.tuple #[])) w4) := hid ⟨rfl, ⟨kv, v3, hm4.objB h2.ne hk3, hB4, hE3.keep hm4 (fun k hk e => by have e : k = db := e; have := (hE3.lt hk).1; have := h2.dblt; omega) (fun k hk e => by have e : k = db := e; have := hk.1; have := h2.dblt; omega), Gat.keep hg3 hm4 (fun k hk e => by have e : k = db := e; have := (Gat.lt hg3 hk).1; have := h2.dblt; omega), hap3, h2.kblt, h2.dblt, h2.ne, Nat.le_trans hle3 hm4.size⟩, hm03.trans hm4 (fun k _ e => .inr (.inl e))⟩
 try simp only [nmz]
 refine qB ?_;clear hg3 hE3 hap3 hd3 hk3 hm03 hm4 hB4 h2 hm1 hm2 hm3 hAd hcd hB2 hv3 hle3;go_wp2
 go_end0
 exact HF.out
def longEv (e : Evt) : Bool := decide (20 < e.deps.length ∨ 300 < e.refs.length ∨ 200 < e.repo.size ∨ 200 < e.tag.size)
theorem longEvent_any (own : Bool) (G : Nat → Prop) (cs : Array Value) (e : Evt) (w : World) (h : EvR own w G cs e) : Calls prog 107 #[.agg cs] w (RetM (.bool (longEv e)) w) := by
 obtain ⟨dv, rv, hca, hi, hd, hr, hrepo, htag⟩ := h;have cA := zG e dv rv hi; rw [← hca] at cA; clear hca;obtain ⟨da, dc, rfl, hdl, -⟩ := hd.at
 obtain ⟨ra, rc, rfl, hrl, -⟩ := hr.at;obtain ⟨t, ht⟩ : ∃ t, t = longEv e := ⟨_, rfl⟩;rw [← ht];have HT := hid ht; clear ht;go_enter func107, ntmps107;go_upto_region 0 with (fail)
 refine wpR [1, 3] (by rfl) (by rfl) ?_;simp only [zz2];refine wpDo rfl ?_;refine xF 115 _ _ (by rfl) (by rfl) (fun w1 hB0 hM hs1 => ?_)
 replace hB0 : w1.heap[w.heap.size]? = some (.cells cs 115 (0, 0)) := hB0;refine qD _ rfl rfl ?_;simp only [nmz];refine qB ?_
 have hc2 : w1.cell? ⟨w.heap.size, 2, none⟩ = some (.slice da e.deps.length dc) := by rw [cell_of_row _ _ _ _ _ _ hB0, cA.c2]
 have hc38 : w1.cell? ⟨w.heap.size, 38, none⟩ = some (.slice ra e.refs.length rc) := by rw [cell_of_row _ _ _ _ _ _ hB0, cA.c38]
 have hc4 : w1.cell? ⟨w.heap.size, 4, none⟩ = some (.string e.repo) := by rw [cell_of_row _ _ _ _ _ _ hB0, cA.c4]
 have hc5 : w1.cell? ⟨w.heap.size, 5, none⟩ = some (.string e.tag) := by rw [cell_of_row _ _ _ _ _ _ hB0, cA.c5]
 clear cA hB0;go_wp2
 all_goals
  go_ret;refine ⟨ret_bool ?_, hM⟩;rw [HT.out];unfold longEv;rw [Bool.eq_iff_iff]
  simp
  all_goals omega
def LngRelE (w : World) (l : List Evt) (n i : Value) (w' : World) : Prop :=
 ∃ (k m : Nat), k ≤ l.length ∧ k ≤ 21 ∧ m ≤ 300 * k ∧ i = .int .i64 k ∧ n = .int .i64 m ∧ Mod NoB w w' ∧ ∀ j (h : j < l.length), j < k → longEv l[j] = false
def LngRE {α : Type} (Small : α → Prop) (l : α) (w : World) (e : Ending) (w' : World) : Prop := ∃ b, e = .returned (.bool b) ∧ Mod NoB w w' ∧ (b = false → Small l)
def SmallEvs (l : List Evt) : Prop := l.length ≤ 20 ∧ ∀ e ∈ l, longEv e = false
theorem longEvents_any (own : Bool) (E G : Nat → Prop) (v : Value) (l : List Evt) (w : World) (h : Sl own w E 39 (EvR own w G) v l) : Calls prog 41 #[v, .int .i64 20] w (LngRE SmallEvs l w) := by
 obtain ⟨av, cap, rfl, hlen, hat⟩ := h.at;have HA := hid hat; clear hat;go_enter func41, ntmps41;go_wp2
 go_loopw [5, 6] (LngRelE w l) (fun _ i _ => l.length - (intOf i).toNat)
 case atStart => exact ⟨0, 0, by omega, by omega, by omega, rfl, rfl, Mod.refl _ _, fun j h hj => by omega⟩
 case round =>
  obtain ⟨k, m, hk, hk21, hm, rfl, rfl, hM, hall⟩ := hrel
  rename_i wr
  by_cases hlt : k < l.length ∧ k ≤ 20
  · obtain ⟨hlt, hk20⟩ := hlt
    obtain ⟨b, off, rfl, -, -, hat⟩ := HA.out k hlt;obtain ⟨cs, hcs, hev, hcells⟩ := hat k hlt;clear hat HA;have hev := hev.keep0 hM;have hcells := hcells.keep hM id
    obtain ⟨t, ht⟩ : ∃ t, t = longEv l[k] := ⟨_, rfl⟩;have HT := hid ht; clear ht;go_upto_region 5 with (fail)
    cases t
    · skip
      refine wpR [3, 3, 3, 1, 1] (by rfl) (by rfl) ?_;simp only [zz2];refine qA _ rfl rfl ?_;simp only [nmz];refine qA _ rfl rfl ?_;simp only [nmz]
      refine qX _ _ _ _ _ _ _ _ _ rfl rfl rfl rfl underlying72 (n := 39) (by kernel_rfl) hlt ?_;simp only [nmz]
      refine wpXA 115 b (off + k * 39) _ hcells underlying115 39 hcs trivial ?_;try simp only [nmz]
      refine wpDo rfl ?_;go_wp2_with (go_at_call 107; refine (longEvent_any own G cs l[k] wr hev).mono ?_; rintro _ w1 ⟨rfl, hm1⟩; rw [← HT.out]);try simp only [nmz]
      refine qB ?_;obtain ⟨dv, rv, hca, hi, hd, hr, hrepo, htag⟩ := id hev;have cA := zG l[k] dv rv hi; rw [← hca] at cA; clear hca
      obtain ⟨ra, rc, rfl, hrl, -⟩ := hr.at
      have hsm : l[k].refs.length ≤ 300 := by
       have h1 := HT.out;unfold longEv at h1;have h2 := of_decide_eq_false h1.symm;omega
      obtain ⟨rl, hrl0⟩ : ∃ t, t = l[k].refs.length := ⟨_, rfl⟩
      have hc38 : w1.cell? ⟨b, off + k * 39 + 38, none⟩ = some (.slice ra rl rc) := by rw [hrl0]; exact hm1.cell id (hcells.cell cA.c38)
      rw [← hrl0] at hsm;clear cA hd hr hrl hrl0;have hMn := hM.trans0 hm1;go_upto_region 7 with (fail);refine wpR [3, 3, 3, 3, 3, 1, 3, 3, 3] (by rfl) (by rfl) ?_;simp only [zz2]
      refine qA _ rfl rfl ?_;simp only [nmz];refine qA _ rfl rfl ?_;simp only [nmz];refine qA _ rfl rfl ?_;simp only [nmz]
      refine qX _ _ _ _ _ _ _ _ _ rfl rfl rfl rfl underlying72 (n := 39) (by kernel_rfl) hlt ?_;simp only [nmz];refine qE _ _ _ _ _ _ rfl rfl rfl fo_115_6 ?_
      simp only [nmz];refine wpXd 25 _ _ hc38 underlying25 trivial ?_;try simp only [nmz]
      refine zP _ _ _ _ _ rfl rfl rfl (by kernel_rfl) ?_;simp only [nmz];refine wpPi_add _ _ _ _ _ _ rfl rfl rfl rfl (by omega) (by omega) ?_;simp only [nmz]
      refine qD _ rfl rfl ?_;simp only [nmz];refine qB ?_;go_wp2
      go_roundw
      case rel => exact ⟨k + 1, m + rl, by omega, by omega, by omega, by go_num, by go_num, hMn, fun j h hj => by
       rcases Nat.lt_or_ge j k with h' | h'
       · exact hall j h h'
       · have e : j = k := by omega
         subst e; exact HT.out.symm⟩
      case measure => simp [intOf]; omega
    · skip
      refine wpR [3, 3, 3, 1, 1] (by rfl) (by rfl) ?_;simp only [zz2];refine qA _ rfl rfl ?_;simp only [nmz];refine qA _ rfl rfl ?_;simp only [nmz]
      refine qX _ _ _ _ _ _ _ _ _ rfl rfl rfl rfl underlying72 (n := 39) (by kernel_rfl) hlt ?_;simp only [nmz]
      refine wpXA 115 b (off + k * 39) _ hcells underlying115 39 hcs trivial ?_;try simp only [nmz]
      refine wpDo rfl ?_;go_wp2_with (go_at_call 107; refine (longEvent_any own G cs l[k] wr hev).mono ?_; rintro _ w1 ⟨rfl, hm1⟩; rw [← HT.out]);try simp only [nmz]
      refine qB ?_;go_wp2;go_ret;exact ⟨true, rfl, hM.trans0 hm1, fun h => by cases h⟩
  · clear HA
    have hfin : l.length ≤ 20 → SmallEvs l := fun h20 => ⟨h20, fun e he => by
     obtain ⟨j, hj, rfl⟩ := List.getElem_of_mem he
     exact hall j hj (by omega)⟩
    have hkk : (k : Int) < l.length → 20 < (k : Int) := by omega
    go_wp2
    all_goals
     go_ret;refine ⟨_, rfl, hM, fun hb => hfin ?_⟩
     first
      | omega
      | (simp at hb; done)
      | (simp at hb; omega)
theorem small_ok {e : Evt} (h : longEv e = false) : EvOk e := by
 unfold longEv at h;have h2 := of_decide_eq_false h;exact ⟨by omega, by omega⟩
theorem SmallEvs.ok {l : List Evt} (h : SmallEvs l) : ∀ e ∈ l, EvOk e := fun e he => small_ok (h.2 e he)
theorem swTombs1_any {base kb db : Nat} {kv dv : Value} {lk : List Evt} {ld : List (Int × Int)} {own : Bool} {G : Nat → Prop} {w : World} {cs : Array Value} {e : Evt} (h : TmAt base kb db kv dv lk ld w) (he : EvR own w G cs e) (hok : EvOk e) (hn : lk.length ≤ 10000) :
 Calls prog 128 (#[.agg cs] ++ #[.pointer (some ⟨kb, 0, none⟩)]) w (TmR base kb db (lk ++ [e]) ld w) := by
 obtain ⟨ev, rv, hca, hi, hd, hr, hsz1, hsz2⟩ := he;have cA := zG e ev rv hi; rw [← hca] at cA
 rw [show #[Value.agg cs] ++ #[.pointer (some ⟨kb, 0, none⟩)] = #[.agg cs, .pointer (some ⟨kb, 0, none⟩)] from rfl];have HH := hid h;have HCA := hid hca
 have HKV : Hid (∃ ad cap, kv = .slice ad lk.length cap) := hid (by obtain ⟨ad, cap, h1, -⟩ := Sl.at h.kept.sl; exact ⟨ad, cap, h1⟩);clear h hca;go_enter func128, ntmps128
 go_upto_region 0 with (fail);refine wpR [1] (by rfl) (by rfl) ?_;simp only [zz2];refine wpDo rfl ?_;refine xF 115 _ _ (by rfl) (by rfl) (fun w1 hB1 hm1 hs1 => ?_)
 replace hB1 : w1.heap[w.heap.size]? = some (.cells cs 115 (0, 0)) := hB1;try simp only [nmz]
 refine qB ?_;have hA := CellsAt.whole hB1;have hd1 := hd.keep0 hm1;have hr1 := hr.keep0 hm1;obtain ⟨b0, hb0⟩ : ∃ b, w.heap.size = b := ⟨_, rfl⟩;rw [hb0] at hB1 hA hs1 ⊢
 have HOK := hid hok;clear hd hr;go_upto_region 1 with (fail);have hS : Mod NoB w1 w1.drew := (Mod.refl _ _).drew
 refine wpRP [(0, 3), (1, 0), (3, 3), (4, 0), (2, 1), (6, 3), (5, 1), (7, 2), (8, 3), (9, 2)] [7, 9] (fun w' => Mod NoB w1 w') hS ?_;simp only [zz4]
 refine qE _ _ _ _ _ _ rfl rfl rfl fo_115_1 ?_;simp only [nmz]
 refine qS rfl (fun w' hS => zJ 64 _ rfl _ _ rfl _ (hS.cell id (hA.cell cA.c2)) _ underlying64 rfl) ?_;simp only [nmz]
 refine qE _ _ _ _ _ _ rfl rfl rfl fo_115_6 ?_;simp only [nmz]
 refine qS rfl (fun w' hS => zJ 25 _ rfl _ _ rfl _ (hS.cell id (hA.cell cA.c38)) _ underlying25 rfl) ?_;simp only [nmz];refine qW rfl (fun K hK => ?_)
 refine qG (qH 129 [.tmp 4] _ rfl _ func129 rfl (by kernel_rfl) [ev] rfl _) (cloneInts_any own G _ _ _ (hd1.keep0 hS) HOK.out.1) ?_;rintro e' w3 ⟨dv', rfl, hm3, hd'⟩
 have hlow3 : ∀ k, New w1.drew w3 k → b0 < k := fun k hk => by have := hk.1; have h9 : w1.drew.heap.size = w1.heap.size := rfl; omega
 have hd3 : Sl true w3 (fun k => b0 < k ∧ k < w3.heap.size) 1 IntC dv' e.deps := hd'.mono (fun k hk => ⟨hlow3 k hk, hk.2⟩) (fun _ _ h => h);replace hS := hS.trans0 hm3
 refine ⟨_, rfl, hK _ _ hS ?_⟩;clear hK K hm3 hd' hlow3;refine qE _ _ _ _ _ _ rfl rfl rfl fo_115_1 ?_;simp only [nmz];refine qW rfl (fun K hK => ?_)
 refine qG (qH 130 [.tmp 7] _ rfl _ func130 rfl (by kernel_rfl) [rv] rfl _) (cloneIDs_any own G _ _ _ (hr1.keep0 hS) HOK.out.2) ?_;rintro e' w4 ⟨rv', rfl, hm4, hr'⟩
 have hlow4 : ∀ k, New w3 w4 k → b0 < k := fun k hk => by have := hk.1; have h9 := hS.size; omega
 have hr4 : Sl true w4 (fun k => b0 < k ∧ k < w4.heap.size) 32 IdC rv' e.refs := hr'.mono (fun k hk => ⟨hlow4 k hk, hk.2⟩) (fun _ _ h => h)
 have hd4 : Sl true w4 (fun k => b0 < k ∧ k < w4.heap.size) 1 IntC dv' e.deps := (hd3.keep0 hm4).mono (fun k hk => ⟨hk.1, Nat.lt_of_lt_of_le hk.2 hm4.size⟩) (fun _ _ h => h)
 replace hS := hS.trans0 hm4;refine ⟨_, rfl, hK _ _ hS ?_⟩;clear hK K hm4 hr' hlow4 hd3;try simp only [nmz]
 refine zR rfl (fun K hK => ?_);have hB4 := hS.obj id hB1
 refine zA 64 _ _ b0 2 dv' (by rfl) (by rfl) (by rfl) hd4.one (by kernel_rfl) _ _ hB4 (by rw [cA.size]; omega) (fun w5 hB5 hm5 => ?_)
 have hd5 := hd4.keepB hm5 (fun k hk e => by have := hk.1; omega);have hr5 := hr4.keepB hm5 (fun k hk e => by have := hk.1; omega);rw [HCA.out, evCells_set2] at hB5;refine hK _ _ ?_
 clear hK K hB4;refine qE _ _ _ _ _ _ rfl rfl rfl fo_115_6 ?_;simp only [nmz];refine zR rfl (fun K hK => ?_)
 refine zA 25 _ _ b0 38 rv' (by rfl) (by rfl) (by rfl) hr5.one (by kernel_rfl) _ _ hB5 (by rw [(zG e dv' rv hi).size]; omega) (fun w6 hB6 hm6 => ?_)
 have hd6 := hd5.keepB hm6 (fun k hk e => by have := hk.1; omega);have hr6 := hr5.keepB hm6 (fun k hk e => by have := hk.1; omega);rw [evCells_set38 _ _ _ _ hi] at hB6
 have hm06 : Mod NoB w w6 := ((hm1.trans0 hS).transB hm5 (by omega)).transB hm6 (by omega);refine hK _ _ ?_;clear hK K hB5;try simp only [nmz]
 refine qB ?_;have h6 := HH.out.keep0 hm06;have s5 := hm5.size;have s6 := hm6.size;have hcK : w6.cell? ⟨kb, 0, none⟩ = some kv := by simp [World.cell?, h6.kbox]
 have cC := zG e dv' rv' hi;have hone := evCells_one (e := e) hd6.one hr6.one;have hcE : CellsAt w6 b0 0 (zO e dv' rv') := CellsAt.whole hB6
 have hbase : base ≤ b0 := by have := HH.out.le; omega
 have hIn : ∀ k, b0 < k → k < w6.heap.size → Inn (fun k => dv.ownBlock = some k) base kv w6 k := fun k h1 h2 => ⟨by omega, h2, fun e => by have := (HH.out.kept.lt e).2; omega, fun e => by have := (Gat.lt HH.out.dots e).2; omega⟩
 have hEv : EvR true w6 (Inn (fun k => dv.ownBlock = some k) base kv w6) (zO e dv' rv') e := ⟨dv', rv', rfl, hi, hd6.mono (fun k hk => hIn k hk.1 (by have := hk.2; omega)) (fun _ _ h => h), hr6.mono (fun k hk => hIn k hk.1 (by have := hk.2; omega)) (fun _ _ h => h), hsz1, hsz2⟩
 have HEV := hid hEv;have H6 := hid h6;obtain ⟨ad, cap, hkv⟩ := HKV.out;have HK2 := hid hkv;rw [hkv] at hcK
 clear hIn hd6 hr6 hd5 hr5 hd4 hr4 hB6 hm5 hm6 hS hd1 hr1 hA hB1 h6 hEv hkv cA HCA;go_upto_region 2 with (fail);refine wpR [1, 1, 1, 1, 1] (by rfl) (by rfl) ?_;simp only [zz2]
 refine wpXd 72 kb 0 hcK underlying72 trivial ?_;try simp only [nmz]
 refine wpXA 115 b0 0 (zO e dv' rv') hcE underlying115 39 cC.size trivial ?_;try simp only [nmz]
 refine wpDo rfl ?_
 refine zC 72 115 _ (.agg (zO e dv' rv')) evZero 39 (by rfl) (by rfl) underlying72 (by kernel_rfl) (by omega) (by omega) cC.size (fun w7 hB7 hm7 hs7 => ?_)
 replace hB7 : w7.heap[w6.heap.size]? = some (.cells (zO e dv' rv') 115 (0, 0)) := hB7;have h7 := H6.out.keep0 hm7
 have hE7 : EvR true w7 (Inn (fun k => dv.ownBlock = some k) base kv w7) (zO e dv' rv') e := (HEV.out.keep0 hm7).mono fun k hk => ⟨hk.1, Nat.lt_of_lt_of_le hk.2.1 hm7.size, hk.2.2⟩
 try simp only [nmz]
 refine wpDo rfl ?_;refine wp_evs _ _ (by rfl) (v := kv) (by rw [HK2.out]; rfl) h7.kept w6.heap.size _ e (by rfl) hB7 hE7 (by omega) h7.le (fun v8 w8 hg8 hv8 hm8 => ?_)
 have hd8 := hm8.obj (fun e => by have := (h7.kept.lt e).1; have := h7.dblt; omega) h7.dbox
 have hk8 := hm8.obj (fun e => by have := (h7.kept.lt e).1; have := h7.kblt; omega) h7.kbox;have hD8 : DotGs base w8 dv ld := Gat.keep h7.dots hm8 (fun q hq hk => h7.apart q hk hq)
 have hap8 : ∀ q, v8.ownBlock = some q → dv.ownBlock ≠ some q := fun q hq e => by
  rcases hv8 with hv | hv
  · exact h7.apart q (hv ▸ hq) e
  · rw [hv] at hq; cases hq; have := (Gat.lt h7.dots e).2; omega
 have hm08 : Mod (fun k => k = kb ∨ k = db ∨ base ≤ k) w w8 := ((hm06.trans0 hm7).mono (fun _ _ h => h.elim)).trans hm8 (fun k _ e => .inr (.inr (h7.kept.lt e).1))
 have hle8 := Nat.le_trans h7.le hm8.size;try simp only [nmz]
 refine wpDo rfl ?_;refine zA 72 _ _ kb 0 v8 (by rfl) (by rfl) (by rfl) hg8.one (by kernel_rfl) _ _ hk8 (by simp) (fun w9 hB9 hm9 => ?_)
 replace hB9 : w9.heap[kb]? = some (.cells #[v8] 72 (0, 0)) := hB9
 have HF : Hid (TmR base kb db (lk ++ [e]) ld w (.returned (.tuple #[])) w9) := hid ⟨rfl, ⟨v8, dv, hB9, hm9.objB (Ne.symm h7.ne) hd8, hg8.keep hm9 (fun k hk e => by have e : k = kb := e; have := (hg8.lt hk).1; have := h7.kblt; omega) (fun k hk e => by have e : k = kb := e; have := hk.1; have := h7.kblt; omega), Gat.keep hD8 hm9 (fun k hk e => by have e : k = kb := e; have := (Gat.lt hD8 hk).1; have := h7.kblt; omega), hap8, h7.kblt, h7.dblt, h7.ne, Nat.le_trans hle8 hm9.size⟩, hm08.trans hm9 (fun k _ e => .inl e)⟩
 try simp only [nmz]
 refine qB ?_;clear hg8 hD8 hap8 hd8 hk8 hm08 hm9 hB9 h7 hE7 hm7 hm8 hB7 hv8 hle8 hcK hcE;go_wp2
 go_end0
 exact HF.out
def TmRel (w0 : World) (base kb db : Nat) (st : List Int) (l : List Evt) (i : Value) (w : World) : Prop :=
 ∃ k : Nat, k ≤ l.length ∧ i = .int .i64 k ∧ TmIn base kb db (keptE st (l.take k)) (goneE st (l.take k)) w ∧ Mod (fun k => k = kb ∨ k = db ∨ base ≤ k) w0 w
theorem keptE_len (st : List Int) (l : List Evt) : (keptE st l).length ≤ l.length := List.length_filter_le _ _
theorem goneE_len (st : List Int) (l : List Evt) : (goneE st l).length ≤ l.length := by unfold goneE; rw [List.length_map]; exact List.length_filter_le _ _
def FnV (f b : Nat) : Value := .func (.func f) #[] #[.pointer (some ⟨b, 0, none⟩)]
theorem swParted_any {own own' own2 : Bool} {E G G2 : Nat → Prop} {w : World} {lo base kb db sb : Nat} {v sv : Value} {st : List Int} {l : List Evt} (hl : Sl own w E 39 (EvR own' w G) v l) (hE : ∀ k, E k → k < lo) (hG : ∀ k, G k → k < lo)
 (hs : w.heap[sb]? = some (.cells #[sv] 64 (0, 0))) (hst : Sl own2 w G2 1 IntC sv st) (hG2 : ∀ k, G2 k → k < lo) (hlk : lo ≤ kb) (hld : lo ≤ db) (hsk : sb ≠ kb) (hsd : sb ≠ db) (hsb : sb < base) (h0 : TmIn base kb db [] [] w) (hlen : l.length ≤ 10000) (hok : ∀ e ∈ l, EvOk e) :
 Calls prog 132 #[v, FnV 133 sb, FnV 128 kb, FnV 131 db] w (TmR base kb db (keptE st l) (goneE st l) w) := by
 obtain ⟨ad, cap, rfl, hlm, -⟩ := Sl.at hl;have hlb : lo ≤ base := by obtain ⟨kv, dv, h⟩ := h0; have := h.kblt; omega
 have HL := hid hl;have HST := hid hst;have HOK := hid hok
 have HR0 : Hid (TmRel w base kb db st l (.int .i64 (0 : Nat)) w) := hid ⟨0, Nat.zero_le _, rfl, by rw [List.take_zero]; exact h0, Mod.refl _ _⟩;clear hl hst hok h0;unfold FnV
 go_enter func132, ntmps132;go_wp2
 go_loopw [13] (TmRel w base kb db st l) (fun i _ => l.length - (intOf i).toNat)
 case atStart => exact HR0.out
 case round =>
  rename World => wr
  obtain ⟨k, hk, rfl, hTm, hmr⟩ := hrel;have hHm := hid hmr
  by_cases hlt : k < l.length
  · have hz : (k : Int) < (l.length : Nat) := by omega
    have hlr := HL.out.keep hmr (fun k hk e => by have := hE k hk; omega) (fun _ _ h => h.keep hmr (fun k hk e => by have := hG k hk; omega));obtain ⟨_, _, hae, -, hat⟩ := hlr.at
    injection hae with hae1 hae2 hae3;subst hae1 hae3;obtain ⟨b, off, rfl, -, -, hcc⟩ := hat k hlt;obtain ⟨cs, hcs, hev, hcA⟩ := hcc k hlt
    have hok := HOK.out _ (List.getElem_mem hlt);have hks := keptE_snoc st (l.take k) l[k];have hgs := goneE_snoc st (l.take k) l[k]
    rw [← List.take_succ_eq_append_getElem hlt] at hks hgs;have hlk1 := keptE_len st (l.take k);have hlg1 := goneE_len st (l.take k);rw [List.length_take] at hlk1 hlg1
    generalize l[k] = ev at *;have hsr := hmr.obj (show ¬ (sb = kb ∨ sb = db ∨ base ≤ sb) by omega) hs
    have hstr := HST.out.keep hmr (fun k hk e => by have := hG2 k hk; omega) (fun _ _ h => h);have HTM := hid hTm;have HEV := hid hev;have HSL := hid hstr
    have h1c : ∀ c ∈ cs, c.oneCell' = true := hev.one;have HKS := hid hks;have HGS := hid hgs;clear hlr hat hcc hae2 hTm hev hstr hmr hks hgs;go_upto_region 2 with (fail)
    refine wpR [3, 1, 1, 1] (by rfl) (by rfl) ?_;simp only [zz2];refine qX _ _ _ _ _ _ _ _ _ rfl rfl rfl rfl underlying72 (n := 39) (by kernel_rfl) hlt ?_;simp only [nmz]
    refine wpXA 115 b (off + k * 39) cs hcA underlying115 39 hcs trivial ?_;try simp only [nmz]
    refine wpDo rfl ?_;refine qU 115 _ (by rfl) zeroEvV (fun w2 hB2 hm2 hs2 => ?_)
    replace hB2 : w2.heap[wr.heap.size]? = some (.cells (zO evt0 (.slice none 0 0) (.slice none 0 0)) 115 (0, 0)) := hB2;try simp only [nmz]
    refine wpDo rfl ?_
    refine qM 115 _ _ wr.heap.size 0 cs (by rfl) (by rfl) (by rfl) h1c 39 (by kernel_rfl) hcs _ _ hB2 (by rw [hcs, (zG _ _ _ (by simp [evt0])).size]; omega) (fun w3 hB3 hm3 => ?_)
    rw [qK (by rw [hcs, (zG _ _ _ (by simp [evt0])).size])] at hB3;try simp only [nmz]
    refine qB ?_;have hmr3 : Mod NoB wr w3 := hm2.transB hm3 (Nat.le_refl _);have hca3 : CellsAt w3 wr.heap.size 0 cs := CellsAt.whole hB3
    have htest := swTombs3_any (hmr3.obj id hsr) (HSL.out.keep0 hmr3) (HEV.out.keep0 hmr3);have hrb := hmr3.size
    have hb9 : base ≤ wr.heap.size := by obtain ⟨kv, dv, h⟩ := HTM.out; exact h.le
    obtain ⟨x, hx⟩ : ∃ x, hasV st ev.r ev.n = x := ⟨_, rfl⟩;rw [hx] at htest;have HX := hid hx;clear hx hcA hm2 hm3 hB2 hs2;generalize hb7 : wr.heap.size = b7 at *
    go_upto_region 4 with (fail);refine wpR [3, 1, 1] (by rfl) (by rfl) ?_;simp only [zz2];refine qA _ rfl rfl ?_;simp only [nmz]
    refine wpXA 115 b7 0 cs hca3 underlying115 39 hcs trivial ?_;try simp only [nmz]
    refine wpDo rfl ?_;refine qG (run_clos _ _ _ 133 #[.pointer (some ⟨sb, 0, none⟩)] (by rfl) (by rfl) (.agg cs) (by rfl) (enters_of func133 (by kernel_rfl) rfl)) htest ?_
    rintro e w4 ⟨rfl, hm4⟩;refine ⟨_, rfl, ?_⟩;try simp only [nmz]
    refine qB ?_;have hmr4 := hmr3.trans0 hm4;have hca4 : CellsAt w4 b7 0 cs := CellsAt.whole (hm4.obj id hB3);have hev4 := HEV.out.keep0 hmr4;clear htest hm4 hB3 hca3 hmr3
    obtain ⟨kv, dv, htm⟩ := HTM.out;have htm4 := htm.keep0 hmr4
    cases x with
    | true =>
     have hcall := swTombs2_any htm4 hev4 (by omega);go_upto_region 6 with (fail);refine wpR [3, 1, 1] (by rfl) (by rfl) ?_;simp only [zz2];refine qA _ rfl rfl ?_
     simp only [nmz];refine wpXA 115 b7 0 cs hca4 underlying115 39 hcs trivial ?_;try simp only [nmz]
     refine wpDo rfl ?_;refine qG (run_clos _ _ _ 131 #[.pointer (some ⟨db, 0, none⟩)] (by rfl) (by rfl) (.agg cs) (by rfl) (enters_of func131 (by kernel_rfl) rfl)) hcall ?_
     rintro e w5 ⟨rfl, htm5, hm5⟩
     have HR : Hid (TmRel w base kb db st l (.int .i64 ((k + 1 : Nat) : Int)) w5) := hid ⟨k + 1, by omega, rfl, by rw [HKS.out, HGS.out, HX.out, if_pos rfl, if_pos rfl, List.append_nil]; exact htm5, (hHm.out.trans hmr4 (fun _ _ h => h.elim)).trans hm5 (fun _ _ h => h)⟩
     refine ⟨_, rfl, ?_⟩;try simp only [nmz]
     refine qB ?_;clear hcall htm4 htm5 hm5 hmr4 htm hev4;go_wp2
     go_roundw
     case rel => exact HR.out
     case measure => simp [intOf]; omega
    | false =>
     have hcall := swTombs1_any htm4 hev4 hok (by omega);go_upto_region 6 with (fail);refine wpR [3, 1, 1] (by rfl) (by rfl) ?_;simp only [zz2];refine qA _ rfl rfl ?_
     simp only [nmz];refine wpXA 115 b7 0 cs hca4 underlying115 39 hcs trivial ?_;try simp only [nmz]
     refine wpDo rfl ?_;refine qG (run_clos _ _ _ 128 #[.pointer (some ⟨kb, 0, none⟩)] (by rfl) (by rfl) (.agg cs) (by rfl) (enters_of func128 (by kernel_rfl) rfl)) hcall ?_
     rintro e w5 ⟨rfl, htm5, hm5⟩
     have HR : Hid (TmRel w base kb db st l (.int .i64 ((k + 1 : Nat) : Int)) w5) := hid ⟨k + 1, by omega, rfl, by rw [HKS.out, HGS.out, HX.out, if_neg (by simp), if_neg (by simp), List.append_nil]; exact htm5, (hHm.out.trans hmr4 (fun _ _ h => h.elim)).trans hm5 (fun _ _ h => h)⟩
     refine ⟨_, rfl, ?_⟩;try simp only [nmz]
     refine qB ?_;clear hcall htm4 htm5 hm5 hmr4 htm hev4;go_wp2
     go_roundw
     case rel => exact HR.out
     case measure => simp [intOf]; omega
  · have hz : ¬ (k : Int) < (l.length : Nat) := by omega
    obtain rfl : k = l.length := by omega
    rw [List.take_length] at hTm;have HF : Hid (TmR base kb db (keptE st l) (goneE st l) w (.returned (.tuple #[])) wr) := hid ⟨rfl, hTm, hmr⟩;clear hTm hmr hHm;go_wp2
    go_end0
    exact HF.out
theorem run_loadVar1 {P : Program} {w : World} {ty : TypeId} {p : Addr} {v : Value} {d : TypeDesc} (hc : w.cell? p = some v) (hu : P.underlying ty = some d) (hd : (match d with | .struct _ | .array _ _ => true | _ => false) = false) : (loadVar ty p).run P w = .ok v w := by
 have hagg : (isAgg ty).run P w = .ok false w := by
  unfold isAgg;rw [Sem.run_bind, run_underlying hu w]
  cases d <;> simp_all
 simp only [loadVar, Sem.run_bind, hagg, Result.andThen_ok, Bool.false_eq_true, if_false]
 simp [load, Sem.run, hc]
theorem results_cell2 {P : Program} {fn : Func} {p q : Tmp} {ty tz : TypeId} (h : fn.results = #[.cell p ty, .cell q tz]) (tmps : Array Value) (w : World) (b1 b2 : Nat) (v1 v2 : Value) (d1 d2 : TypeDesc)
 (hp1 : tmps.getD p undef = .pointer (some ⟨b1, 0, none⟩)) (hc1 : w.cell? ⟨b1, 0, none⟩ = some v1) (hp2 : tmps.getD q undef = .pointer (some ⟨b2, 0, none⟩)) (hc2 : w.cell? ⟨b2, 0, none⟩ = some v2)
 (hu1 : P.underlying ty = some d1) (hd1 : (match d1 with | .struct _ | .array _ _ => true | _ => false) = false) (hu2 : P.underlying tz = some d2) (hd2 : (match d2 with | .struct _ | .array _ _ => true | _ => false) = false) :
 (results fn tmps).run P w = .ok (.tuple #[v1, v2]) w := by
 have e1 : tmps[p]?.getD undef = .pointer (some ⟨b1, 0, none⟩) := by simpa using hp1
 have e2 : tmps[q]?.getD undef = .pointer (some ⟨b2, 0, none⟩) := by simpa using hp2
 have r1 := run_loadVar1 hc1 hu1 hd1;have r2 := run_loadVar1 hc2 hu2 hd2
 simp [results, h, e1, e2, asAddr, r1, r2]
def TombR (w : World) (st : List Int) (l : List Evt) : Ending → World → Prop := fun e w' => Mod NoB w w' ∧ ∃ kv dv, e = .returned (.tuple #[kv, dv]) ∧ EvGs (fun k => dv.ownBlock = some k) w.heap.size w' kv (keptE st l) ∧ DotGs w.heap.size w' dv (goneE st l) ∧ ∀ q, kv.ownBlock = some q → dv.ownBlock ≠ some q
theorem swTombs_any {own own' own2 : Bool} {E G G2 : Nat → Prop} {w : World} {v sv : Value} {st : List Int} {l : List Evt} (hl : Sl own w E 39 (EvR own' w G) v l) (hE : ∀ k, E k → k < w.heap.size) (hG : ∀ k, G k → k < w.heap.size)
 (hst : Sl own2 w G2 1 IntC sv st) (hlen : l.length ≤ 10000) (hok : ∀ e ∈ l, EvOk e) :
 Calls prog 57 #[v, sv] w (TombR w st l) := by
 obtain ⟨ad, cap, rfl, hlm, -⟩ := Sl.at hl;have hst' := Sl.inside hst (by omega);obtain ⟨sad, scap, hsv, -, -⟩ := Sl.at hst;have hmf := xJ;have HL := hid hl
 have HST := hid hst';have HOK := hid hok;have HSV := hid hsv;clear hl hst hst' hok;go_enter func57, ntmps57;go_upto_region 0 with (fail);refine wpR [1, 1, 1] (by rfl) (by rfl) ?_
 simp only [zz2];refine wpDo rfl ?_;refine xF 64 _ _ (by rfl) (by rfl) (fun w1 hB1 hm1 hs1 => ?_)
 replace hB1 : w1.heap[w.heap.size]? = some (.cells #[sv] 64 (0, 0)) := by rw [HSV.out] at hB1 ⊢; exact hB1
 try simp only [nmz]
 refine wpDo rfl ?_;refine qU 72 (.slice none 0 0) (by rfl) (by kernel_rfl) (fun w2 hB2 hm2 hs2 => ?_)
 replace hB2 : w2.heap[w1.heap.size]? = some (.cells #[.slice none 0 0] 72 (0, 0)) := hB2;try simp only [nmz]
 refine wpDo rfl ?_;refine qU 116 (.slice none 0 0) (by rfl) (by kernel_rfl) (fun w3 hB3 hm3 hs3 => ?_)
 replace hB3 : w3.heap[w2.heap.size]? = some (.cells #[.slice none 0 0] 116 (0, 0)) := hB3;try simp only [nmz]
 refine qB ?_;have hm03 := (hm1.trans0 hm2).trans0 hm3;have hsb3 := (hm2.trans0 hm3).obj id hB1;have hkb3 := hm3.obj id hB2
 have h0 : TmIn w3.heap.size w1.heap.size w2.heap.size [] [] w3 := ⟨.slice none 0 0, .slice none 0 0, hkb3, hB3, EvGs.nil _ _ _, Gat.nil _ _ _ _ _, fun q e => by simp [Value.ownBlock] at e, by have := hm3.size; omega, hs3, by omega, Nat.le_refl _⟩
 have s1 := hm1.size;have s2 := hm2.size
 have hpart := swParted_any (lo := w.heap.size) (sb := w.heap.size) (SlEv.keep0 HL.out hm03) hE hG hsb3 (HST.out.keep0 hm03) (fun _ h => h) s1 (by omega) (by omega) (by omega) (by omega) h0 hlen HOK.out
 unfold FnV at hpart;generalize hbk : w1.heap.size = kb at *;generalize hbd : w2.heap.size = db at *;generalize hbs : w.heap.size = sb at *
 clear hB1 hB2 hB3 hm1 hm2 hm3 hsb3 hkb3 h0;go_upto_region 3 with (fail);refine wpR [3, 1, 3, 3, 1] (by rfl) (by rfl) ?_;simp only [zz2];refine qA _ rfl rfl ?_
 simp only [nmz];refine wpX rfl (yM 133 [.tmp 3] (by rfl) [.pointer (some ⟨sb, 0, none⟩)] (by rfl)) trivial ?_;refine qA _ rfl rfl ?_;simp only [nmz]
 refine qA _ rfl rfl ?_;simp only [nmz];refine wpDo rfl ?_
 refine qG (qH 132 [.tmp 10, .tmp 11, .tmp 12, .tmp 13] _ rfl _ func132 rfl (by kernel_rfl) [.slice ad l.length cap, .func (.func 133) #[] #[.pointer (some ⟨sb, 0, none⟩)], .func (.func 128) #[] #[.pointer (some ⟨kb, 0, none⟩)], .func (.func 131) #[] #[.pointer (some ⟨db, 0, none⟩)]] rfl _) (hpart) ?_
 rintro e w4 ⟨rfl, ⟨kv, dv, htm⟩, hm4⟩;refine ⟨_, rfl, ?_⟩;try simp only [nmz]
 refine qB ?_;obtain ⟨⟨ead, ecap, hkv, -, -⟩, ⟨dad, dcap, hdv⟩⟩ := And.intro (Sl.at htm.kept.sl) (Gat.slice htm.dots);have HTM := hid htm;have HKV := hid hkv
 have HDV := hid hdv;have hm04 : Mod NoB w w4 := hm03.trans hm4 (fun k hk e => by omega);have hkd := htm.ne;have hkb4 : w4.drew.heap[kb]? = some (.cells #[kv] 72 (0, 0)) := htm.kbox
 have hdb4 : w4.drew.heap[db]? = some (.cells #[dv] 116 (0, 0)) := htm.dbox
 have hS : w4.drew.heap[kb]? = some (.cells #[kv] 72 (0, 0)) ∧ w4.drew.heap[db]? = some (.cells #[dv] 116 (0, 0)) ∧ Mod (fun k => k = kb ∨ k = db) w4 w4.drew := ⟨hkb4, hdb4, (Mod.refl _ _).drew⟩
 clear hpart htm hkb4 hdb4;go_upto_region 4 with (fail)
 refine wpRP [(0, 0), (1, 0), (2, 1), (3, 1)] [] (fun w' => w'.heap[kb]? = some (.cells #[kv] 72 (0, 0)) ∧ w'.heap[db]? = some (.cells #[dv] 116 (0, 0)) ∧ Mod (fun k => k = kb ∨ k = db) w4 w') hS ?_
 simp only [zz4];refine qS rfl (fun w' hS => zJ 72 _ rfl kb 0 rfl kv (by simp [World.cell?, hS.1]) _ underlying72 rfl) ?_;simp only [nmz]
 refine qS rfl (fun w' hS => zJ 116 _ rfl db 0 rfl dv (by simp [World.cell?, hS.2.1]) _ underlying116 rfl) ?_;simp only [nmz];refine qW rfl (fun K hK => ?_)
 refine zA 72 _ _ kb 0 kv (by rfl) (by rfl) (by rfl) HTM.out.kept.one (by kernel_rfl) _ _ hS.1 (by simp) (fun w5 hB5 hm5 => ?_)
 replace hS : w5.heap[kb]? = some (.cells #[kv] 72 (0, 0)) ∧ w5.heap[db]? = some (.cells #[dv] 116 (0, 0)) ∧ Mod (fun k => k = kb ∨ k = db) w4 w5 := ⟨hB5, hm5.objB (Ne.symm hkd) hS.2.1, hS.2.2.trans hm5 (fun k _ e => .inl e)⟩
 refine hK _ _ hS ?_;clear hK K hB5 hm5;try simp only [nmz]
 refine qW rfl (fun K hK => ?_);refine zA 116 _ _ db 0 dv (by rfl) (by rfl) (by rfl) (xX HTM.out.dots) (by kernel_rfl) _ _ hS.2.1 (by simp) (fun w6 hB6 hm6 => ?_)
 replace hS : w6.heap[kb]? = some (.cells #[kv] 72 (0, 0)) ∧ w6.heap[db]? = some (.cells #[dv] 116 (0, 0)) ∧ Mod (fun k => k = kb ∨ k = db) w4 w6 := ⟨hm6.objB hkd hS.1, hB6, hS.2.2.trans hm6 (fun k _ e => .inr e)⟩
 refine hK _ _ hS ?_;clear hK K hB6 hm6;try simp only [nmz]
 refine qB ?_;obtain ⟨hk6, hd6, hm46⟩ := hS;have hkc : w6.cell? ⟨kb, 0, none⟩ = some kv := by simp [World.cell?, hk6]
 have hdc : w6.cell? ⟨db, 0, none⟩ = some dv := by simp [World.cell?, hd6]
 have htm := HTM.out;have hb := htm.kblt;have hb' := htm.dblt
 have HF : Hid (TombR w st l (.returned (.tuple #[kv, dv])) w6) := hid ⟨hm04.trans hm46 (fun k hk e => by omega), kv, dv, rfl, (htm.kept.keep hm46 (fun k hk e => by have := (htm.kept.lt hk).1; omega) (fun k hk e => by have := hk.1; omega)).based (by omega), Gat.base (Gat.keep htm.dots hm46 (fun k hk e => by have := (Gat.lt htm.dots hk).1; omega)) (by omega), htm.apart⟩
 rw [HKV.out] at hkc;rw [HDV.out] at hdc;clear htm hk6 hd6 hm46 hm04 hm4;go_wp2
 refine bodyPost_ret (results_cell2 (P := prog) (ty := 72) (tz := 116) rfl _ _ kb db _ _ _ _ (by rfl) hkc (by rfl) hdc underlying72 rfl underlying116 rfl) rfl ?_;have h9 := HF.out
 rw [HKV.out, HDV.out] at h9;exact h9
end
end Go.Proofs.YtjeonjoifjbohaaGreat
