/- Memory of which only the shape is known: what writes over letters leaves its shape. -/
import Derived.Test.YtdllpakdhnanbaaLawC
namespace Go.Proofs.Ytdllpakdhnanbaa
set_option linter.unusedSimpArgs false
set_option linter.unusedVariables false
set_option linter.unnecessarySimpa false
open Go.RowKit

inductive Kd where
  | i | b | s | l
  deriving DecidableEq
def Kind (v : Value) : Kd → Prop
  | .i => ∃ n, v = .int .i64 n
  | .b => ∃ x, v = byteV x
  | .s => ∃ t, v = .string t
  | .l => ∃ a n c, v = .slice a n c
/-- May v' stand where v stood? -/
def Like (v v' : Value) : Prop := (∀ k, Kind v k → Kind v' k) ∧ ∀ a n c, v = .slice a n c → v' = v ∨ v' = .slice none 0 0
theorem Like.refl (v : Value) : Like v v := ⟨fun _ h => h, fun _ _ _ _ => .inl rfl⟩
theorem Like.trans {a b c : Value} (h : Like a b) (k : Like b c) : Like a c := ⟨fun x hx => k.1 x (h.1 x hx), fun p q r e => by
  rcases h.2 p q r e with e1 | e1
  · rw [← e1]; rcases k.2 p q r (e1.trans e) with e2 | e2
    · exact .inl e2
    · exact .inr e2
  · rcases k.2 _ _ _ e1 with e2 | e2
    · exact .inr (e2.trans e1)
    · exact .inr e2⟩
theorem Like.int (m n : Int) : Like (.int .i64 m) (.int .i64 n) := by
  refine ⟨fun k hk => ?_, fun _ _ _ e => ?_⟩
  · cases k with
    | i => exact ⟨n, rfl⟩
    | b => obtain ⟨x, hx⟩ := hk; cases hx
    | s => obtain ⟨x, hx⟩ := hk; cases hx
    | l => obtain ⟨a, b, c, hx⟩ := hk; cases hx
  · cases e
theorem Like.byte (m n : UInt8) : Like (byteV m) (byteV n) := by
  refine ⟨fun k hk => ?_, fun _ _ _ e => ?_⟩
  · cases k with
    | i => obtain ⟨x, hx⟩ := hk; cases hx
    | b => exact ⟨n, rfl⟩
    | s => obtain ⟨x, hx⟩ := hk; cases hx
    | l => obtain ⟨a, b, c, hx⟩ := hk; cases hx
  · cases e
theorem Like.str (m n : ByteArray) : Like (.string m) (.string n) := by
  refine ⟨fun k hk => ?_, fun _ _ _ e => ?_⟩
  · cases k with
    | i => obtain ⟨x, hx⟩ := hk; cases hx
    | b => obtain ⟨x, hx⟩ := hk; cases hx
    | s => exact ⟨n, rfl⟩
    | l => obtain ⟨a, b, c, hx⟩ := hk; cases hx
  · cases e
theorem Like.nil (a : Option Addr) (n c : Nat) : Like (.slice a n c) (.slice none 0 0) := by
  refine ⟨fun k hk => ?_, fun _ _ _ e => ?_⟩
  · cases k with
    | i => obtain ⟨x, hx⟩ := hk; cases hx
    | b => obtain ⟨x, hx⟩ := hk; cases hx
    | s => obtain ⟨x, hx⟩ := hk; cases hx
    | l => exact ⟨none, 0, 0, rfl⟩
  · exact .inr rfl
/-- A value of the same kind, where it is no slice, or it is nil. -/
theorem Like.of {v v' : Value} {k : Kd} (h : Kind v k) (h' : Kind v' k) (hl : k = .l → v' = .slice none 0 0) : Like v v' := by
  cases k with
  | i => obtain ⟨m, rfl⟩ := h; obtain ⟨n, rfl⟩ := h'; exact Like.int m n
  | b => obtain ⟨m, rfl⟩ := h; obtain ⟨n, rfl⟩ := h'; exact Like.byte m n
  | s => obtain ⟨m, rfl⟩ := h; obtain ⟨n, rfl⟩ := h'; exact Like.str m n
  | l => obtain ⟨a, n, c, rfl⟩ := h; rw [hl rfl]; exact Like.nil a n c

/-- All cells of the one are like those of the other. -/
def LikeA (cs cs' : Array Value) : Prop := cs'.size = cs.size ∧ ∀ (j : Nat) (v : Value), cs[j]? = some v → ∃ v', cs'[j]? = some v' ∧ Like v v'
theorem LikeA.refl (cs : Array Value) : LikeA cs cs := ⟨rfl, fun _ v h => ⟨v, h, Like.refl v⟩⟩
theorem LikeA.trans {a b c : Array Value} (h : LikeA a b) (k : LikeA b c) : LikeA a c := ⟨k.1.trans h.1, fun j v hj => by
  obtain ⟨v1, h1, h2⟩ := h.2 j v hj
  obtain ⟨v2, h3, h4⟩ := k.2 j v1 h1
  exact ⟨v2, h3, h2.trans h4⟩⟩

/-- Only blocks of S have turned; the rows among them keep their shape. -/
structure KMod (S : Nat → Prop) (w w' : World) : Prop where
  mod : Mod S w w'
  like : ∀ (b : Nat) (cur : Array Value) (T : TypeId), w.heap[b]? = some (.cells cur T (0, 0)) → ∃ cur' : Array Value, w'.heap[b]? = some (.cells cur' T (0, 0)) ∧ LikeA cur cur'
theorem KMod.refl (S : Nat → Prop) (w : World) : KMod S w w := ⟨Mod.refl _ _, fun _ cur _ h => ⟨cur, h, LikeA.refl _⟩⟩
theorem KMod.trans {S : Nat → Prop} {a b c : World} (h : KMod S a b) (k : KMod S b c) : KMod S a c := ⟨h.mod.trans k.mod (fun _ _ h => h), fun x cur T hx => by
  obtain ⟨c1, h1, h2⟩ := h.like x cur T hx
  obtain ⟨c2, h3, h4⟩ := k.like x c1 T h1
  exact ⟨c2, h3, h2.trans h4⟩⟩
theorem KMod.of_mod {S : Nat → Prop} {w w' : World} (h : Mod NoB w w') : KMod S w w' := ⟨h.mono (fun _ _ h => False.elim h), fun _ cur _ hb => ⟨cur, h.obj id hb, LikeA.refl _⟩⟩
theorem KMod.row {S : Nat → Prop} {w w' : World} {b : Nat} {cur cur' : Array Value} {T : TypeId} (hS : S b) (hb : w.heap[b]? = some (.cells cur T (0, 0))) (hb' : w'.heap[b]? = some (.cells cur' T (0, 0))) (hl : LikeA cur cur') (hm : Mod (fun k => k = b) w w') : KMod S w w' := by
  refine ⟨hm.mono (fun k _ e => by have e' : k = b := e; rw [e']; exact hS), fun x c T' hx => ?_⟩
  by_cases e : x = b
  · subst e
    rw [hb] at hx
    cases hx
    exact ⟨cur', hb', hl⟩
  · exact ⟨c, hm.objB e hx, LikeA.refl _⟩
theorem LikeA.set1 {cur : Array Value} {j : Nat} {u v : Value} (h : cur[j]? = some u) (hl : Like u v) : LikeA cur (cur.setIfInBounds j v) := by
  refine ⟨by simp, fun i x hx => ?_⟩
  rw [Array.getElem?_setIfInBounds]
  by_cases e : j = i
  · subst e
    rw [h] at hx; cases hx
    have hj : j < cur.size := by
      rcases Nat.lt_or_ge j cur.size with h' | h'
      · exact h'
      · rw [Array.getElem?_eq_none h'] at h; cases h
    rw [if_pos rfl, if_pos hj]
    exact ⟨v, rfl, hl⟩
  · rw [if_neg e]
    exact ⟨x, hx, Like.refl x⟩
theorem LikeA.put {cur cs cs' : Array Value} {off : Nat} (hfit : off + cs'.size ≤ cur.size) (h : ∀ j, j < cs.size → cur[off + j]? = cs[j]?) (hl : LikeA cs cs') : LikeA cur (putRow cur off cs') := by
  refine ⟨putRow_size hfit, fun i x hx => ?_⟩
  have hsz := hl.1
  have hg : (putRow cur off cs')[i]? = if i < off then cur[i]? else if i < off + cs'.size then cs'[i - off]? else cur[i]? := by
    unfold putRow
    rw [List.getElem?_toArray]
    split
    · rename_i h1
      rw [List.append_assoc, List.getElem?_append_left (by simp; omega), List.getElem?_take_of_lt h1]; simp
    · rename_i h1
      split
      · rename_i h2
        rw [List.append_assoc, List.getElem?_append_right (by simp; omega), List.getElem?_append_left (by simp; omega)]
        simp only [List.length_take, Array.length_toList]
        rw [Nat.min_eq_left (by omega)]; simp
      · rename_i h2
        rw [List.getElem?_append_right (by simp; omega)]
        simp only [List.length_append, List.length_take, Array.length_toList, List.getElem?_drop]
        rw [Nat.min_eq_left (by omega), show off + cs'.size + (i - (off + cs'.size)) = i by omega]; simp
  rw [hg]
  split
  · exact ⟨x, hx, Like.refl x⟩
  · rename_i h1
    split
    · rename_i h2
      have h3 := h (i - off) (by omega)
      rw [show off + (i - off) = i by omega, hx] at h3
      exact hl.2 (i - off) x h3.symm
    · exact ⟨x, hx, Like.refl x⟩

/-- A slice of which the shape is known, behind writes that keep shapes. -/
theorem Sl.kmod {S : Nat → Prop} {w w' : World} {sz : Nat} {Sh Sh' : Array Value → Prop} {v : Value} {l : List Unit} (hsz : 0 < sz) (h : Sl true w S sz (fun cs _ => Sh cs) v l) (hm : KMod S w w') (hR : ∀ cs cs', Sh cs → LikeA cs cs' → Sh' cs') :
    Sl true w' S sz (fun cs _ => Sh' cs) v l := by
  obtain ⟨a, cap, hv, hl, hc, h⟩ := h
  refine ⟨a, cap, hv, hl, hc, fun hne => ?_⟩
  obtain ⟨b, off, ha, hG, ho, h⟩ := h hne
  obtain ⟨cur, T, hrow⟩ := ho rfl
  obtain ⟨cur', hrow', hlk⟩ := hm.like b cur T hrow
  refine ⟨b, off, ha, hG, fun _ => ⟨cur', T, hrow'⟩, fun i hi => ?_⟩
  obtain ⟨cs, hs, hsh, hcells⟩ := h i hi
  have hcur : ∀ j, j < sz → cur[off + i * sz + j]? = cs[j]? := fun j hj => by
    have := hcells j (by omega)
    rwa [cell_of_row w b _ _ _ _ hrow] at this
  have hbnd : off + i * sz + sz ≤ cur'.size := by
    have h1 := hcur (sz - 1) (by omega)
    rw [Array.getElem?_eq_getElem (by omega : sz - 1 < cs.size)] at h1
    rw [hlk.1]
    rcases Nat.lt_or_ge (off + i * sz + (sz - 1)) cur.size with h2 | h2
    · omega
    · rw [Array.getElem?_eq_none h2] at h1; cases h1
  have hex : ∀ j, (cur'.extract (off + i * sz) (off + i * sz + sz))[j]? = if j < sz then cur'[off + i * sz + j]? else none := fun j => by
    rw [Array.getElem?_extract]
    congr 1
    rw [eq_iff_iff]; omega
  refine ⟨cur'.extract (off + i * sz) (off + i * sz + sz), by simp; omega, hR cs _ hsh ⟨by simp; omega, fun j u hj => ?_⟩, fun j hj => ?_⟩
  · have hjs : j < sz := by
      rcases Nat.lt_or_ge j cs.size with h2 | h2
      · omega
      · rw [Array.getElem?_eq_none h2] at hj; cases hj
    rw [hex, if_pos hjs]
    exact hlk.2 _ u ((hcur j hjs).trans hj)
  · have hjs : j < sz := by simp at hj; omega
    rw [hex, if_pos hjs, cell_of_row w' b _ _ _ _ hrow']

/-! The shapes. -/
def IntS (cs : Array Value) : Prop := ∃ n, cs = #[.int .i64 n]
def ByteS (cs : Array Value) : Prop := ∃ x, cs = #[byteV x]
def KindsS (ks : List Kd) (cs : Array Value) : Prop := cs.size = ks.length ∧ ∀ (j : Nat) (k : Kd), ks[j]? = some k → ∃ v, cs[j]? = some v ∧ Kind v k
def idK : List Kd := List.replicate 32 .b
theorem idK_len : idK.length = 32 := rfl
def evK : List Kd := [.i, .i, .l, .i, .s, .s] ++ idK ++ [.l]
def letK : List Kd := [.i, .i, .i, .l, .l, .i, .i] ++ idK ++ [.l]
structure EvS (w : World) (S : Nat → Prop) (cs : Array Value) : Prop where
  kinds : KindsS evK cs
  deps : ∃ (v : Value) (l : List Unit), cs[2]? = some v ∧ Sl true w S 1 (fun cs _ => IntS cs) v l
  refs : ∃ (v : Value) (l : List Unit), cs[38]? = some v ∧ Sl true w S 32 (fun cs _ => KindsS idK cs) v l
structure LetS (w : World) (S : Nat → Prop) (cs : Array Value) : Prop where
  kinds : KindsS letK cs
  seen : ∃ (v : Value) (l : List Unit), cs[3]? = some v ∧ Sl true w S 1 (fun cs _ => IntS cs) v l
  events : ∃ (v : Value) (l : List Unit), cs[4]? = some v ∧ Sl true w S 39 (fun cs _ => EvS w S cs) v l
  bytes : ∃ (v : Value) (l : List Unit), cs[39]? = some v ∧ Sl true w S 1 (fun cs _ => ByteS cs) v l

theorem IntS.like (cs cs' : Array Value) (h : IntS cs) (hl : LikeA cs cs') : IntS cs' := by
  obtain ⟨n, rfl⟩ := h
  obtain ⟨v', h1, h2⟩ := hl.2 0 _ rfl
  obtain ⟨m, hm⟩ := h2.1 .i ⟨n, rfl⟩
  refine ⟨m, ?_⟩
  have hs : cs'.size = 1 := hl.1
  apply Array.ext_getElem?
  intro i
  match i with
  | 0 => rw [h1, hm]; rfl
  | i + 1 => rw [Array.getElem?_eq_none (by omega), Array.getElem?_eq_none (by simp)]
theorem ByteS.like (cs cs' : Array Value) (h : ByteS cs) (hl : LikeA cs cs') : ByteS cs' := by
  obtain ⟨n, rfl⟩ := h
  obtain ⟨v', h1, h2⟩ := hl.2 0 _ rfl
  obtain ⟨m, hm⟩ := h2.1 .b ⟨n, rfl⟩
  refine ⟨m, ?_⟩
  have hs : cs'.size = 1 := hl.1
  apply Array.ext_getElem?
  intro i
  match i with
  | 0 => rw [h1, hm]; rfl
  | i + 1 => rw [Array.getElem?_eq_none (by omega), Array.getElem?_eq_none (by simp)]
theorem KindsS.like {ks : List Kd} (cs cs' : Array Value) (h : KindsS ks cs) (hl : LikeA cs cs') : KindsS ks cs' := ⟨hl.1.trans h.1, fun j k hk => by
  obtain ⟨v, h1, h2⟩ := h.2 j k hk
  obtain ⟨v', h3, h4⟩ := hl.2 j v h1
  exact ⟨v', h3, h4.1 k h2⟩⟩
/-- A slice's cell, behind writes: as it was, or nil. -/
theorem sl_cell {S : Nat → Prop} {w w' : World} {sz : Nat} {Sh Sh' : Array Value → Prop} {cs cs' : Array Value} {j : Nat} (hsz : 0 < sz) (h : ∃ v l, cs[j]? = some v ∧ Sl true w S sz (fun cs (_ : Unit) => Sh cs) v l) (hm : KMod S w w') (hl : LikeA cs cs')
    (hR : ∀ cs cs', Sh cs → LikeA cs cs' → Sh' cs') : ∃ v l, cs'[j]? = some v ∧ Sl true w' S sz (fun cs (_ : Unit) => Sh' cs) v l := by
  obtain ⟨v, l, h1, h2⟩ := h
  obtain ⟨v', h3, h4⟩ := hl.2 j v h1
  obtain ⟨a, cap, hv, _⟩ := id h2
  rcases h4.2 _ _ _ hv with e | e
  · exact ⟨v, l, by rw [h3, e], h2.kmod hsz hm hR⟩
  · exact ⟨_, [], h3.trans (congrArg some e), Sl.nil _ _ _ _ _⟩
theorem EvS.kmod {S : Nat → Prop} {w w' : World} (hm : KMod S w w') (cs cs' : Array Value) (h : EvS w S cs) (hl : LikeA cs cs') : EvS w' S cs' :=
  ⟨h.kinds.like _ _ hl, sl_cell (by omega) h.deps hm hl IntS.like, sl_cell (by omega) h.refs hm hl KindsS.like⟩
theorem LetS.kmod {S : Nat → Prop} {w w' : World} (hm : KMod S w w') (cs cs' : Array Value) (h : LetS w S cs) (hl : LikeA cs cs') : LetS w' S cs' :=
  ⟨h.kinds.like _ _ hl, sl_cell (by omega) h.seen hm hl IntS.like, sl_cell (by omega) h.events hm hl (EvS.kmod hm), sl_cell (by omega) h.bytes hm hl ByteS.like⟩

/-! From what is known in full. -/
theorem Sl.shape {α : Type} {w : World} {G S : Nat → Prop} {sz : Nat} {R : Array Value → α → Prop} {Sh : Array Value → Prop} {v : Value} {l : List α} (h : Sl true w G sz R v l) (hg : ∀ k, G k → S k) (hR : ∀ cs x, R cs x → Sh cs) :
    Sl true w S sz (fun cs (_ : Unit) => Sh cs) v (l.map fun _ => ()) := by
  obtain ⟨a, cap, hv, hl, hc, h⟩ := h
  refine ⟨a, cap, by simpa using hv, by simpa using hl, hc, fun hne => ?_⟩
  obtain ⟨b, off, ha, hG, ho, h⟩ := h (by simpa using hne)
  refine ⟨b, off, ha, hg b hG, ho, fun i hi => ?_⟩
  obtain ⟨cs, h1, h2, h3⟩ := h i (by simpa using hi)
  exact ⟨cs, h1, hR _ _ h2, h3⟩
theorem idCells_kind (x : List UInt8) (h : x.length = 32) (j : Nat) (hj : j < 32) : ∃ v, (idCells x)[j]? = some v ∧ Kind v .b := by
  refine ⟨byteV x[j], ?_, _, rfl⟩
  simp [idCells, List.getElem?_eq_getElem (show j < x.length by omega)]
theorem idS_of (cs : Array Value) (x : List UInt8) (h : IdC cs x) : KindsS idK cs := by
  obtain ⟨rfl, hx⟩ := h
  refine ⟨by simp [idCells, idK, hx], fun j k hk => ?_⟩
  have hj : j < 32 := by
    rcases Nat.lt_or_ge j 32 with h | h
    · exact h
    · rw [List.getElem?_eq_none (by simpa [idK] using h)] at hk; cases hk
  have e : k = .b := by
    rw [idK, List.getElem?_replicate, if_pos hj] at hk; cases hk; rfl
  rw [e]
  exact idCells_kind x hx j hj
theorem sl_kind {α : Type} {own : Bool} {w : World} {G : Nat → Prop} {sz : Nat} {R : Array Value → α → Prop} {v : Value} {l : List α} (h : Sl own w G sz R v l) : Kind v .l := by
  obtain ⟨a, c, rfl, _⟩ := h
  exact ⟨_, _, _, rfl⟩
theorem kinds_cat {pre post : List Value} {kp kq : List Kd} {x : List UInt8} (hx : x.length = 32) (hl : pre.length = kp.length) (hq : post.length = kq.length) (h1 : ∀ (j : Nat) (v : Value) (k : Kd), pre[j]? = some v → kp[j]? = some k → Kind v k) (h2 : ∀ (j : Nat) (v : Value) (k : Kd), post[j]? = some v → kq[j]? = some k → Kind v k)
    {cs : Array Value} (hc : cs.toList = pre ++ x.map byteV ++ post) : KindsS (kp ++ idK ++ kq) cs := by
  have hsz : cs.size = (pre ++ x.map byteV ++ post).length := by rw [← hc]; simp
  refine ⟨by rw [hsz]; simp only [List.length_append, List.length_map, hl, hx, idK_len, hq], fun j k hk => ?_⟩
  have hj : j < (kp ++ idK ++ kq).length := by
    rcases Nat.lt_or_ge j (kp ++ idK ++ kq).length with h | h
    · exact h
    · rw [List.getElem?_eq_none h] at hk; cases hk
  have hlen : (kp ++ idK ++ kq).length = kp.length + 32 + kq.length := by simp only [List.length_append, idK_len]
  rw [← Array.getElem?_toList, hc]
  by_cases hj1 : j < kp.length
  · rw [List.append_assoc, List.getElem?_append_left (by omega)] at hk ⊢
    refine ⟨pre[j], by rw [List.getElem?_eq_getElem (by omega)], h1 j _ k (List.getElem?_eq_getElem (by omega)) hk⟩
  · by_cases hj2 : j < kp.length + 32
    · rw [List.getElem?_append_left (by simp only [List.length_append, idK_len]; omega), List.getElem?_append_right (by omega)] at hk
      rw [List.getElem?_append_left (by simp [hx]; omega), List.getElem?_append_right (by omega), List.getElem?_map, List.getElem?_eq_getElem (show j - pre.length < x.length by omega)]
      have e : k = .b := by
        rw [idK, List.getElem?_replicate, if_pos (by omega)] at hk; cases hk; rfl
      rw [e]
      exact ⟨_, rfl, _, rfl⟩
    · rw [List.getElem?_append_right (by simp only [List.length_append, idK_len]; omega)] at hk
      rw [List.getElem?_append_right (by simp [hx]; omega)]
      have e1 : j - (kp ++ idK).length = j - (pre ++ x.map byteV).length := by simp only [List.length_append, List.length_map, idK_len, hx, hl]
      rw [e1] at hk
      have hj3 : j - (pre ++ x.map byteV).length < post.length := by simp [hx]; omega
      exact ⟨post[j - (pre ++ x.map byteV).length], List.getElem?_eq_getElem hj3, h2 _ _ k (List.getElem?_eq_getElem hj3) hk⟩
theorem evS_of {w : World} {G S : Nat → Prop} (hg : ∀ k, G k → S k) (cs : Array Value) (e : Evt) (h : EvR true w G cs e) : EvS w S cs := by
  obtain ⟨dv, rv, rfl, hi, hd, hr, _⟩ := h
  have c := evCells_spec e dv rv hi
  refine ⟨?_, ⟨dv, _, c.c2, hd.shape hg (fun cs x h => ⟨x, h⟩)⟩, ⟨rv, _, c.c38, hr.shape hg idS_of⟩⟩
  refine kinds_cat (pre := [.int .i64 e.r, .int .i64 e.n, dv, .int .i64 e.kind, .string e.repo, .string e.tag]) (post := [rv]) (kp := [.i, .i, .l, .i, .s, .s]) (kq := [.l]) hi rfl rfl ?_ ?_ (by simp [evCells, idCells])
  · intro j v k hv hk
    match j with
    | 0 => cases hv; cases hk; exact ⟨_, rfl⟩
    | 1 => cases hv; cases hk; exact ⟨_, rfl⟩
    | 2 => cases hv; cases hk; exact sl_kind hd
    | 3 => cases hv; cases hk; exact ⟨_, rfl⟩
    | 4 => cases hv; cases hk; exact ⟨_, rfl⟩
    | 5 => cases hv; cases hk; exact ⟨_, rfl⟩
    | j + 6 => simp at hv
  · intro j v k hv hk
    match j with
    | 0 => cases hv; cases hk; exact sl_kind hr
    | j + 1 => simp at hv
theorem letS_of {w : World} {E G S : Nat → Prop} (he : ∀ k, E k → S k) (hg : ∀ k, G k → S k) (cs : Array Value) (l : Ltr) (h : LetR true w E G cs l) : LetS w S cs := by
  obtain ⟨sv, ev, bv, rfl, hi, hs, hev, hb⟩ := h
  have c := ltrCells_spec l sv ev bv hi
  refine ⟨?_, ⟨sv, _, c.c3, hs.shape hg (fun cs x h => ⟨x, h⟩)⟩, ⟨ev, _, c.c4, hev.shape he (evS_of hg)⟩, ⟨bv, _, c.c39, hb.shape hg (fun cs x h => ⟨x, h⟩)⟩⟩
  refine kinds_cat (pre := [.int .i64 l.kind, .int .i64 l.src, .int .i64 l.dst, sv, ev, .int .i64 l.r, .int .i64 l.n]) (post := [bv]) (kp := [.i, .i, .i, .l, .l, .i, .i]) (kq := [.l]) hi rfl rfl ?_ ?_ (by simp [ltrCells, idCells])
  · intro j v k hv hk
    match j with
    | 0 => cases hv; cases hk; exact ⟨_, rfl⟩
    | 1 => cases hv; cases hk; exact ⟨_, rfl⟩
    | 2 => cases hv; cases hk; exact ⟨_, rfl⟩
    | 3 => cases hv; cases hk; exact sl_kind hs
    | 4 => cases hv; cases hk; exact sl_kind hev
    | 5 => cases hv; cases hk; exact ⟨_, rfl⟩
    | 6 => cases hv; cases hk; exact ⟨_, rfl⟩
    | j + 7 => simp at hv
  · intro j v k hv hk
    match j with
    | 0 => cases hv; cases hk; exact sl_kind hb
    | j + 1 => simp at hv
/-- Nils of the same kinds are like. -/
theorem likeA_zero {ks : List Kd} {cs cs' : Array Value} (h : KindsS ks cs) (h' : KindsS ks cs') (hn : ∀ j : Nat, ks[j]? = some .l → cs'[j]? = some (.slice none 0 0)) : LikeA cs cs' := by
  refine ⟨h'.1.trans h.1.symm, fun j v hv => ?_⟩
  have hj : j < ks.length := by
    have := h.1
    rcases Nat.lt_or_ge j cs.size with h2 | h2
    · omega
    · rw [Array.getElem?_eq_none h2] at hv; cases hv
  obtain ⟨u, h1, h2⟩ := h.2 j _ (List.getElem?_eq_getElem hj)
  obtain ⟨u', h3, h4⟩ := h'.2 j _ (List.getElem?_eq_getElem hj)
  rw [hv] at h1; cases h1
  refine ⟨u', h3, Like.of h2 h4 (fun hk => ?_)⟩
  have := hn j (by rw [List.getElem?_eq_getElem hj, hk])
  rw [h3] at this
  cases this; rfl
end Go.Proofs.Ytdllpakdhnanbaa
