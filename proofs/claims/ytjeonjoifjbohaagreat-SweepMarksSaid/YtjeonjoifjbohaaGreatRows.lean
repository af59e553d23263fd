/-
  No cell of these rows narrows 'for every input' (looked for: loops, veiled, ifaces, maps, wideKeys, modest, calm, conditions, laid).
  DERIVED. THE GIVEN ROWS OF THIS SEAT. 12 by the template 'for every input the law returns true; each argument reads behind the call as it read before'; 0 by the template 'total and deterministic' (their statements: YtjeonjoifjbohaaGreatTotals.lean).
  GIVEN WITH THE SEED: the statements are not yours to turn. If you find one false, say at which input.
  Laid BY PROGRAM, IN A SANDBOX (cutbox-rows.mjs): the forced cells as the released guide's own fill.sh prints them over the translation 036dddb7287629bf… (all of the seat's roots in one cut). By AI agents, Wed Nov 11 2026. No macro, syntax, notation, axiom, sorry.
-/
import Derived.Test.YtjeonjoifjbohaaGreatChecked
import GoSem.Claim
import GoSem.ClaimJoined
import GoSem.ClaimMapViews
import Derived.JoinedTies
import Derived.KernelRfl
namespace Go.Proofs.YtjeonjoifjbohaaGreat
/- THE CELL 'sum', in the pinned program and in every row, IS THE sha256 OF THE DUMP (.gsa) THAT YtjeonjoifjbohaaGreatProg.lean LOADS. Nothing in Lean hashes anything: it is a label: what it is worth is what the hold of that sum in a sandbox is worth. -/
noncomputable def Tryz.pinned : Pinned := { name := "ytjeonjoifjbohaagreat", sum := "036dddb7287629bf03817e0b04b5dcdde5c786fa99067328a0eccd32eff3486b", checked := Tryz.checked }
namespace Rows
def none {H : Type} : Left H := { results := [], args := [] }

/-- 'entrepotlaw13.ClosureWalks': WHATEVER THE INPUT: true; the input reads as it did. -/
def closureWalksSpec : ChangeSpec := { name := "closureWalks", fn := fun _ => fun
  | [d1, d2, d3, d4] => { results := [.lit (.bool true)], args := [d1, d2, d3, d4] }
  | _ => none }
def closureWalksRow : OpenClaim := { program := "ytjeonjoifjbohaagreat", sum := "036dddb7287629bf03817e0b04b5dcdde5c786fa99067328a0eccd32eff3486b", func := "entrepot/entrepotlaw13.ClosureWalks", spec := "closureWalks", inPlace := ["internal/bytealg.Compare"], unfollowed := true, recurses := true, plainKeys := false, apart := false }
def ClosureWalksSaid : Prop := closureWalksRow.holds Tryz.pinned (OpenSpec.ofChange closureWalksSpec)

/-- ITS FALSE NEIGHBOUR: 'it returns false'. Refute it at one input. -/
def closureWalksWrong : ChangeSpec := { name := "closureWalks", fn := fun _ => fun
  | [d1, d2, d3, d4] => { results := [.lit (.bool false)], args := [d1, d2, d3, d4] }
  | _ => none }
def ClosureWalksWrongFalsely : Prop := closureWalksRow.holds Tryz.pinned (OpenSpec.ofChange closureWalksWrong)

/-- 'entrepotlaw13.ClosureNone': WHATEVER THE INPUT: true; the input reads as it did. -/
def closureNoneSpec : ChangeSpec := { name := "closureNone", fn := fun _ => fun
  | [d] => { results := [.lit (.bool true)], args := [d] }
  | _ => none }
def closureNoneRow : OpenClaim := { program := "ytjeonjoifjbohaagreat", sum := "036dddb7287629bf03817e0b04b5dcdde5c786fa99067328a0eccd32eff3486b", func := "entrepot/entrepotlaw13.ClosureNone", spec := "closureNone", inPlace := ["internal/bytealg.Compare"], unfollowed := true, recurses := true, plainKeys := false, apart := false }
def ClosureNoneSaid : Prop := closureNoneRow.holds Tryz.pinned (OpenSpec.ofChange closureNoneSpec)

/-- ITS FALSE NEIGHBOUR: 'it returns false'. Refute it at one input. -/
def closureNoneWrong : ChangeSpec := { name := "closureNone", fn := fun _ => fun
  | [d] => { results := [.lit (.bool false)], args := [d] }
  | _ => none }
def ClosureNoneWrongFalsely : Prop := closureNoneRow.holds Tryz.pinned (OpenSpec.ofChange closureNoneWrong)

/-- 'entrepotlaw13.ClosureKnown': WHATEVER THE INPUT: true; the input reads as it did. -/
def closureKnownSpec : ChangeSpec := { name := "closureKnown", fn := fun _ => fun
  | [] => { results := [.lit (.bool true)], args := [] }
  | _ => none }
def closureKnownRow : OpenClaim := { program := "ytjeonjoifjbohaagreat", sum := "036dddb7287629bf03817e0b04b5dcdde5c786fa99067328a0eccd32eff3486b", func := "entrepot/entrepotlaw13.ClosureKnown", spec := "closureKnown", inPlace := ["internal/bytealg.Compare"], unfollowed := true, recurses := true, plainKeys := false, apart := false }
def ClosureKnownSaid : Prop := closureKnownRow.holds Tryz.pinned (OpenSpec.ofChange closureKnownSpec)

/-- ITS FALSE NEIGHBOUR: 'it returns false'. Refute it at one input. -/
def closureKnownWrong : ChangeSpec := { name := "closureKnown", fn := fun _ => fun
  | [] => { results := [.lit (.bool false)], args := [] }
  | _ => none }
def ClosureKnownWrongFalsely : Prop := closureKnownRow.holds Tryz.pinned (OpenSpec.ofChange closureKnownWrong)

/-- 'entrepotlaw13.ClosureWhole': WHATEVER THE INPUT: true; the input reads as it did. -/
def closureWholeSpec : ChangeSpec := { name := "closureWhole", fn := fun _ => fun
  | [d1, d2, d3, d4, d5] => { results := [.lit (.bool true)], args := [d1, d2, d3, d4, d5] }
  | _ => none }
def closureWholeRow : OpenClaim := { program := "ytjeonjoifjbohaagreat", sum := "036dddb7287629bf03817e0b04b5dcdde5c786fa99067328a0eccd32eff3486b", func := "entrepot/entrepotlaw13.ClosureWhole", spec := "closureWhole", inPlace := ["internal/bytealg.Compare"], unfollowed := true, recurses := true, plainKeys := false, apart := false }
def ClosureWholeSaid : Prop := closureWholeRow.holds Tryz.pinned (OpenSpec.ofChange closureWholeSpec)

/-- ITS FALSE NEIGHBOUR: 'it returns false'. Refute it at one input. -/
def closureWholeWrong : ChangeSpec := { name := "closureWhole", fn := fun _ => fun
  | [d1, d2, d3, d4, d5] => { results := [.lit (.bool false)], args := [d1, d2, d3, d4, d5] }
  | _ => none }
def ClosureWholeWrongFalsely : Prop := closureWholeRow.holds Tryz.pinned (OpenSpec.ofChange closureWholeWrong)

/-- 'entrepotlaw13.ClosureSweep': WHATEVER THE INPUT: true; the input reads as it did. -/
def closureSweepSpec : ChangeSpec := { name := "closureSweep", fn := fun _ => fun
  | [d1, d2, d3] => { results := [.lit (.bool true)], args := [d1, d2, d3] }
  | _ => none }
def closureSweepRow : OpenClaim := { program := "ytjeonjoifjbohaagreat", sum := "036dddb7287629bf03817e0b04b5dcdde5c786fa99067328a0eccd32eff3486b", func := "entrepot/entrepotlaw13.ClosureSweep", spec := "closureSweep", inPlace := ["internal/bytealg.Compare"], unfollowed := true, recurses := true, plainKeys := false, apart := false }
def ClosureSweepSaid : Prop := closureSweepRow.holds Tryz.pinned (OpenSpec.ofChange closureSweepSpec)

/-- ITS FALSE NEIGHBOUR: 'it returns false'. Refute it at one input. -/
def closureSweepWrong : ChangeSpec := { name := "closureSweep", fn := fun _ => fun
  | [d1, d2, d3] => { results := [.lit (.bool false)], args := [d1, d2, d3] }
  | _ => none }
def ClosureSweepWrongFalsely : Prop := closureSweepRow.holds Tryz.pinned (OpenSpec.ofChange closureSweepWrong)

/-- 'entrepotlaw27.SweepMarks': WHATEVER THE INPUT: true; the input reads as it did. -/
def sweepMarksSpec : ChangeSpec := { name := "sweepMarks", fn := fun _ => fun
  | [d1, d2, d3] => { results := [.lit (.bool true)], args := [d1, d2, d3] }
  | _ => none }
def sweepMarksRow : OpenClaim := { program := "ytjeonjoifjbohaagreat", sum := "036dddb7287629bf03817e0b04b5dcdde5c786fa99067328a0eccd32eff3486b", func := "entrepot/entrepotlaw27.SweepMarks", spec := "sweepMarks", inPlace := ["internal/bytealg.Compare"], unfollowed := true, recurses := true, plainKeys := false, apart := false }
def SweepMarksSaid : Prop := sweepMarksRow.holds Tryz.pinned (OpenSpec.ofChange sweepMarksSpec)

/-- ITS FALSE NEIGHBOUR: 'it returns false'. Refute it at one input. -/
def sweepMarksWrong : ChangeSpec := { name := "sweepMarks", fn := fun _ => fun
  | [d1, d2, d3] => { results := [.lit (.bool false)], args := [d1, d2, d3] }
  | _ => none }
def SweepMarksWrongFalsely : Prop := sweepMarksRow.holds Tryz.pinned (OpenSpec.ofChange sweepMarksWrong)

/-- 'entrepotlaw27.SweepNone': WHATEVER THE INPUT: true; the input reads as it did. -/
def sweepNoneSpec : ChangeSpec := { name := "sweepNone", fn := fun _ => fun
  | [d1, d2] => { results := [.lit (.bool true)], args := [d1, d2] }
  | _ => none }
def sweepNoneRow : OpenClaim := { program := "ytjeonjoifjbohaagreat", sum := "036dddb7287629bf03817e0b04b5dcdde5c786fa99067328a0eccd32eff3486b", func := "entrepot/entrepotlaw27.SweepNone", spec := "sweepNone", inPlace := ["internal/bytealg.Compare"], unfollowed := true, recurses := true, plainKeys := false, apart := false }
def SweepNoneSaid : Prop := sweepNoneRow.holds Tryz.pinned (OpenSpec.ofChange sweepNoneSpec)

/-- ITS FALSE NEIGHBOUR: 'it returns false'. Refute it at one input. -/
def sweepNoneWrong : ChangeSpec := { name := "sweepNone", fn := fun _ => fun
  | [d1, d2] => { results := [.lit (.bool false)], args := [d1, d2] }
  | _ => none }
def SweepNoneWrongFalsely : Prop := sweepNoneRow.holds Tryz.pinned (OpenSpec.ofChange sweepNoneWrong)

/-- 'entrepotlaw27.SweepKnown': WHATEVER THE INPUT: true; the input reads as it did. -/
def sweepKnownSpec : ChangeSpec := { name := "sweepKnown", fn := fun _ => fun
  | [] => { results := [.lit (.bool true)], args := [] }
  | _ => none }
def sweepKnownRow : OpenClaim := { program := "ytjeonjoifjbohaagreat", sum := "036dddb7287629bf03817e0b04b5dcdde5c786fa99067328a0eccd32eff3486b", func := "entrepot/entrepotlaw27.SweepKnown", spec := "sweepKnown", inPlace := ["internal/bytealg.Compare"], unfollowed := true, recurses := true, plainKeys := false, apart := false }
def SweepKnownSaid : Prop := sweepKnownRow.holds Tryz.pinned (OpenSpec.ofChange sweepKnownSpec)

/-- ITS FALSE NEIGHBOUR: 'it returns false'. Refute it at one input. -/
def sweepKnownWrong : ChangeSpec := { name := "sweepKnown", fn := fun _ => fun
  | [] => { results := [.lit (.bool false)], args := [] }
  | _ => none }
def SweepKnownWrongFalsely : Prop := sweepKnownRow.holds Tryz.pinned (OpenSpec.ofChange sweepKnownWrong)

/-- 'entrepotlaw27.SweepLess': WHATEVER THE INPUT: true; the input reads as it did. -/
def sweepLessSpec : ChangeSpec := { name := "sweepLess", fn := fun _ => fun
  | [d1, d2, d3, d4] => { results := [.lit (.bool true)], args := [d1, d2, d3, d4] }
  | _ => none }
def sweepLessRow : OpenClaim := { program := "ytjeonjoifjbohaagreat", sum := "036dddb7287629bf03817e0b04b5dcdde5c786fa99067328a0eccd32eff3486b", func := "entrepot/entrepotlaw27.SweepLess", spec := "sweepLess", inPlace := ["internal/bytealg.Compare"], unfollowed := true, recurses := true, plainKeys := false, apart := false }
def SweepLessSaid : Prop := sweepLessRow.holds Tryz.pinned (OpenSpec.ofChange sweepLessSpec)

/-- ITS FALSE NEIGHBOUR: 'it returns false'. Refute it at one input. -/
def sweepLessWrong : ChangeSpec := { name := "sweepLess", fn := fun _ => fun
  | [d1, d2, d3, d4] => { results := [.lit (.bool false)], args := [d1, d2, d3, d4] }
  | _ => none }
def SweepLessWrongFalsely : Prop := sweepLessRow.holds Tryz.pinned (OpenSpec.ofChange sweepLessWrong)

/-- 'entrepotlaw27.SweepTombs': WHATEVER THE INPUT: true; the input reads as it did. -/
def sweepTombsSpec : ChangeSpec := { name := "sweepTombs", fn := fun _ => fun
  | [d1, d2, d3] => { results := [.lit (.bool true)], args := [d1, d2, d3] }
  | _ => none }
def sweepTombsRow : OpenClaim := { program := "ytjeonjoifjbohaagreat", sum := "036dddb7287629bf03817e0b04b5dcdde5c786fa99067328a0eccd32eff3486b", func := "entrepot/entrepotlaw27.SweepTombs", spec := "sweepTombs", inPlace := ["internal/bytealg.Compare"], unfollowed := true, recurses := true, plainKeys := false, apart := false }
def SweepTombsSaid : Prop := sweepTombsRow.holds Tryz.pinned (OpenSpec.ofChange sweepTombsSpec)

/-- ITS FALSE NEIGHBOUR: 'it returns false'. Refute it at one input. -/
def sweepTombsWrong : ChangeSpec := { name := "sweepTombs", fn := fun _ => fun
  | [d1, d2, d3] => { results := [.lit (.bool false)], args := [d1, d2, d3] }
  | _ => none }
def SweepTombsWrongFalsely : Prop := sweepTombsRow.holds Tryz.pinned (OpenSpec.ofChange sweepTombsWrong)

/-- 'entrepotlaw27.SweepSweeps': WHATEVER THE INPUT: true; the input reads as it did. -/
def sweepSweepsSpec : ChangeSpec := { name := "sweepSweeps", fn := fun _ => fun
  | [d1, d2, d3, d4] => { results := [.lit (.bool true)], args := [d1, d2, d3, d4] }
  | _ => none }
def sweepSweepsRow : OpenClaim := { program := "ytjeonjoifjbohaagreat", sum := "036dddb7287629bf03817e0b04b5dcdde5c786fa99067328a0eccd32eff3486b", func := "entrepot/entrepotlaw27.SweepSweeps", spec := "sweepSweeps", inPlace := ["internal/bytealg.Compare"], unfollowed := true, recurses := true, plainKeys := false, apart := false }
def SweepSweepsSaid : Prop := sweepSweepsRow.holds Tryz.pinned (OpenSpec.ofChange sweepSweepsSpec)

/-- ITS FALSE NEIGHBOUR: 'it returns false'. Refute it at one input. -/
def sweepSweepsWrong : ChangeSpec := { name := "sweepSweeps", fn := fun _ => fun
  | [d1, d2, d3, d4] => { results := [.lit (.bool false)], args := [d1, d2, d3, d4] }
  | _ => none }
def SweepSweepsWrongFalsely : Prop := sweepSweepsRow.holds Tryz.pinned (OpenSpec.ofChange sweepSweepsWrong)

/-- 'entrepotlaw27.SweepKeeps': WHATEVER THE INPUT: true; the input reads as it did. -/
def sweepKeepsSpec : ChangeSpec := { name := "sweepKeeps", fn := fun _ => fun
  | [d1, d2, d3] => { results := [.lit (.bool true)], args := [d1, d2, d3] }
  | _ => none }
def sweepKeepsRow : OpenClaim := { program := "ytjeonjoifjbohaagreat", sum := "036dddb7287629bf03817e0b04b5dcdde5c786fa99067328a0eccd32eff3486b", func := "entrepot/entrepotlaw27.SweepKeeps", spec := "sweepKeeps", inPlace := ["internal/bytealg.Compare"], unfollowed := true, recurses := true, plainKeys := false, apart := false }
def SweepKeepsSaid : Prop := sweepKeepsRow.holds Tryz.pinned (OpenSpec.ofChange sweepKeepsSpec)

/-- ITS FALSE NEIGHBOUR: 'it returns false'. Refute it at one input. -/
def sweepKeepsWrong : ChangeSpec := { name := "sweepKeeps", fn := fun _ => fun
  | [d1, d2, d3] => { results := [.lit (.bool false)], args := [d1, d2, d3] }
  | _ => none }
def SweepKeepsWrongFalsely : Prop := sweepKeepsRow.holds Tryz.pinned (OpenSpec.ofChange sweepKeepsWrong)

/- THE SECOND FORM. 'bulk': how many values and letters a reading holds, each counted each time it is reached (what is shared counts as often as it is met; a slice's spare places count too). A statement '..UptoSaid' is the law's where the arguments, and the package variables that the reading takes, are together of bulk at most 1048576: NARROWER than '..Said'. Prove '..Said' where nothing that the law and all that it calls make is longer than what came in: it says more and counts as full. Else prove '..UptoSaid'. A law counts once. -/
mutual
def uptoBulk {H : Type} : DataW H → Nat
  | .lit (.string bytes) => bytes.length + 1
  | .lit _ => 1
  | .nil => 1
  | .ptr d => uptoBulk d + 1
  | .slice elems spare => uptoBulkAll elems + uptoBulkAll spare + 1
  | .agg parts => uptoBulkAll parts + 1
  | .iface _ d => uptoBulk d + 1
  | .map entries => uptoBulkEntries entries + 1
  | .held _ => 1
def uptoBulkAll {H : Type} : List (DataW H) → Nat
  | [] => 0
  | d :: r => uptoBulk d + uptoBulkAll r
def uptoBulkEntries {H : Type} : List (Lit × DataW H) → Nat
  | [] => 0
  | x :: r => uptoBulkEntry x + uptoBulkEntries r
def uptoBulkEntry {H : Type} : Lit × DataW H → Nat
  | (.string bytes, d) => bytes.length + uptoBulk d + 1
  | (_, d) => uptoBulk d + 1
 end
def uptoSmall : (H : Type) → List (DataW H) → Bool := fun _ ds => decide (uptoBulkAll ds ≤ 1048576)
def OpenSpec.upto (s : _root_.Go.ChangeSpec) : _root_.Go.OpenSpec := { _root_.Go.OpenSpec.ofChange s with cond := some uptoSmall }

/-- 'entrepotlaw13.ClosureWalks', WHERE WHAT IT READS IS OF BULK AT MOST 1048576: true; the input reads as it did. -/
def closureWalksUptoRow : OpenClaim := { program := "ytjeonjoifjbohaagreat", sum := "036dddb7287629bf03817e0b04b5dcdde5c786fa99067328a0eccd32eff3486b", func := "entrepot/entrepotlaw13.ClosureWalks", spec := "closureWalks", inPlace := ["internal/bytealg.Compare"], unfollowed := true, recurses := true, plainKeys := false, apart := false, narrowed := true }
def ClosureWalksUptoSaid : Prop := closureWalksUptoRow.holds Tryz.pinned (OpenSpec.upto closureWalksSpec)

/-- 'entrepotlaw13.ClosureNone', WHERE WHAT IT READS IS OF BULK AT MOST 1048576: true; the input reads as it did. -/
def closureNoneUptoRow : OpenClaim := { program := "ytjeonjoifjbohaagreat", sum := "036dddb7287629bf03817e0b04b5dcdde5c786fa99067328a0eccd32eff3486b", func := "entrepot/entrepotlaw13.ClosureNone", spec := "closureNone", inPlace := ["internal/bytealg.Compare"], unfollowed := true, recurses := true, plainKeys := false, apart := false, narrowed := true }
def ClosureNoneUptoSaid : Prop := closureNoneUptoRow.holds Tryz.pinned (OpenSpec.upto closureNoneSpec)

/-- 'entrepotlaw13.ClosureKnown', WHERE WHAT IT READS IS OF BULK AT MOST 1048576: true; the input reads as it did. -/
def closureKnownUptoRow : OpenClaim := { program := "ytjeonjoifjbohaagreat", sum := "036dddb7287629bf03817e0b04b5dcdde5c786fa99067328a0eccd32eff3486b", func := "entrepot/entrepotlaw13.ClosureKnown", spec := "closureKnown", inPlace := ["internal/bytealg.Compare"], unfollowed := true, recurses := true, plainKeys := false, apart := false, narrowed := true }
def ClosureKnownUptoSaid : Prop := closureKnownUptoRow.holds Tryz.pinned (OpenSpec.upto closureKnownSpec)

/-- 'entrepotlaw13.ClosureWhole', WHERE WHAT IT READS IS OF BULK AT MOST 1048576: true; the input reads as it did. -/
def closureWholeUptoRow : OpenClaim := { program := "ytjeonjoifjbohaagreat", sum := "036dddb7287629bf03817e0b04b5dcdde5c786fa99067328a0eccd32eff3486b", func := "entrepot/entrepotlaw13.ClosureWhole", spec := "closureWhole", inPlace := ["internal/bytealg.Compare"], unfollowed := true, recurses := true, plainKeys := false, apart := false, narrowed := true }
def ClosureWholeUptoSaid : Prop := closureWholeUptoRow.holds Tryz.pinned (OpenSpec.upto closureWholeSpec)

/-- 'entrepotlaw13.ClosureSweep', WHERE WHAT IT READS IS OF BULK AT MOST 1048576: true; the input reads as it did. -/
def closureSweepUptoRow : OpenClaim := { program := "ytjeonjoifjbohaagreat", sum := "036dddb7287629bf03817e0b04b5dcdde5c786fa99067328a0eccd32eff3486b", func := "entrepot/entrepotlaw13.ClosureSweep", spec := "closureSweep", inPlace := ["internal/bytealg.Compare"], unfollowed := true, recurses := true, plainKeys := false, apart := false, narrowed := true }
def ClosureSweepUptoSaid : Prop := closureSweepUptoRow.holds Tryz.pinned (OpenSpec.upto closureSweepSpec)

/-- 'entrepotlaw27.SweepMarks', WHERE WHAT IT READS IS OF BULK AT MOST 1048576: true; the input reads as it did. -/
def sweepMarksUptoRow : OpenClaim := { program := "ytjeonjoifjbohaagreat", sum := "036dddb7287629bf03817e0b04b5dcdde5c786fa99067328a0eccd32eff3486b", func := "entrepot/entrepotlaw27.SweepMarks", spec := "sweepMarks", inPlace := ["internal/bytealg.Compare"], unfollowed := true, recurses := true, plainKeys := false, apart := false, narrowed := true }
def SweepMarksUptoSaid : Prop := sweepMarksUptoRow.holds Tryz.pinned (OpenSpec.upto sweepMarksSpec)

/-- 'entrepotlaw27.SweepNone', WHERE WHAT IT READS IS OF BULK AT MOST 1048576: true; the input reads as it did. -/
def sweepNoneUptoRow : OpenClaim := { program := "ytjeonjoifjbohaagreat", sum := "036dddb7287629bf03817e0b04b5dcdde5c786fa99067328a0eccd32eff3486b", func := "entrepot/entrepotlaw27.SweepNone", spec := "sweepNone", inPlace := ["internal/bytealg.Compare"], unfollowed := true, recurses := true, plainKeys := false, apart := false, narrowed := true }
def SweepNoneUptoSaid : Prop := sweepNoneUptoRow.holds Tryz.pinned (OpenSpec.upto sweepNoneSpec)

/-- 'entrepotlaw27.SweepKnown', WHERE WHAT IT READS IS OF BULK AT MOST 1048576: true; the input reads as it did. -/
def sweepKnownUptoRow : OpenClaim := { program := "ytjeonjoifjbohaagreat", sum := "036dddb7287629bf03817e0b04b5dcdde5c786fa99067328a0eccd32eff3486b", func := "entrepot/entrepotlaw27.SweepKnown", spec := "sweepKnown", inPlace := ["internal/bytealg.Compare"], unfollowed := true, recurses := true, plainKeys := false, apart := false, narrowed := true }
def SweepKnownUptoSaid : Prop := sweepKnownUptoRow.holds Tryz.pinned (OpenSpec.upto sweepKnownSpec)

/-- 'entrepotlaw27.SweepLess', WHERE WHAT IT READS IS OF BULK AT MOST 1048576: true; the input reads as it did. -/
def sweepLessUptoRow : OpenClaim := { program := "ytjeonjoifjbohaagreat", sum := "036dddb7287629bf03817e0b04b5dcdde5c786fa99067328a0eccd32eff3486b", func := "entrepot/entrepotlaw27.SweepLess", spec := "sweepLess", inPlace := ["internal/bytealg.Compare"], unfollowed := true, recurses := true, plainKeys := false, apart := false, narrowed := true }
def SweepLessUptoSaid : Prop := sweepLessUptoRow.holds Tryz.pinned (OpenSpec.upto sweepLessSpec)

/-- 'entrepotlaw27.SweepTombs', WHERE WHAT IT READS IS OF BULK AT MOST 1048576: true; the input reads as it did. -/
def sweepTombsUptoRow : OpenClaim := { program := "ytjeonjoifjbohaagreat", sum := "036dddb7287629bf03817e0b04b5dcdde5c786fa99067328a0eccd32eff3486b", func := "entrepot/entrepotlaw27.SweepTombs", spec := "sweepTombs", inPlace := ["internal/bytealg.Compare"], unfollowed := true, recurses := true, plainKeys := false, apart := false, narrowed := true }
def SweepTombsUptoSaid : Prop := sweepTombsUptoRow.holds Tryz.pinned (OpenSpec.upto sweepTombsSpec)

/-- 'entrepotlaw27.SweepSweeps', WHERE WHAT IT READS IS OF BULK AT MOST 1048576: true; the input reads as it did. -/
def sweepSweepsUptoRow : OpenClaim := { program := "ytjeonjoifjbohaagreat", sum := "036dddb7287629bf03817e0b04b5dcdde5c786fa99067328a0eccd32eff3486b", func := "entrepot/entrepotlaw27.SweepSweeps", spec := "sweepSweeps", inPlace := ["internal/bytealg.Compare"], unfollowed := true, recurses := true, plainKeys := false, apart := false, narrowed := true }
def SweepSweepsUptoSaid : Prop := sweepSweepsUptoRow.holds Tryz.pinned (OpenSpec.upto sweepSweepsSpec)

/-- 'entrepotlaw27.SweepKeeps', WHERE WHAT IT READS IS OF BULK AT MOST 1048576: true; the input reads as it did. -/
def sweepKeepsUptoRow : OpenClaim := { program := "ytjeonjoifjbohaagreat", sum := "036dddb7287629bf03817e0b04b5dcdde5c786fa99067328a0eccd32eff3486b", func := "entrepot/entrepotlaw27.SweepKeeps", spec := "sweepKeeps", inPlace := ["internal/bytealg.Compare"], unfollowed := true, recurses := true, plainKeys := false, apart := false, narrowed := true }
def SweepKeepsUptoSaid : Prop := sweepKeepsUptoRow.holds Tryz.pinned (OpenSpec.upto sweepKeepsSpec)

end Rows
end Go.Proofs.YtjeonjoifjbohaaGreat
