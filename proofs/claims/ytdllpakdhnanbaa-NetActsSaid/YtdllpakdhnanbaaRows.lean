/-
  No cell of these rows narrows 'for every input' (looked for: loops, veiled, ifaces, maps, wideKeys, modest, calm, conditions, laid).
  DERIVED. THE GIVEN ROWS OF THIS SEAT. 6 by the template 'for every input the law returns true; each argument reads behind the call as it read before'; 0 by the template 'total and deterministic' (their statements: YtdllpakdhnanbaaTotals.lean).
  GIVEN WITH THE SEED: the statements are not yours to turn. If you find one false, say at which input.
  Laid BY PROGRAM, IN A SANDBOX (cutbox-rows.mjs): the forced cells as the released guide's own fill.sh prints them over the translation 0eb4cd13b7810b6b… (all of the seat's roots in one cut). By AI agents, Wed Nov 11 2026. No macro, syntax, notation, axiom, sorry.
-/
import Derived.Test.YtdllpakdhnanbaaChecked
import GoSem.Claim
import GoSem.ClaimJoined
import GoSem.ClaimMapViews
import Derived.JoinedTies
import Derived.KernelRfl
namespace Go.Proofs.Ytdllpakdhnanbaa
/- THE CELL 'sum', in the pinned program and in every row, IS THE sha256 OF THE DUMP (.gsa) THAT YtdllpakdhnanbaaProg.lean LOADS. Nothing in Lean hashes anything: it is a label: what it is worth is what the hold of that sum in a sandbox is worth. -/
noncomputable def Try.pinned : Pinned := { name := "ytdllpakdhnanbaa", sum := "0eb4cd13b7810b6b985bb9fe8ff8e5034251c590c95c73a72d5e90ce6086a879", checked := Try.checked }
namespace Rows
def none {H : Type} : Left H := { results := [], args := [] }

/-- 'entrepotlaw30.NetLong': WHATEVER THE INPUT: true; the input reads as it did. -/
def netLongSpec : ChangeSpec := { name := "netLong", fn := fun _ => fun
  | [d1, d2] => { results := [.lit (.bool true)], args := [d1, d2] }
  | _ => none }
def netLongRow : OpenClaim := { program := "ytdllpakdhnanbaa", sum := "0eb4cd13b7810b6b985bb9fe8ff8e5034251c590c95c73a72d5e90ce6086a879", func := "entrepot/entrepotlaw30.NetLong", spec := "netLong", unfollowed := true, recurses := true, plainKeys := false, apart := false }
def NetLongSaid : Prop := netLongRow.holds Try.pinned (OpenSpec.ofChange netLongSpec)

/-- ITS FALSE NEIGHBOUR: 'it returns false'. Refute it at one input. -/
def netLongWrong : ChangeSpec := { name := "netLong", fn := fun _ => fun
  | [d1, d2] => { results := [.lit (.bool false)], args := [d1, d2] }
  | _ => none }
def NetLongWrongFalsely : Prop := netLongRow.holds Try.pinned (OpenSpec.ofChange netLongWrong)

/-- 'entrepotlaw30.NetKnown': WHATEVER THE INPUT: true; the input reads as it did. -/
def netKnownSpec : ChangeSpec := { name := "netKnown", fn := fun _ => fun
  | [] => { results := [.lit (.bool true)], args := [] }
  | _ => none }
def netKnownRow : OpenClaim := { program := "ytdllpakdhnanbaa", sum := "0eb4cd13b7810b6b985bb9fe8ff8e5034251c590c95c73a72d5e90ce6086a879", func := "entrepot/entrepotlaw30.NetKnown", spec := "netKnown", unfollowed := true, recurses := true, plainKeys := false, apart := false }
def NetKnownSaid : Prop := netKnownRow.holds Try.pinned (OpenSpec.ofChange netKnownSpec)

/-- ITS FALSE NEIGHBOUR: 'it returns false'. Refute it at one input. -/
def netKnownWrong : ChangeSpec := { name := "netKnown", fn := fun _ => fun
  | [] => { results := [.lit (.bool false)], args := [] }
  | _ => none }
def NetKnownWrongFalsely : Prop := netKnownRow.holds Try.pinned (OpenSpec.ofChange netKnownWrong)

/-- 'entrepotlaw30.NetWays': WHATEVER THE INPUT: true; the input reads as it did. -/
def netWaysSpec : ChangeSpec := { name := "netWays", fn := fun _ => fun
  | [d1, d2, d3, d4] => { results := [.lit (.bool true)], args := [d1, d2, d3, d4] }
  | _ => none }
def netWaysRow : OpenClaim := { program := "ytdllpakdhnanbaa", sum := "0eb4cd13b7810b6b985bb9fe8ff8e5034251c590c95c73a72d5e90ce6086a879", func := "entrepot/entrepotlaw30.NetWays", spec := "netWays", unfollowed := true, recurses := true, plainKeys := false, apart := false }
def NetWaysSaid : Prop := netWaysRow.holds Try.pinned (OpenSpec.ofChange netWaysSpec)

/-- ITS FALSE NEIGHBOUR: 'it returns false'. Refute it at one input. -/
def netWaysWrong : ChangeSpec := { name := "netWays", fn := fun _ => fun
  | [d1, d2, d3, d4] => { results := [.lit (.bool false)], args := [d1, d2, d3, d4] }
  | _ => none }
def NetWaysWrongFalsely : Prop := netWaysRow.holds Try.pinned (OpenSpec.ofChange netWaysWrong)

/-- 'entrepotlaw30.NetActs': WHATEVER THE INPUT: true; the input reads as it did. -/
def netActsSpec : ChangeSpec := { name := "netActs", fn := fun _ => fun
  | [d1, d2] => { results := [.lit (.bool true)], args := [d1, d2] }
  | _ => none }
def netActsRow : OpenClaim := { program := "ytdllpakdhnanbaa", sum := "0eb4cd13b7810b6b985bb9fe8ff8e5034251c590c95c73a72d5e90ce6086a879", func := "entrepot/entrepotlaw30.NetActs", spec := "netActs", unfollowed := true, recurses := true, plainKeys := false, apart := false }
def NetActsSaid : Prop := netActsRow.holds Try.pinned (OpenSpec.ofChange netActsSpec)

/-- ITS FALSE NEIGHBOUR: 'it returns false'. Refute it at one input. -/
def netActsWrong : ChangeSpec := { name := "netActs", fn := fun _ => fun
  | [d1, d2] => { results := [.lit (.bool false)], args := [d1, d2] }
  | _ => none }
def NetActsWrongFalsely : Prop := netActsRow.holds Try.pinned (OpenSpec.ofChange netActsWrong)

/-- 'entrepotlaw30.NetNone': WHATEVER THE INPUT: true; the input reads as it did. -/
def netNoneSpec : ChangeSpec := { name := "netNone", fn := fun _ => fun
  | [d1, d2, d3] => { results := [.lit (.bool true)], args := [d1, d2, d3] }
  | _ => none }
def netNoneRow : OpenClaim := { program := "ytdllpakdhnanbaa", sum := "0eb4cd13b7810b6b985bb9fe8ff8e5034251c590c95c73a72d5e90ce6086a879", func := "entrepot/entrepotlaw30.NetNone", spec := "netNone", unfollowed := true, recurses := true, plainKeys := false, apart := false }
def NetNoneSaid : Prop := netNoneRow.holds Try.pinned (OpenSpec.ofChange netNoneSpec)

/-- ITS FALSE NEIGHBOUR: 'it returns false'. Refute it at one input. -/
def netNoneWrong : ChangeSpec := { name := "netNone", fn := fun _ => fun
  | [d1, d2, d3] => { results := [.lit (.bool false)], args := [d1, d2, d3] }
  | _ => none }
def NetNoneWrongFalsely : Prop := netNoneRow.holds Try.pinned (OpenSpec.ofChange netNoneWrong)

/-- 'entrepotlaw30.NetCounts': WHATEVER THE INPUT: true; the input reads as it did. -/
def netCountsSpec : ChangeSpec := { name := "netCounts", fn := fun _ => fun
  | [d1, d2] => { results := [.lit (.bool true)], args := [d1, d2] }
  | _ => none }
def netCountsRow : OpenClaim := { program := "ytdllpakdhnanbaa", sum := "0eb4cd13b7810b6b985bb9fe8ff8e5034251c590c95c73a72d5e90ce6086a879", func := "entrepot/entrepotlaw30.NetCounts", spec := "netCounts", unfollowed := true, recurses := true, plainKeys := false, apart := false }
def NetCountsSaid : Prop := netCountsRow.holds Try.pinned (OpenSpec.ofChange netCountsSpec)

/-- ITS FALSE NEIGHBOUR: 'it returns false'. Refute it at one input. -/
def netCountsWrong : ChangeSpec := { name := "netCounts", fn := fun _ => fun
  | [d1, d2] => { results := [.lit (.bool false)], args := [d1, d2] }
  | _ => none }
def NetCountsWrongFalsely : Prop := netCountsRow.holds Try.pinned (OpenSpec.ofChange netCountsWrong)

/- THE SECOND FORM. 'bulk': how many values and letters a reading holds, each counted each time it is reached (what is shared counts as often as it is met; a slice's spare places count too). A statement '..UptoSaid' is the law's where the arguments, and the package variables that the reading takes, are together of bulk at most 1048576: NARROWER than '..Said'. Prove '..Said' where nothing that the law and all that it calls make is longer than what came in: it says more and counts as full. Else prove '..UptoSaid'. A law counts once. -/
mutual
def uptoBulk {H : Type} : DataW H → Nat
  | .lit (.string bytes) => bytes.length + 1
  | .lit _ => 1
  | .nil => 1
  | .ptr d => uptoBulk d + 1
  | .slice elems spare => uptoBulkAll elems + uptoBulkAll spare + 1
  | .agg parts => uptoBulkAll parts + 1
  | .iface _ d => uptoBulk d + 1
  | .map entries => uptoBulkEntries entries + 1
  | .held _ => 1
def uptoBulkAll {H : Type} : List (DataW H) → Nat
  | [] => 0
  | d :: r => uptoBulk d + uptoBulkAll r
def uptoBulkEntries {H : Type} : List (Lit × DataW H) → Nat
  | [] => 0
  | x :: r => uptoBulkEntry x + uptoBulkEntries r
def uptoBulkEntry {H : Type} : Lit × DataW H → Nat
  | (.string bytes, d) => bytes.length + uptoBulk d + 1
  | (_, d) => uptoBulk d + 1
 end
def uptoSmall : (H : Type) → List (DataW H) → Bool := fun _ ds => decide (uptoBulkAll ds ≤ 1048576)
def OpenSpec.upto (s : _root_.Go.ChangeSpec) : _root_.Go.OpenSpec := { _root_.Go.OpenSpec.ofChange s with cond := some uptoSmall }

/-- 'entrepotlaw30.NetLong', WHERE WHAT IT READS IS OF BULK AT MOST 1048576: true; the input reads as it did. -/
def netLongUptoRow : OpenClaim := { program := "ytdllpakdhnanbaa", sum := "0eb4cd13b7810b6b985bb9fe8ff8e5034251c590c95c73a72d5e90ce6086a879", func := "entrepot/entrepotlaw30.NetLong", spec := "netLong", unfollowed := true, recurses := true, plainKeys := false, apart := false, narrowed := true }
def NetLongUptoSaid : Prop := netLongUptoRow.holds Try.pinned (OpenSpec.upto netLongSpec)

/-- 'entrepotlaw30.NetKnown', WHERE WHAT IT READS IS OF BULK AT MOST 1048576: true; the input reads as it did. -/
def netKnownUptoRow : OpenClaim := { program := "ytdllpakdhnanbaa", sum := "0eb4cd13b7810b6b985bb9fe8ff8e5034251c590c95c73a72d5e90ce6086a879", func := "entrepot/entrepotlaw30.NetKnown", spec := "netKnown", unfollowed := true, recurses := true, plainKeys := false, apart := false, narrowed := true }
def NetKnownUptoSaid : Prop := netKnownUptoRow.holds Try.pinned (OpenSpec.upto netKnownSpec)

/-- 'entrepotlaw30.NetWays', WHERE WHAT IT READS IS OF BULK AT MOST 1048576: true; the input reads as it did. -/
def netWaysUptoRow : OpenClaim := { program := "ytdllpakdhnanbaa", sum := "0eb4cd13b7810b6b985bb9fe8ff8e5034251c590c95c73a72d5e90ce6086a879", func := "entrepot/entrepotlaw30.NetWays", spec := "netWays", unfollowed := true, recurses := true, plainKeys := false, apart := false, narrowed := true }
def NetWaysUptoSaid : Prop := netWaysUptoRow.holds Try.pinned (OpenSpec.upto netWaysSpec)

/-- 'entrepotlaw30.NetActs', WHERE WHAT IT READS IS OF BULK AT MOST 1048576: true; the input reads as it did. -/
def netActsUptoRow : OpenClaim := { program := "ytdllpakdhnanbaa", sum := "0eb4cd13b7810b6b985bb9fe8ff8e5034251c590c95c73a72d5e90ce6086a879", func := "entrepot/entrepotlaw30.NetActs", spec := "netActs", unfollowed := true, recurses := true, plainKeys := false, apart := false, narrowed := true }
def NetActsUptoSaid : Prop := netActsUptoRow.holds Try.pinned (OpenSpec.upto netActsSpec)

/-- 'entrepotlaw30.NetNone', WHERE WHAT IT READS IS OF BULK AT MOST 1048576: true; the input reads as it did. -/
def netNoneUptoRow : OpenClaim := { program := "ytdllpakdhnanbaa", sum := "0eb4cd13b7810b6b985bb9fe8ff8e5034251c590c95c73a72d5e90ce6086a879", func := "entrepot/entrepotlaw30.NetNone", spec := "netNone", unfollowed := true, recurses := true, plainKeys := false, apart := false, narrowed := true }
def NetNoneUptoSaid : Prop := netNoneUptoRow.holds Try.pinned (OpenSpec.upto netNoneSpec)

/-- 'entrepotlaw30.NetCounts', WHERE WHAT IT READS IS OF BULK AT MOST 1048576: true; the input reads as it did. -/
def netCountsUptoRow : OpenClaim := { program := "ytdllpakdhnanbaa", sum := "0eb4cd13b7810b6b985bb9fe8ff8e5034251c590c95c73a72d5e90ce6086a879", func := "entrepot/entrepotlaw30.NetCounts", spec := "netCounts", unfollowed := true, recurses := true, plainKeys := false, apart := false, narrowed := true }
def NetCountsUptoSaid : Prop := netCountsUptoRow.holds Try.pinned (OpenSpec.upto netCountsSpec)

end Rows
end Go.Proofs.Ytdllpakdhnanbaa
