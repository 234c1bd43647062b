/-
  No cell of these rows narrows 'for every input' (looked for: loops, veiled, ifaces, maps, wideKeys, modest, calm, conditions, laid).
  DERIVED. THE GIVEN ROWS OF THIS SEAT. 12 by the template 'for every input the law returns true; each argument reads behind the call as it read before'; 0 by the template 'total and deterministic' (their statements: YtoohpdamndgdlaaTotals.lean).
  GIVEN WITH THE SEED: the statements are not yours to turn. If you find one false, say at which input.
  Laid BY PROGRAM, IN A SANDBOX (cutbox-rows.mjs): the forced cells as the released guide's own fill.sh prints them over the translation 87b6ef3900c9f580… (all of the seat's roots in one cut). By AI agents, Wed Nov 11 2026. No macro, syntax, notation, axiom, sorry.
-/
import Derived.Test.YtoohpdamndgdlaaChecked
import GoSem.Claim
import GoSem.ClaimJoined
import GoSem.ClaimMapViews
import Derived.JoinedTies
import Derived.KernelRfl
namespace Go.Proofs.Ytoohpdamndgdlaa
/- THE CELL 'sum', in the pinned program and in every row, IS THE sha256 OF THE DUMP (.gsa) THAT YtoohpdamndgdlaaProg.lean LOADS. Nothing in Lean hashes anything: it is a label: what it is worth is what the hold of that sum in a sandbox is worth. -/
noncomputable def Try.pinned : Pinned := { name := "ytoohpdamndgdlaa", sum := "87b6ef3900c9f580d5eaf8c42fef6d29b8b191f14f11707d2b9074263a53fb7c", checked := Try.checked }
namespace Rows
def none {H : Type} : Left H := { results := [], args := [] }

/-- 'torrentlaw4.BitsetMakes': WHATEVER THE INPUT: true; the input reads as it did. -/
def bitsetMakesSpec : ChangeSpec := { name := "bitsetMakes", fn := fun _ => fun
  | [d] => { results := [.lit (.bool true)], args := [d] }
  | _ => none }
def bitsetMakesRow : OpenClaim := { program := "ytoohpdamndgdlaa", sum := "87b6ef3900c9f580d5eaf8c42fef6d29b8b191f14f11707d2b9074263a53fb7c", func := "torrent/torrentlaw4.BitsetMakes", spec := "bitsetMakes", apart := false }
def BitsetMakesSaid : Prop := bitsetMakesRow.holds Try.pinned (OpenSpec.ofChange bitsetMakesSpec)

/-- ITS FALSE NEIGHBOUR: 'it returns false'. Refute it at one input. -/
def bitsetMakesWrong : ChangeSpec := { name := "bitsetMakes", fn := fun _ => fun
  | [d] => { results := [.lit (.bool false)], args := [d] }
  | _ => none }
def BitsetMakesWrongFalsely : Prop := bitsetMakesRow.holds Try.pinned (OpenSpec.ofChange bitsetMakesWrong)

/-- 'torrentlaw4.BitsetOfs': WHATEVER THE INPUT: true; the input reads as it did. -/
def bitsetOfsSpec : ChangeSpec := { name := "bitsetOfs", fn := fun _ => fun
  | [d1, d2] => { results := [.lit (.bool true)], args := [d1, d2] }
  | _ => none }
def bitsetOfsRow : OpenClaim := { program := "ytoohpdamndgdlaa", sum := "87b6ef3900c9f580d5eaf8c42fef6d29b8b191f14f11707d2b9074263a53fb7c", func := "torrent/torrentlaw4.BitsetOfs", spec := "bitsetOfs", apart := false }
def BitsetOfsSaid : Prop := bitsetOfsRow.holds Try.pinned (OpenSpec.ofChange bitsetOfsSpec)

/-- ITS FALSE NEIGHBOUR: 'it returns false'. Refute it at one input. -/
def bitsetOfsWrong : ChangeSpec := { name := "bitsetOfs", fn := fun _ => fun
  | [d1, d2] => { results := [.lit (.bool false)], args := [d1, d2] }
  | _ => none }
def BitsetOfsWrongFalsely : Prop := bitsetOfsRow.holds Try.pinned (OpenSpec.ofChange bitsetOfsWrong)

/-- 'torrentlaw4.BitsetWalks': WHATEVER THE INPUT: true; the input reads as it did. -/
def bitsetWalksSpec : ChangeSpec := { name := "bitsetWalks", fn := fun _ => fun
  | [d1, d2, d3, d4] => { results := [.lit (.bool true)], args := [d1, d2, d3, d4] }
  | _ => none }
def bitsetWalksRow : OpenClaim := { program := "ytoohpdamndgdlaa", sum := "87b6ef3900c9f580d5eaf8c42fef6d29b8b191f14f11707d2b9074263a53fb7c", func := "torrent/torrentlaw4.BitsetWalks", spec := "bitsetWalks", unfollowed := true, recurses := true, apart := false }
def BitsetWalksSaid : Prop := bitsetWalksRow.holds Try.pinned (OpenSpec.ofChange bitsetWalksSpec)

/-- ITS FALSE NEIGHBOUR: 'it returns false'. Refute it at one input. -/
def bitsetWalksWrong : ChangeSpec := { name := "bitsetWalks", fn := fun _ => fun
  | [d1, d2, d3, d4] => { results := [.lit (.bool false)], args := [d1, d2, d3, d4] }
  | _ => none }
def BitsetWalksWrongFalsely : Prop := bitsetWalksRow.holds Try.pinned (OpenSpec.ofChange bitsetWalksWrong)

/-- 'torrentlaw4.BitsetNexts': WHATEVER THE INPUT: true; the input reads as it did. -/
def bitsetNextsSpec : ChangeSpec := { name := "bitsetNexts", fn := fun _ => fun
  | [d1, d2, d3, d4] => { results := [.lit (.bool true)], args := [d1, d2, d3, d4] }
  | _ => none }
def bitsetNextsRow : OpenClaim := { program := "ytoohpdamndgdlaa", sum := "87b6ef3900c9f580d5eaf8c42fef6d29b8b191f14f11707d2b9074263a53fb7c", func := "torrent/torrentlaw4.BitsetNexts", spec := "bitsetNexts", apart := false }
def BitsetNextsSaid : Prop := bitsetNextsRow.holds Try.pinned (OpenSpec.ofChange bitsetNextsSpec)

/-- ITS FALSE NEIGHBOUR: 'it returns false'. Refute it at one input. -/
def bitsetNextsWrong : ChangeSpec := { name := "bitsetNexts", fn := fun _ => fun
  | [d1, d2, d3, d4] => { results := [.lit (.bool false)], args := [d1, d2, d3, d4] }
  | _ => none }
def BitsetNextsWrongFalsely : Prop := bitsetNextsRow.holds Try.pinned (OpenSpec.ofChange bitsetNextsWrong)

/-- 'torrentlaw4.BitsetRuns': WHATEVER THE INPUT: true; the input reads as it did. -/
def bitsetRunsSpec : ChangeSpec := { name := "bitsetRuns", fn := fun _ => fun
  | [d1, d2] => { results := [.lit (.bool true)], args := [d1, d2] }
  | _ => none }
def bitsetRunsRow : OpenClaim := { program := "ytoohpdamndgdlaa", sum := "87b6ef3900c9f580d5eaf8c42fef6d29b8b191f14f11707d2b9074263a53fb7c", func := "torrent/torrentlaw4.BitsetRuns", spec := "bitsetRuns", unfollowed := true, recurses := true, apart := false }
def BitsetRunsSaid : Prop := bitsetRunsRow.holds Try.pinned (OpenSpec.ofChange bitsetRunsSpec)

/-- ITS FALSE NEIGHBOUR: 'it returns false'. Refute it at one input. -/
def bitsetRunsWrong : ChangeSpec := { name := "bitsetRuns", fn := fun _ => fun
  | [d1, d2] => { results := [.lit (.bool false)], args := [d1, d2] }
  | _ => none }
def BitsetRunsWrongFalsely : Prop := bitsetRunsRow.holds Try.pinned (OpenSpec.ofChange bitsetRunsWrong)

/-- 'torrentlaw4.BitsetPlaces': WHATEVER THE INPUT: true; the input reads as it did. -/
def bitsetPlacesSpec : ChangeSpec := { name := "bitsetPlaces", fn := fun _ => fun
  | [d1, d2, d3, d4] => { results := [.lit (.bool true)], args := [d1, d2, d3, d4] }
  | _ => none }
def bitsetPlacesRow : OpenClaim := { program := "ytoohpdamndgdlaa", sum := "87b6ef3900c9f580d5eaf8c42fef6d29b8b191f14f11707d2b9074263a53fb7c", func := "torrent/torrentlaw4.BitsetPlaces", spec := "bitsetPlaces", apart := false }
def BitsetPlacesSaid : Prop := bitsetPlacesRow.holds Try.pinned (OpenSpec.ofChange bitsetPlacesSpec)

/-- ITS FALSE NEIGHBOUR: 'it returns false'. Refute it at one input. -/
def bitsetPlacesWrong : ChangeSpec := { name := "bitsetPlaces", fn := fun _ => fun
  | [d1, d2, d3, d4] => { results := [.lit (.bool false)], args := [d1, d2, d3, d4] }
  | _ => none }
def BitsetPlacesWrongFalsely : Prop := bitsetPlacesRow.holds Try.pinned (OpenSpec.ofChange bitsetPlacesWrong)

/-- 'torrentlaw4.BitsetCounts': WHATEVER THE INPUT: true; the input reads as it did. -/
def bitsetCountsSpec : ChangeSpec := { name := "bitsetCounts", fn := fun _ => fun
  | [d1, d2] => { results := [.lit (.bool true)], args := [d1, d2] }
  | _ => none }
def bitsetCountsRow : OpenClaim := { program := "ytoohpdamndgdlaa", sum := "87b6ef3900c9f580d5eaf8c42fef6d29b8b191f14f11707d2b9074263a53fb7c", func := "torrent/torrentlaw4.BitsetCounts", spec := "bitsetCounts", unfollowed := true, recurses := true, apart := false }
def BitsetCountsSaid : Prop := bitsetCountsRow.holds Try.pinned (OpenSpec.ofChange bitsetCountsSpec)

/-- ITS FALSE NEIGHBOUR: 'it returns false'. Refute it at one input. -/
def bitsetCountsWrong : ChangeSpec := { name := "bitsetCounts", fn := fun _ => fun
  | [d1, d2] => { results := [.lit (.bool false)], args := [d1, d2] }
  | _ => none }
def BitsetCountsWrongFalsely : Prop := bitsetCountsRow.holds Try.pinned (OpenSpec.ofChange bitsetCountsWrong)

/-- 'torrentlaw4.BitsetJoins': WHATEVER THE INPUT: true; the input reads as it did. -/
def bitsetJoinsSpec : ChangeSpec := { name := "bitsetJoins", fn := fun _ => fun
  | [d1, d2, d3] => { results := [.lit (.bool true)], args := [d1, d2, d3] }
  | _ => none }
def bitsetJoinsRow : OpenClaim := { program := "ytoohpdamndgdlaa", sum := "87b6ef3900c9f580d5eaf8c42fef6d29b8b191f14f11707d2b9074263a53fb7c", func := "torrent/torrentlaw4.BitsetJoins", spec := "bitsetJoins", unfollowed := true, recurses := true, apart := false }
def BitsetJoinsSaid : Prop := bitsetJoinsRow.holds Try.pinned (OpenSpec.ofChange bitsetJoinsSpec)

/-- ITS FALSE NEIGHBOUR: 'it returns false'. Refute it at one input. -/
def bitsetJoinsWrong : ChangeSpec := { name := "bitsetJoins", fn := fun _ => fun
  | [d1, d2, d3] => { results := [.lit (.bool false)], args := [d1, d2, d3] }
  | _ => none }
def BitsetJoinsWrongFalsely : Prop := bitsetJoinsRow.holds Try.pinned (OpenSpec.ofChange bitsetJoinsWrong)

/-- 'torrentlaw4.BitsetTwoWay': WHATEVER THE INPUT: true; the input reads as it did. -/
def bitsetTwoWaySpec : ChangeSpec := { name := "bitsetTwoWay", fn := fun _ => fun
  | [d1, d2, d3] => { results := [.lit (.bool true)], args := [d1, d2, d3] }
  | _ => none }
def bitsetTwoWayRow : OpenClaim := { program := "ytoohpdamndgdlaa", sum := "87b6ef3900c9f580d5eaf8c42fef6d29b8b191f14f11707d2b9074263a53fb7c", func := "torrent/torrentlaw4.BitsetTwoWay", spec := "bitsetTwoWay", unfollowed := true, recurses := true, apart := false }
def BitsetTwoWaySaid : Prop := bitsetTwoWayRow.holds Try.pinned (OpenSpec.ofChange bitsetTwoWaySpec)

/-- ITS FALSE NEIGHBOUR: 'it returns false'. Refute it at one input. -/
def bitsetTwoWayWrong : ChangeSpec := { name := "bitsetTwoWay", fn := fun _ => fun
  | [d1, d2, d3] => { results := [.lit (.bool false)], args := [d1, d2, d3] }
  | _ => none }
def BitsetTwoWayWrongFalsely : Prop := bitsetTwoWayRow.holds Try.pinned (OpenSpec.ofChange bitsetTwoWayWrong)

/-- 'torrentlaw4.BitsetRunsBack': WHATEVER THE INPUT: true; the input reads as it did. -/
def bitsetRunsBackSpec : ChangeSpec := { name := "bitsetRunsBack", fn := fun _ => fun
  | [d1, d2] => { results := [.lit (.bool true)], args := [d1, d2] }
  | _ => none }
def bitsetRunsBackRow : OpenClaim := { program := "ytoohpdamndgdlaa", sum := "87b6ef3900c9f580d5eaf8c42fef6d29b8b191f14f11707d2b9074263a53fb7c", func := "torrent/torrentlaw4.BitsetRunsBack", spec := "bitsetRunsBack", unfollowed := true, recurses := true, apart := false }
def BitsetRunsBackSaid : Prop := bitsetRunsBackRow.holds Try.pinned (OpenSpec.ofChange bitsetRunsBackSpec)

/-- ITS FALSE NEIGHBOUR: 'it returns false'. Refute it at one input. -/
def bitsetRunsBackWrong : ChangeSpec := { name := "bitsetRunsBack", fn := fun _ => fun
  | [d1, d2] => { results := [.lit (.bool false)], args := [d1, d2] }
  | _ => none }
def BitsetRunsBackWrongFalsely : Prop := bitsetRunsBackRow.holds Try.pinned (OpenSpec.ofChange bitsetRunsBackWrong)

/-- 'torrentlaw4.BitsetAlgebra': WHATEVER THE INPUT: true; the input reads as it did. -/
def bitsetAlgebraSpec : ChangeSpec := { name := "bitsetAlgebra", fn := fun _ => fun
  | [d1, d2, d3] => { results := [.lit (.bool true)], args := [d1, d2, d3] }
  | _ => none }
def bitsetAlgebraRow : OpenClaim := { program := "ytoohpdamndgdlaa", sum := "87b6ef3900c9f580d5eaf8c42fef6d29b8b191f14f11707d2b9074263a53fb7c", func := "torrent/torrentlaw4.BitsetAlgebra", spec := "bitsetAlgebra", unfollowed := true, recurses := true, apart := false }
def BitsetAlgebraSaid : Prop := bitsetAlgebraRow.holds Try.pinned (OpenSpec.ofChange bitsetAlgebraSpec)

/-- ITS FALSE NEIGHBOUR: 'it returns false'. Refute it at one input. -/
def bitsetAlgebraWrong : ChangeSpec := { name := "bitsetAlgebra", fn := fun _ => fun
  | [d1, d2, d3] => { results := [.lit (.bool false)], args := [d1, d2, d3] }
  | _ => none }
def BitsetAlgebraWrongFalsely : Prop := bitsetAlgebraRow.holds Try.pinned (OpenSpec.ofChange bitsetAlgebraWrong)

/-- 'torrentlaw4.BitsetKept': WHATEVER THE INPUT: true; the input reads as it did. -/
def bitsetKeptSpec : ChangeSpec := { name := "bitsetKept", fn := fun _ => fun
  | [d1, d2, d3, d4] => { results := [.lit (.bool true)], args := [d1, d2, d3, d4] }
  | _ => none }
def bitsetKeptRow : OpenClaim := { program := "ytoohpdamndgdlaa", sum := "87b6ef3900c9f580d5eaf8c42fef6d29b8b191f14f11707d2b9074263a53fb7c", func := "torrent/torrentlaw4.BitsetKept", spec := "bitsetKept", unfollowed := true, recurses := true, apart := false }
def BitsetKeptSaid : Prop := bitsetKeptRow.holds Try.pinned (OpenSpec.ofChange bitsetKeptSpec)

/-- ITS FALSE NEIGHBOUR: 'it returns false'. Refute it at one input. -/
def bitsetKeptWrong : ChangeSpec := { name := "bitsetKept", fn := fun _ => fun
  | [d1, d2, d3, d4] => { results := [.lit (.bool false)], args := [d1, d2, d3, d4] }
  | _ => none }
def BitsetKeptWrongFalsely : Prop := bitsetKeptRow.holds Try.pinned (OpenSpec.ofChange bitsetKeptWrong)

/- THE SECOND FORM. 'bulk': how many values and letters a reading holds, each counted each time it is reached (what is shared counts as often as it is met; a slice's spare places count too). A statement '..UptoSaid' is the law's where the arguments, and the package variables that the reading takes, are together of bulk at most 1048576: NARROWER than '..Said'. Prove '..Said' where nothing that the law and all that it calls make is longer than what came in: it says more and counts as full. Else prove '..UptoSaid'. A law counts once. -/
mutual
def uptoBulk {H : Type} : DataW H → Nat
  | .lit (.string bytes) => bytes.length + 1
  | .lit _ => 1
  | .nil => 1
  | .ptr d => uptoBulk d + 1
  | .slice elems spare => uptoBulkAll elems + uptoBulkAll spare + 1
  | .agg parts => uptoBulkAll parts + 1
  | .iface _ d => uptoBulk d + 1
  | .map entries => uptoBulkEntries entries + 1
  | .held _ => 1
def uptoBulkAll {H : Type} : List (DataW H) → Nat
  | [] => 0
  | d :: r => uptoBulk d + uptoBulkAll r
def uptoBulkEntries {H : Type} : List (Lit × DataW H) → Nat
  | [] => 0
  | x :: r => uptoBulkEntry x + uptoBulkEntries r
def uptoBulkEntry {H : Type} : Lit × DataW H → Nat
  | (.string bytes, d) => bytes.length + uptoBulk d + 1
  | (_, d) => uptoBulk d + 1
 end
def uptoSmall : (H : Type) → List (DataW H) → Bool := fun _ ds => decide (uptoBulkAll ds ≤ 1048576)
def OpenSpec.upto (s : _root_.Go.ChangeSpec) : _root_.Go.OpenSpec := { _root_.Go.OpenSpec.ofChange s with cond := some uptoSmall }

/-- 'torrentlaw4.BitsetMakes', WHERE WHAT IT READS IS OF BULK AT MOST 1048576: true; the input reads as it did. -/
def bitsetMakesUptoRow : OpenClaim := { program := "ytoohpdamndgdlaa", sum := "87b6ef3900c9f580d5eaf8c42fef6d29b8b191f14f11707d2b9074263a53fb7c", func := "torrent/torrentlaw4.BitsetMakes", spec := "bitsetMakes", apart := false, narrowed := true }
def BitsetMakesUptoSaid : Prop := bitsetMakesUptoRow.holds Try.pinned (OpenSpec.upto bitsetMakesSpec)

/-- 'torrentlaw4.BitsetOfs', WHERE WHAT IT READS IS OF BULK AT MOST 1048576: true; the input reads as it did. -/
def bitsetOfsUptoRow : OpenClaim := { program := "ytoohpdamndgdlaa", sum := "87b6ef3900c9f580d5eaf8c42fef6d29b8b191f14f11707d2b9074263a53fb7c", func := "torrent/torrentlaw4.BitsetOfs", spec := "bitsetOfs", apart := false, narrowed := true }
def BitsetOfsUptoSaid : Prop := bitsetOfsUptoRow.holds Try.pinned (OpenSpec.upto bitsetOfsSpec)

/-- 'torrentlaw4.BitsetWalks', WHERE WHAT IT READS IS OF BULK AT MOST 1048576: true; the input reads as it did. -/
def bitsetWalksUptoRow : OpenClaim := { program := "ytoohpdamndgdlaa", sum := "87b6ef3900c9f580d5eaf8c42fef6d29b8b191f14f11707d2b9074263a53fb7c", func := "torrent/torrentlaw4.BitsetWalks", spec := "bitsetWalks", unfollowed := true, recurses := true, apart := false, narrowed := true }
def BitsetWalksUptoSaid : Prop := bitsetWalksUptoRow.holds Try.pinned (OpenSpec.upto bitsetWalksSpec)

/-- 'torrentlaw4.BitsetNexts', WHERE WHAT IT READS IS OF BULK AT MOST 1048576: true; the input reads as it did. -/
def bitsetNextsUptoRow : OpenClaim := { program := "ytoohpdamndgdlaa", sum := "87b6ef3900c9f580d5eaf8c42fef6d29b8b191f14f11707d2b9074263a53fb7c", func := "torrent/torrentlaw4.BitsetNexts", spec := "bitsetNexts", apart := false, narrowed := true }
def BitsetNextsUptoSaid : Prop := bitsetNextsUptoRow.holds Try.pinned (OpenSpec.upto bitsetNextsSpec)

/-- 'torrentlaw4.BitsetRuns', WHERE WHAT IT READS IS OF BULK AT MOST 1048576: true; the input reads as it did. -/
def bitsetRunsUptoRow : OpenClaim := { program := "ytoohpdamndgdlaa", sum := "87b6ef3900c9f580d5eaf8c42fef6d29b8b191f14f11707d2b9074263a53fb7c", func := "torrent/torrentlaw4.BitsetRuns", spec := "bitsetRuns", unfollowed := true, recurses := true, apart := false, narrowed := true }
def BitsetRunsUptoSaid : Prop := bitsetRunsUptoRow.holds Try.pinned (OpenSpec.upto bitsetRunsSpec)

/-- 'torrentlaw4.BitsetPlaces', WHERE WHAT IT READS IS OF BULK AT MOST 1048576: true; the input reads as it did. -/
def bitsetPlacesUptoRow : OpenClaim := { program := "ytoohpdamndgdlaa", sum := "87b6ef3900c9f580d5eaf8c42fef6d29b8b191f14f11707d2b9074263a53fb7c", func := "torrent/torrentlaw4.BitsetPlaces", spec := "bitsetPlaces", apart := false, narrowed := true }
def BitsetPlacesUptoSaid : Prop := bitsetPlacesUptoRow.holds Try.pinned (OpenSpec.upto bitsetPlacesSpec)

/-- 'torrentlaw4.BitsetCounts', WHERE WHAT IT READS IS OF BULK AT MOST 1048576: true; the input reads as it did. -/
def bitsetCountsUptoRow : OpenClaim := { program := "ytoohpdamndgdlaa", sum := "87b6ef3900c9f580d5eaf8c42fef6d29b8b191f14f11707d2b9074263a53fb7c", func := "torrent/torrentlaw4.BitsetCounts", spec := "bitsetCounts", unfollowed := true, recurses := true, apart := false, narrowed := true }
def BitsetCountsUptoSaid : Prop := bitsetCountsUptoRow.holds Try.pinned (OpenSpec.upto bitsetCountsSpec)

/-- 'torrentlaw4.BitsetJoins', WHERE WHAT IT READS IS OF BULK AT MOST 1048576: true; the input reads as it did. -/
def bitsetJoinsUptoRow : OpenClaim := { program := "ytoohpdamndgdlaa", sum := "87b6ef3900c9f580d5eaf8c42fef6d29b8b191f14f11707d2b9074263a53fb7c", func := "torrent/torrentlaw4.BitsetJoins", spec := "bitsetJoins", unfollowed := true, recurses := true, apart := false, narrowed := true }
def BitsetJoinsUptoSaid : Prop := bitsetJoinsUptoRow.holds Try.pinned (OpenSpec.upto bitsetJoinsSpec)

/-- 'torrentlaw4.BitsetTwoWay', WHERE WHAT IT READS IS OF BULK AT MOST 1048576: true; the input reads as it did. -/
def bitsetTwoWayUptoRow : OpenClaim := { program := "ytoohpdamndgdlaa", sum := "87b6ef3900c9f580d5eaf8c42fef6d29b8b191f14f11707d2b9074263a53fb7c", func := "torrent/torrentlaw4.BitsetTwoWay", spec := "bitsetTwoWay", unfollowed := true, recurses := true, apart := false, narrowed := true }
def BitsetTwoWayUptoSaid : Prop := bitsetTwoWayUptoRow.holds Try.pinned (OpenSpec.upto bitsetTwoWaySpec)

/-- 'torrentlaw4.BitsetRunsBack', WHERE WHAT IT READS IS OF BULK AT MOST 1048576: true; the input reads as it did. -/
def bitsetRunsBackUptoRow : OpenClaim := { program := "ytoohpdamndgdlaa", sum := "87b6ef3900c9f580d5eaf8c42fef6d29b8b191f14f11707d2b9074263a53fb7c", func := "torrent/torrentlaw4.BitsetRunsBack", spec := "bitsetRunsBack", unfollowed := true, recurses := true, apart := false, narrowed := true }
def BitsetRunsBackUptoSaid : Prop := bitsetRunsBackUptoRow.holds Try.pinned (OpenSpec.upto bitsetRunsBackSpec)

/-- 'torrentlaw4.BitsetAlgebra', WHERE WHAT IT READS IS OF BULK AT MOST 1048576: true; the input reads as it did. -/
def bitsetAlgebraUptoRow : OpenClaim := { program := "ytoohpdamndgdlaa", sum := "87b6ef3900c9f580d5eaf8c42fef6d29b8b191f14f11707d2b9074263a53fb7c", func := "torrent/torrentlaw4.BitsetAlgebra", spec := "bitsetAlgebra", unfollowed := true, recurses := true, apart := false, narrowed := true }
def BitsetAlgebraUptoSaid : Prop := bitsetAlgebraUptoRow.holds Try.pinned (OpenSpec.upto bitsetAlgebraSpec)

/-- 'torrentlaw4.BitsetKept', WHERE WHAT IT READS IS OF BULK AT MOST 1048576: true; the input reads as it did. -/
def bitsetKeptUptoRow : OpenClaim := { program := "ytoohpdamndgdlaa", sum := "87b6ef3900c9f580d5eaf8c42fef6d29b8b191f14f11707d2b9074263a53fb7c", func := "torrent/torrentlaw4.BitsetKept", spec := "bitsetKept", unfollowed := true, recurses := true, apart := false, narrowed := true }
def BitsetKeptUptoSaid : Prop := bitsetKeptUptoRow.holds Try.pinned (OpenSpec.upto bitsetKeptSpec)

end Rows
end Go.Proofs.Ytoohpdamndgdlaa
