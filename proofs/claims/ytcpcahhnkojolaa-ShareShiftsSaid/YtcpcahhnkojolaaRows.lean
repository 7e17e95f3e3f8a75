/-
  No cell of these rows narrows 'for every input' (looked for: loops, veiled, ifaces, maps, wideKeys, modest, calm, conditions, laid).
  DERIVED. THE GIVEN ROWS OF THIS SEAT. 5 by the template 'for every input the law returns true; each argument reads behind the call as it read before'; 0 by the template 'total and deterministic' (their statements: YtcpcahhnkojolaaTotals.lean).
  GIVEN WITH THE SEED: the statements are not yours to turn. If you find one false, say at which input.
  Laid BY PROGRAM, IN A SANDBOX (cutbox-rows.mjs): the forced cells as the released guide's own fill.sh prints them over the translation d37206835ae07734… (all of the seat's roots in one cut). By AI agents, Wed Nov 11 2026. No macro, syntax, notation, axiom, sorry.
-/
import Derived.Test.YtcpcahhnkojolaaChecked
import GoSem.Claim
import GoSem.ClaimJoined
import GoSem.ClaimMapViews
import Derived.JoinedTies
import Derived.KernelRfl
namespace Go.Proofs.Ytcpcahhnkojolaa
/- THE CELL 'sum', in the pinned program and in every row, IS THE sha256 OF THE DUMP (.gsa) THAT YtcpcahhnkojolaaProg.lean LOADS. Nothing in Lean hashes anything: it is a label: what it is worth is what the hold of that sum in a sandbox is worth. -/
noncomputable def Try.pinned : Pinned := { name := "ytcpcahhnkojolaa", sum := "d37206835ae077342e7fbdc806de5003e1386e2f362e1d7766c22b72438e91c3", checked := Try.checked }
namespace Rows
def none {H : Type} : Left H := { results := [], args := [] }

/-- 'bautalaw18.ShareSplits': WHATEVER THE INPUT: true; the input reads as it did. -/
def shareSplitsSpec : ChangeSpec := { name := "shareSplits", fn := fun _ => fun
  | [d1, d2] => { results := [.lit (.bool true)], args := [d1, d2] }
  | _ => none }
def shareSplitsRow : OpenClaim := { program := "ytcpcahhnkojolaa", sum := "d37206835ae077342e7fbdc806de5003e1386e2f362e1d7766c22b72438e91c3", func := "bauta/bautalaw18.ShareSplits", spec := "shareSplits", apart := false }
def ShareSplitsSaid : Prop := shareSplitsRow.holds Try.pinned (OpenSpec.ofChange shareSplitsSpec)

/-- ITS FALSE NEIGHBOUR: 'it returns false'. Refute it at one input. -/
def shareSplitsWrong : ChangeSpec := { name := "shareSplits", fn := fun _ => fun
  | [d1, d2] => { results := [.lit (.bool false)], args := [d1, d2] }
  | _ => none }
def ShareSplitsWrongFalsely : Prop := shareSplitsRow.holds Try.pinned (OpenSpec.ofChange shareSplitsWrong)

/-- 'bautalaw18.ShareAlone': WHATEVER THE INPUT: true; the input reads as it did. -/
def shareAloneSpec : ChangeSpec := { name := "shareAlone", fn := fun _ => fun
  | [d1, d2, d3] => { results := [.lit (.bool true)], args := [d1, d2, d3] }
  | _ => none }
def shareAloneRow : OpenClaim := { program := "ytcpcahhnkojolaa", sum := "d37206835ae077342e7fbdc806de5003e1386e2f362e1d7766c22b72438e91c3", func := "bauta/bautalaw18.ShareAlone", spec := "shareAlone", apart := false }
def ShareAloneSaid : Prop := shareAloneRow.holds Try.pinned (OpenSpec.ofChange shareAloneSpec)

/-- ITS FALSE NEIGHBOUR: 'it returns false'. Refute it at one input. -/
def shareAloneWrong : ChangeSpec := { name := "shareAlone", fn := fun _ => fun
  | [d1, d2, d3] => { results := [.lit (.bool false)], args := [d1, d2, d3] }
  | _ => none }
def ShareAloneWrongFalsely : Prop := shareAloneRow.holds Try.pinned (OpenSpec.ofChange shareAloneWrong)

/-- 'bautalaw18.ShareReckons': WHATEVER THE INPUT: true; the input reads as it did. -/
def shareReckonsSpec : ChangeSpec := { name := "shareReckons", fn := fun _ => fun
  | [d1, d2, d3] => { results := [.lit (.bool true)], args := [d1, d2, d3] }
  | _ => none }
def shareReckonsRow : OpenClaim := { program := "ytcpcahhnkojolaa", sum := "d37206835ae077342e7fbdc806de5003e1386e2f362e1d7766c22b72438e91c3", func := "bauta/bautalaw18.ShareReckons", spec := "shareReckons", unfollowed := true, recurses := true, apart := false }
def ShareReckonsSaid : Prop := shareReckonsRow.holds Try.pinned (OpenSpec.ofChange shareReckonsSpec)

/-- ITS FALSE NEIGHBOUR: 'it returns false'. Refute it at one input. -/
def shareReckonsWrong : ChangeSpec := { name := "shareReckons", fn := fun _ => fun
  | [d1, d2, d3] => { results := [.lit (.bool false)], args := [d1, d2, d3] }
  | _ => none }
def ShareReckonsWrongFalsely : Prop := shareReckonsRow.holds Try.pinned (OpenSpec.ofChange shareReckonsWrong)

/-- 'bautalaw18.ShareJoined': WHATEVER THE INPUT: true; the input reads as it did. -/
def shareJoinedSpec : ChangeSpec := { name := "shareJoined", fn := fun _ => fun
  | [d1, d2, d3] => { results := [.lit (.bool true)], args := [d1, d2, d3] }
  | _ => none }
def shareJoinedRow : OpenClaim := { program := "ytcpcahhnkojolaa", sum := "d37206835ae077342e7fbdc806de5003e1386e2f362e1d7766c22b72438e91c3", func := "bauta/bautalaw18.ShareJoined", spec := "shareJoined", unfollowed := true, recurses := true, apart := false }
def ShareJoinedSaid : Prop := shareJoinedRow.holds Try.pinned (OpenSpec.ofChange shareJoinedSpec)

/-- ITS FALSE NEIGHBOUR: 'it returns false'. Refute it at one input. -/
def shareJoinedWrong : ChangeSpec := { name := "shareJoined", fn := fun _ => fun
  | [d1, d2, d3] => { results := [.lit (.bool false)], args := [d1, d2, d3] }
  | _ => none }
def ShareJoinedWrongFalsely : Prop := shareJoinedRow.holds Try.pinned (OpenSpec.ofChange shareJoinedWrong)

/-- 'bautalaw18.ShareShifts': WHATEVER THE INPUT: true; the input reads as it did. -/
def shareShiftsSpec : ChangeSpec := { name := "shareShifts", fn := fun _ => fun
  | [d1, d2, d3] => { results := [.lit (.bool true)], args := [d1, d2, d3] }
  | _ => none }
def shareShiftsRow : OpenClaim := { program := "ytcpcahhnkojolaa", sum := "d37206835ae077342e7fbdc806de5003e1386e2f362e1d7766c22b72438e91c3", func := "bauta/bautalaw18.ShareShifts", spec := "shareShifts", unfollowed := true, recurses := true, apart := false }
def ShareShiftsSaid : Prop := shareShiftsRow.holds Try.pinned (OpenSpec.ofChange shareShiftsSpec)

/-- ITS FALSE NEIGHBOUR: 'it returns false'. Refute it at one input. -/
def shareShiftsWrong : ChangeSpec := { name := "shareShifts", fn := fun _ => fun
  | [d1, d2, d3] => { results := [.lit (.bool false)], args := [d1, d2, d3] }
  | _ => none }
def ShareShiftsWrongFalsely : Prop := shareShiftsRow.holds Try.pinned (OpenSpec.ofChange shareShiftsWrong)

/- THE SECOND FORM. 'bulk': how many values and letters a reading holds, each counted each time it is reached (what is shared counts as often as it is met; a slice's spare places count too). A statement '..UptoSaid' is the law's where the arguments, and the package variables that the reading takes, are together of bulk at most 1048576: NARROWER than '..Said'. Prove '..Said' where nothing that the law and all that it calls make is longer than what came in: it says more and counts as full. Else prove '..UptoSaid'. A law counts once. -/
mutual
def uptoBulk {H : Type} : DataW H → Nat
  | .lit (.string bytes) => bytes.length + 1
  | .lit _ => 1
  | .nil => 1
  | .ptr d => uptoBulk d + 1
  | .slice elems spare => uptoBulkAll elems + uptoBulkAll spare + 1
  | .agg parts => uptoBulkAll parts + 1
  | .iface _ d => uptoBulk d + 1
  | .map entries => uptoBulkEntries entries + 1
  | .held _ => 1
def uptoBulkAll {H : Type} : List (DataW H) → Nat
  | [] => 0
  | d :: r => uptoBulk d + uptoBulkAll r
def uptoBulkEntries {H : Type} : List (Lit × DataW H) → Nat
  | [] => 0
  | x :: r => uptoBulkEntry x + uptoBulkEntries r
def uptoBulkEntry {H : Type} : Lit × DataW H → Nat
  | (.string bytes, d) => bytes.length + uptoBulk d + 1
  | (_, d) => uptoBulk d + 1
 end
def uptoSmall : (H : Type) → List (DataW H) → Bool := fun _ ds => decide (uptoBulkAll ds ≤ 1048576)
def OpenSpec.upto (s : _root_.Go.ChangeSpec) : _root_.Go.OpenSpec := { _root_.Go.OpenSpec.ofChange s with cond := some uptoSmall }

/-- 'bautalaw18.ShareSplits', WHERE WHAT IT READS IS OF BULK AT MOST 1048576: true; the input reads as it did. -/
def shareSplitsUptoRow : OpenClaim := { program := "ytcpcahhnkojolaa", sum := "d37206835ae077342e7fbdc806de5003e1386e2f362e1d7766c22b72438e91c3", func := "bauta/bautalaw18.ShareSplits", spec := "shareSplits", apart := false, narrowed := true }
def ShareSplitsUptoSaid : Prop := shareSplitsUptoRow.holds Try.pinned (OpenSpec.upto shareSplitsSpec)

/-- 'bautalaw18.ShareAlone', WHERE WHAT IT READS IS OF BULK AT MOST 1048576: true; the input reads as it did. -/
def shareAloneUptoRow : OpenClaim := { program := "ytcpcahhnkojolaa", sum := "d37206835ae077342e7fbdc806de5003e1386e2f362e1d7766c22b72438e91c3", func := "bauta/bautalaw18.ShareAlone", spec := "shareAlone", apart := false, narrowed := true }
def ShareAloneUptoSaid : Prop := shareAloneUptoRow.holds Try.pinned (OpenSpec.upto shareAloneSpec)

/-- 'bautalaw18.ShareReckons', WHERE WHAT IT READS IS OF BULK AT MOST 1048576: true; the input reads as it did. -/
def shareReckonsUptoRow : OpenClaim := { program := "ytcpcahhnkojolaa", sum := "d37206835ae077342e7fbdc806de5003e1386e2f362e1d7766c22b72438e91c3", func := "bauta/bautalaw18.ShareReckons", spec := "shareReckons", unfollowed := true, recurses := true, apart := false, narrowed := true }
def ShareReckonsUptoSaid : Prop := shareReckonsUptoRow.holds Try.pinned (OpenSpec.upto shareReckonsSpec)

/-- 'bautalaw18.ShareJoined', WHERE WHAT IT READS IS OF BULK AT MOST 1048576: true; the input reads as it did. -/
def shareJoinedUptoRow : OpenClaim := { program := "ytcpcahhnkojolaa", sum := "d37206835ae077342e7fbdc806de5003e1386e2f362e1d7766c22b72438e91c3", func := "bauta/bautalaw18.ShareJoined", spec := "shareJoined", unfollowed := true, recurses := true, apart := false, narrowed := true }
def ShareJoinedUptoSaid : Prop := shareJoinedUptoRow.holds Try.pinned (OpenSpec.upto shareJoinedSpec)

/-- 'bautalaw18.ShareShifts', WHERE WHAT IT READS IS OF BULK AT MOST 1048576: true; the input reads as it did. -/
def shareShiftsUptoRow : OpenClaim := { program := "ytcpcahhnkojolaa", sum := "d37206835ae077342e7fbdc806de5003e1386e2f362e1d7766c22b72438e91c3", func := "bauta/bautalaw18.ShareShifts", spec := "shareShifts", unfollowed := true, recurses := true, apart := false, narrowed := true }
def ShareShiftsUptoSaid : Prop := shareShiftsUptoRow.holds Try.pinned (OpenSpec.upto shareShiftsSpec)

end Rows
end Go.Proofs.Ytcpcahhnkojolaa
