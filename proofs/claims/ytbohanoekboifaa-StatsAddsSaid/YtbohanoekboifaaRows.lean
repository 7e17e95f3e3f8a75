/-
  No cell of these rows narrows 'for every input' (looked for: loops, veiled, ifaces, maps, wideKeys, modest, calm, conditions, laid).
  DERIVED. THE GIVEN ROWS OF THIS SEAT. 4 by the template 'for every input the law returns true; each argument reads behind the call as it read before'; 0 by the template 'total and deterministic' (their statements: YtbohanoekboifaaTotals.lean).
  GIVEN WITH THE SEED: the statements are not yours to turn. If you find one false, say at which input.
  Laid BY PROGRAM, IN A SANDBOX (cutbox-rows.mjs): the forced cells as the released guide's own fill.sh prints them over the translation 510a07b9f6b97039… (all of the seat's roots in one cut). By AI agents, Wed Nov 11 2026. No macro, syntax, notation, axiom, sorry.
-/
import Derived.Test.YtbohanoekboifaaChecked
import GoSem.Claim
import GoSem.ClaimJoined
import GoSem.ClaimMapViews
import Derived.JoinedTies
import Derived.KernelRfl
namespace Go.Proofs.Ytbohanoekboifaa
/- THE CELL 'sum', in the pinned program and in every row, IS THE sha256 OF THE DUMP (.gsa) THAT YtbohanoekboifaaProg.lean LOADS. Nothing in Lean hashes anything: it is a label: what it is worth is what the hold of that sum in a sandbox is worth. -/
noncomputable def Try.pinned : Pinned := { name := "ytbohanoekboifaa", sum := "510a07b9f6b970399fa9c90ec8b2abdb7fd56e33bf64d4c68a407bbbcfe899a0", checked := Try.checked }
namespace Rows
def none {H : Type} : Left H := { results := [], args := [] }

/-- 'bautalaw39.StatsTurned': WHATEVER THE INPUT: true; the input reads as it did. -/
def statsTurnedSpec : ChangeSpec := { name := "statsTurned", fn := fun _ => fun
  | [d1, d2, d3] => { results := [.lit (.bool true)], args := [d1, d2, d3] }
  | _ => none }
def statsTurnedRow : OpenClaim := { program := "ytbohanoekboifaa", sum := "510a07b9f6b970399fa9c90ec8b2abdb7fd56e33bf64d4c68a407bbbcfe899a0", func := "bauta/bautalaw39.StatsTurned", spec := "statsTurned", unfollowed := true, recurses := true, apart := false }
def StatsTurnedSaid : Prop := statsTurnedRow.holds Try.pinned (OpenSpec.ofChange statsTurnedSpec)

/-- ITS FALSE NEIGHBOUR: 'it returns false'. Refute it at one input. -/
def statsTurnedWrong : ChangeSpec := { name := "statsTurned", fn := fun _ => fun
  | [d1, d2, d3] => { results := [.lit (.bool false)], args := [d1, d2, d3] }
  | _ => none }
def StatsTurnedWrongFalsely : Prop := statsTurnedRow.holds Try.pinned (OpenSpec.ofChange statsTurnedWrong)

/-- 'bautalaw39.StatsScores': WHATEVER THE INPUT: true; the input reads as it did. -/
def statsScoresSpec : ChangeSpec := { name := "statsScores", fn := fun _ => fun
  | [d1, d2, d3] => { results := [.lit (.bool true)], args := [d1, d2, d3] }
  | _ => none }
def statsScoresRow : OpenClaim := { program := "ytbohanoekboifaa", sum := "510a07b9f6b970399fa9c90ec8b2abdb7fd56e33bf64d4c68a407bbbcfe899a0", func := "bauta/bautalaw39.StatsScores", spec := "statsScores", unfollowed := true, recurses := true, apart := false }
def StatsScoresSaid : Prop := statsScoresRow.holds Try.pinned (OpenSpec.ofChange statsScoresSpec)

/-- ITS FALSE NEIGHBOUR: 'it returns false'. Refute it at one input. -/
def statsScoresWrong : ChangeSpec := { name := "statsScores", fn := fun _ => fun
  | [d1, d2, d3] => { results := [.lit (.bool false)], args := [d1, d2, d3] }
  | _ => none }
def StatsScoresWrongFalsely : Prop := statsScoresRow.holds Try.pinned (OpenSpec.ofChange statsScoresWrong)

/-- 'bautalaw39.StatsAdds': WHATEVER THE INPUT: true; the input reads as it did. -/
def statsAddsSpec : ChangeSpec := { name := "statsAdds", fn := fun _ => fun
  | [d1, d2, d3] => { results := [.lit (.bool true)], args := [d1, d2, d3] }
  | _ => none }
def statsAddsRow : OpenClaim := { program := "ytbohanoekboifaa", sum := "510a07b9f6b970399fa9c90ec8b2abdb7fd56e33bf64d4c68a407bbbcfe899a0", func := "bauta/bautalaw39.StatsAdds", spec := "statsAdds", unfollowed := true, recurses := true, apart := false }
def StatsAddsSaid : Prop := statsAddsRow.holds Try.pinned (OpenSpec.ofChange statsAddsSpec)

/-- ITS FALSE NEIGHBOUR: 'it returns false'. Refute it at one input. -/
def statsAddsWrong : ChangeSpec := { name := "statsAdds", fn := fun _ => fun
  | [d1, d2, d3] => { results := [.lit (.bool false)], args := [d1, d2, d3] }
  | _ => none }
def StatsAddsWrongFalsely : Prop := statsAddsRow.holds Try.pinned (OpenSpec.ofChange statsAddsWrong)

/-- 'bautalaw39.StatsWorst': WHATEVER THE INPUT: true; the input reads as it did. -/
def statsWorstSpec : ChangeSpec := { name := "statsWorst", fn := fun _ => fun
  | [d1, d2] => { results := [.lit (.bool true)], args := [d1, d2] }
  | _ => none }
def statsWorstRow : OpenClaim := { program := "ytbohanoekboifaa", sum := "510a07b9f6b970399fa9c90ec8b2abdb7fd56e33bf64d4c68a407bbbcfe899a0", func := "bauta/bautalaw39.StatsWorst", spec := "statsWorst", unfollowed := true, recurses := true, apart := false }
def StatsWorstSaid : Prop := statsWorstRow.holds Try.pinned (OpenSpec.ofChange statsWorstSpec)

/-- ITS FALSE NEIGHBOUR: 'it returns false'. Refute it at one input. -/
def statsWorstWrong : ChangeSpec := { name := "statsWorst", fn := fun _ => fun
  | [d1, d2] => { results := [.lit (.bool false)], args := [d1, d2] }
  | _ => none }
def StatsWorstWrongFalsely : Prop := statsWorstRow.holds Try.pinned (OpenSpec.ofChange statsWorstWrong)

/- THE SECOND FORM. 'bulk': how many values and letters a reading holds, each counted each time it is reached (what is shared counts as often as it is met; a slice's spare places count too). A statement '..UptoSaid' is the law's where the arguments, and the package variables that the reading takes, are together of bulk at most 1048576: NARROWER than '..Said'. Prove '..Said' where nothing that the law and all that it calls make is longer than what came in: it says more and counts as full. Else prove '..UptoSaid'. A law counts once. -/
mutual
def uptoBulk {H : Type} : DataW H → Nat
  | .lit (.string bytes) => bytes.length + 1
  | .lit _ => 1
  | .nil => 1
  | .ptr d => uptoBulk d + 1
  | .slice elems spare => uptoBulkAll elems + uptoBulkAll spare + 1
  | .agg parts => uptoBulkAll parts + 1
  | .iface _ d => uptoBulk d + 1
  | .map entries => uptoBulkEntries entries + 1
  | .held _ => 1
def uptoBulkAll {H : Type} : List (DataW H) → Nat
  | [] => 0
  | d :: r => uptoBulk d + uptoBulkAll r
def uptoBulkEntries {H : Type} : List (Lit × DataW H) → Nat
  | [] => 0
  | x :: r => uptoBulkEntry x + uptoBulkEntries r
def uptoBulkEntry {H : Type} : Lit × DataW H → Nat
  | (.string bytes, d) => bytes.length + uptoBulk d + 1
  | (_, d) => uptoBulk d + 1
 end
def uptoSmall : (H : Type) → List (DataW H) → Bool := fun _ ds => decide (uptoBulkAll ds ≤ 1048576)
def OpenSpec.upto (s : _root_.Go.ChangeSpec) : _root_.Go.OpenSpec := { _root_.Go.OpenSpec.ofChange s with cond := some uptoSmall }

/-- 'bautalaw39.StatsTurned', WHERE WHAT IT READS IS OF BULK AT MOST 1048576: true; the input reads as it did. -/
def statsTurnedUptoRow : OpenClaim := { program := "ytbohanoekboifaa", sum := "510a07b9f6b970399fa9c90ec8b2abdb7fd56e33bf64d4c68a407bbbcfe899a0", func := "bauta/bautalaw39.StatsTurned", spec := "statsTurned", unfollowed := true, recurses := true, apart := false, narrowed := true }
def StatsTurnedUptoSaid : Prop := statsTurnedUptoRow.holds Try.pinned (OpenSpec.upto statsTurnedSpec)

/-- 'bautalaw39.StatsScores', WHERE WHAT IT READS IS OF BULK AT MOST 1048576: true; the input reads as it did. -/
def statsScoresUptoRow : OpenClaim := { program := "ytbohanoekboifaa", sum := "510a07b9f6b970399fa9c90ec8b2abdb7fd56e33bf64d4c68a407bbbcfe899a0", func := "bauta/bautalaw39.StatsScores", spec := "statsScores", unfollowed := true, recurses := true, apart := false, narrowed := true }
def StatsScoresUptoSaid : Prop := statsScoresUptoRow.holds Try.pinned (OpenSpec.upto statsScoresSpec)

/-- 'bautalaw39.StatsAdds', WHERE WHAT IT READS IS OF BULK AT MOST 1048576: true; the input reads as it did. -/
def statsAddsUptoRow : OpenClaim := { program := "ytbohanoekboifaa", sum := "510a07b9f6b970399fa9c90ec8b2abdb7fd56e33bf64d4c68a407bbbcfe899a0", func := "bauta/bautalaw39.StatsAdds", spec := "statsAdds", unfollowed := true, recurses := true, apart := false, narrowed := true }
def StatsAddsUptoSaid : Prop := statsAddsUptoRow.holds Try.pinned (OpenSpec.upto statsAddsSpec)

/-- 'bautalaw39.StatsWorst', WHERE WHAT IT READS IS OF BULK AT MOST 1048576: true; the input reads as it did. -/
def statsWorstUptoRow : OpenClaim := { program := "ytbohanoekboifaa", sum := "510a07b9f6b970399fa9c90ec8b2abdb7fd56e33bf64d4c68a407bbbcfe899a0", func := "bauta/bautalaw39.StatsWorst", spec := "statsWorst", unfollowed := true, recurses := true, apart := false, narrowed := true }
def StatsWorstUptoSaid : Prop := statsWorstUptoRow.holds Try.pinned (OpenSpec.upto statsWorstSpec)

end Rows
end Go.Proofs.Ytbohanoekboifaa
