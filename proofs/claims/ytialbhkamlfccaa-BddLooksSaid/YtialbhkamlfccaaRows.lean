/-
  No cell of these rows narrows 'for every input' (looked for: loops, veiled, ifaces, maps, wideKeys, modest, calm, conditions, laid).
  DERIVED. THE GIVEN ROWS OF THIS SEAT. 4 by the template 'for every input the law returns true; each argument reads behind the call as it read before'; 0 by the template 'total and deterministic' (their statements: YtialbhkamlfccaaTotals.lean).
  GIVEN WITH THE SEED: the statements are not yours to turn. If you find one false, say at which input.
  Laid BY PROGRAM, IN A SANDBOX (cutbox-rows.mjs): the forced cells as the released guide's own fill.sh prints them over the translation 8eec4818a0b73d9f… (all of the seat's roots in one cut). By AI agents, Wed Nov 11 2026. No macro, syntax, notation, axiom, sorry.
-/
import Derived.Test.YtialbhkamlfccaaChecked
import GoSem.Claim
import GoSem.ClaimJoined
import GoSem.ClaimMapViews
import Derived.JoinedTies
import Derived.KernelRfl
namespace Go.Proofs.Ytialbhkamlfccaa
/- THE CELL 'sum', in the pinned program and in every row, IS THE sha256 OF THE DUMP (.gsa) THAT YtialbhkamlfccaaProg.lean LOADS. Nothing in Lean hashes anything: it is a label: what it is worth is what the hold of that sum in a sandbox is worth. -/
noncomputable def Try.pinned : Pinned := { name := "ytialbhkamlfccaa", sum := "8eec4818a0b73d9f1639762b38d0fe55949485d22a16c9f2230c3099e37c81c8", checked := Try.checked }
namespace Rows
def none {H : Type} : Left H := { results := [], args := [] }

/-- 'bautalaw36.BddActs': WHATEVER THE INPUT: true; the input reads as it did. -/
def bddActsSpec : ChangeSpec := { name := "bddActs", fn := fun _ => fun
  | [d1, d2] => { results := [.lit (.bool true)], args := [d1, d2] }
  | _ => none }
def bddActsRow : OpenClaim := { program := "ytialbhkamlfccaa", sum := "8eec4818a0b73d9f1639762b38d0fe55949485d22a16c9f2230c3099e37c81c8", func := "bauta/bautalaw36.BddActs", spec := "bddActs", recurses := true, plainKeys := false, apart := false }
def BddActsSaid : Prop := bddActsRow.holds Try.pinned (OpenSpec.ofChange bddActsSpec)

/-- ITS FALSE NEIGHBOUR: 'it returns false'. Refute it at one input. -/
def bddActsWrong : ChangeSpec := { name := "bddActs", fn := fun _ => fun
  | [d1, d2] => { results := [.lit (.bool false)], args := [d1, d2] }
  | _ => none }
def BddActsWrongFalsely : Prop := bddActsRow.holds Try.pinned (OpenSpec.ofChange bddActsWrong)

/-- 'bautalaw36.BddLooks': WHATEVER THE INPUT: true; the input reads as it did. -/
def bddLooksSpec : ChangeSpec := { name := "bddLooks", fn := fun _ => fun
  | [d1, d2] => { results := [.lit (.bool true)], args := [d1, d2] }
  | _ => none }
def bddLooksRow : OpenClaim := { program := "ytialbhkamlfccaa", sum := "8eec4818a0b73d9f1639762b38d0fe55949485d22a16c9f2230c3099e37c81c8", func := "bauta/bautalaw36.BddLooks", spec := "bddLooks", recurses := true, plainKeys := false, apart := false }
def BddLooksSaid : Prop := bddLooksRow.holds Try.pinned (OpenSpec.ofChange bddLooksSpec)

/-- ITS FALSE NEIGHBOUR: 'it returns false'. Refute it at one input. -/
def bddLooksWrong : ChangeSpec := { name := "bddLooks", fn := fun _ => fun
  | [d1, d2] => { results := [.lit (.bool false)], args := [d1, d2] }
  | _ => none }
def BddLooksWrongFalsely : Prop := bddLooksRow.holds Try.pinned (OpenSpec.ofChange bddLooksWrong)

/-- 'bautalaw36.BddFull': WHATEVER THE INPUT: true; the input reads as it did. -/
def bddFullSpec : ChangeSpec := { name := "bddFull", fn := fun _ => fun
  | [d1, d2] => { results := [.lit (.bool true)], args := [d1, d2] }
  | _ => none }
def bddFullRow : OpenClaim := { program := "ytialbhkamlfccaa", sum := "8eec4818a0b73d9f1639762b38d0fe55949485d22a16c9f2230c3099e37c81c8", func := "bauta/bautalaw36.BddFull", spec := "bddFull", recurses := true, plainKeys := false, apart := false }
def BddFullSaid : Prop := bddFullRow.holds Try.pinned (OpenSpec.ofChange bddFullSpec)

/-- ITS FALSE NEIGHBOUR: 'it returns false'. Refute it at one input. -/
def bddFullWrong : ChangeSpec := { name := "bddFull", fn := fun _ => fun
  | [d1, d2] => { results := [.lit (.bool false)], args := [d1, d2] }
  | _ => none }
def BddFullWrongFalsely : Prop := bddFullRow.holds Try.pinned (OpenSpec.ofChange bddFullWrong)

/-- 'bautalaw36.BddLaws': WHATEVER THE INPUT: true; the input reads as it did. -/
def bddLawsSpec : ChangeSpec := { name := "bddLaws", fn := fun _ => fun
  | [d1, d2, d3] => { results := [.lit (.bool true)], args := [d1, d2, d3] }
  | _ => none }
def bddLawsRow : OpenClaim := { program := "ytialbhkamlfccaa", sum := "8eec4818a0b73d9f1639762b38d0fe55949485d22a16c9f2230c3099e37c81c8", func := "bauta/bautalaw36.BddLaws", spec := "bddLaws", recurses := true, plainKeys := false, apart := false }
def BddLawsSaid : Prop := bddLawsRow.holds Try.pinned (OpenSpec.ofChange bddLawsSpec)

/-- ITS FALSE NEIGHBOUR: 'it returns false'. Refute it at one input. -/
def bddLawsWrong : ChangeSpec := { name := "bddLaws", fn := fun _ => fun
  | [d1, d2, d3] => { results := [.lit (.bool false)], args := [d1, d2, d3] }
  | _ => none }
def BddLawsWrongFalsely : Prop := bddLawsRow.holds Try.pinned (OpenSpec.ofChange bddLawsWrong)

/- THE SECOND FORM. 'bulk': how many values and letters a reading holds, each counted each time it is reached (what is shared counts as often as it is met; a slice's spare places count too). A statement '..UptoSaid' is the law's where the arguments, and the package variables that the reading takes, are together of bulk at most 1048576: NARROWER than '..Said'. Prove '..Said' where nothing that the law and all that it calls make is longer than what came in: it says more and counts as full. Else prove '..UptoSaid'. A law counts once. -/
mutual
def uptoBulk {H : Type} : DataW H → Nat
  | .lit (.string bytes) => bytes.length + 1
  | .lit _ => 1
  | .nil => 1
  | .ptr d => uptoBulk d + 1
  | .slice elems spare => uptoBulkAll elems + uptoBulkAll spare + 1
  | .agg parts => uptoBulkAll parts + 1
  | .iface _ d => uptoBulk d + 1
  | .map entries => uptoBulkEntries entries + 1
  | .held _ => 1
def uptoBulkAll {H : Type} : List (DataW H) → Nat
  | [] => 0
  | d :: r => uptoBulk d + uptoBulkAll r
def uptoBulkEntries {H : Type} : List (Lit × DataW H) → Nat
  | [] => 0
  | x :: r => uptoBulkEntry x + uptoBulkEntries r
def uptoBulkEntry {H : Type} : Lit × DataW H → Nat
  | (.string bytes, d) => bytes.length + uptoBulk d + 1
  | (_, d) => uptoBulk d + 1
 end
def uptoSmall : (H : Type) → List (DataW H) → Bool := fun _ ds => decide (uptoBulkAll ds ≤ 1048576)
def OpenSpec.upto (s : _root_.Go.ChangeSpec) : _root_.Go.OpenSpec := { _root_.Go.OpenSpec.ofChange s with cond := some uptoSmall }

/-- 'bautalaw36.BddActs', WHERE WHAT IT READS IS OF BULK AT MOST 1048576: true; the input reads as it did. -/
def bddActsUptoRow : OpenClaim := { program := "ytialbhkamlfccaa", sum := "8eec4818a0b73d9f1639762b38d0fe55949485d22a16c9f2230c3099e37c81c8", func := "bauta/bautalaw36.BddActs", spec := "bddActs", recurses := true, plainKeys := false, apart := false, narrowed := true }
def BddActsUptoSaid : Prop := bddActsUptoRow.holds Try.pinned (OpenSpec.upto bddActsSpec)

/-- 'bautalaw36.BddLooks', WHERE WHAT IT READS IS OF BULK AT MOST 1048576: true; the input reads as it did. -/
def bddLooksUptoRow : OpenClaim := { program := "ytialbhkamlfccaa", sum := "8eec4818a0b73d9f1639762b38d0fe55949485d22a16c9f2230c3099e37c81c8", func := "bauta/bautalaw36.BddLooks", spec := "bddLooks", recurses := true, plainKeys := false, apart := false, narrowed := true }
def BddLooksUptoSaid : Prop := bddLooksUptoRow.holds Try.pinned (OpenSpec.upto bddLooksSpec)

/-- 'bautalaw36.BddFull', WHERE WHAT IT READS IS OF BULK AT MOST 1048576: true; the input reads as it did. -/
def bddFullUptoRow : OpenClaim := { program := "ytialbhkamlfccaa", sum := "8eec4818a0b73d9f1639762b38d0fe55949485d22a16c9f2230c3099e37c81c8", func := "bauta/bautalaw36.BddFull", spec := "bddFull", recurses := true, plainKeys := false, apart := false, narrowed := true }
def BddFullUptoSaid : Prop := bddFullUptoRow.holds Try.pinned (OpenSpec.upto bddFullSpec)

/-- 'bautalaw36.BddLaws', WHERE WHAT IT READS IS OF BULK AT MOST 1048576: true; the input reads as it did. -/
def bddLawsUptoRow : OpenClaim := { program := "ytialbhkamlfccaa", sum := "8eec4818a0b73d9f1639762b38d0fe55949485d22a16c9f2230c3099e37c81c8", func := "bauta/bautalaw36.BddLaws", spec := "bddLaws", recurses := true, plainKeys := false, apart := false, narrowed := true }
def BddLawsUptoSaid : Prop := bddLawsUptoRow.holds Try.pinned (OpenSpec.upto bddLawsSpec)

end Rows
end Go.Proofs.Ytialbhkamlfccaa
