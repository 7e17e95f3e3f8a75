/-
  No cell of these rows narrows 'for every input' (looked for: loops, veiled, ifaces, maps, wideKeys, modest, calm, conditions, laid).
  DERIVED. THE GIVEN ROWS OF THIS SEAT. 5 by the template 'for every input the law returns true; each argument reads behind the call as it read before'; 0 by the template 'total and deterministic' (their statements: YtkcechbibabpjaaTotals.lean).
  GIVEN WITH THE SEED: the statements are not yours to turn. If you find one false, say at which input.
  Laid BY PROGRAM, IN A SANDBOX (cutbox-rows.mjs): the forced cells as the released guide's own fill.sh prints them over the translation 07e7e7899dafa529… (all of the seat's roots in one cut). By AI agents, Wed Nov 11 2026. No macro, syntax, notation, axiom, sorry.
-/
import Derived.Test.YtkcechbibabpjaaChecked
import GoSem.Claim
import GoSem.ClaimJoined
import GoSem.ClaimMapViews
import Derived.JoinedTies
import Derived.KernelRfl
namespace Go.Proofs.Ytkcechbibabpjaa
/- THE CELL 'sum', in the pinned program and in every row, IS THE sha256 OF THE DUMP (.gsa) THAT YtkcechbibabpjaaProg.lean LOADS. Nothing in Lean hashes anything: it is a label: what it is worth is what the hold of that sum in a sandbox is worth. -/
noncomputable def Try.pinned : Pinned := { name := "ytkcechbibabpjaa", sum := "07e7e7899dafa529c65fe5f42248e7aeba111088728b576cffb1888b84c45586", checked := Try.checked }
namespace Rows
def none {H : Type} : Left H := { results := [], args := [] }

/-- 'bautalaw38.TapeQuarters': WHATEVER THE INPUT: true; the input reads as it did. -/
def tapeQuartersSpec : ChangeSpec := { name := "tapeQuarters", fn := fun _ => fun
  | [d] => { results := [.lit (.bool true)], args := [d] }
  | _ => none }
def tapeQuartersRow : OpenClaim := { program := "ytkcechbibabpjaa", sum := "07e7e7899dafa529c65fe5f42248e7aeba111088728b576cffb1888b84c45586", func := "bauta/bautalaw38.TapeQuarters", spec := "tapeQuarters", apart := false }
def TapeQuartersSaid : Prop := tapeQuartersRow.holds Try.pinned (OpenSpec.ofChange tapeQuartersSpec)

/-- ITS FALSE NEIGHBOUR: 'it returns false'. Refute it at one input. -/
def tapeQuartersWrong : ChangeSpec := { name := "tapeQuarters", fn := fun _ => fun
  | [d] => { results := [.lit (.bool false)], args := [d] }
  | _ => none }
def TapeQuartersWrongFalsely : Prop := tapeQuartersRow.holds Try.pinned (OpenSpec.ofChange tapeQuartersWrong)

/-- 'bautalaw38.TapeBlocks': WHATEVER THE INPUT: true; the input reads as it did. -/
def tapeBlocksSpec : ChangeSpec := { name := "tapeBlocks", fn := fun _ => fun
  | [d1, d2, d3] => { results := [.lit (.bool true)], args := [d1, d2, d3] }
  | _ => none }
def tapeBlocksRow : OpenClaim := { program := "ytkcechbibabpjaa", sum := "07e7e7899dafa529c65fe5f42248e7aeba111088728b576cffb1888b84c45586", func := "bauta/bautalaw38.TapeBlocks", spec := "tapeBlocks", apart := false }
def TapeBlocksSaid : Prop := tapeBlocksRow.holds Try.pinned (OpenSpec.ofChange tapeBlocksSpec)

/-- ITS FALSE NEIGHBOUR: 'it returns false'. Refute it at one input. -/
def tapeBlocksWrong : ChangeSpec := { name := "tapeBlocks", fn := fun _ => fun
  | [d1, d2, d3] => { results := [.lit (.bool false)], args := [d1, d2, d3] }
  | _ => none }
def TapeBlocksWrongFalsely : Prop := tapeBlocksRow.holds Try.pinned (OpenSpec.ofChange tapeBlocksWrong)

/-- 'bautalaw38.TapeWords': WHATEVER THE INPUT: true; the input reads as it did. -/
def tapeWordsSpec : ChangeSpec := { name := "tapeWords", fn := fun _ => fun
  | [d1, d2] => { results := [.lit (.bool true)], args := [d1, d2] }
  | _ => none }
def tapeWordsRow : OpenClaim := { program := "ytkcechbibabpjaa", sum := "07e7e7899dafa529c65fe5f42248e7aeba111088728b576cffb1888b84c45586", func := "bauta/bautalaw38.TapeWords", spec := "tapeWords", apart := false }
def TapeWordsSaid : Prop := tapeWordsRow.holds Try.pinned (OpenSpec.ofChange tapeWordsSpec)

/-- ITS FALSE NEIGHBOUR: 'it returns false'. Refute it at one input. -/
def tapeWordsWrong : ChangeSpec := { name := "tapeWords", fn := fun _ => fun
  | [d1, d2] => { results := [.lit (.bool false)], args := [d1, d2] }
  | _ => none }
def TapeWordsWrongFalsely : Prop := tapeWordsRow.holds Try.pinned (OpenSpec.ofChange tapeWordsWrong)

/-- 'bautalaw38.TapeParts': WHATEVER THE INPUT: true; the input reads as it did. -/
def tapePartsSpec : ChangeSpec := { name := "tapeParts", fn := fun _ => fun
  | [d1, d2, d3] => { results := [.lit (.bool true)], args := [d1, d2, d3] }
  | _ => none }
def tapePartsRow : OpenClaim := { program := "ytkcechbibabpjaa", sum := "07e7e7899dafa529c65fe5f42248e7aeba111088728b576cffb1888b84c45586", func := "bauta/bautalaw38.TapeParts", spec := "tapeParts", apart := false }
def TapePartsSaid : Prop := tapePartsRow.holds Try.pinned (OpenSpec.ofChange tapePartsSpec)

/-- ITS FALSE NEIGHBOUR: 'it returns false'. Refute it at one input. -/
def tapePartsWrong : ChangeSpec := { name := "tapeParts", fn := fun _ => fun
  | [d1, d2, d3] => { results := [.lit (.bool false)], args := [d1, d2, d3] }
  | _ => none }
def TapePartsWrongFalsely : Prop := tapePartsRow.holds Try.pinned (OpenSpec.ofChange tapePartsWrong)

/-- 'bautalaw38.TapeXors': WHATEVER THE INPUT: true; the input reads as it did. -/
def tapeXorsSpec : ChangeSpec := { name := "tapeXors", fn := fun _ => fun
  | [d1, d2] => { results := [.lit (.bool true)], args := [d1, d2] }
  | _ => none }
def tapeXorsRow : OpenClaim := { program := "ytkcechbibabpjaa", sum := "07e7e7899dafa529c65fe5f42248e7aeba111088728b576cffb1888b84c45586", func := "bauta/bautalaw38.TapeXors", spec := "tapeXors", apart := false }
def TapeXorsSaid : Prop := tapeXorsRow.holds Try.pinned (OpenSpec.ofChange tapeXorsSpec)

/-- ITS FALSE NEIGHBOUR: 'it returns false'. Refute it at one input. -/
def tapeXorsWrong : ChangeSpec := { name := "tapeXors", fn := fun _ => fun
  | [d1, d2] => { results := [.lit (.bool false)], args := [d1, d2] }
  | _ => none }
def TapeXorsWrongFalsely : Prop := tapeXorsRow.holds Try.pinned (OpenSpec.ofChange tapeXorsWrong)

/- THE SECOND FORM. 'bulk': how many values and letters a reading holds, each counted each time it is reached (what is shared counts as often as it is met; a slice's spare places count too). A statement '..UptoSaid' is the law's where the arguments, and the package variables that the reading takes, are together of bulk at most 1048576: NARROWER than '..Said'. Prove '..Said' where nothing that the law and all that it calls make is longer than what came in: it says more and counts as full. Else prove '..UptoSaid'. A law counts once. -/
mutual
def uptoBulk {H : Type} : DataW H → Nat
  | .lit (.string bytes) => bytes.length + 1
  | .lit _ => 1
  | .nil => 1
  | .ptr d => uptoBulk d + 1
  | .slice elems spare => uptoBulkAll elems + uptoBulkAll spare + 1
  | .agg parts => uptoBulkAll parts + 1
  | .iface _ d => uptoBulk d + 1
  | .map entries => uptoBulkEntries entries + 1
  | .held _ => 1
def uptoBulkAll {H : Type} : List (DataW H) → Nat
  | [] => 0
  | d :: r => uptoBulk d + uptoBulkAll r
def uptoBulkEntries {H : Type} : List (Lit × DataW H) → Nat
  | [] => 0
  | x :: r => uptoBulkEntry x + uptoBulkEntries r
def uptoBulkEntry {H : Type} : Lit × DataW H → Nat
  | (.string bytes, d) => bytes.length + uptoBulk d + 1
  | (_, d) => uptoBulk d + 1
 end
def uptoSmall : (H : Type) → List (DataW H) → Bool := fun _ ds => decide (uptoBulkAll ds ≤ 1048576)
def OpenSpec.upto (s : _root_.Go.ChangeSpec) : _root_.Go.OpenSpec := { _root_.Go.OpenSpec.ofChange s with cond := some uptoSmall }

/-- 'bautalaw38.TapeQuarters', WHERE WHAT IT READS IS OF BULK AT MOST 1048576: true; the input reads as it did. -/
def tapeQuartersUptoRow : OpenClaim := { program := "ytkcechbibabpjaa", sum := "07e7e7899dafa529c65fe5f42248e7aeba111088728b576cffb1888b84c45586", func := "bauta/bautalaw38.TapeQuarters", spec := "tapeQuarters", apart := false, narrowed := true }
def TapeQuartersUptoSaid : Prop := tapeQuartersUptoRow.holds Try.pinned (OpenSpec.upto tapeQuartersSpec)

/-- 'bautalaw38.TapeBlocks', WHERE WHAT IT READS IS OF BULK AT MOST 1048576: true; the input reads as it did. -/
def tapeBlocksUptoRow : OpenClaim := { program := "ytkcechbibabpjaa", sum := "07e7e7899dafa529c65fe5f42248e7aeba111088728b576cffb1888b84c45586", func := "bauta/bautalaw38.TapeBlocks", spec := "tapeBlocks", apart := false, narrowed := true }
def TapeBlocksUptoSaid : Prop := tapeBlocksUptoRow.holds Try.pinned (OpenSpec.upto tapeBlocksSpec)

/-- 'bautalaw38.TapeWords', WHERE WHAT IT READS IS OF BULK AT MOST 1048576: true; the input reads as it did. -/
def tapeWordsUptoRow : OpenClaim := { program := "ytkcechbibabpjaa", sum := "07e7e7899dafa529c65fe5f42248e7aeba111088728b576cffb1888b84c45586", func := "bauta/bautalaw38.TapeWords", spec := "tapeWords", apart := false, narrowed := true }
def TapeWordsUptoSaid : Prop := tapeWordsUptoRow.holds Try.pinned (OpenSpec.upto tapeWordsSpec)

/-- 'bautalaw38.TapeParts', WHERE WHAT IT READS IS OF BULK AT MOST 1048576: true; the input reads as it did. -/
def tapePartsUptoRow : OpenClaim := { program := "ytkcechbibabpjaa", sum := "07e7e7899dafa529c65fe5f42248e7aeba111088728b576cffb1888b84c45586", func := "bauta/bautalaw38.TapeParts", spec := "tapeParts", apart := false, narrowed := true }
def TapePartsUptoSaid : Prop := tapePartsUptoRow.holds Try.pinned (OpenSpec.upto tapePartsSpec)

/-- 'bautalaw38.TapeXors', WHERE WHAT IT READS IS OF BULK AT MOST 1048576: true; the input reads as it did. -/
def tapeXorsUptoRow : OpenClaim := { program := "ytkcechbibabpjaa", sum := "07e7e7899dafa529c65fe5f42248e7aeba111088728b576cffb1888b84c45586", func := "bauta/bautalaw38.TapeXors", spec := "tapeXors", apart := false, narrowed := true }
def TapeXorsUptoSaid : Prop := tapeXorsUptoRow.holds Try.pinned (OpenSpec.upto tapeXorsSpec)

end Rows
end Go.Proofs.Ytkcechbibabpjaa
