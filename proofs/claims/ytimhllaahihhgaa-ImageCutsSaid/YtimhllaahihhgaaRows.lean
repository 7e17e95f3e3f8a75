/-
  No cell of these rows narrows 'for every input' (looked for: loops, veiled, ifaces, maps, wideKeys, modest, calm, conditions, laid).
  DERIVED. THE GIVEN ROWS OF THIS SEAT. 5 by the template 'for every input the law returns true; each argument reads behind the call as it read before'; 0 by the template 'total and deterministic' (their statements: YtimhllaahihhgaaTotals.lean).
  GIVEN WITH THE SEED: the statements are not yours to turn. If you find one false, say at which input.
  Laid BY PROGRAM, IN A SANDBOX (cutbox-rows.mjs): the forced cells as the released guide's own fill.sh prints them over the translation f668bfde29b10308… (all of the seat's roots in one cut). By AI agents, Wed Nov 11 2026. No macro, syntax, notation, axiom, sorry.
-/
import Derived.Test.YtimhllaahihhgaaChecked
import GoSem.Claim
import GoSem.ClaimJoined
import GoSem.ClaimMapViews
import Derived.JoinedTies
import Derived.KernelRfl
namespace Go.Proofs.Ytimhllaahihhgaa
/- THE CELL 'sum', in the pinned program and in every row, IS THE sha256 OF THE DUMP (.gsa) THAT YtimhllaahihhgaaProg.lean LOADS. Nothing in Lean hashes anything: it is a label: what it is worth is what the hold of that sum in a sandbox is worth. -/
noncomputable def Try.pinned : Pinned := { name := "ytimhllaahihhgaa", sum := "f668bfde29b10308a87fcccbcfb88f4c3b6471cc2110dc66fffa8d794387f4f4", checked := Try.checked }
namespace Rows
def none {H : Type} : Left H := { results := [], args := [] }

/-- 'bautalaw03.ImageFinds': WHATEVER THE INPUT: true; the input reads as it did. -/
def imageFindsSpec : ChangeSpec := { name := "imageFinds", fn := fun _ => fun
  | [d1, d2] => { results := [.lit (.bool true)], args := [d1, d2] }
  | _ => none }
def imageFindsRow : OpenClaim := { program := "ytimhllaahihhgaa", sum := "f668bfde29b10308a87fcccbcfb88f4c3b6471cc2110dc66fffa8d794387f4f4", func := "bauta/bautalaw03.ImageFinds", spec := "imageFinds", unfollowed := true, recurses := true, apart := false }
def ImageFindsSaid : Prop := imageFindsRow.holds Try.pinned (OpenSpec.ofChange imageFindsSpec)

/-- ITS FALSE NEIGHBOUR: 'it returns false'. Refute it at one input. -/
def imageFindsWrong : ChangeSpec := { name := "imageFinds", fn := fun _ => fun
  | [d1, d2] => { results := [.lit (.bool false)], args := [d1, d2] }
  | _ => none }
def ImageFindsWrongFalsely : Prop := imageFindsRow.holds Try.pinned (OpenSpec.ofChange imageFindsWrong)

/-- 'bautalaw03.ImageWords': WHATEVER THE INPUT: true; the input reads as it did. -/
def imageWordsSpec : ChangeSpec := { name := "imageWords", fn := fun _ => fun
  | [d] => { results := [.lit (.bool true)], args := [d] }
  | _ => none }
def imageWordsRow : OpenClaim := { program := "ytimhllaahihhgaa", sum := "f668bfde29b10308a87fcccbcfb88f4c3b6471cc2110dc66fffa8d794387f4f4", func := "bauta/bautalaw03.ImageWords", spec := "imageWords", unfollowed := true, recurses := true, apart := false }
def ImageWordsSaid : Prop := imageWordsRow.holds Try.pinned (OpenSpec.ofChange imageWordsSpec)

/-- ITS FALSE NEIGHBOUR: 'it returns false'. Refute it at one input. -/
def imageWordsWrong : ChangeSpec := { name := "imageWords", fn := fun _ => fun
  | [d] => { results := [.lit (.bool false)], args := [d] }
  | _ => none }
def ImageWordsWrongFalsely : Prop := imageWordsRow.holds Try.pinned (OpenSpec.ofChange imageWordsWrong)

/-- 'bautalaw03.ImageTakes': WHATEVER THE INPUT: true; the input reads as it did. -/
def imageTakesSpec : ChangeSpec := { name := "imageTakes", fn := fun _ => fun
  | [d] => { results := [.lit (.bool true)], args := [d] }
  | _ => none }
def imageTakesRow : OpenClaim := { program := "ytimhllaahihhgaa", sum := "f668bfde29b10308a87fcccbcfb88f4c3b6471cc2110dc66fffa8d794387f4f4", func := "bauta/bautalaw03.ImageTakes", spec := "imageTakes", unfollowed := true, recurses := true, apart := false }
def ImageTakesSaid : Prop := imageTakesRow.holds Try.pinned (OpenSpec.ofChange imageTakesSpec)

/-- ITS FALSE NEIGHBOUR: 'it returns false'. Refute it at one input. -/
def imageTakesWrong : ChangeSpec := { name := "imageTakes", fn := fun _ => fun
  | [d] => { results := [.lit (.bool false)], args := [d] }
  | _ => none }
def ImageTakesWrongFalsely : Prop := imageTakesRow.holds Try.pinned (OpenSpec.ofChange imageTakesWrong)

/-- 'bautalaw03.ImageCuts': WHATEVER THE INPUT: true; the input reads as it did. -/
def imageCutsSpec : ChangeSpec := { name := "imageCuts", fn := fun _ => fun
  | [d1, d2, d3] => { results := [.lit (.bool true)], args := [d1, d2, d3] }
  | _ => none }
def imageCutsRow : OpenClaim := { program := "ytimhllaahihhgaa", sum := "f668bfde29b10308a87fcccbcfb88f4c3b6471cc2110dc66fffa8d794387f4f4", func := "bauta/bautalaw03.ImageCuts", spec := "imageCuts", unfollowed := true, recurses := true, apart := false }
def ImageCutsSaid : Prop := imageCutsRow.holds Try.pinned (OpenSpec.ofChange imageCutsSpec)

/-- ITS FALSE NEIGHBOUR: 'it returns false'. Refute it at one input. -/
def imageCutsWrong : ChangeSpec := { name := "imageCuts", fn := fun _ => fun
  | [d1, d2, d3] => { results := [.lit (.bool false)], args := [d1, d2, d3] }
  | _ => none }
def ImageCutsWrongFalsely : Prop := imageCutsRow.holds Try.pinned (OpenSpec.ofChange imageCutsWrong)

/-- 'bautalaw03.ImagePuts': WHATEVER THE INPUT: true; the input reads as it did. -/
def imagePutsSpec : ChangeSpec := { name := "imagePuts", fn := fun _ => fun
  | [d1, d2] => { results := [.lit (.bool true)], args := [d1, d2] }
  | _ => none }
def imagePutsRow : OpenClaim := { program := "ytimhllaahihhgaa", sum := "f668bfde29b10308a87fcccbcfb88f4c3b6471cc2110dc66fffa8d794387f4f4", func := "bauta/bautalaw03.ImagePuts", spec := "imagePuts", unfollowed := true, recurses := true, apart := false }
def ImagePutsSaid : Prop := imagePutsRow.holds Try.pinned (OpenSpec.ofChange imagePutsSpec)

/-- ITS FALSE NEIGHBOUR: 'it returns false'. Refute it at one input. -/
def imagePutsWrong : ChangeSpec := { name := "imagePuts", fn := fun _ => fun
  | [d1, d2] => { results := [.lit (.bool false)], args := [d1, d2] }
  | _ => none }
def ImagePutsWrongFalsely : Prop := imagePutsRow.holds Try.pinned (OpenSpec.ofChange imagePutsWrong)

/- THE SECOND FORM. 'bulk': how many values and letters a reading holds, each counted each time it is reached (what is shared counts as often as it is met; a slice's spare places count too). A statement '..UptoSaid' is the law's where the arguments, and the package variables that the reading takes, are together of bulk at most 1048576: NARROWER than '..Said'. Prove '..Said' where nothing that the law and all that it calls make is longer than what came in: it says more and counts as full. Else prove '..UptoSaid'. A law counts once. -/
mutual
def uptoBulk {H : Type} : DataW H → Nat
  | .lit (.string bytes) => bytes.length + 1
  | .lit _ => 1
  | .nil => 1
  | .ptr d => uptoBulk d + 1
  | .slice elems spare => uptoBulkAll elems + uptoBulkAll spare + 1
  | .agg parts => uptoBulkAll parts + 1
  | .iface _ d => uptoBulk d + 1
  | .map entries => uptoBulkEntries entries + 1
  | .held _ => 1
def uptoBulkAll {H : Type} : List (DataW H) → Nat
  | [] => 0
  | d :: r => uptoBulk d + uptoBulkAll r
def uptoBulkEntries {H : Type} : List (Lit × DataW H) → Nat
  | [] => 0
  | x :: r => uptoBulkEntry x + uptoBulkEntries r
def uptoBulkEntry {H : Type} : Lit × DataW H → Nat
  | (.string bytes, d) => bytes.length + uptoBulk d + 1
  | (_, d) => uptoBulk d + 1
 end
def uptoSmall : (H : Type) → List (DataW H) → Bool := fun _ ds => decide (uptoBulkAll ds ≤ 1048576)
def OpenSpec.upto (s : _root_.Go.ChangeSpec) : _root_.Go.OpenSpec := { _root_.Go.OpenSpec.ofChange s with cond := some uptoSmall }

/-- 'bautalaw03.ImageFinds', WHERE WHAT IT READS IS OF BULK AT MOST 1048576: true; the input reads as it did. -/
def imageFindsUptoRow : OpenClaim := { program := "ytimhllaahihhgaa", sum := "f668bfde29b10308a87fcccbcfb88f4c3b6471cc2110dc66fffa8d794387f4f4", func := "bauta/bautalaw03.ImageFinds", spec := "imageFinds", unfollowed := true, recurses := true, apart := false, narrowed := true }
def ImageFindsUptoSaid : Prop := imageFindsUptoRow.holds Try.pinned (OpenSpec.upto imageFindsSpec)

/-- 'bautalaw03.ImageWords', WHERE WHAT IT READS IS OF BULK AT MOST 1048576: true; the input reads as it did. -/
def imageWordsUptoRow : OpenClaim := { program := "ytimhllaahihhgaa", sum := "f668bfde29b10308a87fcccbcfb88f4c3b6471cc2110dc66fffa8d794387f4f4", func := "bauta/bautalaw03.ImageWords", spec := "imageWords", unfollowed := true, recurses := true, apart := false, narrowed := true }
def ImageWordsUptoSaid : Prop := imageWordsUptoRow.holds Try.pinned (OpenSpec.upto imageWordsSpec)

/-- 'bautalaw03.ImageTakes', WHERE WHAT IT READS IS OF BULK AT MOST 1048576: true; the input reads as it did. -/
def imageTakesUptoRow : OpenClaim := { program := "ytimhllaahihhgaa", sum := "f668bfde29b10308a87fcccbcfb88f4c3b6471cc2110dc66fffa8d794387f4f4", func := "bauta/bautalaw03.ImageTakes", spec := "imageTakes", unfollowed := true, recurses := true, apart := false, narrowed := true }
def ImageTakesUptoSaid : Prop := imageTakesUptoRow.holds Try.pinned (OpenSpec.upto imageTakesSpec)

/-- 'bautalaw03.ImageCuts', WHERE WHAT IT READS IS OF BULK AT MOST 1048576: true; the input reads as it did. -/
def imageCutsUptoRow : OpenClaim := { program := "ytimhllaahihhgaa", sum := "f668bfde29b10308a87fcccbcfb88f4c3b6471cc2110dc66fffa8d794387f4f4", func := "bauta/bautalaw03.ImageCuts", spec := "imageCuts", unfollowed := true, recurses := true, apart := false, narrowed := true }
def ImageCutsUptoSaid : Prop := imageCutsUptoRow.holds Try.pinned (OpenSpec.upto imageCutsSpec)

/-- 'bautalaw03.ImagePuts', WHERE WHAT IT READS IS OF BULK AT MOST 1048576: true; the input reads as it did. -/
def imagePutsUptoRow : OpenClaim := { program := "ytimhllaahihhgaa", sum := "f668bfde29b10308a87fcccbcfb88f4c3b6471cc2110dc66fffa8d794387f4f4", func := "bauta/bautalaw03.ImagePuts", spec := "imagePuts", unfollowed := true, recurses := true, apart := false, narrowed := true }
def ImagePutsUptoSaid : Prop := imagePutsUptoRow.holds Try.pinned (OpenSpec.upto imagePutsSpec)

end Rows
end Go.Proofs.Ytimhllaahihhgaa
