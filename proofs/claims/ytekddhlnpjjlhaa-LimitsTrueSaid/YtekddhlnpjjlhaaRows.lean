/-
  No cell of these rows narrows 'for every input' (looked for: loops, veiled, ifaces, maps, wideKeys, modest, calm, conditions, laid).
  DERIVED. THE GIVEN ROWS OF THIS SEAT. 4 by the template 'for every input the law returns true; each argument reads behind the call as it read before'; 0 by the template 'total and deterministic' (their statements: YtekddhlnpjjlhaaTotals.lean).
  GIVEN WITH THE SEED: the statements are not yours to turn. If you find one false, say at which input.
  Laid BY PROGRAM, IN A SANDBOX (cutbox-rows.mjs): the forced cells as the released guide's own fill.sh prints them over the translation 76dfe42bdf501ab1… (all of the seat's roots in one cut). By AI agents, Wed Nov 11 2026. No macro, syntax, notation, axiom, sorry.
-/
import Derived.Test.YtekddhlnpjjlhaaChecked
import GoSem.Claim
import GoSem.ClaimJoined
import GoSem.ClaimMapViews
import Derived.JoinedTies
import Derived.KernelRfl
namespace Go.Proofs.Ytekddhlnpjjlhaa
/- THE CELL 'sum', in the pinned program and in every row, IS THE sha256 OF THE DUMP (.gsa) THAT YtekddhlnpjjlhaaProg.lean LOADS. Nothing in Lean hashes anything: it is a label: what it is worth is what the hold of that sum in a sandbox is worth. -/
noncomputable def Try.pinned : Pinned := { name := "ytekddhlnpjjlhaa", sum := "76dfe42bdf501ab1d2cc1389262322d7a90a705dfc84bf4e30772e2ee75fd5ad", checked := Try.checked }
namespace Rows
def none {H : Type} : Left H := { results := [], args := [] }

/-- 'bautalaw27.LimitsRandom': WHATEVER THE INPUT: true; the input reads as it did. -/
def limitsRandomSpec : ChangeSpec := { name := "limitsRandom", fn := fun _ => fun
  | [d1, d2] => { results := [.lit (.bool true)], args := [d1, d2] }
  | _ => none }
def limitsRandomRow : OpenClaim := { program := "ytekddhlnpjjlhaa", sum := "76dfe42bdf501ab1d2cc1389262322d7a90a705dfc84bf4e30772e2ee75fd5ad", func := "bauta/bautalaw27.LimitsRandom", spec := "limitsRandom", apart := false }
def LimitsRandomSaid : Prop := limitsRandomRow.holds Try.pinned (OpenSpec.ofChange limitsRandomSpec)

/-- ITS FALSE NEIGHBOUR: 'it returns false'. Refute it at one input. -/
def limitsRandomWrong : ChangeSpec := { name := "limitsRandom", fn := fun _ => fun
  | [d1, d2] => { results := [.lit (.bool false)], args := [d1, d2] }
  | _ => none }
def LimitsRandomWrongFalsely : Prop := limitsRandomRow.holds Try.pinned (OpenSpec.ofChange limitsRandomWrong)

/-- 'bautalaw27.LimitsFits': WHATEVER THE INPUT: true; the input reads as it did. -/
def limitsFitsSpec : ChangeSpec := { name := "limitsFits", fn := fun _ => fun
  | [d1, d2] => { results := [.lit (.bool true)], args := [d1, d2] }
  | _ => none }
def limitsFitsRow : OpenClaim := { program := "ytekddhlnpjjlhaa", sum := "76dfe42bdf501ab1d2cc1389262322d7a90a705dfc84bf4e30772e2ee75fd5ad", func := "bauta/bautalaw27.LimitsFits", spec := "limitsFits", apart := false }
def LimitsFitsSaid : Prop := limitsFitsRow.holds Try.pinned (OpenSpec.ofChange limitsFitsSpec)

/-- ITS FALSE NEIGHBOUR: 'it returns false'. Refute it at one input. -/
def limitsFitsWrong : ChangeSpec := { name := "limitsFits", fn := fun _ => fun
  | [d1, d2] => { results := [.lit (.bool false)], args := [d1, d2] }
  | _ => none }
def LimitsFitsWrongFalsely : Prop := limitsFitsRow.holds Try.pinned (OpenSpec.ofChange limitsFitsWrong)

/-- 'bautalaw27.LimitsBound': WHATEVER THE INPUT: true; the input reads as it did. -/
def limitsBoundSpec : ChangeSpec := { name := "limitsBound", fn := fun _ => fun
  | [d1, d2] => { results := [.lit (.bool true)], args := [d1, d2] }
  | _ => none }
def limitsBoundRow : OpenClaim := { program := "ytekddhlnpjjlhaa", sum := "76dfe42bdf501ab1d2cc1389262322d7a90a705dfc84bf4e30772e2ee75fd5ad", func := "bauta/bautalaw27.LimitsBound", spec := "limitsBound", apart := false }
def LimitsBoundSaid : Prop := limitsBoundRow.holds Try.pinned (OpenSpec.ofChange limitsBoundSpec)

/-- ITS FALSE NEIGHBOUR: 'it returns false'. Refute it at one input. -/
def limitsBoundWrong : ChangeSpec := { name := "limitsBound", fn := fun _ => fun
  | [d1, d2] => { results := [.lit (.bool false)], args := [d1, d2] }
  | _ => none }
def LimitsBoundWrongFalsely : Prop := limitsBoundRow.holds Try.pinned (OpenSpec.ofChange limitsBoundWrong)

/-- 'bautalaw27.LimitsTrue': WHATEVER THE INPUT: true; the input reads as it did. -/
def limitsTrueSpec : ChangeSpec := { name := "limitsTrue", fn := fun _ => fun
  | [d1, d2] => { results := [.lit (.bool true)], args := [d1, d2] }
  | _ => none }
def limitsTrueRow : OpenClaim := { program := "ytekddhlnpjjlhaa", sum := "76dfe42bdf501ab1d2cc1389262322d7a90a705dfc84bf4e30772e2ee75fd5ad", func := "bauta/bautalaw27.LimitsTrue", spec := "limitsTrue", apart := false }
def LimitsTrueSaid : Prop := limitsTrueRow.holds Try.pinned (OpenSpec.ofChange limitsTrueSpec)

/-- ITS FALSE NEIGHBOUR: 'it returns false'. Refute it at one input. -/
def limitsTrueWrong : ChangeSpec := { name := "limitsTrue", fn := fun _ => fun
  | [d1, d2] => { results := [.lit (.bool false)], args := [d1, d2] }
  | _ => none }
def LimitsTrueWrongFalsely : Prop := limitsTrueRow.holds Try.pinned (OpenSpec.ofChange limitsTrueWrong)

/- THE SECOND FORM. 'bulk': how many values and letters a reading holds, each counted each time it is reached (what is shared counts as often as it is met; a slice's spare places count too). A statement '..UptoSaid' is the law's where the arguments, and the package variables that the reading takes, are together of bulk at most 1048576: NARROWER than '..Said'. Prove '..Said' where nothing that the law and all that it calls make is longer than what came in: it says more and counts as full. Else prove '..UptoSaid'. A law counts once. -/
mutual
def uptoBulk {H : Type} : DataW H → Nat
  | .lit (.string bytes) => bytes.length + 1
  | .lit _ => 1
  | .nil => 1
  | .ptr d => uptoBulk d + 1
  | .slice elems spare => uptoBulkAll elems + uptoBulkAll spare + 1
  | .agg parts => uptoBulkAll parts + 1
  | .iface _ d => uptoBulk d + 1
  | .map entries => uptoBulkEntries entries + 1
  | .held _ => 1
def uptoBulkAll {H : Type} : List (DataW H) → Nat
  | [] => 0
  | d :: r => uptoBulk d + uptoBulkAll r
def uptoBulkEntries {H : Type} : List (Lit × DataW H) → Nat
  | [] => 0
  | x :: r => uptoBulkEntry x + uptoBulkEntries r
def uptoBulkEntry {H : Type} : Lit × DataW H → Nat
  | (.string bytes, d) => bytes.length + uptoBulk d + 1
  | (_, d) => uptoBulk d + 1
 end
def uptoSmall : (H : Type) → List (DataW H) → Bool := fun _ ds => decide (uptoBulkAll ds ≤ 1048576)
def OpenSpec.upto (s : _root_.Go.ChangeSpec) : _root_.Go.OpenSpec := { _root_.Go.OpenSpec.ofChange s with cond := some uptoSmall }

/-- 'bautalaw27.LimitsRandom', WHERE WHAT IT READS IS OF BULK AT MOST 1048576: true; the input reads as it did. -/
def limitsRandomUptoRow : OpenClaim := { program := "ytekddhlnpjjlhaa", sum := "76dfe42bdf501ab1d2cc1389262322d7a90a705dfc84bf4e30772e2ee75fd5ad", func := "bauta/bautalaw27.LimitsRandom", spec := "limitsRandom", apart := false, narrowed := true }
def LimitsRandomUptoSaid : Prop := limitsRandomUptoRow.holds Try.pinned (OpenSpec.upto limitsRandomSpec)

/-- 'bautalaw27.LimitsFits', WHERE WHAT IT READS IS OF BULK AT MOST 1048576: true; the input reads as it did. -/
def limitsFitsUptoRow : OpenClaim := { program := "ytekddhlnpjjlhaa", sum := "76dfe42bdf501ab1d2cc1389262322d7a90a705dfc84bf4e30772e2ee75fd5ad", func := "bauta/bautalaw27.LimitsFits", spec := "limitsFits", apart := false, narrowed := true }
def LimitsFitsUptoSaid : Prop := limitsFitsUptoRow.holds Try.pinned (OpenSpec.upto limitsFitsSpec)

/-- 'bautalaw27.LimitsBound', WHERE WHAT IT READS IS OF BULK AT MOST 1048576: true; the input reads as it did. -/
def limitsBoundUptoRow : OpenClaim := { program := "ytekddhlnpjjlhaa", sum := "76dfe42bdf501ab1d2cc1389262322d7a90a705dfc84bf4e30772e2ee75fd5ad", func := "bauta/bautalaw27.LimitsBound", spec := "limitsBound", apart := false, narrowed := true }
def LimitsBoundUptoSaid : Prop := limitsBoundUptoRow.holds Try.pinned (OpenSpec.upto limitsBoundSpec)

/-- 'bautalaw27.LimitsTrue', WHERE WHAT IT READS IS OF BULK AT MOST 1048576: true; the input reads as it did. -/
def limitsTrueUptoRow : OpenClaim := { program := "ytekddhlnpjjlhaa", sum := "76dfe42bdf501ab1d2cc1389262322d7a90a705dfc84bf4e30772e2ee75fd5ad", func := "bauta/bautalaw27.LimitsTrue", spec := "limitsTrue", apart := false, narrowed := true }
def LimitsTrueUptoSaid : Prop := limitsTrueUptoRow.holds Try.pinned (OpenSpec.upto limitsTrueSpec)

end Rows
end Go.Proofs.Ytekddhlnpjjlhaa
