/- An argument that is a struct of a number and two slices of numbers: opened. No program in sight. -/
import Derived.WalkKit
import Derived.ProofKit
import Derived.OpenShut
import Derived.DataShut
import Derived.ChangeSlices
import Derived.ChangeArms
namespace Go.Proofs.Ytbohanoekboifaa.Arg
open Go.RowKit Go.ChangeShapes Go.WideShapes Go.ChangeAt
def IsRow (k : IntKind) (w : World) (a : Option Addr) (len cap : Nat) (zs : List Int) : Prop :=
  (a = none ∧ len = 0 ∧ cap = 0 ∧ zs = []) ∨
  ∃ x, a = some x ∧ len ≤ cap ∧ cap ≤ maxLen ∧ zs.length = cap ∧ (∀ i, i < zs.length → w.cell? (x.add i) = some (.int k (zs.getD i 0))) ∧ ∀ n ∈ zs, (Lit.int k n).wf = true

section
variable {H : Type} {enc : TypeId × Value → H} {P : Program} {w : World} {vb : Nat} {t ti ts : TypeId} {k : IntKind} {f0 f1 f2 : Field}

theorem row_of {n : Nat} {x : Value} {y : DataW H × List MemPlace} (hs : P.underlying ts = some (.slice ti)) (hi : P.underlying ti = some (.int k)) (hc : P.cellsOf ti = 1)
    (h : DataW.trod enc P w 0 (fun _ => true) true n ts [x] = some y) : ∃ a len cap zs, x = .slice a len cap ∧ IsRow k w a len cap zs := by
  rcases open_ints hs hi hc h with ⟨hcs, _⟩ | ⟨a, l, c, zs, hcs, _, hl, hm, hz, _, hcell, hwz⟩
  · injection hcs with h1
    exact ⟨none, 0, 0, [], h1, .inl ⟨rfl, rfl, rfl, rfl⟩⟩
  · injection hcs with h1
    exact ⟨some a, l, c, zs, h1, .inr ⟨a, rfl, hl, hm, by simpa using hz, hcell, hwz⟩⟩
theorem open_moments {v : Value} {d : DataW H} {p : List MemPlace} (ht : P.underlying t = some (.struct #[f0, f1, f2])) (e0 : f0.type = ti ∧ f0.offset = 0) (e1 : f1.type = ts ∧ f1.offset = 1) (e2 : f2.type = ts ∧ f2.offset = 2)
    (hs : P.underlying ts = some (.slice ti)) (hi : P.underlying ti = some (.int k)) (hc : P.cellsOf ti = 1) (hcs : P.cellsOf ts = 1) (hct : P.cellsOf t = 3)
    (hv : Value.okWide P w .any vb t v) (h : DataW.Trod enc P w 0 (fun _ => true) true t v d p) :
    ∃ a A1 n1 c1 z1 A2 n2 c2 z2, v = .agg #[.int k a, .slice A1 n1 c1, .slice A2 n2 c2] ∧ (Lit.int k a).wf = true ∧ IsRow k w A1 n1 c1 z1 ∧ IsRow k w A2 n2 c2 z2 := by
  obtain ⟨cs, rfl, hsz, _⟩ : ∃ cs, v = .agg cs ∧ cs.size = P.cellsOf t ∧ Row.okWide P w .any vb t cs := by
    have := hv
    simpa [Value.okWide, ht] using this
  obtain ⟨fuel, hf⟩ := h
  obtain ⟨xs, n, _, _, _, hlen, hfs⟩ := DataW.trod_struct ht hf
  rw [hct] at hsz
  obtain ⟨l⟩ := cs
  match l, hsz with
  | [x0, x1, x2], _ =>
    match xs, hlen with
    | [y0, y1, y2], _ =>
      have g0 := hfs 0 f0 rfl
      have g1 := hfs 1 f1 rfl
      have g2 := hfs 2 f2 rfl
      simp only [Value.cells] at g0 g1 g2
      rw [e0.1, e0.2, hc] at g0
      rw [e1.1, e1.2, hcs] at g1
      rw [e2.1, e2.2, hcs] at g2
      obtain ⟨a, ha, _, hw⟩ := DataW.trod_int hi (show DataW.trod enc P w 0 (fun _ => true) true n ti [x0] = some y0 from g0)
      obtain ⟨A1, n1, c1, z1, rfl, h1⟩ := row_of hs hi hc (show DataW.trod enc P w 0 (fun _ => true) true n ts [x1] = some y1 from g1)
      obtain ⟨A2, n2, c2, z2, rfl, h2⟩ := row_of hs hi hc (show DataW.trod enc P w 0 (fun _ => true) true n ts [x2] = some y2 from g2)
      injection ha with ha
      subst ha
      exact ⟨a, A1, n1, c1, z1, A2, n2, c2, z2, rfl, hw, h1, h2⟩
end
end Go.Proofs.Ytbohanoekboifaa.Arg
