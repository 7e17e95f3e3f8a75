/- A slice of cells (a name, a number) as an argument of a law. Conditions: those that each theorem states. -/
import Derived.Test.YtimhllaahihhgaaPFx0
import Derived.Deep.SlicePairs
import Derived.SizedLaws
namespace Go.Proofs.Ytimhllaahihhgaa.CellArg
open Go.RowKit Go.ChangeShapes Go.WideShapes Go.Proofs.YtimhllaahihhgaaW.PrintWords Go.Proofs.Ytimhllaahihhgaa.PF
theorem under26 : ∃ f0 f1 : Field, Try.prog.underlying 26 = some (.struct #[f0, f1]) ∧ f0.offset = 0 ∧ f1.offset = 1 ∧ f0.type = 9 ∧ f1.type = 3 := ⟨_, _, Try.underlying26, rfl, rfl, rfl, rfl⟩
theorem open_cells {H : Type} {enc : TypeId × Value → H} {W : World} {held : Bool} {a : Option Addr} {len cap : Nat} {d : DataW H} {ps : List MemPlace} {ts : List TypeId} {ds : List (DataW H)} {j : Nat}
    (hsz : (DataW.weightsEach Try.prog ts ds).all (· ≤ reachBytes) = true) (ht : ts[j]? = some 22) (hd : ds[j]? = some d)
    (h : DataW.Trod enc Try.prog W 0 (fun _ => true) held 22 (.slice a len cap) d ps) :
    ∃ l : List S26, l.length = len ∧ len ≤ cap ∧ len * 24 ≤ 140737488351232 ∧ Kd.C k26 W a len l ∧ (∀ c ∈ l, (Lit.int .i64 c.f1).wf = true) := by
  obtain ⟨f0, f1, h26, o0, o1, t0, t1⟩ := under26
  obtain ⟨fuel, hf⟩ := h
  rcases Go.Deep.open_slice_pairs Try.underlying22 h26 (by kernel_rfl) o0 o1 (by rw [t0]; kernel_rfl) (by rw [t1]; kernel_rfl) hf with ⟨hcs, _⟩ | ⟨x, l, c, m, n, V0, V1, D0, D1, P0, P1, hcs, _, hl, hm, hmm, hx, hall⟩
  · simp [Value.cells] at hcs
    obtain ⟨rfl, rfl, rfl⟩ := hcs
    exact ⟨[], rfl, Nat.le_refl _, by omega, ⟨rfl, by decide, fun h => absurd h (by decide)⟩, fun c hc => by cases hc⟩
  · simp [Value.cells] at hcs
    obtain ⟨rfl, rfl, rfl⟩ := hcs
    simp only [if_true] at hmm
    have hlm : len ≤ m := by omega
    have each : ∀ i, i < len → ∃ q : S26, W.cell? (x.add (i * 2)) = some (.string q.f0) ∧ W.cell? (x.add (i * 2 + 1)) = some (.int .i64 q.f1) ∧ (Lit.int .i64 q.f1).wf = true := by
      intro i hi
      obtain ⟨c0, c1, r0, r1⟩ := hall i (by omega)
      rw [t0] at r0
      rw [t1] at r1
      obtain ⟨s, hs, _, _⟩ := DataW.trod_string Try.underlying9 r0
      obtain ⟨z, hz, _, hzw⟩ := DataW.trod_int Try.underlying3 r1
      have e0 : V0 i = .string s := by simpa using hs
      have e1 : V1 i = .int .i64 z := by simpa using hz
      exact ⟨⟨s, z⟩, by rw [c0, e0], by rw [c1, e1], hzw⟩
    have : Inhabited S26 := ⟨z26⟩
    obtain ⟨f, hf2⟩ := Go.Deep.choose_lt each
    have hl2 : ((List.range len).map f).length = len := by simp
    have hb : len * 24 ≤ 140737488351232 := by
      obtain ⟨hx1, _⟩ := Prod.mk.inj hx
      subst hx1
      have z := sized_slice hsz ht hd Try.underlying22
      rw [show Try.prog.bytesOf 26 = 24 by kernel_rfl] at z
      simp only [List.length_map, List.length_range] at z
      have z2 : (len + (m - len)) * 24 ≤ 140737488351232 := z
      omega
    refine ⟨(List.range len).map f, hl2, hl, hb, ⟨hl2, by omega, fun _ => ⟨x, rfl, fun j p hj => ?_⟩⟩, fun c hc => ?_⟩
    · obtain ⟨hj1, hj2⟩ := List.getElem?_eq_some_iff.mp hj
      have hjl : j < len := by simpa using hj1
      rw [List.getElem_map, List.getElem_range] at hj2
      subst hj2
      obtain ⟨g0, g1, _⟩ := hf2 j hjl
      refine ⟨[.string (f j).f0, .int .i64 (f j).f1], rfl, ⟨[.string (f j).f0], [.int .i64 (f j).f1], rfl, rfl, rfl⟩, fun i u hu => ?_⟩
      match i, hu with
      | 0, hu => rw [← hu]; exact g0
      | 1, hu => rw [← hu]; exact g1
      | (i + 2), hu => simp at hu
    · obtain ⟨j, hj, rfl⟩ := List.mem_map.mp hc
      exact (hf2 j (by simpa using hj)).2.2
end Go.Proofs.Ytimhllaahihhgaa.CellArg
