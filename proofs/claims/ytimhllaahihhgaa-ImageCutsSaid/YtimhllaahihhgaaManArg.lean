/- A manifest (four numbers and three slices of cells) as an argument of a law. Conditions: those that each theorem states. -/
import Derived.Test.YtimhllaahihhgaaPAx0
import Derived.Deep.SlicePairs
import Derived.OpenShut
import Derived.DataShut
import Derived.ChangeSlices
import Derived.ChangeArms
namespace Go.Proofs.Ytimhllaahihhgaa.ManArg
open Go.RowKit Go.ChangeShapes Go.WideShapes Go.Proofs.YtimhllaahihhgaaW.PrintWords Go.Proofs.Ytimhllaahihhgaa.PA
theorem under26 : ∃ f0 f1 : Field, Try.prog.underlying 26 = some (.struct #[f0, f1]) ∧ f0.offset = 0 ∧ f1.offset = 1 ∧ f0.type = 9 ∧ f1.type = 3 := ⟨_, _, Try.underlying26, rfl, rfl, rfl, rfl⟩
theorem under36 : ∃ f0 f1 f2 f3 f4 f5 f6 : Field, Try.prog.underlying 36 = some (.struct #[f0, f1, f2, f3, f4, f5, f6]) ∧ (f0.type = 3 ∧ f0.offset = 0) ∧ (f1.type = 3 ∧ f1.offset = 1) ∧ (f2.type = 3 ∧ f2.offset = 2) ∧ (f3.type = 3 ∧ f3.offset = 3) ∧ (f4.type = 22 ∧ f4.offset = 4) ∧ (f5.type = 22 ∧ f5.offset = 5) ∧ (f6.type = 22 ∧ f6.offset = 6) :=
  ⟨_, _, _, _, _, _, _, Try.underlying36, ⟨rfl, rfl⟩, ⟨rfl, rfl⟩, ⟨rfl, rfl⟩, ⟨rfl, rfl⟩, ⟨rfl, rfl⟩, ⟨rfl, rfl⟩, ⟨rfl, rfl⟩⟩
section
variable {H : Type} {enc : TypeId × Value → H} {W : World}
theorem open_cells {held : Bool} {fuel : Nat} {v : Value} {y : DataW H × List MemPlace} (hf : DataW.trod enc Try.prog W 0 (fun _ => true) held fuel 22 [v] = some y) :
    ∃ (a : Option Addr) (cap : Nat) (l : List S26), v = .slice a l.length cap ∧ l.length ≤ cap ∧ Kd.C k26 W a l.length l := by
  obtain ⟨f0, f1, h26, o0, o1, t0, t1⟩ := under26
  rcases Go.Deep.open_slice_pairs Try.underlying22 h26 (by kernel_rfl) o0 o1 (by rw [t0]; kernel_rfl) (by rw [t1]; kernel_rfl) hf with ⟨hcs, _⟩ | ⟨x, len, c, m, n, V0, V1, D0, D1, P0, P1, hcs, _, hl, hm, hmm, hx, hall⟩
  · injection hcs with h1
    exact ⟨none, 0, [], h1, Nat.le_refl _, ⟨rfl, by decide, fun h => absurd h (by decide)⟩⟩
  · injection hcs with h1
    subst h1
    simp only [if_true] at hmm
    have hlm : len ≤ m := by omega
    have each : ∀ i, i < len → ∃ q : S26, W.cell? (x.add (i * 2)) = some (.string q.f0) ∧ W.cell? (x.add (i * 2 + 1)) = some (.int .i64 q.f1) := by
      intro i hi
      obtain ⟨c0, c1, r0, r1⟩ := hall i (by omega)
      rw [t0] at r0
      rw [t1] at r1
      obtain ⟨s, hs, _, _⟩ := DataW.trod_string Try.underlying9 r0
      obtain ⟨z, hz, _, hzw⟩ := DataW.trod_int Try.underlying3 r1
      have e0 : V0 i = .string s := by simpa using hs
      have e1 : V1 i = .int .i64 z := by simpa using hz
      exact ⟨⟨s, z⟩, by rw [c0, e0], by rw [c1, e1]⟩
    have : Inhabited S26 := ⟨z26⟩
    obtain ⟨f, hf2⟩ := Go.Deep.choose_lt each
    have hl2 : ((List.range len).map f).length = len := by simp
    refine ⟨some x, c, (List.range len).map f, by rw [hl2], by rw [hl2]; exact hl, ?_⟩
    rw [hl2]
    refine ⟨hl2, by have h9 : c ≤ 9223372036854775807 := hm; omega, fun _ => ⟨x, rfl, fun j p hj => ?_⟩⟩
    obtain ⟨hj1, hj2⟩ := List.getElem?_eq_some_iff.mp hj
    have hjl : j < len := by simpa using hj1
    rw [List.getElem_map, List.getElem_range] at hj2
    subst hj2
    obtain ⟨g0, g1⟩ := hf2 j hjl
    refine ⟨[.string (f j).f0, .int .i64 (f j).f1], rfl, ⟨[.string (f j).f0], [.int .i64 (f j).f1], rfl, rfl, rfl⟩, fun i u hu => ?_⟩
    match i, hu with
    | 0, hu => rw [← hu]; exact g0
    | 1, hu => rw [← hu]; exact g1
    | (i + 2), hu => simp at hu
theorem open_man {vb : Nat} {v : Value} {d : DataW H} {p : List MemPlace} (hv : Value.okWide Try.prog W .any vb 36 v) (h : DataW.Trod enc Try.prog W 0 (fun _ => true) true 36 v d p) :
    ∃ (a0 a1 a2 a3 : Int) (A4 : Option Addr) (c4 : Nat) (l4 : List S26) (A5 : Option Addr) (c5 : Nat) (l5 : List S26) (A6 : Option Addr) (c6 : Nat) (l6 : List S26),
      v = .agg #[.int .i64 a0, .int .i64 a1, .int .i64 a2, .int .i64 a3, .slice A4 l4.length c4, .slice A5 l5.length c5, .slice A6 l6.length c6] ∧
      (Kd.C k26 W A4 l4.length l4 ∧ l4.length ≤ c4) ∧ (Kd.C k26 W A5 l5.length l5 ∧ l5.length ≤ c5) ∧ (Kd.C k26 W A6 l6.length l6 ∧ l6.length ≤ c6) := by
  obtain ⟨f0, f1, f2, f3, f4, f5, f6, ht, e0, e1, e2, e3, e4, e5, e6⟩ := under36
  have c3 : Try.prog.cellsOf 3 = 1 := by kernel_rfl
  have c22 : Try.prog.cellsOf 22 = 1 := by kernel_rfl
  have c36 : Try.prog.cellsOf 36 = 7 := by kernel_rfl
  obtain ⟨cs, rfl, hsz, _⟩ : ∃ cs, v = .agg cs ∧ cs.size = Try.prog.cellsOf 36 ∧ Row.okWide Try.prog W .any vb 36 cs := by
    have := hv
    simpa [Value.okWide, ht] using this
  obtain ⟨fuel, hf⟩ := h
  obtain ⟨xs, n, _, _, _, hlen, hfs⟩ := DataW.trod_struct ht hf
  rw [c36] at hsz
  obtain ⟨l⟩ := cs
  match l, hsz with
  | [x0, x1, x2, x3, x4, x5, x6], _ =>
    match xs, hlen with
    | [y0, y1, y2, y3, y4, y5, y6], _ =>
      have g0 := hfs 0 f0 rfl
      have g1 := hfs 1 f1 rfl
      have g2 := hfs 2 f2 rfl
      have g3 := hfs 3 f3 rfl
      have g4 := hfs 4 f4 rfl
      have g5 := hfs 5 f5 rfl
      have g6 := hfs 6 f6 rfl
      simp only [Value.cells] at g0 g1 g2 g3 g4 g5 g6
      rw [e0.1, e0.2, c3] at g0
      rw [e1.1, e1.2, c3] at g1
      rw [e2.1, e2.2, c3] at g2
      rw [e3.1, e3.2, c3] at g3
      rw [e4.1, e4.2, c22] at g4
      rw [e5.1, e5.2, c22] at g5
      rw [e6.1, e6.2, c22] at g6
      obtain ⟨a0, q0, _, _⟩ := DataW.trod_int Try.underlying3 (show DataW.trod enc Try.prog W 0 (fun _ => true) true n 3 [x0] = some y0 from g0)
      obtain ⟨a1, q1, _, _⟩ := DataW.trod_int Try.underlying3 (show DataW.trod enc Try.prog W 0 (fun _ => true) true n 3 [x1] = some y1 from g1)
      obtain ⟨a2, q2, _, _⟩ := DataW.trod_int Try.underlying3 (show DataW.trod enc Try.prog W 0 (fun _ => true) true n 3 [x2] = some y2 from g2)
      obtain ⟨a3, q3, _, _⟩ := DataW.trod_int Try.underlying3 (show DataW.trod enc Try.prog W 0 (fun _ => true) true n 3 [x3] = some y3 from g3)
      injection q0 with q0
      injection q1 with q1
      injection q2 with q2
      injection q3 with q3
      subst q0
      subst q1
      subst q2
      subst q3
      obtain ⟨A4, c4, l4, rfl, h4, k4⟩ := open_cells (show DataW.trod enc Try.prog W 0 (fun _ => true) true n 22 [x4] = some y4 from g4)
      obtain ⟨A5, c5, l5, rfl, h5, k5⟩ := open_cells (show DataW.trod enc Try.prog W 0 (fun _ => true) true n 22 [x5] = some y5 from g5)
      obtain ⟨A6, c6, l6, rfl, h6, k6⟩ := open_cells (show DataW.trod enc Try.prog W 0 (fun _ => true) true n 22 [x6] = some y6 from g6)
      exact ⟨a0, a1, a2, a3, A4, c4, l4, A5, c5, l5, A6, c6, l6, rfl, ⟨k4, h4⟩, ⟨k5, h5⟩, ⟨k6, h6⟩⟩
end
end Go.Proofs.Ytimhllaahihhgaa.ManArg
