/- A slice of acts (four numbers each) as an argument of a law. Conditions: those that each theorem states. -/
import Derived.Test.YtialbhkamlfccaaM7
import Derived.Deep.Slices
import Derived.ChangeSame
import Derived.SizedLaws
namespace Go.Proofs.Ytialbhkamlfccaa.ActArg
open Go.RowKit Go.ChangeShapes Go.WideShapes Go.Proofs.YtialbhkamlfccaaW.PrintWords Go.Proofs.Ytialbhkamlfccaa.PA
theorem under58 : ∃ f0 f1 f2 f3 : Field, Try.prog.underlying 58 = some (.struct #[f0, f1, f2, f3]) ∧ f0.offset = 0 ∧ f0.type = 3 ∧ f1.offset = 1 ∧ f1.type = 3 ∧ f2.offset = 2 ∧ f2.type = 3 ∧ f3.offset = 3 ∧ f3.type = 3 :=
  ⟨_, _, _, _, Try.underlying58, rfl, rfl, rfl, rfl, rfl, rfl, rfl, rfl⟩
theorem cell_i : Try.prog.cellsOf 3 = 1 := by kernel_rfl
theorem open_one {H : Type} {enc : TypeId × Value → H} {W : World} {held : Bool} {base : Nat} {spare : Nat → Bool} {n : Nat} {cs : List Value} {x : DataW H × List MemPlace} (hl : cs.length = 4)
    (h : DataW.trod enc Try.prog W base spare held n 58 cs = some x) : ∃ q : AcT, cs = [.int .i64 q.k, .int .i64 q.a, .int .i64 q.b, .int .i64 q.c] := by
  obtain ⟨f0, f1, f2, f3, h58, o0, t0, o1, t1, o2, t2, o3, t3⟩ := under58
  obtain ⟨xs, k, hk, _, _, hxl, hf⟩ := DataW.trod_struct h58 h
  match cs, hl with
  | [v0, v1, v2, v3], _ =>
    match xs, hxl with
    | [y0, y1, y2, y3], _ =>
      have g0 : DataW.trod enc Try.prog W base spare held k 3 [v0] = some y0 := by have h_ := hf 0 f0 rfl; rw [t0, o0, cell_i] at h_; exact h_
      obtain ⟨q0, e0, _, w0⟩ := DataW.trod_int Try.underlying3 g0
      obtain rfl : v0 = .int .i64 q0 := by simpa using e0
      have g1 : DataW.trod enc Try.prog W base spare held k 3 [v1] = some y1 := by have h_ := hf 1 f1 rfl; rw [t1, o1, cell_i] at h_; exact h_
      obtain ⟨q1, e1, _, w1⟩ := DataW.trod_int Try.underlying3 g1
      obtain rfl : v1 = .int .i64 q1 := by simpa using e1
      have g2 : DataW.trod enc Try.prog W base spare held k 3 [v2] = some y2 := by have h_ := hf 2 f2 rfl; rw [t2, o2, cell_i] at h_; exact h_
      obtain ⟨q2, e2, _, w2⟩ := DataW.trod_int Try.underlying3 g2
      obtain rfl : v2 = .int .i64 q2 := by simpa using e2
      have g3 : DataW.trod enc Try.prog W base spare held k 3 [v3] = some y3 := by have h_ := hf 3 f3 rfl; rw [t3, o3, cell_i] at h_; exact h_
      obtain ⟨q3, e3, _, w3⟩ := DataW.trod_int Try.underlying3 g3
      obtain rfl : v3 = .int .i64 q3 := by simpa using e3
      exact ⟨⟨q0, q1, q2, q3⟩, rfl⟩
theorem k58_mk (W : World) (q : AcT) : k58.K W q [.int .i64 q.k, .int .i64 q.a, .int .i64 q.b, .int .i64 q.c] := ⟨_, _, rfl, rfl, _, _, rfl, rfl, _, _, rfl, rfl, rfl⟩
theorem open_acts {H : Type} {enc : TypeId × Value → H} {W : World} {held : Bool} {a : Option Addr} {len cap : Nat} {d : DataW H} {ps : List MemPlace}
    (h : DataW.Trod enc Try.prog W 0 (fun _ => true) held 22 (.slice a len cap) d ps) :
    ∃ l : List AcT, l.length = len ∧ len ≤ cap ∧ Kd.C k58 W a len l := by
  obtain ⟨fuel, hf⟩ := h
  rcases Go.Deep.open_slice Try.underlying22 hf with ⟨hcs, _⟩ | ⟨x, l, c, m, n, D, Pl, hcs, _, hl, hm, hmm, hx, hall⟩
  · simp [Value.cells] at hcs
    obtain ⟨rfl, rfl, rfl⟩ := hcs
    exact ⟨[], rfl, Nat.le_refl _, ⟨rfl, by decide, fun h => absurd h (by decide)⟩⟩
  · simp [Value.cells] at hcs
    obtain ⟨rfl, rfl, rfl⟩ := hcs
    simp only [if_true] at hmm
    have hlm : len ≤ m := by omega
    have each : ∀ i, i < len → ∃ q : AcT, (∀ j v, [(.int .i64 q.k : Value), (.int .i64 q.a : Value), (.int .i64 q.b : Value), (.int .i64 q.c : Value)][j]? = some v → W.cell? ((x.add (i * 4)).add j) = some v) := by
      intro i hi
      obtain ⟨cs', h1, h2⟩ := hall i (by omega)
      rw [show Try.prog.cellsOf 58 = 4 by kernel_rfl] at h1
      obtain ⟨_, hlen, hcell⟩ := World.cells?_some h1
      obtain ⟨q, rfl⟩ := open_one hlen h2
      refine ⟨q, fun j v hj => ?_⟩
      have hj1 := (List.getElem?_eq_some_iff.mp hj).1
      rw [hcell j (by simpa using hj1), hj]
    have : Inhabited AcT := ⟨⟨0, 0, 0, 0⟩⟩
    obtain ⟨f, hf2⟩ := Go.Deep.choose_lt each
    have hl2 : ((List.range len).map f).length = len := by simp
    refine ⟨(List.range len).map f, hl2, hl, ⟨hl2, by simp only [maxLen] at hm; omega, fun _ => ⟨x, rfl, fun j p hj => ?_⟩⟩⟩
    obtain ⟨hj1, hj2⟩ := List.getElem?_eq_some_iff.mp hj
    have hjl : j < len := by simpa using hj1
    rw [List.getElem_map, List.getElem_range] at hj2
    subst hj2
    refine ⟨_, rfl, k58_mk W (f j), fun i u hu => ?_⟩
    have h3 := (hf2 j hjl) i u hu
    rw [Go.Proofs.YtialbhkamlfccaaW.PrintWords.add_add] at h3
    exact h3
end Go.Proofs.Ytialbhkamlfccaa.ActArg
