/- A slice of leaks (eight numbers, two bools) as an argument of a law. Conditions: those that each theorem states. -/
import Derived.Test.YtbohanoekboifaaPG3x0
import Derived.Deep.Slices
import Derived.ChangeSame
import Derived.SizedLaws
namespace Go.Proofs.Ytbohanoekboifaa.LeakArg
open Go.RowKit Go.ChangeShapes Go.WideShapes Go.Proofs.YtbohanoekboifaaW.PrintWords Go.Proofs.Ytbohanoekboifaa.PG3
theorem under42 : ∃ f0 f1 f2 f3 f4 f5 f6 f7 f8 f9 : Field, Try.prog.underlying 42 = some (.struct #[f0, f1, f2, f3, f4, f5, f6, f7, f8, f9]) ∧ f0.offset = 0 ∧ f0.type = 39 ∧ f1.offset = 1 ∧ f1.type = 40 ∧ f2.offset = 2 ∧ f2.type = 39 ∧ f3.offset = 3 ∧ f3.type = 39 ∧ f4.offset = 4 ∧ f4.type = 39 ∧ f5.offset = 5 ∧ f5.type = 39 ∧ f6.offset = 6 ∧ f6.type = 39 ∧ f7.offset = 7 ∧ f7.type = 39 ∧ f8.offset = 8 ∧ f8.type = 4 ∧ f9.offset = 9 ∧ f9.type = 4 :=
  ⟨_, _, _, _, _, _, _, _, _, _, Try.underlying42, rfl, rfl, rfl, rfl, rfl, rfl, rfl, rfl, rfl, rfl, rfl, rfl, rfl, rfl, rfl, rfl, rfl, rfl, rfl, rfl⟩
theorem cell_u32 : Try.prog.cellsOf 39 = 1 := by kernel_rfl
theorem cell_u16 : Try.prog.cellsOf 40 = 1 := by kernel_rfl
theorem cell_b : Try.prog.cellsOf 4 = 1 := by kernel_rfl
theorem open_one {H : Type} {enc : TypeId × Value → H} {W : World} {held : Bool} {base : Nat} {spare : Nat → Bool} {n : Nat} {cs : List Value} {x : DataW H × List MemPlace} (hl : cs.length = 10)
    (h : DataW.trod enc Try.prog W base spare held n 42 cs = some x) : ∃ q : S42, cs = [.int .u32 q.f0, .int .u16 q.f1, .int .u32 q.f2, .int .u32 q.f3, .int .u32 q.f4, .int .u32 q.f5, .int .u32 q.f6, .int .u32 q.f7, .bool q.f8, .bool q.f9] ∧ (Lit.int .u32 q.f4).wf = true := by
  obtain ⟨f0, f1, f2, f3, f4, f5, f6, f7, f8, f9, h42, o0, t0, o1, t1, o2, t2, o3, t3, o4, t4, o5, t5, o6, t6, o7, t7, o8, t8, o9, t9⟩ := under42
  obtain ⟨xs, k, hk, _, _, hxl, hf⟩ := DataW.trod_struct h42 h
  match cs, hl with
  | [v0, v1, v2, v3, v4, v5, v6, v7, v8, v9], _ =>
    match xs, hxl with
    | [y0, y1, y2, y3, y4, y5, y6, y7, y8, y9], _ =>
      have g0 : DataW.trod enc Try.prog W base spare held k 39 [v0] = some y0 := by have h_ := hf 0 f0 rfl; rw [t0, o0, cell_u32] at h_; exact h_
      obtain ⟨q0, e0, _, w0⟩ := DataW.trod_int Try.underlying39 g0
      obtain rfl : v0 = .int .u32 q0 := by simpa using e0
      have g1 : DataW.trod enc Try.prog W base spare held k 40 [v1] = some y1 := by have h_ := hf 1 f1 rfl; rw [t1, o1, cell_u16] at h_; exact h_
      obtain ⟨q1, e1, _, w1⟩ := DataW.trod_int Try.underlying40 g1
      obtain rfl : v1 = .int .u16 q1 := by simpa using e1
      have g2 : DataW.trod enc Try.prog W base spare held k 39 [v2] = some y2 := by have h_ := hf 2 f2 rfl; rw [t2, o2, cell_u32] at h_; exact h_
      obtain ⟨q2, e2, _, w2⟩ := DataW.trod_int Try.underlying39 g2
      obtain rfl : v2 = .int .u32 q2 := by simpa using e2
      have g3 : DataW.trod enc Try.prog W base spare held k 39 [v3] = some y3 := by have h_ := hf 3 f3 rfl; rw [t3, o3, cell_u32] at h_; exact h_
      obtain ⟨q3, e3, _, w3⟩ := DataW.trod_int Try.underlying39 g3
      obtain rfl : v3 = .int .u32 q3 := by simpa using e3
      have g4 : DataW.trod enc Try.prog W base spare held k 39 [v4] = some y4 := by have h_ := hf 4 f4 rfl; rw [t4, o4, cell_u32] at h_; exact h_
      obtain ⟨q4, e4, _, w4⟩ := DataW.trod_int Try.underlying39 g4
      obtain rfl : v4 = .int .u32 q4 := by simpa using e4
      have g5 : DataW.trod enc Try.prog W base spare held k 39 [v5] = some y5 := by have h_ := hf 5 f5 rfl; rw [t5, o5, cell_u32] at h_; exact h_
      obtain ⟨q5, e5, _, w5⟩ := DataW.trod_int Try.underlying39 g5
      obtain rfl : v5 = .int .u32 q5 := by simpa using e5
      have g6 : DataW.trod enc Try.prog W base spare held k 39 [v6] = some y6 := by have h_ := hf 6 f6 rfl; rw [t6, o6, cell_u32] at h_; exact h_
      obtain ⟨q6, e6, _, w6⟩ := DataW.trod_int Try.underlying39 g6
      obtain rfl : v6 = .int .u32 q6 := by simpa using e6
      have g7 : DataW.trod enc Try.prog W base spare held k 39 [v7] = some y7 := by have h_ := hf 7 f7 rfl; rw [t7, o7, cell_u32] at h_; exact h_
      obtain ⟨q7, e7, _, w7⟩ := DataW.trod_int Try.underlying39 g7
      obtain rfl : v7 = .int .u32 q7 := by simpa using e7
      have g8 : DataW.trod enc Try.prog W base spare held k 4 [v8] = some y8 := by have h_ := hf 8 f8 rfl; rw [t8, o8, cell_b] at h_; exact h_
      obtain ⟨q8, e8, _⟩ := DataW.trod_bool Try.underlying4 g8
      obtain rfl : v8 = .bool q8 := by simpa using e8
      have g9 : DataW.trod enc Try.prog W base spare held k 4 [v9] = some y9 := by have h_ := hf 9 f9 rfl; rw [t9, o9, cell_b] at h_; exact h_
      obtain ⟨q9, e9, _⟩ := DataW.trod_bool Try.underlying4 g9
      obtain rfl : v9 = .bool q9 := by simpa using e9
      exact ⟨⟨q0, q1, q2, q3, q4, q5, q6, q7, q8, q9⟩, rfl, w4⟩
theorem open_leaks {H : Type} {enc : TypeId × Value → H} {W : World} {held : Bool} {a : Option Addr} {len cap : Nat} {d : DataW H} {ps : List MemPlace}
    (h : DataW.Trod enc Try.prog W 0 (fun _ => true) held 33 (.slice a len cap) d ps) :
    ∃ l : List S42, l.length = len ∧ len ≤ cap ∧ Kd.C k42 W a len l ∧ (∀ c ∈ l, (Lit.int .u32 c.f4).wf = true) := by
  obtain ⟨fuel, hf⟩ := h
  rcases Go.Deep.open_slice Try.underlying33 hf with ⟨hcs, _⟩ | ⟨x, l, c, m, n, D, Pl, hcs, _, hl, hm, hmm, hx, hall⟩
  · simp [Value.cells] at hcs
    obtain ⟨rfl, rfl, rfl⟩ := hcs
    exact ⟨[], rfl, Nat.le_refl _, ⟨rfl, by decide, fun h => absurd h (by decide)⟩, fun c hc => by cases hc⟩
  · simp [Value.cells] at hcs
    obtain ⟨rfl, rfl, rfl⟩ := hcs
    simp only [if_true] at hmm
    have hlm : len ≤ m := by omega
    have each : ∀ i, i < len → ∃ q : S42, (∀ j v, [(.int .u32 q.f0 : Value), (.int .u16 q.f1 : Value), (.int .u32 q.f2 : Value), (.int .u32 q.f3 : Value), (.int .u32 q.f4 : Value), (.int .u32 q.f5 : Value), (.int .u32 q.f6 : Value), (.int .u32 q.f7 : Value), (.bool q.f8 : Value), (.bool q.f9 : Value)][j]? = some v → W.cell? ((x.add (i * 10)).add j) = some v) ∧ (Lit.int .u32 q.f4).wf = true := by
      intro i hi
      obtain ⟨cs', h1, h2⟩ := hall i (by omega)
      rw [show Try.prog.cellsOf 42 = 10 by kernel_rfl] at h1
      obtain ⟨_, hlen, hcell⟩ := World.cells?_some h1
      obtain ⟨q, rfl, hw⟩ := open_one hlen h2
      refine ⟨q, fun j v hj => ?_, hw⟩
      have hj1 := (List.getElem?_eq_some_iff.mp hj).1
      rw [hcell j (by simpa using hj1), hj]
    have : Inhabited S42 := ⟨z42⟩
    obtain ⟨f, hf2⟩ := Go.Deep.choose_lt each
    have hl2 : ((List.range len).map f).length = len := by simp
    refine ⟨(List.range len).map f, hl2, hl, ⟨hl2, by simp only [maxLen] at hm; omega, fun _ => ⟨x, rfl, fun j p hj => ?_⟩⟩, fun c hc => ?_⟩
    · obtain ⟨hj1, hj2⟩ := List.getElem?_eq_some_iff.mp hj
      have hjl : j < len := by simpa using hj1
      rw [List.getElem_map, List.getElem_range] at hj2
      subst hj2
      refine ⟨_, rfl, k42_mk W (f j), fun i u hu => ?_⟩
      have h3 := (hf2 j hjl).1 i u hu
      rw [add_add] at h3
      exact h3
    · obtain ⟨j, hj, rfl⟩ := List.mem_map.mp hc
      exact (hf2 j (by simpa using hj)).2
end Go.Proofs.Ytbohanoekboifaa.LeakArg
