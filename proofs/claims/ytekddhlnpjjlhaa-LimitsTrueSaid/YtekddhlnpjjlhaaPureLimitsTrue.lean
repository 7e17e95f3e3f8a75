/- LimitsTrue: what is told is the number, where all are small. No condition. -/
import Derived.Test.YtekddhlnpjjlhaaPureLimitsBound
import Derived.Test.YtekddhlnpjjlhaaPureLimitsRandom
import Derived.Test.YtekddhlnpjjlhaaPAllx7
namespace Go.Proofs.Ytekddhlnpjjlhaa.Pure
open Go.RowKit Go.Proofs.Ytekddhlnpjjlhaa.PAll Go.Proofs.YtekddhlnpjjlhaaW.PrintWords Go.Proofs.YtekddhlnpjjlhaaW.PrintLast
open Go.Proofs.Ytekddhlnpjjlhaa.B

theorem prod_small {x y X Y : Int} (x0 : 0 ≤ x) (xX : x ≤ X) (y0 : 0 ≤ y) (yY : y ≤ Y) (X0 : 0 ≤ X) : 0 ≤ x * y ∧ x * y ≤ X * Y :=
  ⟨Int.mul_nonneg x0 y0, Int.mul_le_mul xX yY y0 X0⟩
theorem random_val (k : Nat) (hk : 110 ≤ k) (d s a f : Int) (d1 : 1 ≤ d) (d6 : d ≤ 6) (s0 : 0 ≤ s) (s1 : s ≤ 65535) (a0 : 0 ≤ a) (a1 : a ≤ 65535) (f0 : 0 ≤ f) (f1 : f ≤ 65535) :
    limits_Random.f k d s a f = some (d * s + (a + f) * (d * (d + 1)) / 2, 0) := by
  have ho : bautaref27_Order.f d = some 0 := by
    rcases order_some d with ⟨h, _⟩ | ⟨h, _⟩ | ⟨_, _, h⟩
    · omega
    · omega
    · exact h
  have hF := fo_fine false 0 [s, a, f] (any_three s0 a0 f0) (by decide) (by decide)
  have hne : ¬ (fo false 0 [s, a, f]).2 = 1 := by
    rcases hF with ⟨e, _, _⟩ | ⟨_, e⟩ <;> omega
  have hw1 : wrap64 (d + 1) = d + 1 := w64 (by omega) (by omega)
  have dd := prod_small (x := d) (y := d + 1) (X := 6) (Y := 7) (by omega) d6 (by omega) (by omega) (by decide)
  have ds := prod_small (x := d) (y := s) (X := 6) (Y := 65535) (by omega) d6 s0 s1 (by decide)
  have gg := prod_small (x := a + f) (y := d * (d + 1)) (X := 131070) (Y := 42) (by omega) (by omega) dd.1 (by omega) (by decide)
  unfold limits_Random.f
  rw [order_f, ho, Option.bind_some, if_pos rfl, sum_f _ [s, a, f] (by simp) (by simp; omega), Option.bind_some, if_neg hne, product_f _ [d, s] (by simp) (by simp; omega), sum_f _ [a, f] (by simp) (by simp; omega),
    hw1, product_f _ [d, d + 1] (by simp) (by simp; omega), fo_mul (n := d) (x := d + 1) (by omega) (by omega) (by omega) (by omega), ck_of dd.1 (by omega), fo_mul (n := d) (x := s) (by omega) (by omega) s0 (by omega), ck_of ds.1 (by omega), fo_add a0 (by omega) f0 (by omega), ck_of (by omega) (by omega)]
  simp only [Option.bind_some]
  rw [with_f (a + f, 0) (d * (d + 1), 0) true, wi_mul (by omega) (by omega) dd.1 (by omega), ck_of gg.1 (by omega)]
  simp only [Option.bind_some]
  generalize (a + f) * (d * (d + 1)) = G at gg
  rw [tdiv2 gg.1 (by omega), with_f (d * s, 0) (G / 2, 0) false, wi_add ds.1 (by omega) (by omega) (by omega), ck_of (by omega) (by omega)]
  simp only [Option.bind_some]
  rw [answer_f (d * s + G / 2, 0)]
  rfl
theorem bound_val (k : Nat) (hk : 110 ≤ k) (d a f g : Int) (d1 : 1 ≤ d) (d6 : d ≤ 6) (a0 : 0 ≤ a) (a1 : a ≤ 5000) (f0 : 0 ≤ f) (f1 : f ≤ 5000) (g0 : 0 ≤ g) (g1 : g ≤ 5000) :
    limits_Bound.f k d a f g = some ((a + f) * (64 * (d + 1) * (d + 1)) + 64 * (d + 1) * g + 64, 0) := by
  have ho : bautaref27_Order.f d = some 0 := by
    rcases order_some d with ⟨h, _⟩ | ⟨h, _⟩ | ⟨_, _, h⟩
    · omega
    · omega
    · exact h
  have hF := fo_fine false 0 [a, f, g] (any_three a0 f0 g0) (by decide) (by decide)
  have hne : ¬ (fo false 0 [a, f, g]).2 = 1 := by
    rcases hF with ⟨e, _, _⟩ | ⟨_, e⟩ <;> omega
  have hw1 : wrap64 (d + 1) = d + 1 := w64 (by omega) (by omega)
  obtain ⟨C0, C1, hC⟩ := c64 d1 d6
  have dg := prod_small (x := 64 * (d + 1)) (y := g) (X := 448) (Y := 5000) (by omega) (by omega) g0 g1 (by decide)
  have hP : fo true 1 [64, d + 1, g] = (64 * (d + 1) * g, 0) := by
    rw [foldl3 true 1 64 (d + 1) g (by decide) (by omega) g0, show ck 64 = (64, 0) from rfl, show wi (1, 0) (64, 0) true = (64, 0) from by decide +kernel, ck_of (by omega) (by omega), wi_mul (by decide) (by decide) (by omega) (by omega), ck_of (by omega) (by omega), ck_of g0 (by omega), wi_mul (by omega) (by omega) g0 (by omega), ck_of dg.1 (by omega)]
  have gg := prod_small (x := a + f) (y := 64 * (d + 1) * (d + 1)) (X := 10000) (Y := 3136) (by omega) (by omega) C0 C1 (by decide)
  unfold limits_Bound.f
  rw [order_f, ho, Option.bind_some, if_pos rfl, sum_f _ [a, f, g] (by simp) (by simp; omega), Option.bind_some, if_neg hne, hw1, product_f _ [64, d + 1, d + 1] (by simp) (by simp; omega), sum_f _ [a, f] (by simp) (by simp; omega),
    product_f _ [64, d + 1, g] (by simp) (by simp; omega), hC, hP, fo_add a0 (by omega) f0 (by omega), ck_of (by omega) (by omega)]
  simp only [Option.bind_some]
  rw [with_f (a + f, 0) (64 * (d + 1) * (d + 1), 0) true, wi_mul (by omega) (by omega) C0 (by omega), ck_of gg.1 (by omega)]
  simp only [Option.bind_some]
  generalize (a + f) * (64 * (d + 1) * (d + 1)) = G at gg
  generalize 64 * (d + 1) * g = E at dg
  rw [with_f (G, 0) (E, 0) false, wi_add gg.1 (by omega) dg.1 (by omega), ck_of (by omega) (by omega)]
  simp only [Option.bind_some]
  rw [with_f (G + E, 0) (64, 0) false, wi_add (by omega) (by omega) (by decide) (by decide), ck_of (by omega) (by omega)]
  simp only [Option.bind_some]
  rw [answer_f (G + E + 64, 0)]
  rfl
theorem wf_u8 {a : Int} (h : (Lit.int .u8 a).wf = true) : 0 ≤ a ∧ a < 256 := by
  simp [Lit.wf, IntKind.min, IntKind.max, IntKind.bits, IntKind.signed] at h; omega
theorem wf_u16 {a : Int} (h : (Lit.int .u16 a).wf = true) : 0 ≤ a ∧ a < 65536 := by
  simp [Lit.wf, IntKind.min, IntKind.max, IntKind.bits, IntKind.signed] at h; omega
theorem LimitsTrue : bautalaw27_LimitsTrue.Pure := by
  intro d0 s a f w0 w1 w2 w3
  have h0 := wf_u8 w0
  have h1 := wf_u16 w1
  have h2 := wf_u16 w2
  have h3 := wf_u16 w3
  obtain ⟨k, hk⟩ : ∃ k : Nat, 110 ≤ k := ⟨110, by omega⟩
  refine ⟨k, ?_⟩
  obtain ⟨d, hd⟩ : ∃ d, d = 1 + d0 % 6 := ⟨_, rfl⟩
  have e0 : wrap64 (1 + wrap64 (Int.tmod d0 6)) = d := by
    have ei : wrap64 (d0 % 6) = d0 % 6 := w64 (by omega) (by omega)
    have ej : wrap64 (1 + d0 % 6) = 1 + d0 % 6 := w64 (by omega) (by omega)
    rw [Int.tmod_eq_emod_of_nonneg h0.1, ei, ej, hd]
  have d1 : 1 ≤ d := by omega
  have d6 : d ≤ 6 := by omega
  have es : wrap64 s = s := w64 (by omega) (by omega)
  have ea : wrap64 a = a := w64 (by omega) (by omega)
  have ef : wrap64 f = f := w64 (by omega) (by omega)
  have ta : Int.tmod a 5000 = a % 5000 := Int.tmod_eq_emod_of_nonneg h2.1
  have tf : Int.tmod f 5000 = f % 5000 := Int.tmod_eq_emod_of_nonneg h3.1
  have ts : Int.tmod s 5000 = s % 5000 := Int.tmod_eq_emod_of_nonneg h1.1
  have a5 : 0 ≤ a % 5000 ∧ a % 5000 ≤ 4999 := by omega
  have f5 : 0 ≤ f % 5000 ∧ f % 5000 ≤ 4999 := by omega
  have s5 : 0 ≤ s % 5000 ∧ s % 5000 ≤ 4999 := by omega
  clear hd
  unfold bautalaw27_LimitsTrue.f
  rw [e0, es, ea, ef, ta, tf, ts, random_val k hk d s a f d1 d6 h1.1 (by omega) h2.1 (by omega) h3.1 (by omega), Option.bind_some, bound_val k hk d (a % 5000) (f % 5000) (s % 5000) d1 d6 a5.1 (by omega) f5.1 (by omega) s5.1 (by omega), Option.bind_some, if_pos rfl, if_pos rfl]
  generalize a % 5000 = A at a5
  generalize f % 5000 = F at f5
  generalize s % 5000 = S at s5
  have dd := prod_small (x := d) (y := d + 1) (X := 6) (Y := 7) (by omega) d6 (by omega) (by omega) (by decide)
  have ds := prod_small (x := d) (y := s) (X := 6) (Y := 65535) (by omega) d6 h1.1 (by omega) (by decide)
  have ad := prod_small (x := a + f) (y := d) (X := 131070) (Y := 6) (by omega) (by omega) (by omega) d6 (by decide)
  have add := prod_small (x := (a + f) * d) (y := d + 1) (X := 786420) (Y := 7) ad.1 (by omega) (by omega) (by omega) (by decide)
  have hq : wrap64 (d * s) = d * s := w64 (by omega) (by omega)
  have hq1 : wrap64 (a + f) = a + f := w64 (by omega) (by omega)
  have hq2 : wrap64 ((a + f) * d) = (a + f) * d := w64 (by omega) (by omega)
  have hq3 : wrap64 (d + 1) = d + 1 := w64 (by omega) (by omega)
  have hq4 : wrap64 ((a + f) * d * (d + 1)) = (a + f) * d * (d + 1) := w64 (by omega) (by omega)
  have hq5 : wrap64 (Int.tdiv ((a + f) * d * (d + 1)) 2) = (a + f) * d * (d + 1) / 2 := tdiv2 add.1 (by omega)
  have first : d * s + (a + f) * (d * (d + 1)) / 2 = wrap64 (wrap64 (d * s) + wrap64 (Int.tdiv (wrap64 (wrap64 (wrap64 (a + f) * d) * wrap64 (d + 1))) 2)) := by
    rw [hq, hq1, hq2, hq3, hq4, hq5, ← Int.mul_assoc, w64 (by omega) (by omega)]
  rw [if_pos first]
  obtain ⟨C0, C1, _⟩ := c64 d1 d6
  have g1 : wrap64 (64 * (d + 1)) = 64 * (d + 1) := w64 (by omega) (by omega)
  have g2 : wrap64 (64 * (d + 1) * (d + 1)) = 64 * (d + 1) * (d + 1) := w64 (by omega) (by omega)
  have g3 : wrap64 (A + F) = A + F := w64 (by omega) (by omega)
  have cg := prod_small (x := 64 * (d + 1) * (d + 1)) (y := A + F) (X := 3136) (Y := 10000) C0 C1 (by omega) (by omega) (by decide)
  have g4 : wrap64 (64 * (d + 1) * (d + 1) * (A + F)) = 64 * (d + 1) * (d + 1) * (A + F) := w64 (by omega) (by omega)
  have dg := prod_small (x := 64 * (d + 1)) (y := S) (X := 448) (Y := 5000) (by omega) (by omega) s5.1 (by omega) (by decide)
  have g5 : wrap64 (64 * (d + 1) * S) = 64 * (d + 1) * S := w64 (by omega) (by omega)
  have second : (A + F) * (64 * (d + 1) * (d + 1)) + 64 * (d + 1) * S + 64 = wrap64 (wrap64 (wrap64 (wrap64 (wrap64 (64 * wrap64 (d + 1)) * wrap64 (d + 1)) * wrap64 (A + F)) + wrap64 (wrap64 (64 * wrap64 (d + 1)) * S)) + 64) := by
    have i1 : wrap64 (64 * (d + 1) * (d + 1) * (A + F) + 64 * (d + 1) * S) = 64 * (d + 1) * (d + 1) * (A + F) + 64 * (d + 1) * S := w64 (by omega) (by omega)
    have i2 : wrap64 (64 * (d + 1) * (d + 1) * (A + F) + 64 * (d + 1) * S + 64) = 64 * (d + 1) * (d + 1) * (A + F) + 64 * (d + 1) * S + 64 := w64 (by omega) (by omega)
    rw [hq3, g1, g2, g3, g4, g5, Int.mul_comm (A + F), i1, i2]
  rw [if_pos second, lives_k (by omega)]
  rfl
end Go.Proofs.Ytekddhlnpjjlhaa.Pure
