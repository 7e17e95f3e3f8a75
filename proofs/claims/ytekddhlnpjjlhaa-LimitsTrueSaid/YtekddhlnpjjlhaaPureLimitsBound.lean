/- LimitsBound: how many steps there are at most, or why that cannot be told, is what the reference says. No condition. -/
import Derived.Test.YtekddhlnpjjlhaaPureLim
import Derived.Test.YtekddhlnpjjlhaaPAllx7
namespace Go.Proofs.Ytekddhlnpjjlhaa.Pure
open Go.RowKit Go.Proofs.Ytekddhlnpjjlhaa.PAll Go.Proofs.YtekddhlnpjjlhaaW.PrintWords Go.Proofs.YtekddhlnpjjlhaaW.PrintLast
open Go.Proofs.Ytekddhlnpjjlhaa.B

theorem foldl3 (t : Bool) (i x y z : Int) (hx : 0 ≤ x) (hy : 0 ≤ y) (hz : 0 ≤ z) : fo t i [x, y, z] = wi (wi (wi (i, 0) (ck x) t) (ck y) t) (ck z) t := by
  unfold fo
  rw [any_three hx hy hz, if_neg (by decide)]
  rfl
theorem c64 {d : Int} (d1 : 1 ≤ d) (d6 : d ≤ 6) : 0 ≤ 64 * (d + 1) * (d + 1) ∧ 64 * (d + 1) * (d + 1) ≤ 3136 ∧ fo true 1 [64, d + 1, d + 1] = (64 * (d + 1) * (d + 1), 0) := by
  rcases (show d = 1 ∨ d = 2 ∨ d = 3 ∨ d = 4 ∨ d = 5 ∨ d = 6 by omega) with rfl | rfl | rfl | rfl | rfl | rfl <;> decide +kernel
theorem bound_same (k : Nat) (hk : 110 ≤ k) (d a f g : Int) : ∃ r, limits_Bound.f k d a f g = some r ∧ bautaref27_Bound.f k d a f g = some r := by
  obtain ⟨k, rfl⟩ : ∃ m, k = m + 2 := ⟨k - 2, by omega⟩
  unfold limits_Bound.f bautaref27_Bound.f
  rw [order_f]
  rcases order_some d with ⟨_, h⟩ | ⟨_, h⟩ | ⟨d1, d6, h⟩
  · rw [h, Option.bind_some, Option.bind_some, if_neg (by decide), if_neg (by decide)]; exact ⟨_, rfl, rfl⟩
  · rw [h, Option.bind_some, Option.bind_some, if_neg (by decide), if_neg (by decide)]; exact ⟨_, rfl, rfl⟩
  · rw [h, Option.bind_some, Option.bind_some, if_pos rfl, if_pos rfl, sum_f _ [a, f, g] (by simp) (by simp; omega), Option.bind_some]
    by_cases neg : a < 0 ∨ f < 0 ∨ g < 0
    · have hany : ([a, f, g] : List Int).any (· < 0) = true := by
        rw [List.any_eq_true]
        rcases neg with q | q | q
        · exact ⟨a, by simp, by simpa using q⟩
        · exact ⟨f, by simp, by simpa using q⟩
        · exact ⟨g, by simp, by simpa using q⟩
      have hfo : fo false 0 [a, f, g] = (0, 1) := by unfold fo; rw [hany, if_pos rfl]
      rw [hfo, if_pos rfl, answer_f (0, 1), Option.bind_some]
      refine ⟨_, rfl, ?_⟩
      simp only [bautaref27_Bound.j0]
      by_cases g1 : g < 0
      · rw [if_pos g1, if_pos trivial]; rfl
      · rw [if_neg g1]
        by_cases g2 : a < 0
        · rw [if_pos g2, if_pos trivial]; rfl
        · rw [if_neg g2, if_pos (decide_eq_true (by omega))]; rfl
    · have a0 : 0 ≤ a := by omega
      have f0 : 0 ≤ f := by omega
      have g0 : 0 ≤ g := by omega
      have hF := fo_fine false 0 [a, f, g] (any_three a0 f0 g0) (by decide) (by decide)
      have hne : ¬ (fo false 0 [a, f, g]).2 = 1 := by
        rcases hF with ⟨e, _, _⟩ | ⟨_, e⟩ <;> omega
      have hS := fo_fine false 0 [a, f] (any_two a0 f0) (by decide) (by decide)
      have hP := fo_fine true 1 [64, d + 1, g] (any_three (by decide) (by omega) g0) (by decide) (by decide)
      have hw1 : wrap64 (d + 1) = d + 1 := w64 (by omega) (by omega)
      have hw2 : wrap64 (64 * (d + 1)) = 64 * (d + 1) := w64 (by omega) (by omega)
      obtain ⟨C0, C1, hC⟩ := c64 d1 d6
      have hw3 : wrap64 (64 * (d + 1) * (d + 1)) = 64 * (d + 1) * (d + 1) := w64 (by omega) (by omega)
      simp only [bautaref27_Bound.j0]
      rw [if_neg hne, if_neg (show ¬ g < 0 by omega), if_neg (show ¬ a < 0 by omega), if_neg (show ¬ decide (f < 0) = true by simpa using f0), hw1, hw2, hw3, product_f _ [64, d + 1, d + 1] (by simp) (by simp; omega), sum_f _ [a, f] (by simp) (by simp; omega),
        product_f _ [64, d + 1, g] (by simp) (by simp; omega), refmul_f _ [64, d + 1, g] (by simp) (by simp; omega), refadd_f _ [a, f] (by simp) (by simp; omega), hC]
      simp only [Option.bind_some]
      generalize fo true 1 [64, d + 1, g] = P at hP
      generalize fo false 0 [a, f] = S at hS
      generalize 64 * (d + 1) * (d + 1) = C at C0 C1
      obtain ⟨m, e⟩ := P
      obtain ⟨n, q⟩ := S
      rw [with_f (n, q) (C, 0) true]
      simp only [Option.bind_some]
      rcases hS with ⟨s1, s2, s3⟩ | ⟨s1, s2⟩
      · simp only at s1 s2 s3
        subst s1
        rw [wi_mul s2 s3 C0 (by omega), if_pos rfl, refmul_f _ [n, C] (by simp) (by simp; omega), fo_mul s2 s3 C0 (by omega)]
        have hG := ck_fine (n * C) (Int.mul_nonneg s2 C0)
        simp only [Option.bind_some]
        generalize ck (n * C) = G at hG
        obtain ⟨t, r⟩ := G
        rw [with_f (t, r) (m, e) false]
        simp only [Option.bind_some]
        rcases hG with ⟨g1, g2, g3⟩ | ⟨g1, g2⟩
        · simp only at g1 g2 g3
          subst g1
          rw [if_pos rfl]
          rcases hP with ⟨p1, p2, p3⟩ | ⟨p1, p2⟩
          · simp only at p1 p2 p3
            subst p1
            rw [if_pos rfl, refadd_f _ [t, m, 64] (by simp) (by simp; omega), foldl3 false 0 t m 64 g2 p2 (by decide), ck_of g2 g3, wi_add (by decide) (by decide) g2 g3, Int.zero_add, ck_of g2 g3, ck_of p2 p3, wi_add g2 g3 p2 p3,
              show ck 64 = (64, 0) from rfl, with_f (ck (t + m)) (64, 0) false]
            simp only [Option.bind_some]
            have hL := wi_fine (ck_fine (t + m) (by omega)) (show Fine (64, 0) from .inl ⟨rfl, by decide, by decide⟩) false
            rw [answer_f, ans_fine hL]
            exact ⟨_, rfl, rfl⟩
          · simp only at p1 p2
            subst p1; subst p2
            rw [if_neg (show ¬ (150 : Int) = 0 by decide), wi_bad2, with_f (0, 150) (64, 0) false, wi_bad]
            simp only [Option.bind_some]
            rw [answer_f (0, 150)]
            exact ⟨_, rfl, rfl⟩
        · simp only at g1 g2
          subst g1; subst g2
          rw [if_neg (show ¬ (150 : Int) = 0 by decide), wi_bad, with_f (0, 150) (64, 0) false, wi_bad]
          simp only [Option.bind_some]
          rw [answer_f (0, 150)]
          exact ⟨_, rfl, rfl⟩
      · simp only at s1 s2
        subst s1; subst s2
        rw [wi_bad, if_neg (show ¬ (150 : Int) = 0 by decide), with_f (0, 150) (m, e) false, wi_bad]
        simp only [Option.bind_some]
        rw [with_f (0, 150) (64, 0) false, wi_bad]
        simp only [Option.bind_some]
        rw [answer_f (0, 150)]
        exact ⟨_, rfl, rfl⟩
theorem LimitsBound : bautalaw27_LimitsBound.Pure := by
  intro d x y z _ _ _ _
  obtain ⟨k, hk⟩ : ∃ k : Nat, 110 ≤ k := ⟨110, by omega⟩
  refine ⟨k, ?_⟩
  obtain ⟨r, h1, h2⟩ := bound_same k hk d x y z
  unfold bautalaw27_LimitsBound.f
  rw [h1, h2, Option.bind_some, Option.bind_some, if_pos rfl, if_pos rfl, lives_k (by omega)]
  rfl
end Go.Proofs.Ytekddhlnpjjlhaa.Pure
