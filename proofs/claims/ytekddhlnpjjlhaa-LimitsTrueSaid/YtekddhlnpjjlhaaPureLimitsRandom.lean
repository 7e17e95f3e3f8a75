/- LimitsRandom: how many random words there are, or why that cannot be told, is what the reference says. No condition. -/
import Derived.Test.YtekddhlnpjjlhaaPureLim
import Derived.Test.YtekddhlnpjjlhaaPAllx4
namespace Go.Proofs.Ytekddhlnpjjlhaa.Pure
open Go.RowKit Go.Proofs.Ytekddhlnpjjlhaa.PAll Go.Proofs.YtekddhlnpjjlhaaW.PrintWords Go.Proofs.YtekddhlnpjjlhaaW.PrintLast
open Go.Proofs.Ytekddhlnpjjlhaa.B

theorem tdiv2 {g : Int} (h0 : 0 ≤ g) (h1 : g ≤ 2147483647) : wrap64 (Int.tdiv g 2) = g / 2 := by
  rw [Int.tdiv_eq_ediv_of_nonneg h0]; exact w64 (by omega) (by omega)
theorem random_same (k : Nat) (hk : 110 ≤ k) (d s a f : Int) : ∃ r, limits_Random.f k d s a f = some r ∧ bautaref27_Random.f k d s a f = some r := by
  obtain ⟨k, rfl⟩ : ∃ m, k = m + 2 := ⟨k - 2, by omega⟩
  unfold limits_Random.f bautaref27_Random.f
  rw [order_f]
  rcases order_some d with ⟨_, h⟩ | ⟨_, h⟩ | ⟨d1, d6, h⟩
  · rw [h, Option.bind_some, Option.bind_some, if_neg (by decide), if_neg (by decide)]; exact ⟨_, rfl, rfl⟩
  · rw [h, Option.bind_some, Option.bind_some, if_neg (by decide), if_neg (by decide)]; exact ⟨_, rfl, rfl⟩
  · rw [h, Option.bind_some, Option.bind_some, if_pos rfl, if_pos rfl, sum_f _ [s, a, f] (by simp) (by simp; omega), Option.bind_some]
    by_cases neg : s < 0 ∨ a < 0 ∨ f < 0
    · have hany : ([s, a, f] : List Int).any (· < 0) = true := by
        rw [List.any_eq_true]
        rcases neg with g | g | g
        · exact ⟨s, by simp, by simpa using g⟩
        · exact ⟨a, by simp, by simpa using g⟩
        · exact ⟨f, by simp, by simpa using g⟩
      have hfo : fo false 0 [s, a, f] = (0, 1) := by unfold fo; rw [hany, if_pos rfl]
      rw [hfo, if_pos rfl, answer_f (0, 1), Option.bind_some]
      refine ⟨_, rfl, ?_⟩
      simp only [bautaref27_Random.j0]
      by_cases g1 : s < 0
      · rw [if_pos g1, if_pos trivial]; rfl
      · rw [if_neg g1]
        by_cases g2 : a < 0
        · rw [if_pos g2, if_pos trivial]; rfl
        · rw [if_neg g2, if_pos (decide_eq_true (by omega))]; rfl
    · have s0 : 0 ≤ s := by omega
      have a0 : 0 ≤ a := by omega
      have f0 : 0 ≤ f := by omega
      have hF := fo_fine false 0 [s, a, f] (any_three s0 a0 f0) (by decide) (by decide)
      have hne : ¬ (fo false 0 [s, a, f]).2 = 1 := by
        rcases hF with ⟨e, _, _⟩ | ⟨_, e⟩ <;> omega
      have hP := fo_fine true 1 [d, s] (any_two (by omega) s0) (by decide) (by decide)
      have hS := fo_fine false 0 [a, f] (any_two a0 f0) (by decide) (by decide)
      have hw1 : wrap64 (d + 1) = d + 1 := w64 (by omega) (by omega)
      have dd : 0 ≤ d * (d + 1) ∧ d * (d + 1) ≤ 2147483647 := by
        have := mul_bound (n := d) (x := d + 1) (by omega) (by omega) (by omega) (by omega)
        have h7 : d * (d + 1) ≤ 6 * 7 := Int.mul_le_mul d6 (by omega) (by omega) (by decide)
        omega
      have hw2 : wrap64 (d * (d + 1)) = d * (d + 1) := w64 (by omega) (by omega)
      simp only [bautaref27_Random.j0, bautaref27_Random.j1]
      rw [if_neg hne, if_neg (show ¬ s < 0 by omega), if_neg (show ¬ a < 0 by omega), if_neg (show ¬ decide (f < 0) = true by simpa using f0), product_f _ [d, s] (by simp) (by simp; omega), sum_f _ [a, f] (by simp) (by simp; omega),
        product_f _ [d, wrap64 (d + 1)] (by simp) (by simp; omega), refmul_f _ [d, s] (by simp) (by simp; omega), refadd_f _ [a, f] (by simp) (by simp; omega), hw1, fo_mul (n := d) (x := d + 1) (by omega) (by omega) (by omega) (by omega), ck_of dd.1 dd.2]
      simp only [Option.bind_some]
      generalize fo true 1 [d, s] = P at hP
      generalize fo false 0 [a, f] = S at hS
      obtain ⟨m, e⟩ := P
      obtain ⟨n, g⟩ := S
      rw [with_f (n, g) (d * (d + 1), 0) true]
      rcases hP with ⟨p1, p2, p3⟩ | ⟨p1, p2⟩
      · simp only at p1 p2 p3
        subst p1
        rcases hS with ⟨s1, s2, s3⟩ | ⟨s1, s2⟩
        · simp only at s1 s2 s3
          subst s1
          rw [wi_mul s2 s3 dd.1 dd.2, if_pos rfl, if_neg (show ¬ (((0 : Int) != 0) = true) by decide), hw2, refmul_f _ [n, d * (d + 1)] (by simp) (by simp; omega), fo_mul s2 s3 dd.1 dd.2]
          have hG := ck_fine (n * (d * (d + 1))) (Int.mul_nonneg s2 dd.1)
          simp only [Option.bind_some]
          generalize ck (n * (d * (d + 1))) = G at hG
          obtain ⟨q, r⟩ := G
          rcases hG with ⟨g1, g2, g3⟩ | ⟨g1, g2⟩
          · simp only at g1 g2 g3
            subst g1
            rw [tdiv2 g2 g3, with_f (m, 0) (q / 2, 0) false, wi_add p2 p3 (by omega) (by omega), if_pos rfl, refadd_f _ [m, q / 2] (by simp) (by simp; omega), fo_add p2 p3 (by omega) (by omega)]
            simp only [Option.bind_some]
            rw [answer_f, ans_fine (ck_fine _ (by omega))]
            exact ⟨_, rfl, rfl⟩
          · simp only at g1 g2
            subst g1; subst g2
            rw [with_f (m, 0) (wrap64 (Int.tdiv 0 2), 150) false, if_neg (by decide), wi_bad2]
            simp only [Option.bind_some]
            rw [answer_f (wrap64 (Int.tdiv 0 2), 150)]
            exact ⟨_, rfl, rfl⟩
        · simp only at s1 s2
          subst s1; subst s2
          rw [wi_bad, if_pos rfl, if_pos (show ((150 : Int) != 0) = true from rfl)]
          simp only [Option.bind_some]
          rw [with_f (m, 0) (wrap64 (Int.tdiv 0 2), 150) false, wi_bad2]
          simp only [Option.bind_some]
          rw [answer_f (wrap64 (Int.tdiv 0 2), 150)]
          exact ⟨_, rfl, rfl⟩
      · simp only at p1 p2
        subst p1; subst p2
        rw [if_neg (show ¬ ((0, 150) : Int × Int).2 = 0 by decide), if_pos trivial]
        simp only [Option.bind_some]
        rw [with_f (0, 150) (wrap64 (Int.tdiv (wi (n, g) (d * (d + 1), 0) true).1 2), (wi (n, g) (d * (d + 1), 0) true).2) false, wi_bad]
        simp only [Option.bind_some]
        rw [answer_f (0, 150)]
        exact ⟨_, rfl, rfl⟩
theorem LimitsRandom : bautalaw27_LimitsRandom.Pure := by
  intro d x y z _ _ _ _
  obtain ⟨k, hk⟩ : ∃ k : Nat, 110 ≤ k := ⟨110, by omega⟩
  refine ⟨k, ?_⟩
  obtain ⟨r, h1, h2⟩ := random_same k hk d x y z
  unfold bautalaw27_LimitsRandom.f
  rw [h1, h2, Option.bind_some, Option.bind_some, if_pos rfl, if_pos rfl, lives_k (by omega)]
  rfl
end Go.Proofs.Ytekddhlnpjjlhaa.Pure
