/- A 128-bit product compared. Plain Lean. -/
import Derived.Test.YtbohanoekboifaaBits
import Derived.Test.YtbohanoekboifaaPureOver
import Derived.Test.YtbohanoekboifaaPWx4
namespace Go.Proofs.Ytbohanoekboifaa.BO
open Go.RowKit Go.Proofs.Ytbohanoekboifaa.PW Go.Proofs.YtbohanoekboifaaW.PrintWords Go.Proofs.YtbohanoekboifaaW.PrintLast Go.Proofs.YtbohanoekboifaaW.PrintMore
set_option linter.unusedVariables false

theorem and_m (n : Nat) (h : n < 18446744073709551616) : Go.bits .and .u64 (n : Int) 4294967295 = ((n % 4294967296 : Nat) : Int) := by
  rw [show (4294967295 : Int) = ((4294967295 : Nat) : Int) from rfl, bits_and_u64_nat n 4294967295 (by omega) (by omega)]
  congr 1
  exact Nat.and_two_pow_sub_one_eq_mod n 32
theorem mul_f (a b : Nat) (ha : a < 4611686018427387904) (hb : b < 4294967296) : bits_Mul64.f (a : Int) (b : Int) = some (((a * b / 18446744073709551616 : Nat) : Int), ((a * b % 18446744073709551616 : Nat) : Int)) := by
  unfold bits_Mul64.f
  have hP : a / 4294967296 * b < 4611686018427387904 := by
    have h1 : a / 4294967296 < 1073741824 := by omega
    calc a / 4294967296 * b ≤ 1073741823 * b := Nat.mul_le_mul_right b (by omega)
      _ ≤ 1073741823 * 4294967296 := Nat.mul_le_mul_left _ (by omega)
      _ < 4611686018427387904 := by decide
  have hQ : a % 4294967296 * b < 18446744073709551616 := by
    calc a % 4294967296 * b ≤ 4294967295 * b := Nat.mul_le_mul_right b (by omega)
      _ ≤ 4294967295 * 4294967296 := Nat.mul_le_mul_left _ (by omega)
      _ < 18446744073709551616 := by decide
  have hab : a * b = a / 4294967296 * b * 4294967296 + a % 4294967296 * b := by
    conv => lhs; rw [← Nat.div_add_mod a 4294967296]
    rw [Nat.add_mul, Nat.mul_comm 4294967296, Nat.mul_right_comm]
  rw [and_m a (by omega), and_m b (by omega), Nat.mod_eq_of_lt hb, show ((b : Int) / 4294967296) = 0 by omega, show ((a : Int) / 4294967296) = ((a / 4294967296 : Nat) : Int) by omega]
  rw [Int.mul_zero, Int.mul_zero, ← Int.natCast_mul, ← Int.natCast_mul, ← Int.natCast_mul, hab]
  generalize a / 4294967296 * b = P at hP ⊢
  generalize a % 4294967296 * b = Q at hQ ⊢
  have hT : IntKind.u64.wrap (IntKind.u64.wrap (P : Int) + IntKind.u64.wrap (Q : Int) / 4294967296) = ((P + Q / 4294967296 : Nat) : Int) := by
    simp only [Ytbohanoekboifaa.B.wrap_u64]; omega
  rw [hT, and_m _ (by omega)]
  simp only [Ytbohanoekboifaa.B.wrap_u64]
  congr 1
  refine Prod.ext ?_ ?_
  · show _ = (((P * 4294967296 + Q) / 18446744073709551616 : Nat) : Int)
    simp only []
    omega
  · show _ = (((P * 4294967296 + Q) % 18446744073709551616 : Nat) : Int)
    simp only []
    omega
/-- What class a score is of. -/
def cl (u d : Int) : Int := if d > 0 then 1 else if u > 0 then 2 else 0
theorem class_f (u d : Int) : stats_score_class.f u d = some (cl u d) := by unfold stats_score_class.f cl; split <;> (try split) <;> rfl
theorem refclass_f (u d : Int) : bautaref39_class.f u d = some (cl u d) := by unfold bautaref39_class.f cl; split <;> (try split) <;> rfl
theorem prod_gt (x y : Nat) : (x / 18446744073709551616 > y / 18446744073709551616 ∨ (x / 18446744073709551616 = y / 18446744073709551616 ∧ x % 18446744073709551616 > y % 18446744073709551616)) ↔ y < x := by omega
theorem above_f (k : Nat) (u d v e : Int) (h : cl u d = 1 → cl v e = 1 → 0 ≤ u ∧ u < 4611686018427387904 ∧ 0 ≤ v ∧ v < 4611686018427387904 ∧ d < 1073741824 ∧ e < 1073741824) :
    stats_score_above.f (k + 1) u d v e = some (if cl u d = 1 ∧ cl v e = 1 then decide (v.toNat * d.toNat < u.toNat * e.toNat) else decide (cl u d > cl v e)) := by
  unfold stats_score_above.f
  rw [class_f, Option.bind_some, class_f, Option.bind_some]
  by_cases c1 : cl u d = cl v e
  · rw [if_pos c1]
    simp only [stats_score_above.j0]
    by_cases c2 : cl u d = 1
    · obtain ⟨h1, h2, h3, h4, h5, h6⟩ := h c2 (by omega)
      rw [if_neg (by simp [c2]), if_pos ⟨c2, by omega⟩]
      have hd : 0 < d := by unfold cl at c2; split at c2 <;> (try split at c2) <;> omega
      have he : 0 < e := by rw [c1] at c2; unfold cl at c2; split at c2 <;> (try split at c2) <;> omega
      obtain ⟨U, rfl⟩ : ∃ n : Nat, u = (n : Int) := ⟨u.toNat, by omega⟩
      obtain ⟨V, rfl⟩ : ∃ n : Nat, v = (n : Int) := ⟨v.toNat, by omega⟩
      obtain ⟨D, rfl⟩ : ∃ n : Nat, d = (n : Int) := ⟨d.toNat, by omega⟩
      obtain ⟨E, rfl⟩ : ∃ n : Nat, e = (n : Int) := ⟨e.toNat, by omega⟩
      have w : ∀ n : Nat, n < 18446744073709551616 → IntKind.u64.wrap (n : Int) = (n : Int) := fun n hn => by rw [Ytbohanoekboifaa.B.wrap_u64]; omega
      rw [w U (by omega), w E (by omega), w V (by omega), w D (by omega), mul_f U E (by omega) (by omega), Option.bind_some, mul_f V D (by omega) (by omega), Option.bind_some]
      show _ = some (decide (V * D < U * E))
      have pg := prod_gt (U * E) (V * D)
      generalize U * E = X at pg ⊢
      generalize V * D = Y at pg ⊢
      dsimp only
      by_cases g1 : ((X / 18446744073709551616 : Nat) : Int) > ((Y / 18446744073709551616 : Nat) : Int)
      · rw [if_pos g1, decide_eq_true (pg.mp (.inl (by omega)))]
      · rw [if_neg g1]
        by_cases g2 : ((X / 18446744073709551616 : Nat) : Int) = ((Y / 18446744073709551616 : Nat) : Int)
        · rw [if_pos g2]
          congr 1
          exact decide_eq_decide.mpr ⟨fun q => pg.mp (.inr ⟨by omega, by omega⟩), fun q => by rcases pg.mpr q with z | ⟨_, z⟩ <;> omega⟩
        · rw [if_neg g2, decide_eq_false (fun q => by rcases pg.mpr q with z | ⟨z, _⟩ <;> omega)]
    · rw [if_pos (by simp [c2]), if_neg (fun q => c2 q.1)]
  · rw [if_neg c1]
    simp only [stats_score_above.j0]
    rw [if_pos trivial, if_neg (fun q => c1 (by omega))]
end Go.Proofs.Ytbohanoekboifaa.BO
