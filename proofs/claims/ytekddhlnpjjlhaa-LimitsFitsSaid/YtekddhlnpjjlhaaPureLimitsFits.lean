/- LimitsFits: which orders and which sizes there may be is what the reference says. No condition. -/
import Derived.Test.YtekddhlnpjjlhaaPureLim
import Derived.Test.YtekddhlnpjjlhaaPAllx5
namespace Go.Proofs.Ytekddhlnpjjlhaa.Pure
open Go.RowKit Go.Proofs.Ytekddhlnpjjlhaa.PAll Go.Proofs.YtekddhlnpjjlhaaW.PrintWords Go.Proofs.YtekddhlnpjjlhaaW.PrintLast
open Go.Proofs.Ytekddhlnpjjlhaa.B

theorem fits_same (k : Nat) (hk : 5 < k) (x y z : Int) : ∃ r, limits_Fits.f k x y z = some r ∧ bautaref27_Fits.f k x y z = some r := by
  obtain ⟨k, rfl⟩ : ∃ m, k = m + 1 := ⟨k - 1, by omega⟩
  unfold limits_Fits.f bautaref27_Fits.f
  simp only [limits_Fits.j0, bautaref27_Fits.j0]
  have tail : ∃ r, (if x > 60000 then some 150 else (if y > 16000 then some 150 else (if z > 1048576 then some 150 else some 0)) : Option Int) = some r := by
    split
    · exact ⟨_, rfl⟩
    · split
      · exact ⟨_, rfl⟩
      · split <;> exact ⟨_, rfl⟩
  by_cases a : x < 0
  · simp [a]
  · by_cases b : y < 0
    · simp [a, b]
    · by_cases c : z < 0
      · simp [a, b, c]
      · obtain ⟨r, hr⟩ := tail
        simp only [a, b, c, decide_false, Bool.false_eq_true, if_false]
        exact ⟨r, hr, hr⟩
theorem LimitsFits : bautalaw27_LimitsFits.Pure := by
  intro d x y z _ _ _ _
  obtain ⟨k, hk⟩ : ∃ k : Nat, 110 ≤ k := ⟨110, by omega⟩
  refine ⟨k, ?_⟩
  obtain ⟨r, h1, h2⟩ := fits_same k (by omega) x y z
  obtain ⟨o, ho⟩ : ∃ o, bautaref27_Order.f d = some o := by
    rcases order_some d with ⟨_, h⟩ | ⟨_, h⟩ | ⟨_, _, h⟩ <;> exact ⟨_, h⟩
  unfold bautalaw27_LimitsFits.f limits_Order.f
  rw [order_f, ho, h1, h2, Option.bind_some, Option.bind_some, Option.bind_some, if_pos rfl, Option.bind_some, Option.bind_some, if_pos rfl, lives_k (by omega)]
  rfl
end Go.Proofs.Ytekddhlnpjjlhaa.Pure
