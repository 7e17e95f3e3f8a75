/- The reference's first value in plain words. No program walked. No condition but the hypotheses that each theorem states. -/
import Derived.Test.YtialbhkamlfccaaM7
import Derived.Test.YtialbhkamlfccaaPure5
namespace Go.Proofs.Ytialbhkamlfccaa.PA
open Go.RowKit Go.Proofs.YtialbhkamlfccaaW.PrintWords Go.Proofs.YtialbhkamlfccaaW.PrintLast Go.Proofs.YtialbhkamlfccaaW.PrintMore Go.Proofs.Ytialbhkamlfccaa.Dia
set_option linter.unusedVariables false
set_option linter.unusedSimpArgs false
theorem any_l1 (v : Nat) (hv : v ≤ 40) (x : Nat) (hx : x < 9223372036854775808) : ∀ (k j : Nat), j ≤ v → v + v + 2 ≤ k + j → bautaref36_Any.l1 k (v : Int) ((List.range j).map (fun y => bitAt v x y)) (x : Int) (j : Int) = some ((List.range v).map (fun y => bitAt v x y), true)
  | 0, j, h1, h2 => by omega
  | k + 1, j, h1, h2 => by
    rw [bautaref36_Any.l1]
    by_cases hj : j < v
    · rw [if_pos (by omega), Bit_f (by omega) hj (by omega) hx, Option.bind_some, if_pos (by simp; omega), w64s (by omega), ← take_succ_map (fun y => bitAt v x y) j]
      exact any_l1 v hv x hx k (j + 1) (by omega) (by omega)
    · obtain rfl : j = v := by omega
      rw [if_neg (by omega)]
theorem any_l0 (v : Nat) (hv : v ≤ 40) (F : (Nat → Bool) → Bool) (x0 : Nat) (h0 : x0 < 2 ^ v) (ht : F (bitAt v x0) = true) (hf : ∀ x, x < x0 → F (bitAt v x) = false) : ∀ (k x : Nat), x ≤ x0 → x0 + v + v + 3 ≤ k + x → bautaref36_Any.l0 k (v : Int) (tab v F) [] (x : Int) = some ((List.range v).map (fun y => bitAt v x0 y), true)
  | 0, x, h1, h2 => by omega
  | k + 1, x, h1, h2 => by
    have hp : 2 ^ v ≤ 1099511627776 := by have := Nat.pow_le_pow_right (show 0 < 2 by decide) hv; omega
    rw [bautaref36_Any.l0, tab_length, if_pos (by omega), if_pos (by omega), tab_rd (show x < 2 ^ v by omega)]
    by_cases hx : x < x0
    · rw [hf x hx, if_neg (by decide), w64s (by omega)]
      exact any_l0 v hv F x0 h0 ht hf k (x + 1) (by omega) (by omega)
    · obtain rfl : x = x0 := by omega
      rw [ht, if_pos rfl]
      exact any_l1 v hv x (by omega) k 0 (Nat.zero_le _) (by omega)
theorem Any_f {v : Nat} (hv : v ≤ 40) {F : (Nat → Bool) → Bool} {x0 : Nat} (h0 : x0 < 2 ^ v) (ht : F (bitAt v x0) = true) (hf : ∀ x, x < x0 → F (bitAt v x) = false) : bautaref36_Any.f (x0 + v + v + 3) (v : Int) (tab v F) = some ((List.range v).map (fun y => bitAt v x0 y), true) :=
  any_l0 v hv F x0 h0 ht hf (x0 + v + v + 3) 0 (Nat.zero_le _) (Nat.le_refl _)
theorem any_none (v : Nat) (hv : v ≤ 40) (F : (Nat → Bool) → Bool) (hf : ∀ x, x < 2 ^ v → F (bitAt v x) = false) : ∀ (k x : Nat), x ≤ 2 ^ v → 2 ^ v + 1 ≤ k + x → bautaref36_Any.l0 k (v : Int) (tab v F) [] (x : Int) = some ([], false)
  | 0, x, h1, h2 => by omega
  | k + 1, x, h1, h2 => by
    have hp : 2 ^ v ≤ 1099511627776 := by have := Nat.pow_le_pow_right (show 0 < 2 by decide) hv; omega
    rw [bautaref36_Any.l0, tab_length]
    by_cases hx : x < 2 ^ v
    · rw [if_pos (by omega), if_pos (by omega), tab_rd hx, hf x hx, if_neg (by decide), w64s (by omega)]
      exact any_none v hv F hf k (x + 1) (by omega) (by omega)
    · rw [if_neg (by omega)]
theorem Any_f0 {v : Nat} (hv : v ≤ 40) {F : (Nat → Bool) → Bool} (hf : ∀ x, x < 2 ^ v → F (bitAt v x) = false) : bautaref36_Any.f (2 ^ v + 1) (v : Int) (tab v F) = some ([], false) :=
  any_none v hv F hf (2 ^ v + 1) 0 (Nat.zero_le _) (Nat.le_refl _)
/-- What the reference tells of a node's table. -/
theorem Any_node {vars : Nat} {ns : List Nd} (h : Inv vars ns) (hv : vars ≤ 40) {i : Nat} (h1 : 1 ≤ i) (hl : i < ns.length) : ∃ k, bautaref36_Any.f k (vars : Int) (tab vars (sem ns i)) = some ((List.range vars).map (path ns i), true) := by
  obtain ⟨p1, p2, p3⟩ := path_first h h1 hl
  refine ⟨_, (Any_f hv p2 p1 p3).trans ?_⟩
  congr 2
  apply List.map_congr_left
  intro v hv2
  have hv3 : v < vars := by simpa using hv2
  exact nv_bits vars _ (Nat.le_refl _) v (by omega) hv3
theorem Any_zero {vars : Nat} {ns : List Nd} (hv : vars ≤ 40) : bautaref36_Any.f (2 ^ vars + 1) (vars : Int) (tab vars (sem ns 0)) = some ([], false) := Any_f0 hv (fun x hx => sem_zero _)
end Go.Proofs.Ytialbhkamlfccaa.PA
