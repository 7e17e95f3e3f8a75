/- ImageFinds: where a name's cell is. No condition but the hypotheses that the theorem states. -/
import Derived.Test.YtimhllaahihhgaaPFx2
namespace Go.Proofs.Ytimhllaahihhgaa.Pure
set_option linter.unusedVariables false
open Go.RowKit Go.Proofs.Ytimhllaahihhgaa.PF Go.Proofs.YtimhllaahihhgaaW.PrintWords Go.Proofs.YtimhllaahihhgaaW.PrintLast Go.Proofs.YtimhllaahihhgaaW.PrintMore
theorem rd_drop (xs : List S26) (i : Nat) : rd_T26 xs (i : Int) = (xs.drop i).headD z26 := by
  unfold rd_T26
  rw [List.getD_eq_getElem?_getD, show ((i : Int)).toNat = i from rfl]
  rcases Nat.lt_or_ge i xs.length with h | h
  · rw [List.drop_eq_getElem_cons h, List.getElem?_eq_getElem h]; rfl
  · rw [List.drop_of_length_le h, List.getElem?_eq_none h]; rfl
theorem finds_l (xs : List S26) (n : ByteArray) (a : Int) (b : Bool) (hl : xs.length < 5864062014805)
    (hf : image_Find.f xs n = some (a, b)) : ∀ (d k i : Nat), i + d = xs.length → d < k → idxOf (hasName n) 0 xs = idxOf (hasName n) i (xs.drop i) → bautalaw03_ImageFinds.l0 k xs n a b (i : Int) = some true := by
  intro d
  induction d with
  | zero =>
    intro k i hi hk hx
    obtain ⟨k, rfl⟩ : ∃ m, k = m + 1 := ⟨k - 1, by omega⟩
    have hd : xs.drop i = [] := List.drop_of_length_le (by omega)
    rw [hd] at hx
    have hx' : idxOf (hasName n) 0 xs = -1 := hx
    unfold image_Find.f at hf
    rw [hx', if_pos (by omega)] at hf
    simp only [Option.some.injEq, Prod.mk.injEq] at hf
    obtain ⟨rfl, rfl⟩ := hf
    simp only [bautalaw03_ImageFinds.l0]
    rw [if_neg (by omega), if_neg (show ¬ (false = true) by decide), if_pos trivial]
    rfl
  | succ d ih =>
    intro k i hi hk hx
    obtain ⟨k, rfl⟩ : ∃ m, k = m + 1 := ⟨k - 1, by omega⟩
    rw [drop_T26 xs i (by omega)] at hx
    simp only [bautalaw03_ImageFinds.l0]
    rw [if_pos (by omega), if_pos (by omega)]
    by_cases hc : (rd_T26 xs (i : Int)).f0.toList = n.toList
    · have hh : hasName n (rd_T26 xs (i : Int)) = true := by unfold hasName; rw [hc]; exact beq_self_eq_true _
      have hx' : idxOf (hasName n) 0 xs = (i : Int) := by rw [hx]; show (if hasName n (rd_T26 xs (i : Int)) = true then (i : Int) else _) = _; rw [if_pos hh]
      unfold image_Find.f at hf
      rw [hx', if_neg (by omega)] at hf
      simp only [Option.some.injEq, Prod.mk.injEq] at hf
      obtain ⟨rfl, rfl⟩ := hf
      rw [if_pos hc, if_pos rfl, if_pos rfl]
      rfl
    · have hh : ¬ hasName n (rd_T26 xs (i : Int)) = true := by unfold hasName; intro h; exact hc (eq_of_beq h)
      have hx' : idxOf (hasName n) 0 xs = idxOf (hasName n) (i + 1) (xs.drop (i + 1)) := by rw [hx]; show (if hasName n (rd_T26 xs (i : Int)) = true then (i : Int) else _) = _; rw [if_neg hh]
      rw [if_neg hc, show wrap64 ((i : Int) + 1) = ((i + 1 : Nat) : Int) by unfold wrap64; omega]
      exact ih k (i + 1) (by omega) (by omega) hx'
theorem finds_f (xs : List S26) (n : ByteArray) (hl : xs.length < 5864062014805) : ∃ k, bautalaw03_ImageFinds.f k xs n = some true := by
  refine ⟨xs.length + 1, ?_⟩
  unfold bautalaw03_ImageFinds.f
  rw [Option.bind_some, if_pos (by simpa using hl), List.nil_append]
  obtain ⟨⟨a, b⟩, hf⟩ : ∃ r, image_Find.f xs n = some r := by
    unfold image_Find.f
    split
    · exact ⟨_, rfl⟩
    · exact ⟨_, rfl⟩
  rw [hf, Option.bind_some]
  exact finds_l xs n a b hl hf xs.length (xs.length + 1) 0 (by omega) (by omega) rfl
theorem ImageFinds_walk (a0 : Option Addr) (cap0 : Nat) (l0 : List S26) (a1 : ByteArray) (w : World) (hC : Kd.C k26 w a0 l0.length l0) (hc : l0.length ≤ cap0) (hl : l0.length * 24 ≤ 140737488351232) :
    Calls Try.prog 3 #[.slice a0 l0.length cap0, .string a1] w fun e w' => e = .returned (.bool true) ∧ Below w.heap.size w w' := by
  obtain ⟨k, hk⟩ := finds_f l0 a1 (by omega)
  exact bautalaw03_ImageFinds.calls k a0 cap0 l0 a1 true w hC hc hk
end Go.Proofs.Ytimhllaahihhgaa.Pure
