/- TapeParts: a part is a part of all words. No condition. -/
import Derived.Test.YtkcechbibabpjaaPureTapeWords
namespace Go.Proofs.Ytkcechbibabpjaa.Pure
set_option linter.unusedVariables false
open Go.RowKit Go.Proofs.Ytkcechbibabpjaa.B Go.Proofs.Ytkcechbibabpjaa.BW Go.Proofs.Ytkcechbibabpjaa.PB Go.Proofs.YtkcechbibabpjaaW.PrintWords Go.Proofs.YtkcechbibabpjaaW.PrintLast Go.Proofs.YtkcechbibabpjaaW.PrintMore
theorem drop_stream (g : Nat → Int) (o n : Nat) : ((List.range (o + n)).map g).drop o = (List.range n).map fun i => g (o + i) := by
  rw [List.range_add, List.map_append, List.drop_left' (by simp), List.map_map]
  rfl
theorem tm (a b : Nat) (hb : 0 < b) : Int.tmod (a : Int) (b : Int) = ((a % b : Nat) : Int) := by rw [Int.tmod_eq_emod_of_nonneg (by omega)]; omega
theorem td (a b : Nat) : Int.tdiv (a : Int) (b : Int) = ((a / b : Nat) : Int) := by rw [Int.tdiv_eq_ediv_of_nonneg (by omega)]; omega
/-- A part of the stream. -/
noncomputable def part (s f n : Nat) : List Int := (List.range n).map fun i => wv (s % 4294967296) (s / 4294967296) (f + i)
theorem part_length (s f n : Nat) : (part s f n).length = n := by simp [part]
theorem part_f (k s f n : Nat) (hs : s < 18446744073709551616) (hf : f ≤ 1048576) (hn : n ≤ 1048576 - f) (hk : 700000 ≤ k) : tape_Part.f k (s : Int) (f : Int) (n : Int) = some (part s f n) := by
  unfold tape_Part.f
  rw [if_neg (by omega), if_neg (by omega), if_neg (by omega), w64 (i := 1048576 - (f : Int)) (by omega) (by omega), if_neg (by omega)]
  rw [show (16 : Int) = ((16 : Nat) : Int) from rfl, tm f 16 (by decide), td f 16, w64 (by omega) (by omega), w64 (by omega) (by omega)]
  rw [show ((f % 16 : Nat) : Int) + (n : Int) = ((f % 16 + n : Nat) : Int) by omega, words_f k s (f / 16) (f % 16 + n) hs (by omega) (by omega) hk, Option.bind_some, if_pos (by omega), if_pos (by simp; omega)]
  rw [show ((f % 16 : Nat) : Int).toNat = f % 16 from rfl, drop_stream]
  unfold part
  rw [show (fun i => wv (s % 4294967296) (s / 4294967296) (16 * (f / 16) + (f % 16 + i))) = (fun i => wv (s % 4294967296) (s / 4294967296) (f + i)) from funext fun i => by rw [show 16 * (f / 16) + (f % 16 + i) = f + i by omega]]
theorem part_none (k s : Nat) (a1 a2 : Int) (h : a1 < 0 ∨ a2 < 0 ∨ a1 > 1048576 ∨ (0 ≤ a1 ∧ a1 ≤ 1048576 ∧ a2 > 1048576 - a1)) : tape_Part.f k (s : Int) a1 a2 = some [] := by
  unfold tape_Part.f
  by_cases h1 : a1 < 0
  · rw [if_pos h1]
  rw [if_neg h1]
  by_cases h2 : a2 < 0
  · rw [if_pos h2]
  rw [if_neg h2]
  by_cases h3 : a1 > 1048576
  · rw [if_pos h3]
  rw [if_neg h3, w64 (by omega) (by omega), if_pos (by omega)]
theorem parts_none (k s : Nat) (a1 a2 : Int) (hk : 2 ≤ k) : bautalaw38_TapeParts.j0 k (s : Int) a1 a2 [] true = some true := by
  obtain ⟨k, rfl⟩ : ∃ m, k = m + 1 := ⟨k - 1, by omega⟩
  simp only [bautalaw38_TapeParts.j0]
  rw [if_pos trivial, if_pos (by simp), lives_f]
  rfl
theorem parts_some (k s f n : Nat) (hs : s < 18446744073709551616) (hf : f ≤ 1048576) (hn : n ≤ 1048576 - f) (hk : 700001 ≤ k) : bautalaw38_TapeParts.j0 k (s : Int) (f : Int) (n : Int) (part s f n) false = some true := by
  obtain ⟨k, rfl⟩ : ∃ m, k = m + 1 := ⟨k - 1, by omega⟩
  have hl := part_length s f n
  simp only [bautalaw38_TapeParts.j0]
  rw [if_neg (show ¬ (false = true) by decide)]
  by_cases h1 : (n : Int) > 400
  · rw [if_pos h1, if_pos (by rw [hl]), lives_f]
    rfl
  rw [if_neg h1]
  by_cases h2 : (f : Int) > 2000
  · have hp := part_f k s (f - f % 16) (n + f % 16) hs (by omega) (by omega) (by omega)
    have hd : (part s (f - f % 16) (n + f % 16)).drop (f % 16) = part s f n := by
      unfold part
      rw [show n + f % 16 = f % 16 + n by omega, drop_stream]
      rw [show (fun i => wv (s % 4294967296) (s / 4294967296) (f - f % 16 + (f % 16 + i))) = (fun i => wv (s % 4294967296) (s / 4294967296) (f + i)) from funext fun i => by rw [show f - f % 16 + (f % 16 + i) = f + i by omega]]
    rw [if_pos h2, show (16 : Int) = ((16 : Nat) : Int) from rfl, tm f 16 (by decide), w64 (by omega) (by omega), w64 (by omega) (by omega)]
    rw [show (f : Int) - ((f % 16 : Nat) : Int) = ((f - f % 16 : Nat) : Int) by omega, show (n : Int) + ((f % 16 : Nat) : Int) = ((n + f % 16 : Nat) : Int) by omega]
    rw [hp, Option.bind_some, if_pos (by rw [hl]), if_pos (by rw [part_length]), if_pos (by omega), if_pos (by rw [part_length]; omega)]
    rw [show ((f % 16 : Nat) : Int).toNat = f % 16 from rfl, hd, same_f k _ (by rw [hl]; omega) (by rw [hl]; omega), Option.bind_some, if_pos rfl, lives_f]
    rfl
  · rw [if_neg h2, w64 (by omega) (by omega), show (f : Int) + (n : Int) = ((f + n : Nat) : Int) by omega, ref_words_f k s (f + n) hs (by omega) (by omega), Option.bind_some, if_pos (by omega), if_pos (by simp; omega)]
    rw [show ((f : Nat) : Int).toNat = f from rfl, drop_stream]
    rw [show (List.range n).map (fun i => wv (s % 4294967296) (s / 4294967296) (f + i)) = part s f n from rfl, same_f k _ (by rw [hl]; omega) (by rw [hl]; omega), Option.bind_some, if_pos rfl, lives_f]
    rfl
theorem TapeParts : bautalaw38_TapeParts.Pure := by
  intro a0 a1 a2 w0 w1 w2
  obtain ⟨s, rfl, hs⟩ := wf64 w0
  obtain ⟨k, hk⟩ : ∃ k : Nat, 700001 ≤ k := ⟨700001, Nat.le_refl _⟩
  refine ⟨k, ?_⟩
  unfold bautalaw38_TapeParts.f
  by_cases h1 : a1 < 0
  · rw [part_none k s a1 a2 (Or.inl h1), Option.bind_some, if_pos h1, parts_none k s a1 a2 (by omega)]
  by_cases h2 : a2 < 0
  · rw [part_none k s a1 a2 (Or.inr (Or.inl h2)), Option.bind_some, if_neg h1, if_pos h2, parts_none k s a1 a2 (by omega)]
  by_cases h3 : a1 > 1048576
  · rw [part_none k s a1 a2 (Or.inr (Or.inr (Or.inl h3))), Option.bind_some, if_neg h1, if_neg h2, if_pos h3, parts_none k s a1 a2 (by omega)]
  by_cases h4 : a2 > 1048576 - a1
  · rw [part_none k s a1 a2 (Or.inr (Or.inr (Or.inr ⟨by omega, by omega, h4⟩))), Option.bind_some, if_neg h1, if_neg h2, if_neg h3, w64 (by omega) (by omega), decide_eq_true h4, parts_none k s a1 a2 (by omega)]
  · obtain ⟨f, rfl⟩ := Int.eq_ofNat_of_zero_le (show 0 ≤ a1 by omega)
    obtain ⟨n, rfl⟩ := Int.eq_ofNat_of_zero_le (show 0 ≤ a2 by omega)
    rw [part_f k s f n hs (by omega) (by omega) (by omega), Option.bind_some, if_neg h1, if_neg h2, if_neg h3, w64 (by omega) (by omega), decide_eq_false h4]
    exact parts_some k s f n hs (by omega) (by omega) hk
end Go.Proofs.Ytkcechbibabpjaa.Pure
