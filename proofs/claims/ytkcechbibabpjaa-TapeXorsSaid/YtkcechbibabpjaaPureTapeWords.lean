/- TapeWords: the first words of any seed are the document's. No condition. -/
import Derived.Test.YtkcechbibabpjaaPureTapeS
namespace Go.Proofs.Ytkcechbibabpjaa.Pure
set_option linter.unusedVariables false
open Go.RowKit Go.Proofs.Ytkcechbibabpjaa.B Go.Proofs.Ytkcechbibabpjaa.BW Go.Proofs.Ytkcechbibabpjaa.PB Go.Proofs.YtkcechbibabpjaaW.PrintWords Go.Proofs.YtkcechbibabpjaaW.PrintLast Go.Proofs.YtkcechbibabpjaaW.PrintMore
theorem wf64 {x : Int} (h : (Lit.int .u64 x).wf = true) : ∃ a : Nat, x = (a : Int) ∧ a < 18446744073709551616 := by
  have hw := h
  simp [Lit.wf, IntKind.min, IntKind.max, IntKind.signed, IntKind.bits] at hw
  exact ⟨x.toNat, by omega, by omega⟩
theorem ref_words_neg (k s : Nat) (a1 : Int) (ha : a1 < 0) (hk : 1 ≤ k) : bautaref38_Words.f k (s : Int) a1 = some [] := by
  obtain ⟨k, rfl⟩ : ∃ m, k = m + 1 := ⟨k - 1, by omega⟩
  unfold bautaref38_Words.f
  simp only [bautaref38_Words.l0]
  rw [if_neg (by simp; omega), if_pos ha, if_pos (by omega)]
  rfl
theorem words_j (k s : Nat) (a1 : Int) (hs : s < 18446744073709551616) (h : a1 ≤ 500) (hk : 700001 ≤ k) : bautalaw38_TapeWords.j0 k (s : Int) a1 = some true := by
  obtain ⟨k, rfl⟩ : ∃ m, k = m + 1 := ⟨k - 1, by omega⟩
  simp only [bautalaw38_TapeWords.j0]
  unfold tape_Words.f
  rcases Int.lt_or_le a1 0 with h0 | h0
  · have e : mn (mx a1 0) 1048576 = ((0 : Nat) : Int) := by unfold mn mx; split <;> split <;> omega
    have hw := words_f k s 0 0 hs (by omega) (by omega) (by omega)
    rw [e, show (0 : Int) = ((0 : Nat) : Int) from rfl, hw, Option.bind_some, Option.bind_some]
    rw [ref_words_neg k s a1 h0 (by omega), Option.bind_some]
    have hsame := same_f k [] (by simp) (by simp; omega)
    rw [show (List.map (fun i => wv (s % 4294967296) (s / 4294967296) (16 * 0 + i)) (List.range 0)) = [] from rfl, hsame, Option.bind_some, if_pos rfl, lives_f]
    rfl
  · obtain ⟨n, rfl⟩ := Int.eq_ofNat_of_zero_le h0
    have e : mn (mx (n : Int) 0) 1048576 = (n : Int) := by unfold mn mx; split <;> split <;> omega
    have hw := words_f k s 0 n hs (by omega) (by omega) (by omega)
    rw [e, show (0 : Int) = ((0 : Nat) : Int) from rfl, hw, Option.bind_some, Option.bind_some]
    rw [ref_words_f k s n hs (by omega) (by omega), Option.bind_some]
    rw [show (fun i => wv (s % 4294967296) (s / 4294967296) (16 * 0 + i)) = (fun i => wv (s % 4294967296) (s / 4294967296) i) from funext fun i => by rw [show 16 * 0 + i = i by omega]]
    rw [same_f k _ (by simp; omega) (by simp; omega), Option.bind_some, if_pos rfl, lives_f]
    rfl
theorem TapeWords : bautalaw38_TapeWords.Pure := by
  intro a0 a1 w0 w1
  obtain ⟨s, rfl, hs⟩ := wf64 w0
  obtain ⟨k, hk⟩ : ∃ k : Nat, 700001 ≤ k := ⟨700001, Nat.le_refl _⟩
  refine ⟨k, ?_⟩
  unfold bautalaw38_TapeWords.f
  split
  · exact words_j k s 500 hs (by omega) hk
  · exact words_j k s a1 hs (by omega) hk
end Go.Proofs.Ytkcechbibabpjaa.Pure
