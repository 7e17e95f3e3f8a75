/- What the reference's Bits and Word, and the laws' 'lives', come to, in plain Lean. -/
import Derived.Test.YtkcechbibabpjaaBits
import Derived.Test.YtkcechbibabpjaaPBx2
namespace Go.Proofs.Ytkcechbibabpjaa.BW
open Go.Proofs.Ytkcechbibabpjaa.B
open Go.RowKit Go.Proofs.Ytkcechbibabpjaa.PB Go.Proofs.YtkcechbibabpjaaW.PrintWords Go.Proofs.YtkcechbibabpjaaW.PrintLast Go.Proofs.YtkcechbibabpjaaW.PrintMore

theorem w64 {i : Int} (h : -9000000000000000000 ≤ i) (h' : i ≤ 9000000000000000000) : wrap64 i = i := by unfold wrap64; omega

theorem range_cons (n : Nat) (f : Nat → Bool) : (List.range (n + 1)).map f = f 0 :: (List.range n).map (fun j => f (j + 1)) := by
  rw [List.range_succ_eq_map, List.map_cons, List.map_map]; rfl

theorem bits_l0 (d : Nat) : ∀ (k x i : Nat) (l : List Bool), x < 4294967296 → i + d = 32 → l.length = i → d < k →
    bautaref01_Bits.l0 k (x : Int) l (i : Int) = some (l ++ (List.range d).map x.testBit) := by
  induction d with
  | zero =>
    intro k x i l hx hi hl hk
    obtain ⟨k, rfl⟩ : ∃ m, k = m + 1 := ⟨k - 1, by omega⟩
    simp only [bautaref01_Bits.l0]
    rw [if_neg (by omega)]; simp
  | succ d ih =>
    intro k x i l hx hi hl hk
    obtain ⟨k, rfl⟩ : ∃ m, k = m + 1 := ⟨k - 1, by omega⟩
    simp only [bautaref01_Bits.l0]
    have h1 : Int.tdiv (x : Int) 2 % 4294967296 = ((x / 2 : Nat) : Int) := by
      rw [Int.tdiv_eq_ediv_of_nonneg (by omega)]; omega
    have h2 : (Int.tmod (x : Int) 2 == 1) = x.testBit 0 := by
      rw [Int.tmod_eq_emod_of_nonneg (by omega), Nat.testBit_zero]
      by_cases h : x % 2 = 1
      · rw [decide_eq_true h]; exact beq_iff_eq.mpr (by omega)
      · rw [decide_eq_false h]; exact beq_eq_false_iff_ne.mpr (by omega)
    rw [if_pos (by omega), if_pos (by omega), w64 (by omega) (by omega), h1, h2, show ((i : Int) + 1) = ((i + 1 : Nat) : Int) by omega,
      ih k (x / 2) (i + 1) (l ++ [x.testBit 0]) (by omega) (by omega) (by simp [hl]) (by omega), range_cons]
    simp [Nat.testBit_div_two]
theorem bits_f (k x : Nat) (hx : x < 4294967296) (hk : 32 < k) : bautaref01_Bits.f k (x : Int) = some (bitsOf x) := by
  have := bits_l0 32 k x 0 [] hx rfl rfl hk
  simpa [bautaref01_Bits.f, bitsOf] using this

theorem drop_at (l : List Bool) (i : Nat) (hi : i < l.length) : l.drop i = l.getD i false :: l.drop (i + 1) := by
  rw [List.drop_eq_getElem_cons hi, List.getD_eq_getElem?_getD, List.getElem?_eq_getElem hi]; rfl
theorem word_l0 (l : List Bool) (hl : l.length ≤ 32) (i : Nat) : ∀ (k : Nat), i ≤ l.length → i < k →
    bautaref01_Word.l0 k l (ofB (l.drop i) : Int) ((i : Int) - 1) = some (ofB l : Int) := by
  induction i with
  | zero =>
    intro k hi hk
    obtain ⟨k, rfl⟩ : ∃ m, k = m + 1 := ⟨k - 1, by omega⟩
    simp only [bautaref01_Word.l0]
    rw [if_neg (by omega)]; simp
  | succ i ih =>
    intro k hi hk
    obtain ⟨k, rfl⟩ : ∃ m, k = m + 1 := ⟨k - 1, by omega⟩
    simp only [bautaref01_Word.l0]
    have e : ((i + 1 : Nat) : Int) - 1 = (i : Int) := by omega
    have hlt : ofB (l.drop i) < 4294967296 := Nat.lt_of_lt_of_le (ofB_lt _) (Nat.le_trans (Nat.pow_le_pow_right (by decide) (by rw [List.length_drop]; omega)) (by decide : 2 ^ 32 ≤ 4294967296))
    have hd := drop_at l i (by omega)
    rw [hd] at hlt
    simp only [ofB] at hlt
    have step := ih k (by omega) (by omega)
    rw [hd] at step
    simp only [ofB] at step
    rw [e, if_pos (by omega), if_pos (by omega), if_pos (by omega), getD_at, w64 (by omega) (by omega)]
    cases hb : l.getD i false with
    | false =>
      rw [hb] at step hlt
      rw [if_neg (by decide), show ((ofB (l.drop (i + 1)) : Int) * 2) % 4294967296 = ((2 * ofB (l.drop (i + 1)) + Bool.toNat false : Nat) : Int) by simp at hlt ⊢; omega]
      exact step
    | true =>
      rw [hb] at step hlt
      rw [if_pos rfl, show ((((ofB (l.drop (i + 1)) : Int) * 2) % 4294967296) + 1) % 4294967296 = ((2 * ofB (l.drop (i + 1)) + Bool.toNat true : Nat) : Int) by simp at hlt ⊢; omega]
      exact step
theorem word_f (k : Nat) (l : List Bool) (hl : l.length ≤ 32) (hk : 32 < k) : bautaref01_Word.f k l = some (ofB l : Int) := by
  have := word_l0 l hl l.length k (Nat.le_refl _) (by omega)
  rw [List.drop_length] at this
  unfold bautaref01_Word.f
  rw [w64 (by omega) (by omega)]
  exact this
end Go.Proofs.Ytkcechbibabpjaa.BW
