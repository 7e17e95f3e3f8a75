/- WordTurns: any word, turned to the left by any number of bits, is the reference's, and what is turned back is the word. No condition. -/
import Derived.Test.YtamfpmlfhfkeoaaWordPure
import Derived.Test.YtamfpmlfhfkeoaaPAllx4
namespace Go.Proofs.Ytamfpmlfhfkeoaa.Pure
open Go.RowKit Go.Proofs.Ytamfpmlfhfkeoaa.PAll Go.Proofs.YtamfpmlfhfkeoaaW.PrintWords Go.Proofs.YtamfpmlfhfkeoaaW.PrintLast Go.Proofs.YtamfpmlfhfkeoaaW.PrintMore
open Go.Proofs.Ytamfpmlfhfkeoaa.B

/-- A word turned to the left. -/
def rotN (a s : Nat) : Nat := (a * 2 ^ s % 4294967296) ||| (a / 2 ^ (32 - s))
theorem rotN_lt (a s : Nat) (ha : a < 4294967296) : rotN a s < 4294967296 := or_lt (Nat.mod_lt _ (by decide)) (Nat.lt_of_le_of_lt (Nat.div_le_self _ _) ha)
theorem rotN_bit (a s i : Nat) (ha : a < 4294967296) (hs : s < 32) (hi : i < 32) : (rotN a s).testBit i = a.testBit ((i + 32 - s) % 32) := by
  unfold rotN
  rw [Nat.testBit_or, show (4294967296 : Nat) = 2 ^ 32 from rfl, Nat.testBit_mod_two_pow, decide_eq_true hi, Bool.true_and, Nat.testBit_mul_two_pow, Nat.testBit_div_two_pow]
  rcases Nat.lt_or_ge i s with h | h
  · rw [decide_eq_false (by omega), Bool.false_and, Bool.false_or, show (i + 32 - s) % 32 = i + (32 - s) by omega]
  · rw [decide_eq_true (by omega), Bool.true_and, high_bit ha (show 32 ≤ i + (32 - s) by omega), Bool.or_false, show (i + 32 - s) % 32 = i - s by omega]

theorem and31_u64 (n : Nat) (hn : n < 4294967296) : Go.bits .and .u64 (n : Int) 31 = ((n % 32 : Nat) : Int) := by
  rw [show (31 : Int) = ((31 : Nat) : Int) from rfl, bits_and_u64_nat n 31 (by omega) (by omega), and31]
theorem rotl_f (a s : Nat) (ha : a < 4294967296) (hs : s < 32) : bits_RotateLeft32.f (a : Int) (s : Int) = some (rotN a s : Int) := by
  unfold bits_RotateLeft32.f
  have e : IntKind.u64.wrap (s : Int) = (s : Int) := by rw [B.wrap_u64]; omega
  have e2 : IntKind.u64.wrap (32 - (s : Int)) = ((32 - s : Nat) : Int) := by rw [B.wrap_u64]; omega
  rw [e, and31_u64 s (by omega), Nat.mod_eq_of_lt hs, e2, if_pos (by omega), if_pos (by omega)]
  have e3 : shl .u32 (a : Int) (s : Int) = ((a * 2 ^ s % 4294967296 : Nat) : Int) := by
    unfold shl
    rw [show ((s : Int).toNat) = s from rfl, show (IntKind.u32.bits) = 32 from rfl, Nat.min_eq_left (by omega), B.wrap_u32]
    simp
  have e4 : shr .u32 (a : Int) ((32 - s : Nat) : Int) = ((a / 2 ^ (32 - s) : Nat) : Int) := by
    unfold shr
    rw [show (((32 - s : Nat) : Int).toNat) = 32 - s from rfl, show (IntKind.u32.bits) = 32 from rfl, Nat.min_eq_left (by omega)]
    simp
  rw [e3, e4, or_u32 _ _ (Nat.mod_lt _ (by decide)) (Nat.lt_of_le_of_lt (Nat.div_le_self _ _) ha)]
  rfl
theorem rot_f (a by_ : Nat) (ha : a < 4294967296) (hb : by_ < 4294967296) : word_Rot.f (a : Int) (by_ : Int) = some (rotN a (by_ % 32) : Int) := by
  unfold word_Rot.f
  have e : wrap64 (Int.tmod (by_ : Int) 32) = ((by_ % 32 : Nat) : Int) := by
    rw [Int.tmod_eq_emod_of_nonneg (by omega)]; unfold wrap64; omega
  rw [e, rotl_f a _ ha (Nat.mod_lt _ (by decide))]; rfl

/-- A list of 32 bits, turned by one. -/
def turn1 (l : List Bool) : List Bool := l.getD 31 false :: l.take 31
theorem turn1_length (l : List Bool) (h : l.length = 32) : (turn1 l).length = 32 := by simp [turn1, h]
theorem turn1_at (l : List Bool) (_h : l.length = 32) (i : Nat) (hi : i < 32) : (turn1 l).getD i false = l.getD ((i + 31) % 32) false := by
  cases i with
  | zero => simp [turn1]
  | succ i =>
    rw [show (i + 1 + 31) % 32 = i by omega]
    simp only [turn1, List.getD_eq_getElem?_getD]
    rw [List.getElem?_cons_succ, List.getElem?_take_of_lt (by omega)]
theorem ref_rot (a n : Nat) (ha : a < 4294967296) (by_ : Nat) (hb : by_ < 4294967296) (hn : n ≤ by_ % 32) : ∀ (k i : Nat) (l : List Bool), i + n = by_ % 32 → l.length = 32 → (∀ j, j < 32 → l.getD j false = a.testBit ((j + 32 - i) % 32)) → n + 40 < k →
    bautaref01_Rot.l0 k (by_ : Int) l (i : Int) = some (rotN a (by_ % 32) : Int) := by
  have hm : Int.tmod (by_ : Int) 32 = ((by_ % 32 : Nat) : Int) := by rw [Int.tmod_eq_emod_of_nonneg (by omega)]; omega
  have hlt : by_ % 32 < 32 := Nat.mod_lt _ (by decide)
  induction n with
  | zero =>
    intro k i l hi hl hj hk
    obtain ⟨k, rfl⟩ : ∃ m, k = m + 1 := ⟨k - 1, by omega⟩
    simp only [bautaref01_Rot.l0]
    rw [hm, if_neg (by omega), word_f k l (by omega) (by omega)]
    simp only [Option.bind_some]
    have : ofB l = rotN a (by_ % 32) := by
      have hb' := ofB_lt l
      rw [hl] at hb'
      refine eq_of_bits hb' (rotN_lt a _ ha) fun j hj' => ?_
      rw [ofB_bit, hj j hj', rotN_bit a _ j ha hlt hj']
      congr 2
      omega
    rw [this]
  | succ n ih =>
    intro k i l hi hl hj hk
    obtain ⟨k, rfl⟩ : ∃ m, k = m + 1 := ⟨k - 1, by omega⟩
    simp only [bautaref01_Rot.l0]
    have hw : ((i : Int) + 1) % 4294967296 = ((i + 1 : Nat) : Int) := by omega
    have hlen : ([rdOf false l 31] : List Bool).length + (l.take 31).length < 140737488355328 := by simp; omega
    rw [hm, if_pos (by omega), if_pos (by omega), Option.bind_some, if_pos (by omega), Option.bind_some, if_pos hlen, hw]
    refine ih (by omega) k (i + 1) (turn1 l) (by omega) (turn1_length l hl) (fun j hj' => ?_) (by omega)
    rw [turn1_at l hl j hj', hj _ (Nat.mod_lt _ (by decide))]
    congr 1
    omega

theorem WordTurns : bautalaw01_WordTurns.Pure := by
  intro a0 a1 w0 w1
  obtain ⟨a, rfl, ha⟩ := wf_u32 w0
  obtain ⟨b, rfl, hb⟩ := wf_u32 w1
  obtain ⟨k, hk⟩ : ∃ k : Nat, 110 ≤ k := ⟨110, by omega⟩
  refine ⟨k, ?_⟩
  have hlt : b % 32 < 32 := Nat.mod_lt _ (by decide)
  have hr : bautaref01_Rot.f k (a : Int) (b : Int) = some (rotN a (b % 32) : Int) := by
    unfold bautaref01_Rot.f
    rw [bits_f k a ha (by omega)]
    simp only [Option.bind_some]
    exact ref_rot a (b % 32) ha b hb (Nat.le_refl _) k 0 (bitsOf a) (by omega) (bitsOf_length a) (fun j hj => by rw [bitsOf_at a j hj]; congr 1; omega) (by omega)
  have hm : (32 - Int.tmod (b : Int) 32) % 4294967296 = ((32 - b % 32 : Nat) : Int) := by rw [Int.tmod_eq_emod_of_nonneg (by omega)]; omega
  have hback : rotN (rotN a (b % 32)) ((32 - b % 32) % 32) = a := eq_of_bits (rotN_lt _ _ (rotN_lt _ _ ha)) ha fun i hi => by
    rw [rotN_bit _ _ i (rotN_lt _ _ ha) (Nat.mod_lt _ (by decide)) hi, rotN_bit _ _ _ ha hlt (Nat.mod_lt _ (by decide))]
    congr 1
    omega
  unfold bautalaw01_WordTurns.f
  rw [rot_f a b ha hb, hr]
  simp only [Option.bind_some]
  rw [if_pos trivial, hm, rot_f _ _ (rotN_lt _ _ ha) (by omega), hback]
  simp only [Option.bind_some]
  rw [if_pos trivial, lives_k (by omega)]
  rfl
end Go.Proofs.Ytamfpmlfhfkeoaa.Pure
