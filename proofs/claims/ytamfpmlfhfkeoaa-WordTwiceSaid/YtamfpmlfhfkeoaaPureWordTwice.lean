/- WordTwice: a word shifted twice is shifted by both, and one turned twice turned by both. No condition. -/
import Derived.Test.YtamfpmlfhfkeoaaBits
import Derived.Test.YtamfpmlfhfkeoaaPTwx1
namespace Go.Proofs.Ytamfpmlfhfkeoaa.Pure
open Go.RowKit Go.Proofs.Ytamfpmlfhfkeoaa.PTw Go.Proofs.YtamfpmlfhfkeoaaW.PrintWords Go.Proofs.YtamfpmlfhfkeoaaW.PrintLast Go.Proofs.YtamfpmlfhfkeoaaW.PrintMore
open Go.Proofs.Ytamfpmlfhfkeoaa.B

/-- A word turned to the left. -/
def rotN (a s : Nat) : Nat := (a * 2 ^ s % 4294967296) ||| (a / 2 ^ (32 - s))
theorem rotN_lt (a s : Nat) (ha : a < 4294967296) : rotN a s < 4294967296 := or_lt (Nat.mod_lt _ (by decide)) (Nat.lt_of_le_of_lt (Nat.div_le_self _ _) ha)
theorem rotN_bit (a s i : Nat) (ha : a < 4294967296) (hs : s < 32) (hi : i < 32) : (rotN a s).testBit i = a.testBit ((i + 32 - s) % 32) := by
  unfold rotN
  rw [Nat.testBit_or, show (4294967296 : Nat) = 2 ^ 32 from rfl, Nat.testBit_mod_two_pow, decide_eq_true hi, Bool.true_and, Nat.testBit_mul_two_pow, Nat.testBit_div_two_pow]
  rcases Nat.lt_or_ge i s with h | h
  · rw [decide_eq_false (by omega), Bool.false_and, Bool.false_or, show (i + 32 - s) % 32 = i + (32 - s) by omega]
  · rw [decide_eq_true (by omega), Bool.true_and, high_bit ha (show 32 ≤ i + (32 - s) by omega), Bool.or_false, show (i + 32 - s) % 32 = i - s by omega]

theorem and31_u64 (n : Nat) (hn : n < 4294967296) : Go.bits .and .u64 (n : Int) 31 = ((n % 32 : Nat) : Int) := by
  rw [show (31 : Int) = ((31 : Nat) : Int) from rfl, bits_and_u64_nat n 31 (by omega) (by omega), and31]
theorem rotl_f (a s : Nat) (ha : a < 4294967296) (hs : s < 32) : bits_RotateLeft32.f (a : Int) (s : Int) = some (rotN a s : Int) := by
  unfold bits_RotateLeft32.f
  have e : IntKind.u64.wrap (s : Int) = (s : Int) := by rw [B.wrap_u64]; omega
  have e2 : IntKind.u64.wrap (32 - (s : Int)) = ((32 - s : Nat) : Int) := by rw [B.wrap_u64]; omega
  rw [e, and31_u64 s (by omega), Nat.mod_eq_of_lt hs, e2, if_pos (by omega), if_pos (by omega)]
  have e3 : shl .u32 (a : Int) (s : Int) = ((a * 2 ^ s % 4294967296 : Nat) : Int) := by
    unfold shl
    rw [show ((s : Int).toNat) = s from rfl, show (IntKind.u32.bits) = 32 from rfl, Nat.min_eq_left (by omega), B.wrap_u32]
    simp
  have e4 : shr .u32 (a : Int) ((32 - s : Nat) : Int) = ((a / 2 ^ (32 - s) : Nat) : Int) := by
    unfold shr
    rw [show (((32 - s : Nat) : Int).toNat) = 32 - s from rfl, show (IntKind.u32.bits) = 32 from rfl, Nat.min_eq_left (by omega)]
    simp
  rw [e3, e4, or_u32 _ _ (Nat.mod_lt _ (by decide)) (Nat.lt_of_le_of_lt (Nat.div_le_self _ _) ha)]
  rfl
theorem rot_f (a by_ : Nat) (ha : a < 4294967296) (hb : by_ < 4294967296) : word_Rot.f (a : Int) (by_ : Int) = some (rotN a (by_ % 32) : Int) := by
  unfold word_Rot.f
  have e : wrap64 (Int.tmod (by_ : Int) 32) = ((by_ % 32 : Nat) : Int) := by
    rw [Int.tmod_eq_emod_of_nonneg (by omega)]; unfold wrap64; omega
  rw [e, rotl_f a _ ha (Nat.mod_lt _ (by decide))]; rfl

theorem rotl_neg (a s : Nat) (ha : a < 4294967296) : bits_RotateLeft32.f (a : Int) (wrap64 (-(wrap64 (Int.tmod (s : Int) 32)))) = some (rotN a ((32 - s % 32) % 32) : Int) := by
  have e0 : wrap64 (-(wrap64 (Int.tmod (s : Int) 32))) = -((s % 32 : Nat) : Int) := by
    rw [Int.tmod_eq_emod_of_nonneg (by omega)]; unfold wrap64; omega
  rw [e0]
  have hm : s % 32 < 32 := Nat.mod_lt _ (by decide)
  generalize s % 32 = m at hm
  have e1 : Go.bits .and .u64 (IntKind.u64.wrap (-(m : Int))) 31 = (((32 - m) % 32 : Nat) : Int) := by
    have : IntKind.u64.wrap (-(m : Int)) = (((18446744073709551616 - m) % 18446744073709551616 : Nat) : Int) := by rw [B.wrap_u64]; omega
    rw [this, show (31 : Int) = ((31 : Nat) : Int) from rfl, bits_and_u64_nat _ 31 (by omega) (by omega), and31]
    congr 1
    omega
  have hq : (32 - m) % 32 < 32 := Nat.mod_lt _ (by decide)
  have := rotl_f a ((32 - m) % 32) ha hq
  unfold bits_RotateLeft32.f at this ⊢
  have e : IntKind.u64.wrap (((32 - m) % 32 : Nat) : Int) = (((32 - m) % 32 : Nat) : Int) := by rw [B.wrap_u64]; omega
  rw [e, and31_u64 _ (by omega), Nat.mod_mod] at this
  rw [e1]
  exact this

/-- What a shift comes to. -/
def shN (kind : Int) (a s : Nat) : Nat :=
  if kind = 0 then a * 2 ^ s % 4294967296 else if kind = 1 then a / 2 ^ s else if kind = 2 then ((wrap32 (a : Int)) / 2 ^ (min s 32) % 4294967296).toNat else if kind = 3 then rotN a ((32 - s % 32) % 32) else 0
theorem shl_min (a s : Nat) : a * 2 ^ min s 32 % 4294967296 = a * 2 ^ s % 4294967296 := by
  rcases Nat.le_total s 32 with h | h
  · rw [Nat.min_eq_left h]
  · rw [Nat.min_eq_right h]
    obtain ⟨d, rfl⟩ : ∃ d, s = 32 + d := ⟨s - 32, by omega⟩
    rw [Nat.pow_add, ← Nat.mul_assoc, show (2 ^ 32 : Nat) = 4294967296 from rfl, Nat.mul_mod_left, Nat.mul_assoc, Nat.mul_comm 4294967296, ← Nat.mul_assoc, Nat.mul_mod_left]
theorem shr_min (a s : Nat) (ha : a < 4294967296) : a / 2 ^ min s 32 = a / 2 ^ s := by
  rcases Nat.le_total s 32 with h | h
  · rw [Nat.min_eq_left h]
  · rw [Nat.min_eq_right h, Nat.div_eq_of_lt ha, Nat.div_eq_of_lt (Nat.lt_of_lt_of_le ha (Nat.pow_le_pow_right (n := 2) (by decide) h))]
theorem shl_eq (a s : Nat) : shl .u32 (a : Int) (s : Int) = ((a * 2 ^ s % 4294967296 : Nat) : Int) := by
  unfold shl
  rw [show ((s : Int).toNat) = s from rfl, show (IntKind.u32.bits) = 32 from rfl, B.wrap_u32, ← shl_min]
  simp
theorem shr_eq (a s : Nat) (ha : a < 4294967296) : shr .u32 (a : Int) (s : Int) = ((a / 2 ^ s : Nat) : Int) := by
  unfold shr
  rw [show ((s : Int).toNat) = s from rfl, show (IntKind.u32.bits) = 32 from rfl, ← shr_min a s ha]
  simp
theorem rotN_zero (a : Nat) (ha : a < 4294967296) : rotN a 0 = a := eq_of_bits (rotN_lt a 0 ha) ha fun i hi => by
  rw [rotN_bit a 0 i ha (by omega) hi]; congr 1; omega
theorem shN_lt (kind : Int) (a s : Nat) (ha : a < 4294967296) : shN kind a s < 4294967296 := by
  unfold shN
  split
  · exact Nat.mod_lt _ (by decide)
  · split
    · exact Nat.lt_of_le_of_lt (Nat.div_le_self _ _) ha
    · split
      · omega
      · split
        · exact rotN_lt a _ ha
        · omega
theorem shN_zero (kind : Int) (h0 : 0 ≤ kind) (h3 : kind ≤ 3) (a : Nat) (ha : a < 4294967296) : shN kind a 0 = a := by
  unfold shN
  rcases (show kind = 0 ∨ kind = 1 ∨ kind = 2 ∨ kind = 3 by omega) with rfl | rfl | rfl | rfl
  · rw [if_pos rfl, Nat.pow_zero, Nat.mul_one, Nat.mod_eq_of_lt ha]
  · rw [if_neg (by decide), if_pos rfl, Nat.pow_zero, Nat.div_one]
  · rw [if_neg (by decide), if_neg (by decide), if_pos rfl]
    unfold wrap32
    simp
    omega
  · rw [if_neg (by decide), if_neg (by decide), if_neg (by decide), if_pos rfl]
    exact rotN_zero a ha
theorem shift_f (k : Nat) (hk : 5 < k) (kind : Int) (a s : Nat) (ha : a < 4294967296) (hs : s < 1000) : ∃ c, word_Shift.f k kind (a : Int) (s : Int) false = some ((shN kind a s : Int), c) := by
  obtain ⟨k, rfl⟩ : ∃ m, k = m + 1 := ⟨k - 1, by omega⟩
  have main : ∃ c, word_Shift.j0 (k + 1) kind (a : Int) (s : Int) false false = some ((shN kind a s : Int), c) := by
    simp only [word_Shift.j0]
    rw [if_neg (by decide)]
    unfold shN
    by_cases h0 : kind = 0
    · rw [if_pos h0, if_pos h0, if_pos (by omega), shl_eq a s]
      split <;> exact ⟨_, rfl⟩
    · rw [if_neg h0, if_neg h0]
      by_cases h1 : kind = 1
      · rw [if_pos h1, if_pos h1, if_pos (by omega), shr_eq a s ha]
        split <;> exact ⟨_, rfl⟩
      · rw [if_neg h1, if_neg h1]
        by_cases h2 : kind = 2
        · have em : mn (s : Int) 32 = ((min s 32 : Nat) : Int) := by unfold mn; omega
          rw [if_pos h2, if_pos h2, em, if_pos (by omega)]
          rw [show (((min s 32 : Nat) : Int)).toNat = min s 32 from rfl, Int.toNat_of_nonneg (Int.emod_nonneg _ (by decide))]
          exact ⟨_, rfl⟩
        · rw [if_neg h2, if_neg h2]
          by_cases h3 : kind = 3
          · rw [if_pos h3, if_pos h3, rotl_neg a s ha]
            exact ⟨_, rfl⟩
          · rw [if_neg h3, if_neg h3]
            exact ⟨_, rfl⟩
  unfold word_Shift.f
  by_cases hz : (s : Int) = 0
  · rw [if_pos hz]
    by_cases hg : kind ≥ 0
    · rw [if_pos hg]
      by_cases hg3 : kind ≤ 3
      · obtain rfl : s = 0 := by omega
        refine ⟨false, ?_⟩
        simp only [word_Shift.j0]
        rw [if_pos (decide_eq_true hg3), shN_zero kind hg hg3 a ha]
      · rw [decide_eq_false hg3]
        exact main
    · rw [if_neg hg]
      exact main
  · rw [if_neg hz]
    exact main
theorem rotN_rotN (a p q : Nat) (ha : a < 4294967296) (hp : p < 32) (hq : q < 32) : rotN (rotN a p) q = rotN a ((p + q) % 32) := eq_of_bits (rotN_lt _ _ (rotN_lt _ _ ha)) (rotN_lt _ _ ha) fun i hi => by
  rw [rotN_bit _ q i (rotN_lt _ _ ha) hq hi, rotN_bit a p _ ha hp (Nat.mod_lt _ (by decide)), rotN_bit a _ i ha (Nat.mod_lt _ (by decide)) hi]
  congr 1
  omega
theorem asr_twice (v : Int) (h0 : -2147483648 ≤ v) (h1 : v < 2147483648) (x y : Nat) : v / 2 ^ min x 32 / 2 ^ min y 32 = v / 2 ^ min (x + y) 32 := by
  rw [Int.ediv_ediv_of_nonneg (Int.le_of_lt (Int.pow_pos (by decide))), ← Int.pow_add]
  rcases Nat.le_total (min x 32 + min y 32) 32 with h | h
  · have : min x 32 + min y 32 = min (x + y) 32 := by omega
    rw [this]
  · have e : min (x + y) 32 = 32 := by omega
    rw [e]
    obtain ⟨d, hd⟩ : ∃ d, min x 32 + min y 32 = 32 + d := ⟨min x 32 + min y 32 - 32, by omega⟩
    rw [hd, Int.pow_add, ← Int.ediv_ediv_of_nonneg (by decide)]
    have h32 : v / 2 ^ 32 = 0 ∨ v / 2 ^ 32 = -1 := by
      rw [show (2 : Int) ^ 32 = 4294967296 from rfl]; omega
    have hpos : (0 : Int) < 2 ^ d := Int.pow_pos (by decide)
    rcases h32 with e0 | e0 <;> rw [e0]
    · exact Int.zero_ediv _
    · exact (Int.ediv_eq_neg_one_of_neg_of_le (by decide) (by omega))
theorem shN_twice (kind : Int) (a x y : Nat) (ha : a < 4294967296) : shN kind (shN kind a x) y = shN kind a (x + y) := by
  have hx := shN_lt kind a x ha
  unfold shN at hx ⊢
  by_cases h0 : kind = 0
  · simp only [if_pos h0]
    rw [Nat.mod_mul_mod, Nat.pow_add, Nat.mul_assoc]
  · simp only [if_neg h0] at hx ⊢
    by_cases h1 : kind = 1
    · simp only [if_pos h1]
      rw [Nat.div_div_eq_div_mul, Nat.pow_add]
    · simp only [if_neg h1] at hx ⊢
      by_cases h2 : kind = 2
      · simp only [if_pos h2]
        have hv : -2147483648 ≤ wrap32 (a : Int) ∧ wrap32 (a : Int) < 2147483648 := by unfold wrap32; omega
        have hq : -2147483648 ≤ wrap32 (a : Int) / 2 ^ min x 32 ∧ wrap32 (a : Int) / 2 ^ min x 32 < 2147483648 := by
          have hp : (0 : Int) < 2 ^ min x 32 := Int.pow_pos (by decide)
          have hp1 : (1 : Int) ≤ 2 ^ min x 32 := hp
          constructor
          · rw [Int.le_ediv_iff_mul_le hp]
            have : (-2147483648 : Int) * 2 ^ min x 32 ≤ -2147483648 * 1 := Int.mul_le_mul_of_nonpos_left (by decide) hp1
            omega
          · rw [Int.ediv_lt_iff_lt_mul hp]
            have : (2147483648 : Int) * 1 ≤ 2147483648 * 2 ^ min x 32 := Int.mul_le_mul_of_nonneg_left hp1 (by decide)
            omega
        rw [← asr_twice _ hv.1 hv.2 x y]
        generalize wrap32 (a : Int) / 2 ^ min x 32 = q at hq
        have : wrap32 (((q % 4294967296).toNat : Nat) : Int) = q := by unfold wrap32; omega
        rw [this]
      · simp only [if_neg h2] at hx ⊢
        by_cases h3 : kind = 3
        · simp only [if_pos h3]
          rw [rotN_rotN a _ _ ha (Nat.mod_lt _ (by decide)) (Nat.mod_lt _ (by decide))]
          congr 1
          omega
        · simp only [if_neg h3]

theorem lives_f : bautalaw01_lives.f 100 = some true := by decide +kernel
theorem lives_k {k : Nat} (h : 100 ≤ k) : bautalaw01_lives.f k = some true := by
  induction k with
  | zero => omega
  | succ k ih =>
    rcases Nat.lt_or_ge k 100 with h' | h'
    · obtain rfl : k = 99 := by omega
      exact lives_f
    · exact bautalaw01_lives.mono k _ (ih h')
theorem wf_u8 {a : Int} (h : (Lit.int .u8 a).wf = true) : ∃ n : Nat, a = (n : Int) ∧ n < 256 := by
  have hb : 0 ≤ a ∧ a < 256 := by
    simp [Lit.wf, IntKind.min, IntKind.max, IntKind.bits, IntKind.signed] at h
    omega
  exact ⟨a.toNat, by omega, by omega⟩
theorem WordTwice : bautalaw01_WordTwice.Pure := by
  intro kind a1 b0 b1 _ w1 w2 w3
  obtain ⟨a, rfl, ha⟩ := wf_u32 w1
  obtain ⟨p, rfl, hp⟩ := wf_u8 w2
  obtain ⟨q, rfl, hq⟩ := wf_u8 w3
  obtain ⟨k, hk⟩ : ∃ k : Nat, 110 ≤ k := ⟨110, by omega⟩
  refine ⟨k, ?_⟩
  have e1 : Int.tmod (p : Int) 64 % 4294967296 = ((p % 64 : Nat) : Int) := by rw [Int.tmod_eq_emod_of_nonneg (by omega)]; omega
  have e2 : Int.tmod (q : Int) 64 % 4294967296 = ((q % 64 : Nat) : Int) := by rw [Int.tmod_eq_emod_of_nonneg (by omega)]; omega
  have e3 : (Int.tmod (p : Int) 64 + Int.tmod (q : Int) 64) % 4294967296 = ((p % 64 + q % 64 : Nat) : Int) := by
    rw [Int.tmod_eq_emod_of_nonneg (by omega), Int.tmod_eq_emod_of_nonneg (by omega)]; omega
  obtain ⟨c1, s1⟩ := shift_f k (by omega) kind a (p % 64) ha (by omega)
  obtain ⟨c2, s2⟩ := shift_f k (by omega) kind (shN kind a (p % 64)) (q % 64) (shN_lt kind a _ ha) (by omega)
  obtain ⟨c3, s3⟩ := shift_f k (by omega) kind a (p % 64 + q % 64) ha (by omega)
  rw [shN_twice kind a _ _ ha] at s2
  have hr : rotN (rotN a (p % 64 % 32)) (q % 64 % 32) = rotN a ((p % 64 + q % 64) % 32) := by
    rw [rotN_rotN a _ _ ha (Nat.mod_lt _ (by decide)) (Nat.mod_lt _ (by decide))]
    congr 1
    omega
  unfold bautalaw01_WordTwice.f
  rw [e3, e1, e2, s1, Option.bind_some, s2, Option.bind_some, s3, Option.bind_some, if_pos rfl, rot_f a _ ha (by omega), Option.bind_some, rot_f _ _ (rotN_lt a _ ha) (by omega), Option.bind_some, hr, rot_f a _ ha (by omega), Option.bind_some, if_pos rfl, lives_k (by omega)]
  rfl
end Go.Proofs.Ytamfpmlfhfkeoaa.Pure
