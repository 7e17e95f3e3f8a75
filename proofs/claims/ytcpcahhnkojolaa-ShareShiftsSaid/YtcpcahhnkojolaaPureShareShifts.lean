/- What comes of each share shifted. No condition. -/
import Derived.Test.YtcpcahhnkojolaaPureShareB
import Derived.Test.YtcpcahhnkojolaaPureShareW
import Derived.Test.YtcpcahhnkojolaaPBx9
namespace Go.Proofs.Ytcpcahhnkojolaa.Pure
open Go.RowKit Go.Proofs.Ytcpcahhnkojolaa.B Go.Proofs.Ytcpcahhnkojolaa.BB Go.Proofs.Ytcpcahhnkojolaa.BW Go.Proofs.Ytcpcahhnkojolaa.PB Go.Proofs.YtcpcahhnkojolaaW.PrintWords Go.Proofs.YtcpcahhnkojolaaW.PrintLast Go.Proofs.YtcpcahhnkojolaaW.PrintMore

/-- A word turned to the left. -/
def rotN (a s : Nat) : Nat := (a * 2 ^ s % 4294967296) ||| (a / 2 ^ (32 - s))
theorem rotN_lt (a s : Nat) (ha : a < 4294967296) : rotN a s < 4294967296 := or_lt (Nat.mod_lt _ (by decide)) (Nat.lt_of_le_of_lt (Nat.div_le_self _ _) ha)
theorem rotN_bit (a s i : Nat) (ha : a < 4294967296) (hs : s < 32) (hi : i < 32) : (rotN a s).testBit i = a.testBit ((i + 32 - s) % 32) := by
  unfold rotN
  rw [Nat.testBit_or, show (4294967296 : Nat) = 2 ^ 32 from rfl, Nat.testBit_mod_two_pow, decide_eq_true hi, Bool.true_and, Nat.testBit_mul_two_pow, Nat.testBit_div_two_pow]
  rcases Nat.lt_or_ge i s with h | h
  · rw [decide_eq_false (by omega), Bool.false_and, Bool.false_or, show (i + 32 - s) % 32 = i + (32 - s) by omega]
  · rw [decide_eq_true (by omega), Bool.true_and, high_bit ha (show 32 ≤ i + (32 - s) by omega), Bool.or_false, show (i + 32 - s) % 32 = i - s by omega]

theorem and31_u64 (n : Nat) (hn : n < 4294967296) : Go.bits .and .u64 (n : Int) 31 = ((n % 32 : Nat) : Int) := by
  rw [show (31 : Int) = ((31 : Nat) : Int) from rfl, bits_and_u64_nat n 31 (by omega) (by omega), and31]
theorem rotl_f (a s : Nat) (ha : a < 4294967296) (hs : s < 32) : bits_RotateLeft32.f (a : Int) (s : Int) = some (rotN a s : Int) := by
  unfold bits_RotateLeft32.f
  have e : IntKind.u64.wrap (s : Int) = (s : Int) := by rw [Ytcpcahhnkojolaa.B.wrap_u64]; omega
  have e2 : IntKind.u64.wrap (32 - (s : Int)) = ((32 - s : Nat) : Int) := by rw [Ytcpcahhnkojolaa.B.wrap_u64]; omega
  rw [e, and31_u64 s (by omega), Nat.mod_eq_of_lt hs, e2, if_pos (by omega), if_pos (by omega)]
  have e3 : shl .u32 (a : Int) (s : Int) = ((a * 2 ^ s % 4294967296 : Nat) : Int) := by
    unfold shl
    rw [show ((s : Int).toNat) = s from rfl, show (IntKind.u32.bits) = 32 from rfl, Nat.min_eq_left (by omega), Ytcpcahhnkojolaa.B.wrap_u32]
    simp
  have e4 : shr .u32 (a : Int) ((32 - s : Nat) : Int) = ((a / 2 ^ (32 - s) : Nat) : Int) := by
    unfold shr
    rw [show (((32 - s : Nat) : Int).toNat) = 32 - s from rfl, show (IntKind.u32.bits) = 32 from rfl, Nat.min_eq_left (by omega)]
    simp
  rw [e3, e4, or_u32 _ _ (Nat.mod_lt _ (by decide)) (Nat.lt_of_le_of_lt (Nat.div_le_self _ _) ha)]
  rfl
theorem rot_f (a by_ : Nat) (ha : a < 4294967296) (hb : by_ < 4294967296) : word_Rot.f (a : Int) (by_ : Int) = some (rotN a (by_ % 32) : Int) := by
  unfold word_Rot.f
  have e : wrap64 (Int.tmod (by_ : Int) 32) = ((by_ % 32 : Nat) : Int) := by
    rw [Int.tmod_eq_emod_of_nonneg (by omega)]; unfold wrap64; omega
  rw [e, rotl_f a _ ha (Nat.mod_lt _ (by decide))]; rfl

theorem rotl_neg (a s : Nat) (ha : a < 4294967296) : bits_RotateLeft32.f (a : Int) (wrap64 (-(wrap64 (Int.tmod (s : Int) 32)))) = some (rotN a ((32 - s % 32) % 32) : Int) := by
  have e0 : wrap64 (-(wrap64 (Int.tmod (s : Int) 32))) = -((s % 32 : Nat) : Int) := by
    rw [Int.tmod_eq_emod_of_nonneg (by omega)]; unfold wrap64; omega
  rw [e0]
  have hm : s % 32 < 32 := Nat.mod_lt _ (by decide)
  generalize s % 32 = m at hm
  have e1 : Go.bits .and .u64 (IntKind.u64.wrap (-(m : Int))) 31 = (((32 - m) % 32 : Nat) : Int) := by
    have : IntKind.u64.wrap (-(m : Int)) = (((18446744073709551616 - m) % 18446744073709551616 : Nat) : Int) := by rw [Ytcpcahhnkojolaa.B.wrap_u64]; omega
    rw [this, show (31 : Int) = ((31 : Nat) : Int) from rfl, bits_and_u64_nat _ 31 (by omega) (by omega), and31]
    congr 1
    omega
  have hq : (32 - m) % 32 < 32 := Nat.mod_lt _ (by decide)
  have := rotl_f a ((32 - m) % 32) ha hq
  unfold bits_RotateLeft32.f at this ⊢
  have e : IntKind.u64.wrap (((32 - m) % 32 : Nat) : Int) = (((32 - m) % 32 : Nat) : Int) := by rw [Ytcpcahhnkojolaa.B.wrap_u64]; omega
  rw [e, and31_u64 _ (by omega), Nat.mod_mod] at this
  rw [e1]
  exact this

/-- What a shift comes to. -/
def shN (kind : Int) (a s : Nat) : Nat :=
  if kind = 0 then a * 2 ^ s % 4294967296 else if kind = 1 then a / 2 ^ s else if kind = 2 then ((wrap32 (a : Int)) / 2 ^ (min s 32) % 4294967296).toNat else if kind = 3 then rotN a ((32 - s % 32) % 32) else 0
theorem shl_min (a s : Nat) : a * 2 ^ min s 32 % 4294967296 = a * 2 ^ s % 4294967296 := by
  rcases Nat.le_total s 32 with h | h
  · rw [Nat.min_eq_left h]
  · rw [Nat.min_eq_right h]
    obtain ⟨d, rfl⟩ : ∃ d, s = 32 + d := ⟨s - 32, by omega⟩
    rw [Nat.pow_add, ← Nat.mul_assoc, show (2 ^ 32 : Nat) = 4294967296 from rfl, Nat.mul_mod_left, Nat.mul_assoc, Nat.mul_comm 4294967296, ← Nat.mul_assoc, Nat.mul_mod_left]
theorem shr_min (a s : Nat) (ha : a < 4294967296) : a / 2 ^ min s 32 = a / 2 ^ s := by
  rcases Nat.le_total s 32 with h | h
  · rw [Nat.min_eq_left h]
  · rw [Nat.min_eq_right h, Nat.div_eq_of_lt ha, Nat.div_eq_of_lt (Nat.lt_of_lt_of_le ha (Nat.pow_le_pow_right (n := 2) (by decide) h))]
theorem shl_eq (a s : Nat) : shl .u32 (a : Int) (s : Int) = ((a * 2 ^ s % 4294967296 : Nat) : Int) := by
  unfold shl
  rw [show ((s : Int).toNat) = s from rfl, show (IntKind.u32.bits) = 32 from rfl, Ytcpcahhnkojolaa.B.wrap_u32, ← shl_min]
  simp
theorem shr_eq (a s : Nat) (ha : a < 4294967296) : shr .u32 (a : Int) (s : Int) = ((a / 2 ^ s : Nat) : Int) := by
  unfold shr
  rw [show ((s : Int).toNat) = s from rfl, show (IntKind.u32.bits) = 32 from rfl, ← shr_min a s ha]
  simp
theorem rotN_zero (a : Nat) (ha : a < 4294967296) : rotN a 0 = a := eq_of_bits (rotN_lt a 0 ha) ha fun i hi => by
  rw [rotN_bit a 0 i ha (by omega) hi]; congr 1; omega
theorem shN_zero (kind : Int) (h0 : 0 ≤ kind) (h3 : kind ≤ 3) (a : Nat) (ha : a < 4294967296) : shN kind a 0 = a := by
  unfold shN
  rcases (show kind = 0 ∨ kind = 1 ∨ kind = 2 ∨ kind = 3 by omega) with rfl | rfl | rfl | rfl
  · rw [if_pos rfl, Nat.pow_zero, Nat.mul_one, Nat.mod_eq_of_lt ha]
  · rw [if_neg (by decide), if_pos rfl, Nat.pow_zero, Nat.div_one]
  · rw [if_neg (by decide), if_neg (by decide), if_pos rfl]
    unfold wrap32
    simp
    omega
  · rw [if_neg (by decide), if_neg (by decide), if_neg (by decide), if_pos rfl]
    exact rotN_zero a ha
theorem shift_f (k : Nat) (hk : 5 < k) (kind : Int) (a s : Nat) (ha : a < 4294967296) (hs : s < 4294967296) : ∃ c, word_Shift.f k kind (a : Int) (s : Int) false = some ((shN kind a s : Int), c) := by
  obtain ⟨k, rfl⟩ : ∃ m, k = m + 1 := ⟨k - 1, by omega⟩
  have main : ∃ c, word_Shift.j0 (k + 1) kind (a : Int) (s : Int) false false = some ((shN kind a s : Int), c) := by
    simp only [word_Shift.j0]
    rw [if_neg (by decide)]
    unfold shN
    by_cases h0 : kind = 0
    · rw [if_pos h0, if_pos h0, if_pos (by omega), shl_eq a s]
      split <;> exact ⟨_, rfl⟩
    · rw [if_neg h0, if_neg h0]
      by_cases h1 : kind = 1
      · rw [if_pos h1, if_pos h1, if_pos (by omega), shr_eq a s ha]
        split <;> exact ⟨_, rfl⟩
      · rw [if_neg h1, if_neg h1]
        by_cases h2 : kind = 2
        · have em : mn (s : Int) 32 = ((min s 32 : Nat) : Int) := by unfold mn; omega
          rw [if_pos h2, if_pos h2, em, if_pos (by omega)]
          rw [show (((min s 32 : Nat) : Int)).toNat = min s 32 from rfl, Int.toNat_of_nonneg (Int.emod_nonneg _ (by decide))]
          exact ⟨_, rfl⟩
        · rw [if_neg h2, if_neg h2]
          by_cases h3 : kind = 3
          · rw [if_pos h3, if_pos h3, rotl_neg a s ha]
            exact ⟨_, rfl⟩
          · rw [if_neg h3, if_neg h3]
            exact ⟨_, rfl⟩
  unfold word_Shift.f
  by_cases hz : (s : Int) = 0
  · rw [if_pos hz]
    by_cases hg : kind ≥ 0
    · rw [if_pos hg]
      by_cases hg3 : kind ≤ 3
      · obtain rfl : s = 0 := by omega
        refine ⟨false, ?_⟩
        simp only [word_Shift.j0]
        rw [if_pos (decide_eq_true hg3), shN_zero kind hg hg3 a ha]
      · rw [decide_eq_false hg3]
        exact main
    · rw [if_neg hg]
      exact main
  · rw [if_neg hz]
    exact main
theorem rotN_rotN (a p q : Nat) (ha : a < 4294967296) (hp : p < 32) (hq : q < 32) : rotN (rotN a p) q = rotN a ((p + q) % 32) := eq_of_bits (rotN_lt _ _ (rotN_lt _ _ ha)) (rotN_lt _ _ ha) fun i hi => by
  rw [rotN_bit _ q i (rotN_lt _ _ ha) hq hi, rotN_bit a p _ ha hp (Nat.mod_lt _ (by decide)), rotN_bit a _ i ha (Nat.mod_lt _ (by decide)) hi]
  congr 1
  omega
theorem asr_twice (v : Int) (h0 : -2147483648 ≤ v) (h1 : v < 2147483648) (x y : Nat) : v / 2 ^ min x 32 / 2 ^ min y 32 = v / 2 ^ min (x + y) 32 := by
  rw [Int.ediv_ediv_of_nonneg (Int.le_of_lt (Int.pow_pos (by decide))), ← Int.pow_add]
  rcases Nat.le_total (min x 32 + min y 32) 32 with h | h
  · have : min x 32 + min y 32 = min (x + y) 32 := by omega
    rw [this]
  · have e : min (x + y) 32 = 32 := by omega
    rw [e]
    obtain ⟨d, hd⟩ : ∃ d, min x 32 + min y 32 = 32 + d := ⟨min x 32 + min y 32 - 32, by omega⟩
    rw [hd, Int.pow_add, ← Int.ediv_ediv_of_nonneg (by decide)]
    have h32 : v / 2 ^ 32 = 0 ∨ v / 2 ^ 32 = -1 := by
      rw [show (2 : Int) ^ 32 = 4294967296 from rfl]; omega
    have hpos : (0 : Int) < 2 ^ d := Int.pow_pos (by decide)
    rcases h32 with e0 | e0 <;> rw [e0]
    · exact Int.zero_ediv _
    · exact (Int.ediv_eq_neg_one_of_neg_of_le (by decide) (by omega))
/-- A list of 32 bits, turned by one. -/
def turn1 (l : List Bool) : List Bool := l.getD 31 false :: l.take 31
theorem turn1_length (l : List Bool) (h : l.length = 32) : (turn1 l).length = 32 := by simp [turn1, h]
theorem turn1_at (l : List Bool) (_h : l.length = 32) (i : Nat) (hi : i < 32) : (turn1 l).getD i false = l.getD ((i + 31) % 32) false := by
  cases i with
  | zero => simp [turn1]
  | succ i =>
    rw [show (i + 1 + 31) % 32 = i by omega]
    simp only [turn1, List.getD_eq_getElem?_getD]
    rw [List.getElem?_cons_succ, List.getElem?_take_of_lt (by omega)]
theorem ref_rot (a n : Nat) (ha : a < 4294967296) (by_ : Nat) (hb : by_ < 4294967296) (hn : n ≤ by_ % 32) : ∀ (k i : Nat) (l : List Bool), i + n = by_ % 32 → l.length = 32 → (∀ j, j < 32 → l.getD j false = a.testBit ((j + 32 - i) % 32)) → n + 40 < k →
    bautaref01_Rot.l0 k (by_ : Int) l (i : Int) = some (rotN a (by_ % 32) : Int) := by
  have hm : Int.tmod (by_ : Int) 32 = ((by_ % 32 : Nat) : Int) := by rw [Int.tmod_eq_emod_of_nonneg (by omega)]; omega
  have hlt : by_ % 32 < 32 := Nat.mod_lt _ (by decide)
  induction n with
  | zero =>
    intro k i l hi hl hj hk
    obtain ⟨k, rfl⟩ : ∃ m, k = m + 1 := ⟨k - 1, by omega⟩
    simp only [bautaref01_Rot.l0]
    rw [hm, if_neg (by omega), word_f k l (by omega) (by omega)]
    simp only [Option.bind_some]
    have : ofB l = rotN a (by_ % 32) := by
      have hb' := ofB_lt l
      rw [hl] at hb'
      refine eq_of_bits hb' (rotN_lt a _ ha) fun j hj' => ?_
      rw [ofB_bit, hj j hj', rotN_bit a _ j ha hlt hj']
      congr 2
      omega
    rw [this]
  | succ n ih =>
    intro k i l hi hl hj hk
    obtain ⟨k, rfl⟩ : ∃ m, k = m + 1 := ⟨k - 1, by omega⟩
    simp only [bautaref01_Rot.l0]
    have hw : ((i : Int) + 1) % 4294967296 = ((i + 1 : Nat) : Int) := by omega
    have hlen : ([rdOf false l 31] : List Bool).length + (l.take 31).length < 140737488355328 := by simp; omega
    rw [hm, if_pos (by omega), if_pos (by omega), Option.bind_some, if_pos (by omega), Option.bind_some, if_pos hlen, hw]
    refine ih (by omega) k (i + 1) (turn1 l) (by omega) (turn1_length l hl) (fun j hj' => ?_) (by omega)
    rw [turn1_at l hl j hj', hj _ (Nat.mod_lt _ (by decide))]
    congr 1
    omega


theorem refrot_f (k a b : Nat) (ha : a < 4294967296) (hb : b < 4294967296) (hk : 110 ≤ k) : bautaref01_Rot.f k (a : Int) (b : Int) = some (rotN a (b % 32) : Int) := by
  have hlt : b % 32 < 32 := Nat.mod_lt _ (by decide)
  unfold bautaref01_Rot.f
  rw [bits_f k a ha (by omega)]
  simp only [Option.bind_some]
  exact ref_rot a (b % 32) ha b hb (Nat.le_refl _) k 0 (bitsOf a) (by omega) (bitsOf_length a) (fun j hj => by rw [bitsOf_at a j hj]; congr 1; omega) (by omega)

/-! ### the reference's shift -/
theorem bset_at (l : List Bool) (i j : Nat) (v : Bool) (hi : i < l.length) : (l.set i v).getD j false = if i = j then v else l.getD j false := by
  rw [List.getD_eq_getElem?_getD, List.getElem?_set]
  split
  · simp
  · rw [List.getD_eq_getElem?_getD]
/-- One step, by places. -/
def nx (kd : Nat) (l : List Bool) (j : Nat) : Bool := if kd = 0 then (decide (0 < j) && l.getD (j - 1) false) else (decide (j < 31) && l.getD (j + 1) false)
theorem l1_f (kd : Nat) (hkd : kd = 0 ∨ kd = 1) (x2 x11 : Int) (l : List Bool) (hl : l.length = 32) (d : Nat) : ∀ (k i : Nat) (o : List Bool), i + d = 32 → o.length = 32 → (∀ j, j < 32 → o.getD j false = (decide (j < i) && nx kd l j)) →
    ∃ r c, bautaref01_Shift.l1 (k + 2 * d + 2) (kd : Int) x2 l x11 o (i : Int) = bautaref01_Shift.l0 k (kd : Int) x2 c r ((x11 + 1) % 4294967296) ∧ r.length = 32 ∧ ∀ j, j < 32 → r.getD j false = nx kd l j := by
  induction d with
  | zero =>
    intro k i o hi ho h
    refine ⟨o, rdOf false l (if kd = 0 then 31 else 0), ?_, ho, fun j hj => by rw [h j hj, decide_eq_true (by omega), Bool.true_and]⟩
    show bautaref01_Shift.l1 (k + 1 + 1) _ _ _ _ _ _ = _
    simp only [bautaref01_Shift.l1]
    rcases hkd with rfl | rfl
    · rw [if_neg (by omega), if_pos (by decide), if_pos (by omega)]
      simp only [bautaref01_Shift.j7]
      rw [if_neg (by decide), if_neg (by decide)]; rfl
    · rw [if_neg (by omega), if_neg (by decide), if_pos (by omega)]
      simp only [bautaref01_Shift.j7]
      rw [if_neg (by decide), if_neg (by decide)]; rfl
  | succ d ih =>
    intro k i o hi ho h
    have hw : wrap64 ((i : Int) + 1) = ((i + 1 : Nat) : Int) := Ytcpcahhnkojolaa.BB.w64 (by omega) (by omega)
    have go : ∀ o' : List Bool, o'.length = 32 → (∀ j, j < 32 → o'.getD j false = (decide (j < i + 1) && nx kd l j)) → ∃ r c, bautaref01_Shift.l1 (k + 2 * d + 2) (kd : Int) x2 l x11 o' (wrap64 ((i : Int) + 1)) = bautaref01_Shift.l0 k (kd : Int) x2 c r ((x11 + 1) % 4294967296) ∧ r.length = 32 ∧ ∀ j, j < 32 → r.getD j false = nx kd l j := by
      intro o' h1 h2; rw [hw]; exact ih k (i + 1) o' (by omega) h1 h2
    have same : nx kd l i = false → ∀ j, j < 32 → o.getD j false = (decide (j < i + 1) && nx kd l j) := by
      intro hz j hj
      rw [h j hj]
      by_cases e : j = i
      · subst e; rw [hz, Bool.and_false, Bool.and_false]
      · by_cases e2 : j < i
        · rw [decide_eq_true e2, decide_eq_true (by omega)]
        · rw [decide_eq_false e2, decide_eq_false (by omega)]
    have put : ∀ j, j < 32 → (o.set i (nx kd l i)).getD j false = (decide (j < i + 1) && nx kd l j) := by
      intro j hj
      rw [bset_at _ _ _ _ (by omega)]
      by_cases e : i = j
      · subst e; rw [if_pos rfl, decide_eq_true (by omega), Bool.true_and]
      · rw [if_neg e, h j hj]
        by_cases e2 : j < i
        · rw [decide_eq_true e2, decide_eq_true (by omega)]
        · rw [decide_eq_false e2, decide_eq_false (by omega)]
    rw [show k + 2 * (d + 1) + 2 = (k + 2 * d + 2) + 1 + 1 by omega]
    simp only [bautaref01_Shift.l1]
    rw [if_pos (by omega)]
    rcases hkd with rfl | rfl
    · rw [if_pos (by decide)]
      simp only [bautaref01_Shift.j6]
      by_cases c : 0 < i
      · have e1 : wrap64 ((i : Int) - 1) = ((i - 1 : Nat) : Int) := by rw [Ytcpcahhnkojolaa.BB.w64 (by omega) (by omega)]; omega
        rw [if_pos (decide_eq_true (by omega)), e1, if_pos (by omega), if_pos (by omega), if_pos (by omega), if_pos (by omega), Option.bind_some, if_neg (by decide), getD_at, show ((i : Int)).toNat = i from rfl]
        refine go _ (by rw [List.length_set]; exact ho) ?_
        have : nx 0 l i = l.getD (i - 1) false := by unfold nx; rw [if_pos rfl, decide_eq_true c, Bool.true_and]
        rw [← this]; exact put
      · rw [if_neg (by rw [decide_eq_true_eq]; omega), if_neg (by decide)]
        exact go _ ho (same (by unfold nx; rw [if_pos rfl, decide_eq_false c, Bool.false_and]))
    · rw [if_neg (by decide)]
      simp only [bautaref01_Shift.j6]
      rw [if_neg (by decide), if_pos (by decide)]
      by_cases c : i < 31
      · rw [if_pos (by omega), hw, if_pos (by omega), if_pos (by omega), if_pos (by omega), if_pos (by omega), getD_at, show ((i : Int)).toNat = i from rfl]
        have := go (o.set i (nx 1 l i)) (by rw [List.length_set]; exact ho) put
        rw [hw] at this
        have e : nx 1 l i = l.getD (i + 1) false := by unfold nx; rw [if_neg (by decide), decide_eq_true c, Bool.true_and]
        rw [e] at this; exact this
      · rw [if_neg (by omega)]
        exact go _ ho (same (by unfold nx; rw [if_neg (by decide), decide_eq_false c, Bool.false_and]))
theorem sh_step (kd : Nat) (hkd : kd = 0 ∨ kd = 1) (a i : Nat) (ha : a < 4294967296) (l : List Bool) (h : ∀ j, j < 32 → l.getD j false = (shN (kd : Int) a i).testBit j) (j : Nat) (hj : j < 32) : nx kd l j = (shN (kd : Int) a (i + 1)).testBit j := by
  unfold nx
  rcases hkd with rfl | rfl
  · have e : ∀ s, shN ((0 : Nat) : Int) a s = a * 2 ^ s % 2 ^ 32 := fun s => by unfold shN; rw [if_pos (by decide)]
    rw [if_pos rfl, e (i + 1), Nat.testBit_mod_two_pow, decide_eq_true hj, Bool.true_and, Nat.testBit_mul_two_pow]
    by_cases c : 0 < j
    · rw [decide_eq_true c, Bool.true_and, h (j - 1) (by omega), e i, Nat.testBit_mod_two_pow, decide_eq_true (by omega), Bool.true_and, Nat.testBit_mul_two_pow]
      by_cases c2 : i ≤ j - 1
      · rw [decide_eq_true c2, decide_eq_true (by omega), show j - 1 - i = j - (i + 1) by omega]
      · rw [decide_eq_false c2, decide_eq_false (by omega), Bool.false_and, Bool.false_and]
    · rw [decide_eq_false c, decide_eq_false (by omega), Bool.false_and, Bool.false_and]
  · have e : ∀ s, shN ((1 : Nat) : Int) a s = a / 2 ^ s := fun s => by unfold shN; rw [if_neg (by decide), if_pos (by decide)]
    rw [if_neg (by decide), e (i + 1), Nat.testBit_div_two_pow]
    by_cases c : j < 31
    · rw [decide_eq_true c, Bool.true_and, h (j + 1) (by omega), e i, Nat.testBit_div_two_pow, show j + 1 + i = j + (i + 1) by omega]
    · rw [decide_eq_false c, Bool.false_and, high_bit ha (show 32 ≤ j + (i + 1) by omega)]
theorem shN_lt01 (kd : Nat) (hkd : kd = 0 ∨ kd = 1) (a s : Nat) (ha : a < 4294967296) : shN (kd : Int) a s < 4294967296 := by
  rcases hkd with rfl | rfl
  · unfold shN; rw [if_pos (by decide)]; exact Nat.mod_lt _ (by decide)
  · unfold shN; rw [if_neg (by decide), if_pos (by decide)]; exact Nat.lt_of_le_of_lt (Nat.div_le_self _ _) ha
theorem sh_min (kd : Nat) (hkd : kd = 0 ∨ kd = 1) (a s : Nat) (ha : a < 4294967296) : shN (kd : Int) a (min s 70) = shN (kd : Int) a s := by
  rcases hkd with rfl | rfl
  · unfold shN
    rw [if_pos (by decide), if_pos (by decide), ← shl_min a s, ← shl_min a (min s 70), show min (min s 70) 32 = min s 32 by omega]
  · unfold shN
    rw [if_neg (by decide), if_pos (by decide), if_neg (by decide), if_pos (by decide), ← shr_min a s ha, ← shr_min a (min s 70) ha, show min (min s 70) 32 = min s 32 by omega]
theorem l0_f (kd : Nat) (hkd : kd = 0 ∨ kd = 1) (a s : Nat) (ha : a < 4294967296) (hs : s < 4294967296) (d : Nat) : ∀ (k i : Nat) (l : List Bool) (c : Bool), i + d = min s 70 → 68 * d + 100 ≤ k → l.length = 32 → (∀ j, j < 32 → l.getD j false = (shN (kd : Int) a i).testBit j) →
    ∃ c', bautaref01_Shift.l0 k (kd : Int) (s : Int) c l (i : Int) = some ((shN (kd : Int) a s : Int), c') := by
  induction d with
  | zero =>
    intro k i l c hi hk hl h
    obtain ⟨k, rfl⟩ : ∃ q, k = q + 2 := ⟨k - 2, by omega⟩
    have fin : bautaref01_Shift.j4 (k + 1) (kd : Int) (s : Int) c l (i : Int) false = some ((shN (kd : Int) a s : Int), c) := by
      simp only [bautaref01_Shift.j4]
      have hb := ofB_lt l
      rw [hl] at hb
      have e : ofB l = shN (kd : Int) a s := by
        rw [← sh_min kd hkd a s ha, ← hi, Nat.add_zero]
        exact eq_of_bits hb (shN_lt01 kd hkd a _ ha) fun j hj => by rw [ofB_bit, h j hj]
      rw [if_neg (by decide), word_f k l (by omega) (by omega), Option.bind_some, e]
    refine ⟨c, ?_⟩
    simp only [bautaref01_Shift.l0]
    by_cases q : (i : Int) < (s : Int)
    · rw [if_pos q, decide_eq_false (by omega)]; exact fin
    · rw [if_neg q]; exact fin
  | succ d ih =>
    intro k i l c hi hk hl h
    obtain ⟨k, rfl⟩ : ∃ q, k = q + 2 * 32 + 2 + 2 := ⟨k - 68, by omega⟩
    simp only [bautaref01_Shift.l0]
    rw [if_pos (by omega), decide_eq_true (by omega)]
    simp only [bautaref01_Shift.j4]
    rw [if_pos trivial, if_pos (by decide)]
    obtain ⟨r, c', h1, h2, h3⟩ := l1_f kd hkd (s : Int) (i : Int) l hl 32 k 0 (List.replicate 32 false) rfl (by simp) (fun j hj => by
      rw [decide_eq_false (by omega), Bool.false_and, List.getD_eq_getElem?_getD, List.getElem?_replicate, if_pos hj]; rfl)
    have h1' : bautaref01_Shift.l1 (k + 2 * 32 + 2) (kd : Int) (s : Int) l (i : Int) (List.replicate 32 false) 0 = _ := h1
    rw [h1', show ((i : Int) + 1) % 4294967296 = ((i + 1 : Nat) : Int) by omega]
    exact ih k (i + 1) r c' (by omega) (by omega) h2 (fun j hj => by rw [h3 j hj]; exact sh_step kd hkd a i ha l h j hj)
theorem refshift_f (k kd : Nat) (hkd : kd = 0 ∨ kd = 1) (a s : Nat) (ha : a < 4294967296) (hs : s < 4294967296) (hk : 6000 ≤ k) :
    ∃ c', bautaref01_Shift.f k (kd : Int) (a : Int) (s : Int) false = some ((shN (kd : Int) a s : Int), c') := by
  obtain ⟨k, rfl⟩ : ∃ q, k = q + 1 + 1 + 1 := ⟨k - 3, by omega⟩
  obtain ⟨c', h⟩ := l0_f kd hkd a s ha hs (min s 70) k 0 (bitsOf a) false (by omega) (by omega) (bitsOf_length a) (fun j hj => by
    rw [bitsOf_at a j hj, shN_zero _ (by omega) (by omega) a ha])
  refine ⟨c', ?_⟩
  unfold bautaref01_Shift.f
  rw [if_neg (by omega), decide_eq_false (by omega)]
  simp only [bautaref01_Shift.j0]
  rw [if_neg (by decide), if_neg (by omega)]
  simp only [bautaref01_Shift.j1]
  rw [if_neg (by decide)]
  simp only [bautaref01_Shift.j2]
  rw [bits_f k a ha (by omega), Option.bind_some]
  exact h

/-! ### each share -/
/-- What becomes of a share. -/
def Fx (kind : Nat) (s a : Nat) : Nat := if kind = 8 then rotN a (s % 32) else shN ((kind - 6 : Nat) : Int) a s
theorem Fx_lt (kind s a : Nat) (hk : kind = 6 ∨ kind = 7 ∨ kind = 8) (ha : a < 4294967296) : Fx kind s a < 4294967296 := by
  unfold Fx
  rcases hk with rfl | rfl | rfl
  · rw [if_neg (by decide)]; exact shN_lt01 (6 - 6) (.inl rfl) a s ha
  · rw [if_neg (by decide)]; exact shN_lt01 (7 - 6) (.inr rfl) a s ha
  · rw [if_pos rfl]; exact rotN_lt a _ ha
theorem xor_mul (x y s : Nat) : (x ^^^ y) * 2 ^ s % 4294967296 = (x * 2 ^ s % 4294967296) ^^^ (y * 2 ^ s % 4294967296) := by
  apply Nat.eq_of_testBit_eq; intro i
  rw [show (4294967296 : Nat) = 2 ^ 32 from rfl]
  simp only [Nat.testBit_xor, Nat.testBit_mod_two_pow, Nat.testBit_mul_two_pow]
  cases decide (i < 32) <;> cases decide (i ≥ s) <;> simp
theorem xor_div (x y s : Nat) : (x ^^^ y) / 2 ^ s = (x / 2 ^ s) ^^^ (y / 2 ^ s) := by
  apply Nat.eq_of_testBit_eq; intro i
  simp only [Nat.testBit_xor, Nat.testBit_div_two_pow]
theorem Fx_xor (kind s : Nat) (hk : kind = 6 ∨ kind = 7 ∨ kind = 8) (x y : Nat) (hx : x < 4294967296) (hy : y < 4294967296) : Fx kind s (x ^^^ y) = Fx kind s x ^^^ Fx kind s y := by
  unfold Fx
  rcases hk with rfl | rfl | rfl
  · rw [if_neg (by decide), if_neg (by decide), if_neg (by decide)]
    unfold shN
    rw [if_pos (by decide), if_pos (by decide), if_pos (by decide), xor_mul]
  · rw [if_neg (by decide), if_neg (by decide), if_neg (by decide)]
    unfold shN
    rw [if_neg (by decide), if_pos (by decide), if_neg (by decide), if_pos (by decide), if_neg (by decide), if_pos (by decide), xor_div]
  · rw [if_pos rfl, if_pos rfl, if_pos rfl]
    have hs : s % 32 < 32 := Nat.mod_lt _ (by decide)
    exact eq_of_bits (rotN_lt _ _ (xor_lt hx hy)) (xor_lt (rotN_lt _ _ hx) (rotN_lt _ _ hy)) fun i hi => by
      rw [rotN_bit _ _ i (xor_lt hx hy) hs hi, Nat.testBit_xor, Nat.testBit_xor, rotN_bit _ _ i hx hs hi, rotN_bit _ _ i hy hs hi]
theorem Fx_zero (kind s : Nat) (hk : kind = 6 ∨ kind = 7 ∨ kind = 8) : Fx kind s 0 = 0 := by
  have := Fx_xor kind s hk 0 0 (by decide) (by decide)
  rw [Nat.xor_self, Nat.xor_self] at this
  exact this
theorem Jn_lt : ∀ n (f : Nat → Nat), (∀ j, f j < 4294967296) → Jn n f < 4294967296
  | 0, _, _ => by simp [Jn]
  | n + 1, f, h => xor_lt (h 0) (Jn_lt n _ fun j => h (j + 1))
theorem Jn_Fx (kind s : Nat) (hk : kind = 6 ∨ kind = 7 ∨ kind = 8) : ∀ n (f : Nat → Nat), (∀ j, f j < 4294967296) → Jn n (fun j => Fx kind s (f j)) = Fx kind s (Jn n f)
  | 0, _, _ => (Fx_zero kind s hk).symm
  | n + 1, f, h => by
    show Fx kind s (f 0) ^^^ Jn n (fun j => Fx kind s (f (j + 1))) = Fx kind s (f 0 ^^^ Jn n fun j => f (j + 1))
    rw [Jn_Fx kind s hk n _ fun j => h (j + 1), Fx_xor kind s hk _ _ (h 0) (Jn_lt n _ fun j => h (j + 1))]
theorem each_rot (x : List Int) (s : Nat) (hs : s < 4294967296) (hx : U x) (hl : x.length < 1000000) (d : Nat) : ∀ (k i : Nat) (y : List Int), i + d = x.length → d < k → y.length = x.length → (∀ j, y.getD j 0 = if j < i then (Fx 8 s (at_ x j) : Int) else x.getD j 0) →
    ∃ r, share_each_rot.l0 k (s : Int) y (i : Int) = some r ∧ r.length = x.length ∧ ∀ j, r.getD j 0 = if j < x.length then (Fx 8 s (at_ x j) : Int) else x.getD j 0 := by
  induction d with
  | zero =>
    intro k i y hi hk hy h
    obtain ⟨k, rfl⟩ : ∃ q, k = q + 1 := ⟨k - 1, by omega⟩
    obtain rfl : i = x.length := by omega
    refine ⟨y, ?_, hy, h⟩
    simp only [share_each_rot.l0]
    rw [if_neg (by omega)]
  | succ d ih =>
    intro k i y hi hk hy h
    obtain ⟨k, rfl⟩ : ∃ q, k = q + 1 := ⟨k - 1, by omega⟩
    simp only [share_each_rot.l0]
    have hyi : y.getD i 0 = (at_ x i : Int) := by rw [h i, if_neg (by omega), at_int hx]
    rw [if_pos (by omega), if_pos (by omega), rd_at, hyi, rot_f _ s (at_lt hx i) hs, Option.bind_some, show wrap64 ((i : Int) + 1) = ((i + 1 : Nat) : Int) from Ytcpcahhnkojolaa.BB.w64 (by omega) (by omega), show ((i : Int)).toNat = i from rfl]
    refine ih k (i + 1) _ (by omega) (by omega) (by rw [List.length_set]; exact hy) (fun j => ?_)
    rw [set_at _ _ _ _ (by omega)]
    by_cases e : i = j
    · subst e; rw [if_pos rfl, if_pos (by omega)]; unfold Fx; rw [if_pos rfl]
    · rw [if_neg e, h j]
      by_cases e2 : j < i
      · rw [if_pos e2, if_pos (by omega)]
      · rw [if_neg e2, if_neg (by omega)]
theorem each_sh (kd : Nat) (hkd : kd = 6 ∨ kd = 7) (x : List Int) (s : Nat) (hs : s < 4294967296) (hx : U x) (hl : x.length < 1000000) (d : Nat) : ∀ (k i : Nat) (y : List Int), i + d = x.length → d + 10 < k → y.length = x.length → (∀ j, y.getD j 0 = if j < i then (Fx kd s (at_ x j) : Int) else x.getD j 0) →
    ∃ r, share_each_shift.l0 k (kd : Int) (s : Int) y (i : Int) = some r ∧ r.length = x.length ∧ ∀ j, r.getD j 0 = if j < x.length then (Fx kd s (at_ x j) : Int) else x.getD j 0 := by
  induction d with
  | zero =>
    intro k i y hi hk hy h
    obtain ⟨k, rfl⟩ : ∃ q, k = q + 1 := ⟨k - 1, by omega⟩
    obtain rfl : i = x.length := by omega
    refine ⟨y, ?_, hy, h⟩
    simp only [share_each_shift.l0]
    rw [if_neg (by omega)]
  | succ d ih =>
    intro k i y hi hk hy h
    obtain ⟨k, rfl⟩ : ∃ q, k = q + 1 := ⟨k - 1, by omega⟩
    simp only [share_each_shift.l0]
    have hyi : y.getD i 0 = (at_ x i : Int) := by rw [h i, if_neg (by omega), at_int hx]
    obtain ⟨c, hc⟩ := shift_f k (by omega) ((kd : Int) - 6) (at_ x i) s (at_lt hx i) hs
    rw [if_pos (by omega), if_pos (by omega), rd_at, hyi, hc, Option.bind_some, Option.bind_some, show wrap64 ((i : Int) + 1) = ((i + 1 : Nat) : Int) from Ytcpcahhnkojolaa.BB.w64 (by omega) (by omega), show ((i : Int)).toNat = i from rfl]
    refine ih k (i + 1) _ (by omega) (by omega) (by rw [List.length_set]; exact hy) (fun j => ?_)
    rw [set_at _ _ _ _ (by omega)]
    by_cases e : i = j
    · subst e; rw [if_pos rfl, if_pos (by omega)]; unfold Fx; rw [if_neg (by omega), show ((kd - 6 : Nat) : Int) = (kd : Int) - 6 by omega]
    · rw [if_neg e, h j]
      by_cases e2 : j < i
      · rw [if_pos e2, if_pos (by omega)]
      · rw [if_neg e2, if_neg (by omega)]
theorem shareshift_f (k kind : Nat) (hkind : kind = 6 ∨ kind = 7 ∨ kind = 8) (a : List Int) (s : Nat) (hs : s < 4294967296) (ha : U a) (hla : a.length ≤ 100) (hk : 300 ≤ k) :
    ∃ r, share_Shift.f k (kind : Int) a (s : Int) = some r ∧ r.length = a.length ∧ ∀ j, r.getD j 0 = (Fx kind s (at_ a j) : Int) := by
  have fin : ∀ j, (if j < a.length then (Fx kind s (at_ a j) : Int) else a.getD j 0) = (Fx kind s (at_ a j) : Int) := by
    intro j
    split
    · rfl
    · have e0 : a.getD j 0 = 0 := beyond a j (by omega)
      unfold at_
      rw [e0, Int.toNat_zero, Fx_zero kind s hkind]; rfl
  have h0 : ∀ j, a.getD j 0 = if j < 0 then (Fx kind s (at_ a j) : Int) else a.getD j 0 := fun j => by rw [if_neg (by omega)]
  unfold share_Shift.f
  rcases hkind with rfl | rfl | rfl
  · obtain ⟨r, h1, h2, h3⟩ := each_sh 6 (.inl rfl) a s hs ha (by omega) a.length k 0 a (by omega) (by omega) rfl h0
    refine ⟨r, ?_, h2, fun j => by rw [h3 j, fin j]⟩
    rw [if_neg (by decide), if_pos (by decide)]
    unfold share_each_shift.f
    rw [clone_f a (by omega), Option.bind_some]; exact h1
  · obtain ⟨r, h1, h2, h3⟩ := each_sh 7 (.inr rfl) a s hs ha (by omega) a.length k 0 a (by omega) (by omega) rfl h0
    refine ⟨r, ?_, h2, fun j => by rw [h3 j, fin j]⟩
    rw [if_neg (by decide), if_neg (by decide), if_pos (by decide)]
    unfold share_each_shift.f
    rw [clone_f a (by omega), Option.bind_some]; exact h1
  · obtain ⟨r, h1, h2, h3⟩ := each_rot a s hs ha (by omega) a.length k 0 a (by omega) (by omega) rfl h0
    refine ⟨r, ?_, h2, fun j => by rw [h3 j, fin j]⟩
    rw [if_pos (by decide)]
    unfold share_each_rot.f
    rw [clone_f a (by omega), Option.bind_some]; exact h1
theorem refShift_l0 (kind : Nat) (hkind : kind = 6 ∨ kind = 7 ∨ kind = 8) (a : List Int) (s : Nat) (hs : s < 4294967296) (ha : U a) (hla : a.length ≤ 100) (d : Nat) : ∀ (k i : Nat) (y : List Int), i + d = a.length → 2 * d + 7000 ≤ k → y.length = i → (∀ j, j < i → y.getD j 0 = (Fx kind s (at_ a j) : Int)) →
    ∃ r, bautaref18_Shift.l0 k (kind : Int) a (s : Int) y (i : Int) = some r ∧ r.length = a.length ∧ ∀ j, j < a.length → r.getD j 0 = (Fx kind s (at_ a j) : Int) := by
  induction d with
  | zero =>
    intro k i y hi hk hy h
    obtain ⟨k, rfl⟩ : ∃ q, k = q + 2 := ⟨k - 2, by omega⟩
    refine ⟨y, ?_, by omega, fun j hj => h j (by omega)⟩
    simp only [bautaref18_Shift.l0]
    rw [if_neg (by omega)]
    simp only [bautaref18_Shift.j1]
    rw [if_neg (by decide)]
  | succ d ih =>
    intro k i y hi hk hy h
    obtain ⟨k, rfl⟩ : ∃ q, k = q + 2 := ⟨k - 2, by omega⟩
    obtain ⟨r, h1, h2, h3⟩ := ih k (i + 1) (y ++ [(Fx kind s (at_ a i) : Int)]) (by omega) (by omega) (by simp [hy]) (fun j hj => by
      rw [snoc_at]
      by_cases e : j < y.length
      · rw [if_pos e]; exact h j (by omega)
      · rw [if_neg e, if_pos (by omega), show j = i by omega])
    refine ⟨r, ?_, h2, h3⟩
    simp only [bautaref18_Shift.l0]
    rw [if_pos (by omega), if_pos (by omega), decide_eq_true (by omega)]
    simp only [bautaref18_Shift.j1]
    rw [if_pos trivial, if_pos (by omega), if_pos (by omega), rd_at, at_int ha, refrot_f k _ s (at_lt ha i) hs (by omega), Option.bind_some, show wrap64 ((i : Int) + 1) = ((i + 1 : Nat) : Int) from Ytcpcahhnkojolaa.BB.w64 (by omega) (by omega)]
    by_cases c : kind = 8
    · rw [if_neg (by omega), if_pos (by omega)]
      rw [show Fx kind s (at_ a i) = rotN (at_ a i) (s % 32) by unfold Fx; rw [if_pos c]] at h1
      exact h1
    · rw [if_pos (by omega)]
      obtain ⟨q, hq⟩ := refshift_f k (kind - 6) (by omega) (at_ a i) s (at_lt ha i) hs (by omega)
      rw [show wrap64 ((kind : Int) - 6) = ((kind - 6 : Nat) : Int) by unfold wrap64; omega, hq, Option.bind_some, if_pos (by omega)]
      rw [show Fx kind s (at_ a i) = shN ((kind - 6 : Nat) : Int) (at_ a i) s by unfold Fx; rw [if_neg c]] at h1
      exact h1
theorem none_l0 (k : Nat) (kind : Int) (h : ¬ (6 ≤ kind ∧ kind ≤ 8)) (a : List Int) (s : Int) : bautaref18_Shift.f (k + 2) kind a s = some [] := by
  have fin : bautaref18_Shift.j1 (k + 1) kind a s [] 0 false = some [] := by simp only [bautaref18_Shift.j1]; rw [if_neg (by decide)]
  unfold bautaref18_Shift.f
  simp only [bautaref18_Shift.l0]
  split
  · split
    · rw [decide_eq_false (by omega)]; exact fin
    · exact fin
  · exact fin
theorem ShareShifts : bautalaw18_ShareShifts.Pure := by
  intro a0 l1 a2 _ _ _ h1 h2
  obtain ⟨s, rfl, hs⟩ := wf_u32 h2
  have ha := U_take (U_of h1) 100
  have hla := len_take l1
  obtain ⟨k, hk⟩ : ∃ k : Nat, 8000 ≤ k := ⟨8000, by omega⟩
  refine ⟨k, ?_⟩
  unfold bautalaw18_ShareShifts.f
  rw [short_f, Option.bind_some]
  generalize l1.take 100 = a at ha hla ⊢
  have hta : a.take 100 = a := List.take_of_length_le hla
  rw [short_f, hta, Option.bind_some]
  by_cases c : 6 ≤ a0 ∧ a0 ≤ 8
  · obtain ⟨kind, rfl⟩ : ∃ n : Nat, a0 = (n : Int) := ⟨a0.toNat, by omega⟩
    have hkind : kind = 6 ∨ kind = 7 ∨ kind = 8 := by omega
    obtain ⟨r, x1, x2, x3⟩ := shareshift_f k kind hkind a s hs ha hla (by omega)
    obtain ⟨q, y1, y2, y3⟩ := refShift_l0 kind hkind a s hs ha hla a.length k 0 [] (by omega) (by omega) rfl (fun j hj => absurd hj (by omega))
    have y1' : bautaref18_Shift.f k (kind : Int) a (s : Int) = some q := y1
    obtain rfl : r = q := ext_getD (by omega) (fun i hi => by rw [x3, y3 i (by omega)])
    have ur : U r := U_of_at fun i _ => by rw [x3]; have := Fx_lt kind s (at_ a i) hkind (at_lt ha i); omega
    have jr : J r = Fx kind s (J a) := by
      rw [J_eq r 100 (by omega), J_eq a 100 hla, at_of x3, Jn_Fx kind s hkind 100 (at_ a) (at_lt ha)]
    have uj : U [(J a : Int)] := by intro x hx; rw [List.mem_singleton.mp hx]; have := J_lt ha; omega
    obtain ⟨o, z1, z2, z3⟩ := refShift_l0 kind hkind [(J a : Int)] s hs uj (by simp) 1 k 0 [] rfl (by omega) rfl (fun j hj => absurd hj (by omega))
    have z1' : bautaref18_Shift.f k (kind : Int) [(J a : Int)] (s : Int) = some o := z1
    have ho : rd o 0 = (Fx kind s (J a) : Int) := z3 0 (by simp)
    have lo : o.length = 1 := z2
    rw [x1, Option.bind_some, y1', Option.bind_some, same_f k r (by omega) (by omega), Option.bind_some, if_pos rfl, refjoin_f k a ha (by omega) (by omega), Option.bind_some, z1', Option.bind_some, lo, if_neg (by decide), Join_f k r ur (by omega) (by omega), Option.bind_some, if_pos (by decide), ho, jr, if_pos rfl, lives_k (by omega), Option.bind_some]
  · obtain ⟨k, rfl⟩ : ∃ q, k = q + 2 := ⟨k - 2, by omega⟩
    have e : share_Shift.f (k + 2) a0 a (s : Int) = some [] := by
      unfold share_Shift.f
      rw [if_neg (by omega), if_neg (by omega), if_neg (by omega)]
    rw [e, Option.bind_some, none_l0 k a0 c, Option.bind_some, same_f (k + 2) [] (by decide) (by simp), Option.bind_some, if_pos rfl, refjoin_f (k + 2) a ha (by omega) (by omega), Option.bind_some, none_l0 k a0 c, Option.bind_some, if_pos (by decide), lives_k (by omega), Option.bind_some]

end Go.Proofs.Ytcpcahhnkojolaa.Pure
