/- Four words, mixed: the plain law of both. No condition. -/
import Derived.Test.YtkcechbibabpjaaPureTapeWB
import Derived.Test.YtkcechbibabpjaaPBx3
namespace Go.Proofs.Ytkcechbibabpjaa.Pure
set_option linter.unusedVariables false
open Go.RowKit Go.Proofs.Ytkcechbibabpjaa.B Go.Proofs.Ytkcechbibabpjaa.BW Go.Proofs.Ytkcechbibabpjaa.PB Go.Proofs.YtkcechbibabpjaaW.PrintWords Go.Proofs.YtkcechbibabpjaaW.PrintLast Go.Proofs.YtkcechbibabpjaaW.PrintMore

/-- A word turned to the left. -/
def rotN (a s : Nat) : Nat := (a * 2 ^ s % 4294967296) ||| (a / 2 ^ (32 - s))
theorem rotN_lt (a s : Nat) (ha : a < 4294967296) : rotN a s < 4294967296 := or_lt (Nat.mod_lt _ (by decide)) (Nat.lt_of_le_of_lt (Nat.div_le_self _ _) ha)
theorem rotN_bit (a s i : Nat) (ha : a < 4294967296) (hs : s < 32) (hi : i < 32) : (rotN a s).testBit i = a.testBit ((i + 32 - s) % 32) := by
  unfold rotN
  rw [Nat.testBit_or, show (4294967296 : Nat) = 2 ^ 32 from rfl, Nat.testBit_mod_two_pow, decide_eq_true hi, Bool.true_and, Nat.testBit_mul_two_pow, Nat.testBit_div_two_pow]
  rcases Nat.lt_or_ge i s with h | h
  · rw [decide_eq_false (by omega), Bool.false_and, Bool.false_or, show (i + 32 - s) % 32 = i + (32 - s) by omega]
  · rw [decide_eq_true (by omega), Bool.true_and, high_bit ha (show 32 ≤ i + (32 - s) by omega), Bool.or_false, show (i + 32 - s) % 32 = i - s by omega]

theorem and31_u64 (n : Nat) (hn : n < 4294967296) : Go.bits .and .u64 (n : Int) 31 = ((n % 32 : Nat) : Int) := by
  rw [show (31 : Int) = ((31 : Nat) : Int) from rfl, bits_and_u64_nat n 31 (by omega) (by omega), and31]
theorem rotl_f (a s : Nat) (ha : a < 4294967296) (hs : s < 32) : bits_RotateLeft32.f (a : Int) (s : Int) = some (rotN a s : Int) := by
  unfold bits_RotateLeft32.f
  have e : IntKind.u64.wrap (s : Int) = (s : Int) := by rw [Ytkcechbibabpjaa.B.wrap_u64]; omega
  have e2 : IntKind.u64.wrap (32 - (s : Int)) = ((32 - s : Nat) : Int) := by rw [Ytkcechbibabpjaa.B.wrap_u64]; omega
  rw [e, and31_u64 s (by omega), Nat.mod_eq_of_lt hs, e2, if_pos (by omega), if_pos (by omega)]
  have e3 : shl .u32 (a : Int) (s : Int) = ((a * 2 ^ s % 4294967296 : Nat) : Int) := by
    unfold shl
    rw [show ((s : Int).toNat) = s from rfl, show (IntKind.u32.bits) = 32 from rfl, Nat.min_eq_left (by omega), Ytkcechbibabpjaa.B.wrap_u32]
    simp
  have e4 : shr .u32 (a : Int) ((32 - s : Nat) : Int) = ((a / 2 ^ (32 - s) : Nat) : Int) := by
    unfold shr
    rw [show (((32 - s : Nat) : Int).toNat) = 32 - s from rfl, show (IntKind.u32.bits) = 32 from rfl, Nat.min_eq_left (by omega)]
    simp
  rw [e3, e4, or_u32 _ _ (Nat.mod_lt _ (by decide)) (Nat.lt_of_le_of_lt (Nat.div_le_self _ _) ha)]
  rfl
theorem rotl_neg (a s : Nat) (ha : a < 4294967296) : bits_RotateLeft32.f (a : Int) (wrap64 (-(wrap64 (Int.tmod (s : Int) 32)))) = some (rotN a ((32 - s % 32) % 32) : Int) := by
  have e0 : wrap64 (-(wrap64 (Int.tmod (s : Int) 32))) = -((s % 32 : Nat) : Int) := by
    rw [Int.tmod_eq_emod_of_nonneg (by omega)]; unfold wrap64; omega
  rw [e0]
  have hm : s % 32 < 32 := Nat.mod_lt _ (by decide)
  generalize s % 32 = m at hm
  have e1 : Go.bits .and .u64 (IntKind.u64.wrap (-(m : Int))) 31 = (((32 - m) % 32 : Nat) : Int) := by
    have : IntKind.u64.wrap (-(m : Int)) = (((18446744073709551616 - m) % 18446744073709551616 : Nat) : Int) := by rw [Ytkcechbibabpjaa.B.wrap_u64]; omega
    rw [this, show (31 : Int) = ((31 : Nat) : Int) from rfl, bits_and_u64_nat _ 31 (by omega) (by omega), and31]
    congr 1
    omega
  have hq : (32 - m) % 32 < 32 := Nat.mod_lt _ (by decide)
  have := rotl_f a ((32 - m) % 32) ha hq
  unfold bits_RotateLeft32.f at this ⊢
  have e : IntKind.u64.wrap (((32 - m) % 32 : Nat) : Int) = (((32 - m) % 32 : Nat) : Int) := by rw [Ytkcechbibabpjaa.B.wrap_u64]; omega
  rw [e, and31_u64 _ (by omega), Nat.mod_mod] at this
  rw [e1]
  exact this


/-- A list of 32 bits, turned by one. -/
def turn1 (l : List Bool) : List Bool := l.getD 31 false :: l.take 31
theorem turn1_length (l : List Bool) (h : l.length = 32) : (turn1 l).length = 32 := by simp [turn1, h]
theorem turn1_at (l : List Bool) (_h : l.length = 32) (i : Nat) (hi : i < 32) : (turn1 l).getD i false = l.getD ((i + 31) % 32) false := by
  cases i with
  | zero => simp [turn1]
  | succ i =>
    rw [show (i + 1 + 31) % 32 = i by omega]
    simp only [turn1, List.getD_eq_getElem?_getD]
    rw [List.getElem?_cons_succ, List.getElem?_take_of_lt (by omega)]
theorem ref_rot (a n : Nat) (ha : a < 4294967296) (by_ : Nat) (hb : by_ < 4294967296) (hn : n ≤ by_ % 32) : ∀ (k i : Nat) (l : List Bool), i + n = by_ % 32 → l.length = 32 → (∀ j, j < 32 → l.getD j false = a.testBit ((j + 32 - i) % 32)) → n + 40 < k →
    bautaref01_Rot.l0 k (by_ : Int) l (i : Int) = some (rotN a (by_ % 32) : Int) := by
  have hm : Int.tmod (by_ : Int) 32 = ((by_ % 32 : Nat) : Int) := by rw [Int.tmod_eq_emod_of_nonneg (by omega)]; omega
  have hlt : by_ % 32 < 32 := Nat.mod_lt _ (by decide)
  induction n with
  | zero =>
    intro k i l hi hl hj hk
    obtain ⟨k, rfl⟩ : ∃ m, k = m + 1 := ⟨k - 1, by omega⟩
    simp only [bautaref01_Rot.l0]
    rw [hm, if_neg (by omega), word_f k l (by omega) (by omega)]
    simp only [Option.bind_some]
    have : ofB l = rotN a (by_ % 32) := by
      have hb' := ofB_lt l
      rw [hl] at hb'
      refine eq_of_bits hb' (rotN_lt a _ ha) fun j hj' => ?_
      rw [ofB_bit, hj j hj', rotN_bit a _ j ha hlt hj']
      congr 2
      omega
    rw [this]
  | succ n ih =>
    intro k i l hi hl hj hk
    obtain ⟨k, rfl⟩ : ∃ m, k = m + 1 := ⟨k - 1, by omega⟩
    simp only [bautaref01_Rot.l0]
    have hw : ((i : Int) + 1) % 4294967296 = ((i + 1 : Nat) : Int) := by omega
    have hlen : ([rdOf false l 31] : List Bool).length + (l.take 31).length < 140737488355328 := by simp; omega
    rw [hm, if_pos (by omega), if_pos (by omega), Option.bind_some, if_pos (by omega), Option.bind_some, if_pos hlen, hw]
    refine ih (by omega) k (i + 1) (turn1 l) (by omega) (turn1_length l hl) (fun j hj' => ?_) (by omega)
    rw [turn1_at l hl j hj', hj _ (Nat.mod_lt _ (by decide))]
    congr 1
    omega


theorem refrot_f (k a b : Nat) (ha : a < 4294967296) (hb : b < 4294967296) (hk : 110 ≤ k) : bautaref01_Rot.f k (a : Int) (b : Int) = some (rotN a (b % 32) : Int) := by
  have hlt : b % 32 < 32 := Nat.mod_lt _ (by decide)
  unfold bautaref01_Rot.f
  rw [bits_f k a ha (by omega)]
  simp only [Option.bind_some]
  exact ref_rot a (b % 32) ha b hb (Nat.le_refl _) k 0 (bitsOf a) (by omega) (bitsOf_length a) (fun j hj => by rw [bitsOf_at a j hj]; congr 1; omega) (by omega)


/-! ### names that nothing opens (the kernel is not to reckon them) -/
theorem R_ex : ∃ f : Nat → Nat → Nat, ∀ a s, f a s = rotN a s := ⟨_, fun _ _ => rfl⟩
noncomputable def R : Nat → Nat → Nat := Classical.choose R_ex
theorem R_eq (a s : Nat) : R a s = rotN a s := Classical.choose_spec R_ex a s
theorem R_lt (a s : Nat) (ha : a < 4294967296) : R a s < 4294967296 := by rw [R_eq]; exact rotN_lt a s ha
theorem A1_ex : ∃ f : Nat → Nat → Nat, ∀ a b, f a b = (a + b) % 4294967296 := ⟨_, fun _ _ => rfl⟩
noncomputable def A1 : Nat → Nat → Nat := Classical.choose A1_ex
theorem A1_eq (a b : Nat) : A1 a b = (a + b) % 4294967296 := Classical.choose_spec A1_ex a b
theorem S1_ex : ∃ f : Nat → Nat → Nat, ∀ a b, f a b = (a + 4294967296 - b) % 4294967296 := ⟨_, fun _ _ => rfl⟩
noncomputable def S1 : Nat → Nat → Nat := Classical.choose S1_ex
theorem S1_eq (a b : Nat) : S1 a b = (a + 4294967296 - b) % 4294967296 := Classical.choose_spec S1_ex a b

/-! ### a quarter -/
theorem add32 (a b : Nat) : ((a : Int) + (b : Int)) % 4294967296 = (((a + b) % 4294967296 : Nat) : Int) := by omega
theorem sub32 (a b : Nat) (hb : b < 4294967296) : ((a : Int) - (b : Int)) % 4294967296 = (((a + 4294967296 - b) % 4294967296 : Nat) : Int) := by omega
theorem A1_lt (a b : Nat) : A1 a b < 4294967296 := by rw [A1_eq]; exact Nat.mod_lt _ (by decide)
theorem S1_lt (a b : Nat) : S1 a b < 4294967296 := by rw [S1_eq]; exact Nat.mod_lt _ (by decide)
theorem add_A (a b : Nat) : ((a : Int) + (b : Int)) % 4294967296 = (A1 a b : Int) := by rw [A1_eq]; exact add32 a b
theorem sub_S (a b : Nat) (hb : b < 4294967296) : ((a : Int) - (b : Int)) % 4294967296 = (S1 a b : Int) := by rw [S1_eq]; exact sub32 a b hb
noncomputable def q_d1 (a b d : Nat) : Nat := R (d ^^^ A1 a b) 16
noncomputable def q_b1 (a b c d : Nat) : Nat := R (b ^^^ A1 c (q_d1 a b d)) 12
noncomputable def q_a2 (a b c d : Nat) : Nat := A1 (A1 a b) (q_b1 a b c d)
noncomputable def q_d2 (a b c d : Nat) : Nat := R (q_d1 a b d ^^^ q_a2 a b c d) 8
noncomputable def q_c2 (a b c d : Nat) : Nat := A1 (A1 c (q_d1 a b d)) (q_d2 a b c d)
noncomputable def q_b2 (a b c d : Nat) : Nat := R (q_b1 a b c d ^^^ q_c2 a b c d) 7
theorem rl (a s : Nat) (i : Int) (hi : i = (s : Int)) (ha : a < 4294967296) (hs : s < 32) : bits_RotateLeft32.f (a : Int) i = some (R a s : Int) := by rw [hi, R_eq]; exact rotl_f a s ha hs
theorem rr (k a s : Nat) (i : Int) (hi : i = (s : Int)) (ha : a < 4294967296) (hs : s < 32) (hk : 110 ≤ k) : bautaref01_Rot.f k (a : Int) i = some (R a s : Int) := by
  rw [hi, R_eq, refrot_f k a s ha (by omega) hk, Nat.mod_eq_of_lt hs]
theorem rb (a s m : Nat) (i : Int) (hi : i = (s : Int)) (ha : a < 4294967296) (hs : s < 32) (hm : m = (32 - s) % 32) : bits_RotateLeft32.f (a : Int) (wrap64 (-i)) = some (R a m : Int) := by
  have := rotl_neg a s ha
  rw [show wrap64 (Int.tmod (s : Int) 32) = i by rw [Int.tmod_eq_emod_of_nonneg (by omega)]; unfold wrap64; omega, Nat.mod_eq_of_lt hs, ← hm] at this
  rw [R_eq]; exact this
theorem quarter_f (a b c d : Nat) (ha : a < 4294967296) (hb : b < 4294967296) (hc : c < 4294967296) (hd : d < 4294967296) :
    tape_quarter.f (a : Int) (b : Int) (c : Int) (d : Int) = some ((q_a2 a b c d : Int), (q_b2 a b c d : Int), (q_c2 a b c d : Int), (q_d2 a b c d : Int)) := by
  have h1 := xor_lt hd (A1_lt a b)
  have l1 : q_d1 a b d < 4294967296 := R_lt _ _ h1
  have h2 := xor_lt hb (A1_lt c (q_d1 a b d))
  have l2 : q_b1 a b c d < 4294967296 := R_lt _ _ h2
  have h3 := xor_lt l1 (A1_lt (A1 a b) (q_b1 a b c d))
  have l3 : q_d2 a b c d < 4294967296 := R_lt _ _ h3
  have h4 := xor_lt l2 (A1_lt (A1 c (q_d1 a b d)) (q_d2 a b c d))
  unfold tape_quarter.f tape_turns.f
  simp only [Option.bind_some]
  rw [add_A, xor_u32 _ _ hd (A1_lt a b), rl _ 16 16 rfl h1 (by decide)]
  simp only [Option.bind_some]
  rw [show R (d ^^^ A1 a b) 16 = q_d1 a b d from rfl, add_A, xor_u32 _ _ hb (A1_lt _ _), rl _ 12 12 rfl h2 (by decide)]
  simp only [Option.bind_some]
  rw [show R (b ^^^ A1 c (q_d1 a b d)) 12 = q_b1 a b c d from rfl, add_A, xor_u32 _ _ l1 (A1_lt _ _), rl _ 8 8 rfl h3 (by decide)]
  simp only [Option.bind_some]
  rw [show R (q_d1 a b d ^^^ A1 (A1 a b) (q_b1 a b c d)) 8 = q_d2 a b c d from rfl, add_A, xor_u32 _ _ l2 (A1_lt _ _), rl _ 7 7 rfl h4 (by decide)]
  rfl
theorem refq_f (k a b c d : Nat) (ha : a < 4294967296) (hb : b < 4294967296) (hc : c < 4294967296) (hd : d < 4294967296) (hk : 110 ≤ k) :
    bautaref38_Quarter.f k (a : Int) (b : Int) (c : Int) (d : Int) = some ((q_a2 a b c d : Int), (q_b2 a b c d : Int), (q_c2 a b c d : Int), (q_d2 a b c d : Int)) := by
  have h1 := xor_lt hd (A1_lt a b)
  have l1 : q_d1 a b d < 4294967296 := R_lt _ _ h1
  have h2 := xor_lt hb (A1_lt c (q_d1 a b d))
  have l2 : q_b1 a b c d < 4294967296 := R_lt _ _ h2
  have h3 := xor_lt l1 (A1_lt (A1 a b) (q_b1 a b c d))
  have l3 : q_d2 a b c d < 4294967296 := R_lt _ _ h3
  have h4 := xor_lt l2 (A1_lt (A1 c (q_d1 a b d)) (q_d2 a b c d))
  unfold bautaref38_Quarter.f
  rw [add_A, xor_u32 _ _ hd (A1_lt a b), rr k _ 16 16 rfl h1 (by decide) hk]
  simp only [Option.bind_some]
  rw [show R (d ^^^ A1 a b) 16 = q_d1 a b d from rfl, add_A, xor_u32 _ _ hb (A1_lt _ _), rr k _ 12 12 rfl h2 (by decide) hk]
  simp only [Option.bind_some]
  rw [show R (b ^^^ A1 c (q_d1 a b d)) 12 = q_b1 a b c d from rfl, add_A, xor_u32 _ _ l1 (A1_lt _ _), rr k _ 8 8 rfl h3 (by decide) hk]
  simp only [Option.bind_some]
  rw [show R (q_d1 a b d ^^^ A1 (A1 a b) (q_b1 a b c d)) 8 = q_d2 a b c d from rfl, add_A, xor_u32 _ _ l2 (A1_lt _ _), rr k _ 7 7 rfl h4 (by decide) hk]
  rfl

theorem Quarter_f (a b c d : Nat) (ha : a < 4294967296) (hb : b < 4294967296) (hc : c < 4294967296) (hd : d < 4294967296) :
    tape_Quarter.f (a : Int) (b : Int) (c : Int) (d : Int) = some ((q_a2 a b c d : Int), (q_b2 a b c d : Int), (q_c2 a b c d : Int), (q_d2 a b c d : Int)) := by
  unfold tape_Quarter.f; rw [quarter_f a b c d ha hb hc hd]; rfl
theorem lives_f : bautalaw38_lives.f = some true := by decide +kernel
end Go.Proofs.Ytkcechbibabpjaa.Pure
