/- Plain lemmas on words of 32 bits: Go's bit operators as Nat's, words as lists of bits. No condition; no program in sight. -/
import Derived.Test.YtkcechbibabpjaaWWords
import Derived.Test.YtkcechbibabpjaaWMore
namespace Go.Proofs.Ytkcechbibabpjaa.B
open Go.RowKit Go.Proofs.YtkcechbibabpjaaW.PrintWords Go.Proofs.YtkcechbibabpjaaW.PrintLast Go.Proofs.YtkcechbibabpjaaW.PrintMore

theorem wf_u32 {a : Int} (h : (Lit.int .u32 a).wf = true) : ∃ n : Nat, a = (n : Int) ∧ n < 4294967296 := by
  have hb : 0 ≤ a ∧ a < 4294967296 := by
    simp [Lit.wf, IntKind.min, IntKind.max, IntKind.bits, IntKind.signed] at h
    omega
  exact ⟨a.toNat, by omega, by omega⟩

theorem ofInt_u32 (a : Nat) (ha : a < 4294967296) : (BitVec.ofInt 32 (a : Int)).toNat = a := by
  rw [BitVec.ofInt_natCast, BitVec.toNat_ofNat]; exact Nat.mod_eq_of_lt (by omega)
theorem wrap_u32 (n : Int) : IntKind.u32.wrap n = n % 4294967296 := by simp [IntKind.wrap, IntKind.bits, IntKind.signed]
theorem wrap_u64 (n : Int) : IntKind.u64.wrap n = n % 18446744073709551616 := by simp [IntKind.wrap, IntKind.bits, IntKind.signed]

theorem xor_lt {a b : Nat} (ha : a < 4294967296) (hb : b < 4294967296) : a ^^^ b < 4294967296 := Nat.xor_lt_two_pow (n := 32) ha hb
theorem and_lt {a b : Nat} (hb : b < 4294967296) : a &&& b < 4294967296 := Nat.and_lt_two_pow (n := 32) a hb
theorem or_lt {a b : Nat} (ha : a < 4294967296) (hb : b < 4294967296) : a ||| b < 4294967296 := Nat.or_lt_two_pow (n := 32) ha hb

theorem xor_u32 (a b : Nat) (ha : a < 4294967296) (hb : b < 4294967296) : Go.bits .xor .u32 (a : Int) (b : Int) = ((a ^^^ b : Nat) : Int) := by
  have hx := xor_lt ha hb
  show IntKind.u32.wrap ((BitVec.ofInt 32 (a : Int) ^^^ BitVec.ofInt 32 (b : Int)).toNat : Int) = _
  rw [BitVec.toNat_xor, ofInt_u32 a ha, ofInt_u32 b hb, wrap_u32]
  omega
theorem and_u32 (a b : Nat) (ha : a < 4294967296) (hb : b < 4294967296) : Go.bits .and .u32 (a : Int) (b : Int) = ((a &&& b : Nat) : Int) := by
  have hx := and_lt (a := a) hb
  show IntKind.u32.wrap ((BitVec.ofInt 32 (a : Int) &&& BitVec.ofInt 32 (b : Int)).toNat : Int) = _
  rw [BitVec.toNat_and, ofInt_u32 a ha, ofInt_u32 b hb, wrap_u32]
  omega
theorem or_u32 (a b : Nat) (ha : a < 4294967296) (hb : b < 4294967296) : Go.bits .or .u32 (a : Int) (b : Int) = ((a ||| b : Nat) : Int) := by
  have hx := or_lt ha hb
  show IntKind.u32.wrap ((BitVec.ofInt 32 (a : Int) ||| BitVec.ofInt 32 (b : Int)).toNat : Int) = _
  rw [BitVec.toNat_or, ofInt_u32 a ha, ofInt_u32 b hb, wrap_u32]
  omega
theorem andNot_u32 (a b : Nat) (ha : a < 4294967296) (hb : b < 4294967296) : Go.bits .andNot .u32 (a : Int) (b : Int) = ((a &&& (4294967295 - b) : Nat) : Int) := by
  have hx := and_lt (a := a) (b := 4294967295 - b) (by omega)
  show IntKind.u32.wrap ((BitVec.ofInt 32 (a : Int) &&& ~~~ BitVec.ofInt 32 (b : Int)).toNat : Int) = _
  rw [BitVec.toNat_and, BitVec.toNat_not, ofInt_u32 a ha, ofInt_u32 b hb, wrap_u32, show 2 ^ 32 - 1 - b = 4294967295 - b by omega]
  omega

theorem compl_bit (b i : Nat) (hb : b < 4294967296) : (4294967295 - b).testBit i = (decide (i < 32) && !b.testBit i) := by
  have := Nat.testBit_two_pow_sub_succ (x := b) (n := 32) hb i
  rw [show 2 ^ 32 - (b + 1) = 4294967295 - b by omega] at this
  exact this
theorem high_bit {a : Nat} (ha : a < 4294967296) {i : Nat} (hi : 32 ≤ i) : a.testBit i = false :=
  Nat.testBit_lt_two_pow (Nat.lt_of_lt_of_le ha (Nat.pow_le_pow_right (n := 2) (by decide) hi))
theorem not_eq (b : Nat) (hb : b < 4294967296) : 4294967295 ^^^ b = 4294967295 - b := by
  apply Nat.eq_of_testBit_eq
  intro i
  rw [Nat.testBit_xor, compl_bit b i hb, show (4294967295 : Nat) = 2 ^ 32 - 1 from rfl, Nat.testBit_two_pow_sub_one]
  rcases Nat.lt_or_ge i 32 with h | h
  · simp [h]
  · simp [high_bit hb h, Nat.not_lt.mpr h]
theorem not_u32 (b : Nat) (hb : b < 4294967296) : Go.bits .xor .u32 4294967295 (b : Int) = ((4294967295 - b : Nat) : Int) := by
  rw [show (4294967295 : Int) = ((4294967295 : Nat) : Int) from rfl, xor_u32 _ _ (by omega) hb, not_eq b hb]

theorem top_and (n : Nat) : n &&& 2147483648 = if n.testBit 31 then 2147483648 else 0 := by
  apply Nat.eq_of_testBit_eq
  intro i
  have h31 : Nat.testBit 2147483648 i = decide (31 = i) := Nat.testBit_two_pow (n := 31)
  rw [Nat.testBit_and, h31]
  by_cases h : 31 = i
  · subst h
    cases hb : n.testBit 31
    · simp
    · rw [if_pos rfl, h31]; rfl
  · cases hb : n.testBit 31
    · simp [h]
    · rw [if_pos rfl, h31]; simp [h]
theorem and15 (n : Nat) : n &&& 15 = n % 16 := Nat.and_two_pow_sub_one_eq_mod n 4
theorem and31 (n : Nat) : n &&& 31 = n % 32 := Nat.and_two_pow_sub_one_eq_mod n 5
theorem and255 (n : Nat) : n &&& 255 = n % 256 := Nat.and_two_pow_sub_one_eq_mod n 8

/-- A list of bits, the lowest first, as a number. -/
def ofB : List Bool → Nat
  | [] => 0
  | b :: l => 2 * ofB l + b.toNat
theorem ofB_lt : ∀ l : List Bool, ofB l < 2 ^ l.length
  | [] => by simp [ofB]
  | b :: l => by
    have := ofB_lt l
    have hb : b.toNat ≤ 1 := by cases b <;> simp
    simp only [ofB, List.length_cons, Nat.pow_succ]
    omega
theorem ofB_append : ∀ l m : List Bool, ofB (l ++ m) = ofB l + 2 ^ l.length * ofB m
  | [], m => by simp [ofB]
  | b :: l, m => by
    simp only [List.cons_append, ofB, ofB_append l m, List.length_cons, Nat.pow_succ]
    rw [Nat.mul_add, ← Nat.mul_assoc 2, Nat.mul_comm 2 (2 ^ l.length)]
    omega
theorem ofB_bit : ∀ (l : List Bool) (i : Nat), (ofB l).testBit i = l.getD i false
  | [], i => by simp [ofB]
  | b :: l, 0 => by cases b <;> simp [ofB] <;> omega
  | b :: l, i + 1 => by
    rw [Nat.testBit_add_one]
    have : (2 * ofB l + b.toNat) / 2 = ofB l := by cases b <;> simp <;> omega
    simp only [ofB, this, List.getD_cons_succ]
    exact ofB_bit l i
/-- A word's bits. -/
def bitsOf (a : Nat) : List Bool := (List.range 32).map a.testBit
theorem bitsOf_length (a : Nat) : (bitsOf a).length = 32 := by simp [bitsOf]
theorem bitsOf_at (a i : Nat) (hi : i < 32) : (bitsOf a).getD i false = a.testBit i := by
  simp [bitsOf, List.getD_eq_getElem?_getD, hi]
theorem ofB_bitsOf (a : Nat) (ha : a < 4294967296) : ofB (bitsOf a) = a := by
  apply Nat.eq_of_testBit_eq
  intro i
  rw [ofB_bit]
  rcases Nat.lt_or_ge i 32 with h | h
  · exact bitsOf_at a i h
  · rw [high_bit ha h, List.getD_eq_getElem?_getD, List.getElem?_eq_none (by rw [bitsOf_length]; exact h)]; rfl
theorem eq_of_bits {a b : Nat} (ha : a < 4294967296) (hb : b < 4294967296) (h : ∀ i, i < 32 → a.testBit i = b.testBit i) : a = b := by
  apply Nat.eq_of_testBit_eq
  intro i
  rcases Nat.lt_or_ge i 32 with hi | hi
  · exact h i hi
  · rw [high_bit ha hi, high_bit hb hi]
theorem getD_at (l : List Bool) (i : Nat) : rdOf false l (i : Int) = l.getD i false := by simp [rdOf]
end Go.Proofs.Ytkcechbibabpjaa.B
