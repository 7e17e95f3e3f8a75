/- What word.Add comes to: the sum, whether it is carried, whether the sign is wrong. For any two words. -/
import Derived.Test.YtamfpmlfhfkeoaaWordPure
namespace Go.Proofs.Ytamfpmlfhfkeoaa.B
open Go.RowKit Go.Proofs.Ytamfpmlfhfkeoaa.PAll Go.Proofs.YtamfpmlfhfkeoaaW.PrintWords Go.Proofs.YtamfpmlfhfkeoaaW.PrintLast

theorem flag_eq (a b s : Nat) (ha : a < 4294967296) (hb : b < 4294967296) (hs : s < 4294967296) :
    (Go.bits .and .u32 (Go.bits .and .u32 (Go.bits .xor .u32 (a : Int) (s : Int)) (Go.bits .xor .u32 (b : Int) (s : Int))) 2147483648 != 0) = ((a.testBit 31 != s.testBit 31) && (b.testBit 31 != s.testBit 31)) := by
  rw [xor_u32 a s ha hs, xor_u32 b s hb hs, and_u32 _ _ (xor_lt ha hs) (xor_lt hb hs), show (2147483648 : Int) = ((2147483648 : Nat) : Int) from rfl,
    and_u32 _ _ (and_lt (xor_lt hb hs)) (by omega), top_and, Nat.testBit_and, Nat.testBit_xor, Nat.testBit_xor]
  cases a.testBit 31 <;> cases b.testBit 31 <;> cases s.testBit 31 <;> decide

theorem add_f (a b : Nat) (c : Bool) (ha : a < 4294967296) (hb : b < 4294967296) :
    word_Add.f (a : Int) (b : Int) c = some ((((a + b + c.toNat) % 4294967296 : Nat) : Int), decide (4294967296 ≤ a + b + c.toNat),
      ((a.testBit 31 != ((a + b + c.toNat) % 4294967296).testBit 31) && (b.testBit 31 != ((a + b + c.toNat) % 4294967296).testBit 31))) := by
  have hs : (a + b + c.toNat) % 4294967296 < 4294967296 := Nat.mod_lt _ (by decide)
  have e1 : ∀ n : Nat, n < 2 → (IntKind.u64.wrap (IntKind.u64.wrap (IntKind.u64.wrap (a : Int) + IntKind.u64.wrap (b : Int)) + IntKind.u64.wrap (n : Int))) = ((a + b + n : Nat) : Int) := by
    intro n hn; simp only [wrap_u64]; omega
  have key : ∀ n : Nat, n < 2 → c.toNat = n → (bits_Add32.f (a : Int) (b : Int) (n : Int)).bind (fun bt => some (bt.1, (bt.2 == 1), (Go.bits .and .u32 (Go.bits .and .u32 (Go.bits .xor .u32 (a : Int) bt.1) (Go.bits .xor .u32 (b : Int) bt.1)) 2147483648 != 0))) = some ((((a + b + c.toNat) % 4294967296 : Nat) : Int), decide (4294967296 ≤ a + b + c.toNat),
      ((a.testBit 31 != ((a + b + c.toNat) % 4294967296).testBit 31) && (b.testBit 31 != ((a + b + c.toNat) % 4294967296).testBit 31))) := by
    intro n hn hc
    rw [hc] at hs ⊢
    unfold bits_Add32.f
    rw [e1 n hn]
    simp only [Option.bind_some]
    rw [show (((a + b + n : Nat) : Int) % 4294967296) = (((a + b + n) % 4294967296 : Nat) : Int) by omega, flag_eq a b _ ha hb hs]
    have : ((((a + b + n : Nat) : Int) / 4294967296 % 4294967296) == 1) = decide (4294967296 ≤ a + b + n) := by
      by_cases h : 4294967296 ≤ a + b + n
      · rw [decide_eq_true h]; exact beq_iff_eq.mpr (by omega)
      · rw [decide_eq_false h]; exact beq_eq_false_iff_ne.mpr (by omega)
    rw [this]
  unfold word_Add.f
  cases c with
  | true => rw [if_pos rfl]; exact key 1 (by omega) rfl
  | false => rw [if_neg (by decide)]; exact key 0 (by omega) rfl

end Go.Proofs.Ytamfpmlfhfkeoaa.B
