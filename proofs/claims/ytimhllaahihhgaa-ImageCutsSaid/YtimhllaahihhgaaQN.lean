/- Four bytes as a number: Go's or is a sum. No condition but the hypotheses that each theorem states. -/
import Derived.Test.YtimhllaahihhgaaQC
namespace Go.Proofs.Ytimhllaahihhgaa.PA
open Go.RowKit Go.Proofs.YtimhllaahihhgaaW.PrintWords Go.Proofs.YtimhllaahihhgaaW.PrintLast Go.Proofs.YtimhllaahihhgaaW.PrintMore
set_option linter.unusedVariables false
theorem wrap_i64n (n : Nat) (h : n < 9223372036854775808) : IntKind.i64.wrap (n : Int) = (n : Int) := by
  rw [i64_w]; unfold wrap64; omega
theorem ofInt_i64 (a : Nat) (ha : a < 9223372036854775808) : (BitVec.ofInt 64 (a : Int)).toNat = a := by
  rw [BitVec.ofInt_natCast, BitVec.toNat_ofNat]; exact Nat.mod_eq_of_lt (by omega)
theorem or_i64 (a b : Nat) (ha : a < 9223372036854775808) (hb : b < 9223372036854775808) : Go.bits .or .i64 (a : Int) (b : Int) = ((a ||| b : Nat) : Int) := by
  have hx : a ||| b < 9223372036854775808 := Nat.or_lt_two_pow (n := 63) ha hb
  show IntKind.i64.wrap ((BitVec.ofInt 64 (a : Int) ||| BitVec.ofInt 64 (b : Int)).toNat : Int) = _
  rw [BitVec.toNat_or, ofInt_i64 a ha, ofInt_i64 b hb, wrap_i64n _ hx]
theorem or_sum (a b i : Nat) (h : a < 2 ^ i) : a ||| (b * 2 ^ i) = a + b * 2 ^ i := by
  have h3 := Nat.shiftLeft_add_eq_or_of_lt (b := a) (i := i) h b
  rw [Nat.shiftLeft_eq] at h3
  rw [Nat.or_comm, ← h3]; omega
theorem num4_eq {l : List Int} (h : Bytes l) : num4 l = rd l 0 + 256 * rd l 1 + 65536 * rd l 2 + 16777216 * rd l 3 := by
  obtain ⟨a, ha⟩ : ∃ a : Nat, rd l 0 = (a : Int) := ⟨(rd l 0).toNat, by have := rd_bytes h 0; omega⟩
  obtain ⟨b, hb⟩ : ∃ a : Nat, rd l 1 = (a : Int) := ⟨(rd l 1).toNat, by have := rd_bytes h 1; omega⟩
  obtain ⟨c, hc⟩ : ∃ a : Nat, rd l 2 = (a : Int) := ⟨(rd l 2).toNat, by have := rd_bytes h 2; omega⟩
  obtain ⟨d, hd⟩ : ∃ a : Nat, rd l 3 = (a : Int) := ⟨(rd l 3).toNat, by have := rd_bytes h 3; omega⟩
  have h0 := rd_bytes h 0
  have h1 := rd_bytes h 1
  have h2 := rd_bytes h 2
  have h3 := rd_bytes h 3
  rw [ha] at h0
  rw [hb] at h1
  rw [hc] at h2
  rw [hd] at h3
  unfold num4
  rw [ha, hb, hc, hd, wrap_i64n a (by omega), wrap_i64n b (by omega), wrap_i64n c (by omega), wrap_i64n d (by omega)]
  rw [show (b : Int) * 256 = ((b * 256 : Nat) : Int) by omega, show (c : Int) * 65536 = ((c * 65536 : Nat) : Int) by omega, show (d : Int) * 16777216 = ((d * 16777216 : Nat) : Int) by omega]
  rw [wrap_i64n _ (by omega), wrap_i64n _ (by omega), wrap_i64n _ (by omega)]
  rw [or_i64 a (b * 256) (by omega) (by omega), or_sum a b 8 (by omega)]
  rw [or_i64 _ (c * 65536) (by omega) (by omega), or_sum _ c 16 (by omega)]
  rw [or_i64 _ (d * 16777216) (by omega) (by omega), or_sum _ d 24 (by omega)]
  omega
theorem num4_range {l : List Int} (h : Bytes l) : 0 ≤ num4 l ∧ num4 l < 4294967296 := by
  rw [num4_eq h]
  have h0 := rd_bytes h 0
  have h1 := rd_bytes h 1
  have h2 := rd_bytes h 2
  have h3 := rd_bytes h 3
  omega
end Go.Proofs.Ytimhllaahihhgaa.PA
