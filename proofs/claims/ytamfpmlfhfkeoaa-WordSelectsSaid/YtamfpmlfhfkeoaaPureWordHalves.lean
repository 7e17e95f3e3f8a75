/- WordHalves: what is selected and what is left are both words together. No condition. -/
import Derived.Test.YtamfpmlfhfkeoaaWordPure
import Derived.Test.YtamfpmlfhfkeoaaPAllx3
namespace Go.Proofs.Ytamfpmlfhfkeoaa.Pure
open Go.RowKit Go.Proofs.Ytamfpmlfhfkeoaa.PAll Go.Proofs.YtamfpmlfhfkeoaaW.PrintWords Go.Proofs.YtamfpmlfhfkeoaaW.PrintLast
open Go.Proofs.Ytamfpmlfhfkeoaa.B

/-- What is selected, of natural numbers. -/
def selN (m a b : Nat) : Nat := (m &&& a) ||| (b &&& (4294967295 - m))
theorem selN_lt (m a b : Nat) (hm : m < 4294967296) (ha : a < 4294967296) (_hb : b < 4294967296) : selN m a b < 4294967296 := or_lt (and_lt ha) (and_lt (by omega))
theorem sel_f (m a b : Nat) (hm : m < 4294967296) (ha : a < 4294967296) (hb : b < 4294967296) : word_Sel.f (m : Int) (a : Int) (b : Int) = some (selN m a b : Int) := by
  unfold word_Sel.f
  rw [and_u32 m a hm ha, andNot_u32 b m hb hm, or_u32 _ _ (and_lt ha) (and_lt (by omega))]; rfl
theorem selN_bit (m a b i : Nat) (hm : m < 4294967296) (hi : i < 32) : (selN m a b).testBit i = if m.testBit i then a.testBit i else b.testBit i := by
  unfold selN
  rw [Nat.testBit_or, Nat.testBit_and, Nat.testBit_and, compl_bit m i hm, decide_eq_true hi]
  cases m.testBit i <;> cases a.testBit i <;> cases b.testBit i <;> rfl

theorem WordHalves : bautalaw01_WordHalves.Pure := by
  intro a0 a1 a2 w0 w1 w2
  obtain ⟨m, rfl, hm⟩ := wf_u32 w0
  obtain ⟨a, rfl, ha⟩ := wf_u32 w1
  obtain ⟨b, rfl, hb⟩ := wf_u32 w2
  obtain ⟨k, hk⟩ : ∃ k : Nat, 110 ≤ k := ⟨110, by omega⟩
  refine ⟨k, ?_⟩
  have hx := selN_lt m a b hm ha hb
  have hy := selN_lt m b a hm hb ha
  have hz := selN_lt (4294967295 - m) a b (by omega) ha hb
  have e1 : selN m a b ^^^ selN m b a = a ^^^ b := eq_of_bits (xor_lt hx hy) (xor_lt ha hb) fun i hi => by
    rw [Nat.testBit_xor, Nat.testBit_xor, selN_bit m a b i hm hi, selN_bit m b a i hm hi]
    cases m.testBit i <;> cases a.testBit i <;> cases b.testBit i <;> rfl
  have e2 : selN m a b &&& selN m b a = a &&& b := eq_of_bits (and_lt hy) (and_lt hb) fun i hi => by
    rw [Nat.testBit_and, Nat.testBit_and, selN_bit m a b i hm hi, selN_bit m b a i hm hi]
    cases m.testBit i <;> cases a.testBit i <;> cases b.testBit i <;> rfl
  have e3 : selN (4294967295 - m) a b = selN m b a := eq_of_bits hz hy fun i hi => by
    rw [selN_bit _ a b i (by omega) hi, selN_bit m b a i hm hi, compl_bit m i hm, decide_eq_true hi]
    cases m.testBit i <;> cases a.testBit i <;> cases b.testBit i <;> rfl
  have h0 : ((4294967295 - (m : Int)) % 4294967296) = ((4294967295 - m : Nat) : Int) := by omega
  unfold bautalaw01_WordHalves.f
  rw [sel_f m a b hm ha hb, sel_f m b a hm hb ha]
  simp only [Option.bind_some]
  rw [h0, sel_f _ a b (by omega) ha hb, xor_u32 _ _ hx hy, xor_u32 a b ha hb, and_u32 _ _ hx hy, and_u32 a b ha hb, e1, e2, e3, if_pos rfl, if_pos rfl]
  simp only [Option.bind_some]
  rw [if_pos trivial, lives_k (by omega)]
  rfl
end Go.Proofs.Ytamfpmlfhfkeoaa.Pure
