/- WordLess: a difference is a sum with the complement, undone by adding, and its carry tells which word is above. No condition. -/
import Derived.Test.YtamfpmlfhfkeoaaPureAddF
import Derived.Test.YtamfpmlfhfkeoaaPAllx3
namespace Go.Proofs.Ytamfpmlfhfkeoaa.Pure
open Go.RowKit Go.Proofs.Ytamfpmlfhfkeoaa.PAll Go.Proofs.YtamfpmlfhfkeoaaW.PrintWords Go.Proofs.YtamfpmlfhfkeoaaW.PrintLast
open Go.Proofs.Ytamfpmlfhfkeoaa.B

theorem WordLess : bautalaw01_WordLess.Pure := by
  intro a0 a1 w0 w1
  obtain ⟨a, rfl, ha⟩ := wf_u32 w0
  obtain ⟨b, rfl, hb⟩ := wf_u32 w1
  obtain ⟨k, hk⟩ : ∃ k : Nat, 110 ≤ k := ⟨110, by omega⟩
  refine ⟨k, ?_⟩
  unfold bautalaw01_WordLess.f
  rw [not_u32 b hb, add_f a (4294967295 - b) true ha (by omega)]
  simp only [Option.bind_some]
  rw [add_f _ b false (Nat.mod_lt _ (by decide)) hb]
  simp only [Option.bind_some]
  have h1 : ((((a + (4294967295 - b) + true.toNat) % 4294967296 + b + false.toNat) % 4294967296 : Nat) : Int) = (a : Int) := by
    simp only [Bool.toNat_true, Bool.toNat_false]; omega
  have h2 : (decide (4294967296 ≤ a + (4294967295 - b) + true.toNat) == decide ((b : Int) ≤ (a : Int))) = true := by
    rw [beq_iff_eq, decide_eq_decide]; simp only [Bool.toNat_true]; omega
  rw [if_pos h1, if_pos h2, lives_k (by omega)]
  rfl
end Go.Proofs.Ytamfpmlfhfkeoaa.Pure
