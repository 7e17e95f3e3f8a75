/- ShareSplits: a word's shares, and that they are joined again. No condition (masks beyond the hundredth are not looked at: that is the statement's own). -/
import Derived.Test.YtcpcahhnkojolaaPureShare
namespace Go.Proofs.Ytcpcahhnkojolaa.Pure
open Go.RowKit Go.Proofs.Ytcpcahhnkojolaa.PAll Go.Proofs.YtcpcahhnkojolaaW.PrintWords Go.Proofs.YtcpcahhnkojolaaW.PrintLast
open Go.Proofs.Ytcpcahhnkojolaa.B
theorem ShareSplits : bautalaw18_ShareSplits.Pure := by
  intro a0 l w0 _ _ hl
  obtain ⟨w, rfl, hw⟩ := wf_u32 w0
  obtain ⟨k, hk⟩ : ∃ k : Nat, 1000 ≤ k := ⟨1000, by omega⟩
  refine ⟨k, ?_⟩
  have hu := U_take (U_of hl) 100
  have hlen := len_take l
  have hJ := J_lt hu
  unfold bautalaw18_ShareSplits.f
  rw [short_f, Option.bind_some, short_f, Option.bind_some, take_take]
  generalize l.take 100 = m at hu hlen hJ
  have hu2 : U (((w ^^^ J m : Nat) : Int) :: m) := U_cons (by have := xor_lt hw hJ; omega) hu
  have h2 : ([((w ^^^ J m : Nat) : Int)] : List Int).length + m.length < 35184372088832 := by simp; omega
  have hback : (J (((w ^^^ J m : Nat) : Int) :: m) : Int) = (w : Int) := by
    rw [J_cons, Int.toNat_natCast, Nat.xor_assoc, Nat.xor_self, Nat.xor_zero]
  rw [split_f k w m hw hu (by omega) (by omega), Option.bind_some, refjoin_f k m hu (by omega) (by omega), Option.bind_some, xor_u32 w _ hw hJ, Option.bind_some, if_pos h2, List.singleton_append, same_f k _ (by simp; omega) (by simp; omega), Option.bind_some, if_pos rfl,
    Join_f k _ hu2 (by simp; omega) (by simp; omega), Option.bind_some, if_pos hback, Join_f k m hu (by omega) (by omega), Option.bind_some, Option.bind_some, if_pos rfl, lives_k (by omega)]
  rfl
end Go.Proofs.Ytcpcahhnkojolaa.Pure
