import Derived.Test.YtcpcahhnkojolaaPBx4
import Derived.Test.YtcpcahhnkojolaaPureShareB
namespace Go.Proofs.Ytcpcahhnkojolaa.Pure
open Go.RowKit Go.Proofs.Ytcpcahhnkojolaa.B Go.Proofs.Ytcpcahhnkojolaa.BB Go.Proofs.Ytcpcahhnkojolaa.PB Go.Proofs.YtcpcahhnkojolaaW.PrintWords Go.Proofs.YtcpcahhnkojolaaW.PrintLast

theorem U_set0 {a : List Int} (ha : U a) (v : Nat) (hv : v < 4294967296) : U (a.set 0 (v : Int)) := by
  intro x hx
  rcases List.mem_or_eq_of_mem_set hx with h | rfl
  · exact ha x h
  · omega
theorem J_set0 {a : List Int} (h : 0 < a.length) (v : Nat) : J (a.set 0 (v : Int)) ^^^ at_ a 0 = J a ^^^ v := by
  cases a with
  | nil => simp at h
  | cons x l =>
    rw [List.set_cons_zero, J_cons, J_cons]
    show ((v : Int).toNat ^^^ J l) ^^^ x.toNat = _
    rw [Int.toNat_natCast]
    apply Nat.eq_of_testBit_eq; intro i
    simp only [Nat.testBit_xor]
    cases v.testBit i <;> cases (J l).testBit i <;> cases x.toNat.testBit i <;> rfl
theorem J_put {a : List Int} (h : 0 < a.length) (w : Nat) : J (a.set 0 ((at_ a 0 ^^^ w : Nat) : Int)) = J a ^^^ w := by
  have := J_set0 h (at_ a 0 ^^^ w)
  apply Nat.eq_of_testBit_eq; intro i
  have := congrArg (fun x => x.testBit i) this
  simp only [Nat.testBit_xor] at this ⊢
  generalize (J (a.set 0 ((at_ a 0 ^^^ w : Nat) : Int))).testBit i = p at this ⊢
  revert this
  cases p <;> cases (at_ a 0).testBit i <;> cases (J a).testBit i <;> cases w.testBit i <;> decide
theorem ShareJoined : bautalaw18_ShareJoined.Pure := by
  intro l0 l1 a2 _ _ h0 _ _ h1 h2
  obtain ⟨w, rfl, hw⟩ := wf_u32 h2
  refine ⟨1000, ?_⟩
  generalize hK : (1000 : Nat) = K
  have ha := U_take (U_of h0) 100
  have hb := U_take (U_of h1) 100
  have hla := len_take l0
  have hlb := len_take l1
  unfold bautalaw18_ShareJoined.f
  rw [short_f, Option.bind_some, short_f, Option.bind_some]
  generalize l0.take 100 = a at ha hla ⊢
  generalize l1.take 100 = b at hb hlb ⊢
  have hta : a.take 100 = a := List.take_of_length_le hla
  have htb : b.take 100 = b := List.take_of_length_le hlb
  obtain ⟨r, x1, x2, x3⟩ := xor_f K a b ha hb hla hlb (by omega)
  obtain ⟨q, z1, z2, z3⟩ := and_f K a w ha hw hla (by omega)
  have ur : U r := U_of_at fun i _ => by rw [x3]; have := xor_lt (at_lt ha i) (at_lt hb i); omega
  have uq : U q := U_of_at fun i _ => by rw [z3]; have := and_lt (a := at_ a i) hw; omega
  have jr : J r = J a ^^^ J b := by
    rw [J_eq r 100 (by omega), J_eq a 100 hla, J_eq b 100 hlb, at_of x3, Jn_xor]
  have jq : J q = J a &&& w := by
    rw [J_eq q 100 (by omega), J_eq a 100 hla, at_of z3]
    exact Jn_map (fun x => x &&& w) (Nat.zero_and w) (fun x y => by
      apply Nat.eq_of_testBit_eq; intro i
      simp only [Nat.testBit_xor, Nat.testBit_and]
      cases x.testBit i <;> cases y.testBit i <;> cases w.testBit i <;> rfl) 100 (at_ a)
  rw [refjoin_f K a ha (by omega) (by omega), Option.bind_some, refjoin_f K b hb (by omega) (by omega), Option.bind_some, short_f, hta, Option.bind_some, short_f, htb, Option.bind_some, x1, Option.bind_some, Join_f K r ur (by omega) (by omega), Option.bind_some, xor_u32 _ _ (J_lt ha) (J_lt hb), jr, if_pos rfl, Option.bind_some, z1, Option.bind_some, Join_f K q uq (by omega) (by omega), Option.bind_some, and_u32 _ _ (J_lt ha) hw, jq, if_pos rfl]
  by_cases c : 0 < a.length
  · have u1 := U_set0 ha (at_ a 0 ^^^ 4294967295) (xor_lt (at_lt ha 0) (by decide))
    have u2 := U_set0 ha (at_ a 0 ^^^ w) (xor_lt (at_lt ha 0) hw)
    have hn : share_Not.f a = some (a.set 0 ((at_ a 0 ^^^ 4294967295 : Nat) : Int)) := by
      unfold share_Not.f
      rw [show (4294967295 : Int) = ((4294967295 : Nat) : Int) from rfl, put_f a 4294967295 ha (by decide) hla, Option.bind_some, if_pos c]
    have hp : share_Put.f a (w : Int) = some (a.set 0 ((at_ a 0 ^^^ w : Nat) : Int)) := by
      unfold share_Put.f
      rw [put_f a w ha hw hla, Option.bind_some, if_pos c]
    have e1 : ((4294967295 - (J a : Int)) % 4294967296) = ((J a ^^^ 4294967295 : Nat) : Int) := by
      rw [Nat.xor_comm, not_eq _ (J_lt ha)]; have := J_lt ha; omega
    rw [if_pos (by omega), Option.bind_some, hn, Option.bind_some, Join_f K _ u1 (by simp; omega) (by simp; omega), Option.bind_some, J_put c, e1, if_pos rfl, Option.bind_some, hp, Option.bind_some, Join_f K _ u2 (by simp; omega) (by simp; omega), Option.bind_some, J_put c, xor_u32 _ _ (J_lt ha) hw, if_pos rfl, lives_k (by omega), Option.bind_some]
  · rw [if_neg (by omega), lives_k (by omega), Option.bind_some]

end Go.Proofs.Ytcpcahhnkojolaa.Pure
