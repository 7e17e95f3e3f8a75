import Derived.Test.YtcpcahhnkojolaaPBx3
import Derived.Test.YtcpcahhnkojolaaPureShareB
namespace Go.Proofs.Ytcpcahhnkojolaa.Pure
open Go.RowKit Go.Proofs.Ytcpcahhnkojolaa.B Go.Proofs.Ytcpcahhnkojolaa.BB Go.Proofs.Ytcpcahhnkojolaa.PB Go.Proofs.YtcpcahhnkojolaaW.PrintWords Go.Proofs.YtcpcahhnkojolaaW.PrintLast

theorem reck_j1 (k : Nat) (a b x7 x8 x10 : List Int) (w : Nat) (ha : U a) (hb : U b) (hw : w < 4294967296) (hla : a.length ≤ 100) (hlb : b.length ≤ 100) (hk : 400 ≤ k)
    (h7 : x7.length = a.length) (h7' : ∀ j, j < a.length → x7.getD j 0 = ((at_ a j &&& w : Nat) : Int))
    (h8 : x8 = if 0 < a.length then a.set 0 ((at_ a 0 ^^^ w : Nat) : Int) else a)
    (h10 : x10 = if 0 < a.length then a.set 0 ((4294967295 - at_ a 0 : Nat) : Int) else a) :
    bautalaw18_ShareReckons.j1 (k + 1) a b (w : Int) x7 x8 x10 = some true := by
  obtain ⟨r, x1, x2, x3⟩ := xor_f k a b ha hb hla hlb (by omega)
  obtain ⟨s, y1, y2, y3⟩ := refxor_f k a b ha hb hla hlb (by omega)
  obtain rfl : r = s := ext_getD (by omega) (fun i hi => by rw [x3, y3 i (by omega)])
  obtain ⟨q, z1, z2, z3⟩ := and_f k a w ha hw hla (by omega)
  obtain rfl : q = x7 := ext_getD (by omega) (fun i hi => by rw [z3, h7' i (by omega)])
  have hta : a.take 100 = a := List.take_of_length_le hla
  have htb : b.take 100 = b := List.take_of_length_le hlb
  have hp : share_Put.f a (w : Int) = some x8 := by unfold share_Put.f; rw [put_f a w ha hw hla, Option.bind_some, h8]
  have hn : share_Not.f a = some x10 := by
    unfold share_Not.f
    rw [show (4294967295 : Int) = ((4294967295 : Nat) : Int) from rfl, put_f a 4294967295 ha (by decide) hla, Option.bind_some, h10, Nat.xor_comm, not_eq _ (at_lt ha 0)]
  have l8 : x8.length ≤ 100 := by rw [h8]; split <;> simp [hla]
  have l10 : x10.length ≤ 100 := by rw [h10]; split <;> simp [hla]
  simp only [bautalaw18_ShareReckons.j1]
  rw [short_f, hta, Option.bind_some, short_f, htb, Option.bind_some, x1, Option.bind_some, y1, Option.bind_some, same_f k r (by omega) (by omega), Option.bind_some, if_pos rfl, Option.bind_some, z1, Option.bind_some, same_f k q (by omega) (by omega), Option.bind_some, if_pos rfl, Option.bind_some, hp, Option.bind_some, same_f k x8 (by omega) (by omega), Option.bind_some, if_pos rfl, Option.bind_some, hn, Option.bind_some, same_f k x10 (by omega) (by omega), Option.bind_some, if_pos rfl, lives_k (by omega), Option.bind_some]
theorem reck_l0 (a b : List Int) (w : Nat) (ha : U a) (hb : U b) (hw : w < 4294967296) (hla : a.length ≤ 100) (hlb : b.length ≤ 100) (d : Nat) : ∀ (k i : Nat) (x7 : List Int), i + d = a.length → d + 500 ≤ k → x7.length = i → (∀ j, j < i → x7.getD j 0 = ((at_ a j &&& w : Nat) : Int)) →
    bautalaw18_ShareReckons.l0 k a b (w : Int) x7 a (i : Int) = some true := by
  induction d with
  | zero =>
    intro k i x7 hi hk hy h
    obtain ⟨k, rfl⟩ : ∃ q, k = q + 2 := ⟨k - 2, by omega⟩
    simp only [bautalaw18_ShareReckons.l0]
    have e1 : rd a 0 = (at_ a 0 : Int) := at_int ha 0
    have e2 : (4294967295 - (at_ a 0 : Int)) % 4294967296 = ((4294967295 - at_ a 0 : Nat) : Int) := by have := at_lt ha 0; omega
    rw [if_neg (by omega), Option.bind_some, List.length_nil, if_pos (by omega), List.nil_append, Option.bind_some, e1, xor_u32 _ _ (at_lt ha 0) hw, e2]
    by_cases c : 0 < a.length
    · rw [if_pos (by omega), if_pos (by omega), if_pos (by omega)]
      exact reck_j1 k a b x7 _ _ w ha hb hw hla hlb (by omega) (by omega) (fun j hj => h j (by omega)) (by rw [if_pos c]; rfl) (by rw [if_pos c]; rfl)
    · rw [if_neg (by omega)]
      exact reck_j1 k a b x7 _ _ w ha hb hw hla hlb (by omega) (by omega) (fun j hj => h j (by omega)) (by rw [if_neg c]) (by rw [if_neg c])
  | succ d ih =>
    intro k i x7 hi hk hy h
    obtain ⟨k, rfl⟩ : ∃ q, k = q + 1 := ⟨k - 1, by omega⟩
    simp only [bautalaw18_ShareReckons.l0]
    rw [if_pos (by omega), if_pos (by omega), if_pos (by omega), rd_at, at_int ha i, and_u32 _ _ (at_lt ha i) hw, show wrap64 ((i : Int) + 1) = ((i + 1 : Nat) : Int) from w64 (by omega) (by omega)]
    exact ih k (i + 1) _ (by omega) (by omega) (by simp [hy]) (fun j hj => by
      rw [snoc_at]
      by_cases e : j < x7.length
      · rw [if_pos e]; exact h j (by omega)
      · rw [if_neg e, if_pos (by omega), show j = i by omega])
theorem ShareReckons : bautalaw18_ShareReckons.Pure := by
  intro l0 l1 a2 _ _ h0 _ _ h1 h2
  obtain ⟨w, rfl, hw⟩ := wf_u32 h2
  refine ⟨1000, ?_⟩
  generalize hK : (1000 : Nat) = K
  unfold bautalaw18_ShareReckons.f
  have ha := len_take l0
  rw [short_f, Option.bind_some, short_f, Option.bind_some, Option.bind_some, List.length_nil, if_pos (by omega), List.nil_append]
  exact reck_l0 _ _ w (U_take (U_of h0) 100) (U_take (U_of h1) 100) hw ha (len_take l1) _ K 0 [] (Nat.zero_add _) (by omega) rfl (fun j hj => absurd hj (by omega))

end Go.Proofs.Ytcpcahhnkojolaa.Pure
