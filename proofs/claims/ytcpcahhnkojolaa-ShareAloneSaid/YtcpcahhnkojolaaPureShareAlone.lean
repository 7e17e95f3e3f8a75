/- ShareAlone: for any words at all places but one there is just one list of masks that gives them. No condition (words beyond the hundredth are not looked at: that is the statement's own). -/
import Derived.Test.YtcpcahhnkojolaaPureShare
import Derived.Test.YtcpcahhnkojolaaPAllx3
namespace Go.Proofs.Ytcpcahhnkojolaa.Pure
open Go.RowKit Go.Proofs.Ytcpcahhnkojolaa.PAll Go.Proofs.YtcpcahhnkojolaaW.PrintWords Go.Proofs.YtcpcahhnkojolaaW.PrintLast
open Go.Proofs.Ytcpcahhnkojolaa.B

theorem xor_cancel {a b c : Nat} (h : a ^^^ b = a ^^^ c) : b = c := by
  have := congrArg (fun x => a ^^^ x) h
  simp only [← Nat.xor_assoc, Nat.xor_self, Nat.zero_xor] at this
  exact this
theorem l0_ok (w D kk : Int) (all : List Int) (n : Nat) (hD : D + 1 = (n : Int)) (hn : all.length = n) (hs : n ≤ 101) (d : Nat) : ∀ (k i : Nat), i + d = n → d < k →
    bautalaw18_ShareAlone.l0 k w D kk all all (i : Int) = bautalaw18_ShareAlone.l1 (k - 1 - d) w D kk all 1 := by
  induction d with
  | zero =>
    intro k i hi hk
    obtain ⟨k, rfl⟩ : ∃ q, k = q + 1 := ⟨k - 1, by omega⟩
    simp only [bautalaw18_ShareAlone.l0]
    rw [if_neg (by omega)]; rfl
  | succ d ih =>
    intro k i hi hk
    obtain ⟨k, rfl⟩ : ∃ q, k = q + 1 := ⟨k - 1, by omega⟩
    simp only [bautalaw18_ShareAlone.l0]
    rw [if_pos (by omega), if_pos (by omega), if_pos (by omega), if_pos (by omega), if_pos trivial, show wrap64 ((i : Int) + 1) = ((i + 1 : Nat) : Int) from w64 (by omega) (by omega), ih k (i + 1) (by omega) (by omega), show k + 1 - 1 - (d + 1) = k - 1 - d by omega]
theorem l2_ok (w D kk x : Int) (all m : List Int) (n : Nat) (hD : D + 1 = (n : Int)) (hn : all.length = n) (hm : m.length = n) (hs : n ≤ 101) (d : Nat) : ∀ (k j : Nat) (b : Bool), j + d = n → d < k →
    (b = false ∨ ∃ q : Nat, j ≤ q ∧ q < n ∧ (q : Int) ≠ kk ∧ m.getD q 0 ≠ all.getD q 0) →
    bautalaw18_ShareAlone.l2 k w D kk all x m b (j : Int) = bautalaw18_ShareAlone.l1 (k - 1 - d) w D kk all (wrap64 (x + 1)) := by
  induction d with
  | zero =>
    intro k j b hj hk hb
    obtain ⟨k, rfl⟩ : ∃ q, k = q + 1 := ⟨k - 1, by omega⟩
    have : b = false := by
      rcases hb with h | ⟨q, h1, h2, _⟩
      · exact h
      · omega
    subst this
    simp only [bautalaw18_ShareAlone.l2]
    rw [if_neg (by omega), if_neg (by decide)]; rfl
  | succ d ih =>
    intro k j b hj hk hb
    obtain ⟨k, rfl⟩ : ∃ q, k = q + 1 := ⟨k - 1, by omega⟩
    have hw : wrap64 ((j : Int) + 1) = ((j + 1 : Nat) : Int) := w64 (by omega) (by omega)
    have q1 : (j : Int) ≤ D := by omega
    have q2 : (j : Int) < (m.length : Int) := by omega
    have q3 : (0 : Int) ≤ (j : Int) := by omega
    have q4 : (j : Int) < (all.length : Int) := by omega
    have hk' : k + 1 - 1 - (d + 1) = k - 1 - d := by omega
    simp only [bautalaw18_ShareAlone.l2]
    rw [if_pos q1, if_pos q2, hw, hk']
    cases b with
    | false =>
      rw [if_neg (by decide)]
      exact ih k (j + 1) false (by omega) (by omega) (.inl rfl)
    | true =>
      obtain ⟨q, h1, h2, h3, h4⟩ : ∃ q : Nat, j ≤ q ∧ q < n ∧ (q : Int) ≠ kk ∧ m.getD q 0 ≠ all.getD q 0 := by
        rcases hb with h | h
        · cases h
        · exact h
      rw [if_pos rfl]
      by_cases hkk : (j : Int) = kk
      · rw [if_pos hkk]
        have : j ≠ q := fun e => h3 (by rw [← e]; exact hkk)
        exact ih k (j + 1) true (by omega) (by omega) (.inr ⟨q, by omega, h2, h3, h4⟩)
      · rw [if_neg hkk, if_pos q3, if_pos q4, rd_at, rd_at]
        refine ih k (j + 1) _ (by omega) (by omega) ?_
        by_cases e : j = q
        · subst e
          exact .inl (beq_eq_false_iff_ne.mpr h4)
        · exact .inr ⟨q, by omega, h2, h3, h4⟩
theorem set_at (l : List Int) (i j : Nat) (v : Int) (hi : i < l.length) : (l.set i v).getD j 0 = if i = j then v else l.getD j 0 := by
  rw [List.getD_eq_getElem?_getD, List.getElem?_set]
  split
  · simp
  · rw [List.getD_eq_getElem?_getD]
/-- Another number at one place gives another xor of all. -/
theorem J_set (l : List Int) (i : Nat) (v : Int) (hi : i < l.length) (hv : v.toNat ≠ (l.getD i 0).toNat) : J (l.set i v) ≠ J l := by
  have e : l = l.take i ++ l.getD i 0 :: l.drop (i + 1) := by rw [← dropI l i hi, List.take_append_drop]
  have e2 : l.set i v = l.take i ++ v :: l.drop (i + 1) := List.set_eq_take_append_cons_drop .. |>.trans (by rw [if_pos hi])
  intro h
  rw [e2, J_append, J_cons] at h
  conv at h => rhs; rw [e]
  rw [J_append, J_cons] at h
  have h1 := xor_cancel h
  rw [Nat.xor_comm, Nat.xor_comm _ (J (l.drop (i + 1)))] at h1
  exact hv (xor_cancel h1)
theorem l1_ok (w : Nat) (hw : w < 4294967296) (D kk : Int) (all : List Int) (n : Nat) (hD : D + 1 = (n : Int)) (hn : all.length = n) (hs : n ≤ 101) (hu : U all) (hall : all.getD 0 0 = ((w ^^^ J (all.drop 1) : Nat) : Int)) (hn0 : 0 < n) (d : Nat) :
    ∀ (k i : Nat), i + d = n → 1 ≤ i → d * 104 + 400 < k → bautalaw18_ShareAlone.l1 k (w : Int) D kk all (i : Int) = some true := by
  induction d with
  | zero =>
    intro k i hi h1 hk
    obtain ⟨k, rfl⟩ : ∃ q, k = q + 1 := ⟨k - 1, by omega⟩
    simp only [bautalaw18_ShareAlone.l1]
    rw [if_neg (by omega), lives_k (by omega)]; rfl
  | succ d ih =>
    intro k i hi h1 hk
    obtain ⟨k, rfl⟩ : ∃ q, k = q + 1 := ⟨k - 1, by omega⟩
    have hw1 : wrap64 ((i : Int) - 1) = ((i - 1 : Nat) : Int) := by rw [w64 (by omega) (by omega)]; omega
    have hr : (all.drop 1).length = n - 1 := by rw [List.length_drop, hn]
    have hi1 : i - 1 < (all.drop 1).length := by omega
    have hat : ∀ j, (all.drop 1).getD j 0 = all.getD (j + 1) 0 := by
      intro j
      rw [List.getD_eq_getElem?_getD, List.getElem?_drop, List.getD_eq_getElem?_getD, Nat.add_comm]
    obtain ⟨v, hv⟩ : ∃ v, v = (all.getD i 0 + 1) % 4294967296 := ⟨_, rfl⟩
    have hx := U_at hu i
    have hne : v.toNat ≠ ((all.drop 1).getD (i - 1) 0).toNat := by
      rw [hat, show i - 1 + 1 = i by omega]; omega
    have hne2 : v ≠ all.getD i 0 := by omega
    have hv0 : 0 ≤ v ∧ v < 4294967296 := by omega
    have hlt : ([] : List Int).length + (all.drop 1).length < 35184372088832 := by rw [List.length_nil]; omega
    have hlen : ((all.drop 1).set (i - 1) v).length = n - 1 := by rw [List.length_set, hr]
    have hus : U ((all.drop 1).set (i - 1) v) := by
      intro y hy
      rcases List.mem_or_eq_of_mem_set hy with h | h
      · exact U_drop hu 1 y h
      · rw [h]; exact hv0
    have q1 : (i : Int) ≤ D := by omega
    have q2 : (1 : Int) ≤ (all.length : Int) := by omega
    have q3 : (0 : Int) ≤ ((i - 1 : Nat) : Int) := by omega
    have q4 : ((i - 1 : Nat) : Int) < ((all.drop 1).length : Int) := by omega
    simp only [bautalaw18_ShareAlone.l1]
    rw [if_pos q1, Option.bind_some, if_pos q2, Option.bind_some, if_pos hlt, List.nil_append, Option.bind_some, hw1, if_pos q3, if_pos q4, rd_at, hat, show i - 1 + 1 = i by omega, ← hv, show (((i - 1 : Nat) : Int)).toNat = i - 1 from rfl,
      split_f k w _ hw hus (by omega) (by omega), Option.bind_some]
    have hml : (((w ^^^ J ((all.drop 1).set (i - 1) v) : Nat) : Int) :: (all.drop 1).set (i - 1) v).length = n := by rw [List.length_cons, hlen]; omega
    have two := l2_ok (w : Int) D kk (i : Int) all (((w ^^^ J ((all.drop 1).set (i - 1) v) : Nat) : Int) :: (all.drop 1).set (i - 1) v) n hD hn hml hs n k 0 true (by omega) (by omega) (by
      refine .inr ?_
      by_cases hik : (i : Int) = kk
      · refine ⟨0, by omega, hn0, by omega, ?_⟩
        rw [List.getD_cons_zero, hall]
        intro e
        have e2 : w ^^^ J ((all.drop 1).set (i - 1) v) = w ^^^ J (all.drop 1) := by omega
        exact J_set _ _ v hi1 hne (xor_cancel e2)
      · refine ⟨i, by omega, by omega, hik, ?_⟩
        obtain ⟨i', rfl⟩ : ∃ q, i = q + 1 := ⟨i - 1, by omega⟩
        rw [List.getD_cons_succ, show i' + 1 - 1 = i' by omega, set_at _ _ _ _ (by omega), if_pos rfl]
        exact hne2)
    rw [show ((0 : Nat) : Int) = 0 from rfl] at two
    rw [two, show wrap64 ((i : Int) + 1) = ((i + 1 : Nat) : Int) from w64 (by omega) (by omega)]
    exact ih _ (i + 1) (by omega) (by omega) (by omega)

theorem ShareAlone : bautalaw18_ShareAlone.Pure := by
  intro a0 l a2 w0 _ _ hl w2
  obtain ⟨w, rfl, hw⟩ := wf_u32 w0
  have hb : 0 ≤ a2 ∧ a2 < 256 := by
    simp [Lit.wf, IntKind.min, IntKind.max, IntKind.bits, IntKind.signed] at w2; omega
  obtain ⟨k, hk⟩ : ∃ k : Nat, 20000 ≤ k := ⟨20000, by omega⟩
  refine ⟨k, ?_⟩
  have hu := U_take (U_of hl) 100
  have hlen := len_take l
  have hJ := J_lt hu
  unfold bautalaw18_ShareAlone.f
  rw [short_f, Option.bind_some]
  generalize l.take 100 = t at hu hlen hJ
  have e0 : wrap64 ((t.length : Int) + 1) = (t.length : Int) + 1 := w64 (by omega) (by omega)
  have e1 : wrap64 a2 = a2 := w64 (by omega) (by omega)
  have e2 : Int.tmod a2 ((t.length : Int) + 1) = ((a2.toNat % (t.length + 1) : Nat) : Int) := by
    rw [Int.tmod_eq_emod_of_nonneg hb.1]
    rw [Int.natCast_emod, Int.toNat_of_nonneg hb.1]; rfl
  have hq : a2.toNat % (t.length + 1) < t.length + 1 := Nat.mod_lt _ (by omega)
  rw [e0, e1, e2]
  generalize a2.toNat % (t.length + 1) = q at hq
  have h1 : ([] : List Int).length + (t.take q).length < 35184372088832 := by rw [List.length_nil, List.length_take]; omega
  have hx := xor_lt hw hJ
  obtain ⟨all, hall⟩ : ∃ all, all = t.take q ++ [((w ^^^ J t : Nat) : Int)] ++ t.drop q := ⟨_, rfl⟩
  have hlall : all.length = t.length + 1 := by rw [hall]; simp; omega
  have huall : U all := by
    rw [hall]
    exact U_append (U_append (U_take hu q) (U_cons (by omega) (fun x hx => by cases hx))) (U_drop hu q)
  have hJall : J all = w := by
    have : J t = J (t.take q) ^^^ J (t.drop q) := by rw [← J_append, List.take_append_drop]
    rw [hall, J_append, J_append, J_cons, Int.toNat_natCast, show J ([] : List Int) = 0 from rfl, Nat.xor_zero]
    generalize J (t.take q) = x at *
    generalize J (t.drop q) = y at *
    rw [this]
    apply Nat.eq_of_testBit_eq
    intro i
    simp only [Nat.testBit_xor]
    cases x.testBit i <;> cases y.testBit i <;> cases w.testBit i <;> rfl
  have hdrop := dropI all 0 (by omega)
  rw [List.drop_zero] at hdrop
  have h00 := U_at huall 0
  have hall0 : all.getD 0 0 = ((w ^^^ J (all.drop 1) : Nat) : Int) := by
    have e : J all = (all.getD 0 0).toNat ^^^ J (all.drop 1) := by
      conv => lhs; rw [hdrop]
      rw [J_cons]
    rw [← hJall]
    rw [e, Nat.xor_assoc, Nat.xor_self, Nat.xor_zero, Int.toNat_of_nonneg h00.1]
  have h2 : ([] ++ t.take q).length < 35184372088832 := by rw [List.nil_append, List.length_take]; omega
  have h3 : ([] ++ t.take q ++ [((w ^^^ J t : Nat) : Int)]).length + (t.drop q).length < 35184372088832 := by simp; omega
  have h4 : ([] : List Int).length + (all.drop 1).length < 35184372088832 := by rw [List.length_nil, List.length_drop]; omega
  have hsp : share_Split.f k (w : Int) (all.drop 1) = some all := by
    rw [split_f k w _ hw (U_drop huall 1) (by rw [List.length_drop]; omega) (by rw [List.length_drop]; omega), ← hall0]
    conv => rhs; rw [hdrop]
  have hz : ¬ ((t.length : Int) + 1 = 0) := by omega
  rw [if_neg hz, Option.bind_some, if_pos (by omega), if_pos (by omega), Option.bind_some, show (((q : Nat) : Int)).toNat = q from rfl, if_pos h1, Option.bind_some, refjoin_f k t hu (by omega) (by omega), Option.bind_some, xor_u32 w _ hw hJ, if_pos h2, Option.bind_some, Option.bind_some, if_pos h3, List.nil_append, ← hall,
    Option.bind_some, Option.bind_some, if_pos (show (1 : Int) ≤ (all.length : Int) by omega), Option.bind_some, if_pos h4, List.nil_append, hsp, Option.bind_some, if_pos (show (all.length : Int) = (t.length : Int) + 1 by omega)]
  have a := l0_ok (w : Int) (t.length : Int) (q : Int) all (t.length + 1) (by omega) hlall (by omega) (t.length + 1) k 0 (by omega) (by omega)
  rw [show ((0 : Nat) : Int) = 0 from rfl] at a
  rw [a]
  exact l1_ok w hw (t.length : Int) (q : Int) all (t.length + 1) (by omega) hlall (by omega) huall hall0 (by omega) t.length _ 1 (by omega) (by omega) (by omega)
end Go.Proofs.Ytcpcahhnkojolaa.Pure
