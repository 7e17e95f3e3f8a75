/- The reference's Can is the program's. No condition but the hypotheses that each theorem states. -/
import Derived.Test.YtimhllaahihhgaaQD
import Derived.Test.YtimhllaahihhgaaPAx5
namespace Go.Proofs.Ytimhllaahihhgaa.PA
open Go.RowKit Go.Proofs.YtimhllaahihhgaaW.PrintWords Go.Proofs.YtimhllaahihhgaaW.PrintLast Go.Proofs.YtimhllaahihhgaaW.PrintMore
set_option linter.unusedVariables false
set_option linter.unusedSimpArgs false
theorem wrap64_in' (n : Int) (h : -9223372036854775808 ≤ n ∧ n ≤ 9223372036854775807) : wrap64 n = n := by unfold wrap64; omega
theorem len_toList (s : ByteArray) : s.toList.length = s.size := by rw [ByteArray.toList_eq, Array.length_toList]; rfl
theorem rcells_eq (l : List S26) (hl : l.length < 9223372036854775808) : ∀ (d k i : Nat), i + d = l.length → d < k → bautaref03_cells.l0 k l (i : Int) = some (!((l.drop i).any badCell) && decide (l.length ≤ 64))
  | 0, 0, i, h, hk => absurd hk (by omega)
  | d + 1, 0, i, h, hk => absurd hk (by omega)
  | 0, k + 1, i, h, hk => by
    rw [bautaref03_cells.l0, if_neg (by omega), List.drop_of_length_le (by omega)]
    simp
    omega
  | d + 1, k + 1, i, h, hk => by
    have hi : i < l.length := by omega
    have hrd : rd_T26 l (i : Int) = l[i] := by
      unfold rd_T26
      rw [Int.toNat_natCast, List.getD_eq_getElem?_getD, List.getElem?_eq_getElem hi]
      rfl
    rw [bautaref03_cells.l0, if_pos (by omega), if_pos (by omega), hrd, List.drop_eq_getElem_cons hi, List.any_cons]
    have hw : wrap64 ((i : Int) + 1) = ((i + 1 : Nat) : Int) := by rw [wrap64_in' _ (by omega)]; omega
    rw [hw, rcells_eq l hl d k (i + 1) (by omega) (by omega)]
    have hb : badCell l[i] = (decide (((l[i].f0).size : Int) < 1) || decide (((l[i].f0).size : Int) > 32) || decide (l[i].f1 < 0) || decide (l[i].f1 > 16000)) := by
      unfold badCell
      have he : (l[i].f0).toList.isEmpty = decide (((l[i].f0).size : Int) < 1) := by
        have hs : (l[i].f0).toList.length = (l[i].f0).size := len_toList _
        cases hc : (l[i].f0).toList with
        | nil => rw [hc] at hs; simp at hs; simp; omega
        | cons x xs => rw [hc] at hs; simp at hs; simp; omega
      rw [he]
      simp only [gt_iff_lt, Bool.or_assoc]
    rw [hb]
    by_cases c1 : ((l[i].f0).size : Int) < 1
    · rw [if_pos c1, decide_eq_true c1]; rfl
    rw [if_neg c1, decide_eq_false c1]
    by_cases c2 : ((l[i].f0).size : Int) > 32
    · rw [if_pos c2, decide_eq_true c2]; rfl
    rw [if_neg c2, decide_eq_false c2]
    by_cases c3 : l[i].f1 < 0
    · rw [if_pos c3, decide_eq_true c3]; rfl
    rw [if_neg c3, decide_eq_false c3]
    by_cases c4 : l[i].f1 > 16000
    · rw [if_pos c4, decide_eq_true c4]; rfl
    rw [if_neg c4, decide_eq_false c4]
    rfl
theorem rcells_f (l : List S26) (k : Nat) (hl : l.length < 9223372036854775808) (hk : l.length < k) : bautaref03_cells.f k l = some (listOK l) := by
  have h := rcells_eq l hl l.length k 0 (by omega) hk
  unfold bautaref03_cells.f listOK
  rw [show ((0 : Nat) : Int) = 0 from rfl] at h
  rw [h, List.drop_zero, Bool.and_comm]
theorem rcan_eq (k : Nat) (a0 a1 a2 a3 : Int) (l4 l5 l6 : List S26) (h4 : l4.length < 9223372036854775808 ∧ l4.length < k) (h5 : l5.length < 9223372036854775808 ∧ l5.length < k) (h6 : l6.length < 9223372036854775808 ∧ l6.length < k) :
    bautaref03_Can.f k a0 a1 a2 a3 l4 l5 l6 = some (canB a0 a1 a2 a3 l4 l5 l6) := by
  unfold bautaref03_Can.f canB numOK
  rw [rcells_f l4 k h4.1 h4.2, rcells_f l5 k h5.1 h5.2, rcells_f l6 k h6.1 h6.2]
  simp only [Option.bind]
  have n (x : Int) (c : Bool) (q : x ≥ 0 ∧ x ≤ 2147483647) : (decide (0 ≤ x) && decide (x ≤ 2147483647) && c) = c := by rw [decide_eq_true q.1, decide_eq_true q.2]; rfl
  have n1 (x : Int) (c : Bool) (q : ¬ x ≥ 0) : (decide (0 ≤ x) && decide (x ≤ 2147483647) && c) = false := by rw [decide_eq_false q]; rfl
  have n2 (x : Int) (c : Bool) (q : ¬ x ≤ 2147483647) : (decide (0 ≤ x) && decide (x ≤ 2147483647) && c) = false := by rw [decide_eq_false q]; simp
  by_cases c0 : a0 ≥ 0
  case neg => rw [if_neg c0, n1 _ _ c0]
  by_cases c1 : a0 ≤ 2147483647
  case neg => rw [if_pos c0, if_neg c1, n2 _ _ c1]
  rw [if_pos c0, if_pos c1, n _ _ ⟨c0, c1⟩]
  clear c0 c1
  by_cases c0 : a1 ≥ 0
  case neg => rw [if_neg c0, n1 _ _ c0]
  by_cases c1 : a1 ≤ 2147483647
  case neg => rw [if_pos c0, if_neg c1, n2 _ _ c1]
  rw [if_pos c0, if_pos c1, n _ _ ⟨c0, c1⟩]
  clear c0 c1
  by_cases c0 : a2 ≥ 0
  case neg => rw [if_neg c0, n1 _ _ c0]
  by_cases c1 : a2 ≤ 2147483647
  case neg => rw [if_pos c0, if_neg c1, n2 _ _ c1]
  rw [if_pos c0, if_pos c1, n _ _ ⟨c0, c1⟩]
  clear c0 c1
  by_cases c0 : a3 ≥ 0
  case neg => rw [if_neg c0, n1 _ _ c0]
  rw [if_pos c0]
  by_cases c2 : a3 ≤ 16000
  · rw [if_pos c2, n _ _ ⟨c0, by omega⟩, decide_eq_true c2]
    cases listOK l4 <;> cases listOK l5 <;> cases listOK l6 <;> rfl
  · rw [if_neg c2, decide_eq_false c2]
    simp
end Go.Proofs.Ytimhllaahihhgaa.PA
