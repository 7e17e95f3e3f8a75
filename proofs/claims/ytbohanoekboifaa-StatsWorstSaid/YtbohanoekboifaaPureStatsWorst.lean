/- StatsWorst: which step has the greatest score. No condition. -/
import Derived.Test.YtbohanoekboifaaPureAbove
import Derived.Test.YtbohanoekboifaaPureStatsC
import Derived.Test.YtbohanoekboifaaPWx9
namespace Go.Proofs.Ytbohanoekboifaa.Pure
open Go.RowKit Go.Proofs.Ytbohanoekboifaa.BO Go.Proofs.Ytbohanoekboifaa.BS Go.Proofs.Ytbohanoekboifaa.PW Go.Proofs.YtbohanoekboifaaW.PrintWords Go.Proofs.YtbohanoekboifaaW.PrintLast Go.Proofs.YtbohanoekboifaaW.PrintMore
set_option linter.unusedVariables false

theorem cl_pos {u d : Int} (h : cl u d = 1) : 0 < d := by unfold cl at h; split at h <;> (try split at h) <;> omega
theorem over_cl (k : Nat) (u d v e : Int) (c1 : cl u d = 1) (c2 : cl v e = 1) (h : 0 ≤ u ∧ u < 4611686018427387904 ∧ 0 ≤ v ∧ v < 4611686018427387904 ∧ d < 1073741824 ∧ e < 1073741824) (hk : 100 ≤ k) :
    bautaref39_over.f k u d v e = some (decide (v.toNat * d.toNat < u.toNat * e.toNat)) := by
  have hd := cl_pos c1
  have he := cl_pos c2
  obtain ⟨U, rfl⟩ : ∃ n : Nat, u = (n : Int) := ⟨u.toNat, by omega⟩
  obtain ⟨V, rfl⟩ : ∃ n : Nat, v = (n : Int) := ⟨v.toNat, by omega⟩
  obtain ⟨D, rfl⟩ : ∃ n : Nat, d = (n : Int) := ⟨d.toNat, by omega⟩
  obtain ⟨E, rfl⟩ : ∃ n : Nat, e = (n : Int) := ⟨e.toNat, by omega⟩
  exact over_f k U D V E (by omega) (by omega) (by omega) (by omega) (by omega) (by omega) hk
theorem worst_eq (a : Int) (l m : List Int) (b : Int) (p q : List Int) (hl : l.length ≤ 100) (hm : m.length ≤ 100) (hp : p.length ≤ 100) (hq : q.length ≤ 100) (n : Nat) :
    ∀ (k i : Nat) (at_ : Int) (is : Bool) (up dn : Int), i + n = l.length → n + 300 ≤ k → (is = true → 0 ≤ up ∧ up < 4611686018427387904 ∧ dn < 1073741824) →
      ∃ r, stats_Worst.l0 k at_ is (l.length : Int) (i : Int) a l m b p q up dn = some r ∧ bautaref39_Worst.l0 k at_ is up dn (i : Int) a l m b p q = some r := by
  induction n with
  | zero =>
    intro k i at_ is up dn hi hk hb
    obtain ⟨k, rfl⟩ : ∃ x, k = x + 1 := ⟨k - 1, by omega⟩
    simp only [stats_Worst.l0, bautaref39_Worst.l0]
    rw [if_neg (by omega), if_neg (by omega)]
    exact ⟨_, rfl, rfl⟩
  | succ n ih =>
    intro k i at_ is up dn hi hk hb
    obtain ⟨k, rfl⟩ : ∃ x, k = x + 1 := ⟨k - 1, by omega⟩
    obtain ⟨k', hk'⟩ : ∃ x, k = x + 1 := ⟨k - 1, by omega⟩
    obtain ⟨u, d, c, h1, h2, h3⟩ := score_f k a l m b p q (i : Int) hl hm hp hq (by omega)
    have hw : wrap64 ((i : Int) + 1) = ((i + 1 : Nat) : Int) := Ytbohanoekboifaa.BS.w64 (by omega) (by omega)
    have set_ : (0 ≤ u ∧ u < 4611686018427387904 ∧ d < 1073741824) → ∃ r, stats_Worst.l0 k (i : Int) true (l.length : Int) ((i + 1 : Nat) : Int) a l m b p q u d = some r ∧ bautaref39_Worst.l0 k (i : Int) true u d ((i + 1 : Nat) : Int) a l m b p q = some r :=
      fun g => ih k (i + 1) (i : Int) true u d (by omega) (by omega) (fun _ => g)
    have keep := ih k (i + 1) at_ is up dn (by omega) (by omega) hb
    simp only [stats_Worst.l0, bautaref39_Worst.l0]
    rw [if_pos (by omega), if_pos (by omega), h1, h2, hw]
    simp only [Option.bind_some]
    cases c with
    | false =>
      rw [if_neg (show ¬ (false = true) by decide), if_neg (show ¬ (false = true) by decide)]
      exact ⟨_, rfl, rfl⟩
    | true =>
      have g := h3 rfl
      rw [if_pos (rfl : true = true), if_pos (rfl : true = true), refclass_f, refclass_f]
      simp only [Option.bind_some]
      cases is with
      | false =>
        rw [if_neg (show ¬ (false = true) by decide), if_neg (show ¬ (false = true) by decide)]
        exact set_ g
      | true =>
        have gb := hb rfl
        rw [if_pos (rfl : true = true), if_pos (rfl : true = true)]
        have ha := above_f k' u d up dn (fun _ _ => ⟨g.1, g.2.1, gb.1, gb.2.1, g.2.2, gb.2.2⟩)
        rw [← hk'] at ha
        rw [ha]
        simp only [Option.bind_some]
        by_cases P : cl u d = 1 ∧ cl up dn = 1
        · have nc : ¬ (cl u d > cl up dn) := by rw [P.1, P.2]; omega
          rw [if_pos P, if_neg nc, if_pos P.1, if_pos P.2, over_cl k u d up dn P.1 P.2 ⟨g.1, g.2.1, gb.1, gb.2.1, g.2.2, gb.2.2⟩ (by omega)]
          simp only [Option.bind_some]
          generalize decide (up.toNat * d.toNat < u.toNat * dn.toNat) = x
          cases x with
          | false => rw [if_neg (show ¬ (false = true) by decide), if_neg (show ¬ (false = true) by decide)]; exact keep
          | true => rw [if_pos (rfl : true = true), if_pos (rfl : true = true)]; exact set_ g
        · rw [if_neg P]
          by_cases c1 : cl u d > cl up dn
          · rw [decide_eq_true c1, if_pos (rfl : true = true), if_pos c1]; exact set_ g
          · rw [decide_eq_false c1, if_neg (show ¬ (false = true) by decide), if_neg c1]
            by_cases c2 : cl u d = 1
            · rw [if_pos c2, if_neg (fun z => P ⟨c2, z⟩)]; exact keep
            · rw [if_neg c2]; exact keep
theorem lives_f : bautalaw39_lives.f 50 = some true := by decide +kernel
theorem lives_k {k : Nat} (h : 50 ≤ k) : bautalaw39_lives.f k = some true := by
  induction k with
  | zero => omega
  | succ k ih =>
    rcases Nat.lt_or_ge k 50 with h' | h'
    · obtain rfl : k = 49 := by omega
      exact lives_f
    · exact bautalaw39_lives.mono k _ (ih h')
theorem StatsWorst (a : Int) (l m : List Int) (b : Int) (p q : List Int) : ∃ k, bautalaw39_StatsWorst.f k a l m b p q = some true := by
  obtain ⟨k, hk⟩ : ∃ k : Nat, 600 ≤ k := ⟨600, by omega⟩
  refine ⟨k, ?_⟩
  have hl := Ytbohanoekboifaa.BS.len_take l
  have hm := Ytbohanoekboifaa.BS.len_take m
  have hp := Ytbohanoekboifaa.BS.len_take p
  have hq := Ytbohanoekboifaa.BS.len_take q
  unfold bautalaw39_StatsWorst.f
  rw [small_f, Option.bind_some, small_f, Option.bind_some]
  dsimp only
  generalize l.take 100 = l at hl ⊢
  generalize m.take 100 = m at hm ⊢
  generalize p.take 100 = p at hp ⊢
  generalize q.take 100 = q at hq ⊢
  obtain ⟨r, h1, h2⟩ := worst_eq a l m b p q hl hm hp hq l.length k 0 0 false 0 0 (by omega) (by omega) (fun h => absurd h (by decide))
  have h1' : stats_Worst.f k a l m b p q = some r := h1
  have h2' : bautaref39_Worst.f k a l m b p q = some r := h2
  rw [own_f a l m (by omega) (by omega), Option.bind_some, own_f b p q (by omega) (by omega), Option.bind_some]
  dsimp only
  rw [h1', Option.bind_some, h2', Option.bind_some]
  rw [if_pos rfl, if_pos (by simp), lives_k (by omega), Option.bind_some]
end Go.Proofs.Ytbohanoekboifaa.Pure
