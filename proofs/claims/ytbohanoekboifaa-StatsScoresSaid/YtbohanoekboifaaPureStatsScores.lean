/- StatsScores: the score of any step, and whether it is above a bound. No condition. -/
import Derived.Test.YtbohanoekboifaaPureStatsB
import Derived.Test.YtbohanoekboifaaPAx8
namespace Go.Proofs.Ytbohanoekboifaa.Pure
open Go.RowKit Go.Proofs.Ytbohanoekboifaa.B Go.Proofs.Ytbohanoekboifaa.PA Go.Proofs.YtbohanoekboifaaW.PrintWords Go.Proofs.YtbohanoekboifaaW.PrintLast Go.Proofs.YtbohanoekboifaaW.PrintMore
set_option linter.unusedVariables false

theorem lives_f : bautalaw39_lives.f 50 = some true := by decide +kernel
theorem lives_k {k : Nat} (h : 50 ≤ k) : bautalaw39_lives.f k = some true := by
  induction k with
  | zero => omega
  | succ k ih =>
    rcases Nat.lt_or_ge k 50 with h' | h'
    · obtain rfl : k = 49 := by omega
      exact lives_f
    · exact bautalaw39_lives.mono k _ (ih h')
theorem StatsScores (a : Int) (l m : List Int) (b : Int) (p q : List Int) (s t : Int) : ∃ k, bautalaw39_StatsScores.f k a l m b p q s t = some true := by
  obtain ⟨k, hk⟩ : ∃ k : Nat, 300 ≤ k := ⟨300, by omega⟩
  refine ⟨k + 1, ?_⟩
  have hl := len_take l
  have hm := len_take m
  have hp := len_take p
  have hq := len_take q
  unfold bautalaw39_StatsScores.f
  rw [small_f, Option.bind_some, small_f, Option.bind_some]
  dsimp only
  generalize l.take 100 = l at hl ⊢
  generalize m.take 100 = m at hm ⊢
  generalize p.take 100 = p at hp ⊢
  generalize q.take 100 = q at hq ⊢
  obtain ⟨u, d, c, h1, h2⟩ := score_f k a l m b p q s hl hm hp hq (by omega)
  have H1 : stats_Score.f (k + 1) a l m b p q s = some (u, d, c) := by
    unfold stats_Score.f
    rw [stats_scored.mono _ _ _ _ _ _ _ k _ h1]; rfl
  have H2 := bautaref39_Score.mono _ _ _ _ _ _ _ k _ h2
  have o1 := own_f a l m (by omega) (by omega)
  have o2 := own_f b p q (by omega) (by omega)
  rw [o1, Option.bind_some, o2, Option.bind_some]
  dsimp only
  rw [H1, Option.bind_some, H2, Option.bind_some]
  dsimp only
  have j : ∀ g : Bool, stats_Above.f k a l m b p q s t = some g → bautalaw39_StatsScores.j0 (k + 1) u d c u d c g a l m b p q s t = some true := by
    intro g hg
    simp only [bautalaw39_StatsScores.j0]
    rw [if_pos trivial, if_pos trivial, if_pos (by simp), o1, Option.bind_some, o2, Option.bind_some]
    dsimp only
    rw [hg, Option.bind_some, if_pos (by simp), lives_k (by omega), Option.bind_some]
  have e : stats_Above.f k a l m b p q s t = if c = true then (if t ≥ 0 then (if t ≤ 10000 then some (decide (u > wrap64 (t * d))) else some false) else some false) else some false := by
    unfold stats_Above.f
    rw [h1, Option.bind_some]
  by_cases c1 : c = true
  · rw [if_pos c1] at e ⊢
    by_cases c2 : t ≥ 0
    · rw [if_pos c2] at e ⊢
      by_cases c3 : t ≤ 10000
      · rw [if_pos c3] at e ⊢; exact j _ e
      · rw [if_neg c3] at e ⊢; exact j _ e
    · rw [if_neg c2] at e ⊢; exact j _ e
  · rw [if_neg c1] at e ⊢; exact j _ e
end Go.Proofs.Ytbohanoekboifaa.Pure
