/- StatsTurned: scores are the same with both changed about, and none ahead of the same twice. No condition. -/
import Derived.Test.YtbohanoekboifaaPTx5
namespace Go.Proofs.Ytbohanoekboifaa.Pure
open Go.RowKit Go.Proofs.Ytbohanoekboifaa.PT Go.Proofs.YtbohanoekboifaaW.PrintWords Go.Proofs.YtbohanoekboifaaW.PrintLast Go.Proofs.YtbohanoekboifaaW.PrintMore
set_option linter.unusedVariables false

theorem w64 {i : Int} (h : -9000000000000000000 ≤ i) (h' : i ≤ 9000000000000000000) : wrap64 i = i := by unfold wrap64; omega
theorem rd_at (l : List Int) (i : Nat) : rd l (i : Int) = l.getD i 0 := by simp [rd]
theorem own_f (a : Int) (l m : List Int) (hl : l.length < 1000000) (hm : m.length < 1000000) : bautalaw39_own.f a l m = some (a, l, m) := by
  unfold bautalaw39_own.f
  rw [Option.bind_some, List.length_nil, if_pos (by omega), Option.bind_some, List.length_nil, if_pos (by omega)]; rfl
theorem len_take (l : List Int) : (l.take 100).length ≤ 100 := by rw [List.length_take]; omega
theorem small_f (a : Int) (l m : List Int) : bautalaw39_small.f a l m = some (a, l.take 100, m.take 100) := by
  unfold bautalaw39_small.f
  have h1 := len_take l
  have h2 := len_take m
  by_cases c1 : (l.length : Int) > 100
  · rw [if_pos c1, if_pos (by omega)]
    by_cases c2 : (m.length : Int) > 100
    · rw [if_pos c2, if_pos (by omega), own_f _ _ _ (by omega) (by omega)]; rfl
    · rw [if_neg c2, own_f _ _ _ (by omega) (by omega), List.take_of_length_le (l := m) (by omega)]; rfl
  · rw [if_neg c1, List.take_of_length_le (l := l) (by omega)]
    by_cases c2 : (m.length : Int) > 100
    · rw [if_pos c2, if_pos (by omega), own_f _ _ _ (by omega) (by omega)]; rfl
    · rw [if_neg c2, own_f _ _ _ (by omega) (by omega), List.take_of_length_le (l := m) (by omega)]; rfl

theorem within_l0 (c : Int) (l : List Int) (hl : l.length < 1000000) (d : Nat) : ∀ (k i : Nat), i + d = l.length → d < k →
    ∃ t, stats_within.l0 k c l (i : Int) = some t ∧ (t ≥ 0 ↔ ∃ j, i ≤ j ∧ j < l.length ∧ (l.getD j 0 < 0 ∨ l.getD j 0 > c)) := by
  induction d with
  | zero =>
    intro k i hi hk
    obtain ⟨k, rfl⟩ : ∃ q, k = q + 1 := ⟨k - 1, by omega⟩
    refine ⟨-1, ?_, ⟨fun h => absurd h (by decide), fun ⟨j, h1, h2, _⟩ => by omega⟩⟩
    simp only [stats_within.l0]
    rw [if_neg (by omega)]
  | succ d ih =>
    intro k i hi hk
    obtain ⟨k, rfl⟩ : ∃ q, k = q + 1 := ⟨k - 1, by omega⟩
    simp only [stats_within.l0]
    rw [if_pos (by omega), if_pos (by omega), rd_at]
    by_cases c1 : l.getD i 0 < 0 ∨ l.getD i 0 > c
    · refine ⟨i, ?_, ⟨fun _ => ⟨i, Nat.le_refl _, by omega, c1⟩, fun _ => by omega⟩⟩
      rw [if_pos (by simpa using c1)]
    · obtain ⟨t, h1, h2⟩ := ih k (i + 1) (by omega) (by omega)
      refine ⟨t, ?_, ?_⟩
      · rw [if_neg (by simpa using c1), show wrap64 ((i : Int) + 1) = ((i + 1 : Nat) : Int) from w64 (by omega) (by omega)]; exact h1
      · rw [h2]
        constructor
        · rintro ⟨j, a1, a2, a3⟩; exact ⟨j, by omega, a2, a3⟩
        · rintro ⟨j, a1, a2, a3⟩
          rcases Nat.lt_or_ge i j with h | h
          · exact ⟨j, h, a2, a3⟩
          · obtain rfl : j = i := by omega
            exact absurd a3 c1
/-- All lie from 0 to a bound. -/
def Wi (l : List Int) (c : Int) : Prop := ∀ j, j < l.length → 0 ≤ l.getD j 0 ∧ l.getD j 0 ≤ c
theorem within_f (k : Nat) (l : List Int) (c : Int) (hl : l.length < 1000000) (hk : l.length < k) : ∃ b, stats_within.f k l c = some b ∧ (b = true ↔ Wi l c) := by
  obtain ⟨t, h1, h2⟩ := within_l0 c l hl l.length k 0 (by omega) hk
  refine ⟨!(decide (t ≥ 0)), ?_, ?_⟩
  · unfold stats_within.f
    have h1' : stats_within.l0 k c l 0 = some t := h1
    rw [h1', Option.bind_some]
  · by_cases ht : t ≥ 0
    · rw [decide_eq_true ht]
      obtain ⟨j, _, a2, a3⟩ := h2.mp ht
      refine ⟨fun h => absurd h (by decide), fun h => ?_⟩
      have := h j a2
      omega
    · rw [decide_eq_false ht]
      refine ⟨fun _ j hj => ?_, fun _ => rfl⟩
      by_cases c1 : l.getD j 0 < 0 ∨ l.getD j 0 > c
      · exact absurd (h2.mpr ⟨j, Nat.zero_le _, hj, c1⟩) ht
      · omega
/-- What are moments. -/
def CanP (a : Int) (l m : List Int) : Prop := 0 ≤ a ∧ a ≤ 500 ∧ l.length = m.length ∧ Wi l (32 * a) ∧ Wi m (1024 * a)
theorem can_f (k : Nat) (a : Int) (l m : List Int) (hl : l.length ≤ 100) (hm : m.length ≤ 100) (hk : 200 ≤ k) : ∃ b, stats_can.f k a l m = some b ∧ (b = true ↔ CanP a l m) := by
  unfold stats_can.f CanP
  by_cases c1 : a ≥ 0
  · by_cases c2 : a ≤ 500
    · by_cases c3 : (l.length : Int) = (m.length : Int)
      · rw [if_pos c1, if_pos c2, if_pos c3, if_pos (by omega), w64 (i := 32 * a) (by omega) (by omega), w64 (i := 1024 * a) (by omega) (by omega)]
        obtain ⟨b, h1, h2⟩ := within_f k l (32 * a) (by omega) (by omega)
        obtain ⟨b', h1', h2'⟩ := within_f k m (1024 * a) (by omega) (by omega)
        rw [h1, Option.bind_some]
        cases b with
        | false => exact ⟨false, by rw [if_neg (by decide)], ⟨fun h => absurd h (by decide), fun h => h2.mpr h.2.2.2.1⟩⟩
        | true => exact ⟨b', by rw [if_pos rfl, h1', Option.bind_some], by rw [h2']; exact ⟨fun h => ⟨c1, c2, by omega, h2.mp rfl, h⟩, fun h => h.2.2.2.2⟩⟩
      · exact ⟨false, by rw [if_pos c1, if_pos c2, if_neg c3], ⟨fun h => absurd h (by decide), fun h => absurd h.2.2.1 (by omega)⟩⟩
    · exact ⟨false, by rw [if_pos c1, if_neg c2], ⟨fun h => absurd h (by decide), fun h => absurd h.2.1 (by omega)⟩⟩
  · exact ⟨false, by rw [if_neg c1], ⟨fun h => absurd h (by decide), fun h => absurd h.1 (by omega)⟩⟩
/-- There is a score. -/
def G (a : Int) (l m : List Int) (b : Int) (p q : List Int) (i : Int) : Prop := CanP a l m ∧ CanP b p q ∧ a = b ∧ l.length = p.length ∧ 2 ≤ a ∧ 0 ≤ i ∧ i < (l.length : Int)
theorem scored_cases (k : Nat) (a : Int) (l m : List Int) (b : Int) (p q : List Int) (i : Int) (hl : l.length ≤ 100) (hm : m.length ≤ 100) (hp : p.length ≤ 100) (hq : q.length ≤ 100) (hk : 200 ≤ k) :
    (G a l m b p q i ∧ stats_scored.f k a l m b p q i = some (wrap64 ((wrap64 ((wrap64 ((rd l i) - (rd p i))) * (wrap64 ((rd l i) - (rd p i))))) * (wrap64 (a - 1))), wrap64 ((wrap64 ((wrap64 ((wrap64 (a * (rd m i))) - (wrap64 ((rd l i) * (rd l i))))) + (wrap64 (a * (rd q i))))) - (wrap64 ((rd p i) * (rd p i)))), true)) ∨
      (¬ G a l m b p q i ∧ stats_scored.f k a l m b p q i = some (0, 0, false)) := by
  obtain ⟨b1, h1, e1⟩ := can_f k a l m hl hm hk
  obtain ⟨b3, h3, e3⟩ := can_f k b p q hp hq hk
  unfold stats_scored.f
  rw [h1]
  simp only [Option.bind_some]
  cases b1 with
  | false => exact .inr ⟨fun g => absurd (e1.mpr g.1) (by decide), by rw [if_neg (by decide)]⟩
  | true =>
    rw [if_pos (rfl : true = true), h3]
    simp only [Option.bind_some]
    cases b3 with
    | false => exact .inr ⟨fun g => absurd (e3.mpr g.2.1) (by decide), by rw [if_neg (by decide)]⟩
    | true =>
      rw [if_pos (rfl : true = true)]
      have g1 := e1.mp rfl
      have g3 := e3.mp rfl
      by_cases c1 : a = b
      · simp only [if_pos c1]
        by_cases c3 : (l.length : Int) = (p.length : Int)
        · simp only [if_pos c3]
          by_cases c2 : a < 2
          · simp only [if_pos c2]; exact .inr ⟨fun g => by have := g.2.2.2.2.1; omega, trivial⟩
          · simp only [if_neg c2]
            by_cases c4 : i < 0
            · simp only [if_pos c4]; exact .inr ⟨fun g => by have := g.2.2.2.2.2.1; omega, trivial⟩
            · simp only [if_neg c4]
              by_cases c5 : i ≥ (l.length : Int)
              · simp only [if_pos c5]; exact .inr ⟨fun g => by have := g.2.2.2.2.2.2; omega, trivial⟩
              · have z1 := g1.2.2.1
                have z3 := g3.2.2.1
                have f1 : 0 ≤ i := by omega
                have f2 : i < (l.length : Int) := by omega
                have f3 : i < (p.length : Int) := by omega
                have f4 : i < (m.length : Int) := by omega
                have f5 : i < (q.length : Int) := by omega
                simp only [if_neg c5, if_pos f1, if_pos f2, if_pos f3, if_pos f4, if_pos f5]
                exact .inl ⟨⟨g1, g3, c1, by omega, by omega, f1, f2⟩, trivial⟩
        · simp only [if_neg c3]; exact .inr ⟨fun g => by have := g.2.2.2.1; omega, trivial⟩
      · simp only [if_neg c1]; exact .inr ⟨fun g => absurd g.2.2.1 c1, trivial⟩
theorem wsym (p q r s : Int) : wrap64 ((wrap64 ((wrap64 ((wrap64 p) - (wrap64 q))) + (wrap64 r))) - (wrap64 s)) = wrap64 ((wrap64 ((wrap64 ((wrap64 r) - (wrap64 s))) + (wrap64 p))) - (wrap64 q)) := by
  unfold wrap64; omega
theorem G_sym {a : Int} {l m : List Int} {b : Int} {p q : List Int} {i : Int} (g : G a l m b p q i) : G b p q a l m i :=
  ⟨g.2.1, g.1, g.2.2.1.symm, g.2.2.2.1.symm, by have := g.2.2.1; have := g.2.2.2.2.1; omega, g.2.2.2.2.2.1, by have := g.2.2.2.1; have := g.2.2.2.2.2.2; omega⟩
theorem scored_sym (k : Nat) (a : Int) (l m : List Int) (b : Int) (p q : List Int) (i : Int) (hl : l.length ≤ 100) (hm : m.length ≤ 100) (hp : p.length ≤ 100) (hq : q.length ≤ 100) (hk : 200 ≤ k) :
    ∃ u d c, stats_scored.f k a l m b p q i = some (u, d, c) ∧ stats_scored.f k b p q a l m i = some (u, d, c) := by
  rcases scored_cases k a l m b p q i hl hm hp hq hk with ⟨g, h⟩ | ⟨g, h⟩
  · rcases scored_cases k b p q a l m i hp hq hl hm hk with ⟨g', h'⟩ | ⟨g', h'⟩
    · refine ⟨_, _, _, h, ?_⟩
      rw [h']
      obtain ⟨q1, q2, q3, q4, q5, q6, q7⟩ := g
      subst q3
      obtain ⟨j, rfl⟩ : ∃ j : Nat, i = (j : Int) := ⟨i.toNat, by omega⟩
      have hx := q1.2.2.2.1 j (by omega)
      have hy := q2.2.2.2.1 j (by omega)
      have ha := q1.2.1
      rw [rd_at l j, rd_at p j, w64 (i := l.getD j 0 - p.getD j 0) (by omega) (by omega), w64 (i := p.getD j 0 - l.getD j 0) (by omega) (by omega)]
      rw [show p.getD j 0 - l.getD j 0 = -(l.getD j 0 - p.getD j 0) by omega, Int.neg_mul_neg, wsym]
    · exact absurd (G_sym g) g'
  · rcases scored_cases k b p q a l m i hp hq hl hm hk with ⟨g', h'⟩ | ⟨g', h'⟩
    · exact absurd (G_sym g') g
    · exact ⟨_, _, _, h, h'⟩
theorem scored_self (k : Nat) (a : Int) (l m : List Int) (i : Int) (hl : l.length ≤ 100) (hm : m.length ≤ 100) (hk : 200 ≤ k) :
    ∃ d c, stats_scored.f k a l m a l m i = some (0, d, c) := by
  rcases scored_cases k a l m a l m i hl hm hl hm hk with ⟨g, h⟩ | ⟨g, h⟩
  · rw [Int.sub_self (rd l i), show wrap64 0 = 0 from w64 (by omega) (by omega), Int.zero_mul, show wrap64 0 = 0 from w64 (by omega) (by omega), Int.zero_mul, show wrap64 0 = 0 from w64 (by omega) (by omega)] at h
    exact ⟨_, _, h⟩
  · exact ⟨_, _, h⟩
theorem lives_f : bautalaw39_lives.f 50 = some true := by decide +kernel
theorem lives_k {k : Nat} (h : 50 ≤ k) : bautalaw39_lives.f k = some true := by
  induction k with
  | zero => omega
  | succ k ih =>
    rcases Nat.lt_or_ge k 50 with h' | h'
    · obtain rfl : k = 49 := by omega
      exact lives_f
    · exact bautalaw39_lives.mono k _ (ih h')
theorem StatsTurned (a : Int) (l m : List Int) (b : Int) (p q : List Int) (s : Int) : ∃ k, bautalaw39_StatsTurned.f k a l m b p q s = some true := by
  obtain ⟨k, hk⟩ : ∃ k : Nat, 300 ≤ k := ⟨300, by omega⟩
  refine ⟨k, ?_⟩
  have hl := len_take l
  have hm := len_take m
  have hp := len_take p
  have hq := len_take q
  unfold bautalaw39_StatsTurned.f
  rw [small_f, Option.bind_some, small_f, Option.bind_some]
  dsimp only
  generalize l.take 100 = l at hl ⊢
  generalize m.take 100 = m at hm ⊢
  generalize p.take 100 = p at hp ⊢
  generalize q.take 100 = q at hq ⊢
  obtain ⟨u, d, c, h1, h2⟩ := scored_sym k a l m b p q s hl hm hp hq (by omega)
  obtain ⟨d', c', h3⟩ := scored_self k a l m s hl hm (by omega)
  have sc : ∀ (a : Int) (l m : List Int) (b : Int) (p q : List Int) (x y : Int) (z : Bool), stats_scored.f k a l m b p q s = some (x, y, z) → stats_Score.f k a l m b p q s = some (x, y, z) := by
    intro a l m b p q x y z h
    unfold stats_Score.f
    rw [h]; rfl
  have o1 := own_f a l m (by omega) (by omega)
  have o2 := own_f b p q (by omega) (by omega)
  rw [o1, Option.bind_some, o2, Option.bind_some]
  dsimp only
  rw [sc _ _ _ _ _ _ _ _ _ h1, Option.bind_some, Option.bind_some, Option.bind_some]
  dsimp only
  rw [sc _ _ _ _ _ _ _ _ _ h2, Option.bind_some, Option.bind_some, Option.bind_some]
  dsimp only
  rw [sc _ _ _ _ _ _ _ _ _ h3, Option.bind_some]
  dsimp only
  rw [if_pos rfl, if_pos rfl, if_pos (by simp), if_pos rfl, lives_k (by omega), Option.bind_some]
end Go.Proofs.Ytbohanoekboifaa.Pure
