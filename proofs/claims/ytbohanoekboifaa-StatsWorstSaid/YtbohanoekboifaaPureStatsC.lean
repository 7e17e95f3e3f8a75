/- What can, scored and the reference's Score come to. Plain Lean. -/
import Derived.Test.YtbohanoekboifaaPWx7
import Derived.Test.YtbohanoekboifaaPWx3
namespace Go.Proofs.Ytbohanoekboifaa.BS
open Go.RowKit Go.Proofs.Ytbohanoekboifaa.PW Go.Proofs.YtbohanoekboifaaW.PrintWords Go.Proofs.YtbohanoekboifaaW.PrintLast Go.Proofs.YtbohanoekboifaaW.PrintMore
set_option linter.unusedVariables false

theorem w64 {i : Int} (h : -9000000000000000000 ≤ i) (h' : i ≤ 9000000000000000000) : wrap64 i = i := by unfold wrap64; omega
theorem rd_at (l : List Int) (i : Nat) : rd l (i : Int) = l.getD i 0 := by simp [rd]
theorem own_f (a : Int) (l m : List Int) (hl : l.length < 1000000) (hm : m.length < 1000000) : bautalaw39_own.f a l m = some (a, l, m) := by
  unfold bautalaw39_own.f
  rw [Option.bind_some, List.length_nil, if_pos (by omega), Option.bind_some, List.length_nil, if_pos (by omega)]; rfl
theorem len_take (l : List Int) : (l.take 100).length ≤ 100 := by rw [List.length_take]; omega
theorem small_f (a : Int) (l m : List Int) : bautalaw39_small.f a l m = some (a, l.take 100, m.take 100) := by
  unfold bautalaw39_small.f
  have h1 := len_take l
  have h2 := len_take m
  by_cases c1 : (l.length : Int) > 100
  · rw [if_pos c1, if_pos (by omega)]
    by_cases c2 : (m.length : Int) > 100
    · rw [if_pos c2, if_pos (by omega), own_f _ _ _ (by omega) (by omega)]; rfl
    · rw [if_neg c2, own_f _ _ _ (by omega) (by omega), List.take_of_length_le (l := m) (by omega)]; rfl
  · rw [if_neg c1, List.take_of_length_le (l := l) (by omega)]
    by_cases c2 : (m.length : Int) > 100
    · rw [if_pos c2, if_pos (by omega), own_f _ _ _ (by omega) (by omega)]; rfl
    · rw [if_neg c2, own_f _ _ _ (by omega) (by omega), List.take_of_length_le (l := m) (by omega)]; rfl

theorem within_l0 (c : Int) (l : List Int) (hl : l.length < 1000000) (d : Nat) : ∀ (k i : Nat), i + d = l.length → d < k →
    ∃ t, stats_within.l0 k c l (i : Int) = some t ∧ (t ≥ 0 ↔ ∃ j, i ≤ j ∧ j < l.length ∧ (l.getD j 0 < 0 ∨ l.getD j 0 > c)) := by
  induction d with
  | zero =>
    intro k i hi hk
    obtain ⟨k, rfl⟩ : ∃ q, k = q + 1 := ⟨k - 1, by omega⟩
    refine ⟨-1, ?_, ⟨fun h => absurd h (by decide), fun ⟨j, h1, h2, _⟩ => by omega⟩⟩
    simp only [stats_within.l0]
    rw [if_neg (by omega)]
  | succ d ih =>
    intro k i hi hk
    obtain ⟨k, rfl⟩ : ∃ q, k = q + 1 := ⟨k - 1, by omega⟩
    simp only [stats_within.l0]
    rw [if_pos (by omega), if_pos (by omega), rd_at]
    by_cases c1 : l.getD i 0 < 0 ∨ l.getD i 0 > c
    · refine ⟨i, ?_, ⟨fun _ => ⟨i, Nat.le_refl _, by omega, c1⟩, fun _ => by omega⟩⟩
      rw [if_pos (by simpa using c1)]
    · obtain ⟨t, h1, h2⟩ := ih k (i + 1) (by omega) (by omega)
      refine ⟨t, ?_, ?_⟩
      · rw [if_neg (by simpa using c1), show wrap64 ((i : Int) + 1) = ((i + 1 : Nat) : Int) from w64 (by omega) (by omega)]; exact h1
      · rw [h2]
        constructor
        · rintro ⟨j, a1, a2, a3⟩; exact ⟨j, by omega, a2, a3⟩
        · rintro ⟨j, a1, a2, a3⟩
          rcases Nat.lt_or_ge i j with h | h
          · exact ⟨j, h, a2, a3⟩
          · obtain rfl : j = i := by omega
            exact absurd a3 c1
/-- All lie from 0 to a bound. -/
def Wi (l : List Int) (c : Int) : Prop := ∀ j, j < l.length → 0 ≤ l.getD j 0 ∧ l.getD j 0 ≤ c
theorem within_f (k : Nat) (l : List Int) (c : Int) (hl : l.length < 1000000) (hk : l.length < k) : ∃ b, stats_within.f k l c = some b ∧ (b = true ↔ Wi l c) := by
  obtain ⟨t, h1, h2⟩ := within_l0 c l hl l.length k 0 (by omega) hk
  refine ⟨!(decide (t ≥ 0)), ?_, ?_⟩
  · unfold stats_within.f
    have h1' : stats_within.l0 k c l 0 = some t := h1
    rw [h1', Option.bind_some]
  · by_cases ht : t ≥ 0
    · rw [decide_eq_true ht]
      obtain ⟨j, _, a2, a3⟩ := h2.mp ht
      refine ⟨fun h => absurd h (by decide), fun h => ?_⟩
      have := h j a2
      omega
    · rw [decide_eq_false ht]
      refine ⟨fun _ j hj => ?_, fun _ => rfl⟩
      by_cases c1 : l.getD j 0 < 0 ∨ l.getD j 0 > c
      · exact absurd (h2.mpr ⟨j, Nat.zero_le _, hj, c1⟩) ht
      · omega
/-- What are moments. -/
def CanP (a : Int) (l m : List Int) : Prop := 0 ≤ a ∧ a ≤ 500 ∧ l.length = m.length ∧ Wi l (32 * a) ∧ Wi m (1024 * a)
theorem can_f (k : Nat) (a : Int) (l m : List Int) (hl : l.length ≤ 100) (hm : m.length ≤ 100) (hk : 200 ≤ k) : ∃ b, stats_can.f k a l m = some b ∧ (b = true ↔ CanP a l m) := by
  unfold stats_can.f CanP
  by_cases c1 : a ≥ 0
  · by_cases c2 : a ≤ 500
    · by_cases c3 : (l.length : Int) = (m.length : Int)
      · rw [if_pos c1, if_pos c2, if_pos c3, if_pos (by omega), w64 (i := 32 * a) (by omega) (by omega), w64 (i := 1024 * a) (by omega) (by omega)]
        obtain ⟨b, h1, h2⟩ := within_f k l (32 * a) (by omega) (by omega)
        obtain ⟨b', h1', h2'⟩ := within_f k m (1024 * a) (by omega) (by omega)
        rw [h1, Option.bind_some]
        cases b with
        | false => exact ⟨false, by rw [if_neg (by decide)], ⟨fun h => absurd h (by decide), fun h => h2.mpr h.2.2.2.1⟩⟩
        | true => exact ⟨b', by rw [if_pos rfl, h1', Option.bind_some], by rw [h2']; exact ⟨fun h => ⟨c1, c2, by omega, h2.mp rfl, h⟩, fun h => h.2.2.2.2⟩⟩
      · exact ⟨false, by rw [if_pos c1, if_pos c2, if_neg c3], ⟨fun h => absurd h (by decide), fun h => absurd h.2.2.1 (by omega)⟩⟩
    · exact ⟨false, by rw [if_pos c1, if_neg c2], ⟨fun h => absurd h (by decide), fun h => absurd h.2.1 (by omega)⟩⟩
  · exact ⟨false, by rw [if_neg c1], ⟨fun h => absurd h (by decide), fun h => absurd h.1 (by omega)⟩⟩
theorem refcan_l0 (a : Int) (l m : List Int) (ha : 0 ≤ a) (ha' : a ≤ 500) (hlm : l.length = m.length) (hl : l.length ≤ 100) (d : Nat) : ∀ (k i : Nat), i + d = l.length → d < k →
    ∃ b, bautaref39_Can.l0 k (i : Int) a l m = some b ∧ (b = true ↔ ∀ j, i ≤ j → j < l.length → (0 ≤ l.getD j 0 ∧ l.getD j 0 ≤ 32 * a) ∧ (0 ≤ m.getD j 0 ∧ m.getD j 0 ≤ 1024 * a)) := by
  induction d with
  | zero =>
    intro k i hi hk
    obtain ⟨k, rfl⟩ : ∃ q, k = q + 1 := ⟨k - 1, by omega⟩
    refine ⟨true, ?_, ⟨fun _ j h1 h2 => by omega, fun _ => rfl⟩⟩
    simp only [bautaref39_Can.l0]
    rw [if_neg (by omega)]
  | succ d ih =>
    intro k i hi hk
    obtain ⟨k, rfl⟩ : ∃ q, k = q + 1 := ⟨k - 1, by omega⟩
    simp only [bautaref39_Can.l0]
    rw [if_pos (by omega), if_pos (by omega), rd_at, rd_at, w64 (i := 32 * a) (by omega) (by omega), w64 (i := 1024 * a) (by omega) (by omega)]
    have bad : ¬ ((0 ≤ l.getD i 0 ∧ l.getD i 0 ≤ 32 * a) ∧ (0 ≤ m.getD i 0 ∧ m.getD i 0 ≤ 1024 * a)) → (false = true ↔ ∀ j, i ≤ j → j < l.length → (0 ≤ l.getD j 0 ∧ l.getD j 0 ≤ 32 * a) ∧ (0 ≤ m.getD j 0 ∧ m.getD j 0 ≤ 1024 * a)) :=
      fun hn => ⟨fun h => absurd h (by decide), fun h => absurd (h i (Nat.le_refl _) (by omega)) hn⟩
    by_cases c1 : l.getD i 0 < 0
    · exact ⟨false, by rw [if_pos c1], bad (by omega)⟩
    · by_cases c2 : l.getD i 0 > 32 * a
      · exact ⟨false, by rw [if_neg c1, if_pos c2], bad (by omega)⟩
      · by_cases c3 : m.getD i 0 < 0
        · exact ⟨false, by rw [if_neg c1, if_neg c2, if_pos (by omega), if_pos c3], bad (by omega)⟩
        · by_cases c4 : m.getD i 0 > 1024 * a
          · exact ⟨false, by rw [if_neg c1, if_neg c2, if_pos (by omega), if_neg c3, if_pos c4], bad (by omega)⟩
          · obtain ⟨b, h1, h2⟩ := ih k (i + 1) (by omega) (by omega)
            refine ⟨b, by rw [if_neg c1, if_neg c2, if_pos (by omega), if_neg c3, if_neg c4, show wrap64 ((i : Int) + 1) = ((i + 1 : Nat) : Int) from w64 (by omega) (by omega)]; exact h1, ?_⟩
            rw [h2]
            constructor
            · intro h j a1 a2
              rcases Nat.lt_or_ge i j with h' | h'
              · exact h j h' a2
              · obtain rfl : j = i := by omega
                omega
            · intro h j a1 a2; exact h j (by omega) a2
theorem refcan_f (k : Nat) (a : Int) (l m : List Int) (hl : l.length ≤ 100) (hm : m.length ≤ 100) (hk : 200 ≤ k) : ∃ b, bautaref39_Can.f k a l m = some b ∧ (b = true ↔ CanP a l m) := by
  obtain ⟨k, rfl⟩ : ∃ q, k = q + 1 := ⟨k - 1, by omega⟩
  have no : bautaref39_Can.j0 (k + 1) true a l m = some false := by simp only [bautaref39_Can.j0]; rw [if_pos trivial]
  unfold bautaref39_Can.f CanP
  by_cases c1 : a < 0
  · exact ⟨false, by rw [if_pos c1, no], ⟨fun h => absurd h (by decide), fun h => absurd h.1 (by omega)⟩⟩
  · by_cases c2 : a > 500
    · exact ⟨false, by rw [if_neg c1, if_pos c2, no], ⟨fun h => absurd h (by decide), fun h => absurd h.2.1 (by omega)⟩⟩
    · by_cases c3 : (l.length : Int) = (m.length : Int)
      · obtain ⟨b, h1, h2⟩ := refcan_l0 a l m (by omega) (by omega) (by omega) hl l.length k 0 (by omega) (by omega)
        have h1' : bautaref39_Can.l0 k 0 a l m = some b := h1
        refine ⟨b, ?_, ?_⟩
        · rw [if_neg c1, if_neg c2, if_pos c3, decide_eq_false (by omega)]
          simp only [bautaref39_Can.j0]
          rw [if_neg (by decide)]; exact h1'
        · rw [h2]
          constructor
          · intro h; exact ⟨by omega, by omega, by omega, fun j hj => (h j (Nat.zero_le _) hj).1, fun j hj => (h j (Nat.zero_le _) (by omega)).2⟩
          · intro h j _ hj; exact ⟨h.2.2.2.1 j hj, h.2.2.2.2 j (by omega)⟩
      · exact ⟨false, by rw [if_neg c1, if_neg c2, if_neg c3, no], ⟨fun h => absurd h (by decide), fun h => absurd h.2.2.1 (by omega)⟩⟩
theorem wsum (p q r s : Int) : wrap64 ((wrap64 ((wrap64 ((wrap64 p) - (wrap64 q))) + (wrap64 r))) - (wrap64 s)) = wrap64 ((wrap64 ((wrap64 p) - (wrap64 q))) + (wrap64 ((wrap64 r) - (wrap64 s)))) := by
  unfold wrap64; omega
theorem sq_le (z : Int) (h : -16000 ≤ z) (h' : z ≤ 16000) : 0 ≤ z * z ∧ z * z ≤ 256000000 := by
  rcases Int.le_total 0 z with c | c
  · have h1 : z * z ≤ 16000 * 16000 := Int.mul_le_mul h' h' c (by omega)
    exact ⟨Int.mul_nonneg c c, by omega⟩
  · have h1 : (-z) * (-z) ≤ 16000 * 16000 := Int.mul_le_mul (by omega) (by omega) (by omega) (by omega)
    have h2 : 0 ≤ (-z) * (-z) := Int.mul_nonneg (by omega) (by omega)
    rw [Int.neg_mul_neg] at h1 h2
    exact ⟨h2, by omega⟩
theorem mul_le (x y m n c : Int) (hx : 0 ≤ x) (hx' : x ≤ m) (hy : 0 ≤ y) (hy' : y ≤ n) (hc : m * n = c) : 0 ≤ x * y ∧ x * y ≤ c :=
  ⟨Int.mul_nonneg hx hy, hc ▸ Int.mul_le_mul hx' hy' hy (by omega)⟩
theorem bound (n x y s t : Int) (hn : 2 ≤ n) (hn' : n ≤ 500) (hx : 0 ≤ x) (hx' : x ≤ 16000) (hy : 0 ≤ y) (hy' : y ≤ 16000) (hs : 0 ≤ s) (hs' : s ≤ 512000) (ht : 0 ≤ t) (ht' : t ≤ 512000) :
    0 ≤ wrap64 ((wrap64 ((wrap64 (x - y)) * (wrap64 (x - y)))) * (wrap64 (n - 1))) ∧ wrap64 ((wrap64 ((wrap64 (x - y)) * (wrap64 (x - y)))) * (wrap64 (n - 1))) < 4611686018427387904 ∧
      wrap64 ((wrap64 ((wrap64 (n * s)) - (wrap64 (x * x)))) + (wrap64 ((wrap64 (n * t)) - (wrap64 (y * y))))) < 1073741824 := by
  rw [w64 (i := x - y) (by omega) (by omega), w64 (i := n - 1) (by omega) (by omega)]
  have b1 := sq_le (x - y) (by omega) (by omega)
  generalize (x - y) * (x - y) = z at b1 ⊢
  rw [w64 (i := z) (by omega) (by omega)]
  have b2 := mul_le z (n - 1) 256000000 499 127744000000 (by omega) (by omega) (by omega) (by omega) (by omega)
  have b3 := mul_le n s 500 512000 256000000 (by omega) (by omega) (by omega) (by omega) (by omega)
  have b4 := mul_le n t 500 512000 256000000 (by omega) (by omega) (by omega) (by omega) (by omega)
  have b5 := mul_le x x 16000 16000 256000000 (by omega) (by omega) (by omega) (by omega) (by omega)
  have b6 := mul_le y y 16000 16000 256000000 (by omega) (by omega) (by omega) (by omega) (by omega)
  generalize z * (n - 1) = q2 at b2 ⊢
  generalize n * s = q3 at b3 ⊢
  generalize n * t = q4 at b4 ⊢
  generalize x * x = q5 at b5 ⊢
  generalize y * y = q6 at b6 ⊢
  unfold wrap64
  omega
/-- One answer. -/
theorem score_f (k : Nat) (a : Int) (l m : List Int) (b : Int) (p q : List Int) (i : Int) (hl : l.length ≤ 100) (hm : m.length ≤ 100) (hp : p.length ≤ 100) (hq : q.length ≤ 100) (hk : 200 ≤ k) :
    ∃ u d c, stats_scored.f k a l m b p q i = some (u, d, c) ∧ bautaref39_Score.f k a l m b p q i = some (u, d, c) ∧ (c = true → 0 ≤ u ∧ u < 4611686018427387904 ∧ d < 1073741824) := by
  obtain ⟨b1, h1, e1⟩ := can_f k a l m hl hm hk
  obtain ⟨b2, h2, e2⟩ := refcan_f k a l m hl hm hk
  obtain ⟨b3, h3, e3⟩ := can_f k b p q hp hq hk
  obtain ⟨b4, h4, e4⟩ := refcan_f k b p q hp hq hk
  obtain rfl : b1 = b2 := by rw [Bool.eq_iff_iff, e1, e2]
  obtain rfl : b3 = b4 := by rw [Bool.eq_iff_iff, e3, e4]
  unfold stats_scored.f bautaref39_Score.f
  have z : ∃ u d c, (some (0, 0, false) : Option (Int × Int × Bool)) = some (u, d, c) ∧ (some (0, 0, false) : Option (Int × Int × Bool)) = some (u, d, c) ∧ (c = true → 0 ≤ u ∧ u < 4611686018427387904 ∧ d < 1073741824) := ⟨0, 0, false, rfl, rfl, fun h => absurd h (by decide)⟩
  rw [h1, h2]
  simp only [Option.bind_some]
  cases b1 with
  | false => rw [if_neg (by decide), if_neg (by decide)]; exact z
  | true =>
    rw [if_pos (rfl : true = true), if_pos (rfl : true = true), h3, h4]
    simp only [Option.bind_some]
    cases b3 with
    | false => rw [if_neg (by decide), if_neg (by decide)]; exact z
    | true =>
      rw [if_pos (rfl : true = true), if_pos (rfl : true = true)]
      have g1 := e1.mp rfl
      have g3 := e3.mp rfl
      unfold CanP at g1 g3
      by_cases c1 : a = b
      · simp only [if_pos c1]
        by_cases c3 : (l.length : Int) = (p.length : Int)
        · simp only [if_pos c3]
          by_cases c2 : a < 2
          · simp only [if_pos c2]; exact z
          · simp only [if_neg c2]
            by_cases c4 : i < 0
            · simp only [if_pos c4]; exact z
            · simp only [if_neg c4]
              by_cases c5 : i ≥ (l.length : Int)
              · simp only [if_pos c5]; exact z
              · have f1 : 0 ≤ i := by omega
                have f2 : i < (l.length : Int) := by omega
                have f3 : i < (p.length : Int) := by omega
                have f4 : i < (m.length : Int) := by omega
                have f5 : i < (q.length : Int) := by omega
                simp only [if_neg c5, if_pos f1, if_pos f2, if_pos f3, if_pos f4, if_pos f5, wsum]
                refine ⟨_, _, _, rfl, rfl, fun _ => ?_⟩
                obtain ⟨j, rfl⟩ : ∃ j : Nat, i = (j : Int) := ⟨i.toNat, by omega⟩
                have x1 := g1.2.2.2.1 j (by omega)
                have x2 := g1.2.2.2.2 j (by omega)
                have x3 := g3.2.2.2.1 j (by omega)
                have x4 := g3.2.2.2.2 j (by omega)
                have x5 := g1.2.1
                have x6 := g3.2.1
                rw [rd_at, rd_at, rd_at, rd_at]
                exact bound a _ _ _ _ (by omega) (by omega) (by omega) (by omega) (by omega) (by omega) (by omega) (by omega) (by omega) (by omega)
        · simp only [if_neg c3]
          by_cases c2 : a < 2
          · simp only [if_pos c2]; exact z
          · simp only [if_neg c2]; exact z
      · simp only [if_neg c1]; exact z
end Go.Proofs.Ytbohanoekboifaa.BS
