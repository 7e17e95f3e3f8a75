/- What sums and products come to, in the program and in the reference: the same. Plain Lean. -/
import Derived.Test.YtekddhlnpjjlhaaPAllx3
namespace Go.Proofs.Ytekddhlnpjjlhaa.B
open Go.RowKit Go.Proofs.Ytekddhlnpjjlhaa.PAll Go.Proofs.YtekddhlnpjjlhaaW.PrintWords Go.Proofs.YtekddhlnpjjlhaaW.PrintLast Go.Proofs.YtekddhlnpjjlhaaW.PrintMore

theorem w64 {i : Int} (h : -9000000000000000000 ≤ i) (h' : i ≤ 9000000000000000000) : wrap64 i = i := by unfold wrap64; omega
theorem rd_at (l : List Int) (i : Nat) : rd l (i : Int) = l.getD i 0 := by simp [rd]
theorem dropI (l : List Int) (i : Nat) (hi : i < l.length) : l.drop i = l.getD i 0 :: l.drop (i + 1) := by
  rw [List.drop_eq_getElem_cons hi, List.getD_eq_getElem?_getD, List.getElem?_eq_getElem hi]; rfl

/-- A number that can be, or why not. -/
def ck (n : Int) : Int × Int := if n < 0 then (0, 1) else if n > 2147483647 then (0, 150) else (n, 0)
theorem checked_f (n : Int) : limits_checked.f n = some (ck n) := by
  unfold limits_checked.f ck
  split
  · rfl
  · split <;> rfl
/-- Two numbers together. -/
def wi (p q : Int × Int) (times : Bool) : Int × Int :=
  if p.2 = 0 then (if q.2 = 0 then (if times then ck (wrap64 (p.1 * q.1)) else ck (wrap64 (p.1 + q.1))) else q) else p
theorem with_f (p q : Int × Int) (times : Bool) : limits_number_with.f p.1 p.2 q.1 q.2 times = some (wi p q times) := by
  unfold limits_number_with.f wi
  rw [checked_f, checked_f]
  split
  · split
    · cases times <;> rfl
    · rfl
  · rfl
theorem answer_f (p : Int × Int) : limits_number_answer.f p.1 p.2 = some (if p.2 = 0 then (p.1, 0) else (0, p.2)) := by
  unfold limits_number_answer.f
  split <;> rfl

/-- The fold. -/
def fo (times : Bool) (first : Int) (l : List Int) : Int × Int := if l.any (· < 0) then (0, 1) else l.foldl (fun p n => wi p (ck n) times) (first, 0)
theorem all_l1 (times : Bool) (l : List Int) (hl : l.length < 1000) (d : Nat) : ∀ (k i : Nat) (m e : Int), i + d = l.length → d < k →
    limits_all.l1 k times l (l.length : Int) (i : Int) m e = some ((l.drop i).foldl (fun p n => wi p (ck n) times) (m, e)) := by
  induction d with
  | zero =>
    intro k i m e hi hk
    obtain ⟨k, rfl⟩ : ∃ q, k = q + 1 := ⟨k - 1, by omega⟩
    simp only [limits_all.l1]
    rw [if_neg (by omega), List.drop_of_length_le (by omega)]; rfl
  | succ d ih =>
    intro k i m e hi hk
    obtain ⟨k, rfl⟩ : ∃ q, k = q + 1 := ⟨k - 1, by omega⟩
    have hw : wrap64 ((i : Int) + 1) = ((i + 1 : Nat) : Int) := w64 (by omega) (by omega)
    simp only [limits_all.l1]
    rw [if_pos (by omega), if_pos (by omega), if_pos (by omega), rd_at, checked_f, Option.bind_some, with_f (m, e), Option.bind_some, hw, ih k (i + 1) _ _ (by omega) (by omega), dropI l i (by omega)]
    rfl
theorem all_l0 (times : Bool) (first : Int) (l : List Int) (hl : l.length < 1000) (d : Nat) : ∀ (k i : Nat), i + d = l.length → d < k →
    limits_all.l0 k times first l l (l.length : Int) (i : Int) = if (l.drop i).any (· < 0) then some (0, 1) else limits_all.l1 (k - 1 - d) times l (l.length : Int) 0 first 0 := by
  induction d with
  | zero =>
    intro k i hi hk
    obtain ⟨k, rfl⟩ : ∃ q, k = q + 1 := ⟨k - 1, by omega⟩
    simp only [limits_all.l0]
    rw [if_neg (by omega), List.drop_of_length_le (by omega)]; rfl
  | succ d ih =>
    intro k i hi hk
    obtain ⟨k, rfl⟩ : ∃ q, k = q + 1 := ⟨k - 1, by omega⟩
    have hw : wrap64 ((i : Int) + 1) = ((i + 1 : Nat) : Int) := w64 (by omega) (by omega)
    simp only [limits_all.l0]
    rw [if_pos (by omega), if_pos (by omega), if_pos (by omega), rd_at, hw, ih k (i + 1) (by omega) (by omega), dropI l i (by omega), List.any_cons]
    by_cases h : l.getD i 0 < 0
    · rw [if_pos h, decide_eq_true h, Bool.true_or, if_pos rfl]
    · rw [if_neg h, decide_eq_false h, Bool.false_or, show k + 1 - 1 - (d + 1) = k - 1 - d by omega]
theorem all_f (k : Nat) (times : Bool) (first : Int) (l : List Int) (hl : l.length < 1000) (hk : 2 * l.length + 5 < k) : limits_all.f k times first l = some (fo times first l) := by
  unfold limits_all.f fo
  have h0 := all_l0 times first l hl l.length k 0 (by omega) (by omega)
  have h1 := all_l1 times l hl l.length (k - 1 - l.length) 0 first 0 (by omega) (by omega)
  rw [show ((0 : Nat) : Int) = 0 from rfl] at h0 h1
  rw [h0, h1, List.drop_zero]
  split <;> rfl
theorem sum_f (k : Nat) (l : List Int) (hl : l.length < 1000) (hk : 2 * l.length + 5 < k) : limits_sum.f k l = some (fo false 0 l) := by
  unfold limits_sum.f; rw [all_f k false 0 l hl hk]; rfl
theorem product_f (k : Nat) (l : List Int) (hl : l.length < 1000) (hk : 2 * l.length + 5 < k) : limits_product.f k l = some (fo true 1 l) := by
  unfold limits_product.f; rw [all_f k true 1 l hl hk]; rfl

/-! ### the reference -/
theorem div_gt (n x : Int) (hn : 0 < n) : (x > 2147483647 / n) ↔ n * x > 2147483647 := by
  constructor
  · intro h
    have := (Int.ediv_lt_iff_lt_mul hn).mp h
    rw [Int.mul_comm] at this
    exact this
  · intro h
    apply (Int.ediv_lt_iff_lt_mul hn).mpr
    rw [Int.mul_comm]
    exact h
theorem mul_bound {n x : Int} (h0 : 0 ≤ n) (h1 : n ≤ 2147483647) (g0 : 0 ≤ x) (g1 : x ≤ 2147483647) : 0 ≤ n * x ∧ n * x ≤ 4611686018427387904 := by
  have h := Int.mul_nonneg h0 g0
  have := Int.mul_le_mul h1 g1 g0 (by decide : (0 : Int) ≤ 2147483647)
  omega
theorem mul_wrap {n x : Int} (h0 : 0 ≤ n) (h1 : n ≤ 2147483647) (g0 : 0 ≤ x) (g1 : x ≤ 2147483647) : wrap64 (n * x) = n * x := by
  have := mul_bound h0 h1 g0 g1
  exact w64 (by omega) (by omega)

/-- A number so far: one that can be, or too great. -/
def Fine (p : Int × Int) : Prop := (p.2 = 0 ∧ 0 ≤ p.1 ∧ p.1 ≤ 2147483647) ∨ (p.1 = 0 ∧ p.2 = 150)
theorem ck_fine (n : Int) (h : 0 ≤ n) : Fine (ck n) := by
  unfold ck Fine
  rw [if_neg (by omega)]
  split
  · exact .inr ⟨rfl, rfl⟩
  · exact .inl ⟨rfl, h, by omega⟩
theorem wi_fine {p q : Int × Int} (hp : Fine p) (hq : Fine q) (times : Bool) : Fine (wi p q times) := by
  unfold wi
  rcases hp with ⟨h1, h2, h3⟩ | ⟨h1, h2⟩
  · rw [if_pos h1]
    rcases hq with ⟨g1, g2, g3⟩ | ⟨g1, g2⟩
    · rw [if_pos g1]
      cases times with
      | true => rw [if_pos rfl, mul_wrap h2 h3 g2 g3]; exact ck_fine _ (mul_bound h2 h3 g2 g3).1
      | false => rw [if_neg (by decide), w64 (by omega) (by omega)]; exact ck_fine _ (by omega)
    · rw [if_neg (by omega)]; exact .inr ⟨g1, g2⟩
  · rw [if_neg (by omega)]; exact .inr ⟨h1, h2⟩
theorem fold_fine (times : Bool) : ∀ (l : List Int) (p : Int × Int), Fine p → l.any (· < 0) = false → Fine (l.foldl (fun p n => wi p (ck n) times) p)
  | [], _, hp, _ => hp
  | x :: l, p, hp, h => by
    rw [List.any_cons, Bool.or_eq_false_iff] at h
    exact fold_fine times l _ (wi_fine hp (ck_fine x (by simpa using h.1)) times) h.2

theorem mul_l1 (l : List Int) (hl : l.length < 1000) (hnn : ∀ i, i < l.length → 0 ≤ l.getD i 0) (d : Nat) : ∀ (k i : Nat) (n : Int), i + d = l.length → d < k → 0 ≤ n → n ≤ 2147483647 →
    bautaref27_Mul.l1 k l n (i : Int) = some ((l.drop i).foldl (fun p n => wi p (ck n) true) (n, 0)) := by
  have stuck : ∀ (r : List Int), r.foldl (fun p n => wi p (ck n) true) ((0, 150) : Int × Int) = (0, 150) := by
    intro r
    induction r with
    | nil => rfl
    | cons x r ih => rw [List.foldl_cons, show wi (0, 150) (ck x) true = (0, 150) from rfl]; exact ih
  induction d with
  | zero =>
    intro k i n hi hk h0 h1
    obtain ⟨k, rfl⟩ : ∃ q, k = q + 1 := ⟨k - 1, by omega⟩
    simp only [bautaref27_Mul.l1]
    rw [if_neg (by omega), List.drop_of_length_le (by omega)]; rfl
  | succ d ih =>
    intro k i n hi hk h0 h1
    obtain ⟨k, rfl⟩ : ∃ q, k = q + 1 := ⟨k - 1, by omega⟩
    have hw : wrap64 ((i : Int) + 1) = ((i + 1 : Nat) : Int) := w64 (by omega) (by omega)
    have hx := hnn i (by omega)
    simp only [bautaref27_Mul.l1]
    rw [if_pos (by omega), if_pos (by omega), rd_at, hw, dropI l i (by omega), List.foldl_cons]
    generalize l.getD i 0 = x at hx
    by_cases a : x > 2147483647
    · rw [if_pos a, show ck x = (0, 150) by unfold ck; rw [if_neg (by omega), if_pos a], show wi (n, 0) (0, 150) true = (0, 150) from rfl, stuck]
    · have e : ck x = (x, 0) := by unfold ck; rw [if_neg (by omega), if_neg a]
      have e2 : wi (n, 0) (x, 0) true = ck (n * x) := by
        unfold wi; rw [if_pos rfl, if_pos rfl, if_pos rfl, mul_wrap h0 h1 hx (by omega)]
      have hb := mul_bound h0 h1 hx (by omega : x ≤ 2147483647)
      rw [if_neg a, e, e2, mul_wrap h0 h1 hx (by omega)]
      by_cases b : n > 0
      · have hd : wrap64 (2147483647 / n) = 2147483647 / n := by
          have h2 : 2147483647 / n ≤ 2147483647 := Int.ediv_le_self _ (by decide)
          have h3 : 0 ≤ 2147483647 / n := Int.ediv_nonneg (by decide) h0
          exact w64 (by omega) (by omega)
        rw [if_pos b, if_neg (by omega), hd]
        by_cases c : x > 2147483647 / n
        · have := (div_gt n x b).mp c
          rw [if_pos c, show ck (n * x) = (0, 150) by unfold ck; rw [if_neg (by omega), if_pos this], stuck]
        · have : ¬ n * x > 2147483647 := fun h => c ((div_gt n x b).mpr h)
          rw [if_neg c, show ck (n * x) = (n * x, 0) by unfold ck; rw [if_neg (by omega), if_neg this], ih k (i + 1) _ (by omega) (by omega) hb.1 (by omega)]
      · obtain rfl : n = 0 := by omega
        rw [if_neg b, Int.zero_mul, show ck 0 = (0, 0) from rfl, ih k (i + 1) _ (by omega) (by omega) (by omega) (by omega)]
theorem any_false {l : List Int} (h : l.any (· < 0) = false) : ∀ i, i < l.length → 0 ≤ l.getD i 0 := by
  intro i hi
  rw [List.any_eq_false] at h
  have := h (l.getD i 0) (by rw [List.getD_eq_getElem?_getD, List.getElem?_eq_getElem hi]; exact List.getElem_mem hi)
  simpa using this
theorem mul_l0 (l : List Int) (hl : l.length < 1000) (d : Nat) : ∀ (k i : Nat) (n : Int), i + d = l.length → d < k →
    bautaref27_Mul.l0 k l n (i : Int) = if (l.drop i).any (· < 0) then some (0, 1) else bautaref27_Mul.l1 (k - 1 - d) l n 0 := by
  induction d with
  | zero =>
    intro k i n hi hk
    obtain ⟨k, rfl⟩ : ∃ q, k = q + 1 := ⟨k - 1, by omega⟩
    simp only [bautaref27_Mul.l0]
    rw [if_neg (by omega), List.drop_of_length_le (by omega)]; rfl
  | succ d ih =>
    intro k i n hi hk
    obtain ⟨k, rfl⟩ : ∃ q, k = q + 1 := ⟨k - 1, by omega⟩
    have hw : wrap64 ((i : Int) + 1) = ((i + 1 : Nat) : Int) := w64 (by omega) (by omega)
    simp only [bautaref27_Mul.l0]
    rw [if_pos (by omega), if_pos (by omega), rd_at, hw, ih k (i + 1) n (by omega) (by omega), dropI l i (by omega), List.any_cons]
    by_cases h : l.getD i 0 < 0
    · rw [if_pos h, decide_eq_true h, Bool.true_or, if_pos rfl]
    · rw [if_neg h, decide_eq_false h, Bool.false_or, show k + 1 - 1 - (d + 1) = k - 1 - d by omega]
theorem refmul_f (k : Nat) (l : List Int) (hl : l.length < 1000) (hk : 2 * l.length + 5 < k) : bautaref27_Mul.f k l = some (fo true 1 l) := by
  unfold bautaref27_Mul.f fo
  have h0 := mul_l0 l hl l.length k 0 1 (by omega) (by omega)
  rw [show ((0 : Nat) : Int) = 0 from rfl] at h0
  rw [h0, List.drop_zero]
  cases h : l.any (· < 0) with
  | true => rfl
  | false =>
    have h1 := mul_l1 l hl (any_false h) l.length (k - 1 - l.length) 0 1 (by omega) (by omega) (by omega) (by omega)
    rw [show ((0 : Nat) : Int) = 0 from rfl, List.drop_zero] at h1
    rw [if_neg (by decide), if_neg (by decide), h1]

theorem add_stuck (l : List Int) (d : Nat) : ∀ (k i : Nat), i + d = l.length → 2 < k → bautaref27_Add.l1 k l 0 150 (i : Int) = some (0, 150) := by
  intro k i _ hk
  obtain ⟨k, rfl⟩ : ∃ q, k = q + 2 := ⟨k - 2, by omega⟩
  simp only [bautaref27_Add.l1, bautaref27_Add.j2]
  split <;> simp
theorem add_l1 (l : List Int) (hl : l.length < 1000) (hnn : ∀ i, i < l.length → 0 ≤ l.getD i 0) (d : Nat) : ∀ (k i : Nat) (n : Int), i + d = l.length → 2 * d + 6 < k → 0 ≤ n → n ≤ 2147483647 →
    bautaref27_Add.l1 k l n 0 (i : Int) = some ((l.drop i).foldl (fun p n => wi p (ck n) false) (n, 0)) := by
  have stuck : ∀ (r : List Int), r.foldl (fun p n => wi p (ck n) false) ((0, 150) : Int × Int) = (0, 150) := by
    intro r
    induction r with
    | nil => rfl
    | cons x r ih => rw [List.foldl_cons, show wi (0, 150) (ck x) false = (0, 150) from rfl]; exact ih
  induction d with
  | zero =>
    intro k i n hi hk h0 h1
    obtain ⟨k, rfl⟩ : ∃ q, k = q + 2 := ⟨k - 2, by omega⟩
    simp only [bautaref27_Add.l1, bautaref27_Add.j2]
    rw [if_neg (by omega), if_neg (by decide), List.drop_of_length_le (by omega)]; rfl
  | succ d ih =>
    intro k i n hi hk h0 h1
    obtain ⟨k, rfl⟩ : ∃ q, k = q + 2 := ⟨k - 2, by omega⟩
    have hw : wrap64 ((i : Int) + 1) = ((i + 1 : Nat) : Int) := w64 (by omega) (by omega)
    have hx := hnn i (by omega)
    have q1 : (i : Int) < (l.length : Int) := by omega
    have q2 : (0 : Int) ≤ (i : Int) := by omega
    simp only [bautaref27_Add.l1, bautaref27_Add.j2]
    rw [if_pos q1, if_pos (show ((0 : Int) == 0) = true from rfl), if_pos q2, if_pos q1, rd_at, hw, dropI l i (by omega), List.foldl_cons, show wrap64 (2147483647 - n) = 2147483647 - n from w64 (by omega) (by omega)]
    generalize l.getD i 0 = x at hx
    by_cases a : x > 2147483647 - n
    · rw [if_pos a, add_stuck l d k (i + 1) (by omega) (by omega)]
      have : wi (n, 0) (ck x) false = (0, 150) := by
        unfold ck
        rw [if_neg (by omega)]
        by_cases b : x > 2147483647
        · rw [if_pos b]; rfl
        · rw [if_neg b]
          unfold wi
          rw [if_pos rfl, if_pos rfl, if_neg (by decide), w64 (by simp only; omega) (by simp only; omega)]
          unfold ck
          rw [if_neg (by simp only; omega), if_pos (by simp only; omega)]
      rw [this, stuck]
    · have : wi (n, 0) (ck x) false = (n + x, 0) := by
        unfold ck
        rw [if_neg (by omega), if_neg (by omega)]
        unfold wi
        rw [if_pos rfl, if_pos rfl, if_neg (by decide), w64 (by simp only; omega) (by simp only; omega)]
        unfold ck
        rw [if_neg (by simp only; omega), if_neg (by simp only; omega)]
      rw [if_neg a, this, w64 (by omega) (by omega), ih k (i + 1) _ (by omega) (by omega) (by omega) (by omega)]
theorem add_l0 (l : List Int) (hl : l.length < 1000) (d : Nat) : ∀ (k i : Nat) (n e : Int), i + d = l.length → d < k →
    bautaref27_Add.l0 k l n e (i : Int) = if (l.drop i).any (· < 0) then some (0, 1) else bautaref27_Add.l1 (k - 1 - d) l n e 0 := by
  induction d with
  | zero =>
    intro k i n e hi hk
    obtain ⟨k, rfl⟩ : ∃ q, k = q + 1 := ⟨k - 1, by omega⟩
    simp only [bautaref27_Add.l0]
    rw [if_neg (by omega), List.drop_of_length_le (by omega)]; rfl
  | succ d ih =>
    intro k i n e hi hk
    obtain ⟨k, rfl⟩ : ∃ q, k = q + 1 := ⟨k - 1, by omega⟩
    have hw : wrap64 ((i : Int) + 1) = ((i + 1 : Nat) : Int) := w64 (by omega) (by omega)
    simp only [bautaref27_Add.l0]
    rw [if_pos (by omega), if_pos (by omega), rd_at, hw, ih k (i + 1) n e (by omega) (by omega), dropI l i (by omega), List.any_cons]
    by_cases h : l.getD i 0 < 0
    · rw [if_pos h, decide_eq_true h, Bool.true_or, if_pos rfl]
    · rw [if_neg h, decide_eq_false h, Bool.false_or, show k + 1 - 1 - (d + 1) = k - 1 - d by omega]
theorem refadd_f (k : Nat) (l : List Int) (hl : l.length < 1000) (hk : 3 * l.length + 15 < k) : bautaref27_Add.f k l = some (fo false 0 l) := by
  unfold bautaref27_Add.f fo
  have h0 := add_l0 l hl l.length k 0 0 0 (by omega) (by omega)
  rw [show ((0 : Nat) : Int) = 0 from rfl] at h0
  rw [h0, List.drop_zero]
  cases h : l.any (· < 0) with
  | true => rfl
  | false =>
    have h1 := add_l1 l hl (any_false h) l.length (k - 1 - l.length) 0 0 (by omega) (by omega) (by omega) (by omega)
    rw [show ((0 : Nat) : Int) = 0 from rfl, List.drop_zero] at h1
    rw [if_neg (by decide), if_neg (by decide), h1]

theorem ck_of {n : Int} (h0 : 0 ≤ n) (h1 : n ≤ 2147483647) : ck n = (n, 0) := by unfold ck; rw [if_neg (by omega), if_neg (by omega)]
theorem wi_mul {n x : Int} (h0 : 0 ≤ n) (h1 : n ≤ 2147483647) (g0 : 0 ≤ x) (g1 : x ≤ 2147483647) : wi (n, 0) (x, 0) true = ck (n * x) := by
  unfold wi; rw [if_pos rfl, if_pos rfl, if_pos rfl, mul_wrap h0 h1 g0 g1]
theorem wi_add {n x : Int} (h0 : 0 ≤ n) (h1 : n ≤ 2147483647) (g0 : 0 ≤ x) (g1 : x ≤ 2147483647) : wi (n, 0) (x, 0) false = ck (n + x) := by
  unfold wi; rw [if_pos rfl, if_pos rfl, if_neg (by decide)]; simp only; rw [w64 (by omega) (by omega)]
theorem wi_bad (q : Int × Int) (t : Bool) : wi (0, 150) q t = (0, 150) := rfl
theorem wi_bad2 (n m : Int) (t : Bool) : wi (n, 0) (m, 150) t = (m, 150) := rfl
theorem any_two {x y : Int} (h0 : 0 ≤ x) (h1 : 0 ≤ y) : ([x, y] : List Int).any (· < 0) = false := by
  simp; omega
theorem any_three {x y z : Int} (h0 : 0 ≤ x) (h1 : 0 ≤ y) (h2 : 0 ≤ z) : ([x, y, z] : List Int).any (· < 0) = false := by
  simp; omega
theorem fo_mul {n x : Int} (h0 : 0 ≤ n) (h1 : n ≤ 2147483647) (g0 : 0 ≤ x) (g1 : x ≤ 2147483647) : fo true 1 [n, x] = ck (n * x) := by
  unfold fo
  rw [any_two h0 g0, if_neg (by decide)]
  simp only [List.foldl]
  rw [ck_of h0 h1, wi_mul (by decide) (by decide) h0 h1, Int.one_mul, ck_of h0 h1, ck_of g0 g1, wi_mul h0 h1 g0 g1]
theorem fo_add {n x : Int} (h0 : 0 ≤ n) (h1 : n ≤ 2147483647) (g0 : 0 ≤ x) (g1 : x ≤ 2147483647) : fo false 0 [n, x] = ck (n + x) := by
  unfold fo
  rw [any_two h0 g0, if_neg (by decide)]
  simp only [List.foldl]
  rw [ck_of h0 h1, wi_add (by decide) (by decide) h0 h1, Int.zero_add, ck_of h0 h1, ck_of g0 g1, wi_add h0 h1 g0 g1]
theorem fo_fine (t : Bool) (first : Int) (l : List Int) (h : l.any (· < 0) = false) (h0 : 0 ≤ first) (h1 : first ≤ 2147483647) : Fine (fo t first l) := by
  unfold fo
  rw [h, if_neg (by decide)]
  exact fold_fine t l _ (.inl ⟨rfl, h0, h1⟩) h
theorem ans_fine {p : Int × Int} (h : Fine p) : (if p.2 = 0 then (p.1, 0) else (0, p.2)) = p := by
  obtain ⟨a, b⟩ := p
  rcases h with ⟨h1, _, _⟩ | ⟨h1, h2⟩
  · simp only at h1; subst h1; rfl
  · simp only at h1 h2; subst h1; subst h2; rfl
theorem order_some (d : Int) : (d < 1 ∧ bautaref27_Order.f d = some 140) ∨ (6 < d ∧ bautaref27_Order.f d = some 150) ∨ (1 ≤ d ∧ d ≤ 6 ∧ bautaref27_Order.f d = some 0) := by
  unfold bautaref27_Order.f
  by_cases a : d < 1
  · exact .inl ⟨a, by rw [if_pos a]⟩
  · by_cases b : d > 6
    · exact .inr (.inl ⟨b, by rw [if_neg a, if_pos b]⟩)
    · exact .inr (.inr ⟨by omega, by omega, by rw [if_neg a, if_neg b]⟩)
theorem order_f (d : Int) : limits_order.f d = bautaref27_Order.f d := rfl
theorem lives_k {k : Nat} (h : 100 ≤ k) : bautalaw27_lives.f k = some true := by
  induction k with
  | zero => omega
  | succ k ih =>
    rcases Nat.lt_or_ge k 100 with h' | h'
    · obtain rfl : k = 99 := by omega
      decide +kernel
    · exact bautalaw27_lives.mono k _ (ih h')
end Go.Proofs.Ytekddhlnpjjlhaa.B
