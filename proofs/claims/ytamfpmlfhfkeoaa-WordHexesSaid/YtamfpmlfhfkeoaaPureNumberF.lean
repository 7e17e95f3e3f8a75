/- What word.Number and the reference's Number come to: the same, for any text. Plain Lean. -/
import Derived.Test.YtamfpmlfhfkeoaaWordPure
import Derived.Test.YtamfpmlfhfkeoaaPAllx6
namespace Go.Proofs.Ytamfpmlfhfkeoaa.B
open Go.RowKit Go.Proofs.Ytamfpmlfhfkeoaa.PAll Go.Proofs.YtamfpmlfhfkeoaaW.PrintWords Go.Proofs.YtamfpmlfhfkeoaaW.PrintLast Go.Proofs.YtamfpmlfhfkeoaaW.PrintMore

/-- A digit's worth; 99: none. -/
def dig (c : Int) : Int := if 48 ≤ c ∧ c ≤ 57 then c - 48 else if 97 ≤ c ∧ c ≤ 102 then c - 87 else if 65 ≤ c ∧ c ≤ 70 then c - 55 else 99
theorem dig_range (c : Int) : 0 ≤ dig c ∧ dig c ≤ 99 := by unfold dig; split <;> (try split) <;> (try split) <;> omega
theorem digit_f (k : Nat) (hk : 5 < k) (c base : Int) (h0 : 0 ≤ c) (h1 : c ≤ 255) : word_digit.f k c base = some (dig c, decide (dig c < base)) := by
  obtain ⟨k, rfl⟩ : ∃ m, k = m + 2 := ⟨k - 2, by omega⟩
  unfold word_digit.f
  simp only [word_digit.j0, word_digit.j1]
  by_cases a : 48 ≤ c
  · rw [if_pos (show c ≥ 48 from a)]
    by_cases b : c ≤ 57
    · have e : dig c = c - 48 := by unfold dig; rw [if_pos ⟨a, b⟩]
      rw [if_pos (by simpa using b), e, show (c - 48) % 256 = c - 48 by omega]
    · rw [if_neg (by simpa using b)]
      by_cases c1 : 97 ≤ c
      · rw [if_pos (show c ≥ 97 from c1)]
        by_cases c2 : c ≤ 102
        · have e : dig c = c - 87 := by unfold dig; rw [if_neg (by omega), if_pos ⟨c1, c2⟩]
          rw [if_pos (by simpa using c2), e, show (c - 97) % 256 + 10 = c - 87 by omega]
        · have e : dig c = 99 := by unfold dig; rw [if_neg (by omega), if_neg (by omega), if_neg (by omega)]
          rw [if_neg (by simpa using c2), if_pos (by omega), if_neg (by omega), e]
      · rw [if_neg (show ¬ c ≥ 97 from c1), if_neg (by decide)]
        by_cases c3 : 65 ≤ c
        · rw [if_pos (show c ≥ 65 from c3)]
          by_cases c4 : c ≤ 70
          · have e : dig c = c - 55 := by unfold dig; rw [if_neg (by omega), if_neg (by omega), if_pos ⟨c3, c4⟩]
            rw [if_pos c4, e, show (c - 65) % 256 + 10 = c - 55 by omega]
          · have e : dig c = 99 := by unfold dig; rw [if_neg (by omega), if_neg (by omega), if_neg (by omega)]
            rw [if_neg c4, e]
        · have e : dig c = 99 := by unfold dig; rw [if_neg (by omega), if_neg (by omega), if_neg (by omega)]
          rw [if_neg (show ¬ c ≥ 65 from c3), e]
  · have e : dig c = 99 := by unfold dig; rw [if_neg (by omega), if_neg (by omega), if_neg (by omega)]
    rw [if_neg (show ¬ c ≥ 48 from a), if_neg (by decide), if_neg (by omega), if_neg (by decide), if_neg (by omega), e]

/-- The digits of the reference. -/
def lits : ByteArray := ⟨#[48, 49, 50, 51, 52, 53, 54, 55, 56, 57, 97, 98, 99, 100, 101, 102, 65, 66, 67, 68, 69, 70]⟩
/-- What the reference's search has found by place j. -/
def fnd (c : Int) : Nat → Int
  | 0 => 99
  | j + 1 => if bt lits (j : Int) = c then (if 15 < j then (j : Int) - 6 else (j : Int)) else fnd c j
theorem fnd_dig (c : Int) (h0 : 0 ≤ c) (h1 : c ≤ 255) : fnd c 22 = dig c := by
  have h : ∀ n : Fin 256, fnd (n.val : Int) 22 = dig (n.val : Int) := by decide +kernel
  have := h ⟨c.toNat, by omega⟩
  simpa [Int.toNat_of_nonneg h0] using this
theorem fnd_range (c : Int) (j : Nat) (hj : j ≤ 22) : 0 ≤ fnd c j ∧ fnd c j ≤ 99 := by
  induction j with
  | zero => simp [fnd]
  | succ j ih =>
    have := ih (by omega)
    simp only [fnd]
    split
    · split <;> omega
    · exact this

/-- The number so far, and whether it is too long: what both reckon, with what each writes for 'too long'. -/
theorem search (s : ByteArray) (base at_ n : Int) (long : Bool) (i : Nat) (hi : i < s.size) (d : Nat) : ∀ (k j : Nat), j + d = 22 → d < k →
    bautaref01_Number.l1 k s base at_ n long lits (i : Int) (fnd (bt s (i : Int)) j) (j : Int) =
      (if dig (bt s (i : Int)) ≥ base then some (0, 4) else if IntKind.u64.wrap (IntKind.u64.wrap (n * base) + dig (bt s (i : Int))) > 4294967295 then bautaref01_Number.l0 (k - 1 - d) s base at_ 4294967296 true lits (wrap64 ((i : Int) + 1))
        else bautaref01_Number.l0 (k - 1 - d) s base at_ (IntKind.u64.wrap (IntKind.u64.wrap (n * base) + dig (bt s (i : Int)))) long lits (wrap64 ((i : Int) + 1))) := by
  have hr := bt_range s (i : Int)
  induction d with
  | zero =>
    intro k j hj hk
    obtain rfl : j = 22 := by omega
    obtain ⟨k, rfl⟩ : ∃ m, k = m + 1 := ⟨k - 1, by omega⟩
    simp only [bautaref01_Number.l1]
    rw [if_neg (show ¬ ((22 : Nat) : Int) < (lits.size : Int) by decide), fnd_dig _ hr.1 hr.2]; rfl
  | succ d ih =>
    intro k j hj hk
    obtain ⟨k, rfl⟩ : ∃ m, k = m + 1 := ⟨k - 1, by omega⟩
    have hk' : k + 1 - 1 - (d + 1) = k - 1 - d := by omega
    have step := ih k (j + 1) (by omega) (by omega)
    simp only [fnd] at step
    have hsz : (lits.size : Int) = 22 := rfl
    have hw : wrap64 ((j : Int) + 1) = ((j + 1 : Nat) : Int) := w64 (by omega) (by omega)
    rw [hk']
    simp only [bautaref01_Number.l1]
    rw [hsz, if_pos (by omega), if_pos (by omega), if_pos (by omega), if_pos (by omega), hw]
    by_cases e : bt lits (j : Int) = bt s (i : Int)
    · rw [if_pos e] at step ⊢
      by_cases e2 : 15 < j
      · rw [if_pos e2] at step
        rw [if_pos (by omega), show IntKind.u64.wrap (IntKind.u64.wrap (j : Int) - 6) = (j : Int) - 6 by simp only [wrap_u64]; omega]
        exact step
      · rw [if_neg e2] at step
        rw [if_neg (by omega), show IntKind.u64.wrap (j : Int) = (j : Int) by rw [wrap_u64]; omega]
        exact step
    · rw [if_neg e] at step ⊢
      exact step

/-- Both loops, side by side. 't' is the text behind the prefix, 'p' where it begins. -/
theorem both (s t : ByteArray) (base : Int) (p : Nat) (hb : base = 10 ∨ base = 16) (hs : s.size ≤ 400) (ht : t.size + p = s.size) (hbt : ∀ i : Nat, i < t.size → bt t (i : Int) = bt s ((i + p : Nat) : Int)) (he : t.toList = ([] : List UInt8) ↔ t.size = 0)
    (d : Nat) : ∀ (k k' i : Nat) (n m : Int) (long : Bool), i + d = t.size → d + 10 < k → 30 * d + 30 < k' → 0 ≤ n → n ≤ 4294967295 → (long = false → m = n) → 0 ≤ m → m ≤ 4294967296 →
    ∃ r, word_Number.l0 k t base n long (t.size : Int) (i : Int) = some r ∧ bautaref01_Number.l0 k' s base (p : Int) m long lits ((i + p : Nat) : Int) = some r := by
  induction d with
  | zero =>
    intro k k' i n m long hi hk hk' h0 h1 hm m0 m1
    obtain ⟨k, rfl⟩ : ∃ q, k = q + 1 := ⟨k - 1, by omega⟩
    obtain ⟨k', rfl⟩ : ∃ q, k' = q + 1 := ⟨k' - 1, by omega⟩
    simp only [word_Number.l0, bautaref01_Number.l0]
    rw [if_neg (by omega), if_neg (show ¬ ((i + p : Nat) : Int) < (s.size : Int) by omega)]
    by_cases h : t.size = 0
    · rw [if_pos (he.mpr h), if_pos (show (p : Int) = (s.size : Int) by omega)]
      exact ⟨_, rfl, rfl⟩
    · rw [if_neg (fun x => h (he.mp x)), if_neg (show ¬ (p : Int) = (s.size : Int) by omega)]
      cases long with
      | true => exact ⟨_, rfl, rfl⟩
      | false =>
        obtain rfl := hm rfl
        exact ⟨_, rfl, rfl⟩
  | succ d ih =>
    intro k k' i n m long hi hk hk' h0 h1 hm m0 m1
    obtain ⟨k, rfl⟩ : ∃ q, k = q + 1 := ⟨k - 1, by omega⟩
    obtain ⟨k', rfl⟩ : ∃ q, k' = q + 1 := ⟨k' - 1, by omega⟩
    have q1 : (i : Int) < (t.size : Int) := by omega
    have hw1 : wrap64 ((i : Int) + 1) = ((i + 1 : Nat) : Int) := w64 (by omega) (by omega)
    have hw2 : wrap64 (((i + p : Nat) : Int) + 1) = ((i + 1 + p : Nat) : Int) := (w64 (by omega) (by omega)).trans (by omega)
    have q2 : ((i + p : Nat) : Int) < (s.size : Int) := by omega
    have q3 : (0 : Int) ≤ (i : Int) := by omega
    have sr := search s base (p : Int) m long (i + p) (by omega) 22 k' 0 rfl (by omega)
    have eb := hbt i (by omega)
    have hk5 : 5 < k := by omega
    have hr := bt_range s ((i + p : Nat) : Int)
    simp only [word_Number.l0, bautaref01_Number.l0]
    rw [if_pos q1, if_pos q3, if_pos q1, eb, digit_f k hk5 _ _ hr.1 hr.2, Option.bind_some, if_pos q2]
    rw [show fnd (bt s ((i + p : Nat) : Int)) 0 = 99 from rfl, show ((0 : Nat) : Int) = 0 from rfl] at sr
    rw [sr]
    clear sr hr eb
    have hd := dig_range (bt s ((i + p : Nat) : Int))
    revert hd
    generalize dig (bt s ((i + p : Nat) : Int)) = c
    intro hd
    by_cases hc : c < base
    · rw [if_pos (decide_eq_true hc), if_neg (show ¬ c ≥ base by omega), hw1, hw2]
      have e1 : IntKind.u64.wrap (IntKind.u64.wrap (n * base) + c) = n * base + c := by
        simp only [wrap_u64]; rcases hb with rfl | rfl <;> omega
      have e2 : IntKind.u64.wrap (IntKind.u64.wrap (m * base) + c) = m * base + c := by
        simp only [wrap_u64]; rcases hb with rfl | rfl <;> omega
      rw [e1, e2]
      have g0 : 0 ≤ n * base + c := by rcases hb with rfl | rfl <;> omega
      have g1 : 0 ≤ m * base + c := by rcases hb with rfl | rfl <;> omega
      by_cases a1 : n * base + c > 4294967295
      · rw [if_pos a1]
        by_cases a2 : m * base + c > 4294967295
        · rw [if_pos a2]
          exact ih k (k' - 1 - 22) (i + 1) 4294967295 4294967296 true (by omega) (by omega) (by omega) (by omega) (by omega) (fun h => by cases h) (by omega) (by omega)
        · rw [if_neg a2]
          cases long with
          | true => exact ih k (k' - 1 - 22) (i + 1) 4294967295 (m * base + c) true (by omega) (by omega) (by omega) (by omega) (by omega) (fun h => by cases h) g1 (by omega)
          | false => rw [hm rfl] at a2; exact absurd a1 a2
      · rw [if_neg a1]
        by_cases a2 : m * base + c > 4294967295
        · rw [if_pos a2]
          cases long with
          | true => exact ih k (k' - 1 - 22) (i + 1) (n * base + c) 4294967296 true (by omega) (by omega) (by omega) g0 (by omega) (fun h => by cases h) (by omega) (by omega)
          | false => rw [hm rfl] at a2; exact absurd a2 a1
        · rw [if_neg a2]
          exact ih k (k' - 1 - 22) (i + 1) (n * base + c) (m * base + c) long (by omega) (by omega) (by omega) g0 (by omega) (fun h => by rw [hm h]) g1 (by omega)
    · rw [if_neg (by simpa using hc), if_pos (show c ≥ base by omega)]
      exact ⟨_, rfl, rfl⟩
end Go.Proofs.Ytamfpmlfhfkeoaa.B
