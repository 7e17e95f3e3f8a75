/- StatsAdds: how a run is added, or why it can't be, and any leaks' weights, are what the reference says. Plain Lean. -/
import Derived.Test.YtbohanoekboifaaTA
namespace Go.Proofs.Ytbohanoekboifaa.Pure
open Go.RowKit Go.Proofs.Ytbohanoekboifaa.PG3 Go.Proofs.YtbohanoekboifaaW.PrintWords Go.Proofs.YtbohanoekboifaaW.PrintLast Go.Proofs.YtbohanoekboifaaW.PrintMore
set_option linter.unusedVariables false

theorem w64 {i : Int} (h : -9000000000000000000 ≤ i) (h' : i ≤ 9000000000000000000) : wrap64 i = i := by unfold wrap64; omega
theorem rd_at (l : List Int) (i : Nat) : rd l (i : Int) = l.getD i 0 := by simp [rd]
theorem own_f (a : Int) (l m : List Int) (hl : l.length < 1000000) (hm : m.length < 1000000) : bautalaw39_own.f a l m = some (a, l, m) := by
  unfold bautalaw39_own.f
  rw [Option.bind_some, List.length_nil, if_pos (by omega), Option.bind_some, List.length_nil, if_pos (by omega)]; rfl
theorem len_take (l : List Int) : (l.take 100).length ≤ 100 := by rw [List.length_take]; omega
theorem small_f (a : Int) (l m : List Int) : bautalaw39_small.f a l m = some (a, l.take 100, m.take 100) := by
  unfold bautalaw39_small.f
  have h1 := len_take l
  have h2 := len_take m
  by_cases c1 : (l.length : Int) > 100
  · rw [if_pos c1, if_pos (by omega)]
    by_cases c2 : (m.length : Int) > 100
    · rw [if_pos c2, if_pos (by omega), own_f _ _ _ (by omega) (by omega)]; rfl
    · rw [if_neg c2, own_f _ _ _ (by omega) (by omega), List.take_of_length_le (l := m) (by omega)]; rfl
  · rw [if_neg c1, List.take_of_length_le (l := l) (by omega)]
    by_cases c2 : (m.length : Int) > 100
    · rw [if_pos c2, if_pos (by omega), own_f _ _ _ (by omega) (by omega)]; rfl
    · rw [if_neg c2, own_f _ _ _ (by omega) (by omega), List.take_of_length_le (l := m) (by omega)]; rfl

theorem within_l0 (c : Int) (l : List Int) (hl : l.length < 17592186044416) (d : Nat) : ∀ (k i : Nat), i + d = l.length → d < k →
    ∃ t, stats_within.l0 k c l (i : Int) = some t ∧ (t ≥ 0 ↔ ∃ j, i ≤ j ∧ j < l.length ∧ (l.getD j 0 < 0 ∨ l.getD j 0 > c)) := by
  induction d with
  | zero =>
    intro k i hi hk
    obtain ⟨k, rfl⟩ : ∃ q, k = q + 1 := ⟨k - 1, by omega⟩
    refine ⟨-1, ?_, ⟨fun h => absurd h (by decide), fun ⟨j, h1, h2, _⟩ => by omega⟩⟩
    simp only [stats_within.l0]
    rw [if_neg (by omega)]
  | succ d ih =>
    intro k i hi hk
    obtain ⟨k, rfl⟩ : ∃ q, k = q + 1 := ⟨k - 1, by omega⟩
    simp only [stats_within.l0]
    rw [if_pos (by omega), if_pos (by omega), rd_at]
    by_cases c1 : l.getD i 0 < 0 ∨ l.getD i 0 > c
    · refine ⟨i, ?_, ⟨fun _ => ⟨i, Nat.le_refl _, by omega, c1⟩, fun _ => by omega⟩⟩
      rw [if_pos (by simpa using c1)]
    · obtain ⟨t, h1, h2⟩ := ih k (i + 1) (by omega) (by omega)
      refine ⟨t, ?_, ?_⟩
      · rw [if_neg (by simpa using c1), show wrap64 ((i : Int) + 1) = ((i + 1 : Nat) : Int) from w64 (by omega) (by omega)]; exact h1
      · rw [h2]
        constructor
        · rintro ⟨j, a1, a2, a3⟩; exact ⟨j, by omega, a2, a3⟩
        · rintro ⟨j, a1, a2, a3⟩
          rcases Nat.lt_or_ge i j with h | h
          · exact ⟨j, h, a2, a3⟩
          · obtain rfl : j = i := by omega
            exact absurd a3 c1
/-- All lie from 0 to a bound. -/
def Wi (l : List Int) (c : Int) : Prop := ∀ j, j < l.length → 0 ≤ l.getD j 0 ∧ l.getD j 0 ≤ c
theorem within_f (k : Nat) (l : List Int) (c : Int) (hl : l.length < 17592186044416) (hk : l.length < k) : ∃ b, stats_within.f k l c = some b ∧ (b = true ↔ Wi l c) := by
  obtain ⟨t, h1, h2⟩ := within_l0 c l hl l.length k 0 (by omega) hk
  refine ⟨!(decide (t ≥ 0)), ?_, ?_⟩
  · unfold stats_within.f
    have h1' : stats_within.l0 k c l 0 = some t := h1
    rw [h1', Option.bind_some]
  · by_cases ht : t ≥ 0
    · rw [decide_eq_true ht]
      obtain ⟨j, _, a2, a3⟩ := h2.mp ht
      refine ⟨fun h => absurd h (by decide), fun h => ?_⟩
      have := h j a2
      omega
    · rw [decide_eq_false ht]
      refine ⟨fun _ j hj => ?_, fun _ => rfl⟩
      by_cases c1 : l.getD j 0 < 0 ∨ l.getD j 0 > c
      · exact absurd (h2.mpr ⟨j, Nat.zero_le _, hj, c1⟩) ht
      · omega
/-- What are moments. -/
def CanP (a : Int) (l m : List Int) : Prop := 0 ≤ a ∧ a ≤ 500 ∧ l.length = m.length ∧ Wi l (32 * a) ∧ Wi m (1024 * a)
theorem can_f (k : Nat) (a : Int) (l m : List Int) (hl : l.length ≤ 100) (hm : m.length ≤ 100) (hk : 200 ≤ k) : ∃ b, stats_can.f k a l m = some b ∧ (b = true ↔ CanP a l m) := by
  unfold stats_can.f CanP
  by_cases c1 : a ≥ 0
  · by_cases c2 : a ≤ 500
    · by_cases c3 : (l.length : Int) = (m.length : Int)
      · rw [if_pos c1, if_pos c2, if_pos c3, if_pos (by omega), w64 (i := 32 * a) (by omega) (by omega), w64 (i := 1024 * a) (by omega) (by omega)]
        obtain ⟨b, h1, h2⟩ := within_f k l (32 * a) (by omega) (by omega)
        obtain ⟨b', h1', h2'⟩ := within_f k m (1024 * a) (by omega) (by omega)
        rw [h1, Option.bind_some]
        cases b with
        | false => exact ⟨false, by rw [if_neg (by decide)], ⟨fun h => absurd h (by decide), fun h => h2.mpr h.2.2.2.1⟩⟩
        | true => exact ⟨b', by rw [if_pos rfl, h1', Option.bind_some], by rw [h2']; exact ⟨fun h => ⟨c1, c2, by omega, h2.mp rfl, h⟩, fun h => h.2.2.2.2⟩⟩
      · exact ⟨false, by rw [if_pos c1, if_pos c2, if_neg c3], ⟨fun h => absurd h (by decide), fun h => absurd h.2.2.1 (by omega)⟩⟩
    · exact ⟨false, by rw [if_pos c1, if_neg c2], ⟨fun h => absurd h (by decide), fun h => absurd h.2.1 (by omega)⟩⟩
  · exact ⟨false, by rw [if_neg c1], ⟨fun h => absurd h (by decide), fun h => absurd h.1 (by omega)⟩⟩
theorem refcan_l0 (a : Int) (l m : List Int) (ha : 0 ≤ a) (ha' : a ≤ 500) (hlm : l.length = m.length) (hl : l.length ≤ 100) (d : Nat) : ∀ (k i : Nat), i + d = l.length → d < k →
    ∃ b, bautaref39_Can.l0 k (i : Int) a l m = some b ∧ (b = true ↔ ∀ j, i ≤ j → j < l.length → (0 ≤ l.getD j 0 ∧ l.getD j 0 ≤ 32 * a) ∧ (0 ≤ m.getD j 0 ∧ m.getD j 0 ≤ 1024 * a)) := by
  induction d with
  | zero =>
    intro k i hi hk
    obtain ⟨k, rfl⟩ : ∃ q, k = q + 1 := ⟨k - 1, by omega⟩
    refine ⟨true, ?_, ⟨fun _ j h1 h2 => by omega, fun _ => rfl⟩⟩
    simp only [bautaref39_Can.l0]
    rw [if_neg (by omega)]
  | succ d ih =>
    intro k i hi hk
    obtain ⟨k, rfl⟩ : ∃ q, k = q + 1 := ⟨k - 1, by omega⟩
    simp only [bautaref39_Can.l0]
    rw [if_pos (by omega), if_pos (by omega), rd_at, rd_at, w64 (i := 32 * a) (by omega) (by omega), w64 (i := 1024 * a) (by omega) (by omega)]
    have bad : ¬ ((0 ≤ l.getD i 0 ∧ l.getD i 0 ≤ 32 * a) ∧ (0 ≤ m.getD i 0 ∧ m.getD i 0 ≤ 1024 * a)) → (false = true ↔ ∀ j, i ≤ j → j < l.length → (0 ≤ l.getD j 0 ∧ l.getD j 0 ≤ 32 * a) ∧ (0 ≤ m.getD j 0 ∧ m.getD j 0 ≤ 1024 * a)) :=
      fun hn => ⟨fun h => absurd h (by decide), fun h => absurd (h i (Nat.le_refl _) (by omega)) hn⟩
    by_cases c1 : l.getD i 0 < 0
    · exact ⟨false, by rw [if_pos c1], bad (by omega)⟩
    · by_cases c2 : l.getD i 0 > 32 * a
      · exact ⟨false, by rw [if_neg c1, if_pos c2], bad (by omega)⟩
      · by_cases c3 : m.getD i 0 < 0
        · exact ⟨false, by rw [if_neg c1, if_neg c2, if_pos (by omega), if_pos c3], bad (by omega)⟩
        · by_cases c4 : m.getD i 0 > 1024 * a
          · exact ⟨false, by rw [if_neg c1, if_neg c2, if_pos (by omega), if_neg c3, if_pos c4], bad (by omega)⟩
          · obtain ⟨b, h1, h2⟩ := ih k (i + 1) (by omega) (by omega)
            refine ⟨b, by rw [if_neg c1, if_neg c2, if_pos (by omega), if_neg c3, if_neg c4, show wrap64 ((i : Int) + 1) = ((i + 1 : Nat) : Int) from w64 (by omega) (by omega)]; exact h1, ?_⟩
            rw [h2]
            constructor
            · intro h j a1 a2
              rcases Nat.lt_or_ge i j with h' | h'
              · exact h j h' a2
              · obtain rfl : j = i := by omega
                omega
            · intro h j a1 a2; exact h j (by omega) a2
theorem refcan_f (k : Nat) (a : Int) (l m : List Int) (hl : l.length ≤ 100) (hm : m.length ≤ 100) (hk : 200 ≤ k) : ∃ b, bautaref39_Can.f k a l m = some b ∧ (b = true ↔ CanP a l m) := by
  obtain ⟨k, rfl⟩ : ∃ q, k = q + 1 := ⟨k - 1, by omega⟩
  have no : bautaref39_Can.j0 (k + 1) true a l m = some false := by simp only [bautaref39_Can.j0]; rw [if_pos trivial]
  unfold bautaref39_Can.f CanP
  by_cases c1 : a < 0
  · exact ⟨false, by rw [if_pos c1, no], ⟨fun h => absurd h (by decide), fun h => absurd h.1 (by omega)⟩⟩
  · by_cases c2 : a > 500
    · exact ⟨false, by rw [if_neg c1, if_pos c2, no], ⟨fun h => absurd h (by decide), fun h => absurd h.2.1 (by omega)⟩⟩
    · by_cases c3 : (l.length : Int) = (m.length : Int)
      · obtain ⟨b, h1, h2⟩ := refcan_l0 a l m (by omega) (by omega) (by omega) hl l.length k 0 (by omega) (by omega)
        have h1' : bautaref39_Can.l0 k 0 a l m = some b := h1
        refine ⟨b, ?_, ?_⟩
        · rw [if_neg c1, if_neg c2, if_pos c3, decide_eq_false (by omega)]
          simp only [bautaref39_Can.j0]
          rw [if_neg (by decide)]; exact h1'
        · rw [h2]
          constructor
          · intro h; exact ⟨by omega, by omega, by omega, fun j hj => (h j (Nat.zero_le _) hj).1, fun j hj => (h j (Nat.zero_le _) (by omega)).2⟩
          · intro h j _ hj; exact ⟨h.2.2.2.1 j hj, h.2.2.2.2 j (by omega)⟩
      · exact ⟨false, by rw [if_neg c1, if_neg c2, if_neg c3, no], ⟨fun h => absurd h (by decide), fun h => absurd h.2.2.1 (by omega)⟩⟩
theorem ofInt_u32 (a : Nat) (ha : a < 4294967296) : (BitVec.ofInt 32 (a : Int)).toNat = a := by
  rw [BitVec.ofInt_natCast, BitVec.toNat_ofNat]; exact Nat.mod_eq_of_lt (by omega)
theorem wrap_u32 (n : Int) : IntKind.u32.wrap n = n % 4294967296 := by simp [IntKind.wrap, IntKind.bits, IntKind.signed]
theorem and_lt {a b : Nat} (hb : b < 4294967296) : a &&& b < 4294967296 := Nat.and_lt_two_pow (n := 32) a hb
theorem and_u32 (a b : Nat) (ha : a < 4294967296) (hb : b < 4294967296) : Go.bits .and .u32 (a : Int) (b : Int) = ((a &&& b : Nat) : Int) := by
  have hx := and_lt (a := a) hb
  show IntKind.u32.wrap ((BitVec.ofInt 32 (a : Int) &&& BitVec.ofInt 32 (b : Int)).toNat : Int) = _
  rw [BitVec.toNat_and, ofInt_u32 a ha, ofInt_u32 b hb, wrap_u32]
  omega
theorem and255 (n : Nat) : n &&& 255 = n % 256 := Nat.and_two_pow_sub_one_eq_mod n 8
def bitsOf (a : Nat) : List Bool := (List.range 32).map a.testBit
theorem bitsOf_length (a : Nat) : (bitsOf a).length = 32 := by simp [bitsOf]
theorem bitsOf_at (a i : Nat) (hi : i < 32) : (bitsOf a).getD i false = a.testBit i := by
  simp [bitsOf, List.getD_eq_getElem?_getD, hi]
theorem getD_at (l : List Bool) (i : Nat) : rdOf false l (i : Int) = l.getD i false := by simp [rdOf]
theorem range_cons (n : Nat) (f : Nat → Bool) : (List.range (n + 1)).map f = f 0 :: (List.range n).map (fun j => f (j + 1)) := by
  rw [List.range_succ_eq_map, List.map_cons, List.map_map]; rfl

theorem bits_l0 (d : Nat) : ∀ (k x i : Nat) (l : List Bool), x < 4294967296 → i + d = 32 → l.length = i → d < k →
    bautaref01_Bits.l0 k (x : Int) l (i : Int) = some (l ++ (List.range d).map x.testBit) := by
  induction d with
  | zero =>
    intro k x i l hx hi hl hk
    obtain ⟨k, rfl⟩ : ∃ m, k = m + 1 := ⟨k - 1, by omega⟩
    simp only [bautaref01_Bits.l0]
    rw [if_neg (by omega)]; simp
  | succ d ih =>
    intro k x i l hx hi hl hk
    obtain ⟨k, rfl⟩ : ∃ m, k = m + 1 := ⟨k - 1, by omega⟩
    simp only [bautaref01_Bits.l0]
    have h1 : Int.tdiv (x : Int) 2 % 4294967296 = ((x / 2 : Nat) : Int) := by
      rw [Int.tdiv_eq_ediv_of_nonneg (by omega)]; omega
    have h2 : (Int.tmod (x : Int) 2 == 1) = x.testBit 0 := by
      rw [Int.tmod_eq_emod_of_nonneg (by omega), Nat.testBit_zero]
      by_cases h : x % 2 = 1
      · rw [decide_eq_true h]; exact beq_iff_eq.mpr (by omega)
      · rw [decide_eq_false h]; exact beq_eq_false_iff_ne.mpr (by omega)
    rw [if_pos (by omega), if_pos (by omega), w64 (by omega) (by omega), h1, h2, show ((i : Int) + 1) = ((i + 1 : Nat) : Int) by omega,
      ih k (x / 2) (i + 1) (l ++ [x.testBit 0]) (by omega) (by omega) (by simp [hl]) (by omega), range_cons]
    simp [Nat.testBit_div_two]
theorem bits_f (k x : Nat) (hx : x < 4294967296) (hk : 32 < k) : bautaref01_Bits.f k (x : Int) = some (bitsOf x) := by
  have := bits_l0 32 k x 0 [] hx rfl rfl hk
  simpa [bautaref01_Bits.f, bitsOf] using this

/-- The table of ones. -/
def tab : ByteArray := ⟨#[0, 1, 1, 2, 1, 2, 2, 3, 1, 2, 2, 3, 2, 3, 3, 4, 1, 2, 2, 3, 2, 3, 3, 4, 2, 3, 3, 4, 3, 4, 4, 5, 1, 2, 2, 3, 2, 3, 3, 4, 2, 3, 3, 4, 3, 4, 4, 5, 2, 3, 3, 4, 3, 4, 4, 5, 3, 4, 4, 5, 4, 5, 5, 6, 1, 2, 2, 3, 2, 3, 3, 4, 2, 3, 3, 4, 3, 4, 4, 5, 2, 3, 3, 4, 3, 4, 4, 5, 3, 4, 4, 5, 4, 5, 5, 6, 2, 3, 3, 4, 3, 4, 4, 5, 3, 4, 4, 5, 4, 5, 5, 6, 3, 4, 4, 5, 4, 5, 5, 6, 4, 5, 5, 6, 5, 6, 6, 7, 1, 2, 2, 3, 2, 3, 3, 4, 2, 3, 3, 4, 3, 4, 4, 5, 2, 3, 3, 4, 3, 4, 4, 5, 3, 4, 4, 5, 4, 5, 5, 6, 2, 3, 3, 4, 3, 4, 4, 5, 3, 4, 4, 5, 4, 5, 5, 6, 3, 4, 4, 5, 4, 5, 5, 6, 4, 5, 5, 6, 5, 6, 6, 7, 2, 3, 3, 4, 3, 4, 4, 5, 3, 4, 4, 5, 4, 5, 5, 6, 3, 4, 4, 5, 4, 5, 5, 6, 4, 5, 5, 6, 5, 6, 6, 7, 3, 4, 4, 5, 4, 5, 5, 6, 4, 5, 5, 6, 5, 6, 6, 7, 4, 5, 5, 6, 5, 6, 6, 7, 5, 6, 6, 7, 6, 7, 7, 8]⟩
theorem and255_u32 (n : Nat) (hn : n < 4294967296) : Go.bits .and .u32 (n : Int) 255 = ((n % 256 : Nat) : Int) := by
  rw [show (255 : Int) = ((255 : Nat) : Int) from rfl, and_u32 n 255 hn (by omega), and255]
theorem ones_f (a : Nat) (ha : a < 4294967296) : bits_OnesCount32.f (a : Int) = some (((((((bt tab ((a / 16777216 : Nat) : Int)) + (bt tab ((a / 65536 % 256 : Nat) : Int))) % 256) + (bt tab ((a / 256 % 256 : Nat) : Int))) % 256) + (bt tab ((a % 256 : Nat) : Int))) % 256) := by
  have e1 : (a : Int) / 16777216 = ((a / 16777216 : Nat) : Int) := by omega
  have e2 : (a : Int) / 65536 = ((a / 65536 : Nat) : Int) := by omega
  have e3 : (a : Int) / 256 = ((a / 256 : Nat) : Int) := by omega
  unfold bits_OnesCount32.f
  rw [e1, e2, e3, and255_u32 _ (by omega), and255_u32 _ (by omega), and255_u32 a ha]
  rw [if_pos (by omega), if_pos (by omega), if_pos (by omega), if_pos (by omega), if_pos (by omega), if_pos (by omega), if_pos (by omega), if_pos (by omega)]
  rfl
theorem lives_f : bautalaw39_lives.f 50 = some true := by decide +kernel
theorem lives_k {k : Nat} (h : 50 ≤ k) : bautalaw39_lives.f k = some true := by
  induction k with
  | zero => omega
  | succ k ih =>
    rcases Nat.lt_or_ge k 50 with h' | h'
    · obtain rfl : k = 49 := by omega
      exact lives_f
    · exact bautalaw39_lives.mono k _ (ih h')

/-- How many ones there are among the first bits. -/
def Cnt : Nat → (Nat → Bool) → Nat
  | 0, _ => 0
  | n + 1, f => Cnt n f + (f n).toNat
theorem Cnt_add (f : Nat → Bool) (m n : Nat) : Cnt (m + n) f = Cnt m f + Cnt n (fun i => f (m + i)) := by
  induction n with
  | zero => rfl
  | succ n ih =>
    rw [← Nat.add_assoc]
    simp only [Cnt]
    rw [ih, Nat.add_assoc]
theorem Cnt_congr {f g : Nat → Bool} (n : Nat) (h : ∀ i, i < n → f i = g i) : Cnt n f = Cnt n g := by
  induction n with
  | zero => rfl
  | succ n ih => simp only [Cnt]; rw [ih (fun i hi => h i (by omega)), h n (by omega)]
theorem Cnt_le (f : Nat → Bool) (n : Nat) : Cnt n f ≤ n := by
  induction n with
  | zero => exact Nat.le_refl _
  | succ n ih => simp only [Cnt]; have : (f n).toNat ≤ 1 := Bool.toNat_le _; omega
theorem tab_cnt : ∀ b : Fin 256, bt tab (b.val : Int) = ((Cnt 8 b.val.testBit : Nat) : Int) := by decide +kernel
theorem tab_at (b : Nat) (hb : b < 256) : bt tab (b : Int) = ((Cnt 8 b.testBit : Nat) : Int) := tab_cnt ⟨b, hb⟩
theorem ones_cnt (a : Nat) (ha : a < 4294967296) : bits_OnesCount32.f (a : Int) = some ((Cnt 32 a.testBit : Nat) : Int) := by
  rw [ones_f a ha, tab_at (a % 256) (by omega), tab_at (a / 256 % 256) (by omega), tab_at (a / 65536 % 256) (by omega), tab_at (a / 16777216) (by omega)]
  have q0 : Cnt 8 (a % 256).testBit = Cnt 8 (fun i => a.testBit i) := Cnt_congr 8 fun i hi => by
    rw [show (256 : Nat) = 2 ^ 8 from rfl, Nat.testBit_mod_two_pow, decide_eq_true hi, Bool.true_and]
  have q1 : Cnt 8 (a / 256 % 256).testBit = Cnt 8 (fun i => a.testBit (8 + i)) := Cnt_congr 8 fun i hi => by
    rw [show (256 : Nat) = 2 ^ 8 from rfl, Nat.testBit_mod_two_pow, decide_eq_true hi, Bool.true_and, Nat.testBit_div_two_pow, Nat.add_comm]
  have q2 : Cnt 8 (a / 65536 % 256).testBit = Cnt 8 (fun i => a.testBit (8 + (8 + i))) := Cnt_congr 8 fun i hi => by
    rw [show (65536 : Nat) = 2 ^ 16 from rfl, show (256 : Nat) = 2 ^ 8 from rfl, Nat.testBit_mod_two_pow, decide_eq_true hi, Bool.true_and, Nat.testBit_div_two_pow]; congr 1; omega
  have q3 : Cnt 8 (a / 16777216).testBit = Cnt 8 (fun i => a.testBit (8 + (8 + (8 + i)))) := Cnt_congr 8 fun i hi => by
    rw [show (16777216 : Nat) = 2 ^ 24 from rfl, Nat.testBit_div_two_pow]; congr 1; omega
  have hs : Cnt 32 a.testBit = Cnt 8 (a % 256).testBit + (Cnt 8 (a / 256 % 256).testBit + (Cnt 8 (a / 65536 % 256).testBit + Cnt 8 (a / 16777216).testBit)) := by
    rw [q0, q1, q2, q3, show (32 : Nat) = 8 + (8 + (8 + 8)) from rfl, Cnt_add, Cnt_add, Cnt_add]
  have l0 := Cnt_le (a % 256).testBit 8
  have l1 := Cnt_le (a / 256 % 256).testBit 8
  have l2 := Cnt_le (a / 65536 % 256).testBit 8
  have l3 := Cnt_le (a / 16777216).testBit 8
  rw [hs]
  congr 1
  omega
theorem weight_f (a : Nat) (ha : a < 4294967296) : stats_Weight.f (a : Int) = some ((Cnt 32 a.testBit : Nat) : Int) := by
  unfold stats_Weight.f
  rw [ones_cnt a ha, Option.bind_some]
theorem refweight_l0 (x : List Bool) (hx : x.length = 32) (d : Nat) : ∀ (k i : Nat), i + d = 32 → d < k →
    bautaref39_Weight.l0 k ((Cnt i (fun j => x.getD j false) : Nat) : Int) x (i : Int) = some ((Cnt 32 (fun j => x.getD j false) : Nat) : Int) := by
  induction d with
  | zero =>
    intro k i hi hk
    obtain rfl : i = 32 := by omega
    obtain ⟨k, rfl⟩ : ∃ m, k = m + 1 := ⟨k - 1, by omega⟩
    simp only [bautaref39_Weight.l0]
    rw [if_neg (by omega)]
  | succ d ih =>
    intro k i hi hk
    obtain ⟨k, rfl⟩ : ∃ m, k = m + 1 := ⟨k - 1, by omega⟩
    have hc := Cnt_le (fun j => x.getD j false) i
    have hn := ih k (i + 1) (by omega) (by omega)
    simp only [bautaref39_Weight.l0]
    rw [if_pos (by omega), if_pos (by omega), getD_at, show wrap64 ((i : Int) + 1) = ((i + 1 : Nat) : Int) from w64 (by omega) (by omega)]
    cases hb : x.getD i false with
    | true =>
      rw [if_pos rfl, w64 (by omega) (by omega)]
      rw [show Cnt (i + 1) (fun j => x.getD j false) = Cnt i (fun j => x.getD j false) + 1 by simp only [Cnt]; rw [hb]; rfl] at hn
      exact hn
    | false =>
      rw [if_neg (by decide)]
      rw [show Cnt (i + 1) (fun j => x.getD j false) = Cnt i (fun j => x.getD j false) by simp only [Cnt]; rw [hb]; rfl] at hn
      exact hn
theorem refweight_f (k a : Nat) (ha : a < 4294967296) (hk : 110 ≤ k) : bautaref39_Weight.f k (a : Int) = some ((Cnt 32 a.testBit : Nat) : Int) := by
  unfold bautaref39_Weight.f
  rw [bits_f k a ha (by omega), Option.bind_some]
  have := refweight_l0 (bitsOf a) (bitsOf_length a) 32 k 0 rfl (by omega)
  rw [Cnt_congr (g := a.testBit) 32 (fun i hi => bitsOf_at a i hi)] at this
  exact this
/-- A leak's weight. -/
def Wt (x : S42) : Int := ((Cnt 32 x.f4.toNat.testBit : Nat) : Int)
def Lk (x : S42) : Prop := 0 ≤ x.f4 ∧ x.f4 < 4294967296
theorem wt_f {x : S42} (h : Lk x) : stats_Weight.f x.f4 = some (Wt x) := by
  have := weight_f x.f4.toNat (by have := h.1; have := h.2; omega)
  rwa [Int.toNat_of_nonneg h.1] at this
theorem refwt_f {x : S42} (h : Lk x) (k : Nat) (hk : 110 ≤ k) : bautaref39_Weight.f k x.f4 = some (Wt x) := by
  have := refweight_f k x.f4.toNat (by have := h.1; have := h.2; omega) hk
  rwa [Int.toNat_of_nonneg h.1] at this
theorem rd_T42_at (l : List S42) (i : Nat) : rd_T42 l (i : Int) = l.getD i z42 := by simp [rd_T42]
theorem take_snoc (l : List S42) (f : S42 → Int) (i : Nat) (hi : i < l.length) : (l.take i).map f ++ [f (l.getD i z42)] = (l.take (i + 1)).map f := by
  rw [List.take_succ_eq_append_getElem hi, List.map_append, List.getD_eq_getElem?_getD, List.getElem?_eq_getElem hi]; rfl
theorem getD_lk {l : List S42} (h : ∀ x ∈ l, Lk x) {i : Nat} (hi : i < l.length) : Lk (l.getD i z42) := by
  rw [List.getD_eq_getElem?_getD, List.getElem?_eq_getElem hi]; exact h _ (List.getElem_mem hi)
theorem trace_l0 (l : List S42) (h : ∀ x ∈ l, Lk x) (hl : l.length ≤ 100) (d : Nat) : ∀ (k i : Nat), i + d = l.length → d < k →
    stats_Trace.l0 k ((l.take i).map Wt) l (l.length : Int) (i : Int) = some (l.map Wt) := by
  induction d with
  | zero =>
    intro k i hi hk
    obtain rfl : i = l.length := by omega
    obtain ⟨k, rfl⟩ : ∃ m, k = m + 1 := ⟨k - 1, by omega⟩
    simp only [stats_Trace.l0]
    rw [if_neg (by omega), List.take_length]
  | succ d ih =>
    intro k i hi hk
    obtain ⟨k, rfl⟩ : ∃ m, k = m + 1 := ⟨k - 1, by omega⟩
    simp only [stats_Trace.l0]
    rw [if_pos (by omega), if_pos (by omega), if_pos (by omega), rd_T42_at, wt_f (getD_lk h (by omega)), Option.bind_some, if_pos (by simp; omega), take_snoc l Wt i (by omega), show wrap64 ((i : Int) + 1) = ((i + 1 : Nat) : Int) from w64 (by omega) (by omega)]
    exact ih k (i + 1) (by omega) (by omega)
theorem trace_f (l : List S42) (h : ∀ x ∈ l, Lk x) (hl : l.length ≤ 100) (k : Nat) (hk : 300 ≤ k) : stats_Trace.f k l = some (l.map Wt) :=
  trace_l0 l h hl l.length k 0 (by omega) (by omega)
theorem reftrace_l0 (l : List S42) (h : ∀ x ∈ l, Lk x) (hl : l.length ≤ 100) (d : Nat) : ∀ (k i : Nat), i + d = l.length → d + 110 < k →
    bautaref39_Trace.l0 k l ((l.take i).map Wt) (i : Int) = some (l.map Wt) := by
  induction d with
  | zero =>
    intro k i hi hk
    obtain rfl : i = l.length := by omega
    obtain ⟨k, rfl⟩ : ∃ m, k = m + 1 := ⟨k - 1, by omega⟩
    simp only [bautaref39_Trace.l0]
    rw [if_neg (by omega), List.take_length]
  | succ d ih =>
    intro k i hi hk
    obtain ⟨k, rfl⟩ : ∃ m, k = m + 1 := ⟨k - 1, by omega⟩
    simp only [bautaref39_Trace.l0]
    rw [if_pos (by omega), if_pos (by omega), rd_T42_at, refwt_f (getD_lk h (by omega)) k (by omega), Option.bind_some, if_pos (by simp; omega), take_snoc l Wt i (by omega), show wrap64 ((i : Int) + 1) = ((i + 1 : Nat) : Int) from w64 (by omega) (by omega)]
    exact ih k (i + 1) (by omega) (by omega)
theorem reftrace_f (l : List S42) (h : ∀ x ∈ l, Lk x) (hl : l.length ≤ 100) (k : Nat) (hk : 300 ≤ k) : bautaref39_Trace.f k l = some (l.map Wt) :=
  reftrace_l0 l h hl l.length k 0 (by omega) (by omega)
theorem same_l0 (l : List Int) (hl : l.length ≤ 4000) (d : Nat) : ∀ (k i : Nat), i + d = l.length → d < k → bautaref02_Same.l0 k l l (i : Int) = some true := by
  induction d with
  | zero =>
    intro k i hi hk
    obtain ⟨k, rfl⟩ : ∃ m, k = m + 1 := ⟨k - 1, by omega⟩
    simp only [bautaref02_Same.l0]
    rw [if_neg (by omega)]
  | succ d ih =>
    intro k i hi hk
    obtain ⟨k, rfl⟩ : ∃ m, k = m + 1 := ⟨k - 1, by omega⟩
    simp only [bautaref02_Same.l0]
    rw [if_pos (by omega), if_pos (by omega), if_pos (by omega), if_pos trivial, show wrap64 ((i : Int) + 1) = ((i + 1 : Nat) : Int) from w64 (by omega) (by omega)]
    exact ih k (i + 1) (by omega) (by omega)
theorem same_f (k : Nat) (a : Int) (l m : List Int) (hl : l.length ≤ 4000) (hm : m.length ≤ 4000) (hk : 4001 ≤ k) : bautaref39_Same.f k a l m a l m = some true := by
  have one : ∀ z : List Int, z.length ≤ 4000 → bautaref02_Same.f k z z = some true := fun z hz => by
    unfold bautaref02_Same.f
    rw [if_pos rfl]
    exact same_l0 z hz z.length k 0 (by omega) (by omega)
  unfold bautaref39_Same.f
  rw [if_pos rfl, one l hl, Option.bind_some, if_pos rfl, one m hm]; rfl

/-! ### a run is added -/
theorem plusL_get (g : Int → Int) (x b : List Int) : ∀ (i j : Nat), j < x.length → (plusL g x b i).getD j 0 = if j < i then wrap64 (x.getD j 0 + g (b.getD j 0)) else x.getD j 0
  | 0, j, _ => rfl
  | i + 1, j, h => by
    have ih := plusL_get g x b i j h
    have hl := plusL_length g x b i
    rw [plusL, rd_at, rd_at, List.getD_eq_getElem?_getD]
    by_cases e : j = i
    · subst e
      rw [List.getElem?_set_self (by omega), if_pos (by omega)]; rfl
    · rw [List.getElem?_set_ne (by omega), ← List.getD_eq_getElem?_getD, ih]
      by_cases c : j < i
      · rw [if_pos c, if_pos (by omega)]
      · rw [if_neg c, if_neg (by omega)]
theorem laid_get (a : List Int) (n j : Nat) (hj : j < n) : (laidL a n).getD j 0 = a.getD j 0 := by
  unfold laidL
  rw [List.getD_eq_getElem?_getD, List.getD_eq_getElem?_getD]
  by_cases c : j < a.length
  · rw [List.getElem?_append_left (by rw [List.length_take]; omega), List.getElem?_take, if_pos hj]
  · rw [List.getElem?_append_right (by rw [List.length_take]; omega), List.getElem?_eq_none (by omega : a.length ≤ j), List.getElem?_replicate]
    split <;> rfl
theorem plus_map (g : Int → Int) (a b : List Int) (n : Nat) : plusL g (laidL a n) b n = (List.range n).map fun j => wrap64 (a.getD j 0 + g (b.getD j 0)) := by
  apply List.ext_getElem
  · rw [plusL_length, laidL_length, List.length_map, List.length_range]
  · intro j h1 h2
    have hj : j < n := by simpa using h2
    have h := plusL_get g (laidL a n) b n j (by rw [laidL_length]; exact hj)
    rw [if_pos hj, laid_get a n j hj, List.getD_eq_getElem?_getD, List.getElem?_eq_getElem h1] at h
    rw [List.getElem_map, List.getElem_range]
    exact h
theorem map_snoc (n : Nat) (f : Nat → Int) : (List.range n).map f ++ [f n] = (List.range (n + 1)).map f := by
  rw [List.range_succ, List.map_append]; rfl
theorem refadd_l1p (x l m : List Int) (a r : Int) (ha : a > 0) (hl : l.length = x.length) (hm : m.length = x.length) (hx : x.length ≤ 4000) (d : Nat) : ∀ (k i : Nat), i + d = x.length → d < k →
    bautaref39_Add.l1 k x (i : Int) a l m r ((List.range i).map fun j => wrap64 (x.getD j 0 + l.getD j 0)) ((List.range i).map fun j => wrap64 (wrap64 (x.getD j 0 * x.getD j 0) + m.getD j 0)) = some (r, (List.range x.length).map (fun j => wrap64 (x.getD j 0 + l.getD j 0)), (List.range x.length).map (fun j => wrap64 (wrap64 (x.getD j 0 * x.getD j 0) + m.getD j 0)), 0) := by
  induction d with
  | zero =>
    intro k i hi hk
    obtain rfl : i = x.length := by omega
    obtain ⟨k, rfl⟩ : ∃ m, k = m + 1 := ⟨k - 1, by omega⟩
    simp only [bautaref39_Add.l1]
    rw [if_neg (by omega)]
  | succ d ih =>
    intro k i hi hk
    obtain ⟨k, rfl⟩ : ∃ m, k = m + 1 := ⟨k - 1, by omega⟩
    simp only [bautaref39_Add.l1]
    rw [if_pos (by omega), if_pos (by omega), if_pos ha, if_pos (by omega), if_pos (by omega), Option.bind_some, if_pos (by simp; omega), Option.bind_some, if_pos (by simp; omega), show wrap64 ((i : Int) + 1) = ((i + 1 : Nat) : Int) from w64 (by omega) (by omega), rd_at, rd_at, rd_at]
    rw [map_snoc i (fun j => wrap64 (x.getD j 0 + l.getD j 0)), map_snoc i (fun j => wrap64 (wrap64 (x.getD j 0 * x.getD j 0) + m.getD j 0))]
    exact ih k (i + 1) (by omega) (by omega)
theorem refadd_l1z (x l m : List Int) (a r : Int) (ha : ¬ a > 0) (hx : x.length ≤ 4000) (d : Nat) : ∀ (k i : Nat), i + d = x.length → d < k →
    bautaref39_Add.l1 k x (i : Int) a l m r ((List.range i).map fun j => x.getD j 0) ((List.range i).map fun j => wrap64 (x.getD j 0 * x.getD j 0)) = some (r, (List.range x.length).map (fun j => x.getD j 0), (List.range x.length).map (fun j => wrap64 (x.getD j 0 * x.getD j 0)), 0) := by
  induction d with
  | zero =>
    intro k i hi hk
    obtain rfl : i = x.length := by omega
    obtain ⟨k, rfl⟩ : ∃ m, k = m + 1 := ⟨k - 1, by omega⟩
    simp only [bautaref39_Add.l1]
    rw [if_neg (by omega)]
  | succ d ih =>
    intro k i hi hk
    obtain ⟨k, rfl⟩ : ∃ m, k = m + 1 := ⟨k - 1, by omega⟩
    simp only [bautaref39_Add.l1]
    rw [if_pos (by omega), if_pos (by omega), if_neg ha, Option.bind_some, if_pos (by simp; omega), Option.bind_some, if_pos (by simp; omega), show wrap64 ((i : Int) + 1) = ((i + 1 : Nat) : Int) from w64 (by omega) (by omega), rd_at]
    rw [map_snoc i (fun j => x.getD j 0), map_snoc i (fun j => wrap64 (x.getD j 0 * x.getD j 0))]
    exact ih k (i + 1) (by omega) (by omega)
/-- What is behind the reference's first loop. -/
def tailR (k : Nat) (x : List Int) (a : Int) (l m : List Int) : Option (Int × List Int × List Int × Int) :=
  (bautaref39_Can.f k a l m).bind fun t => if t = true then (if a > 0 then bautaref39_Add.j1 k x ((l.length : Int) != (x.length : Int)) a l m else bautaref39_Add.j1 k x false a l m) else bautaref39_Add.j1 k x true a l m
theorem refadd_l0 (x : List Int) (hx : x.length < 17592186044416) (a : Int) (l m : List Int) (d : Nat) : ∀ (k i : Nat), i + d = x.length → d < k →
    ((∃ j, i ≤ j ∧ j < x.length ∧ (x.getD j 0 < 0 ∨ x.getD j 0 > 32)) → bautaref39_Add.l0 k x (i : Int) a l m = some (0, [], [], 1)) ∧
    ((¬ ∃ j, i ≤ j ∧ j < x.length ∧ (x.getD j 0 < 0 ∨ x.getD j 0 > 32)) → bautaref39_Add.l0 k x (i : Int) a l m = tailR (k - d - 1) x a l m) := by
  induction d with
  | zero =>
    intro k i hi hk
    obtain ⟨k, rfl⟩ : ∃ m, k = m + 1 := ⟨k - 1, by omega⟩
    refine ⟨fun ⟨j, h1, h2, _⟩ => by omega, fun _ => ?_⟩
    simp only [bautaref39_Add.l0]
    rw [if_neg (by omega)]
    rfl
  | succ d ih =>
    intro k i hi hk
    obtain ⟨k, rfl⟩ : ∃ m, k = m + 1 := ⟨k - 1, by omega⟩
    obtain ⟨h1, h2⟩ := ih k (i + 1) (by omega) (by omega)
    have hw : wrap64 ((i : Int) + 1) = ((i + 1 : Nat) : Int) := w64 (by omega) (by omega)
    have e : k + 1 - (d + 1) - 1 = k - d - 1 := by omega
    simp only [bautaref39_Add.l0]
    rw [if_pos (by omega), if_pos (by omega), rd_at, hw, e]
    by_cases c1 : x.getD i 0 < 0
    · rw [if_pos c1]
      exact ⟨fun _ => rfl, fun h => absurd ⟨i, Nat.le_refl _, by omega, .inl c1⟩ h⟩
    · rw [if_neg c1]
      by_cases c2 : x.getD i 0 > 32
      · rw [if_pos c2]
        exact ⟨fun _ => rfl, fun h => absurd ⟨i, Nat.le_refl _, by omega, .inr c2⟩ h⟩
      · rw [if_neg c2]
        refine ⟨fun ⟨j, a1, a2, a3⟩ => h1 ?_, fun h => h2 fun ⟨j, a1, a2, a3⟩ => h ⟨j, by omega, a2, a3⟩⟩
        rcases Nat.lt_or_ge i j with h | h
        · exact ⟨j, h, a2, a3⟩
        · obtain rfl : j = i := by omega
          rcases a3 with h3 | h3
          · exact absurd h3 c1
          · exact absurd h3 c2
theorem wi_not {x : List Int} (h : ¬ Wi x 32) : ∃ j, 0 ≤ j ∧ j < x.length ∧ (x.getD j 0 < 0 ∨ x.getD j 0 > 32) := by
  apply Classical.byContradiction
  intro hn
  apply h
  intro j hj
  have : ¬ (x.getD j 0 < 0 ∨ x.getD j 0 > 32) := fun c => hn ⟨j, Nat.zero_le _, hj, c⟩
  omega
theorem wi_yes {x : List Int} (h : Wi x 32) : ¬ ∃ j, 0 ≤ j ∧ j < x.length ∧ (x.getD j 0 < 0 ∨ x.getD j 0 > 32) := by
  rintro ⟨j, _, hj, c⟩
  have := h j hj
  omega
theorem wrap_wrap (y : Int) : wrap64 (wrap64 y) = wrap64 y := by unfold wrap64; omega
theorem add_same (a : Int) (l m x : List Int) (hl : l.length ≤ 100) (hm : m.length ≤ 100) (hx : x.length < 17592186044416) (k : Nat) (hk : x.length + 10000 ≤ k) :
    ∃ r1 r2 r3 r4, stats_Add.f k a l m x = some (r1, r2, r3, r4) ∧ bautaref39_Add.f k a l m x = some (r1, r2, r3, r4) ∧ r2.length ≤ 4000 ∧ r3.length ≤ 4000 := by
  obtain ⟨b1, c1, c2⟩ := can_f k a l m hl hm (by omega)
  obtain ⟨b2, w1, w2⟩ := within_f k x 32 hx (by omega)
  have r0 := refadd_l0 x hx a l m x.length k 0 (by omega) (by omega)
  unfold stats_Add.f stats_add.f stats_add.bad bautaref39_Add.f
  rw [c1, Option.bind_some]
  by_cases hw : Wi x 32
  · obtain rfl := w2.mpr hw
    have r1 := r0.2 (wi_yes hw)
    rw [show ((0 : Nat) : Int) = 0 from rfl] at r1
    rw [r1]
    generalize hq : k - x.length - 1 = q
    have hq2 : 9000 ≤ q := by omega
    obtain ⟨b3, d1, d2⟩ := refcan_f q a l m hl hm (by omega)
    have hb : b3 = b1 := by
      cases b1 <;> cases b3 <;> simp_all
    subst hb
    unfold tailR
    rw [d1, Option.bind_some]
    have j1t : bautaref39_Add.j1 q x true a l m = some (0, [], [], 1) := by
      obtain ⟨q, rfl⟩ : ∃ p, q = p + 1 := ⟨q - 1, by omega⟩
      simp only [bautaref39_Add.j1]
      rw [if_pos trivial]
    cases b3 with
    | false =>
      rw [if_neg (show ¬ (false = true) by decide), if_neg (show ¬ (false = true) by decide), Option.bind_some, if_pos rfl, j1t]
      exact ⟨0, [], [], 1, rfl, rfl, by decide, by decide⟩
    | true =>
      have hc := d2.mp rfl
      rw [if_pos rfl, if_pos rfl, w1, Option.bind_some, if_pos rfl, Option.bind_some]
      have j1f : (¬ (a > 0 ∧ x.length ≠ l.length)) → ∃ r1 r2 r3 r4, ((if a = 500 then some ((0 : Int), ([] : List Int), ([] : List Int), (150 : Int)) else if x.length > 4000 then some (0, [], [], 150) else some (wrap64 (a + 1), plusL (fun x => x) (laidL (if a = 0 then [] else l) x.length) x x.length, plusL (fun x => wrap64 (x * x)) (laidL (if a = 0 then [] else m) x.length) x x.length, 0)).bind fun bt187 => some (bt187.1, bt187.2.1, bt187.2.2.1, bt187.2.2.2)) = some (r1, r2, r3, r4) ∧ bautaref39_Add.j1 q x false a l m = some (r1, r2, r3, r4) ∧ r2.length ≤ 4000 ∧ r3.length ≤ 4000 := by
        intro hn
        obtain ⟨q, rfl⟩ : ∃ p, q = p + 3 := ⟨q - 3, by omega⟩
        simp only [bautaref39_Add.j1]
        rw [if_neg (show ¬ (false = true) by decide)]
        by_cases e5 : a = 500
        · rw [if_pos e5, if_pos e5]
          refine ⟨0, [], [], 150, rfl, ?_, by decide, by decide⟩
          simp only [bautaref39_Add.j2]
          rw [if_pos trivial]
        · rw [if_neg e5, if_neg e5]
          by_cases e4 : x.length > 4000
          · rw [if_pos e4, decide_eq_true (by omega)]
            refine ⟨0, [], [], 150, rfl, ?_, by decide, by decide⟩
            simp only [bautaref39_Add.j2]
            rw [if_pos trivial]
          · rw [if_neg e4, decide_eq_false (show ¬ ((x.length : Int) > 4000) by omega)]
            simp only [bautaref39_Add.j2]
            rw [if_neg (show ¬ (false = true) by decide), plus_map, plus_map]
            by_cases e0 : a > 0
            · have hxl : x.length = l.length := by
                apply Classical.byContradiction; intro h; exact hn ⟨e0, h⟩
              have h1 := refadd_l1p x l m a (wrap64 (a + 1)) e0 hxl.symm (by rw [hxl]; exact hc.2.2.1.symm) (by omega) x.length (q + 1) 0 (by omega) (by omega)
              rw [if_neg (by omega), if_neg (by omega)]
              refine ⟨_, _, _, _, rfl, ?_, by simp; omega, by simp; omega⟩
              have h2 : bautaref39_Add.l1 (q + 1) x 0 a l m (wrap64 (a + 1)) [] [] = _ := h1
              rw [h2]
              simp only [Int.add_comm]
            · have ea : a = 0 := by have := hc.1; omega
              have h1 := refadd_l1z x l m a (wrap64 (a + 1)) e0 (by omega) x.length (q + 1) 0 (by omega) (by omega)
              rw [if_pos ea, if_pos ea]
              refine ⟨_, _, _, _, rfl, ?_, by simp; omega, by simp; omega⟩
              have h2 : bautaref39_Add.l1 (q + 1) x 0 a l m (wrap64 (a + 1)) [] [] = _ := h1
              rw [h2]
              congr 3
              · apply List.map_congr_left
                intro j hj
                have := hw j (by simpa using hj)
                rw [show ([] : List Int).getD j 0 = 0 from rfl, w64 (by omega) (by omega), Int.zero_add]
              · congr 1
                apply List.map_congr_left
                intro j hj
                rw [show ([] : List Int).getD j 0 = 0 from rfl, Int.zero_add, wrap_wrap]
      by_cases e0 : a > 0
      · rw [if_pos e0]
        by_cases el : x.length = l.length
        · rw [show ((l.length : Int) != (x.length : Int)) = false from by rw [el]; simp, show (decide (a > 0) && decide (x.length ≠ l.length)) = false from by simp [el], if_neg (by decide)]
          exact j1f (fun h => h.2 el)
        · rw [show ((l.length : Int) != (x.length : Int)) = true from by simp; omega, show (decide (a > 0) && decide (x.length ≠ l.length)) = true from by simp [el, e0], if_pos rfl, j1t]
          exact ⟨0, [], [], 1, rfl, rfl, by decide, by decide⟩
      · rw [if_neg e0, show (decide (a > 0) && decide (x.length ≠ l.length)) = false from by simp [e0], if_neg (by decide)]
        exact j1f (fun h => e0 h.1)
  · have hb2 : b2 = false := by
      cases b2 with
      | false => rfl
      | true => exact absurd (w2.mp rfl) hw
    subst hb2
    have r1 := r0.1 (wi_not hw)
    rw [show ((0 : Nat) : Int) = 0 from rfl] at r1
    rw [r1]
    refine ⟨0, [], [], 1, ?_, rfl, by decide, by decide⟩
    cases b1 with
    | false => rw [if_neg (by decide), Option.bind_some, if_pos rfl]; rfl
    | true => rw [if_pos rfl, w1, Option.bind_some, if_neg (by decide), Option.bind_some, if_pos rfl]; rfl
theorem loop_f (l : List S42) (h : ∀ x ∈ l, Lk x) (hl : l.length ≤ 100) (r1 : Int) (r2 r3 : List Int) (r4 : Int) (h2 : r2.length ≤ 4000) (h3 : r3.length ≤ 4000) (d : Nat) : ∀ (k i : Nat), i + d = l.length → d + 4100 < k →
    bautalaw39_StatsAdds_le.l0 k l r4 r4 (l.map Wt) (l.map Wt) (i : Int) r1 r2 r3 r1 r2 r3 = some true := by
  induction d with
  | zero =>
    intro k i hi hk
    obtain ⟨k, rfl⟩ : ∃ m, k = m + 1 := ⟨k - 1, by omega⟩
    simp only [bautalaw39_StatsAdds_le.l0]
    rw [List.length_map, if_neg (by omega), same_f k r1 r2 r3 h2 h3 (by omega), Option.bind_some, if_pos rfl, if_pos trivial, lives_k (by omega)]; rfl
  | succ d ih =>
    intro k i hi hk
    obtain ⟨k, rfl⟩ : ∃ m, k = m + 1 := ⟨k - 1, by omega⟩
    have e : (l.map Wt).getD i 0 = Wt (l.getD i z42) := by
      rw [List.getD_eq_getElem?_getD, List.getElem?_map, List.getD_eq_getElem?_getD, List.getElem?_eq_getElem (by omega : i < l.length)]; rfl
    simp only [bautalaw39_StatsAdds_le.l0]
    rw [List.length_map, if_pos (by omega), if_pos (by omega), if_pos (by omega), if_pos trivial, if_pos (by omega), rd_T42_at, wt_f (getD_lk h (by omega)), Option.bind_some, rd_at, e, if_pos rfl, show wrap64 ((i : Int) + 1) = ((i + 1 : Nat) : Int) from w64 (by omega) (by omega)]
    exact ih k (i + 1) (by omega) (by omega)
theorem StatsAdds (a : Int) (l m x : List Int) (y : List S42) (hx : x.length < 17592186044416) (hy : y.length ≤ 100) (hw : ∀ z ∈ y, Lk z) : ∃ k, bautalaw39_StatsAdds_le.f k a l m x y = some true := by
  refine ⟨x.length + 20000, ?_⟩
  have hl := len_take l
  have hm := len_take m
  unfold bautalaw39_StatsAdds_le.f
  rw [small_f, Option.bind_some]
  dsimp only
  generalize l.take 100 = l at hl ⊢
  generalize m.take 100 = m at hm ⊢
  obtain ⟨r1, r2, r3, r4, h1, h2, h3, h4⟩ := add_same a l m x hl hm hx (x.length + 20000) (by omega)
  rw [own_f a l m (by omega) (by omega), Option.bind_some, Option.bind_some, List.length_nil, if_pos (by omega), List.nil_append]
  dsimp only
  rw [h1, Option.bind_some, h2, Option.bind_some, Option.bind_some, List.length_nil, if_pos (by omega), List.nil_append, trace_f y hw hy _ (by omega), Option.bind_some, reftrace_f y hw hy _ (by omega), Option.bind_some, if_pos rfl]
  exact loop_f y hw hy r1 r2 r3 r4 h3 h4 y.length _ 0 (by omega) (by omega)
end Go.Proofs.Ytbohanoekboifaa.Pure
