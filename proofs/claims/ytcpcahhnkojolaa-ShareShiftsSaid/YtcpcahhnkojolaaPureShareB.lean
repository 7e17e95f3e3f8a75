/- What short, Join, Split and Same come to. Plain Lean. -/
import Derived.Test.YtcpcahhnkojolaaBits
import Derived.Test.YtcpcahhnkojolaaPBx1
import Derived.Test.YtcpcahhnkojolaaPBx2
import Derived.Test.YtcpcahhnkojolaaPBx4
namespace Go.Proofs.Ytcpcahhnkojolaa.BB
open Go.Proofs.Ytcpcahhnkojolaa.B Go.RowKit Go.Proofs.Ytcpcahhnkojolaa.PB Go.Proofs.YtcpcahhnkojolaaW.PrintWords Go.Proofs.YtcpcahhnkojolaaW.PrintLast Go.Proofs.YtcpcahhnkojolaaW.PrintMore

theorem w64 {i : Int} (h : -9000000000000000000 ≤ i) (h' : i ≤ 9000000000000000000) : wrap64 i = i := by unfold wrap64; omega
theorem rd_at (l : List Int) (i : Nat) : rd l (i : Int) = l.getD i 0 := by simp [rd]
theorem dropI (l : List Int) (i : Nat) (hi : i < l.length) : l.drop i = l.getD i 0 :: l.drop (i + 1) := by
  rw [List.drop_eq_getElem_cons hi, List.getD_eq_getElem?_getD, List.getElem?_eq_getElem hi]; rfl
/-- All are words. -/
def U (l : List Int) : Prop := ∀ x ∈ l, 0 ≤ x ∧ x < 4294967296
theorem U_of {l : List Int} (h : ∀ x ∈ l, (Lit.int .u32 x).wf = true) : U l := by
  intro x hx
  obtain ⟨n, rfl, hn⟩ := wf_u32 (h x hx)
  omega
theorem U_take {l : List Int} (h : U l) (n : Nat) : U (l.take n) := fun x hx => h x (List.mem_of_mem_take hx)
theorem U_drop {l : List Int} (h : U l) (n : Nat) : U (l.drop n) := fun x hx => h x (List.mem_of_mem_drop hx)
theorem U_append {l m : List Int} (h : U l) (k : U m) : U (l ++ m) := fun x hx => by
  rcases List.mem_append.mp hx with h' | h'
  · exact h x h'
  · exact k x h'
theorem U_cons {x : Int} {l : List Int} (hx : 0 ≤ x ∧ x < 4294967296) (h : U l) : U (x :: l) := fun y hy => by
  rcases List.mem_cons.mp hy with rfl | h'
  · exact hx
  · exact h y h'
theorem U_at {l : List Int} (h : U l) (i : Nat) : 0 ≤ l.getD i 0 ∧ l.getD i 0 < 4294967296 := by
  rw [List.getD_eq_getElem?_getD]
  rcases Nat.lt_or_ge i l.length with h' | h'
  · rw [List.getElem?_eq_getElem h']; exact h _ (List.getElem_mem h')
  · rw [List.getElem?_eq_none h']; exact ⟨by decide, by decide⟩

/-- The xor of all. -/
def J (l : List Int) : Nat := l.foldl (fun w x => w ^^^ x.toNat) 0
theorem foldx (l : List Int) (a : Nat) : l.foldl (fun w x => w ^^^ x.toNat) a = a ^^^ J l := by
  unfold J
  induction l generalizing a with
  | nil => simp
  | cons x l ih => rw [List.foldl_cons, ih, List.foldl_cons, ih (0 ^^^ x.toNat), Nat.zero_xor, Nat.xor_assoc]
theorem J_cons (x : Int) (l : List Int) : J (x :: l) = x.toNat ^^^ J l := by
  conv => lhs; unfold J
  rw [List.foldl_cons, foldx, Nat.zero_xor]
theorem J_append (l m : List Int) : J (l ++ m) = J l ^^^ J m := by
  conv => lhs; unfold J
  rw [List.foldl_append, foldx, ← J]
theorem J_lt {l : List Int} (h : U l) : J l < 4294967296 := by
  induction l with
  | nil => decide
  | cons x l ih =>
    rw [J_cons]
    have hx := h x List.mem_cons_self
    exact xor_lt (by omega) (ih fun y hy => h y (List.mem_cons_of_mem _ hy))
theorem xor_int (a : Nat) (x : Int) (ha : a < 4294967296) (hx : 0 ≤ x ∧ x < 4294967296) : Go.bits .xor .u32 (a : Int) x = ((a ^^^ x.toNat : Nat) : Int) := by
  have := xor_u32 a x.toNat ha (by omega)
  rw [Int.toNat_of_nonneg hx.1] at this
  exact this

theorem short_f (l : List Int) : bautalaw18_short.f l = some (l.take 100) := by
  unfold bautalaw18_short.f
  by_cases h : (l.length : Int) > 100
  · have h2 : ([] : List Int).length + (l.take 100).length < 35184372088832 := by rw [List.length_nil, List.length_take]; omega
    rw [if_pos h, if_pos (by omega), Option.bind_some, if_pos h2]; rfl
  · have h2 : ([] : List Int).length + l.length < 35184372088832 := by rw [List.length_nil]; omega
    rw [if_neg h, Option.bind_some, if_pos h2, List.take_of_length_le (by omega)]; rfl
theorem take_take (l : List Int) : (l.take 100).take 100 = l.take 100 := by rw [List.take_take, Nat.min_self]

theorem join_l0 (l : List Int) (hu : U l) (hl : l.length < 1000000) (d : Nat) : ∀ (k i a : Nat), i + d = l.length → d < k → a < 4294967296 →
    share_join.l0 k (a : Int) l (l.length : Int) (i : Int) = some (((l.drop i).foldl (fun w x => w ^^^ x.toNat) a : Nat) : Int) := by
  induction d with
  | zero =>
    intro k i a hi hk ha
    obtain ⟨k, rfl⟩ : ∃ q, k = q + 1 := ⟨k - 1, by omega⟩
    simp only [share_join.l0]
    rw [if_neg (by omega), List.drop_of_length_le (by omega)]; rfl
  | succ d ih =>
    intro k i a hi hk ha
    obtain ⟨k, rfl⟩ : ∃ q, k = q + 1 := ⟨k - 1, by omega⟩
    have hx := U_at hu i
    simp only [share_join.l0]
    rw [if_pos (by omega), if_pos (by omega), if_pos (by omega), rd_at, xor_int a _ ha hx, show wrap64 ((i : Int) + 1) = ((i + 1 : Nat) : Int) from w64 (by omega) (by omega), ih k (i + 1) _ (by omega) (by omega) (xor_lt ha (by omega)), dropI l i (by omega)]
    rfl
theorem join_f (k : Nat) (l : List Int) (hu : U l) (hl : l.length < 1000000) (hk : l.length < k) : share_join.f k l = some (J l : Int) := by
  unfold share_join.f
  have := join_l0 l hu hl l.length k 0 0 (by omega) hk (by decide)
  exact this
theorem Join_f (k : Nat) (l : List Int) (hu : U l) (hl : l.length < 1000000) (hk : l.length < k) : share_Join.f k l = some (J l : Int) := by
  unfold share_Join.f; rw [join_f k l hu hl hk]; rfl
theorem refjoin_l0 (l : List Int) (hu : U l) (hl : l.length < 1000000) (d : Nat) : ∀ (k i a : Nat), i + d = l.length → d < k → a < 4294967296 →
    bautaref18_Join.l0 k l (a : Int) (i : Int) = some (((l.drop i).foldl (fun w x => w ^^^ x.toNat) a : Nat) : Int) := by
  induction d with
  | zero =>
    intro k i a hi hk ha
    obtain ⟨k, rfl⟩ : ∃ q, k = q + 1 := ⟨k - 1, by omega⟩
    simp only [bautaref18_Join.l0]
    rw [if_neg (by omega), List.drop_of_length_le (by omega)]; rfl
  | succ d ih =>
    intro k i a hi hk ha
    obtain ⟨k, rfl⟩ : ∃ q, k = q + 1 := ⟨k - 1, by omega⟩
    have hx := U_at hu i
    simp only [bautaref18_Join.l0]
    rw [if_pos (by omega), if_pos (by omega), rd_at, xor_int a _ ha hx, show wrap64 ((i : Int) + 1) = ((i + 1 : Nat) : Int) from w64 (by omega) (by omega), ih k (i + 1) _ (by omega) (by omega) (xor_lt ha (by omega)), dropI l i (by omega)]
    rfl
theorem refjoin_f (k : Nat) (l : List Int) (hu : U l) (hl : l.length < 1000000) (hk : l.length < k) : bautaref18_Join.f k l = some (J l : Int) := by
  unfold bautaref18_Join.f
  exact refjoin_l0 l hu hl l.length k 0 0 (by omega) hk (by decide)
theorem split_f (k : Nat) (w : Nat) (l : List Int) (hw : w < 4294967296) (hu : U l) (hl : l.length < 1000000) (hk : l.length < k) : share_Split.f k (w : Int) l = some (((w ^^^ J l : Nat) : Int) :: l) := by
  unfold share_Split.f
  have h2 : ([((w ^^^ J l : Nat) : Int)] : List Int).length + l.length < 35184372088832 := by simp; omega
  rw [join_f k l hu hl hk, Option.bind_some, xor_u32 w _ hw (J_lt hu), Option.bind_some, if_pos h2]
  rfl
theorem same_l0 (l : List Int) (hl : l.length < 1000000) (d : Nat) : ∀ (k i : Nat), i + d = l.length → d < k → bautaref05_Same.l0 k l l (i : Int) = some true := by
  induction d with
  | zero =>
    intro k i hi hk
    obtain ⟨k, rfl⟩ : ∃ q, k = q + 1 := ⟨k - 1, by omega⟩
    simp only [bautaref05_Same.l0]
    rw [if_neg (by omega)]
  | succ d ih =>
    intro k i hi hk
    obtain ⟨k, rfl⟩ : ∃ q, k = q + 1 := ⟨k - 1, by omega⟩
    simp only [bautaref05_Same.l0]
    rw [if_pos (by omega), if_pos (by omega), if_pos (by omega), if_pos trivial, show wrap64 ((i : Int) + 1) = ((i + 1 : Nat) : Int) from w64 (by omega) (by omega)]
    exact ih k (i + 1) (by omega) (by omega)
theorem same_f (k : Nat) (l : List Int) (hl : l.length < 1000000) (hk : l.length < k) : bautaref05_Same.f k l l = some true := by
  unfold bautaref05_Same.f
  rw [if_pos rfl]
  exact same_l0 l hl l.length k 0 (by omega) hk
theorem lives_k {k : Nat} (h : 100 ≤ k) : bautalaw18_lives.f k = some true := by
  induction k with
  | zero => omega
  | succ k ih =>
    rcases Nat.lt_or_ge k 100 with h' | h'
    · obtain rfl : k = 99 := by omega
      decide +kernel
    · exact bautalaw18_lives.mono k _ (ih h')
theorem len_take (l : List Int) : (l.take 100).length ≤ 100 := by rw [List.length_take]; omega

/-! ### lists by their places -/
theorem ext_getD {l m : List Int} (h : l.length = m.length) (hi : ∀ i, i < l.length → l.getD i 0 = m.getD i 0) : l = m := by
  apply List.ext_getElem h
  intro i h1 h2
  have := hi i h1
  rw [List.getD_eq_getElem?_getD, List.getD_eq_getElem?_getD, List.getElem?_eq_getElem h1, List.getElem?_eq_getElem h2] at this
  exact this
theorem set_at (l : List Int) (i j : Nat) (v : Int) (hi : i < l.length) : (l.set i v).getD j 0 = if i = j then v else l.getD j 0 := by
  rw [List.getD_eq_getElem?_getD, List.getElem?_set]
  split
  · simp
  · rw [List.getD_eq_getElem?_getD]
theorem snoc_at (l : List Int) (v : Int) (j : Nat) : (l ++ [v]).getD j 0 = if j < l.length then l.getD j 0 else if j = l.length then v else 0 := by
  rw [List.getD_eq_getElem?_getD]
  by_cases h : j < l.length
  · rw [if_pos h, List.getElem?_append_left h, List.getD_eq_getElem?_getD]
  · rw [if_neg h, List.getElem?_append_right (by omega)]
    by_cases e : j = l.length
    · subst e; rw [if_pos rfl, Nat.sub_self]; rfl
    · rw [if_neg e]
      obtain ⟨q, hq⟩ : ∃ q, j - l.length = q + 1 := ⟨j - l.length - 1, by omega⟩
      rw [hq]; rfl
theorem beyond (l : List Int) (j : Nat) (h : l.length ≤ j) : l.getD j 0 = 0 := by
  rw [List.getD_eq_getElem?_getD, List.getElem?_eq_none h]; rfl
/-- The place of a word, as a natural number. -/
def at_ (l : List Int) (i : Nat) : Nat := (l.getD i 0).toNat
theorem at_int {l : List Int} (h : U l) (i : Nat) : l.getD i 0 = (at_ l i : Int) := (Int.toNat_of_nonneg (U_at h i).1).symm
theorem at_lt {l : List Int} (h : U l) (i : Nat) : at_ l i < 4294967296 := by have := U_at h i; unfold at_; omega
theorem U_of_at {l : List Int} (h : ∀ i, i < l.length → 0 ≤ l.getD i 0 ∧ l.getD i 0 < 4294967296) : U l := by
  intro x hx
  obtain ⟨i, hi, rfl⟩ := List.getElem_of_mem hx
  have := h i hi
  rw [List.getD_eq_getElem?_getD, List.getElem?_eq_getElem hi] at this
  exact this

theorem clone_f (l : List Int) (hl : l.length < 1000000) : slices_Clone_uint32_uint32.f l = some l := by
  unfold slices_Clone_uint32_uint32.f
  rw [if_pos (by omega)]

theorem xorlt_l0 (x b : List Int) (hx : U x) (hb : U b) (hbl : b.length ≤ x.length) (hl : x.length < 1000000) (d : Nat) : ∀ (k i : Nat) (y : List Int), i + d = b.length → d < k → y.length = x.length → (∀ j, y.getD j 0 = if j < i then ((at_ x j ^^^ at_ b j : Nat) : Int) else x.getD j 0) →
    ∃ r, share_Xor_lt.l0 k y b (b.length : Int) (i : Int) = some r ∧ r.length = x.length ∧ ∀ j, r.getD j 0 = if j < b.length then ((at_ x j ^^^ at_ b j : Nat) : Int) else x.getD j 0 := by
  induction d with
  | zero =>
    intro k i y hi hk hy h
    obtain ⟨k, rfl⟩ : ∃ q, k = q + 1 := ⟨k - 1, by omega⟩
    obtain rfl : i = b.length := by omega
    refine ⟨y, ?_, hy, h⟩
    simp only [share_Xor_lt.l0]
    rw [if_neg (by omega)]
  | succ d ih =>
    intro k i y hi hk hy h
    obtain ⟨k, rfl⟩ : ∃ q, k = q + 1 := ⟨k - 1, by omega⟩
    simp only [share_Xor_lt.l0]
    have hyi : y.getD i 0 = (at_ x i : Int) := by rw [h i, if_neg (by omega), at_int hx]
    rw [if_pos (by omega), if_pos (by omega), if_pos (by omega), if_pos (by omega), rd_at, rd_at, hyi, at_int hb i, xor_u32 _ _ (at_lt hx i) (at_lt hb i), show wrap64 ((i : Int) + 1) = ((i + 1 : Nat) : Int) from w64 (by omega) (by omega), show ((i : Int)).toNat = i from rfl]
    refine ih k (i + 1) _ (by omega) (by omega) (by rw [List.length_set]; exact hy) (fun j => ?_)
    rw [set_at _ _ _ _ (by omega)]
    by_cases e : i = j
    · subst e; rw [if_pos rfl, if_pos (by omega)]
    · rw [if_neg e, h j]
      by_cases e2 : j < i
      · rw [if_pos e2, if_pos (by omega)]
      · rw [if_neg e2, if_neg (by omega)]
theorem xorge_lt : ∀ (k : Nat) (y b : List Int) (n i : Int), share_Xor_ge.l0 k y b n i = share_Xor_lt.l0 k y b n i
  | 0, _, _, _, _ => rfl
  | k + 1, y, b, n, i => by
    simp only [share_Xor_ge.l0, share_Xor_lt.l0]
    rw [xorge_lt k]
/-- Share by share. -/
theorem xor_f (k : Nat) (a b : List Int) (ha : U a) (hb : U b) (hla : a.length ≤ 100) (hlb : b.length ≤ 100) (hk : 200 ≤ k) :
    ∃ r, share_Xor.f k a b = some r ∧ r.length = max a.length b.length ∧ ∀ j, r.getD j 0 = ((at_ a j ^^^ at_ b j : Nat) : Int) := by
  have fin : ∀ x y : List Int, U x → U y → y.length ≤ x.length → ∀ j, (if j < y.length then ((at_ x j ^^^ at_ y j : Nat) : Int) else x.getD j 0) = ((at_ x j ^^^ at_ y j : Nat) : Int) := by
    intro x y hx hy hl j
    split
    · rfl
    · have : at_ y j = 0 := by unfold at_; rw [beyond y j (by omega)]; rfl
      rw [this, Nat.xor_zero, at_int hx]
  unfold share_Xor.f
  by_cases c : (a.length : Int) < (b.length : Int)
  · obtain ⟨r, h1, h2, h3⟩ := xorlt_l0 b a hb ha (by omega) (by omega) a.length k 0 b (by omega) (by omega) rfl (fun j => by rw [if_neg (by omega)])
    refine ⟨r, ?_, by omega, fun j => ?_⟩
    · unfold share_Xor_lt.f
      rw [if_pos c, if_pos c, clone_f b (by omega), Option.bind_some]; exact h1
    · rw [h3 j, fin b a hb ha (by omega) j, Nat.xor_comm]
  · obtain ⟨r, h1, h2, h3⟩ := xorlt_l0 a b ha hb (by omega) (by omega) b.length k 0 a (by omega) (by omega) rfl (fun j => by rw [if_neg (by omega)])
    refine ⟨r, ?_, by omega, fun j => ?_⟩
    · unfold share_Xor_ge.f
      rw [if_neg c, if_neg c, clone_f a (by omega), Option.bind_some, xorge_lt]; exact h1
    · rw [h3 j, fin a b ha hb (by omega) j]
theorem and_l0 (x : List Int) (w : Nat) (hx : U x) (hw : w < 4294967296) (hl : x.length < 1000000) (d : Nat) : ∀ (k i : Nat) (y : List Int), i + d = x.length → d < k → y.length = x.length → (∀ j, y.getD j 0 = if j < i then ((at_ x j &&& w : Nat) : Int) else x.getD j 0) →
    ∃ r, share_each_and.l0 k (w : Int) y (i : Int) = some r ∧ r.length = x.length ∧ ∀ j, r.getD j 0 = if j < x.length then ((at_ x j &&& w : Nat) : Int) else x.getD j 0 := by
  induction d with
  | zero =>
    intro k i y hi hk hy h
    obtain ⟨k, rfl⟩ : ∃ q, k = q + 1 := ⟨k - 1, by omega⟩
    obtain rfl : i = x.length := by omega
    refine ⟨y, ?_, hy, h⟩
    simp only [share_each_and.l0]
    rw [if_neg (by omega)]
  | succ d ih =>
    intro k i y hi hk hy h
    obtain ⟨k, rfl⟩ : ∃ q, k = q + 1 := ⟨k - 1, by omega⟩
    simp only [share_each_and.l0]
    have hyi : y.getD i 0 = (at_ x i : Int) := by rw [h i, if_neg (by omega), at_int hx]
    rw [if_pos (by omega), if_pos (by omega), rd_at, hyi, and_u32 _ _ (at_lt hx i) hw, Option.bind_some, show wrap64 ((i : Int) + 1) = ((i + 1 : Nat) : Int) from w64 (by omega) (by omega), show ((i : Int)).toNat = i from rfl]
    refine ih k (i + 1) _ (by omega) (by omega) (by rw [List.length_set]; exact hy) (fun j => ?_)
    rw [set_at _ _ _ _ (by omega)]
    by_cases e : i = j
    · subst e; rw [if_pos rfl, if_pos (by omega)]
    · rw [if_neg e, h j]
      by_cases e2 : j < i
      · rw [if_pos e2, if_pos (by omega)]
      · rw [if_neg e2, if_neg (by omega)]
theorem and_f (k : Nat) (a : List Int) (w : Nat) (ha : U a) (hw : w < 4294967296) (hla : a.length ≤ 100) (hk : 200 ≤ k) :
    ∃ r, share_And.f k a (w : Int) = some r ∧ r.length = a.length ∧ ∀ j, r.getD j 0 = ((at_ a j &&& w : Nat) : Int) := by
  obtain ⟨r, h1, h2, h3⟩ := and_l0 a w ha hw (by omega) a.length k 0 a (by omega) (by omega) rfl (fun j => by rw [if_neg (by omega)])
  refine ⟨r, ?_, h2, fun j => ?_⟩
  · unfold share_And.f share_each_and.f
    rw [clone_f a (by omega), Option.bind_some]; exact h1
  · rw [h3 j]
    split
    · rfl
    · have e0 : a.getD j 0 = 0 := beyond a j (by omega)
      unfold at_
      rw [e0]; simp
theorem put_f (a : List Int) (w : Nat) (ha : U a) (hw : w < 4294967296) (hla : a.length ≤ 100) : share_put.f a (w : Int) = some (if 0 < a.length then a.set 0 ((at_ a 0 ^^^ w : Nat) : Int) else a) := by
  unfold share_put.f
  rw [clone_f a (by omega), Option.bind_some]
  by_cases h : (a.length : Int) > 0
  · rw [if_pos h, if_pos h, if_pos (by omega), show rd a 0 = a.getD 0 0 from rfl, at_int ha 0, xor_u32 _ _ (at_lt ha 0) hw]; rfl
  · rw [if_neg h, if_neg (by omega)]

theorem at_f (l : List Int) (i : Nat) : bautaref18_At.f l (i : Int) = some (l.getD i 0) := by
  unfold bautaref18_At.f
  by_cases h : (i : Int) < (l.length : Int)
  · rw [if_pos h, if_pos (by omega), rd_at]
  · rw [if_neg h, beyond l i (by omega)]
theorem refxor_l0 (a b : List Int) (ha : U a) (hb : U b) (hla : a.length ≤ 100) (hlb : b.length ≤ 100) (d : Nat) : ∀ (k i : Nat) (y : List Int), i + d = max a.length b.length → 2 * d + 2 ≤ k → y.length = i → (∀ j, j < i → y.getD j 0 = ((at_ a j ^^^ at_ b j : Nat) : Int)) →
    ∃ r, bautaref18_Xor.l0 k a b y (i : Int) = some r ∧ r.length = max a.length b.length ∧ ∀ j, j < max a.length b.length → r.getD j 0 = ((at_ a j ^^^ at_ b j : Nat) : Int) := by
  induction d with
  | zero =>
    intro k i y hi hk hy h
    obtain ⟨k, rfl⟩ : ∃ q, k = q + 2 := ⟨k - 2, by omega⟩
    refine ⟨y, ?_, by omega, fun j hj => h j (by omega)⟩
    simp only [bautaref18_Xor.l0]
    rw [if_neg (by omega), show decide ((i : Int) < (b.length : Int)) = false from decide_eq_false (by omega)]
    simp only [bautaref18_Xor.j1]
    rw [if_neg (by decide)]
  | succ d ih =>
    intro k i y hi hk hy h
    obtain ⟨k, rfl⟩ : ∃ q, k = q + 2 := ⟨k - 2, by omega⟩
    have step : bautaref18_Xor.j1 (k + 1) a b y (i : Int) true = bautaref18_Xor.l0 k a b (y ++ [((at_ a i ^^^ at_ b i : Nat) : Int)]) ((i + 1 : Nat) : Int) := by
      simp only [bautaref18_Xor.j1]
      rw [if_pos trivial, at_f, Option.bind_some, at_f, Option.bind_some, if_pos (by omega), at_int ha, at_int hb, xor_u32 _ _ (at_lt ha i) (at_lt hb i), show wrap64 ((i : Int) + 1) = ((i + 1 : Nat) : Int) from w64 (by omega) (by omega)]
    obtain ⟨r, h1, h2, h3⟩ := ih k (i + 1) (y ++ [((at_ a i ^^^ at_ b i : Nat) : Int)]) (by omega) (by omega) (by simp [hy]) (fun j hj => by
      rw [snoc_at]
      by_cases e : j < y.length
      · rw [if_pos e]; exact h j (by omega)
      · rw [if_neg e, if_pos (by omega), show j = i by omega])
    refine ⟨r, ?_, h2, h3⟩
    rw [← h1, ← step]
    simp only [bautaref18_Xor.l0]
    by_cases c : (i : Int) < (a.length : Int)
    · rw [if_pos c]
    · rw [if_neg c, show decide ((i : Int) < (b.length : Int)) = true from decide_eq_true (by omega)]
theorem refxor_f (k : Nat) (a b : List Int) (ha : U a) (hb : U b) (hla : a.length ≤ 100) (hlb : b.length ≤ 100) (hk : 300 ≤ k) :
    ∃ r, bautaref18_Xor.f k a b = some r ∧ r.length = max a.length b.length ∧ ∀ j, j < max a.length b.length → r.getD j 0 = ((at_ a j ^^^ at_ b j : Nat) : Int) :=
  refxor_l0 a b ha hb hla hlb (max a.length b.length) k 0 [] (by omega) (by omega) rfl (fun j hj => absurd hj (by omega))

/-! ### the xor of all, by places -/
def Jn : Nat → (Nat → Nat) → Nat
  | 0, _ => 0
  | n + 1, f => f 0 ^^^ Jn n (fun j => f (j + 1))
theorem Jn_zero : ∀ n, Jn n (fun _ => 0) = 0
  | 0 => rfl
  | n + 1 => by show 0 ^^^ Jn n (fun _ => 0) = 0; rw [Jn_zero n]; rfl
theorem J_eq (l : List Int) : ∀ n, l.length ≤ n → J l = Jn n (at_ l) := by
  induction l with
  | nil =>
    intro n _
    have : at_ ([] : List Int) = fun _ => 0 := by funext j; unfold at_; rfl
    rw [this, Jn_zero]; rfl
  | cons x l ih =>
    intro n hn
    obtain ⟨n, rfl⟩ : ∃ q, n = q + 1 := ⟨n - 1, by simp at hn; omega⟩
    rw [J_cons, ih n (by simp at hn; omega)]
    rfl
theorem Jn_xor : ∀ n (f g : Nat → Nat), Jn n (fun j => f j ^^^ g j) = Jn n f ^^^ Jn n g
  | 0, _, _ => by simp [Jn]
  | n + 1, f, g => by
    show (f 0 ^^^ g 0) ^^^ Jn n (fun j => f (j + 1) ^^^ g (j + 1)) = (f 0 ^^^ Jn n fun j => f (j + 1)) ^^^ (g 0 ^^^ Jn n fun j => g (j + 1))
    rw [Jn_xor n]
    generalize Jn n (fun j => f (j + 1)) = p
    generalize Jn n (fun j => g (j + 1)) = q
    apply Nat.eq_of_testBit_eq; intro i
    simp only [Nat.testBit_xor]
    cases (f 0).testBit i <;> cases (g 0).testBit i <;> cases p.testBit i <;> cases q.testBit i <;> rfl
/-- What goes over xor goes over the xor of all. -/
theorem Jn_map (T : Nat → Nat) (h0 : T 0 = 0) (hT : ∀ x y, T (x ^^^ y) = T x ^^^ T y) : ∀ n (f : Nat → Nat), Jn n (fun j => T (f j)) = T (Jn n f)
  | 0, _ => h0.symm
  | n + 1, f => by
    show T (f 0) ^^^ Jn n (fun j => T (f (j + 1))) = T (f 0 ^^^ Jn n fun j => f (j + 1))
    rw [Jn_map T h0 hT n, hT]
theorem at_of {r : List Int} {f : Nat → Nat} (h : ∀ j, r.getD j 0 = (f j : Int)) : at_ r = f := by
  funext j; unfold at_; rw [h j]; rfl
end Go.Proofs.Ytcpcahhnkojolaa.BB
