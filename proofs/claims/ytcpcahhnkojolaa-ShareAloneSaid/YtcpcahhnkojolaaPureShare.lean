/- What short, Join, Split and Same come to. Plain Lean. -/
import Derived.Test.YtcpcahhnkojolaaBits
import Derived.Test.YtcpcahhnkojolaaPAllx2
namespace Go.Proofs.Ytcpcahhnkojolaa.B
open Go.RowKit Go.Proofs.Ytcpcahhnkojolaa.PAll Go.Proofs.YtcpcahhnkojolaaW.PrintWords Go.Proofs.YtcpcahhnkojolaaW.PrintLast Go.Proofs.YtcpcahhnkojolaaW.PrintMore

theorem w64 {i : Int} (h : -9000000000000000000 ≤ i) (h' : i ≤ 9000000000000000000) : wrap64 i = i := by unfold wrap64; omega
theorem rd_at (l : List Int) (i : Nat) : rd l (i : Int) = l.getD i 0 := by simp [rd]
theorem dropI (l : List Int) (i : Nat) (hi : i < l.length) : l.drop i = l.getD i 0 :: l.drop (i + 1) := by
  rw [List.drop_eq_getElem_cons hi, List.getD_eq_getElem?_getD, List.getElem?_eq_getElem hi]; rfl
/-- All are words. -/
def U (l : List Int) : Prop := ∀ x ∈ l, 0 ≤ x ∧ x < 4294967296
theorem U_of {l : List Int} (h : ∀ x ∈ l, (Lit.int .u32 x).wf = true) : U l := by
  intro x hx
  obtain ⟨n, rfl, hn⟩ := wf_u32 (h x hx)
  omega
theorem U_take {l : List Int} (h : U l) (n : Nat) : U (l.take n) := fun x hx => h x (List.mem_of_mem_take hx)
theorem U_drop {l : List Int} (h : U l) (n : Nat) : U (l.drop n) := fun x hx => h x (List.mem_of_mem_drop hx)
theorem U_append {l m : List Int} (h : U l) (k : U m) : U (l ++ m) := fun x hx => by
  rcases List.mem_append.mp hx with h' | h'
  · exact h x h'
  · exact k x h'
theorem U_cons {x : Int} {l : List Int} (hx : 0 ≤ x ∧ x < 4294967296) (h : U l) : U (x :: l) := fun y hy => by
  rcases List.mem_cons.mp hy with rfl | h'
  · exact hx
  · exact h y h'
theorem U_at {l : List Int} (h : U l) (i : Nat) : 0 ≤ l.getD i 0 ∧ l.getD i 0 < 4294967296 := by
  rw [List.getD_eq_getElem?_getD]
  rcases Nat.lt_or_ge i l.length with h' | h'
  · rw [List.getElem?_eq_getElem h']; exact h _ (List.getElem_mem h')
  · rw [List.getElem?_eq_none h']; exact ⟨by decide, by decide⟩

/-- The xor of all. -/
def J (l : List Int) : Nat := l.foldl (fun w x => w ^^^ x.toNat) 0
theorem foldx (l : List Int) (a : Nat) : l.foldl (fun w x => w ^^^ x.toNat) a = a ^^^ J l := by
  unfold J
  induction l generalizing a with
  | nil => simp
  | cons x l ih => rw [List.foldl_cons, ih, List.foldl_cons, ih (0 ^^^ x.toNat), Nat.zero_xor, Nat.xor_assoc]
theorem J_cons (x : Int) (l : List Int) : J (x :: l) = x.toNat ^^^ J l := by
  conv => lhs; unfold J
  rw [List.foldl_cons, foldx, Nat.zero_xor]
theorem J_append (l m : List Int) : J (l ++ m) = J l ^^^ J m := by
  conv => lhs; unfold J
  rw [List.foldl_append, foldx, ← J]
theorem J_lt {l : List Int} (h : U l) : J l < 4294967296 := by
  induction l with
  | nil => decide
  | cons x l ih =>
    rw [J_cons]
    have hx := h x List.mem_cons_self
    exact xor_lt (by omega) (ih fun y hy => h y (List.mem_cons_of_mem _ hy))
theorem xor_int (a : Nat) (x : Int) (ha : a < 4294967296) (hx : 0 ≤ x ∧ x < 4294967296) : Go.bits .xor .u32 (a : Int) x = ((a ^^^ x.toNat : Nat) : Int) := by
  have := xor_u32 a x.toNat ha (by omega)
  rw [Int.toNat_of_nonneg hx.1] at this
  exact this

theorem short_f (l : List Int) : bautalaw18_short.f l = some (l.take 100) := by
  unfold bautalaw18_short.f
  by_cases h : (l.length : Int) > 100
  · have h2 : ([] : List Int).length + (l.take 100).length < 35184372088832 := by rw [List.length_nil, List.length_take]; omega
    rw [if_pos h, if_pos (by omega), Option.bind_some, if_pos h2]; rfl
  · have h2 : ([] : List Int).length + l.length < 35184372088832 := by rw [List.length_nil]; omega
    rw [if_neg h, Option.bind_some, if_pos h2, List.take_of_length_le (by omega)]; rfl
theorem take_take (l : List Int) : (l.take 100).take 100 = l.take 100 := by rw [List.take_take, Nat.min_self]

theorem join_l0 (l : List Int) (hu : U l) (hl : l.length < 1000000) (d : Nat) : ∀ (k i a : Nat), i + d = l.length → d < k → a < 4294967296 →
    share_join.l0 k (a : Int) l (l.length : Int) (i : Int) = some (((l.drop i).foldl (fun w x => w ^^^ x.toNat) a : Nat) : Int) := by
  induction d with
  | zero =>
    intro k i a hi hk ha
    obtain ⟨k, rfl⟩ : ∃ q, k = q + 1 := ⟨k - 1, by omega⟩
    simp only [share_join.l0]
    rw [if_neg (by omega), List.drop_of_length_le (by omega)]; rfl
  | succ d ih =>
    intro k i a hi hk ha
    obtain ⟨k, rfl⟩ : ∃ q, k = q + 1 := ⟨k - 1, by omega⟩
    have hx := U_at hu i
    simp only [share_join.l0]
    rw [if_pos (by omega), if_pos (by omega), if_pos (by omega), rd_at, xor_int a _ ha hx, show wrap64 ((i : Int) + 1) = ((i + 1 : Nat) : Int) from w64 (by omega) (by omega), ih k (i + 1) _ (by omega) (by omega) (xor_lt ha (by omega)), dropI l i (by omega)]
    rfl
theorem join_f (k : Nat) (l : List Int) (hu : U l) (hl : l.length < 1000000) (hk : l.length < k) : share_join.f k l = some (J l : Int) := by
  unfold share_join.f
  have := join_l0 l hu hl l.length k 0 0 (by omega) hk (by decide)
  exact this
theorem Join_f (k : Nat) (l : List Int) (hu : U l) (hl : l.length < 1000000) (hk : l.length < k) : share_Join.f k l = some (J l : Int) := by
  unfold share_Join.f; rw [join_f k l hu hl hk]; rfl
theorem refjoin_l0 (l : List Int) (hu : U l) (hl : l.length < 1000000) (d : Nat) : ∀ (k i a : Nat), i + d = l.length → d < k → a < 4294967296 →
    bautaref18_Join.l0 k l (a : Int) (i : Int) = some (((l.drop i).foldl (fun w x => w ^^^ x.toNat) a : Nat) : Int) := by
  induction d with
  | zero =>
    intro k i a hi hk ha
    obtain ⟨k, rfl⟩ : ∃ q, k = q + 1 := ⟨k - 1, by omega⟩
    simp only [bautaref18_Join.l0]
    rw [if_neg (by omega), List.drop_of_length_le (by omega)]; rfl
  | succ d ih =>
    intro k i a hi hk ha
    obtain ⟨k, rfl⟩ : ∃ q, k = q + 1 := ⟨k - 1, by omega⟩
    have hx := U_at hu i
    simp only [bautaref18_Join.l0]
    rw [if_pos (by omega), if_pos (by omega), rd_at, xor_int a _ ha hx, show wrap64 ((i : Int) + 1) = ((i + 1 : Nat) : Int) from w64 (by omega) (by omega), ih k (i + 1) _ (by omega) (by omega) (xor_lt ha (by omega)), dropI l i (by omega)]
    rfl
theorem refjoin_f (k : Nat) (l : List Int) (hu : U l) (hl : l.length < 1000000) (hk : l.length < k) : bautaref18_Join.f k l = some (J l : Int) := by
  unfold bautaref18_Join.f
  exact refjoin_l0 l hu hl l.length k 0 0 (by omega) hk (by decide)
theorem split_f (k : Nat) (w : Nat) (l : List Int) (hw : w < 4294967296) (hu : U l) (hl : l.length < 1000000) (hk : l.length < k) : share_Split.f k (w : Int) l = some (((w ^^^ J l : Nat) : Int) :: l) := by
  unfold share_Split.f
  have h2 : ([((w ^^^ J l : Nat) : Int)] : List Int).length + l.length < 35184372088832 := by simp; omega
  rw [join_f k l hu hl hk, Option.bind_some, xor_u32 w _ hw (J_lt hu), Option.bind_some, if_pos h2]
  rfl
theorem same_l0 (l : List Int) (hl : l.length < 1000000) (d : Nat) : ∀ (k i : Nat), i + d = l.length → d < k → bautaref05_Same.l0 k l l (i : Int) = some true := by
  induction d with
  | zero =>
    intro k i hi hk
    obtain ⟨k, rfl⟩ : ∃ q, k = q + 1 := ⟨k - 1, by omega⟩
    simp only [bautaref05_Same.l0]
    rw [if_neg (by omega)]
  | succ d ih =>
    intro k i hi hk
    obtain ⟨k, rfl⟩ : ∃ q, k = q + 1 := ⟨k - 1, by omega⟩
    simp only [bautaref05_Same.l0]
    rw [if_pos (by omega), if_pos (by omega), if_pos (by omega), if_pos trivial, show wrap64 ((i : Int) + 1) = ((i + 1 : Nat) : Int) from w64 (by omega) (by omega)]
    exact ih k (i + 1) (by omega) (by omega)
theorem same_f (k : Nat) (l : List Int) (hl : l.length < 1000000) (hk : l.length < k) : bautaref05_Same.f k l l = some true := by
  unfold bautaref05_Same.f
  rw [if_pos rfl]
  exact same_l0 l hl l.length k 0 (by omega) hk
theorem lives_k {k : Nat} (h : 100 ≤ k) : bautalaw18_lives.f k = some true := by
  induction k with
  | zero => omega
  | succ k ih =>
    rcases Nat.lt_or_ge k 100 with h' | h'
    · obtain rfl : k = 99 := by omega
      decide +kernel
    · exact bautalaw18_lives.mono k _ (ih h')
theorem len_take (l : List Int) : (l.take 100).length ≤ 100 := by rw [List.length_take]; omega
end Go.Proofs.Ytcpcahhnkojolaa.B
