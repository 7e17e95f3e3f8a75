/- Each block's words are the document's, and the stream of words. No condition. -/
import Derived.Test.YtkcechbibabpjaaPureTapeQB
import Derived.Test.YtkcechbibabpjaaPBx5
namespace Go.Proofs.Ytkcechbibabpjaa.Pure
set_option linter.unusedVariables false
open Go.RowKit Go.Proofs.Ytkcechbibabpjaa.B Go.Proofs.Ytkcechbibabpjaa.BW Go.Proofs.Ytkcechbibabpjaa.PB Go.Proofs.YtkcechbibabpjaaW.PrintWords Go.Proofs.YtkcechbibabpjaaW.PrintLast Go.Proofs.YtkcechbibabpjaaW.PrintMore

def U32 (xs : List Int) : Prop := ∀ x ∈ xs, 0 ≤ x ∧ x < 4294967296
theorem u32_rd {xs : List Int} (h : U32 xs) (i : Nat) (hi : i < xs.length) : ∃ a : Nat, a < 4294967296 ∧ rd xs (i : Int) = (a : Int) := by
  have e : rd xs (i : Int) = xs[i] := by unfold rd; simp [List.getD_eq_getElem?_getD, List.getElem?_eq_getElem hi]
  have hm := h _ (List.getElem_mem hi)
  exact ⟨xs[i].toNat, by omega, by rw [e]; omega⟩
theorem u32_set {xs : List Int} (h : U32 xs) (i a : Nat) (ha : a < 4294967296) : U32 (xs.set i (a : Int)) := by
  intro x hx
  rcases List.mem_or_eq_of_mem_set hx with hx | rfl
  · exact h x hx
  · omega
theorem q_lt (a b c d : Nat) (ha : a < 4294967296) (hb : b < 4294967296) (hc : c < 4294967296) (hd : d < 4294967296) :
    q_a2 a b c d < 4294967296 ∧ q_b2 a b c d < 4294967296 ∧ q_c2 a b c d < 4294967296 ∧ q_d2 a b c d < 4294967296 := by
  have h1 := xor_lt hd (A1_lt a b)
  have l1 : q_d1 a b d < 4294967296 := R_lt _ _ h1
  have h2 := xor_lt hb (A1_lt c (q_d1 a b d))
  have l2 : q_b1 a b c d < 4294967296 := R_lt _ _ h2
  have h3 := xor_lt l1 (A1_lt (A1 a b) (q_b1 a b c d))
  have l3 : q_d2 a b c d < 4294967296 := R_lt _ _ h3
  have h4 := xor_lt l2 (A1_lt (A1 c (q_d1 a b d)) (q_d2 a b c d))
  exact ⟨A1_lt _ _, R_lt _ _ h4, A1_lt _ _, l3⟩
theorem mix_both (k : Nat) (hk : 110 ≤ k) (xs : List Int) (h : U32 xs) (hl : xs.length = 16) (k0 k1 k2 k3 : Nat)
    (hd : k0 < 16 ∧ k1 < 16 ∧ k2 < 16 ∧ k3 < 16 ∧ k0 ≠ k1 ∧ k0 ≠ k2 ∧ k0 ≠ k3 ∧ k1 ≠ k2 ∧ k1 ≠ k3 ∧ k2 ≠ k3) :
    ∃ ys, mixL xs k0 k1 k2 k3 = some ys ∧ bautaref38_four.f k xs (k0 : Int) (k1 : Int) (k2 : Int) (k3 : Int) = some ys ∧ U32 ys ∧ ys.length = 16 := by
  obtain ⟨h0, h1, h2, h3, d1, d2, d3, d4, d5, d6⟩ := hd
  obtain ⟨a, ha, ea⟩ := u32_rd h k0 (by omega)
  obtain ⟨b, hb, eb⟩ := u32_rd h k1 (by omega)
  obtain ⟨c, hc, ec⟩ := u32_rd h k2 (by omega)
  obtain ⟨d, hd, ed⟩ := u32_rd h k3 (by omega)
  obtain ⟨l1, l2, l3, l4⟩ := q_lt a b c d ha hb hc hd
  refine ⟨(((xs.set k0 (q_a2 a b c d : Int)).set k1 (q_b2 a b c d : Int)).set k2 (q_c2 a b c d : Int)).set k3 (q_d2 a b c d : Int), ?_, ?_, ?_, ?_⟩
  · unfold mixL
    rw [ea, eb, ec, ed, quarter_f a b c d ha hb hc hd, Option.map_some]
  · unfold bautaref38_four.f
    rw [if_pos (by omega), ea, eb, ec, ed, refq_f k a b c d ha hb hc hd hk, Option.map_some]
    rfl
  · exact u32_set (u32_set (u32_set (u32_set h _ _ l1) _ _ l2) _ _ l3) _ _ l4
  · simp [hl]
theorem twice_both (k : Nat) (hk : 110 ≤ k) (xs : List Int) (h : U32 xs) (hl : xs.length = 16) :
    ∃ ys, twice xs = some ys ∧ twiceR k xs = some ys ∧ U32 ys ∧ ys.length = 16 := by
  obtain ⟨x1, m1, f1, u1, l1⟩ := mix_both k hk xs h hl 0 4 8 12 (by decide)
  obtain ⟨x2, m2, f2, u2, l2⟩ := mix_both k hk x1 u1 l1 1 5 9 13 (by decide)
  obtain ⟨x3, m3, f3, u3, l3⟩ := mix_both k hk x2 u2 l2 2 6 10 14 (by decide)
  obtain ⟨x4, m4, f4, u4, l4⟩ := mix_both k hk x3 u3 l3 3 7 11 15 (by decide)
  obtain ⟨x5, m5, f5, u5, l5⟩ := mix_both k hk x4 u4 l4 0 5 10 15 (by decide)
  obtain ⟨x6, m6, f6, u6, l6⟩ := mix_both k hk x5 u5 l5 1 6 11 12 (by decide)
  obtain ⟨x7, m7, f7, u7, l7⟩ := mix_both k hk x6 u6 l6 2 7 8 13 (by decide)
  obtain ⟨x8, m8, f8, u8, l8⟩ := mix_both k hk x7 u7 l7 3 4 9 14 (by decide)
  refine ⟨x8, ?_, ?_, u8, l8⟩
  · unfold twice
    rw [m1, Option.bind_some, m2, Option.bind_some, m3, Option.bind_some, m4, Option.bind_some, m5, Option.bind_some, m6, Option.bind_some, m7, Option.bind_some, m8]
  · unfold twiceR
    refine (Option.bind_eq_some_iff.mpr ⟨x1, f1, Option.bind_eq_some_iff.mpr ⟨x2, f2, Option.bind_eq_some_iff.mpr ⟨x3, f3, Option.bind_eq_some_iff.mpr ⟨x4, f4, Option.bind_eq_some_iff.mpr ⟨x5, f5, Option.bind_eq_some_iff.mpr ⟨x6, f6, Option.bind_eq_some_iff.mpr ⟨x7, f7, f8⟩⟩⟩⟩⟩⟩⟩)
theorem rounds_both (k : Nat) (hk : 110 ≤ k) : ∀ (n : Nat) (xs : List Int), U32 xs → xs.length = 16 → ∃ ys, rounds10 n xs = some ys ∧ roundsR k n xs = some ys ∧ U32 ys ∧ ys.length = 16
  | 0, xs, h, hl => ⟨xs, rfl, rfl, h, hl⟩
  | n + 1, xs, h, hl => by
    obtain ⟨x1, m1, f1, u1, l1⟩ := twice_both k hk xs h hl
    obtain ⟨x2, m2, f2, u2, l2⟩ := rounds_both k hk n x1 u1 l1
    refine ⟨x2, ?_, ?_, u2, l2⟩
    · rw [rounds10, m1, Option.bind_some, m2]
    · rw [roundsR, f1, Option.bind_some, f2]
theorem sums_u32 : ∀ (m s : List Int), U32 (sums m s)
  | [], _ => by intro x hx; simp [sums] at hx
  | _ :: _, [] => by intro x hx; simp [sums] at hx
  | a :: m, b :: s => by
    intro x hx
    have hx' : x ∈ ((a + b) % 4294967296) :: sums m s := hx
    rcases List.mem_cons.mp hx' with rfl | hx
    · omega
    · exact sums_u32 m s x hx
theorem sums_length {m s : List Int} (hm : m.length = 16) (hs : s.length = 16) : (sums m s).length = 16 := by unfold sums; rw [List.length_zipWith, hm, hs]; rfl
/-- A block's words. -/
noncomputable def blkN (a0 a1 a2 a3 a4 a5 a6 a7 c n0 n1 n2 : Nat) : List Int :=
  sums ((rounds10 10 (startL (a0 : Int) (a1 : Int) (a2 : Int) (a3 : Int) (a4 : Int) (a5 : Int) (a6 : Int) (a7 : Int) (c : Int) (n0 : Int) (n1 : Int) (n2 : Int))).getD []) (startL (a0 : Int) (a1 : Int) (a2 : Int) (a3 : Int) (a4 : Int) (a5 : Int) (a6 : Int) (a7 : Int) (c : Int) (n0 : Int) (n1 : Int) (n2 : Int))
theorem block_both (k : Nat) (hk : 110 ≤ k) (a0 a1 a2 a3 a4 a5 a6 a7 c n0 n1 n2 : Nat) (h0 : a0 < 4294967296) (h1 : a1 < 4294967296) (h2 : a2 < 4294967296) (h3 : a3 < 4294967296) (h4 : a4 < 4294967296) (h5 : a5 < 4294967296) (h6 : a6 < 4294967296) (h7 : a7 < 4294967296) (hc : c < 4294967296) (hn0 : n0 < 4294967296) (hn1 : n1 < 4294967296) (hn2 : n2 < 4294967296) :
    ∃ zs, zs = blkN a0 a1 a2 a3 a4 a5 a6 a7 c n0 n1 n2 ∧ zs.length = 16 ∧ U32 zs ∧
      tape_block.f (a0 : Int) (a1 : Int) (a2 : Int) (a3 : Int) (a4 : Int) (a5 : Int) (a6 : Int) (a7 : Int) (c : Int) (n0 : Int) (n1 : Int) (n2 : Int) = some (rd zs 0, rd zs 1, rd zs 2, rd zs 3, rd zs 4, rd zs 5, rd zs 6, rd zs 7, rd zs 8, rd zs 9, rd zs 10, rd zs 11, rd zs 12, rd zs 13, rd zs 14, rd zs 15) ∧
      bautaref38_Block.f k (a0 : Int) (a1 : Int) (a2 : Int) (a3 : Int) (a4 : Int) (a5 : Int) (a6 : Int) (a7 : Int) (c : Int) (n0 : Int) (n1 : Int) (n2 : Int) = some zs := by
  obtain ⟨st, hst⟩ : ∃ st, st = startL (a0 : Int) (a1 : Int) (a2 : Int) (a3 : Int) (a4 : Int) (a5 : Int) (a6 : Int) (a7 : Int) (c : Int) (n0 : Int) (n1 : Int) (n2 : Int) := ⟨_, rfl⟩
  have hl : st.length = 16 := by rw [hst]; rfl
  have hu : U32 st := by
    intro x hx
    rw [hst] at hx
    simp only [startL, List.mem_cons, List.not_mem_nil, or_false] at hx
    omega
  obtain ⟨ys, m1, f1, u1, l1⟩ := rounds_both k hk 10 st hu hl
  refine ⟨sums ys st, ?_, sums_length l1 hl, sums_u32 _ _, ?_, ?_⟩
  · unfold blkN
    rw [← hst, m1]
    rfl
  · unfold tape_block.f
    rw [← hst, m1, Option.map_some]
  · unfold bautaref38_Block.f
    rw [← hst, f1, Option.bind_some, if_pos l1]
theorem list_rd (z : List Int) (hz : z.length = 16) : [rd z 0, rd z 1, rd z 2, rd z 3, rd z 4, rd z 5, rd z 6, rd z 7, rd z 8, rd z 9, rd z 10, rd z 11, rd z 12, rd z 13, rd z 14, rd z 15] = z := by
  obtain ⟨y0, y1, y2, y3, y4, y5, y6, y7, y8, y9, y10, y11, y12, y13, y14, y15, rfl⟩ := list16 z hz
  rfl

/-! ### The stream -/
noncomputable def wv (s0 s1 m : Nat) : Int := rd (blkN s0 s1 0 0 0 0 0 0 ((m / 16) % 4294967296) 0 0 0) ((m % 16 : Nat) : Int)
theorem blk_map (s0 s1 j : Nat) (h0 : s0 < 4294967296) (h1 : s1 < 4294967296) : blkN s0 s1 0 0 0 0 0 0 (j % 4294967296) 0 0 0 = (List.range 16).map fun i => wv s0 s1 (16 * j + i) := by
  obtain ⟨zs, hz, hl, _, _, _⟩ := block_both 110 (Nat.le_refl _) s0 s1 0 0 0 0 0 0 (j % 4294967296) 0 0 0 h0 h1 (by omega) (by omega) (by omega) (by omega) (by omega) (by omega) (by omega) (by omega) (by omega) (by omega)
  rw [← hz]
  apply List.ext_getElem
  · simp [hl]
  · intro i hi1 hi2
    have hi : i < 16 := by omega
    rw [List.getElem_map, List.getElem_range]
    unfold wv
    rw [show (16 * j + i) / 16 = j by omega, show (16 * j + i) % 16 = i by omega, ← hz]
    unfold rd
    simp [List.getD_eq_getElem?_getD, List.getElem?_eq_getElem hi1]
theorem cnt_f (f j : Nat) (hf : f < 1000000000) (hj : j < 1000000000) : cnt32 (f : Int) (16 * j) = (((f + j) % 4294967296 : Nat) : Int) := by
  unfold cnt32
  rw [show (((16 * j : Nat) : Int) / 16) = (j : Int) by omega, show wrap64 (j : Int) = (j : Int) from w64 (by omega) (by omega), w64 (by omega) (by omega)]
  omega
theorem stream_more (g : Nat → Int) (j : Nat) : (List.range (16 * j)).map g ++ (List.range 16).map (fun i => g (16 * j + i)) = (List.range (16 * (j + 1))).map g := by
  rw [show 16 * (j + 1) = 16 * j + 16 by omega, List.range_add, List.map_append, List.map_map]
  rfl
theorem words_l (s f n : Nat) (hs : s < 18446744073709551616) (hf : f < 1000000) (hn : n < 10000000) : ∀ (d k j : Nat), n ≤ 16 * (j + d) → j ≤ 1000000 → d < k →
    tape_words.l0 k (s : Int) (f : Int) (n : Int) ((List.range (16 * j)).map fun i => wv (s % 4294967296) (s / 4294967296) (16 * f + i)) = some ((List.range n).map fun i => wv (s % 4294967296) (s / 4294967296) (16 * f + i)) := by
  intro d
  induction d with
  | zero =>
    intro k j hd hj hk
    obtain ⟨k, rfl⟩ : ∃ m, k = m + 1 := ⟨k - 1, by omega⟩
    simp only [tape_words.l0]
    rw [if_neg (by simp; omega), if_pos (by omega), ← List.map_take, List.take_range, show min ((n : Int)).toNat (16 * j) = n by simp; omega]
  | succ d ih =>
    intro k j hd hj hk
    obtain ⟨k, rfl⟩ : ∃ m, k = m + 1 := ⟨k - 1, by omega⟩
    by_cases hc : 16 * j < n
    · obtain ⟨zs, hz, hl, _, hb, _⟩ := block_both 110 (Nat.le_refl _) (s % 4294967296) (s / 4294967296) 0 0 0 0 0 0 ((f + j) % 4294967296) 0 0 0 (by omega) (by omega) (by omega) (by omega) (by omega) (by omega) (by omega) (by omega) (by omega) (by omega) (by omega) (by omega)
      have e0 : ((s : Int) % 4294967296) = ((s % 4294967296 : Nat) : Int) := by omega
      have e1 : ((s : Int) / 4294967296 % 4294967296) = ((s / 4294967296 : Nat) : Int) := by omega
      simp only [tape_words.l0]
      rw [if_pos (by simp; omega), if_pos (by simp; omega)]
      simp only [List.length_map, List.length_range]
      rw [e0, e1, cnt_f f j (by omega) (by omega)]
      simp only [Int.natCast_zero] at hb
      rw [hb, Option.bind_some]
      simp only
      rw [list_rd zs hl, hz, show ((f + j) % 4294967296) = (f + j) % 4294967296 from rfl, blk_map _ _ (f + j) (by omega) (by omega)]
      have hm := stream_more (fun i => wv (s % 4294967296) (s / 4294967296) (16 * f + i)) j
      have he : (fun i => wv (s % 4294967296) (s / 4294967296) (16 * (f + j) + i)) = (fun i => wv (s % 4294967296) (s / 4294967296) (16 * f + (16 * j + i))) := by
        funext i
        rw [show 16 * (f + j) + i = 16 * f + (16 * j + i) by omega]
      rw [he, hm]
      exact ih k (j + 1) (by omega) (by omega) (by omega)
    · simp only [tape_words.l0]
      rw [if_neg (by simp; omega), if_pos (by omega), ← List.map_take, List.take_range, show min ((n : Int)).toNat (16 * j) = n by simp; omega]
theorem words_f (k s f n : Nat) (hs : s < 18446744073709551616) (hf : f < 1000000) (hn : n < 10000000) (hk : 700000 ≤ k) :
    tape_words.f k (s : Int) (f : Int) (n : Int) = some ((List.range n).map fun i => wv (s % 4294967296) (s / 4294967296) (16 * f + i)) := by
  have h := words_l s f n hs hf hn 650000 k 0 (by omega) (by omega) (by omega)
  exact h
theorem ref_words_l (s n : Nat) (hs : s < 18446744073709551616) (hn : n < 10000000) : ∀ (d k j : Nat), n ≤ 16 * (j + d) → j ≤ 1000000 → d + 110 < k →
    bautaref38_Words.l0 k (n : Int) ((List.range (16 * j)).map fun i => wv (s % 4294967296) (s / 4294967296) i) ((j % 4294967296 : Nat) : Int) ((s % 4294967296 : Nat) : Int) ((s / 4294967296 : Nat) : Int) 0 0 0 0 0 0 = some ((List.range n).map fun i => wv (s % 4294967296) (s / 4294967296) i) := by
  intro d
  induction d with
  | zero =>
    intro k j hd hj hk
    obtain ⟨k, rfl⟩ : ∃ m, k = m + 1 := ⟨k - 1, by omega⟩
    simp only [bautaref38_Words.l0]
    rw [if_neg (by simp; omega), if_neg (by omega), if_pos (by omega), if_pos (by simp; omega), ← List.map_take, List.take_range, show min ((n : Int)).toNat (16 * j) = n by simp; omega]
  | succ d ih =>
    intro k j hd hj hk
    obtain ⟨k, rfl⟩ : ∃ m, k = m + 1 := ⟨k - 1, by omega⟩
    by_cases hc : 16 * j < n
    · obtain ⟨zs, hz, hl, _, _, hb⟩ := block_both k (by omega) (s % 4294967296) (s / 4294967296) 0 0 0 0 0 0 (j % 4294967296) 0 0 0 (by omega) (by omega) (by omega) (by omega) (by omega) (by omega) (by omega) (by omega) (by omega) (by omega) (by omega) (by omega)
      simp only [bautaref38_Words.l0]
      simp only [Int.natCast_zero] at hb
      rw [if_pos (by simp; omega), hb, Option.bind_some, if_pos (by simp [hl]; omega), hz, blk_map _ _ j (by omega) (by omega)]
      have hm := stream_more (fun i => wv (s % 4294967296) (s / 4294967296) i) j
      rw [hm, show (((j % 4294967296 : Nat) : Int) + 1) % 4294967296 = (((j + 1) % 4294967296 : Nat) : Int) by omega]
      exact ih k (j + 1) (by omega) (by omega) (by omega)
    · simp only [bautaref38_Words.l0]
      rw [if_neg (by simp; omega), if_neg (by omega), if_pos (by omega), if_pos (by simp; omega), ← List.map_take, List.take_range, show min ((n : Int)).toNat (16 * j) = n by simp; omega]
theorem ref_words_f (k s n : Nat) (hs : s < 18446744073709551616) (hn : n < 10000000) (hk : 700000 ≤ k) :
    bautaref38_Words.f k (s : Int) (n : Int) = some ((List.range n).map fun i => wv (s % 4294967296) (s / 4294967296) i) := by
  unfold bautaref38_Words.f
  have e0 : (Int.tmod (s : Int) 4294967296) % 4294967296 = ((s % 4294967296 : Nat) : Int) := by rw [Int.tmod_eq_emod_of_nonneg (by omega)]; omega
  have e1 : (IntKind.u64.wrap (Int.tdiv (s : Int) 4294967296)) % 4294967296 = ((s / 4294967296 : Nat) : Int) := by rw [Int.tdiv_eq_ediv_of_nonneg (by omega), Ytkcechbibabpjaa.B.wrap_u64]; omega
  rw [e0, e1]
  exact ref_words_l s n hs hn 650000 k 0 (by omega) (by omega) (by omega)
theorem same_l (xs : List Int) : ∀ (d k i : Nat), i + d = xs.length → xs.length < 1000000000 → d < k → bautaref05_Same.l0 k xs xs (i : Int) = some true := by
  intro d
  induction d with
  | zero =>
    intro k i hi hl hk
    obtain ⟨k, rfl⟩ : ∃ m, k = m + 1 := ⟨k - 1, by omega⟩
    simp only [bautaref05_Same.l0]
    rw [if_neg (by omega)]
  | succ d ih =>
    intro k i hi hl hk
    obtain ⟨k, rfl⟩ : ∃ m, k = m + 1 := ⟨k - 1, by omega⟩
    simp only [bautaref05_Same.l0]
    rw [if_pos (by omega), if_pos (by omega), if_pos (by omega), if_pos trivial, w64 (by omega) (by omega)]
    exact ih k (i + 1) (by omega) hl (by omega)
theorem same_f (k : Nat) (xs : List Int) (hl : xs.length < 1000000000) (hk : xs.length < k) : bautaref05_Same.f k xs xs = some true := by
  unfold bautaref05_Same.f
  rw [if_pos rfl]
  exact same_l xs xs.length k 0 (by omega) hl hk
end Go.Proofs.Ytkcechbibabpjaa.Pure
