/- WordAdds: the sum of any two words, its carry and whether its sign is wrong are what the reference says, bit by bit. No condition. -/
import Derived.Test.YtamfpmlfhfkeoaaWordPure
namespace Go.Proofs.Ytamfpmlfhfkeoaa.Pure
open Go.RowKit Go.Proofs.Ytamfpmlfhfkeoaa.PAll Go.Proofs.YtamfpmlfhfkeoaaW.PrintWords Go.Proofs.YtamfpmlfhfkeoaaW.PrintLast
open Go.Proofs.Ytamfpmlfhfkeoaa.B

theorem flag_eq (a b s : Nat) (ha : a < 4294967296) (hb : b < 4294967296) (hs : s < 4294967296) :
    (Go.bits .and .u32 (Go.bits .and .u32 (Go.bits .xor .u32 (a : Int) (s : Int)) (Go.bits .xor .u32 (b : Int) (s : Int))) 2147483648 != 0) = ((a.testBit 31 != s.testBit 31) && (b.testBit 31 != s.testBit 31)) := by
  rw [xor_u32 a s ha hs, xor_u32 b s hb hs, and_u32 _ _ (xor_lt ha hs) (xor_lt hb hs), show (2147483648 : Int) = ((2147483648 : Nat) : Int) from rfl,
    and_u32 _ _ (and_lt (xor_lt hb hs)) (by omega), top_and, Nat.testBit_and, Nat.testBit_xor, Nat.testBit_xor]
  cases a.testBit 31 <;> cases b.testBit 31 <;> cases s.testBit 31 <;> decide

theorem add_f (a b : Nat) (c : Bool) (ha : a < 4294967296) (hb : b < 4294967296) :
    word_Add.f (a : Int) (b : Int) c = some ((((a + b + c.toNat) % 4294967296 : Nat) : Int), decide (4294967296 ≤ a + b + c.toNat),
      ((a.testBit 31 != ((a + b + c.toNat) % 4294967296).testBit 31) && (b.testBit 31 != ((a + b + c.toNat) % 4294967296).testBit 31))) := by
  have hs : (a + b + c.toNat) % 4294967296 < 4294967296 := Nat.mod_lt _ (by decide)
  have e1 : ∀ n : Nat, n < 2 → (IntKind.u64.wrap (IntKind.u64.wrap (IntKind.u64.wrap (a : Int) + IntKind.u64.wrap (b : Int)) + IntKind.u64.wrap (n : Int))) = ((a + b + n : Nat) : Int) := by
    intro n hn; simp only [B.wrap_u64]; omega
  have key : ∀ n : Nat, n < 2 → c.toNat = n → (bits_Add32.f (a : Int) (b : Int) (n : Int)).bind (fun bt => some (bt.1, (bt.2 == 1), (Go.bits .and .u32 (Go.bits .and .u32 (Go.bits .xor .u32 (a : Int) bt.1) (Go.bits .xor .u32 (b : Int) bt.1)) 2147483648 != 0))) = some ((((a + b + c.toNat) % 4294967296 : Nat) : Int), decide (4294967296 ≤ a + b + c.toNat),
      ((a.testBit 31 != ((a + b + c.toNat) % 4294967296).testBit 31) && (b.testBit 31 != ((a + b + c.toNat) % 4294967296).testBit 31))) := by
    intro n hn hc
    rw [hc] at hs ⊢
    unfold bits_Add32.f
    rw [e1 n hn]
    simp only [Option.bind_some]
    rw [show (((a + b + n : Nat) : Int) % 4294967296) = (((a + b + n) % 4294967296 : Nat) : Int) by omega, flag_eq a b _ ha hb hs]
    have : ((((a + b + n : Nat) : Int) / 4294967296 % 4294967296) == 1) = decide (4294967296 ≤ a + b + n) := by
      by_cases h : 4294967296 ≤ a + b + n
      · rw [decide_eq_true h]; exact beq_iff_eq.mpr (by omega)
      · rw [decide_eq_false h]; exact beq_eq_false_iff_ne.mpr (by omega)
    rw [this]
  unfold word_Add.f
  cases c with
  | true => rw [if_pos rfl]; exact key 1 (by omega) rfl
  | false => rw [if_neg (by decide)]; exact key 0 (by omega) rfl

theorem ref_add (x y : List Bool) (hx : x.length = 32) (hy : y.length = 32) (d : Nat) : ∀ (k i : Nat) (out : List Bool) (c : Bool), i + d = 32 → out.length = i → 2 * d + 40 < k →
    ∃ out' c', out'.length = 32 ∧ ofB out' + 4294967296 * Bool.toNat c' = ofB out + 2 ^ i * (c.toNat + ofB (x.drop i) + ofB (y.drop i)) ∧
      bautaref01_Add.l0 k c x y out (i : Int) = some ((ofB out' : Int), c', (x.getD 31 false == y.getD 31 false && (out'.getD 31 false != x.getD 31 false))) := by
  induction d with
  | zero =>
    intro k i out c hi ho hk
    obtain rfl : i = 32 := by omega
    obtain ⟨k, rfl⟩ : ∃ m, k = m + 1 := ⟨k - 1, by omega⟩
    refine ⟨out, c, ho, ?_, ?_⟩
    · rw [List.drop_of_length_le (by omega), List.drop_of_length_le (by omega)]; simp [ofB]
    · simp only [bautaref01_Add.l0]
      rw [if_neg (by omega), word_f k out (by omega) (by omega)]
      simp only [Option.bind_some]
      rw [if_pos (by omega), if_pos (by omega), if_pos (show (31 : Int) < (out.length : Int) by omega), show rdOf false x 31 = x.getD 31 false from rfl, show rdOf false y 31 = y.getD 31 false from rfl, show rdOf false out 31 = out.getD 31 false from rfl]
      cases x.getD 31 false <;> cases y.getD 31 false <;> cases out.getD 31 false <;> rfl
  | succ d ih =>
    intro k i out c hi ho hk
    obtain ⟨k, rfl⟩ : ∃ m, k = m + 2 := ⟨k - 2, by omega⟩
    have hxd := drop_at x i (by omega)
    have hyd := drop_at y i (by omega)
    have step : ∀ (b c1 : Bool), b.toNat + 2 * c1.toNat = c.toNat + (x.getD i false).toNat + (y.getD i false).toNat →
        bautaref01_Add.l0 (k + 2) c x y out (i : Int) = bautaref01_Add.l0 k c1 x y (out ++ [b]) ((i : Int) + 1) →
        ∃ out' c', out'.length = 32 ∧ ofB out' + 4294967296 * Bool.toNat c' = ofB out + 2 ^ i * (c.toNat + ofB (x.drop i) + ofB (y.drop i)) ∧
          bautaref01_Add.l0 (k + 2) c x y out (i : Int) = some ((ofB out' : Int), c', (x.getD 31 false == y.getD 31 false && (out'.getD 31 false != x.getD 31 false))) := by
      intro b c1 hb h
      obtain ⟨out', c', h1, h2, h3⟩ := ih k (i + 1) (out ++ [b]) c1 (by omega) (by simp [ho]) (by omega)
      refine ⟨out', c', h1, ?_, ?_⟩
      · rw [h2, ofB_append, ho, hxd, hyd, Nat.pow_succ]
        simp only [ofB]
        rw [Nat.mul_assoc, Nat.add_assoc, ← Nat.mul_add]
        congr 2
        omega
      · rw [h, ← h3]; rfl
    have hl : out.length < 140737488355328 := by omega
    have hw : wrap64 ((i : Int) + 1) = (i : Int) + 1 := w64 (by omega) (by omega)
    have w1 : wrap64 (0 + 1) = 1 := w64 (by decide) (by decide)
    have w2 : wrap64 (1 + 1) = 2 := w64 (by decide) (by decide)
    have w3 : wrap64 (2 + 1) = 3 := w64 (by decide) (by decide)
    have w4 : wrap64 (0 + 1 + 1) = 2 := w64 (by decide) (by decide)
    have i1 : (i : Int) < 32 := by omega
    have i2 : (i : Int) < (x.length : Int) := by omega
    have i3 : (i : Int) < (y.length : Int) := by omega
    have i0 : (0 : Int) ≤ (i : Int) := by omega
    cases hxi : x.getD i false <;> cases hyi : y.getD i false <;> cases c <;> rw [hxi, hyi] at step
    all_goals
      first | refine step false false rfl ?_ | refine step true false rfl ?_ | refine step false true rfl ?_ | refine step true true rfl ?_
      simp only [bautaref01_Add.l0, bautaref01_Add.j1]
      rw [if_pos i1, if_pos i0, if_pos i2, getD_at, getD_at, hxi, hyi]
      simp only [if_pos i0, if_pos i3, if_pos hl, hw, w1, w2, w3, w4, if_true, if_false, Bool.false_eq_true]
      rfl

theorem WordAdds : bautalaw01_WordAdds.Pure := by
  intro a0 a1 c w0 w1
  obtain ⟨a, rfl, ha⟩ := wf_u32 w0
  obtain ⟨b, rfl, hb⟩ := wf_u32 w1
  obtain ⟨k, hk⟩ : ∃ k : Nat, 110 ≤ k := ⟨110, by omega⟩
  refine ⟨k, ?_⟩
  obtain ⟨out, c', h1, h2, h3⟩ := ref_add (bitsOf a) (bitsOf b) (bitsOf_length a) (bitsOf_length b) 32 k 0 [] c rfl rfl (by omega)
  have hlt := ofB_lt out
  rw [h1] at hlt
  simp only [ofB, List.drop_zero, ofB_bitsOf a ha, ofB_bitsOf b hb, Nat.pow_zero, Nat.one_mul, Nat.zero_add] at h2
  have hc' : c'.toNat ≤ 1 := by cases c' <;> simp
  have hc : c.toNat ≤ 1 := by cases c <;> simp
  have hs : (a + b + c.toNat) % 4294967296 = ofB out := by omega
  have hd : decide (4294967296 ≤ a + b + c.toNat) = c' := by
    cases c' with
    | true => exact decide_eq_true (by simp at h2; omega)
    | false => exact decide_eq_false (by simp at h2; omega)
  have hr : bautaref01_Add.f k (a : Int) (b : Int) c = some ((ofB out : Int), c', ((bitsOf a).getD 31 false == (bitsOf b).getD 31 false && (out.getD 31 false != (bitsOf a).getD 31 false))) := by
    unfold bautaref01_Add.f
    rw [bits_f k a ha (by omega), bits_f k b hb (by omega)]
    exact h3
  have hfl : ((((a.testBit 31 != ((a + b + c.toNat) % 4294967296).testBit 31) && (b.testBit 31 != ((a + b + c.toNat) % 4294967296).testBit 31)) == ((bitsOf a).getD 31 false == (bitsOf b).getD 31 false && (out.getD 31 false != (bitsOf a).getD 31 false)))) = true := by
    rw [bitsOf_at a 31 (by omega), bitsOf_at b 31 (by omega), ← ofB_bit out 31, hs]
    cases a.testBit 31 <;> cases b.testBit 31 <;> cases (ofB out).testBit 31 <;> decide
  have hdd : (decide (4294967296 ≤ a + b + c.toNat) == c') = true := by rw [hd]; cases c' <;> rfl
  have hss : (((a + b + c.toNat) % 4294967296 : Nat) : Int) = (ofB out : Int) := by rw [hs]
  unfold bautalaw01_WordAdds.f
  rw [add_f a b c ha hb, hr, lives_k (by omega)]
  simp only [Option.bind_some]
  rw [if_pos hss, if_pos hdd, if_pos hfl]
end Go.Proofs.Ytamfpmlfhfkeoaa.Pure
