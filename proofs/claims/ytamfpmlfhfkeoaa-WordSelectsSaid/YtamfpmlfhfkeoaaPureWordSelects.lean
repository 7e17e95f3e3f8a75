/- WordSelects: bits of two words as a third one says, and which words have an odd number of ones, are what the reference says. No condition. -/
import Derived.Test.YtamfpmlfhfkeoaaPureWordHalves
import Derived.Test.YtamfpmlfhfkeoaaPAllx4
namespace Go.Proofs.Ytamfpmlfhfkeoaa.Pure
open Go.RowKit Go.Proofs.Ytamfpmlfhfkeoaa.PAll Go.Proofs.YtamfpmlfhfkeoaaW.PrintWords Go.Proofs.YtamfpmlfhfkeoaaW.PrintLast Go.Proofs.YtamfpmlfhfkeoaaW.PrintMore
open Go.Proofs.Ytamfpmlfhfkeoaa.B

theorem ref_sel (x y z : List Bool) (hx : x.length = 32) (hy : y.length = 32) (hz : z.length = 32) (d : Nat) : ∀ (k i : Nat) (out : List Bool), i + d = 32 → out.length = i →
    (∀ j, j < i → out.getD j false = if x.getD j false then y.getD j false else z.getD j false) → d + 40 < k →
    ∃ out' : List Bool, out'.length = 32 ∧ (∀ j, j < 32 → out'.getD j false = if x.getD j false then y.getD j false else z.getD j false) ∧ bautaref01_Sel.l0 k x y z out (i : Int) = some (ofB out' : Int) := by
  induction d with
  | zero =>
    intro k i out hi ho hj hk
    obtain rfl : i = 32 := by omega
    obtain ⟨k, rfl⟩ : ∃ m, k = m + 1 := ⟨k - 1, by omega⟩
    refine ⟨out, ho, hj, ?_⟩
    simp only [bautaref01_Sel.l0]
    rw [if_neg (by omega), word_f k out (by omega) (by omega), Option.bind_some]
  | succ d ih =>
    intro k i out hi ho hj hk
    obtain ⟨k, rfl⟩ : ∃ m, k = m + 1 := ⟨k - 1, by omega⟩
    have step : ∀ b : Bool, (b = if x.getD i false then y.getD i false else z.getD i false) → ∀ j, j < i + 1 → (out ++ [b]).getD j false = if x.getD j false then y.getD j false else z.getD j false := by
      intro b hb j hj'
      rw [List.getD_eq_getElem?_getD]
      rcases Nat.lt_or_ge j i with h | h
      · rw [List.getElem?_append_left (by omega), ← List.getD_eq_getElem?_getD]; exact hj j h
      · obtain rfl : j = i := by omega
        rw [List.getElem?_append_right (by omega), ho, Nat.sub_self]; exact hb
    have hw : wrap64 ((i : Int) + 1) = ((i + 1 : Nat) : Int) := w64 (by omega) (by omega)
    simp only [bautaref01_Sel.l0]
    rw [if_pos (by omega), if_pos (by omega), if_pos (by omega), getD_at, getD_at, getD_at, hw]
    cases hxi : x.getD i false with
    | true =>
      rw [if_pos rfl, if_pos (by omega), if_pos (by omega)]
      exact ih k (i + 1) _ (by omega) (by simp [ho]) (step _ (by rw [hxi]; rfl)) (by omega)
    | false =>
      rw [if_neg (by decide), if_pos (by omega), if_pos (by omega)]
      exact ih k (i + 1) _ (by omega) (by simp [ho]) (step _ (by rw [hxi]; rfl)) (by omega)
theorem ref_sel_f (k m a b : Nat) (hm : m < 4294967296) (ha : a < 4294967296) (hb : b < 4294967296) (hk : 110 ≤ k) : bautaref01_Sel.f k (m : Int) (a : Int) (b : Int) = some (selN m a b : Int) := by
  unfold bautaref01_Sel.f
  rw [bits_f k m hm (by omega), bits_f k a ha (by omega), bits_f k b hb (by omega), Option.bind_some, Option.bind_some, Option.bind_some]
  obtain ⟨out, h1, h2, h3⟩ := ref_sel (bitsOf m) (bitsOf a) (bitsOf b) (bitsOf_length m) (bitsOf_length a) (bitsOf_length b) 32 k 0 [] rfl rfl (fun j hj => by omega) (by omega)
  have hl := ofB_lt out
  rw [h1] at hl
  have : ofB out = selN m a b := eq_of_bits hl (selN_lt m a b hm ha hb) fun i hi => by
    rw [ofB_bit, h2 i hi, selN_bit m a b i hm hi, bitsOf_at m i hi, bitsOf_at a i hi, bitsOf_at b i hi]
  rw [← this]
  exact h3

/-- Are there an odd number of ones among the first bits? -/
def Par : Nat → (Nat → Bool) → Bool
  | 0, _ => false
  | n + 1, f => Par n f != f n
theorem Par_add (f : Nat → Bool) (m n : Nat) : Par (m + n) f = (Par m f != Par n (fun i => f (m + i))) := by
  induction n with
  | zero => simp [Par]
  | succ n ih =>
    rw [← Nat.add_assoc]
    simp only [Par]
    rw [ih]
    cases Par m f <;> cases Par n (fun i => f (m + i)) <;> cases f (m + n) <;> rfl
theorem Par_xor (f g : Nat → Bool) (n : Nat) : Par n (fun i => f i != g i) = (Par n f != Par n g) := by
  induction n with
  | zero => rfl
  | succ n ih =>
    simp only [Par]
    rw [ih]
    cases Par n f <;> cases Par n g <;> cases f n <;> cases g n <;> rfl
theorem Par_congr {f g : Nat → Bool} (n : Nat) (h : ∀ i, i < n → f i = g i) : Par n f = Par n g := by
  induction n with
  | zero => rfl
  | succ n ih => simp only [Par]; rw [ih (fun i hi => h i (by omega)), h n (by omega)]

theorem ref_par (x : List Bool) (hx : x.length = 32) (d : Nat) : ∀ (k i : Nat) (c : Bool), i + d = 32 → d < k → c = Par i (fun j => x.getD j false) →
    bautaref01_Parity.l0 k c x (i : Int) = some (Par 32 (fun j => x.getD j false)) := by
  induction d with
  | zero =>
    intro k i c hi hk hc
    obtain rfl : i = 32 := by omega
    obtain ⟨k, rfl⟩ : ∃ m, k = m + 1 := ⟨k - 1, by omega⟩
    simp only [bautaref01_Parity.l0]
    rw [if_neg (by omega), hc]
  | succ d ih =>
    intro k i c hi hk hc
    obtain ⟨k, rfl⟩ : ∃ m, k = m + 1 := ⟨k - 1, by omega⟩
    simp only [bautaref01_Parity.l0]
    rw [if_pos (by omega), if_pos (by omega), if_pos (by omega), getD_at, show wrap64 ((i : Int) + 1) = ((i + 1 : Nat) : Int) from w64 (by omega) (by omega)]
    exact ih k (i + 1) _ (by omega) (by omega) (by rw [hc]; rfl)
theorem ref_par_f (k a : Nat) (ha : a < 4294967296) (hk : 110 ≤ k) : bautaref01_Parity.f k (a : Int) = some (Par 32 a.testBit) := by
  unfold bautaref01_Parity.f
  rw [bits_f k a ha (by omega), Option.bind_some]
  have := ref_par (bitsOf a) (bitsOf_length a) 32 k 0 false rfl (by omega) rfl
  rw [Par_congr (g := a.testBit) 32 (fun i hi => bitsOf_at a i hi)] at this
  exact this

/-- The table of ones. -/
def tab : ByteArray := ⟨#[0, 1, 1, 2, 1, 2, 2, 3, 1, 2, 2, 3, 2, 3, 3, 4, 1, 2, 2, 3, 2, 3, 3, 4, 2, 3, 3, 4, 3, 4, 4, 5, 1, 2, 2, 3, 2, 3, 3, 4, 2, 3, 3, 4, 3, 4, 4, 5, 2, 3, 3, 4, 3, 4, 4, 5, 3, 4, 4, 5, 4, 5, 5, 6, 1, 2, 2, 3, 2, 3, 3, 4, 2, 3, 3, 4, 3, 4, 4, 5, 2, 3, 3, 4, 3, 4, 4, 5, 3, 4, 4, 5, 4, 5, 5, 6, 2, 3, 3, 4, 3, 4, 4, 5, 3, 4, 4, 5, 4, 5, 5, 6, 3, 4, 4, 5, 4, 5, 5, 6, 4, 5, 5, 6, 5, 6, 6, 7, 1, 2, 2, 3, 2, 3, 3, 4, 2, 3, 3, 4, 3, 4, 4, 5, 2, 3, 3, 4, 3, 4, 4, 5, 3, 4, 4, 5, 4, 5, 5, 6, 2, 3, 3, 4, 3, 4, 4, 5, 3, 4, 4, 5, 4, 5, 5, 6, 3, 4, 4, 5, 4, 5, 5, 6, 4, 5, 5, 6, 5, 6, 6, 7, 2, 3, 3, 4, 3, 4, 4, 5, 3, 4, 4, 5, 4, 5, 5, 6, 3, 4, 4, 5, 4, 5, 5, 6, 4, 5, 5, 6, 5, 6, 6, 7, 3, 4, 4, 5, 4, 5, 5, 6, 4, 5, 5, 6, 5, 6, 6, 7, 4, 5, 5, 6, 5, 6, 6, 7, 5, 6, 6, 7, 6, 7, 7, 8]⟩
theorem tab_par : ∀ b : Fin 256, (bt tab (b.val : Int) % 2 == 1) = Par 8 b.val.testBit := by decide +kernel
theorem tab_at (b : Nat) (hb : b < 256) : (bt tab (b : Int) % 2 == 1) = Par 8 b.testBit := tab_par ⟨b, hb⟩
theorem and255_u32 (n : Nat) (hn : n < 4294967296) : Go.bits .and .u32 (n : Int) 255 = ((n % 256 : Nat) : Int) := by
  rw [show (255 : Int) = ((255 : Nat) : Int) from rfl, and_u32 n 255 hn (by omega), and255]
theorem ones_f (a : Nat) (ha : a < 4294967296) : bits_OnesCount32.f (a : Int) = some (((((((bt tab ((a / 16777216 : Nat) : Int)) + (bt tab ((a / 65536 % 256 : Nat) : Int))) % 256) + (bt tab ((a / 256 % 256 : Nat) : Int))) % 256) + (bt tab ((a % 256 : Nat) : Int))) % 256) := by
  have e1 : (a : Int) / 16777216 = ((a / 16777216 : Nat) : Int) := by omega
  have e2 : (a : Int) / 65536 = ((a / 65536 : Nat) : Int) := by omega
  have e3 : (a : Int) / 256 = ((a / 256 : Nat) : Int) := by omega
  unfold bits_OnesCount32.f
  rw [e1, e2, e3, and255_u32 _ (by omega), and255_u32 _ (by omega), and255_u32 a ha]
  rw [if_pos (by omega), if_pos (by omega), if_pos (by omega), if_pos (by omega), if_pos (by omega), if_pos (by omega), if_pos (by omega), if_pos (by omega)]
  rfl
set_option maxRecDepth 100000 in
theorem par_f (a : Nat) (ha : a < 4294967296) : word_Parity.f (a : Int) = some (Par 32 a.testBit) := by
  unfold word_Parity.f
  rw [ones_f a ha, Option.bind_some]
  have b0 := bt_range tab ((a % 256 : Nat) : Int)
  have b1 := bt_range tab ((a / 256 % 256 : Nat) : Int)
  have b2 := bt_range tab ((a / 65536 % 256 : Nat) : Int)
  have b3 := bt_range tab ((a / 16777216 : Nat) : Int)
  have p0 := tab_at (a % 256) (by omega)
  have p1 := tab_at (a / 256 % 256) (by omega)
  have p2 := tab_at (a / 65536 % 256) (by omega)
  have p3 := tab_at (a / 16777216) (by omega)
  have q0 : Par 8 (a % 256).testBit = Par 8 (fun i => a.testBit i) := Par_congr 8 fun i hi => by
    rw [show (256 : Nat) = 2 ^ 8 from rfl, Nat.testBit_mod_two_pow, decide_eq_true hi, Bool.true_and]
  have q1 : Par 8 (a / 256 % 256).testBit = Par 8 (fun i => a.testBit (8 + i)) := Par_congr 8 fun i hi => by
    rw [show (256 : Nat) = 2 ^ 8 from rfl, Nat.testBit_mod_two_pow, decide_eq_true hi, Bool.true_and, Nat.testBit_div_two_pow, Nat.add_comm]
  have q2 : Par 8 (a / 65536 % 256).testBit = Par 8 (fun i => a.testBit (8 + (8 + i))) := Par_congr 8 fun i hi => by
    rw [show (65536 : Nat) = 2 ^ 16 from rfl, show (256 : Nat) = 2 ^ 8 from rfl, Nat.testBit_mod_two_pow, decide_eq_true hi, Bool.true_and, Nat.testBit_div_two_pow]; congr 1; omega
  have q3 : Par 8 (a / 16777216).testBit = Par 8 (fun i => a.testBit (8 + (8 + (8 + i)))) := Par_congr 8 fun i hi => by
    rw [show (16777216 : Nat) = 2 ^ 24 from rfl, Nat.testBit_div_two_pow]; congr 1; omega
  have hs : Par 32 a.testBit = (Par 8 (a % 256).testBit != (Par 8 (a / 256 % 256).testBit != (Par 8 (a / 65536 % 256).testBit != Par 8 (a / 16777216).testBit))) := by
    rw [q0, q1, q2, q3, show (32 : Nat) = 8 + (8 + (8 + 8)) from rfl, Par_add, Par_add, Par_add]
  rw [hs, ← p0, ← p1, ← p2, ← p3]
  generalize bt tab ((a % 256 : Nat) : Int) = t0 at *
  generalize bt tab ((a / 256 % 256 : Nat) : Int) = t1 at *
  generalize bt tab ((a / 65536 % 256 : Nat) : Int) = t2 at *
  generalize bt tab ((a / 16777216 : Nat) : Int) = t3 at *
  congr 1
  rw [Int.tmod_eq_emod_of_nonneg (by omega)]
  have d0 : t0 % 2 = 0 ∨ t0 % 2 = 1 := by omega
  have d1 : t1 % 2 = 0 ∨ t1 % 2 = 1 := by omega
  have d2 : t2 % 2 = 0 ∨ t2 % 2 = 1 := by omega
  have d3 : t3 % 2 = 0 ∨ t3 % 2 = 1 := by omega
  have hm : (((((t3 + t2) % 256 + t1) % 256 + t0) % 256) % 2) = (t0 % 2 + t1 % 2 + t2 % 2 + t3 % 2) % 2 := by omega
  rw [hm]
  rcases d0 with d0 | d0 <;> rcases d1 with d1 | d1 <;> rcases d2 with d2 | d2 <;> rcases d3 with d3 | d3 <;> simp only [d0, d1, d2, d3] <;> decide

set_option maxRecDepth 100000 in
theorem WordSelects : bautalaw01_WordSelects.Pure := by
  intro a0 a1 a2 w0 w1 w2
  obtain ⟨m, rfl, hm⟩ := wf_u32 w0
  obtain ⟨a, rfl, ha⟩ := wf_u32 w1
  obtain ⟨b, rfl, hb⟩ := wf_u32 w2
  obtain ⟨k, hk⟩ : ∃ k : Nat, 110 ≤ k := ⟨110, by omega⟩
  refine ⟨k, ?_⟩
  have hx : Par 32 (a ^^^ b).testBit = (Par 32 a.testBit != Par 32 b.testBit) := by
    rw [← Par_xor]
    exact Par_congr 32 fun i _ => by rw [Nat.testBit_xor]
  unfold bautalaw01_WordSelects.f
  rw [sel_f m a b hm ha hb, ref_sel_f k m a b hm ha hb hk, Option.bind_some, Option.bind_some, if_pos rfl, par_f a ha, ref_par_f k a ha hk, par_f b hb, xor_u32 a b ha hb, par_f _ (xor_lt ha hb),
    Option.bind_some, Option.bind_some, if_pos (beq_self_eq_true _), Option.bind_some, Option.bind_some, Option.bind_some, hx, if_pos (beq_self_eq_true _), lives_k (by omega), Option.bind_some]
end Go.Proofs.Ytamfpmlfhfkeoaa.Pure
