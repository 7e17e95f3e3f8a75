/- WordHexes: each word's text is the reference's, and it is read as the word. No condition. -/
import Derived.Test.YtamfpmlfhfkeoaaPureWordNumbers
import Derived.Test.YtamfpmlfhfkeoaaPAllx7
namespace Go.Proofs.Ytamfpmlfhfkeoaa.B
open Go.RowKit Go.Proofs.Ytamfpmlfhfkeoaa.PAll Go.Proofs.YtamfpmlfhfkeoaaW.PrintWords Go.Proofs.YtamfpmlfhfkeoaaW.PrintLast Go.Proofs.YtamfpmlfhfkeoaaW.PrintMore

def lit16 : ByteArray := ⟨#[48, 49, 50, 51, 52, 53, 54, 55, 56, 57, 97, 98, 99, 100, 101, 102]⟩
/-- A digit's letter. -/
def hx (d : Nat) : Int := bt lit16 (d : Int)
theorem hx_dig (d : Nat) (hd : d < 16) : dig (hx d) = d := by
  have h : ∀ n : Fin 16, dig (hx n.val) = n.val := by decide +kernel
  exact h ⟨d, hd⟩
theorem hx_piece (d : Nat) (hd : d < 16) : lit16.extract d (d + 1) = ⟨#[UInt8.ofNat (hx d).toNat]⟩ := by
  have h : ∀ n : Fin 16, lit16.extract n.val (n.val + 1) = ⟨#[UInt8.ofNat (hx n.val).toNat]⟩ := by decide +kernel
  exact h ⟨d, hd⟩
theorem hx_byte (d : Nat) : ((UInt8.ofNat (hx d).toNat).toNat : Int) = hx d := by
  have := bt_range lit16 (d : Int)
  unfold hx
  rw [UInt8.toNat_ofNat']
  omega
theorem hex_step (k a i : Nat) (xs : List Int) (ha : a < 4294967296) (hi : 1 < i) (hl : i < xs.length) (hl2 : xs.length = 10) :
    word_Hex.l0 (k + 1) (a : Int) xs (i : Int) = word_Hex.l0 k ((a / 16 : Nat) : Int) (xs.set i (hx (a % 16))) ((i : Int) - 1) := by
  have e : Go.bits .and .u32 (a : Int) 15 = ((a % 16 : Nat) : Int) := by
    rw [show (15 : Int) = ((15 : Nat) : Int) from rfl, and_u32 a 15 ha (by omega), and15]
  simp only [word_Hex.l0]
  rw [e, if_pos (by omega), if_pos (by omega), if_pos (by omega), if_pos (by omega), if_pos (by omega), w64 (by omega) (by omega)]
  rfl
theorem hex_f (k a : Nat) (ha : a < 4294967296) (hk : 20 ≤ k) : word_Hex.f k (a : Int) = some (strOfNums [48, 120, hx (a / 16 / 16 / 16 / 16 / 16 / 16 / 16 % 16), hx (a / 16 / 16 / 16 / 16 / 16 / 16 % 16), hx (a / 16 / 16 / 16 / 16 / 16 % 16), hx (a / 16 / 16 / 16 / 16 % 16), hx (a / 16 / 16 / 16 % 16), hx (a / 16 / 16 % 16), hx (a / 16 % 16), hx (a % 16)]) := by
  obtain ⟨k, rfl⟩ : ∃ q, k = q + 9 := ⟨k - 9, by omega⟩
  unfold word_Hex.f
  rw [show (9 : Int) = ((9 : Nat) : Int) from rfl, hex_step _ a 9 _ ha (by omega) (by decide) rfl, show ((9 : Nat) : Int) - 1 = ((8 : Nat) : Int) from rfl,
    hex_step _ (a / 16) 8 _ (by omega) (by omega) (by simp) (by simp), show ((8 : Nat) : Int) - 1 = ((7 : Nat) : Int) from rfl,
    hex_step _ (a / 16 / 16) 7 _ (by omega) (by omega) (by simp) (by simp), show ((7 : Nat) : Int) - 1 = ((6 : Nat) : Int) from rfl,
    hex_step _ (a / 16 / 16 / 16) 6 _ (by omega) (by omega) (by simp) (by simp), show ((6 : Nat) : Int) - 1 = ((5 : Nat) : Int) from rfl,
    hex_step _ (a / 16 / 16 / 16 / 16) 5 _ (by omega) (by omega) (by simp) (by simp), show ((5 : Nat) : Int) - 1 = ((4 : Nat) : Int) from rfl,
    hex_step _ (a / 16 / 16 / 16 / 16 / 16) 4 _ (by omega) (by omega) (by simp) (by simp), show ((4 : Nat) : Int) - 1 = ((3 : Nat) : Int) from rfl,
    hex_step _ (a / 16 / 16 / 16 / 16 / 16 / 16) 3 _ (by omega) (by omega) (by simp) (by simp), show ((3 : Nat) : Int) - 1 = ((2 : Nat) : Int) from rfl,
    hex_step _ (a / 16 / 16 / 16 / 16 / 16 / 16 / 16) 2 _ (by omega) (by omega) (by simp) (by simp), show ((2 : Nat) : Int) - 1 = ((1 : Nat) : Int) from rfl]
  simp only [word_Hex.l0]
  rw [if_neg (by decide)]
  rfl

/-- A text's bytes as numbers. -/
theorem nums_data (xs : List Int) : (strOfNums xs).data.toList = xs.map fun n => UInt8.ofNat n.toNat := by simp [strOfNums]
theorem app_data (a b : ByteArray) : (a ++ b).data.toList = a.data.toList ++ b.data.toList := by
  simp [ByteArray.data_append]

theorem size1 (x : UInt8) : (⟨#[x]⟩ : ByteArray).size = 1 := rfl
theorem size0 : (⟨#[]⟩ : ByteArray).size = 0 := rfl
theorem rhex_step (k a i : Nat) (s : ByteArray) (ha : a < 4294967296) (hi : i < 8) (hs : s.size ≤ 100) :
    bautaref01_Hex.l0 (k + 1) (a : Int) s (i : Int) = bautaref01_Hex.l0 k ((a / 16 : Nat) : Int) ((⟨#[UInt8.ofNat (hx (a % 16)).toNat]⟩ : ByteArray) ++ s) ((i + 1 : Nat) : Int) := by
  have e1 : Int.tmod (a : Int) 16 = ((a % 16 : Nat) : Int) := by rw [Int.tmod_eq_emod_of_nonneg (by omega)]; omega
  have e2 : Int.tdiv (a : Int) 16 % 4294967296 = ((a / 16 : Nat) : Int) := by rw [Int.tdiv_eq_ediv_of_nonneg (by omega)]; omega
  have e3 : (((a % 16 : Nat) : Int) + 1) % 4294967296 = ((a % 16 + 1 : Nat) : Int) := by omega
  have hp := hx_piece (a % 16) (by omega)
  unfold lit16 at hp
  simp only [bautaref01_Hex.l0]
  rw [e1, e2, e3, if_pos (by omega), if_pos (by omega), if_pos (by omega), if_pos (by omega), show (((a % 16 : Nat) : Int)).toNat = a % 16 from rfl, show (((a % 16 + 1 : Nat) : Int)).toNat = a % 16 + 1 from rfl, hp, w64 (by omega) (by omega), if_pos (by
    rw [show (⟨#[UInt8.ofNat (hx (a % 16)).toNat]⟩ : ByteArray).size = 1 from rfl]; omega)]
  rfl
theorem rhex_f (k a : Nat) (ha : a < 4294967296) (hk : 20 ≤ k) : ∃ s, bautaref01_Hex.f k (a : Int) = some s ∧ s.data.toList = ([48, 120, hx (a / 16 / 16 / 16 / 16 / 16 / 16 / 16 % 16), hx (a / 16 / 16 / 16 / 16 / 16 / 16 % 16), hx (a / 16 / 16 / 16 / 16 / 16 % 16), hx (a / 16 / 16 / 16 / 16 % 16), hx (a / 16 / 16 / 16 % 16), hx (a / 16 / 16 % 16), hx (a / 16 % 16), hx (a % 16)] : List Int).map fun n => UInt8.ofNat n.toNat := by
  obtain ⟨k, rfl⟩ : ∃ q, k = q + 9 := ⟨k - 9, by omega⟩
  unfold bautaref01_Hex.f
  rw [show (0 : Int) = ((0 : Nat) : Int) from rfl, rhex_step _ a 0 _ ha (by omega) (by decide),
    rhex_step _ (a / 16) _ _ (by omega) (by omega) (by simp only [ByteArray.size_append, size1, size0]; decide),
    rhex_step _ (a / 16 / 16) _ _ (by omega) (by omega) (by simp only [ByteArray.size_append, size1, size0]; decide),
    rhex_step _ (a / 16 / 16 / 16) _ _ (by omega) (by omega) (by simp only [ByteArray.size_append, size1, size0]; decide),
    rhex_step _ (a / 16 / 16 / 16 / 16) _ _ (by omega) (by omega) (by simp only [ByteArray.size_append, size1, size0]; decide),
    rhex_step _ (a / 16 / 16 / 16 / 16 / 16) _ _ (by omega) (by omega) (by simp only [ByteArray.size_append, size1, size0]; decide),
    rhex_step _ (a / 16 / 16 / 16 / 16 / 16 / 16) _ _ (by omega) (by omega) (by simp only [ByteArray.size_append, size1, size0]; decide),
    rhex_step _ (a / 16 / 16 / 16 / 16 / 16 / 16 / 16) _ _ (by omega) (by omega) (by simp only [ByteArray.size_append, size1, size0]; decide)]
  simp only [bautaref01_Hex.l0]
  rw [if_neg (by decide), if_pos (by simp only [ByteArray.size_append, size1, size0]; decide)]
  refine ⟨_, rfl, ?_⟩
  simp only [app_data]
  rfl

theorem num_step (k i d n : Nat) (t : ByteArray) (hi : i < t.size) (hs : t.size ≤ 100) (hd : d < 16) (ht : bt t (i : Int) = hx d) (hn : n < 268435456) (hk : 5 < k) :
    word_Number.l0 (k + 1) t 16 (n : Int) false (t.size : Int) (i : Int) = word_Number.l0 k t 16 ((n * 16 + d : Nat) : Int) false (t.size : Int) ((i + 1 : Nat) : Int) := by
  have q : (i : Int) < (t.size : Int) := by omega
  have hr := bt_range lit16 (d : Int)
  have e : IntKind.u64.wrap (IntKind.u64.wrap ((n : Int) * 16) + (d : Int)) = ((n * 16 + d : Nat) : Int) := by simp only [wrap_u64]; omega
  have ew : wrap64 ((i : Int) + 1) = ((i + 1 : Nat) : Int) := w64 (by omega) (by omega)
  have hd2 : decide ((d : Int) < 16) = true := decide_eq_true (by omega)
  have hle : ¬ ((n * 16 + d : Nat) : Int) > 4294967295 := by omega
  have h0 : (0 : Int) ≤ (i : Int) := by omega
  simp only [word_Number.l0]
  rw [if_pos q, if_pos h0, if_pos q, ht, digit_f k hk (hx d) 16 hr.1 hr.2, hx_dig d hd, Option.bind_some, if_pos hd2, e, if_neg hle, ew]

theorem back (k a : Nat) (ha : a < 4294967296) (hk : 50 ≤ k) (L : List Int) (hL : L = [48, 120, hx (a / 16 / 16 / 16 / 16 / 16 / 16 / 16 % 16), hx (a / 16 / 16 / 16 / 16 / 16 / 16 % 16), hx (a / 16 / 16 / 16 / 16 / 16 % 16), hx (a / 16 / 16 / 16 / 16 % 16), hx (a / 16 / 16 / 16 % 16), hx (a / 16 / 16 % 16), hx (a / 16 % 16), hx (a % 16)]) :
    word_Number.f k (strOfNums L) = some ((a : Int), 0) := by
  obtain ⟨k, rfl⟩ : ∃ q, k = q + 20 := ⟨k - 20, by omega⟩
  have hlen : L.length = 10 := by rw [hL]; rfl
  have hsz : (strOfNums L).size = 10 := by rw [← data_length, nums_data, List.length_map, hlen]
  have hall : ∀ i, i < 10 → ∃ d, d < 16 ∨ L.getD i 0 = 48 ∨ L.getD i 0 = 120 := fun i _ => ⟨0, .inl (by omega)⟩
  clear hall
  have hbyte : ∀ i, i < 10 → bt (strOfNums L) ((i : Nat) : Int) = (((UInt8.ofNat (L.getD i 0).toNat).toNat : Nat) : Int) := by
    intro i hi
    rw [bt_data _ _ (by omega), nums_data]
    have h' : i < (L.map fun n => UInt8.ofNat n.toNat).length := by rw [List.length_map, hlen]; exact hi
    rw [List.getD_eq_getElem?_getD, List.getElem?_eq_getElem h', List.getElem_map, List.getD_eq_getElem?_getD, List.getElem?_eq_getElem (by omega)]
    rfl
  have b0 : bt (strOfNums L) 0 = 48 := by have := hbyte 0 (by omega); rw [hL] at this ⊢; exact this
  have b1 : bt (strOfNums L) 1 = 120 := by have := hbyte 1 (by omega); rw [hL] at this ⊢; exact this
  have htl : ((strOfNums L).extract 2 (strOfNums L).size).size = 8 := by rw [ByteArray.size_extract]; omega
  have bt' : ∀ i d, i < 8 → L.getD (i + 2) 0 = hx d → bt ((strOfNums L).extract 2 (strOfNums L).size) ((i : Nat) : Int) = hx d := by
    intro i d hi hd
    rw [bt_extract _ i (by omega) (by omega), hbyte (i + 2) (by omega), hd, hx_byte]
  unfold word_Number.f
  rw [if_pos (by omega), if_pos (show (0 : Nat) ≤ 2 by decide), if_pos (by omega), head_two _ (by omega), b0, b1]
  simp only [word_Number.j0, word_Number.j1]
  rw [if_pos (by decide), if_pos (by omega)]
  generalize (strOfNums L).extract 2 (strOfNums L).size = t at htl bt' ⊢
  have g : ∀ i d, i < 8 → L.getD (i + 2) 0 = hx d → bt t ((i : Nat) : Int) = hx d := bt'
  rw [show (0 : Int) = ((0 : Nat) : Int) from rfl,
    num_step _ 0 (a / 16 / 16 / 16 / 16 / 16 / 16 / 16 % 16) 0 t (by omega) (by omega) (by omega) (g 0 _ (by omega) (by rw [hL]; rfl)) (by omega) (by omega),
    num_step _ 1 (a / 16 / 16 / 16 / 16 / 16 / 16 % 16) _ t (by omega) (by omega) (by omega) (g 1 _ (by omega) (by rw [hL]; rfl)) (by omega) (by omega),
    num_step _ 2 (a / 16 / 16 / 16 / 16 / 16 % 16) _ t (by omega) (by omega) (by omega) (g 2 _ (by omega) (by rw [hL]; rfl)) (by omega) (by omega),
    num_step _ 3 (a / 16 / 16 / 16 / 16 % 16) _ t (by omega) (by omega) (by omega) (g 3 _ (by omega) (by rw [hL]; rfl)) (by omega) (by omega),
    num_step _ 4 (a / 16 / 16 / 16 % 16) _ t (by omega) (by omega) (by omega) (g 4 _ (by omega) (by rw [hL]; rfl)) (by omega) (by omega),
    num_step _ 5 (a / 16 / 16 % 16) _ t (by omega) (by omega) (by omega) (g 5 _ (by omega) (by rw [hL]; rfl)) (by omega) (by omega),
    num_step _ 6 (a / 16 % 16) _ t (by omega) (by omega) (by omega) (g 6 _ (by omega) (by rw [hL]; rfl)) (by omega) (by omega),
    num_step _ 7 (a % 16) _ t (by omega) (by omega) (by omega) (g 7 _ (by omega) (by rw [hL]; rfl)) (by omega) (by omega)]
  have hne : ¬ t.toList = ([] : List UInt8) := fun h => by have := (toList_nil t).mp h; omega
  have hge : ¬ ((7 + 1 : Nat) : Int) < (t.size : Int) := by omega
  simp only [word_Number.l0]
  rw [if_neg hge, if_neg hne, if_neg (by decide)]
  congr 2
  omega
end Go.Proofs.Ytamfpmlfhfkeoaa.B
namespace Go.Proofs.Ytamfpmlfhfkeoaa.Pure
open Go.RowKit Go.Proofs.Ytamfpmlfhfkeoaa.PAll Go.Proofs.YtamfpmlfhfkeoaaW.PrintWords Go.Proofs.YtamfpmlfhfkeoaaW.PrintLast
open Go.Proofs.Ytamfpmlfhfkeoaa.B
theorem WordHexes : bautalaw01_WordHexes.Pure := by
  intro a0 w0
  obtain ⟨a, rfl, ha⟩ := wf_u32 w0
  obtain ⟨k, hk⟩ : ∃ k : Nat, 200 ≤ k := ⟨200, Nat.le_refl _⟩
  refine ⟨k, ?_⟩
  obtain ⟨s, h1, h2⟩ := rhex_f k a ha (by omega)
  unfold bautalaw01_WordHexes.f
  rw [hex_f k a ha (by omega), Option.bind_some, back k a ha (by omega) _ rfl, Option.bind_some, h1, Option.bind_some, if_pos (by rw [Lib.toList_data, Lib.toList_data, h2, nums_data]), if_pos rfl, if_pos rfl, lives_k (by omega)]
  rfl
end Go.Proofs.Ytamfpmlfhfkeoaa.Pure
