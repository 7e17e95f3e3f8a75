/- The reference's reading is the program's. No condition but the hypotheses that each theorem states. -/
import Derived.Test.YtimhllaahihhgaaRD
namespace Go.Proofs.Ytimhllaahihhgaa.PA
open Go.RowKit Go.Proofs.YtimhllaahihhgaaW.PrintWords Go.Proofs.YtimhllaahihhgaaW.PrintLast Go.Proofs.YtimhllaahihhgaaW.PrintMore
set_option linter.unusedVariables false
set_option linter.unusedSimpArgs false
theorem takeB_short (n : Nat) (bs : List Int) : takeB n bs true = (List.replicate n 0, bs, true) := by unfold takeB; rw [if_pos (.inl rfl)]
theorem cellsR_short : ∀ (n : Nat) (out : List S26) (bs : List Int), (cellsR n out bs true).2.2 = true
  | 0, out, bs => rfl
  | n + 1, out, bs => by
    unfold cellsR
    simp only [takeB_short]
    exact cellsR_short n _ _
theorem cells_two : ∀ (n : Nat) (out : List S26) (bs : List Int) (sh : Bool), (cellsP n out bs sh).2.2 = (cellsR n out bs sh).2.2 ∧ ((cellsP n out bs sh).2.2 = false → cellsP n out bs sh = cellsR n out bs sh)
  | 0, out, bs, sh => ⟨rfl, fun _ => rfl⟩
  | n + 1, out, bs, true => by
    rw [cellsP_short]
    exact ⟨(cellsR_short _ _ _).symm, fun h => by cases h⟩
  | n + 1, out, bs, false => by
    rw [cellsP, if_neg (by decide)]
    by_cases h2 : (takeB (octN bs false) (takeB 1 bs false).2.1 (takeB 1 bs false).2.2).2.2 = true
    · rw [if_pos h2]
      refine ⟨?_, fun h => by cases h⟩
      show true = _
      unfold cellsR
      rw [h2]
      simp only [takeB_short]
      exact (cellsR_short n _ _).symm
    · rw [if_neg h2]
      have h3 : (takeB (octN bs false) (takeB 1 bs false).2.1 (takeB 1 bs false).2.2).2.2 = false := by simpa using h2
      have ih := cells_two n (out ++ [⟨strOfNums (takeB (octN bs false) (takeB 1 bs false).2.1 (takeB 1 bs false).2.2).1, num4 (takeB 4 (takeB (octN bs false) (takeB 1 bs false).2.1 (takeB 1 bs false).2.2).2.1 false).1⟩])
        (takeB 4 (takeB (octN bs false) (takeB 1 bs false).2.1 (takeB 1 bs false).2.2).2.1 false).2.1 (takeB 4 (takeB (octN bs false) (takeB 1 bs false).2.1 (takeB 1 bs false).2.2).2.1 false).2.2
      have e : cellsR (n + 1) out bs false = cellsR n (out ++ [⟨strOfNums (takeB (octN bs false) (takeB 1 bs false).2.1 (takeB 1 bs false).2.2).1, num4 (takeB 4 (takeB (octN bs false) (takeB 1 bs false).2.1 (takeB 1 bs false).2.2).2.1 false).1⟩])
        (takeB 4 (takeB (octN bs false) (takeB 1 bs false).2.1 (takeB 1 bs false).2.2).2.1 false).2.1 (takeB 4 (takeB (octN bs false) (takeB 1 bs false).2.1 (takeB 1 bs false).2.2).2.1 false).2.2 := by
        rw [cellsR, h3]
      rw [e]
      exact ih
theorem list_two (bs : List Int) (sh : Bool) : (listP bs sh).2.2 = (cellsF bs sh).2.2 ∧ ((listP bs sh).2.2 = false → listP bs sh = cellsF bs sh) := cells_two _ _ _ _
theorem list_short (bs : List Int) : (listP bs true).2.2 = true := by unfold listP; rw [takeB_short]; simp only; rw [cellsP_short]
theorem cellsF_short (bs : List Int) : (cellsF bs true).2.2 = true := by rw [← (list_two bs true).1, list_short]
theorem wrap_u16n (n : Int) : IntKind.u16.wrap n = n % 65536 := by simp [IntKind.wrap, IntKind.bits, IntKind.signed]
theorem ofInt_u16n (a : Nat) (ha : a < 65536) : (BitVec.ofInt 16 (a : Int)).toNat = a := by
  rw [BitVec.ofInt_natCast, BitVec.toNat_ofNat]; exact Nat.mod_eq_of_lt (by omega)
theorem or_u16n (a b : Nat) (ha : a < 65536) (hb : b < 65536) : Go.bits .or .u16 (a : Int) (b : Int) = ((a ||| b : Nat) : Int) := by
  have hx := Nat.or_lt_two_pow (n := 16) ha hb
  show IntKind.u16.wrap ((BitVec.ofInt 16 (a : Int) ||| BitVec.ofInt 16 (b : Int)).toNat : Int) = _
  rw [BitVec.toNat_or, ofInt_u16n a ha, ofInt_u16n b hb, wrap_u16n]
  omega
theorem half2_nat (a b : Nat) (ha : a < 256) (hb : b < 256) : half2 (a : Int) (b : Int) = ((a + 256 * b : Nat) : Int) := by
  unfold half2
  rw [wrap_u16n, wrap_u16n, wrap_u16n]
  have h1 : ((a : Int) % 65536) = ((a : Nat) : Int) := by omega
  have h2 : ((b : Int) % 65536 * 256 % 65536) = ((b * 256 : Nat) : Int) := by omega
  rw [h1, h2, or_u16n a (b * 256) (by omega) (by omega)]
  have h3 := Nat.shiftLeft_add_eq_or_of_lt (b := a) (i := 8) (by omega) b
  rw [Nat.shiftLeft_eq] at h3
  rw [Nat.or_comm, ← h3]
  omega
theorem half2_eq (a b : Int) (ha : 0 ≤ a ∧ a < 256) (hb : 0 ≤ b ∧ b < 256) : half2 a b = a + 256 * b := by
  obtain ⟨n, rfl⟩ : ∃ n : Nat, a = (n : Int) := ⟨a.toNat, by omega⟩
  obtain ⟨m, rfl⟩ : ∃ n : Nat, b = (n : Int) := ⟨b.toNat, by omega⟩
  rw [half2_nat n m (by omega) (by omega)]
  omega
theorem code_two : ∀ (n : Nat) (out bs : List Int), Bytes bs → (2 * n ≤ bs.length → codeP n out bs false = (out ++ halvesL (bs.take (2 * n)), bs.drop (2 * n), false)) ∧ (bs.length < 2 * n → (codeP n out bs false).2.2 = true)
  | 0, out, bs, _ => ⟨fun _ => by simp [codeP, halvesL], fun h => by omega⟩
  | n + 1, out, bs, hB => by
    rw [codeP, if_neg (by decide)]
    match bs, hB with
    | [], hB =>
      refine ⟨fun h => by simp at h, fun _ => ?_⟩
      have e : takeB 2 ([] : List Int) false = (List.replicate 2 0, [], true) := by simp [takeB]
      rw [e]
      simp only [codeP_short]
    | [a], hB =>
      refine ⟨fun h => by simp at h; omega, fun _ => ?_⟩
      have e : takeB 2 [a] false = (List.replicate 2 0, [a], true) := by simp [takeB]
      rw [e]
      simp only [codeP_short]
    | a :: b :: t, hB =>
      have e : takeB 2 (a :: b :: t) false = ([a, b], t, false) := by simp [takeB]
      rw [e]
      have ih := code_two n (out ++ [numV 2 [a, b]]) t (fun x hx => hB x (by simp [hx]))
      have hv : numV 2 [a, b] = half2 a b := by
        rw [half2_eq a b (hB a (by simp)) (hB b (by simp))]
        rfl
      have et : (a :: b :: t).take (2 * (n + 1)) = a :: b :: t.take (2 * n) := by rw [show 2 * (n + 1) = 2 * n + 1 + 1 by omega]; rfl
      have ed : (a :: b :: t).drop (2 * (n + 1)) = t.drop (2 * n) := by rw [show 2 * (n + 1) = 2 * n + 1 + 1 by omega]; rfl
      refine ⟨fun h => ?_, fun h => ih.2 (by simp at h; omega)⟩
      simp only
      rw [ih.1 (by simp at h; omega), et, ed, halvesL, hv, List.append_assoc]
      rfl
theorem code_same (n : Nat) (bs : List Int) (sh : Bool) (hB : Bytes bs) : (codeP n [] bs sh).2.2 = (takeB (2 * n) bs sh).2.2 ∧ ((codeP n [] bs sh).2.2 = false → codeP n [] bs sh = (halvesL (takeB (2 * n) bs sh).1, (takeB (2 * n) bs sh).2.1, false)) := by
  cases sh with
  | true => rw [codeP_short, takeB_short]; exact ⟨rfl, fun h => by cases h⟩
  | false =>
    have h := code_two n [] bs hB
    by_cases hl : 2 * n ≤ bs.length
    · have e : takeB (2 * n) bs false = (bs.take (2 * n), bs.drop (2 * n), false) := by unfold takeB; rw [if_neg (by simp; omega)]
      rw [h.1 hl, e]
      exact ⟨rfl, fun _ => by simp⟩
    · have e : takeB (2 * n) bs false = (List.replicate (2 * n) 0, bs, true) := by unfold takeB; rw [if_pos (.inr (by omega))]
      rw [h.2 (by omega), e]
      exact ⟨rfl, fun h => by cases h⟩
theorem num4_zero : num4 (List.replicate 4 0) = 0 := by decide
theorem tail_same (b0 : List Int) (hB : Bytes b0) : tailP b0 = tailI b0 := by
  unfold tailP tailI
  have g0 := (takeB_bytes (n := 4) (sh := false) hB).2
  obtain ⟨D0, b1, s1, e0⟩ : ∃ D b s, takeB 4 b0 false = (D, b, s) := ⟨_, _, _, rfl⟩
  rw [e0] at g0
  have g1 := (takeB_bytes (n := 4) (sh := s1) g0).2
  obtain ⟨D1, b2, s2, e1⟩ : ∃ D b s, takeB 4 b1 s1 = (D, b, s) := ⟨_, _, _, rfl⟩
  simp only at g1
  rw [e1] at g1
  have g2 := (takeB_bytes (n := 4) (sh := s2) g1).2
  obtain ⟨D2, b3, s3, e2⟩ : ∃ D b s, takeB 4 b2 s2 = (D, b, s) := ⟨_, _, _, rfl⟩
  simp only at g2
  rw [e2] at g2
  have g3 := (takeB_bytes (n := 4) (sh := s3) g2).2
  obtain ⟨D3, b4, s4, e3⟩ : ∃ D b s, takeB 4 b3 s3 = (D, b, s) := ⟨_, _, _, rfl⟩
  simp only at g3
  rw [e3] at g3
  have g4 := takeB_bytes (n := 4) (sh := s4) g3
  obtain ⟨D4, b5, s5, e4⟩ : ∃ D b s, takeB 4 b4 s4 = (D, b, s) := ⟨_, _, _, rfl⟩
  simp only at g4
  rw [e4] at g4
  have g5 := g4.2
  have g6 := num4_range g4.1
  simp only at g5 g6
  simp only [e0, e1, e2, e3, e4]
  have hs5 : 60000 < num4 D4 → s5 = false := by
    intro h
    cases s5 with
    | false => rfl
    | true =>
      have h1 := e4
      unfold takeB at h1
      split at h1
      · cases h1
        rw [num4_zero] at h
        omega
      · simp at h1
  by_cases hE : 60000 < num4 D4
  · rw [if_pos hE, if_pos ⟨hE, hs5 hE⟩]
  · rw [if_neg hE, if_neg (show ¬ (60000 < num4 D4 ∧ s5 = false) from fun h => hE h.1)]
    rw [show min (num4 D4).toNat 60000 = (num4 D4).toNat by omega]
    have hc := code_same (num4 D4).toNat b5 s5 g5
    obtain ⟨C, c6, t6, f6⟩ : ∃ D b s, codeP (num4 D4).toNat [] b5 s5 = (D, b, s) := ⟨_, _, _, rfl⟩
    obtain ⟨Dc, b6, s6, e6⟩ : ∃ D b s, takeB (2 * (num4 D4).toNat) b5 s5 = (D, b, s) := ⟨_, _, _, rfl⟩
    rw [f6, e6] at hc
    simp only [f6, e6]
    obtain ⟨hc1, hc2⟩ := hc
    simp only at hc1 hc2
    subst hc1
    cases t6 with
    | true =>
      have h1 := list_short c6
      have h2 := cellsF_short b6
      have h3 := list_short (listP c6 true).2.1
      have h4 := cellsF_short (cellsF b6 true).2.1
      have h5 := list_short (listP (listP c6 true).2.1 true).2.1
      have h6 := cellsF_short (cellsF (cellsF b6 true).2.1 true).2.1
      rw [h1, h2, h3, h4, h5, h6, if_pos rfl, if_pos rfl]
    | false =>
      have hq := hc2 rfl
      simp only [Prod.mk.injEq] at hq
      obtain ⟨rfl, rfl, _⟩ := hq
      have k1 := list_two c6 false
      obtain ⟨L1, b7, s7, e7⟩ : ∃ D b s, listP c6 false = (D, b, s) := ⟨_, _, _, rfl⟩
      obtain ⟨M1, c7, t7, f7⟩ : ∃ D b s, cellsF c6 false = (D, b, s) := ⟨_, _, _, rfl⟩
      rw [e7, f7] at k1
      simp only [e7, f7]
      obtain ⟨k11, k12⟩ := k1
      simp only at k11 k12
      subst k11
      cases s7 with
      | true =>
        have h3 := list_short b7
        have h4 := cellsF_short c7
        have h5 := list_short (listP b7 true).2.1
        have h6 := cellsF_short (cellsF c7 true).2.1
        rw [h3, h4, h5, h6, if_pos rfl, if_pos rfl]
      | false =>
        have hq := k12 rfl
        simp only [Prod.mk.injEq] at hq
        obtain ⟨rfl, rfl, _⟩ := hq
        have k2 := list_two b7 false
        obtain ⟨L2, b8, s8, e8⟩ : ∃ D b s, listP b7 false = (D, b, s) := ⟨_, _, _, rfl⟩
        obtain ⟨M2, c8, t8, f8⟩ : ∃ D b s, cellsF b7 false = (D, b, s) := ⟨_, _, _, rfl⟩
        rw [e8, f8] at k2
        simp only [e8, f8]
        obtain ⟨k21, k22⟩ := k2
        simp only at k21 k22
        subst k21
        cases s8 with
        | true =>
          have h5 := list_short b8
          have h6 := cellsF_short c8
          rw [h5, h6, if_pos rfl, if_pos rfl]
        | false =>
          have hq := k22 rfl
          simp only [Prod.mk.injEq] at hq
          obtain ⟨rfl, rfl, _⟩ := hq
          have k3 := list_two b8 false
          obtain ⟨L3, b9, s9, e9⟩ : ∃ D b s, listP b8 false = (D, b, s) := ⟨_, _, _, rfl⟩
          obtain ⟨M3, c9, t9, f9⟩ : ∃ D b s, cellsF b8 false = (D, b, s) := ⟨_, _, _, rfl⟩
          rw [e9, f9] at k3
          simp only [e9, f9]
          obtain ⟨k31, k32⟩ := k3
          simp only at k31 k32
          subst k31
          cases s9 with
          | true => rw [if_pos rfl, if_pos rfl]
          | false =>
            have hq := k32 rfl
            simp only [Prod.mk.injEq] at hq
            obtain ⟨rfl, rfl, _⟩ := hq
            rfl
/-- The mark, byte by byte. -/
theorem u8_eq {a : Int} (h : 0 ≤ a ∧ a < 256) (m : Nat) (hm : m < 256) : (UInt8.ofNat a.toNat == UInt8.ofNat m) = decide (a = (m : Int)) := by
  rw [Bool.eq_iff_iff]
  simp only [beq_iff_eq, decide_eq_true_eq]
  constructor
  · intro e
    have h1 := congrArg UInt8.toNat e
    simp at h1
    omega
  · intro e
    rw [e]
    simp
def magL : List Int := [77, 83, 75, 49]
def mag8 : List UInt8 := [77, 83, 75, 49]
theorem mag_take : ∀ n : Nat, n ≤ 4 → ((⟨#[77, 83, 75, 49]⟩ : ByteArray).extract 0 n).toList = mag8.take n
  | 0, _ => by rw [ByteArray.toList_eq]; rfl
  | 1, _ => by rw [ByteArray.toList_eq]; rfl
  | 2, _ => by rw [ByteArray.toList_eq]; rfl
  | 3, _ => by rw [ByteArray.toList_eq]; rfl
  | 4, _ => by rw [ByteArray.toList_eq]; rfl
  | n + 5, h => absurd h (by omega)
theorem takeI_eq (l : List Int) : takeI l = if ((l.take (min l.length 4)).map (fun n => UInt8.ofNat n.toNat) == mag8.take (min l.length 4)) = true then (if l.length < 4 then errI 3 else tailI (l.drop 4)) else errI 4 := by
  unfold takeI
  rw [mag_take _ (Nat.min_le_right _ _), ByteArray.toList_eq, strOfNums_data]
theorem at_rd (l : List Int) (i : Nat) (hi : i < l.length) : l[i]? = some (rd l (i : Int)) := by
  unfold rd
  rw [Int.toNat_natCast, List.getD_eq_getElem?_getD, List.getElem?_eq_getElem hi]
  rfl
theorem mag_at : ∀ i : Nat, i < 4 → mag8[i]? = some (UInt8.ofNat (magL.getD i 0).toNat)
  | 0, _ => rfl
  | 1, _ => rfl
  | 2, _ => rfl
  | 3, _ => rfl
  | n + 4, h => absurd h (by omega)
theorem mag_range : ∀ i : Nat, 0 ≤ magL.getD i 0 ∧ magL.getD i 0 < 256
  | 0 => by decide
  | 1 => by decide
  | 2 => by decide
  | 3 => by decide
  | n + 4 => by simp [magL]
theorem mag_same (l : List Int) (n : Nat) (hn : n ≤ 4) (hl : n ≤ l.length) (hj : ∀ j : Nat, j < n → rd l (j : Int) = magL.getD j 0) : (l.take n).map (fun n => UInt8.ofNat n.toNat) = mag8.take n := by
  apply List.ext_getElem?
  intro j
  by_cases h : j < n
  · rw [List.getElem?_map, List.getElem?_take_of_lt h, List.getElem?_take_of_lt h, at_rd l j (by omega), mag_at j (by omega), hj j h]
    rfl
  · rw [List.getElem?_eq_none (by simp; omega), List.getElem?_eq_none (by simp; omega)]
theorem take_short (l : List Int) (i : Nat) (hi : i < 4) (hl : l.length = i) (hj : ∀ j : Nat, j < i → rd l (j : Int) = magL.getD j 0) : takeI l = errI 3 := by
  rw [takeI_eq, mag_same l _ (Nat.min_le_right _ _) (Nat.min_le_left _ _) (fun j h => hj j (by omega)), if_pos (by simp), if_pos (by omega)]
theorem take_mark (l : List Int) (hB : Bytes l) (i : Nat) (hi : i < 4) (hl : i < l.length) (hm : rd l (i : Int) ≠ magL.getD i 0) : takeI l = errI 4 := by
  rw [takeI_eq, if_neg]
  intro h
  have he := congrArg (fun z => z[i]?) (eq_of_beq h)
  rw [List.getElem?_map, List.getElem?_take_of_lt (by omega), List.getElem?_take_of_lt (by omega), at_rd l i hl, mag_at i hi] at he
  have h2 : UInt8.ofNat (rd l (i : Int)).toNat = UInt8.ofNat (magL.getD i 0).toNat := Option.some.inj he
  have h3 := congrArg UInt8.toNat h2
  have r1 := rd_bytes hB (i : Int)
  have r2 := mag_range i
  simp only [UInt8.toNat_ofNat'] at h3
  apply hm
  omega
theorem take_long (l : List Int) (hl : 4 ≤ l.length) (hj : ∀ j : Nat, j < 4 → rd l (j : Int) = magL.getD j 0) : takeI l = tailI (l.drop 4) := by
  rw [takeI_eq, mag_same l _ (Nat.min_le_right _ _) (Nat.min_le_left _ _) (fun j h => hj j (by omega)), if_pos (by simp), if_neg (by omega)]
end Go.Proofs.Ytimhllaahihhgaa.PA
