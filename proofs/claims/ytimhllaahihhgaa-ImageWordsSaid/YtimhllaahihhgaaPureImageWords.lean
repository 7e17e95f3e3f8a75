/- ImageWords: any bytes as halfwords. No condition but the hypotheses that the theorem states. -/
import Derived.Test.YtimhllaahihhgaaPAx4
namespace Go.Proofs.Ytimhllaahihhgaa.Pure
set_option linter.unusedVariables false
open Go.RowKit Go.Proofs.Ytimhllaahihhgaa.PA Go.Proofs.YtimhllaahihhgaaW.PrintWords Go.Proofs.YtimhllaahihhgaaW.PrintLast Go.Proofs.YtimhllaahihhgaaW.PrintMore
theorem wrap_u16 (n : Int) : IntKind.u16.wrap n = n % 65536 := by simp [IntKind.wrap, IntKind.bits, IntKind.signed]
theorem wf_u8 {a : Int} (h : (Lit.int .u8 a).wf = true) : ∃ n : Nat, a = (n : Int) ∧ n < 256 := by
  have hb : 0 ≤ a ∧ a < 256 := by
    simp [Lit.wf, IntKind.min, IntKind.max, IntKind.bits, IntKind.signed] at h
    omega
  exact ⟨a.toNat, by omega, by omega⟩
theorem ofInt_u16 (a : Nat) (ha : a < 65536) : (BitVec.ofInt 16 (a : Int)).toNat = a := by
  rw [BitVec.ofInt_natCast, BitVec.toNat_ofNat]; exact Nat.mod_eq_of_lt (by omega)
theorem or_u16 (a b : Nat) (ha : a < 65536) (hb : b < 65536) : Go.bits .or .u16 (a : Int) (b : Int) = ((a ||| b : Nat) : Int) := by
  have hx := Nat.or_lt_two_pow (n := 16) ha hb
  show IntKind.u16.wrap ((BitVec.ofInt 16 (a : Int) ||| BitVec.ofInt 16 (b : Int)).toNat : Int) = _
  rw [BitVec.toNat_or, ofInt_u16 a ha, ofInt_u16 b hb, wrap_u16]
  omega
theorem half1_eq (a : Nat) (ha : a < 256) : half1 (a : Int) = (a : Int) := by
  unfold half1; rw [wrap_u16]; omega
theorem half2_eq (a b : Nat) (ha : a < 256) (hb : b < 256) : half2 (a : Int) (b : Int) = ((a + 256 * b : Nat) : Int) := by
  unfold half2
  rw [wrap_u16, wrap_u16, wrap_u16]
  have h1 : ((a : Int) % 65536) = ((a : Nat) : Int) := by omega
  have h2 : ((b : Int) % 65536 * 256 % 65536) = ((b * 256 : Nat) : Int) := by omega
  rw [h1, h2, or_u16 a (b * 256) (by omega) (by omega)]
  have h3 := Nat.shiftLeft_add_eq_or_of_lt (b := a) (i := 8) (by omega) b
  rw [Nat.shiftLeft_eq] at h3
  rw [Nat.or_comm, ← h3]
  omega
/-- A byte is the part of its halfword that stands at its place. -/
theorem half_at : ∀ (l : List Int), (∀ x ∈ l, (Lit.int .u8 x).wf = true) → ∀ i : Nat, i < l.length →
    ∃ h : Nat, (halvesL l).getD (i / 2) 0 = (h : Int) ∧ h < 65536 ∧ (((h / 2 ^ (8 * (i % 2)) % 256 : Nat)) : Int) = l.getD i 0
  | [], _, i, hi => absurd hi (Nat.not_lt_zero _)
  | [a], hw, i, hi => by
    obtain ⟨n, rfl, hn⟩ := wf_u8 (hw a (by simp))
    have h0 : i = 0 := by simp at hi; omega
    subst h0
    exact ⟨n, by simp [halvesL, half1_eq n hn], by omega, by simp; omega⟩
  | a :: b :: t, hw, i, hi => by
    obtain ⟨n, rfl, hn⟩ := wf_u8 (hw a (by simp))
    obtain ⟨m, rfl, hm⟩ := wf_u8 (hw b (by simp))
    rcases i with _ | _ | i
    · exact ⟨n + 256 * m, by simp [halvesL, half2_eq n m hn hm], by omega, by simp; omega⟩
    · exact ⟨n + 256 * m, by simp [halvesL, half2_eq n m hn hm], by omega, by simp; omega⟩
    · obtain ⟨h, e1, e2, e3⟩ := half_at t (fun x hx => hw x (by simp [hx])) i (by simpa using hi)
      refine ⟨h, ?_, e2, ?_⟩
      · rw [show (i + 1 + 1) / 2 = i / 2 + 1 by omega, show halvesL ((n : Int) :: (m : Int) :: t) = half2 n m :: halvesL t from rfl, List.getD_cons_succ]
        exact e1
      · rw [show (i + 1 + 1) % 2 = i % 2 by omega, List.getD_cons_succ, List.getD_cons_succ]
        exact e3
/-- The last halfword of an odd number of bytes is a byte. -/
theorem half_last : ∀ (l : List Int), (∀ x ∈ l, (Lit.int .u8 x).wf = true) → l.length % 2 = 1 → (halvesL l).getD ((l.length + 1) / 2 - 1) 0 < 256
  | [], _, h => by simp at h
  | [a], hw, _ => by
    obtain ⟨n, rfl, hn⟩ := wf_u8 (hw a (by simp))
    simp [halvesL, half1_eq n hn]
    omega
  | a :: b :: t, hw, ho => by
    have ho' : t.length % 2 = 1 := by simp at ho; omega
    have e := half_last t (fun x hx => hw x (by simp [hx])) ho'
    rw [show (a :: b :: t).length = t.length + 2 by simp, show (t.length + 2 + 1) / 2 - 1 = (t.length + 1) / 2 - 1 + 1 by omega, show halvesL (a :: b :: t) = half2 a b :: halvesL t from rfl, List.getD_cons_succ]
    exact e
theorem shr_u16 (h i : Nat) (hi : i < 2) : shr .u16 (h : Int) ((8 * i : Nat) : Int) % 256 = ((h / 2 ^ (8 * i) % 256 : Nat) : Int) := by
  unfold shr
  rw [show ((8 * i : Nat) : Int).toNat = 8 * i from rfl, show min (8 * i) (IntKind.u16.bits) = 8 * i by show min (8 * i) 16 = 8 * i; omega]
  rfl
theorem words_l (l : List Int) (hw : ∀ x ∈ l, (Lit.int .u8 x).wf = true) (hl : l.length < 140737488355328) :
    ∀ (d k i : Nat), i + d = l.length → d < k → bautalaw03_ImageWords.l0 k l (halvesL l) (i : Int) = some true := by
  have hlen := halves_len l
  intro d
  induction d with
  | zero =>
    intro k i hi hk
    obtain ⟨k, rfl⟩ : ∃ m, k = m + 1 := ⟨k - 1, by omega⟩
    simp only [bautalaw03_ImageWords.l0]
    rw [if_neg (by omega)]
    by_cases hp : (l.length : Int) % 2 = 0
    · rw [if_pos hp]; rfl
    · rw [if_neg hp]
      have ho : l.length % 2 = 1 := by omega
      have hb := half_last l hw ho
      have hx : wrap64 (((halvesL l).length : Int) - 1) = (((l.length + 1) / 2 - 1 : Nat) : Int) := by unfold wrap64; omega
      rw [hx, if_pos (by omega), if_pos (by omega)]
      rw [show rd (halvesL l) (((l.length + 1) / 2 - 1 : Nat) : Int) = (halvesL l).getD ((l.length + 1) / 2 - 1) 0 from rfl, if_pos hb]
      rfl
  | succ d ih =>
    intro k i hi hk
    obtain ⟨k, rfl⟩ : ∃ m, k = m + 1 := ⟨k - 1, by omega⟩
    obtain ⟨h, e1, e2, e3⟩ := half_at l hw i (by omega)
    have hx : wrap64 (Int.tdiv (i : Int) 2) = ((i / 2 : Nat) : Int) := by
      rw [show Int.tdiv (i : Int) 2 = ((i / 2 : Nat) : Int) from rfl]; unfold wrap64; omega
    have hy : IntKind.u64.wrap (wrap64 (8 * (Int.tmod (i : Int) 2))) = ((8 * (i % 2) : Nat) : Int) := by
      rw [show Int.tmod (i : Int) 2 = ((i % 2 : Nat) : Int) from rfl, show wrap64 (8 * ((i % 2 : Nat) : Int)) = ((8 * (i % 2) : Nat) : Int) by unfold wrap64; omega]
      simp [IntKind.wrap, IntKind.bits, IntKind.signed]; omega
    simp only [bautalaw03_ImageWords.l0]
    rw [if_pos (by omega), hx, hy, if_pos (by omega), if_pos (by omega), if_pos (by omega), if_pos (by omega)]
    rw [show rd (halvesL l) ((i / 2 : Nat) : Int) = (halvesL l).getD (i / 2) 0 from rfl, e1, shr_u16 h (i % 2) (by omega), e3]
    rw [if_pos (show l.getD i 0 = rd l (i : Int) from rfl), show wrap64 ((i : Int) + 1) = ((i + 1 : Nat) : Int) by unfold wrap64; omega]
    exact ih k (i + 1) (by omega) (by omega)
theorem ImageWords : bautalaw03_ImageWords.Pure := by
  intro l _ hl hw
  have hl' : l.length < 140737488355328 := by omega
  refine ⟨l.length + 1, ?_⟩
  unfold bautalaw03_ImageWords.f image_Words.f image_words.f
  rw [Option.bind_some, if_pos (by simpa using hl'), List.nil_append, if_pos hl', Option.bind_some, Option.bind_some]
  have hlen := halves_len l
  have hd : Int.tdiv ((l.length + 1 : Nat) : Int) 2 = (((l.length + 1) / 2 : Nat) : Int) := rfl
  rw [if_pos (by
    rw [show wrap64 ((l.length : Int) + 1) = ((l.length + 1 : Nat) : Int) by unfold wrap64; omega, hd]
    unfold wrap64; omega)]
  exact words_l l hw hl' l.length (l.length + 1) 0 (by omega) (by omega)
end Go.Proofs.Ytimhllaahihhgaa.Pure
