/- What is read of an image's bytes, put again, is those bytes. No condition but the hypotheses that each theorem states. -/
import Derived.Test.YtimhllaahihhgaaRU
import Derived.Test.YtimhllaahihhgaaQB
namespace Go.Proofs.Ytimhllaahihhgaa.PA
open Go.RowKit Go.Proofs.YtimhllaahihhgaaW.PrintWords Go.Proofs.YtimhllaahihhgaaW.PrintLast Go.Proofs.YtimhllaahihhgaaW.PrintMore
set_option linter.unusedVariables false
set_option linter.unusedSimpArgs false
/-- Cells' bytes. -/
def encC (L : List S26) : List Int := L.flatMap fun c => [(c.f0.size : Int) % 256] ++ Go.Proofs.YtimhllaahihhgaaW.PrintWords.bytesOf c.f0 ++ L4 c.f1
theorem encC_cons (c : S26) (t : List S26) : encC (c :: t) = [(c.f0.size : Int) % 256] ++ Go.Proofs.YtimhllaahihhgaaW.PrintWords.bytesOf c.f0 ++ L4 c.f1 ++ encC t := by simp [encC]
theorem encC_len (c : S26) (t : List S26) : (encC (c :: t)).length = c.f0.size + 5 + (encC t).length := by
  rw [encC_cons]
  simp only [List.length_append, List.length_cons, List.length_nil, bytesOf_length, L4_len]
  omega
theorem cellsB_enc : ∀ (L : List S26) (xs : List Int), xs.length + (encC L).length ≤ 140737488351232 → cellsB gI L xs = some (xs ++ encC L)
  | [], xs, _ => by simp [cellsB, encC]
  | c :: t, xs, h => by
    rw [encC_len] at h
    rw [cellsB, if_pos (by omega)]
    rw [show gI (xs ++ [(c.f0.size : Int) % 256] ++ Go.Proofs.YtimhllaahihhgaaW.PrintWords.bytesOf c.f0) c.f1 = some (xs ++ [(c.f0.size : Int) % 256] ++ Go.Proofs.YtimhllaahihhgaaW.PrintWords.bytesOf c.f0 ++ L4 c.f1) from rfl, Option.bind_some, cellsB_enc t _ (by simp only [List.length_append, List.length_cons, List.length_nil, bytesOf_length, L4_len]; omega), encC_cons]
    simp
theorem takeB_ok {n : Nat} {bs D b : List Int} {sh : Bool} (h : takeB n bs sh = (D, b, false)) : sh = false ∧ n ≤ bs.length ∧ D = bs.take n ∧ b = bs.drop n := by
  unfold takeB at h
  split at h
  · simp at h
  · rename_i hs
    simp only [Prod.mk.injEq] at h
    refine ⟨?_, by have : ¬ bs.length < n := fun h2 => hs (.inr h2); omega, h.1.symm, h.2.1.symm⟩
    cases sh with
    | false => rfl
    | true => exact absurd (.inl rfl) hs
theorem L4_num4 {D : List Int} (h : Bytes D) (hl : D.length = 4) : L4 (num4 D) = D := by
  match D, hl with
  | [a, b, c, d], _ =>
    have ha := h a (by simp)
    have hb := h b (by simp)
    have hc := h c (by simp)
    have hd := h d (by simp)
    rw [num4_eq h]
    show L4 (a + 256 * b + 65536 * c + 16777216 * d) = _
    unfold L4
    have e1 : (a + 256 * b + 65536 * c + 16777216 * d) % 256 = a := by omega
    have e2 : (a + 256 * b + 65536 * c + 16777216 * d) / 256 % 256 = b := by omega
    have e3 : (a + 256 * b + 65536 * c + 16777216 * d) / 65536 % 256 = c := by omega
    have e4 : (a + 256 * b + 65536 * c + 16777216 * d) / 16777216 % 256 = d := by omega
    rw [e1, e2, e3, e4]
theorem bytesOf_str {N : List Int} (h : Bytes N) : Go.Proofs.YtimhllaahihhgaaW.PrintWords.bytesOf (strOfNums N) = N := by
  unfold Go.Proofs.YtimhllaahihhgaaW.PrintWords.bytesOf
  rw [strOfNums_data, List.map_map]
  conv => rhs; rw [← List.map_id N]
  apply List.map_congr_left
  intro x hx
  have := h x hx
  simp only [Function.comp, UInt8.toNat_ofNat', id]
  omega
theorem hbs_halves : ∀ (n : Nat) (D : List Int), Bytes D → D.length = 2 * n → hbs (halvesL D) = D
  | 0, D, _, hl => by obtain rfl := List.eq_nil_of_length_eq_zero (show D.length = 0 by omega); rfl
  | n + 1, [], _, hl => by simp at hl
  | n + 1, [a], _, hl => by simp at hl; omega
  | n + 1, a :: b :: t, h, hl => by
    have ih := hbs_halves n t (fun x hx => h x (by simp [hx])) (by simp at hl; omega)
    have ha := h a (by simp)
    have hb := h b (by simp)
    rw [halvesL, half2_eq a b ha hb]
    have e : hbs ((a + 256 * b) :: halvesL t) = [(a + 256 * b) % 256, (a + 256 * b) / 256 % 256] ++ hbs (halvesL t) := by simp [hbs]
    rw [e, ih, show (a + 256 * b) % 256 = a by omega, show (a + 256 * b) / 256 % 256 = b by omega]
    rfl
theorem cellsR_enc : ∀ (n : Nat) (out : List S26) (bs : List Int) (out' : List S26) (bs' : List Int), Bytes bs → cellsR n out bs false = (out', bs', false) → ∃ new, out' = out ++ new ∧ new.length = n ∧ bs = encC new ++ bs' ∧ Bytes bs'
  | 0, out, bs, out', bs', hB, h => by
    simp only [cellsR, Prod.mk.injEq] at h
    exact ⟨[], by simp [h.1], rfl, by simp [encC, h.2.1], h.2.1 ▸ hB⟩
  | n + 1, out, bs, out', bs', hB, h => by
    rw [cellsR] at h
    obtain ⟨D1, b1, s1, e1⟩ : ∃ D b s, takeB 1 bs false = (D, b, s) := ⟨_, _, _, rfl⟩
    have hoct : octN bs false = (rd D1 0).toNat := by unfold octN; rw [e1]
    obtain ⟨k, hk⟩ : ∃ k, k = (rd D1 0).toNat := ⟨_, rfl⟩
    rw [hoct, ← hk] at h
    clear hoct
    simp only [e1] at h
    obtain ⟨D2, b2, s2, e2⟩ : ∃ D b s, takeB k b1 s1 = (D, b, s) := ⟨_, _, _, rfl⟩
    simp only [e2] at h
    obtain ⟨D3, b3, s3, e3⟩ : ∃ D b s, takeB 4 b2 s2 = (D, b, s) := ⟨_, _, _, rfl⟩
    simp only [e3] at h
    cases s3 with
    | true =>
      have h2 := cellsR_short n (out ++ [⟨strOfNums D2, num4 D3⟩]) b3
      rw [h] at h2
      cases h2
    | false =>
      obtain ⟨rfl, l3, rfl, rfl⟩ := takeB_ok e3
      obtain ⟨rfl, l2, rfl, rfl⟩ := takeB_ok e2
      obtain ⟨_, l1, rfl, rfl⟩ := takeB_ok e1
      have hb1 := hB.drop 1
      have hb2 := hb1.drop k
      obtain ⟨new, rfl, hn, hbs, hbs'⟩ := cellsR_enc n _ _ _ _ (hb2.drop 4) h
      match bs, l1 with
      | a :: t, _ =>
        have ha := hB a (by simp)
        have hka : k = a.toNat := hk
        simp only [List.drop_succ_cons, List.drop_zero] at *
        refine ⟨⟨strOfNums (t.take k), num4 ((t.drop k).take 4)⟩ :: new, by simp, by simp [hn], ?_, hbs'⟩
        rw [encC_cons, strOfNums_size, List.length_take]
        have e4 : ((min k t.length : Nat) : Int) % 256 = a := by omega
        have e5 : L4 (num4 ((t.drop k).take 4)) = (t.drop k).take 4 := L4_num4 (hb2.take 4) (by rw [List.length_take]; omega)
        rw [e4, bytesOf_str (hb1.take k), e5]
        simp only [List.append_assoc]
        rw [← hbs, List.take_append_drop, List.take_append_drop]
        rfl
theorem cellsF_enc {bs : List Int} {L : List S26} {bs' : List Int} (hB : Bytes bs) (h : cellsF bs false = (L, bs', false)) : bs = [(L.length : Int) % 256] ++ encC L ++ bs' ∧ Bytes bs' := by
  unfold cellsF at h
  obtain ⟨D1, b1, s1, e1⟩ : ∃ D b s, takeB 1 bs false = (D, b, s) := ⟨_, _, _, rfl⟩
  have hoct : octN bs false = (rd D1 0).toNat := by unfold octN; rw [e1]
  rw [hoct] at h
  simp only [e1] at h
  cases s1 with
  | true =>
    have h2 := cellsR_short (rd D1 0).toNat [] b1
    rw [h] at h2
    cases h2
  | false =>
    obtain ⟨_, l1, rfl, rfl⟩ := takeB_ok e1
    obtain ⟨new, rfl, hn, hbs, hbs'⟩ := cellsR_enc _ _ _ _ _ (hB.drop 1) h
    match bs, l1 with
    | a :: t, _ =>
      have ha := hB a (by simp)
      have hr : rd ((a :: t).take 1) 0 = a := rfl
      rw [hr] at hn
      simp only [List.drop_succ_cons, List.drop_zero] at hbs
      refine ⟨?_, hbs'⟩
      rw [hn, show ((a.toNat : Nat) : Int) % 256 = a by omega, hbs]
      rfl
end Go.Proofs.Ytimhllaahihhgaa.PA
