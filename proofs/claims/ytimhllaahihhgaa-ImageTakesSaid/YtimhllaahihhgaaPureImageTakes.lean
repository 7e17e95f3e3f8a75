/- ImageTakes: any bytes. No condition but the hypotheses that the theorem states. -/
import Derived.Test.YtimhllaahihhgaaVT
import Derived.Test.YtimhllaahihhgaaVU
namespace Go.Proofs.Ytimhllaahihhgaa.PA
open Go.RowKit Go.Proofs.YtimhllaahihhgaaW.PrintWords Go.Proofs.YtimhllaahihhgaaW.PrintLast Go.Proofs.YtimhllaahihhgaaW.PrintMore
set_option linter.unusedVariables false
set_option linter.unusedSimpArgs false
theorem halves_l0 (x : List Int) (hl : x.length < 4611686018427387904) : ∀ (d k i : Nat), i + d = x.length → d < k → bautaref03_Halves.l0 k x x (i : Int) = some true
  | 0, 0, i, h, hk => absurd hk (by omega)
  | d + 1, 0, i, h, hk => absurd hk (by omega)
  | 0, k + 1, i, h, hk => by rw [bautaref03_Halves.l0, if_neg (by omega)]
  | d + 1, k + 1, i, h, hk => by
    rw [bautaref03_Halves.l0, if_pos (by omega), if_pos (by omega), if_pos (by omega), if_pos rfl, wrap64_in' _ (by omega)]
    exact halves_l0 x hl d k (i + 1) (by omega) (by omega)
theorem halves_same (x : List Int) (k : Nat) (hl : x.length < 4611686018427387904) (hk : x.length < k) : bautaref03_Halves.f k x x = some true := by
  unfold bautaref03_Halves.f
  rw [if_pos rfl]
  exact halves_l0 x hl x.length k 0 (by omega) hk
theorem rcells_l0 (x : List S26) (hl : x.length < 4611686018427387904) : ∀ (d k i : Nat), i + d = x.length → d < k → bautaref03_Cells.l0 k x x (i : Int) = some true
  | 0, 0, i, h, hk => absurd hk (by omega)
  | d + 1, 0, i, h, hk => absurd hk (by omega)
  | 0, k + 1, i, h, hk => by rw [bautaref03_Cells.l0, if_neg (by omega)]
  | d + 1, k + 1, i, h, hk => by
    rw [bautaref03_Cells.l0, if_pos (by omega), if_pos (by omega), if_pos (by omega), if_neg (by simp), wrap64_in' _ (by omega)]
    exact rcells_l0 x hl d k (i + 1) (by omega) (by omega)
theorem rcells_same (x : List S26) (k : Nat) (hl : x.length < 4611686018427387904) (hk : x.length < k) : bautaref03_Cells.f k x x = some true := by
  unfold bautaref03_Cells.f
  rw [if_pos rfl]
  exact rcells_l0 x hl x.length k 0 (by omega) hk
theorem same_same (k : Nat) (a b c d : Int) (x y z : List S26) (hx : x.length < 4611686018427387904 ∧ x.length < k) (hy : y.length < 4611686018427387904 ∧ y.length < k) (hz : z.length < 4611686018427387904 ∧ z.length < k) : bautaref03_Same.f k a b c d x y z a b c d x y z = some true := by
  unfold bautaref03_Same.f
  rw [if_pos rfl, if_pos rfl, if_pos rfl, if_pos rfl, rcells_same x k hx.1 hx.2, Option.bind_some, if_pos rfl, rcells_same y k hy.1 hy.2, Option.bind_some, if_pos rfl, rcells_same z k hz.1 hz.2]
  rfl
/-- What is well read has its bytes. -/
theorem tail_ok (b0 : List Int) (hB : Bytes b0) (r1 : List Int) (r2 r3 r4 r5 : Int) (r6 r7 r8 : List S26) (h : tailI b0 = (r1, r2, r3, r4, r5, r6, r7, r8, 0)) :
    b0 = L4 r2 ++ L4 r3 ++ L4 r4 ++ L4 r5 ++ L4 (r1.length : Int) ++ hbs r1 ++ ([(r6.length : Int) % 256] ++ encC r6 ++ ([(r7.length : Int) % 256] ++ encC r7 ++ ([(r8.length : Int) % 256] ++ encC r8))) ∧ canB r2 r3 r4 r5 r6 r7 r8 = true ∧ r1.length ≤ 60000 := by
  unfold tailI at h
  obtain ⟨D0, b1, s1, e0⟩ : ∃ D b s, takeB 4 b0 false = (D, b, s) := ⟨_, _, _, rfl⟩
  obtain ⟨D1, b2, s2, e1⟩ : ∃ D b s, takeB 4 b1 s1 = (D, b, s) := ⟨_, _, _, rfl⟩
  obtain ⟨D2, b3, s3, e2⟩ : ∃ D b s, takeB 4 b2 s2 = (D, b, s) := ⟨_, _, _, rfl⟩
  obtain ⟨D3, b4, s4, e3⟩ : ∃ D b s, takeB 4 b3 s3 = (D, b, s) := ⟨_, _, _, rfl⟩
  obtain ⟨D4, b5, s5, e4⟩ : ∃ D b s, takeB 4 b4 s4 = (D, b, s) := ⟨_, _, _, rfl⟩
  simp only [e0, e1, e2, e3, e4] at h
  obtain ⟨m, hm⟩ : ∃ m, m = min (num4 D4).toNat 60000 := ⟨_, rfl⟩
  rw [← hm] at h
  obtain ⟨Dc, b6, s6, e5⟩ : ∃ D b s, takeB (2 * m) b5 s5 = (D, b, s) := ⟨_, _, _, rfl⟩
  obtain ⟨L1, b7, s7, e6⟩ : ∃ D b s, cellsF b6 s6 = (D, b, s) := ⟨_, _, _, rfl⟩
  obtain ⟨L2, b8, s8, e7⟩ : ∃ D b s, cellsF b7 s7 = (D, b, s) := ⟨_, _, _, rfl⟩
  obtain ⟨L3, b9, s9, e8⟩ : ∃ D b s, cellsF b8 s8 = (D, b, s) := ⟨_, _, _, rfl⟩
  simp only [e5, e6, e7, e8] at h
  split at h
  · simp [errI] at h
  rename_i hE
  split at h
  · simp [errI] at h
  rename_i hS
  split at h
  · simp [errI] at h
  rename_i hC
  simp only [Prod.mk.injEq] at h
  obtain ⟨rfl, rfl, rfl, rfl, rfl, rfl, rfl, rfl, _⟩ := h
  have hs9 : s9 = false := by simpa using hS
  subst hs9
  have g8 : s8 = false := by
    cases s8 with
    | false => rfl
    | true => have h2 := cellsF_short b8; rw [e8] at h2; exact h2.symm
  subst g8
  have g7 : s7 = false := by
    cases s7 with
    | false => rfl
    | true => have h2 := cellsF_short b7; rw [e7] at h2; exact h2.symm
  subst g7
  have g6 : s6 = false := by
    cases s6 with
    | false => rfl
    | true => have h2 := cellsF_short b6; rw [e6] at h2; exact h2.symm
  subst g6
  obtain ⟨rfl, l5, rfl, rfl⟩ := takeB_ok e5
  obtain ⟨rfl, l4, rfl, rfl⟩ := takeB_ok e4
  obtain ⟨rfl, l3, rfl, rfl⟩ := takeB_ok e3
  obtain ⟨rfl, l2, rfl, rfl⟩ := takeB_ok e2
  obtain ⟨rfl, l1, rfl, rfl⟩ := takeB_ok e1
  obtain ⟨_, l0, rfl, rfl⟩ := takeB_ok e0
  have B1 := hB.drop 4
  have B2 := B1.drop 4
  have B3 := B2.drop 4
  have B4 := B3.drop 4
  have B5 := B4.drop 4
  have B6 := B5.drop (2 * m)
  obtain ⟨q6, B7⟩ := cellsF_enc B6 e6
  obtain ⟨q7, B8⟩ := cellsF_enc B7 e7
  obtain ⟨q8, B9⟩ := cellsF_enc B8 e8
  have n9 : b9 = [] := by
    have : ¬ 0 < b9.length := fun h => hC (.inl h)
    exact List.eq_nil_of_length_eq_zero (by omega)
  subst n9
  have rng := num4_range (B4.take 4)
  have hm2 : (m : Int) = num4 ((((((b0.drop 4).drop 4).drop 4).drop 4)).take 4) := by
    have : ¬ 60000 < num4 ((((((b0.drop 4).drop 4).drop 4).drop 4)).take 4) := fun h => hE ⟨h, rfl⟩
    omega
  have hlen : (halvesL (((((((b0.drop 4).drop 4).drop 4).drop 4).drop 4)).take (2 * m))).length = m := by
    rw [halves_len, List.length_take]
    omega
  refine ⟨?_, ?_, by rw [hlen]; omega⟩
  · rw [hlen, hm2, hbs_halves m _ (B5.take _) (by rw [List.length_take]; omega)]
    rw [L4_num4 (hB.take 4) (by rw [List.length_take]; omega), L4_num4 (B1.take 4) (by rw [List.length_take]; omega), L4_num4 (B2.take 4) (by rw [List.length_take]; omega), L4_num4 (B3.take 4) (by rw [List.length_take]; omega), L4_num4 (B4.take 4) (by rw [List.length_take]; omega)]
    have q := q6
    rw [q7, q8, List.append_nil] at q
    rw [← q]
    simp only [List.append_assoc, List.take_append_drop]
  · cases hcb : canB (num4 (b0.take 4)) (num4 ((b0.drop 4).take 4)) (num4 (((b0.drop 4).drop 4).take 4)) (num4 ((((b0.drop 4).drop 4).drop 4).take 4)) L1 L2 L3 with
    | true => rfl
    | false => exact absurd (.inr hcb) hC
theorem listsB_enc (x y z : List S26) (xs : List Int) (h : xs.length + (3 + (encC x).length + (encC y).length + (encC z).length) ≤ 140737488351232) :
    listsB gI [x, y, z] xs = some (xs ++ ([(x.length : Int) % 256] ++ encC x ++ ([(y.length : Int) % 256] ++ encC y ++ ([(z.length : Int) % 256] ++ encC z)))) := by
  rw [listsB, if_pos (by omega), cellsB_enc x _ (by simp only [List.length_append, List.length_cons, List.length_nil]; omega), Option.bind_some]
  rw [listsB, if_pos (by simp only [List.length_append, List.length_cons, List.length_nil]; omega), cellsB_enc y _ (by simp only [List.length_append, List.length_cons, List.length_nil]; omega), Option.bind_some]
  rw [listsB, if_pos (by simp only [List.length_append, List.length_cons, List.length_nil]; omega), cellsB_enc z _ (by simp only [List.length_append, List.length_cons, List.length_nil]; omega), Option.bind_some]
  rw [listsB]
  simp only [List.append_assoc]
theorem put_ok (code : List Int) (a b c d : Int) (x y z : List S26) (hcan : canB a b c d x y z = true) (hc : code.length ≤ 60000) (h : 24 + 2 * code.length + (3 + (encC x).length + (encC y).length + (encC z).length) ≤ 140737488351232) :
    image_Put.f code a b c d x y z = some (headB a b c d (code.length : Int) ++ hbs code ++ ([(x.length : Int) % 256] ++ encC x ++ ([(y.length : Int) % 256] ++ encC y ++ ([(z.length : Int) % 256] ++ encC z))), 0) := by
  unfold image_Put.f
  rw [show image_can.f a b c d x y z = some true from congrArg some hcan, Option.bind_some, if_pos rfl, if_neg (by omega)]
  unfold image_put.f
  rw [if_pos (by omega), listsB_enc x y z _ (by rw [List.length_append, headB_len, hbs_len]; omega)]
  rfl
theorem tailI_err (b0 : List Int) : (tailI b0).2.2.2.2.2.2.2.2 = 0 ∨ ∃ c, tailI b0 = errI c ∧ c ≠ 0 := by
  unfold tailI
  simp only
  split
  · exact .inr ⟨2, rfl, by decide⟩
  · split
    · exact .inr ⟨3, rfl, by decide⟩
    · split
      · exact .inr ⟨4, rfl, by decide⟩
      · exact .inl rfl
theorem encC_ge : ∀ L : List S26, L.length ≤ (encC L).length
  | [] => Nat.zero_le _
  | c :: t => by rw [encC_len]; have := encC_ge t; simp; omega
theorem takeI_err (l : List Int) (hB : Bytes l) : ((takeI l).2.2.2.2.2.2.2.2 = 0 ∧ takeI l = tailI (l.drop 4) ∧ 4 ≤ l.length ∧ l.take 4 = magL) ∨ ∃ c, takeI l = errI c ∧ c ≠ 0 := by
  by_cases hex : ∃ i : Nat, i < 4 ∧ i < l.length ∧ rd l (i : Int) ≠ magL.getD i 0
  · obtain ⟨i, hi, hl, hm⟩ := hex
    exact .inr ⟨4, take_mark l hB i hi hl hm, by decide⟩
  · have hall : ∀ i : Nat, i < 4 → i < l.length → rd l (i : Int) = magL.getD i 0 := fun i h1 h2 => Classical.byContradiction fun h3 => hex ⟨i, h1, h2, h3⟩
    by_cases h4 : l.length < 4
    · exact .inr ⟨3, take_short l l.length h4 rfl (fun j hj => hall j (by omega) hj), by decide⟩
    · have e := take_long l (by omega) (fun j hj => hall j hj (by omega))
      rcases tailI_err (l.drop 4) with h | ⟨c, h, hc⟩
      · refine .inl ⟨by rw [e]; exact h, e, by omega, ?_⟩
        have a0 := hall 0 (by omega) (by omega)
        have a1 := hall 1 (by omega) (by omega)
        have a2 := hall 2 (by omega) (by omega)
        have a3 := hall 3 (by omega) (by omega)
        match l, h4 with
        | a :: b :: c :: d :: t, _ =>
          have x0 : a = 77 := a0
          have x1 : b = 83 := a1
          have x2 : c = 75 := a2
          have x3 : d = 49 := a3
          rw [x0, x1, x2, x3]
          rfl
        | [], h4 => simp at h4
        | [a], h4 => simp at h4
        | [a, b], h4 => simp at h4
        | [a, b, c], h4 => simp at h4
      · exact .inr ⟨c, by rw [e]; exact h, hc⟩
end Go.Proofs.Ytimhllaahihhgaa.PA
namespace Go.Proofs.Ytimhllaahihhgaa.Pure
open Go.RowKit Go.Proofs.Ytimhllaahihhgaa.PA Go.Proofs.YtimhllaahihhgaaW.PrintWords Go.Proofs.YtimhllaahihhgaaW.PrintLast
theorem ImageTakes : bautalaw03_ImageTakes.Pure := by
  intro l0 hm hs hw
  have hB : Bytes l0 := fun x hx => by
    have h := hw x hx
    simp [Lit.wf, IntKind.min, IntKind.max, IntKind.bits, IntKind.signed] at h
    omega
  have hall : l0.all (fun x => decide (0 ≤ x) && decide (x < 256)) = true := by
    rw [List.all_eq_true]
    intro x hx
    have := hB x hx
    simp
    omega
  have e1 : image_Take.f l0 = some (takeI l0) := by unfold image_Take.f; rw [if_pos hall]
  have e2 : bautaref03_Take.f l0 = some (takeI l0) := by unfold bautaref03_Take.f; rw [if_pos ⟨hall, by omega⟩]
  have ht := takeI_err l0 hB
  obtain ⟨R, hR⟩ : ∃ R, takeI l0 = R := ⟨_, rfl⟩
  rw [hR] at e1 e2 ht
  obtain ⟨r1, r2, r3, r4, r5, r6, r7, r8, r9⟩ := R
  have hlen : r1.length < 4611686018427387904 ∧ r6.length < 4611686018427387904 ∧ r7.length < 4611686018427387904 ∧ r8.length < 4611686018427387904 := by
    rcases ht with ⟨h9, h, h4, hmg⟩ | ⟨c, h, _⟩
    · simp only at h9
      subst h9
      obtain ⟨hb, _, h6⟩ := tail_ok (l0.drop 4) (hB.drop 4) r1 r2 r3 r4 r5 r6 r7 r8 h.symm
      have hl := congrArg List.length hb
      simp only [List.length_append, List.length_cons, List.length_nil, L4_len, hbs_len, List.length_drop] at hl
      have c6 := encC_ge r6
      have c7 := encC_ge r7
      have c8 := encC_ge r8
      omega
    · cases h
      simp
  refine ⟨r1.length + r6.length + r7.length + r8.length + 2, ?_⟩
  unfold bautalaw03_ImageTakes.f
  rw [Option.bind_some, List.nil_append, if_pos (by simp; omega), e1, Option.bind_some, e2, Option.bind_some, if_pos rfl]
  rw [halves_same r1 _ hlen.1 (by omega), Option.bind_some, if_pos rfl, same_same _ _ _ _ _ _ _ _ ⟨hlen.2.1, by omega⟩ ⟨hlen.2.2.1, by omega⟩ ⟨hlen.2.2.2, by omega⟩, Option.bind_some]
  rw [show r1.length + r6.length + r7.length + r8.length + 2 = (r1.length + r6.length + r7.length + r8.length + 1) + 1 by omega, bautalaw03_ImageTakes.j0, if_neg (by decide)]
  rcases ht with ⟨h9, h, h4, hmg⟩ | ⟨c, h, hc⟩
  · simp only at h9
    subst h9
    obtain ⟨hb, hcan, h6⟩ := tail_ok (l0.drop 4) (hB.drop 4) r1 r2 r3 r4 r5 r6 r7 r8 h.symm
    have hl := congrArg List.length hb
    simp only [List.length_append, List.length_cons, List.length_nil, L4_len, hbs_len, List.length_drop] at hl
    rw [if_pos rfl, put_ok r1 r2 r3 r4 r5 r6 r7 r8 hcan h6 (by omega), Option.bind_some, if_pos rfl]
    have hall0 : headB r2 r3 r4 r5 (r1.length : Int) ++ hbs r1 ++ ([(r6.length : Int) % 256] ++ encC r6 ++ ([(r7.length : Int) % 256] ++ encC r7 ++ ([(r8.length : Int) % 256] ++ encC r8))) = l0 := by
      rw [← List.take_append_drop 4 l0, hmg, hb]
      unfold headB magL
      simp only [List.append_assoc]
    rw [hall0, if_pos rfl]
    rfl
  · cases h
    rw [if_neg hc]
    rfl
end Go.Proofs.Ytimhllaahihhgaa.Pure
