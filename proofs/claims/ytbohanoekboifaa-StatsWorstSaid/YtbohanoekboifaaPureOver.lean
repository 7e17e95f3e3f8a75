/- Two fractions compared: by long hand (the reference's over) and by 128-bit products (above). Plain Lean. Built against KEY W's print. -/
import Derived.Test.YtbohanoekboifaaPWx7
namespace Go.Proofs.Ytbohanoekboifaa.BO
open Go.RowKit Go.Proofs.Ytbohanoekboifaa.PW Go.Proofs.YtbohanoekboifaaW.PrintWords Go.Proofs.YtbohanoekboifaaW.PrintLast Go.Proofs.YtbohanoekboifaaW.PrintMore
set_option linter.unusedVariables false

theorem qd (U D : Nat) (h : U < 4611686018427387904) : wrap64 (Int.tdiv (U : Int) (D : Int)) = ((U / D : Nat) : Int) := by
  rw [Int.tdiv_eq_ediv_of_nonneg (by omega), ← Int.natCast_ediv]
  have := Nat.div_le_self U D
  generalize U / D = q at this ⊢
  unfold wrap64; omega
theorem md (U D : Nat) : Int.tmod (U : Int) (D : Int) = ((U % D : Nat) : Int) := by
  rw [Int.tmod_eq_emod_of_nonneg (by omega), ← Int.natCast_emod]
theorem gt_of_q (U D V E : Nat) (hD : 0 < D) (hE : 0 < E) (h : V / E < U / D) : V * D < U * E := by
  have h1 : V < (V / E + 1) * E := by
    have := Nat.div_add_mod V E
    have := Nat.mod_lt V hE
    rw [Nat.add_mul, Nat.one_mul, Nat.mul_comm (V / E) E]; omega
  have h2 : (U / D) * D ≤ U := Nat.div_mul_le_self U D
  calc V * D < ((V / E + 1) * E) * D := Nat.mul_lt_mul_of_pos_right h1 hD
    _ ≤ ((U / D) * E) * D := Nat.mul_le_mul_right D (Nat.mul_le_mul_right E h)
    _ = ((U / D) * D) * E := by rw [Nat.mul_right_comm]
    _ ≤ U * E := Nat.mul_le_mul_right E h2
theorem same_q (U D V E : Nat) (h : U / D = V / E) : V * D < U * E ↔ (V % E) * D < (U % D) * E := by
  have hU := Nat.div_add_mod U D
  have hV := Nat.div_add_mod V E
  rw [← h] at hV
  generalize U / D = q at hU hV
  generalize U % D = r at hU ⊢
  generalize V % E = s at hV ⊢
  subst hU hV
  rw [Nat.add_mul, Nat.add_mul, show E * q * D = D * q * E by rw [Nat.mul_comm E q, Nat.mul_comm D q, Nat.mul_right_comm]]
  omega
/-- One round. -/
theorem over_step (k U D V E : Nat) (i : Nat) (hi : i < 200) (hD : 0 < D) (hE : 0 < E) (hU : U < 4611686018427387904) (hV : V < 4611686018427387904) :
    bautaref39_over.l0 (k + 1) (U : Int) (D : Int) (V : Int) (E : Int) (i : Int) = some (decide (V * D < U * E)) ∨
      (0 < U % D ∧ 0 < V % E ∧ bautaref39_over.l0 (k + 1) (U : Int) (D : Int) (V : Int) (E : Int) (i : Int) = bautaref39_over.l0 k (E : Int) ((V % E : Nat) : Int) (D : Int) ((U % D : Nat) : Int) ((i + 1 : Nat) : Int) ∧
        (D * (V % E) < E * (U % D) ↔ V * D < U * E)) := by
  simp only [bautaref39_over.l0]
  rw [if_pos (by omega), if_neg (by omega), if_neg (by omega), qd U D hU, qd V E hV, md U D, md V E]
  by_cases c1 : ((U / D : Nat) : Int) = ((V / E : Nat) : Int)
  · have c1' : U / D = V / E := by exact Int.ofNat.inj c1
    have sq := same_q U D V E c1'
    rw [if_pos c1]
    by_cases c2 : ((U % D : Nat) : Int) = 0
    · have c2' : U % D = 0 := by omega
      left
      rw [if_pos c2, c2']
      rw [c2', Nat.zero_mul] at sq
      congr 1
      exact (decide_eq_false (by decide)).trans (decide_eq_false (by rw [sq]; omega)).symm
    · rw [if_neg c2]
      have c2' : 0 < U % D := by omega
      by_cases c3 : ((V % E : Nat) : Int) = 0
      · have c3' : V % E = 0 := by omega
        left
        rw [if_pos c3]
        rw [c3', Nat.zero_mul] at sq
        congr 1
        exact (decide_eq_true (by omega)).trans (decide_eq_true (sq.mpr (Nat.mul_pos c2' hE))).symm
      · right
        rw [if_neg c3, show wrap64 ((i : Int) + 1) = ((i + 1 : Nat) : Int) by unfold wrap64; omega]
        refine ⟨c2', by omega, rfl, ?_⟩
        rw [sq, Nat.mul_comm D, Nat.mul_comm E]
  · rw [if_neg c1]
    left
    congr 1
    rcases Nat.lt_or_ge (V / E) (U / D) with h | h
    · exact (decide_eq_true (by omega)).trans (decide_eq_true (gt_of_q U D V E hD hE h)).symm
    · have h' : U / D < V / E := by omega
      have := gt_of_q V E U D hE hD h'
      exact (decide_eq_false (by omega)).trans (decide_eq_false (by omega)).symm
theorem half (D u : Nat) (h0 : 0 < u) (h : u < D) : 2 * (D % u) < D := by
  have h1 := Nat.div_add_mod D u
  have h2 := Nat.mod_lt D h0
  have h3 : 1 ≤ D / u := (Nat.le_div_iff_mul_le h0).mpr (by omega)
  have h4 : u * 1 ≤ u * (D / u) := Nat.mul_le_mul_left u h3
  omega
theorem over_l0 (s : Nat) : ∀ (k U D V E i : Nat), 0 < D → D < 2 ^ s → 0 < E → U < 4611686018427387904 → V < 4611686018427387904 → D < 4611686018427387904 → E < 4611686018427387904 → 2 * s + 2 ≤ k → i + 2 * s + 2 ≤ 200 →
    bautaref39_over.l0 k (U : Int) (D : Int) (V : Int) (E : Int) (i : Int) = some (decide (V * D < U * E)) := by
  induction s with
  | zero => intro k U D V E i h0 h1; simp at h1; omega
  | succ s ih =>
    intro k U D V E i hD hs hE hU hV hD' hE' hk hi
    obtain ⟨k, rfl⟩ : ∃ q, k = q + 1 + 1 := ⟨k - 2, by omega⟩
    rcases over_step (k + 1) U D V E i (by omega) hD hE hU hV with h | ⟨p1, p2, h, e1⟩
    · exact h
    · rw [h]
      have m1 := Nat.mod_lt U hD
      have m2 := Nat.mod_lt V hE
      rcases over_step k E (V % E) D (U % D) (i + 1) (by omega) p2 p1 hE' hD' with h' | ⟨r1, r2, h', e2⟩
      · exact h'.trans (congrArg some (decide_eq_decide.mpr e1))
      · have g1 := half D (U % D) p1 m1
        have g2 := half E (V % E) p2 m2
        have q := ih k (U % D) (D % (U % D)) (V % E) (E % (V % E)) (i + 1 + 1) r2 (by rw [Nat.pow_succ] at hs; omega) r1 (by omega) (by omega) (by omega) (by omega) (by omega) (by omega)
        exact h'.trans (q.trans (congrArg some (decide_eq_decide.mpr (e2.trans e1))))
theorem over_f (k U D V E : Nat) (hD : 0 < D) (hD' : D < 1073741824) (hE : 0 < E) (hE' : E < 1073741824) (hU : U < 4611686018427387904) (hV : V < 4611686018427387904) (hk : 100 ≤ k) :
    bautaref39_over.f k (U : Int) (D : Int) (V : Int) (E : Int) = some (decide (V * D < U * E)) := by
  unfold bautaref39_over.f
  exact over_l0 30 k U D V E 0 hD hD' hE hU hV (by omega) (by omega) (by omega) (by omega)
end Go.Proofs.Ytbohanoekboifaa.BO
