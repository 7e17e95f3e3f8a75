/- The first of the values of which a function is true. No program in sight. No condition but the hypotheses that each theorem states. -/
import Derived.Test.YtialbhkamlfccaaM1
namespace Go.Proofs.Ytialbhkamlfccaa.Dia
set_option linter.unusedVariables false
variable {vars : Nat} {ns : List Nd}
/-- The path to 1 that takes the low way where it can. -/
def pathF (ns : List Nd) : Nat → Nat → Nat → Bool
  | 0, _ => fun _ => false
  | f + 1, i => if i < 2 then fun _ => false else
    match ns[i]? with
    | none => fun _ => false
    | some n => if n.lo ≠ 0 then pathF ns f n.lo else set1 (pathF ns f n.hi) n.v true
def path (ns : List Nd) (i : Nat) : Nat → Bool := pathF ns i i
theorem pathF_more (h : Inv vars ns) : ∀ (f i g : Nat), i ≤ f → i ≤ g → i < ns.length → pathF ns f i = pathF ns g i
  | 0, i, g, hf, hg, hl => by
    obtain rfl : i = 0 := by omega
    cases g with
    | zero => rfl
    | succ g => rw [pathF, pathF, if_pos (by omega)]
  | f + 1, i, 0, hf, hg, hl => by
    obtain rfl : i = 0 := by omega
    rw [pathF, pathF, if_pos (by omega)]
  | f + 1, i, g + 1, hf, hg, hl => by
    by_cases hi : i < 2
    · rw [pathF, pathF, if_pos hi, if_pos hi]
    · rw [pathF, pathF, if_neg hi, if_neg hi, List.getElem?_eq_getElem hl]
      have hn := h.lt i ns[i] (List.getElem?_eq_getElem hl) (by omega)
      simp only
      rw [pathF_more h f ns[i].hi g (by omega) (by omega) (by omega), pathF_more h f ns[i].lo g (by omega) (by omega) (by omega)]
theorem path_one : path ns 1 = fun _ => false := by
  unfold path
  rw [pathF, if_pos (by omega)]
theorem path_node (h : Inv vars ns) {i : Nat} {n : Nd} (hn : ns[i]? = some n) (hi : 2 ≤ i) : path ns i = if n.lo ≠ 0 then path ns n.lo else set1 (path ns n.hi) n.v true := by
  have hl : i < ns.length := (List.getElem?_eq_some_iff.mp hn).1
  have hb := h.lt i n hn hi
  unfold path
  obtain ⟨f, rfl⟩ : ∃ f, i = f + 1 := ⟨i - 1, by omega⟩
  rw [pathF, if_neg (by omega), hn]
  simp only
  rw [pathF_more h f n.hi n.hi (by omega) (Nat.le_refl _) (by omega), pathF_more h f n.lo n.lo (by omega) (Nat.le_refl _) (by omega)]
/-- Ahead of its node's variable a path is false. -/
theorem path_low (h : Inv vars ns) : ∀ (i : Nat), 1 ≤ i → i < ns.length → ∀ v, v < top ns i → path ns i v = false := by
  intro i
  induction i using Nat.strongRecOn with
  | ind i ih =>
    intro h1 hl v hv
    by_cases hi : i < 2
    · obtain rfl : i = 1 := by omega
      rw [path_one]
    · have hn : ns[i]? = some ns[i] := List.getElem?_eq_getElem hl
      have hb := h.lt i _ hn (by omega)
      have hlo : ns[ns[i].lo]? = some ns[ns[i].lo] := List.getElem?_eq_getElem (by omega)
      have hhi : ns[ns[i].hi]? = some ns[ns[i].hi] := List.getElem?_eq_getElem (by omega)
      have u1 := h.up i _ _ hn (by omega) (.inl hlo)
      have u2 := h.up i _ _ hn (by omega) (.inr hhi)
      rw [top_of hn] at hv
      rw [path_node h hn (by omega)]
      by_cases h0 : ns[i].lo = 0
      · rw [if_neg (by simp [h0])]
        unfold set1
        rw [if_neg (by omega)]
        exact ih _ (by omega) (by have := hb.2.1; omega) (by omega) v (by rw [top_of hhi]; omega)
      · rw [if_pos h0]
        exact ih _ (by omega) (by omega) (by omega) v (by rw [top_of hlo]; omega)
/-- The number that the last n variables' values are. -/
def nv (vars : Nat) : Nat → (Nat → Bool) → Nat
  | 0, _ => 0
  | n + 1, y => (if y (vars - (n + 1)) then 2 ^ n else 0) + nv vars n y
theorem nv_succ (n : Nat) (y : Nat → Bool) : nv vars (n + 1) y = (if y (vars - (n + 1)) then 2 ^ n else 0) + nv vars n y := rfl
theorem nv_lt : ∀ (n : Nat) (y : Nat → Bool), nv vars n y < 2 ^ n
  | 0, y => by unfold nv; decide
  | n + 1, y => by
    have := nv_lt n y
    rw [nv_succ, Nat.pow_succ]
    split <;> omega
theorem nv_congr : ∀ (n : Nat) (y z : Nat → Bool), (∀ v, vars ≤ v + n → v < vars → y v = z v) → n ≤ vars → nv vars n y = nv vars n z
  | 0, y, z, h, hn => rfl
  | n + 1, y, z, h, hn => by rw [nv_succ, nv_succ, h (vars - (n + 1)) (by omega) (by omega), nv_congr n y z (fun v h1 h2 => h v (by omega) h2) (by omega)]
theorem nv_mono : ∀ (n m : Nat) (y : Nat → Bool), n ≤ m → nv vars n y ≤ nv vars m y
  | n, 0, y, h => by obtain rfl : n = 0 := by omega
                     exact Nat.le_refl _
  | n, m + 1, y, h => by
    rcases Nat.lt_or_ge n (m + 1) with hlt | hge
    · have := nv_mono n m y (by omega)
      rw [nv_succ]
      omega
    · obtain rfl : n = m + 1 := by omega
      exact Nat.le_refl _
/-- Where the values ahead are false they count nothing. -/
theorem nv_zero : ∀ (m n : Nat) (y : Nat → Bool), n ≤ m → m ≤ vars → (∀ v, vars ≤ v + m → v + n < vars → y v = false) → nv vars m y = nv vars n y
  | 0, n, y, h, hm, hz => by obtain rfl : n = 0 := by omega
                             rfl
  | m + 1, n, y, h, hm, hz => by
    rcases Nat.lt_or_ge n (m + 1) with hlt | hge
    · rw [nv_succ, hz (vars - (m + 1)) (by omega) (by omega), if_neg (by decide), Nat.zero_add, nv_zero m n y (by omega) (by omega) (fun v h1 h2 => hz v (by omega) h2)]
    · obtain rfl : n = m + 1 := by omega
      rfl
theorem path_true (h : Inv vars ns) : ∀ (i : Nat), 1 ≤ i → i < ns.length → sem ns i (path ns i) = true := by
  intro i
  induction i using Nat.strongRecOn with
  | ind i ih =>
    intro h1 hl
    by_cases hi : i < 2
    · obtain rfl : i = 1 := by omega
      exact sem_one _
    · have hn : ns[i]? = some ns[i] := List.getElem?_eq_getElem hl
      have hb := h.lt i _ hn (by omega)
      have hlo : ns[ns[i].lo]? = some ns[ns[i].lo] := List.getElem?_eq_getElem (by omega)
      have hhi : ns[ns[i].hi]? = some ns[ns[i].hi] := List.getElem?_eq_getElem (by omega)
      have u1 := h.up i _ _ hn (by omega) (.inl hlo)
      have u2 := h.up i _ _ hn (by omega) (.inr hhi)
      rw [sem_node h hn (by omega)]
      have hpn := path_node h hn (by omega)
      by_cases h0 : ns[i].lo = 0
      · rw [if_neg (by simp [h0])] at hpn
        rw [hpn, show set1 (path ns ns[i].hi) ns[i].v true ns[i].v = true by simp [set1], if_pos rfl]
        rw [sem_free h ns[i].hi (by omega) _ (path ns ns[i].hi) (fun v h3 h4 => by rw [top_of hhi] at h3; unfold set1; rw [if_neg (by omega)])]
        exact ih _ (by omega) (by have := hb.2.1; omega) (by omega)
      · rw [if_pos h0] at hpn
        rw [hpn, path_low h ns[i].lo (by omega) (by omega) ns[i].v (by rw [top_of hlo]; omega), if_neg (by decide)]
        exact ih _ (by omega) (by omega) (by omega)
/-- No lesser value makes it true. -/
theorem path_least (h : Inv vars ns) : ∀ (i : Nat), 1 ≤ i → i < ns.length → ∀ y, sem ns i y = true → nv vars (vars - top ns i) (path ns i) ≤ nv vars (vars - top ns i) y := by
  intro i
  induction i using Nat.strongRecOn with
  | ind i ih =>
    intro h1 hl y hy
    by_cases hi : i < 2
    · obtain rfl : i = 1 := by omega
      rw [top_const h (by omega), Nat.sub_self]
      exact Nat.le_refl _
    · have hn : ns[i]? = some ns[i] := List.getElem?_eq_getElem hl
      have hb := h.lt i _ hn (by omega)
      have hlo : ns[ns[i].lo]? = some ns[ns[i].lo] := List.getElem?_eq_getElem (by omega)
      have hhi : ns[ns[i].hi]? = some ns[ns[i].hi] := List.getElem?_eq_getElem (by omega)
      have u1 := h.up i _ _ hn (by omega) (.inl hlo)
      have u2 := h.up i _ _ hn (by omega) (.inr hhi)
      have t1 := top_le h (i := ns[i].lo) (by omega)
      have t2 := top_le h (i := ns[i].hi) (by omega)
      have e1 := top_of hlo
      have e2 := top_of hhi
      rw [top_of hn, show vars - ns[i].v = (vars - ns[i].v - 1) + 1 by omega, nv_succ, nv_succ, show vars - (vars - ns[i].v - 1 + 1) = ns[i].v by omega]
      rw [sem_node h hn (by omega)] at hy
      have hpn := path_node h hn (by omega)
      by_cases h0 : ns[i].lo = 0
      · rw [if_neg (by simp [h0])] at hpn
        rw [hpn, show set1 (path ns ns[i].hi) ns[i].v true ns[i].v = true by simp [set1], if_pos rfl]
        have hyv : y ns[i].v = true := by
          cases hq : y ns[i].v with
          | true => rfl
          | false => rw [hq, if_neg (by decide), h0, sem_zero] at hy; cases hy
        rw [hyv, if_pos rfl] at hy
        have hI := ih ns[i].hi (by omega) (by have := hb.2.1; omega) (by omega) y hy
        have hz := nv_zero (vars := vars) (vars - ns[i].v - 1) (vars - top ns ns[i].hi) (path ns ns[i].hi) (by omega) (by omega) (fun v h3 h4 => path_low h _ (by have := hb.2.1; omega) (by omega) v (by omega))
        have hc := nv_congr (vars := vars) (vars - ns[i].v - 1) (set1 (path ns ns[i].hi) ns[i].v true) (path ns ns[i].hi) (fun v h3 h4 => by unfold set1; rw [if_neg (by omega)]) (by omega)
        have hm := nv_mono (vars := vars) (vars - top ns ns[i].hi) (vars - ns[i].v - 1) y (by omega)
        rw [hc, hz, hyv, if_pos rfl]
        omega
      · rw [if_pos h0] at hpn
        rw [hpn, path_low h ns[i].lo (by omega) (by omega) ns[i].v (by omega), if_neg (by decide), Nat.zero_add]
        have hz := nv_zero (vars := vars) (vars - ns[i].v - 1) (vars - top ns ns[i].lo) (path ns ns[i].lo) (by omega) (by omega) (fun v h3 h4 => path_low h _ (by omega) (by omega) v (by omega))
        cases hq : y ns[i].v with
        | true =>
          rw [if_pos rfl]
          have := nv_lt (vars := vars) (vars - ns[i].v - 1) (path ns ns[i].lo)
          omega
        | false =>
          rw [hq, if_neg (by decide)] at hy
          rw [if_neg (by decide), Nat.zero_add, hz]
          have hI := ih ns[i].lo (by omega) (by omega) (by omega) y hy
          have hm := nv_mono (vars := vars) (vars - top ns ns[i].lo) (vars - ns[i].v - 1) y (by omega)
          omega
/-- A number's bits. -/
theorem nv_bits : ∀ (n : Nat) (y : Nat → Bool), n ≤ vars → ∀ v, vars ≤ v + n → v < vars → bitAt vars (nv vars n y) v = y v
  | 0, y, hn, v, h1, h2 => by omega
  | n + 1, y, hn, v, h1, h2 => by
    have hp : 0 < 2 ^ n := Nat.pow_pos (by decide)
    have hlt := nv_lt (vars := vars) n y
    rw [nv_succ]
    by_cases hv : v = vars - (n + 1)
    · unfold bitAt
      rw [show vars - 1 - v = n by omega, hv]
      cases y (vars - (n + 1)) with
      | true => rw [if_pos rfl, Nat.add_div_left _ hp, Nat.div_eq_of_lt hlt]; rfl
      | false => rw [if_neg (by decide), Nat.zero_add, Nat.div_eq_of_lt hlt]; rfl
    · rw [← nv_bits n y (by omega) v (by omega) h2]
      unfold bitAt
      cases y (vars - (n + 1)) with
      | false => rw [if_neg (by decide), Nat.zero_add]
      | true =>
        rw [if_pos rfl]
        have e : 2 ^ n = 2 ^ (vars - 1 - v) * (2 * 2 ^ (n - 1 - (vars - 1 - v))) := by rw [← Nat.pow_succ', ← Nat.pow_add]; congr 1; omega
        rw [e, Nat.add_comm, Nat.add_mul_div_left _ _ (Nat.pow_pos (by decide)), Nat.add_mul_mod_self_left]
theorem bits_nv {x : Nat} : ∀ (n : Nat), n ≤ vars → nv vars n (bitAt vars x) = x % 2 ^ n
  | 0, hn => by rw [Nat.pow_zero, Nat.mod_one]; rfl
  | n + 1, hn => by
    rw [nv_succ, bits_nv n (by omega)]
    have hb : bitAt vars x (vars - (n + 1)) = (x / 2 ^ n % 2 == 1) := by unfold bitAt; rw [show vars - 1 - (vars - (n + 1)) = n by omega]
    rw [hb, Nat.pow_succ, Nat.mod_mul]
    rcases Nat.mod_two_eq_zero_or_one (x / 2 ^ n) with h | h <;> rw [h] <;> simp <;> omega
/-- THE FIRST VALUE. -/
theorem path_first (h : Inv vars ns) {i : Nat} (h1 : 1 ≤ i) (hl : i < ns.length) : sem ns i (bitAt vars (nv vars vars (path ns i))) = true ∧ nv vars vars (path ns i) < 2 ^ vars ∧ ∀ x, x < nv vars vars (path ns i) → sem ns i (bitAt vars x) = false := by
  have ht := top_le h hl
  refine ⟨?_, nv_lt _ _, fun x hx => ?_⟩
  · rw [sem_free h i hl _ (path ns i) (fun v _ h2 => nv_bits vars _ (Nat.le_refl _) v (by omega) h2)]
    exact path_true h i h1 hl
  · cases hs : sem ns i (bitAt vars x) with
    | false => rfl
    | true =>
      exfalso
      have h3 := path_least h i h1 hl _ hs
      have hz := nv_zero (vars := vars) vars (vars - top ns i) (path ns i) (by omega) (Nat.le_refl _) (fun v h4 h5 => path_low h i h1 hl v (by omega))
      have hm := nv_mono (vars := vars) (vars - top ns i) vars (bitAt vars x) (by omega)
      rw [bits_nv vars (Nat.le_refl _), Nat.mod_eq_of_lt (by have := nv_lt (vars := vars) vars (path ns i); omega)] at hm
      omega
end Go.Proofs.Ytialbhkamlfccaa.Dia
