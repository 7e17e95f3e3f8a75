/- How many cofactors there are: as tables, and as nodes. No program walked. No condition but the hypotheses that each theorem states. -/
import Derived.Test.YtialbhkamlfccaaEF
import Derived.Test.YtialbhkamlfccaaPure7
namespace Go.Proofs.Ytialbhkamlfccaa.PA
open Go.Proofs.Ytialbhkamlfccaa.Dia
set_option linter.unusedVariables false
def lowT (t : List Bool) : List Bool := t.take (t.length / 2)
def highT (t : List Bool) : List Bool := t.drop (t.length / 2)
def stepT (l : List (List Bool)) : List (List Bool) := l.foldl (fun acc t => putT (putT acc (lowT t)) (highT t)) []
def cntT (l : List (List Bool)) : Nat := (l.filter (fun t => decide (lowT t ≠ highT t))).length
def sizeT : Nat → List (List Bool) → Nat
  | 0, _ => 0
  | m + 1, l => cntT l + sizeT m (stepT l)
section
variable {vars : Nat} {ns : List Nd}
/-- A function's table from variable k on. -/
def tk (vars : Nat) (ns : List Nd) (k j : Nat) : List Bool := (List.range (2 ^ (vars - k))).map (fun x => sem ns j (bitAt vars x))
theorem tk_length (k j : Nat) : (tk vars ns k j).length = 2 ^ (vars - k) := by simp [tk]
theorem tk_get {k j x : Nat} (hx : x < (tk vars ns k j).length) : (tk vars ns k j)[x] = sem ns j (bitAt vars x) := by simp [tk]
theorem bit_small {x k i : Nat} (hx : x < 2 ^ (vars - k)) (hi : i < k) (hk : k ≤ vars) : bitAt vars x i = false := by
  unfold bitAt
  have h1 : 2 ^ (vars - k) ≤ 2 ^ (vars - 1 - i) := Nat.pow_le_pow_right (by decide) (by omega)
  rw [Nat.div_eq_of_lt (by omega)]
  rfl
theorem tk_low (h : Inv vars ns) {k j : Nat} (hj : j < ns.length) (hk : k < vars) (ht : k ≤ top ns j) : lowT (tk vars ns k j) = tk vars ns (k + 1) (Dia.part ns j k false) := by
  obtain ⟨p1, p2, p3⟩ := part_spec (b := false) h hj hk ht
  unfold lowT
  rw [tk_length, show vars - k = (vars - (k + 1)) + 1 by omega, Nat.pow_succ, Nat.mul_div_cancel _ (by decide)]
  apply List.ext_getElem
  · rw [List.length_take, tk_length, tk_length, show vars - k = (vars - (k + 1)) + 1 by omega, Nat.pow_succ]
    omega
  · intro x h1 h2
    rw [tk_length] at h2
    rw [List.getElem_take, tk_get, tk_get, p3]
    refine sem_free h j hj _ _ (fun v h3 h4 => ?_)
    unfold set1
    by_cases hv : v = k
    · rw [if_pos hv, hv]
      exact bit_small h2 (by omega) (by omega)
    · rw [if_neg hv]
theorem tk_high (h : Inv vars ns) {k j : Nat} (hj : j < ns.length) (hk : k < vars) (ht : k ≤ top ns j) : highT (tk vars ns k j) = tk vars ns (k + 1) (Dia.part ns j k true) := by
  obtain ⟨p1, p2, p3⟩ := part_spec (b := true) h hj hk ht
  have hp : 0 < 2 ^ (vars - (k + 1)) := Nat.pow_pos (by decide)
  unfold highT
  rw [tk_length, show vars - k = (vars - (k + 1)) + 1 by omega, Nat.pow_succ, Nat.mul_div_cancel _ (by decide)]
  apply List.ext_getElem
  · rw [List.length_drop, tk_length, tk_length, show vars - k = (vars - (k + 1)) + 1 by omega, Nat.pow_succ]
    omega
  · intro x h1 h2
    rw [tk_length] at h2
    rw [List.getElem_drop, tk_get, tk_get, p3]
    refine sem_free h j hj _ _ (fun v h3 h4 => ?_)
    unfold set1
    by_cases hv : v = k
    · rw [if_pos hv, hv]
      unfold bitAt
      rw [show vars - 1 - k = vars - (k + 1) by omega, Nat.add_div_left _ hp, Nat.div_eq_of_lt h2]
      rfl
    · rw [if_neg hv]
      unfold bitAt
      obtain ⟨r, hr⟩ : ∃ r, vars - (k + 1) = vars - 1 - v + (r + 1) := ⟨vars - (k + 1) - (vars - 1 - v) - 1, by omega⟩
      have e : 2 ^ (vars - (k + 1)) = 2 ^ (vars - 1 - v) * (2 * 2 ^ r) := by rw [← Nat.pow_succ', ← Nat.pow_add, hr]
      rw [e, Nat.add_comm, Nat.add_mul_div_left _ _ (Nat.pow_pos (by decide)), Nat.add_mul_mod_self_left]
theorem tk_inj (h : Inv vars ns) {k i j : Nat} (hi : i < ns.length) (hj : j < ns.length) (hk : k ≤ vars) (ti : k ≤ top ns i) (tj : k ≤ top ns j) (he : tk vars ns k i = tk vars ns k j) : i = j := by
  refine canon' h hi hj (fun y => ?_)
  obtain ⟨x, hx, hb⟩ := bits_all vars y
  have hp : 0 < 2 ^ (vars - k) := Nat.pow_pos (by decide)
  have hlt : x % 2 ^ (vars - k) < 2 ^ (vars - k) := Nat.mod_lt _ hp
  have hbit : ∀ v, k ≤ v → v < vars → bitAt vars (x % 2 ^ (vars - k)) v = y v := by
    intro v h1 h2
    rw [← hb v h2]
    unfold bitAt
    obtain ⟨r, hr⟩ : ∃ r, vars - k = vars - 1 - v + (r + 1) := ⟨vars - k - (vars - 1 - v) - 1, by omega⟩
    have e : 2 ^ (vars - k) = 2 ^ (vars - 1 - v) * (2 * 2 ^ r) := by rw [← Nat.pow_succ', ← Nat.pow_add, hr]
    rw [e, Nat.mod_mul_right_div_self, Nat.mod_mul_right_mod]
  have hx2 := congrArg (fun l : List Bool => l[x % 2 ^ (vars - k)]?) he
  unfold tk at hx2
  simp only [List.getElem?_map, List.getElem?_range hlt, Option.map_some, Option.some.injEq] at hx2
  rw [sem_free h i hi y (bitAt vars (x % 2 ^ (vars - k))) (fun v h1 h2 => (hbit v (by omega) h2).symm), sem_free h j hj y (bitAt vars (x % 2 ^ (vars - k))) (fun v h1 h2 => (hbit v (by omega) h2).symm)]
  exact hx2
/-- The same with nodes. -/
def putN (l : List Nat) (a : Nat) : List Nat := if a ∈ l then l else l ++ [a]
def stepN (ns : List Nd) (k : Nat) (l : List Nat) : List Nat := l.foldl (fun acc j => putN (putN acc (Dia.part ns j k false)) (Dia.part ns j k true)) []
def lev (ns : List Nd) (a : Nat) : Nat → List Nat
  | 0 => [a]
  | k + 1 => stepN ns k (lev ns a k)
theorem mem_putN {l : List Nat} {a x : Nat} : x ∈ putN l a ↔ x ∈ l ∨ x = a := by
  unfold putN
  split
  · rename_i h
    exact ⟨.inl, fun h2 => h2.elim id (fun e => e ▸ h)⟩
  · simp
theorem nodup_putN {l : List Nat} {a : Nat} (h : l.Nodup) : (putN l a).Nodup := by
  unfold putN
  split
  · exact h
  · rename_i h2
    exact List.nodup_append.mpr ⟨h, by simp, fun x hx y hy => by rw [List.mem_singleton.mp hy]; exact fun e => h2 (e ▸ hx)⟩
theorem fold_mem (k : Nat) : ∀ (l acc : List Nat) (x : Nat), x ∈ l.foldl (fun acc j => putN (putN acc (Dia.part ns j k false)) (Dia.part ns j k true)) acc ↔ x ∈ acc ∨ ∃ j ∈ l, ∃ b, x = Dia.part ns j k b
  | [], acc, x => by simp
  | j :: l, acc, x => by
    rw [List.foldl_cons, fold_mem k l, mem_putN, mem_putN]
    constructor
    · rintro (((h | h) | h) | ⟨i, hi, b, h⟩)
      · exact .inl h
      · exact .inr ⟨j, by simp, false, h⟩
      · exact .inr ⟨j, by simp, true, h⟩
      · exact .inr ⟨i, by simp [hi], b, h⟩
    · rintro (h | ⟨i, hi, b, h⟩)
      · exact .inl (.inl (.inl h))
      · rcases List.mem_cons.mp hi with rfl | hi
        · cases b
          · exact .inl (.inl (.inr h))
          · exact .inl (.inr h)
        · exact .inr ⟨i, hi, b, h⟩
theorem fold_nodup (k : Nat) : ∀ (l acc : List Nat), acc.Nodup → (l.foldl (fun acc j => putN (putN acc (Dia.part ns j k false)) (Dia.part ns j k true)) acc).Nodup
  | [], acc, h => h
  | j :: l, acc, h => fold_nodup k l _ (nodup_putN (nodup_putN h))
theorem mem_step {k : Nat} {l : List Nat} {x : Nat} : x ∈ stepN ns k l ↔ ∃ j ∈ l, ∃ b, x = Dia.part ns j k b := by
  unfold stepN
  rw [fold_mem]
  simp
/-- What stands at a level. -/
theorem lev_ok (h : Inv vars ns) {a : Nat} (ha : a < ns.length) : ∀ k, k ≤ vars → (lev ns a k).Nodup ∧ ∀ j ∈ lev ns a k, j < ns.length ∧ k ≤ top ns j ∧ Dia.Reach ns a j
  | 0, hk => ⟨by simp [lev], fun j hj => by rw [show j = a by simpa [lev] using hj]; exact ⟨ha, Nat.zero_le _, .refl⟩⟩
  | k + 1, hk => by
    obtain ⟨h1, h2⟩ := lev_ok h ha k (by omega)
    refine ⟨fold_nodup k _ _ List.nodup_nil, fun x hx => ?_⟩
    obtain ⟨j, hj, b, rfl⟩ := mem_step.mp hx
    obtain ⟨j1, j2, j3⟩ := h2 j hj
    obtain ⟨p1, p2, _⟩ := part_spec (b := b) h j1 (by omega) j2
    refine ⟨p1, p2, ?_⟩
    have hn : ns[j]? = some ns[j] := List.getElem?_eq_getElem j1
    unfold Dia.part
    rw [hn]
    simp only
    by_cases hv : ns[j].v = k
    · rw [if_pos hv]
      have hj2 : 2 ≤ j := by
        rcases Nat.lt_or_ge j 2 with c | c
        · have := top_const h c
          rw [top_of hn] at this
          omega
        · exact c
      cases b
      · exact .lo j3 hj2 hn
      · exact .hi j3 hj2 hn
    · rw [if_neg hv]
      exact j3
theorem lev_stay (h : Inv vars ns) {a j k : Nat} (ha : a < ns.length) (hj : j ∈ lev ns a k) (hk : k ≤ vars) : ∀ d, k + d ≤ top ns j → k + d ≤ vars → j ∈ lev ns a (k + d)
  | 0, h1, h2 => hj
  | d + 1, h1, h2 => by
    have ih := lev_stay h ha hj hk d (by omega) (by omega)
    obtain ⟨j1, j2, j3⟩ := (lev_ok h ha (k + d) (by omega)).2 j ih
    show j ∈ stepN ns (k + d) (lev ns a (k + d))
    refine mem_step.mpr ⟨j, ih, false, ?_⟩
    have hn : ns[j]? = some ns[j] := List.getElem?_eq_getElem j1
    have ht := top_of hn
    unfold Dia.part
    rw [hn]
    simp only
    rw [if_neg (by omega)]
/-- A node that is reached stands at its variable's level. -/
theorem reach_lev (h : Inv vars ns) {a j : Nat} (ha : a < ns.length) (hr : Dia.Reach ns a j) : j < ns.length ∧ j ∈ lev ns a (top ns j) := by
  induction hr with
  | refl =>
    have := lev_stay h ha (k := 0) (j := a) (by simp [lev]) (Nat.zero_le _) (top ns a) (by omega) (by have := top_le h ha; omega)
    rw [Nat.zero_add] at this
    exact ⟨ha, this⟩
  | @lo j n hr h2 hn ih =>
    have hb := h.lt j n hn h2
    have hlo : ns[n.lo]? = some ns[n.lo] := List.getElem?_eq_getElem (by omega)
    have u1 := h.up j _ _ hn h2 (.inl hlo)
    rw [← top_of hlo] at u1
    have htl := top_le h (i := n.lo) (by omega)
    have hm : n.lo ∈ lev ns a (top ns j + 1) := mem_step.mpr ⟨j, ih.2, false, by unfold Dia.part; rw [hn]; simp only; rw [if_pos (top_of hn).symm]; rfl⟩
    have ht := top_of hn
    have := lev_stay h ha hm (by omega) (top ns n.lo - (top ns j + 1)) (by omega) (by omega)
    rw [show top ns j + 1 + (top ns n.lo - (top ns j + 1)) = top ns n.lo by omega] at this
    exact ⟨by omega, this⟩
  | @hi j n hr h2 hn ih =>
    have hb := h.lt j n hn h2
    have hhi : ns[n.hi]? = some ns[n.hi] := List.getElem?_eq_getElem (by omega)
    have u1 := h.up j _ _ hn h2 (.inr hhi)
    rw [← top_of hhi] at u1
    have htl := top_le h (i := n.hi) (by omega)
    have hm : n.hi ∈ lev ns a (top ns j + 1) := mem_step.mpr ⟨j, ih.2, true, by unfold Dia.part; rw [hn]; simp only; rw [if_pos (top_of hn).symm]; rfl⟩
    have ht := top_of hn
    have := lev_stay h ha hm (by omega) (top ns n.hi - (top ns j + 1)) (by omega) (by omega)
    rw [show top ns j + 1 + (top ns n.hi - (top ns j + 1)) = top ns n.hi by omega] at this
    exact ⟨by omega, this⟩
/-- The nodes that hang on variable k, level by level. -/
def atK (ns : List Nd) (a k : Nat) : List Nat := (lev ns a k).filter (fun j => decide (top ns j = k))
def allK (ns : List Nd) (a : Nat) : Nat → List Nat
  | 0 => []
  | k + 1 => allK ns a k ++ atK ns a k
theorem mem_allK {a j : Nat} : ∀ k, j ∈ allK ns a k ↔ ∃ i, i < k ∧ j ∈ lev ns a i ∧ top ns j = i
  | 0 => by simp [allK]
  | k + 1 => by
    rw [allK, List.mem_append, mem_allK k]
    unfold atK
    rw [List.mem_filter]
    simp only [decide_eq_true_eq]
    constructor
    · rintro (⟨i, h1, h2, h3⟩ | ⟨h1, h2⟩)
      · exact ⟨i, by omega, h2, h3⟩
      · exact ⟨k, by omega, h1, h2⟩
    · rintro ⟨i, h1, h2, h3⟩
      rcases Nat.lt_or_ge i k with c | c
      · exact .inl ⟨i, c, h2, h3⟩
      · obtain rfl : i = k := by omega
        exact .inr ⟨h2, h3⟩
theorem allK_nodup (h : Inv vars ns) {a : Nat} (ha : a < ns.length) : ∀ k, k ≤ vars → (allK ns a k).Nodup
  | 0, hk => List.nodup_nil
  | k + 1, hk => by
    refine List.nodup_append.mpr ⟨allK_nodup h ha k (by omega), (lev_ok h ha k (by omega)).1.filter _, fun x hx y hy e => ?_⟩
    subst e
    obtain ⟨i, h1, _, h3⟩ := (mem_allK k).mp hx
    have := (List.mem_filter.mp hy).2
    simp only [decide_eq_true_eq] at this
    omega
/-- So many nodes are reached. -/
theorem reach_count (h : Inv vars ns) {a : Nat} (ha : a < ns.length) {sl : List Nat} (hn : sl.Nodup) (hs : ∀ j, j ∈ sl ↔ 2 ≤ j ∧ Dia.Reach ns a j) : sl.length = (allK ns a vars).length := by
  have key : ∀ j, j ∈ sl ↔ j ∈ allK ns a vars := by
    intro j
    rw [hs, mem_allK]
    constructor
    · rintro ⟨h2, hr⟩
      obtain ⟨hl, hm⟩ := reach_lev h ha hr
      exact ⟨top ns j, top_lt h h2 hl, hm, rfl⟩
    · rintro ⟨i, h1, h2, h3⟩
      obtain ⟨j1, _, j3⟩ := (lev_ok h ha i (by omega)).2 j h2
      refine ⟨?_, j3⟩
      rcases Nat.lt_or_ge j 2 with c | c
      · have := top_const h c
        omega
      · exact c
  exact Nat.le_antisymm (nodup_le _ _ hn (fun x hx => (key x).mp hx)) (nodup_le _ _ (allK_nodup h ha vars (Nat.le_refl _)) (fun x hx => (key x).mpr hx))
/-- Nodes that stand at a level. -/
def At (vars : Nat) (ns : List Nd) (k : Nat) (l : List Nat) : Prop := ∀ j ∈ l, j < ns.length ∧ k ≤ top ns j
theorem put_map (h : Inv vars ns) {k x : Nat} {acc : List Nat} (hk : k ≤ vars) (ha : At vars ns k acc) (hx : x < ns.length) (ht : k ≤ top ns x) : putT (acc.map (tk vars ns k)) (tk vars ns k x) = (putN acc x).map (tk vars ns k) := by
  unfold putT putN
  by_cases hm : x ∈ acc
  · rw [if_pos hm, if_pos (List.mem_map.mpr ⟨x, hm, rfl⟩)]
  · rw [if_neg hm, if_neg (fun h2 => ?_)]
    · simp
    · obtain ⟨y, hy, he⟩ := List.mem_map.mp h2
      obtain ⟨y1, y2⟩ := ha y hy
      exact hm (tk_inj h y1 hx hk y2 ht he ▸ hy)
theorem At.put {k x : Nat} {acc : List Nat} (ha : At vars ns k acc) (hx : x < ns.length) (ht : k ≤ top ns x) : At vars ns k (putN acc x) := by
  intro j hj
  rcases mem_putN.mp hj with h1 | rfl
  · exact ha j h1
  · exact ⟨hx, ht⟩
theorem fold_map (h : Inv vars ns) {k : Nat} (hk : k < vars) : ∀ (l acc : List Nat), At vars ns k l → At vars ns (k + 1) acc →
    (l.map (tk vars ns k)).foldl (fun acc t => putT (putT acc (lowT t)) (highT t)) (acc.map (tk vars ns (k + 1))) = (l.foldl (fun acc j => putN (putN acc (Dia.part ns j k false)) (Dia.part ns j k true)) acc).map (tk vars ns (k + 1))
  | [], acc, hl, ha => rfl
  | j :: l, acc, hl, ha => by
    obtain ⟨j1, j2⟩ := hl j (by simp)
    obtain ⟨p1, p2, _⟩ := part_spec (b := false) h j1 hk j2
    obtain ⟨q1, q2, _⟩ := part_spec (b := true) h j1 hk j2
    rw [List.map_cons, List.foldl_cons, List.foldl_cons, tk_low h j1 hk j2, tk_high h j1 hk j2, put_map h hk ha p1 p2, put_map h hk (ha.put p1 p2) q1 q2]
    exact fold_map h hk l _ (fun i hi => hl i (by simp [hi])) ((ha.put p1 p2).put q1 q2)
theorem step_map (h : Inv vars ns) {k : Nat} (hk : k < vars) {l : List Nat} (hl : At vars ns k l) : stepT (l.map (tk vars ns k)) = (stepN ns k l).map (tk vars ns (k + 1)) :=
  fold_map h hk l [] hl (fun j hj => by cases hj)
theorem parts_ne (h : Inv vars ns) {k j : Nat} (hk : k < vars) (hj : j < ns.length) (ht : k ≤ top ns j) : lowT (tk vars ns k j) ≠ highT (tk vars ns k j) ↔ top ns j = k := by
  obtain ⟨p1, p2, _⟩ := part_spec (b := false) h hj hk ht
  obtain ⟨q1, q2, _⟩ := part_spec (b := true) h hj hk ht
  have hn : ns[j]? = some ns[j] := List.getElem?_eq_getElem hj
  have hpf : Dia.part ns j k false = if ns[j].v = k then ns[j].lo else j := by unfold Dia.part; rw [hn]; rfl
  have hpt : Dia.part ns j k true = if ns[j].v = k then ns[j].hi else j := by unfold Dia.part; rw [hn]; rfl
  rw [tk_low h hj hk ht, tk_high h hj hk ht, top_of hn]
  constructor
  · intro hne
    by_cases hv : ns[j].v = k
    · exact hv
    · rw [hpf, hpt, if_neg hv, if_neg hv] at hne
      exact absurd rfl hne
  · intro hv he
    have hj2 : 2 ≤ j := by
      rcases Nat.lt_or_ge j 2 with c | c
      · have := top_const h c
        rw [top_of hn] at this
        omega
      · exact c
    have e := tk_inj h p1 q1 hk p2 q2 he
    rw [hpf, hpt, if_pos hv, if_pos hv] at e
    exact (h.lt j _ hn hj2).2.1 e
theorem cnt_map (h : Inv vars ns) {k : Nat} (hk : k < vars) {l : List Nat} (hl : At vars ns k l) : cntT (l.map (tk vars ns k)) = (l.filter (fun j => decide (top ns j = k))).length := by
  unfold cntT
  rw [List.filter_map, List.length_map]
  congr 1
  apply List.filter_congr
  intro j hj
  obtain ⟨j1, j2⟩ := hl j hj
  exact decide_eq_decide.mpr (parts_ne h hk j1 j2)
theorem size_lev (h : Inv vars ns) {a : Nat} (ha : a < ns.length) : ∀ (m k : Nat), k + m = vars → sizeT m ((lev ns a k).map (tk vars ns k)) + (allK ns a k).length = (allK ns a vars).length
  | 0, k, hk => by
    obtain rfl : k = vars := by omega
    simp [sizeT]
  | m + 1, k, hk => by
    have hat : At vars ns k (lev ns a k) := fun j hj => ⟨((lev_ok h ha k (by omega)).2 j hj).1, ((lev_ok h ha k (by omega)).2 j hj).2.1⟩
    have ih := size_lev h ha m (k + 1) (by omega)
    have e1 : stepT ((lev ns a k).map (tk vars ns k)) = (lev ns a (k + 1)).map (tk vars ns (k + 1)) := step_map h (by omega) hat
    have e2 : cntT ((lev ns a k).map (tk vars ns k)) = (atK ns a k).length := cnt_map h (by omega) hat
    rw [sizeT, e1, e2]
    rw [allK, List.length_append] at ih
    omega
/-- THE SIZES ARE ONE. -/
theorem size_eq (h : Inv vars ns) {a : Nat} (ha : a < ns.length) {sl : List Nat} (hn : sl.Nodup) (hs : ∀ j, j ∈ sl ↔ 2 ≤ j ∧ Dia.Reach ns a j) : sizeT vars [tab vars (sem ns a)] = sl.length := by
  have e := size_lev h ha vars 0 (by omega)
  rw [reach_count h ha hn hs]
  have e0 : (lev ns a 0).map (tk vars ns 0) = [tab vars (sem ns a)] := rfl
  rw [e0] at e
  simpa [allK] using e
theorem putT_length (l : List (List Bool)) (t : List Bool) : (putT l t).length ≤ l.length + 1 := by
  unfold putT
  split
  · omega
  · simp
theorem putT_mem {l : List (List Bool)} {t s : List Bool} (h : s ∈ putT l t) : s ∈ l ∨ s = t := by
  unfold putT at h
  split at h
  · exact .inl h
  · simpa using h
end
end Go.Proofs.Ytialbhkamlfccaa.PA
