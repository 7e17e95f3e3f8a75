/- What lists of nodes say: parts, choices, tables, numbers of ones. No condition but the hypotheses that each theorem states. -/
import Init
/- Functions of bits as diagrams: what a list of nodes says, and that a function stands but once in it. No program in sight. No condition but the hypotheses that each theorem states. -/
namespace Go.Proofs.Ytialbhkamlfccaa.Dia
set_option linter.unusedVariables false
structure Nd where
  v : Nat
  lo : Nat
  hi : Nat
  deriving DecidableEq, Inhabited
/-- A list of nodes over so many variables: the constants first; each other node hangs on a variable, has two that differ, which stand before it and hang on later variables; none stands twice. -/
structure Inv (vars : Nat) (ns : List Nd) : Prop where
  len : 2 ≤ ns.length
  c0 : ns[0]? = some ⟨vars, 0, 0⟩
  c1 : ns[1]? = some ⟨vars, 1, 1⟩
  lt : ∀ (i : Nat) (n : Nd), ns[i]? = some n → 2 ≤ i → n.v < vars ∧ n.lo ≠ n.hi ∧ n.lo < i ∧ n.hi < i
  up : ∀ (i : Nat) (n m : Nd), ns[i]? = some n → 2 ≤ i → (ns[n.lo]? = some m ∨ ns[n.hi]? = some m) → n.v < m.v
  one : ∀ (i j : Nat) (n : Nd), ns[i]? = some n → ns[j]? = some n → 2 ≤ i → 2 ≤ j → i = j
/-- What function a node is: f is how many steps may be taken. -/
def semF (ns : List Nd) : Nat → Nat → (Nat → Bool) → Bool
  | 0, i, _ => i == 1
  | f + 1, i, x => if i < 2 then i == 1 else
    match ns[i]? with
    | none => false
    | some n => if x n.v then semF ns f n.hi x else semF ns f n.lo x
def sem (ns : List Nd) (i : Nat) (x : Nat → Bool) : Bool := semF ns i i x
variable {vars : Nat} {ns ns' : List Nd}
theorem semF_const (f : Nat) (i : Nat) (x : Nat → Bool) (hi : i < 2) : semF ns f i x = (i == 1) := by
  cases f with
  | zero => rfl
  | succ f => rw [semF, if_pos hi]
/-- More steps change nothing. -/
theorem semF_more (h : Inv vars ns) : ∀ (f i : Nat) (x : Nat → Bool), i ≤ f → ∀ g, i ≤ g → i < ns.length → semF ns f i x = semF ns g i x
  | 0, i, x, hf, g, hg, hl => by
    obtain rfl : i = 0 := by omega
    rw [semF_const 0 0 x (by omega), semF_const g 0 x (by omega)]
  | f + 1, i, x, hf, 0, hg, hl => by
    obtain rfl : i = 0 := by omega
    rw [semF_const (f + 1) 0 x (by omega), semF_const 0 0 x (by omega)]
  | f + 1, i, x, hf, g + 1, hg, hl => by
    by_cases hi : i < 2
    · rw [semF_const _ _ _ hi, semF_const _ _ _ hi]
    · rw [semF, semF, if_neg hi, if_neg hi, List.getElem?_eq_getElem hl]
      have hn := h.lt i ns[i] (List.getElem?_eq_getElem hl) (by omega)
      simp only
      rw [semF_more h f ns[i].hi x (by omega) g (by omega) (by omega), semF_more h f ns[i].lo x (by omega) g (by omega) (by omega)]
theorem sem_zero (x : Nat → Bool) : sem ns 0 x = false := rfl
theorem sem_one (x : Nat → Bool) : sem ns 1 x = true := rfl
theorem sem_node (h : Inv vars ns) {i : Nat} {n : Nd} (hn : ns[i]? = some n) (hi : 2 ≤ i) (x : Nat → Bool) : sem ns i x = if x n.v then sem ns n.hi x else sem ns n.lo x := by
  have hl : i < ns.length := (List.getElem?_eq_some_iff.mp hn).1
  have hb := h.lt i n hn hi
  unfold sem
  obtain ⟨f, rfl⟩ : ∃ f, i = f + 1 := ⟨i - 1, by omega⟩
  rw [semF, if_neg (by omega), hn]
  simp only
  rw [semF_more h f n.hi x (by omega) n.hi (Nat.le_refl _) (by omega), semF_more h f n.lo x (by omega) n.lo (Nat.le_refl _) (by omega)]
/-- The variable a node hangs on; the constants behind all. -/
def top (ns : List Nd) (i : Nat) : Nat := (ns[i]?.map Nd.v).getD 0
theorem top_of {i : Nat} {n : Nd} (hn : ns[i]? = some n) : top ns i = n.v := by unfold top; rw [hn]; rfl
/-- Variables ahead of a node do not touch it. -/
theorem sem_free (h : Inv vars ns) : ∀ (i : Nat), i < ns.length → ∀ (x y : Nat → Bool), (∀ v, top ns i ≤ v → v < vars → x v = y v) → sem ns i x = sem ns i y := by
  intro i
  induction i using Nat.strongRecOn with
  | ind i ih =>
    intro hl x y hxy
    by_cases hi : i < 2
    · rcases (show i = 0 ∨ i = 1 by omega) with rfl | rfl <;> rfl
    · have hn : ns[i]? = some ns[i] := List.getElem?_eq_getElem hl
      have hb := h.lt i _ hn (by omega)
      rw [sem_node h hn (by omega), sem_node h hn (by omega)]
      have ht := top_of hn
      rw [ht] at hxy
      rw [hxy _ (Nat.le_refl _) hb.1]
      have hlo : ns[ns[i].lo]? = some ns[ns[i].lo] := List.getElem?_eq_getElem (by omega)
      have hhi : ns[ns[i].hi]? = some ns[ns[i].hi] := List.getElem?_eq_getElem (by omega)
      have u1 := h.up i _ _ hn (by omega) (.inl hlo)
      have u2 := h.up i _ _ hn (by omega) (.inr hhi)
      rw [ih ns[i].lo (by omega) (by omega) x y (fun v h1 h2 => hxy v (by rw [top_of hlo] at h1; omega) h2), ih ns[i].hi (by omega) (by omega) x y (fun v h1 h2 => hxy v (by rw [top_of hhi] at h1; omega) h2)]
def set1 (x : Nat → Bool) (v : Nat) (b : Bool) : Nat → Bool := fun u => if u = v then b else x u
/-- A node's two, as its function where its variable is given. -/
theorem sem_lo (h : Inv vars ns) {i : Nat} {n : Nd} (hn : ns[i]? = some n) (hi : 2 ≤ i) (x : Nat → Bool) : sem ns i (set1 x n.v false) = sem ns n.lo x := by
  have hl : i < ns.length := (List.getElem?_eq_some_iff.mp hn).1
  have hb := h.lt i n hn hi
  have hlo : ns[n.lo]? = some ns[n.lo] := List.getElem?_eq_getElem (by omega)
  have u1 := h.up i _ _ hn hi (.inl hlo)
  rw [sem_node h hn hi, show set1 x n.v false n.v = false by simp [set1], if_neg (by decide)]
  refine sem_free h _ (by omega) _ _ (fun v h1 h2 => ?_)
  rw [top_of hlo] at h1
  unfold set1
  rw [if_neg (by omega)]
theorem sem_hi (h : Inv vars ns) {i : Nat} {n : Nd} (hn : ns[i]? = some n) (hi : 2 ≤ i) (x : Nat → Bool) : sem ns i (set1 x n.v true) = sem ns n.hi x := by
  have hl : i < ns.length := (List.getElem?_eq_some_iff.mp hn).1
  have hb := h.lt i n hn hi
  have hhi : ns[n.hi]? = some ns[n.hi] := List.getElem?_eq_getElem (by omega)
  have u1 := h.up i _ _ hn hi (.inr hhi)
  rw [sem_node h hn hi, show set1 x n.v true n.v = true by simp [set1], if_pos rfl]
  refine sem_free h _ (by omega) _ _ (fun v h1 h2 => ?_)
  rw [top_of hhi] at h1
  unfold set1
  rw [if_neg (by omega)]
theorem top_const (h : Inv vars ns) {i : Nat} (hi : i < 2) : top ns i = vars := by
  rcases (show i = 0 ∨ i = 1 by omega) with rfl | rfl
  · exact top_of h.c0
  · exact top_of h.c1
theorem top_lt (h : Inv vars ns) {i : Nat} (hi : 2 ≤ i) (hl : i < ns.length) : top ns i < vars := by
  have hn : ns[i]? = some ns[i] := List.getElem?_eq_getElem hl
  rw [top_of hn]
  exact (h.lt i _ hn hi).1
/-- A node that hangs on an earlier variable is another function. -/
theorem ahead_ne (h : Inv vars ns) {i j : Nat} (hi : 2 ≤ i) (hil : i < ns.length) (hjl : j < ns.length) (ht : top ns i < top ns j) (he : ∀ x, sem ns i x = sem ns j x)
    (ih : ∀ a b, a < i → b < i → a < ns.length → b < ns.length → (∀ x, sem ns a x = sem ns b x) → a = b) : False := by
  have hn : ns[i]? = some ns[i] := List.getElem?_eq_getElem hil
  have hb := h.lt i _ hn hi
  refine hb.2.1 (ih _ _ hb.2.2.1 hb.2.2.2 (by omega) (by omega) (fun x => ?_))
  rw [← sem_lo h hn hi x, ← sem_hi h hn hi x, he, he]
  rw [top_of hn] at ht
  refine sem_free h j hjl _ _ (fun v h1 h2 => ?_)
  unfold set1
  rw [if_neg (by omega), if_neg (by omega)]
/-- A FUNCTION STANDS BUT ONCE. -/
theorem canon (h : Inv vars ns) : ∀ (m i j : Nat), i ≤ m → j ≤ m → i < ns.length → j < ns.length → (∀ x, sem ns i x = sem ns j x) → i = j := by
  intro m
  induction m using Nat.strongRecOn with
  | ind m IH =>
    intro i j him hjm hil hjl he
    have ihi : ∀ k, k ≤ m → ∀ a b, a < k → b < k → a < ns.length → b < ns.length → (∀ x, sem ns a x = sem ns b x) → a = b := by
      intro k hk a b ha hb hal hbl hab
      exact IH (k - 1) (by omega) a b (by omega) (by omega) hal hbl hab
    by_cases hi : i < 2
    · by_cases hj : j < 2
      · rcases (show i = 0 ∨ i = 1 by omega) with rfl | rfl <;> rcases (show j = 0 ∨ j = 1 by omega) with rfl | rfl
        · rfl
        · have := he (fun _ => false); rw [sem_zero, sem_one] at this; cases this
        · have := he (fun _ => false); rw [sem_zero, sem_one] at this; cases this
        · rfl
      · exact (ahead_ne h (by omega) hjl hil (by rw [top_const h hi]; exact top_lt h (by omega) hjl) (fun x => (he x).symm) (ihi j hjm)).elim
    · by_cases hj : j < 2
      · exact (ahead_ne h (by omega) hil hjl (by rw [top_const h hj]; exact top_lt h (by omega) hil) he (ihi i him)).elim
      · rcases Nat.lt_trichotomy (top ns i) (top ns j) with ht | ht | ht
        · exact (ahead_ne h (by omega) hil hjl ht he (ihi i him)).elim
        · have hni : ns[i]? = some ns[i] := List.getElem?_eq_getElem hil
          have hnj : ns[j]? = some ns[j] := List.getElem?_eq_getElem hjl
          have bi := h.lt i _ hni (by omega)
          have bj := h.lt j _ hnj (by omega)
          rw [top_of hni, top_of hnj] at ht
          have el : ns[i].lo = ns[j].lo := IH (m - 1) (by omega) _ _ (by omega) (by omega) (by omega) (by omega) (fun x => by
            rw [← sem_lo h hni (by omega) x, ← sem_lo h hnj (by omega) x, ht]; exact he _)
          have eh : ns[i].hi = ns[j].hi := IH (m - 1) (by omega) _ _ (by omega) (by omega) (by omega) (by omega) (fun x => by
            rw [← sem_hi h hni (by omega) x, ← sem_hi h hnj (by omega) x, ht]; exact he _)
          have en : ns[i] = ns[j] := by
            cases hx : ns[i]
            cases hy : ns[j]
            rw [hx, hy] at ht el eh
            simp only at ht el eh
            rw [ht, el, eh]
          rw [en] at hni
          exact h.one i j _ hni hnj (by omega) (by omega)
        · exact (ahead_ne h (by omega) hjl hil ht (fun x => (he x).symm) (ihi j hjm)).elim
theorem canon' (h : Inv vars ns) {i j : Nat} (hi : i < ns.length) (hj : j < ns.length) (he : ∀ x, sem ns i x = sem ns j x) : i = j :=
  canon h (max i j) i j (Nat.le_max_left _ _) (Nat.le_max_right _ _) hi hj he
/-- What is put behind keeps what stands. -/
theorem semF_pre (e : List Nd) : ∀ (f i : Nat) (x : Nat → Bool), i < ns.length → Inv vars ns → semF (ns ++ e) f i x = semF ns f i x
  | 0, i, x, hl, h => rfl
  | f + 1, i, x, hl, h => by
    by_cases hi : i < 2
    · rw [semF_const _ _ _ hi, semF_const _ _ _ hi]
    · rw [semF, semF, if_neg hi, if_neg hi, List.getElem?_append_left hl, List.getElem?_eq_getElem hl]
      have hn := h.lt i ns[i] (List.getElem?_eq_getElem hl) (by omega)
      simp only
      rw [semF_pre e f ns[i].hi x (by omega) h, semF_pre e f ns[i].lo x (by omega) h]
theorem sem_pre (h : Inv vars ns) (e : List Nd) {i : Nat} (hl : i < ns.length) (x : Nat → Bool) : sem (ns ++ e) i x = sem ns i x := semF_pre e i i x hl h
/-- One more node. -/
theorem Inv.snoc (h : Inv vars ns) {n : Nd} (hv : n.v < vars) (hne : n.lo ≠ n.hi) (hlo : n.lo < ns.length) (hhi : n.hi < ns.length) (ulo : n.v < top ns n.lo) (uhi : n.v < top ns n.hi)
    (hnew : ∀ i, 2 ≤ i → ns[i]? ≠ some n) : Inv vars (ns ++ [n]) where
  len := by have := h.len; simp; omega
  c0 := by rw [List.getElem?_append_left (by have := h.len; omega)]; exact h.c0
  c1 := by rw [List.getElem?_append_left (by have := h.len; omega)]; exact h.c1
  lt := fun i m hm hi => by
    rcases Nat.lt_or_ge i ns.length with hl | hl
    · rw [List.getElem?_append_left hl] at hm; exact h.lt i m hm hi
    · have hi2 : i = ns.length := by have := (List.getElem?_eq_some_iff.mp hm).1; simp at this; omega
      subst hi2
      simp at hm
      subst hm
      exact ⟨hv, hne, hlo, hhi⟩
  up := fun i m k hm hi hk => by
    rcases Nat.lt_or_ge i ns.length with hl | hl
    · rw [List.getElem?_append_left hl] at hm
      have hb := h.lt i m hm hi
      rw [List.getElem?_append_left (by omega), List.getElem?_append_left (by omega)] at hk
      exact h.up i m k hm hi hk
    · have hi2 : i = ns.length := by have := (List.getElem?_eq_some_iff.mp hm).1; simp at this; omega
      subst hi2
      simp at hm
      subst hm
      rw [List.getElem?_append_left hlo, List.getElem?_append_left hhi] at hk
      rcases hk with hk | hk
      · rw [top_of hk] at ulo; exact ulo
      · rw [top_of hk] at uhi; exact uhi
  one := fun i j m hm hm2 hi hj => by
    have li := (List.getElem?_eq_some_iff.mp hm).1
    have lj := (List.getElem?_eq_some_iff.mp hm2).1
    simp at li lj
    rcases Nat.lt_or_ge i ns.length with hl | hl <;> rcases Nat.lt_or_ge j ns.length with hl2 | hl2
    · rw [List.getElem?_append_left hl] at hm
      rw [List.getElem?_append_left hl2] at hm2
      exact h.one i j m hm hm2 hi hj
    · obtain rfl : j = ns.length := by omega
      simp at hm2
      subst hm2
      rw [List.getElem?_append_left hl] at hm
      exact absurd hm (hnew i hi)
    · obtain rfl : i = ns.length := by omega
      simp at hm
      subst hm
      rw [List.getElem?_append_left hl2] at hm2
      exact absurd hm2 (hnew j hj)
    · omega
theorem Inv.base (vars : Nat) : Inv vars [⟨vars, 0, 0⟩, ⟨vars, 1, 1⟩] where
  len := Nat.le_refl _
  c0 := rfl
  c1 := rfl
  lt := fun i n hn hi => by have := (List.getElem?_eq_some_iff.mp hn).1; simp at this; omega
  up := fun i n m hn hi _ => by have := (List.getElem?_eq_some_iff.mp hn).1; simp at this; omega
  one := fun i j n hn hn2 hi hj => by have := (List.getElem?_eq_some_iff.mp hn).1; simp at this; omega
end Go.Proofs.Ytialbhkamlfccaa.Dia
/- A function's parts, and how three functions' parts make their choice. No program in sight. No condition but the hypotheses that each theorem states. -/
namespace Go.Proofs.Ytialbhkamlfccaa.Dia
set_option linter.unusedVariables false
variable {vars : Nat} {ns : List Nd}
/-- A function without, or with, a variable that it may hang on first. -/
def part (ns : List Nd) (a v : Nat) (b : Bool) : Nat :=
  match ns[a]? with
  | none => a
  | some n => if n.v = v then (if b then n.hi else n.lo) else a
theorem set1_self (x : Nat → Bool) (v : Nat) : set1 x v (x v) = x := by
  funext u
  unfold set1
  split
  · rename_i h; rw [h]
  · rfl
theorem part_spec (h : Inv vars ns) {a v : Nat} {b : Bool} (ha : a < ns.length) (hv : v < vars) (ht : v ≤ top ns a) :
    part ns a v b < ns.length ∧ v < top ns (part ns a v b) ∧ ∀ x, sem ns (part ns a v b) x = sem ns a (set1 x v b) := by
  have hn : ns[a]? = some ns[a] := List.getElem?_eq_getElem ha
  unfold part
  rw [hn]
  simp only
  by_cases hq : ns[a].v = v
  · have h2 : 2 ≤ a := by
      rcases Nat.lt_or_ge a 2 with hlt | hge
      · have := top_const h hlt
        rw [top_of hn] at this
        omega
      · exact hge
    have hb := h.lt a _ hn h2
    have hlo : ns[ns[a].lo]? = some ns[ns[a].lo] := List.getElem?_eq_getElem (by omega)
    have hhi : ns[ns[a].hi]? = some ns[ns[a].hi] := List.getElem?_eq_getElem (by omega)
    have u1 := h.up a _ _ hn h2 (.inl hlo)
    have u2 := h.up a _ _ hn h2 (.inr hhi)
    rw [if_pos hq]
    cases b with
    | true =>
      rw [if_pos rfl]
      refine ⟨by omega, by rw [top_of hhi]; omega, fun x => ?_⟩
      rw [← hq, sem_hi h hn h2 x]
    | false =>
      rw [if_neg (by decide)]
      refine ⟨by omega, by rw [top_of hlo]; omega, fun x => ?_⟩
      rw [← hq, sem_lo h hn h2 x]
  · rw [if_neg hq]
    rw [top_of hn] at ht
    refine ⟨ha, by rw [top_of hn]; omega, fun x => ?_⟩
    refine sem_free h a ha _ _ (fun u h1 h2 => ?_)
    rw [top_of hn] at h1
    unfold set1
    rw [if_neg (by omega)]
/-- The choice of three, by their parts. -/
theorem ite_parts {A B C : (Nat → Bool) → Bool} {v : Nat} {R L H : (Nat → Bool) → Bool}
    (hl : ∀ x, L x = if A (set1 x v false) then B (set1 x v false) else C (set1 x v false)) (hh : ∀ x, H x = if A (set1 x v true) then B (set1 x v true) else C (set1 x v true))
    (hr : ∀ x, R x = if x v then H x else L x) : ∀ x, R x = if A x then B x else C x := by
  intro x
  rw [hr x]
  have e := set1_self x v
  cases hx : x v with
  | true => rw [if_pos rfl, hh x]; rw [hx] at e; rw [e]
  | false => rw [if_neg (by decide), hl x]; rw [hx] at e; rw [e]
/-- What a node that is put is. -/
theorem sem_new (h : Inv vars ns) {n : Nd} (hlo : n.lo < ns.length) (hhi : n.hi < ns.length) (h' : Inv vars (ns ++ [n])) (x : Nat → Bool) : sem (ns ++ [n]) ns.length x = if x n.v then sem ns n.hi x else sem ns n.lo x := by
  have hl := h.len
  rw [sem_node h' (i := ns.length) (n := n) (by simp) hl x, sem_pre h [n] hhi x, sem_pre h [n] hlo x]
/-- The first variable of three functions is none of theirs' behind it: a choice of three that is no constant hangs on a variable. -/
theorem top_le (h : Inv vars ns) {i : Nat} (hi : i < ns.length) : top ns i ≤ vars := by
  rcases Nat.lt_or_ge i 2 with h2 | h2
  · rw [top_const h h2]; exact Nat.le_refl _
  · exact Nat.le_of_lt (top_lt h h2 hi)
theorem top_vars (h : Inv vars ns) {i : Nat} (hi : i < ns.length) (ht : vars ≤ top ns i) : i < 2 := by
  rcases Nat.lt_or_ge i 2 with h2 | h2
  · exact h2
  · have := top_lt h h2 hi; omega
/-- A variable's values at a place of a table: the first variable is the highest bit. -/
def bitAt (vars x : Nat) : Nat → Bool := fun i => x / 2 ^ (vars - 1 - i) % 2 == 1
/-- A table is a function. -/
def IsTable (vars : Nat) (ns : List Nd) (i : Nat) (t : List Bool) : Prop := t.length = 2 ^ vars ∧ ∀ x, x < 2 ^ vars → t.getD x false = sem ns i (bitAt vars x)
/-- Every choice of values of the variables stands in the table. -/
theorem bits_all : ∀ (vars : Nat) (y : Nat → Bool), ∃ x, x < 2 ^ vars ∧ ∀ i, i < vars → bitAt vars x i = y i
  | 0, y => ⟨0, by decide, fun i hi => by omega⟩
  | n + 1, y => by
    obtain ⟨x, hx, hb⟩ := bits_all n (fun i => y (i + 1))
    refine ⟨(if y 0 then 2 ^ n else 0) + x, by rw [Nat.pow_succ]; split <;> omega, fun i hi => ?_⟩
    have hp : 0 < 2 ^ n := Nat.pow_pos (by decide)
    cases i with
    | zero =>
      unfold bitAt
      rw [show n + 1 - 1 - 0 = n by omega]
      cases hy : y 0 with
      | true =>
        rw [if_pos rfl, Nat.add_div_left _ hp, Nat.div_eq_of_lt hx]
        rfl
      | false =>
        rw [if_neg (by decide), Nat.zero_add, Nat.div_eq_of_lt hx]
        rfl
    | succ i =>
      have hbi := hb i (by omega)
      unfold bitAt at hbi ⊢
      rw [show n + 1 - 1 - (i + 1) = n - 1 - i by omega, ← hbi]
      cases hy : y 0 with
      | false => rw [if_neg (by decide), Nat.zero_add]
      | true =>
        rw [if_pos rfl]
        have e : 2 ^ n = 2 ^ (n - 1 - i) * (2 * 2 ^ i) := by rw [← Nat.pow_succ', ← Nat.pow_add]; congr 1; omega
        rw [e, Nat.add_comm, Nat.add_mul_div_left _ _ (Nat.pow_pos (by decide)), Nat.add_mul_mod_self_left]
/-- The same table, the same number. -/
theorem table_same (h : Inv vars ns) {i j : Nat} (hi : i < ns.length) (hj : j < ns.length) {s t : List Bool} (hs : IsTable vars ns i s) (ht : IsTable vars ns j t) : i = j ↔ s = t := by
  constructor
  · rintro rfl
    apply List.ext_getElem (by rw [hs.1, ht.1])
    intro k h1 h2
    have a := hs.2 k (by rw [← hs.1]; exact h1)
    have b := ht.2 k (by rw [← ht.1]; exact h2)
    rw [List.getD_eq_getElem?_getD, List.getElem?_eq_getElem h1] at a
    rw [List.getD_eq_getElem?_getD, List.getElem?_eq_getElem h2] at b
    simp only [Option.getD_some] at a b
    rw [a, b]
  · rintro rfl
    refine canon' h hi hj (fun y => ?_)
    obtain ⟨x, hx, hb⟩ := bits_all vars y
    have e : ∀ k, k < ns.length → sem ns k y = sem ns k (bitAt vars x) := fun k hk => sem_free h k hk _ _ (fun v h1 h2 => (hb v h2).symm)
    rw [e i hi, e j hj, ← hs.2 x hx, ← ht.2 x hx]
end Go.Proofs.Ytialbhkamlfccaa.Dia
/- Of how many values a function is true. No program in sight. No condition but the hypotheses that each theorem states. -/
namespace Go.Proofs.Ytialbhkamlfccaa.Dia
set_option linter.unusedVariables false
variable {vars : Nat} {ns : List Nd}
/-- Of how many values of the last n variables a function is true, the others as x has them. -/
def cv (F : (Nat → Bool) → Bool) (vars : Nat) : Nat → (Nat → Bool) → Nat
  | 0, x => if F x then 1 else 0
  | n + 1, x => cv F vars n (set1 x (vars - (n + 1)) false) + cv F vars n (set1 x (vars - (n + 1)) true)
theorem cv_succ (F : (Nat → Bool) → Bool) (n : Nat) (x : Nat → Bool) : cv F vars (n + 1) x = cv F vars n (set1 x (vars - (n + 1)) false) + cv F vars n (set1 x (vars - (n + 1)) true) := rfl
theorem cv_le (F : (Nat → Bool) → Bool) : ∀ n x, cv F vars n x ≤ 2 ^ n
  | 0, x => by unfold cv; split <;> omega
  | n + 1, x => by
    have h1 := cv_le F n (set1 x (vars - (n + 1)) false)
    have h2 := cv_le F n (set1 x (vars - (n + 1)) true)
    unfold cv
    rw [Nat.pow_succ]
    omega
/-- What a function does not hang on does not matter. -/
theorem cv_free {F : (Nat → Bool) → Bool} {k : Nat} (hF : ∀ y z : Nat → Bool, (∀ v, k ≤ v → v < vars → y v = z v) → F y = F z) : ∀ (n : Nat) (x y : Nat → Bool), (∀ v, k ≤ v → v + n < vars → x v = y v) → cv F vars n x = cv F vars n y
  | 0, x, y, h => by
    unfold cv
    rw [hF x y (fun v h1 h2 => h v h1 h2)]
  | n + 1, x, y, h => by
    unfold cv
    have e : ∀ b, cv F vars n (set1 x (vars - (n + 1)) b) = cv F vars n (set1 y (vars - (n + 1)) b) := fun b => cv_free hF n _ _ (fun v h1 h2 => by
      unfold set1
      split
      · rfl
      · exact h v h1 (by omega))
    rw [e, e]
theorem cv_skip {F : (Nat → Bool) → Bool} {k : Nat} (hk : k ≤ vars) (hF : ∀ y z : Nat → Bool, (∀ v, k ≤ v → v < vars → y v = z v) → F y = F z) : ∀ (n : Nat) (x y : Nat → Bool), vars ≤ n + k → n ≤ vars → cv F vars n x = cv F vars (vars - k) y * 2 ^ (k - (vars - n))
  | 0, x, y, h, hn => by
    obtain rfl : k = vars := by omega
    rw [Nat.sub_self, Nat.sub_zero, Nat.sub_self, Nat.pow_zero, Nat.mul_one]
    exact cv_free hF 0 x y (fun v h1 h2 => by omega)
  | n + 1, x, y, h, hn => by
    rcases Nat.lt_or_ge n (vars - k) with hlt | hge
    · have e : n + 1 = vars - k := by omega
      rw [e, show k - (vars - (vars - k)) = 0 by omega, Nat.pow_zero, Nat.mul_one]
      exact cv_free hF _ _ _ (fun v h1 h2 => by omega)
    · rw [cv_succ, cv_skip hk hF n _ y (by omega) (by omega), cv_skip hk hF n _ y (by omega) (by omega), show k - (vars - (n + 1)) = (k - (vars - n)) + 1 by omega, Nat.pow_succ, ← Nat.mul_assoc]
      omega
/-- Of how many values of the variables from its own on a node is true. -/
def cnt (vars : Nat) (ns : List Nd) (i : Nat) : Nat := cv (sem ns i) vars (vars - top ns i) (fun _ => false)
theorem cnt_zero : cnt vars ns 0 = 0 := by
  have h : ∀ n x, cv (sem ns 0) vars n x = 0 := by
    intro n
    induction n with
    | zero => intro x; unfold cv; rw [sem_zero]; rfl
    | succ n ih => intro x; unfold cv; rw [ih, ih]
  exact h _ _
theorem cnt_one (h : Inv vars ns) : cnt vars ns 1 = 1 := by
  unfold cnt
  rw [top_const h (by omega), Nat.sub_self]
  unfold cv
  rw [sem_one]
  rfl
theorem cnt_le (i : Nat) : cnt vars ns i ≤ 2 ^ (vars - top ns i) := cv_le _ _ _
theorem cv_cnt (h : Inv vars ns) {i n : Nat} (hi : i < ns.length) (hn : vars ≤ n + top ns i) (hn2 : n ≤ vars) (x : Nat → Bool) : cv (sem ns i) vars n x = cnt vars ns i * 2 ^ (top ns i - (vars - n)) :=
  cv_skip (top_le h hi) (fun y z hyz => sem_free h i hi y z hyz) n x _ hn hn2
theorem cv_part (h : Inv vars ns) {i : Nat} {n : Nd} (hn : ns[i]? = some n) (hi : 2 ≤ i) (b : Bool) : ∀ (m : Nat) (y : Nat → Bool), n.v + m < vars → y n.v = b → cv (sem ns i) vars m y = cv (sem ns (if b then n.hi else n.lo)) vars m y
  | 0, y, hm, hy => by
    unfold cv
    rw [sem_node h hn hi, hy]
    cases b <;> rfl
  | m + 1, y, hm, hy => by
    unfold cv
    rw [cv_part h hn hi b m _ (by omega) (by unfold set1; rw [if_neg (by omega)]; exact hy), cv_part h hn hi b m _ (by omega) (by unfold set1; rw [if_neg (by omega)]; exact hy)]
theorem cnt_node (h : Inv vars ns) {i : Nat} {n : Nd} (hn : ns[i]? = some n) (hi : 2 ≤ i) : cnt vars ns i = cnt vars ns n.lo * 2 ^ (top ns n.lo - n.v - 1) + cnt vars ns n.hi * 2 ^ (top ns n.hi - n.v - 1) := by
  have hl : i < ns.length := (List.getElem?_eq_some_iff.mp hn).1
  have hb := h.lt i n hn hi
  have hlo : ns[n.lo]? = some ns[n.lo] := List.getElem?_eq_getElem (by omega)
  have hhi : ns[n.hi]? = some ns[n.hi] := List.getElem?_eq_getElem (by omega)
  have u1 := h.up i _ _ hn hi (.inl hlo)
  have u2 := h.up i _ _ hn hi (.inr hhi)
  rw [← top_of hlo] at u1
  rw [← top_of hhi] at u2
  have t1 := top_le h (i := n.lo) (by omega)
  have t2 := top_le h (i := n.hi) (by omega)
  show cv (sem ns i) vars (vars - top ns i) (fun _ => false) = _
  rw [top_of hn, show vars - n.v = (vars - n.v - 1) + 1 by omega, cv_succ, show vars - (vars - n.v - 1 + 1) = n.v by omega, cv_part h hn hi false _ _ (by omega) (by simp [set1]), cv_part h hn hi true _ _ (by omega) (by simp [set1]), if_neg (by decide), if_pos rfl,
    cv_cnt h (by omega) (by omega) (by omega), cv_cnt h (by omega) (by omega) (by omega), show top ns n.lo - (vars - (vars - n.v - 1)) = top ns n.lo - n.v - 1 by omega, show top ns n.hi - (vars - (vars - n.v - 1)) = top ns n.hi - n.v - 1 by omega]
/-- Of how many values from B on a function is true. -/
def ones (F : (Nat → Bool) → Bool) (vars B n : Nat) : Nat := ((List.range n).filter (fun x => F (bitAt vars (B + x)))).length
theorem ones_add (F : (Nat → Bool) → Bool) (B m n : Nat) : ones F vars B (m + n) = ones F vars B m + ones F vars (B + m) n := by
  unfold ones
  rw [List.range_add, List.filter_append, List.length_append, List.filter_map, List.length_map]
  congr 3
  funext x
  show F (bitAt vars (B + (m + x))) = F (bitAt vars (B + m + x))
  rw [Nat.add_assoc]
theorem ones_cv {F : (Nat → Bool) → Bool} (hF : ∀ y z : Nat → Bool, (∀ v, 0 ≤ v → v < vars → y v = z v) → F y = F z) : ∀ (n B : Nat), n ≤ vars → ones F vars (B * 2 ^ n) (2 ^ n) = cv F vars n (bitAt vars (B * 2 ^ n))
  | 0, B, hn => by
    unfold ones cv
    rw [Nat.pow_zero, Nat.mul_one]
    simp only [List.range_one]
    cases h : F (bitAt vars B) <;> simp [h]
  | n + 1, B, hn => by
    have hp : 0 < 2 ^ n := Nat.pow_pos (by decide)
    have e : 2 ^ (n + 1) = 2 ^ n + 2 ^ n := by rw [Nat.pow_succ]; omega
    have eB : B * 2 ^ (n + 1) = (2 * B) * 2 ^ n := by rw [e, Nat.mul_add]; rw [show 2 * B = B + B by omega, Nat.add_mul]
    have eB2 : (2 * B) * 2 ^ n + 2 ^ n = (2 * B + 1) * 2 ^ n := by rw [Nat.add_mul, Nat.one_mul]
    rw [eB, e, ones_add, ones_cv hF n (2 * B) (by omega), eB2, ones_cv hF n (2 * B + 1) (by omega)]
    have hbit : ∀ (D : Nat) (v : Nat), v + (n + 1) = vars → bitAt vars (D * 2 ^ n) v = (D % 2 == 1) := by
      intro D v hv
      unfold bitAt
      rw [show vars - 1 - v = n by omega, Nat.mul_div_cancel _ hp]
    have hhigh : ∀ (D : Nat) (v : Nat), v + (n + 1) < vars → bitAt vars ((2 * B + 1) * 2 ^ n) v = bitAt vars ((2 * B) * 2 ^ n) v := by
      intro D v hv
      unfold bitAt
      obtain ⟨r, hr⟩ : ∃ r, vars - 1 - v = n + 1 + r := ⟨vars - 1 - v - (n + 1), by omega⟩
      have hd : ∀ D : Nat, D * 2 ^ n / 2 ^ (n + 1 + r) = D / 2 / 2 ^ r := by
        intro D
        rw [show 2 ^ (n + 1 + r) = 2 ^ n * (2 * 2 ^ r) by rw [show n + 1 + r = n + (1 + r) by omega, Nat.pow_add, Nat.pow_add, Nat.pow_one], ← Nat.div_div_eq_div_mul, Nat.mul_div_cancel _ hp, ← Nat.div_div_eq_div_mul]
      rw [hr, hd, hd, show (2 * B + 1) / 2 = B by omega, show 2 * B / 2 = B by omega]
    conv => rhs; unfold cv
    congr 1
    · refine cv_free hF n _ _ (fun v _ h2 => ?_)
      unfold set1
      split
      · rename_i hv
        rw [hbit _ _ (by omega)]
        rw [show 2 * B % 2 = 0 by omega]
        rfl
      · rfl
    · refine cv_free hF n _ _ (fun v _ h2 => ?_)
      unfold set1
      split
      · rename_i hv
        rw [hbit _ _ (by omega)]
        rw [show (2 * B + 1) % 2 = 1 by omega]
        rfl
      · rename_i hv
        exact hhigh 0 v (by omega)
/-- A table's number of ones. -/
theorem table_cnt (h : Inv vars ns) {i : Nat} (hi : i < ns.length) {t : List Bool} (ht : IsTable vars ns i t) : (t.filter id).length = cnt vars ns i * 2 ^ top ns i := by
  have hF : ∀ y z : Nat → Bool, (∀ v, 0 ≤ v → v < vars → y v = z v) → sem ns i y = sem ns i z := fun y z hyz => sem_free h i hi y z (fun v _ h2 => hyz v (Nat.zero_le _) h2)
  have e1 : t = (List.range (2 ^ vars)).map (fun x => sem ns i (bitAt vars x)) := by
    apply List.ext_getElem
    · rw [ht.1, List.length_map, List.length_range]
    · intro k h1 h2
      rw [List.getElem_map, List.getElem_range, ← ht.2 k (by rw [← ht.1]; exact h1), List.getD_eq_getElem?_getD, List.getElem?_eq_getElem h1]
      rfl
  have e2 := ones_cv hF vars 0 (Nat.le_refl _)
  rw [cv_cnt h hi (by omega) (Nat.le_refl _), Nat.sub_self, Nat.sub_zero] at e2
  rw [← e2, e1, List.filter_map, List.length_map]
  unfold ones
  congr 2
  funext x
  show sem ns i (bitAt vars x) = sem ns i (bitAt vars (0 * 2 ^ vars + x))
  rw [Nat.zero_mul, Nat.zero_add]
end Go.Proofs.Ytialbhkamlfccaa.Dia
