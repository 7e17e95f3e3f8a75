/- The reference's tables; what stands between the calls of made. No condition but the hypotheses that each theorem states. -/
import Derived.Test.YtialbhkamlfccaaPAx2
import Derived.Test.YtialbhkamlfccaaM1
import Derived.Test.YtialbhkamlfccaaM6
/- The reference's tables in plain words. No program walked. No condition but the hypotheses that each theorem states. -/
namespace Go.Proofs.Ytialbhkamlfccaa.PA
open Go.RowKit Go.Proofs.YtialbhkamlfccaaW.PrintWords Go.Proofs.YtialbhkamlfccaaW.PrintLast Go.Proofs.YtialbhkamlfccaaW.PrintMore Go.Proofs.Ytialbhkamlfccaa.Dia
set_option linter.unusedVariables false
set_option linter.unusedSimpArgs false
/-- A function's table. -/
def tab (vars : Nat) (F : (Nat → Bool) → Bool) : List Bool := (List.range (2 ^ vars)).map (fun x => F (bitAt vars x))
theorem tab_length (vars : Nat) (F : (Nat → Bool) → Bool) : (tab vars F).length = 2 ^ vars := by simp [tab]
theorem tab_get {vars : Nat} {F : (Nat → Bool) → Bool} {x : Nat} (hx : x < 2 ^ vars) : (tab vars F)[x]? = some (F (bitAt vars x)) := by simp [tab, hx]
theorem tab_rd {vars : Nat} {F : (Nat → Bool) → Bool} {x : Nat} (hx : x < 2 ^ vars) : rdOf false (tab vars F) (x : Int) = F (bitAt vars x) := by
  unfold rdOf
  rw [Int.toNat_natCast, List.getD_eq_getElem?_getD, tab_get hx]
  rfl
theorem tab_is {vars : Nat} {ns : List Nd} {i : Nat} : IsTable vars ns i (tab vars (sem ns i)) :=
  ⟨tab_length _ _, fun x hx => by rw [List.getD_eq_getElem?_getD, tab_get hx]; rfl⟩
theorem w64 {n : Nat} (h : n < 9223372036854775808) : wrap64 ((n : Nat) : Int) = (n : Int) := by unfold wrap64; omega
theorem w64s {n : Nat} (h : n + 1 < 9223372036854775808) : wrap64 ((n : Int) + 1) = ((n + 1 : Nat) : Int) := by unfold wrap64; omega
theorem pow_le {v : Nat} (h : v ≤ 60) : 2 ^ v ≤ 1152921504606846976 := by
  have := Nat.pow_le_pow_right (show 0 < 2 by decide) h
  omega
theorem all_l0 (v : Nat) (hv : v ≤ 60) : ∀ (k i : Nat), i ≤ v → v < k + i → bautaref36_All.l0 k (v : Int) ((2 ^ i : Nat) : Int) (i : Int) = some ((2 ^ v : Nat) : Int)
  | 0, i, h1, h2 => by omega
  | k + 1, i, h1, h2 => by
    rw [bautaref36_All.l0]
    by_cases hi : i < v
    · rw [if_pos (by omega)]
      have hp := pow_le (show i ≤ 60 by omega)
      have e1 : wrap64 (((2 ^ i : Nat) : Int) * 2) = ((2 ^ (i + 1) : Nat) : Int) := by rw [Nat.pow_succ]; unfold wrap64; omega
      rw [e1, w64s (by omega)]
      exact all_l0 v hv k (i + 1) (by omega) (by omega)
    · obtain rfl : i = v := by omega
      rw [if_neg (by omega)]
theorem All_f {v k : Nat} (hv : v ≤ 60) (hk : v < k) : bautaref36_All.f k (v : Int) = some ((2 ^ v : Nat) : Int) := by
  have h := all_l0 v hv k 0 (Nat.zero_le _) (by omega)
  exact h
theorem bit_l0 (v : Nat) (hv : v ≤ 60) : ∀ (k n x : Nat), n ≤ k → n + 1 ≤ v → x < 9223372036854775808 → bautaref36_bit.l0 (k + 1) (x : Int) (v : Int) ((v - 1 - n : Nat) : Int) = some (x / 2 ^ n % 2 == 1)
  | k, 0, x, h1, h2, hx => by
    rw [bautaref36_bit.l0]
    have e : wrap64 ((v : Int) - 1) = ((v - 1 : Nat) : Int) := by unfold wrap64; omega
    rw [e, if_neg (by omega), Nat.pow_zero, Nat.div_one]
    have e2 : Int.tmod (x : Int) 2 = ((x % 2 : Nat) : Int) := by rw [Int.tmod_eq_emod_of_nonneg (by omega)]; omega
    rw [e2]
    rcases Nat.mod_two_eq_zero_or_one x with h | h <;> rw [h] <;> rfl
  | 0, n + 1, x, h1, h2, hx => by omega
  | k + 1, n + 1, x, h1, h2, hx => by
    rw [bautaref36_bit.l0]
    have e : wrap64 ((v : Int) - 1) = ((v - 1 : Nat) : Int) := by unfold wrap64; omega
    have e2 : wrap64 (Int.tdiv (x : Int) 2) = ((x / 2 : Nat) : Int) := by rw [Int.tdiv_eq_ediv_of_nonneg (by omega)]; unfold wrap64; omega
    rw [e, if_pos (by omega), e2, w64s (by omega), show v - 1 - (n + 1) + 1 = v - 1 - n by omega, bit_l0 v hv k n (x / 2) (by omega) (by omega) (by omega), Nat.div_div_eq_div_mul, ← Nat.pow_succ']
theorem Bit_f {v i k x : Nat} (hv : v ≤ 60) (hi : i < v) (hk : v ≤ k) (hx : x < 9223372036854775808) : bautaref36_bit.f k (x : Int) (i : Int) (v : Int) = some (bitAt v x i) := by
  unfold bautaref36_bit.f
  obtain ⟨k, rfl⟩ : ∃ q, k = q + 1 := ⟨k - 1, by omega⟩
  have h := bit_l0 v hv k (v - 1 - i) x (by omega) (by omega) hx
  rw [show v - 1 - (v - 1 - i) = i by omega] at h
  exact h
theorem take_succ_map {α : Type} (f : Nat → α) (n : Nat) : (List.range (n + 1)).map f = (List.range n).map f ++ [f n] := by
  rw [List.range_succ, List.map_append]
  rfl
theorem var_l0 (v : Nat) (hv : v ≤ 40) (i : Nat) (hi : i < v) : ∀ (k x : Nat), x ≤ 2 ^ v → 2 ^ v + v + 2 ≤ k + x → bautaref36_Var.l0 k (v : Int) (i : Int) ((List.range x).map (fun y => bitAt v y i)) (x : Int) = some (tab v (fun y => y i))
  | 0, x, h1, h2 => by omega
  | k + 1, x, h1, h2 => by
    have hp : 2 ^ v ≤ 1099511627776 := by have := Nat.pow_le_pow_right (show 0 < 2 by decide) hv; omega
    rw [bautaref36_Var.l0, All_f (by omega) (by omega), Option.bind_some]
    by_cases hx : x < 2 ^ v
    · rw [if_pos (by omega), Bit_f (by omega) hi (by omega) (by omega), Option.bind_some, if_pos (by simp; omega), w64s (by omega), ← take_succ_map (fun y => bitAt v y i) x]
      exact var_l0 v hv i hi k (x + 1) (by omega) (by omega)
    · obtain rfl : x = 2 ^ v := by omega
      rw [if_neg (by omega)]
      rfl
theorem Var_f {v i : Nat} (hv : v ≤ 40) (hi : i < v) : bautaref36_Var.f (2 ^ v + v + 2) (v : Int) (i : Int) = some (tab v (fun y => y i)) :=
  var_l0 v hv i hi (2 ^ v + v + 2) 0 (Nat.zero_le _) (Nat.le_refl _)
theorem const_l0 (v : Nat) (hv : v ≤ 40) (b : Bool) : ∀ (k x : Nat), x ≤ 2 ^ v → 2 ^ v + v + 2 ≤ k + x → bautaref36_Const.l0 k (v : Int) b ((List.range x).map (fun _ => b)) (x : Int) = some (tab v (fun _ => b))
  | 0, x, h1, h2 => by omega
  | k + 1, x, h1, h2 => by
    have hp : 2 ^ v ≤ 1099511627776 := by have := Nat.pow_le_pow_right (show 0 < 2 by decide) hv; omega
    rw [bautaref36_Const.l0, All_f (by omega) (by omega), Option.bind_some]
    by_cases hx : x < 2 ^ v
    · rw [if_pos (by omega), if_pos (by simp; omega), w64s (by omega), ← take_succ_map (fun _ => b) x]
      exact const_l0 v hv b k (x + 1) (by omega) (by omega)
    · obtain rfl : x = 2 ^ v := by omega
      rw [if_neg (by omega)]
      rfl
theorem Const_f {v : Nat} (hv : v ≤ 40) (b : Bool) : bautaref36_Const.f (2 ^ v + v + 2) (v : Int) b = some (tab v (fun _ => b)) :=
  const_l0 v hv b (2 ^ v + v + 2) 0 (Nat.zero_le _) (Nat.le_refl _)
theorem ite_l0 (v : Nat) (hv : v ≤ 40) (F G H : (Nat → Bool) → Bool) : ∀ (k x : Nat), x ≤ 2 ^ v → 2 ^ v + 1 ≤ k + x → bautaref36_Ite.l0 k (tab v F) (tab v G) (tab v H) ((List.range x).map (fun y => if F (bitAt v y) then G (bitAt v y) else H (bitAt v y))) (x : Int) = some (tab v (fun y => if F y then G y else H y))
  | 0, x, h1, h2 => by omega
  | k + 1, x, h1, h2 => by
    have hp : 2 ^ v ≤ 1099511627776 := by have := Nat.pow_le_pow_right (show 0 < 2 by decide) hv; omega
    rw [bautaref36_Ite.l0, tab_length, tab_length, tab_length]
    by_cases hx : x < 2 ^ v
    · rw [if_pos (by omega), if_pos (by omega), tab_rd hx, tab_rd hx, tab_rd hx, if_pos (show ((x : Int) < ((2 ^ v : Nat) : Int)) by omega), w64s (by omega)]
      have ih := ite_l0 v hv F G H k (x + 1) (by omega) (by omega)
      rw [take_succ_map] at ih
      cases hF : F (bitAt v x) with
      | true =>
        rw [hF, if_pos rfl] at ih
        rw [if_pos rfl, if_pos (by simp; omega)]
        exact ih
      | false =>
        rw [hF, if_neg (by decide)] at ih
        rw [if_neg (by decide), if_pos (show ((x : Int) < ((2 ^ v : Nat) : Int)) by omega), if_pos (by simp; omega)]
        exact ih
    · obtain rfl : x = 2 ^ v := by omega
      rw [if_neg (by omega)]
      rfl
theorem Ite_f {v : Nat} (hv : v ≤ 40) (F G H : (Nat → Bool) → Bool) : bautaref36_Ite.f (2 ^ v + 1) (tab v F) (tab v G) (tab v H) = some (tab v (fun y => if F y then G y else H y)) :=
  ite_l0 v hv F G H (2 ^ v + 1) 0 (Nat.zero_le _) (Nat.le_refl _)
theorem same_l0 (s t : List Bool) (hl : s.length = t.length) (hs : s.length < 9223372036854775807) : ∀ (k x : Nat), x ≤ s.length → s.length + 1 ≤ k + x → bautaref36_Same.l0 k s t (x : Int) = some (decide (s.drop x = t.drop x))
  | 0, x, h1, h2 => by omega
  | k + 1, x, h1, h2 => by
    rw [bautaref36_Same.l0]
    by_cases hx : x < s.length
    · rw [if_pos (by omega), if_pos (by omega), if_pos (by omega), w64s (by omega)]
      have e1 : rdOf false s (x : Int) = s[x] := by unfold rdOf; rw [Int.toNat_natCast, List.getD_eq_getElem?_getD, List.getElem?_eq_getElem hx]; rfl
      have hxt : x < t.length := by omega
      have e2 : rdOf false t (x : Int) = t[x] := by unfold rdOf; rw [Int.toNat_natCast, List.getD_eq_getElem?_getD, List.getElem?_eq_getElem hxt]; rfl
      rw [e1, e2, List.drop_eq_getElem_cons hx, List.drop_eq_getElem_cons hxt]
      by_cases he : s[x] = t[x]
      · rw [if_neg (by simp [he]), same_l0 s t hl hs k (x + 1) (by omega) (by omega), he]
        congr 1
        exact decide_eq_decide.mpr ⟨fun h => by rw [h], fun h => (List.cons.inj h).2⟩
      · rw [if_pos (by simp [he]), decide_eq_false (fun h => he (List.cons.inj h).1)]
    · rw [if_neg (by omega), List.drop_eq_nil_of_le (by omega), List.drop_eq_nil_of_le (by omega)]
      rfl
theorem Same_f {s t : List Bool} (hs : s.length < 9223372036854775807) : bautaref36_Same.f (s.length + 1) s t = some (decide (s = t)) := by
  unfold bautaref36_Same.f
  by_cases hl : s.length = t.length
  · rw [if_pos (by omega)]
    have h := same_l0 s t hl hs (s.length + 1) 0 (Nat.zero_le _) (Nat.le_refl _)
    rw [List.drop_zero, List.drop_zero] at h
    exact h
  · rw [if_neg (by omega), decide_eq_false (fun e => hl (by rw [e]))]
theorem count_l0 (s : List Bool) (hs : s.length < 9223372036854775807) : ∀ (k x c : Nat), x ≤ s.length → s.length + 1 ≤ k + x → c ≤ x → bautaref36_Count.l0 k s (c : Int) (x : Int) = some (((c + ((s.drop x).filter id).length : Nat)) : Int)
  | 0, x, c, h1, h2, h3 => by omega
  | k + 1, x, c, h1, h2, h3 => by
    rw [bautaref36_Count.l0]
    by_cases hx : x < s.length
    · rw [if_pos (by omega), if_pos (by omega), w64s (by omega), w64s (by omega)]
      have e1 : rdOf false s (x : Int) = s[x] := by unfold rdOf; rw [Int.toNat_natCast, List.getD_eq_getElem?_getD, List.getElem?_eq_getElem hx]; rfl
      rw [e1, List.drop_eq_getElem_cons hx]
      cases hb : s[x] with
      | true =>
        rw [if_pos rfl, count_l0 s hs k (x + 1) (c + 1) (by omega) (by omega) (by omega), List.filter_cons_of_pos rfl, List.length_cons]
        congr 2
        omega
      | false =>
        rw [if_neg (by decide), count_l0 s hs k (x + 1) c (by omega) (by omega) (by omega), List.filter_cons_of_neg (by decide)]
    · rw [if_neg (by omega), List.drop_eq_nil_of_le (by omega)]
      rfl
theorem Count_f {s : List Bool} (hs : s.length < 9223372036854775807) : bautaref36_Count.f (s.length + 1) s = some (((s.filter id).length : Nat) : Int) := by
  have h := count_l0 s hs (s.length + 1) 0 0 (Nat.zero_le _) (Nat.le_refl _) (Nat.le_refl _)
  rw [List.drop_zero, Nat.zero_add] at h
  exact h
theorem At_f (a : Int) {n : Nat} (hn : 0 < n) (hn2 : n < 4611686018427387904) : ∃ r : Nat, r < n ∧ bautalaw36_at.f a (n : Int) = some (r : Int) := by
  unfold bautalaw36_at.f
  rw [if_neg (by omega)]
  have h1 : -(n : Int) < Int.tmod a n := by
    have := Int.lt_tmod_of_pos a (show (0 : Int) < n by omega)
    omega
  have h2 : Int.tmod a n < n := Int.tmod_lt_of_pos a (by omega)
  by_cases h : Int.tmod a n < 0
  · rw [if_pos h]
    refine ⟨(Int.tmod a n + n).toNat, by omega, ?_⟩
    congr 1
    unfold wrap64
    omega
  · rw [if_neg h]
    exact ⟨(Int.tmod a n).toNat, by omega, by congr 1; omega⟩
end Go.Proofs.Ytialbhkamlfccaa.PA
/- made: what stands between its calls. No condition but the hypotheses that each theorem states. -/
namespace Go.Proofs.Ytialbhkamlfccaa.PA
open Go.RowKit Go.Proofs.YtialbhkamlfccaaW.PrintWords Go.Proofs.YtialbhkamlfccaaW.PrintLast Go.Proofs.YtialbhkamlfccaaW.PrintMore Go.Proofs.Ytialbhkamlfccaa.Mp Go.Proofs.Ytialbhkamlfccaa.Dia
set_option linter.unusedVariables false
set_option linter.unusedSimpArgs false
/-- The blocks of a set: its struct, its nodes, its maps. -/
def setB (w0 W : World) : Nat → Prop := fun k => w0.heap.size ≤ k ∧ ((∃ cells q, (q = 52 ∨ q = 54) ∧ W.heap[k]? = some (.cells cells q (0, 0))) ∨ ∃ es c, W.heap[k]? = some (.map es c))
section
variable {w0 W W' : World} {ok : Nat → Prop} {g vars most nb : Nat} {full : Bool} {ns : List Nd}
theorem BS.typed (h : BS w0 W ok g vars most full ns nb) : BS w0 W (setB w0 W) g vars most full ns nb := by
  obtain ⟨v, mw, ma, n1, n2, D1, D2, f, hbk, hR, hne, h1, h2, r1, r2, r3, r4, r5⟩ := h.at_
  have m1 : ∃ es c, W.heap[mw]? = some (.map es c) := by obtain ⟨es, c, hh, _⟩ := h1; exact ⟨es, c, hh⟩
  have m2 : ∃ es c, W.heap[ma]? = some (.map es c) := by obtain ⟨es, c, hh, _⟩ := h2; exact ⟨es, c, hh⟩
  refine ⟨h.inv, h.small, h.ge, v, mw, ma, n1, n2, D1, D2, f, hbk, Kd.R_mono (Kd.R_bound hR) (fun k hk => ⟨⟨hk.2.1, .inl ?_⟩, hk.1.2⟩), ⟨hne.1, hne.2.1, hne.2.2.1, hne.2.2.2.1, hne.2.2.2.2.1, ⟨h.ge, .inl ⟨_, 52, .inl rfl, hbk⟩⟩, ⟨hne.1, .inr m1⟩, ⟨hne.2.1, .inr m2⟩⟩, h1, h2, r1, r2, r3, r4, r5⟩
  obtain ⟨_, _, _, q, hq, cells, hc⟩ := hk
  have hq2 : q = 54 := by
    rcases List.mem_cons.mp hq with h6 | h6
    · exact h6
    · have h7 : q ∈ ([] : List Nat) := h6
      cases h7
  exact ⟨cells, q, .inr hq2, hc⟩
/-- A row of another type lives on while the set is worked on. -/
theorem row_set {α : Type} {d : Kd α} {e base : Nat} {okr : Nat → Prop} {v : Value} {xs : List α} (h : d.R e W base okr v xs) (hE : ∀ q, q ∈ e :: d.E → q ≠ 52 ∧ q ≠ 54) (hk : Kept W W' (setB w0 W)) : d.R e W' base okr v xs := by
  refine Kd.R_mono (Kd.R_move (Kd.R_bound h) (fun k h2 => hk.2.1 k h2.2.2.1 (fun hs => ?_))) (fun _ h2 => h2.1)
  obtain ⟨_, _, _, q, hq, cells, hc⟩ := h2
  rcases hs.2 with ⟨cells', q', hq', hc'⟩ | ⟨es, c, hc'⟩
  · rw [hc] at hc'
    injection hc' with hc'
    injection hc' with _ hc'
    rcases hq' with h52 | h54
    · exact (hE q hq).1 (hc'.trans h52)
    · exact (hE q hq).2 (hc'.trans h54)
  · rw [hc] at hc'
    cases hc'
theorem cell_set {a : Addr} {v : Value} {cells : Array Value} {q : TypeId} (hc : W.cell? a = some v) (ht : W.heap[a.block]? = some (.cells cells q (0, 0))) (hq : q ≠ 52 ∧ q ≠ 54) (hk : Kept W W' (setB w0 W)) : W'.cell? a = some v := by
  refine cell_kept hc hk (fun hs => ?_)
  rcases hs.2 with ⟨cells', q', hq', hc'⟩ | ⟨es, c, hc'⟩
  · rw [ht] at hc'
    injection hc' with hc'
    injection hc' with _ hc'
    rcases hq' with h52 | h54
    · exact hq.1 (hc'.trans h52)
    · exact hq.2 (hc'.trans h54)
  · rw [ht] at hc'
    cases hc'
/-- The set lives on while a row of another type is appended to. -/
theorem BS.row {v : Value} {e : Nat} (h : BS w0 W (setB w0 W) g vars most full ns nb) (hg : W.grownBy W' v.ownBlock) (ht : ∀ k, v.ownBlock = some k → ∃ cells, W.heap[k]? = some (.cells cells e (0, 0))) (he : e ≠ 52 ∧ e ≠ 54) : BS w0 W' (setB w0 W') g vars most full ns nb := by
  have hk : Kept W W' (fun k => v.ownBlock = some k) := Kept.of_grown hg (Kept.refl W _) (fun k h2 => .inl h2)
  refine (h.kept hk (fun k hs h2 => ?_)).typed
  obtain ⟨cells, hc⟩ := ht k h2
  rcases hs.2 with ⟨cells', q', hq', hc'⟩ | ⟨es, c, hc'⟩
  · rw [hc] at hc'
    injection hc' with hc'
    injection hc' with _ hc'
    rcases hq' with h52 | h54
    · exact he.1 (hc'.trans h52)
    · exact he.2 (hc'.trans h54)
  · rw [hc] at hc'
    cases hc'
end
/-- The functions made so far: the set, the numbers, the tables, the constants' tables. -/
structure Ms (w0 W : World) (g vars most : Nat) (full : Bool) (ns : List Nd) (nb : Nat) (v9 v10 v11 v12 : Value) (ids : List Nat) : Prop where
  b : Below w0.heap.size w0 W
  s : BS w0 W (setB w0 W) g vars most full ns nb
  n : Kd.R (Kd.int .i64) 3 W w0.heap.size (fun _ => True) v9 (ids.map (fun i : Nat => (i : Int)))
  t : Kd.R (Kd.slice 4 Kd.bool) 31 W w0.heap.size (fun _ => True) v10 (ids.map (fun i => tab vars (sem ns i)))
  o : Kd.R Kd.bool 4 W w0.heap.size (fun _ => True) v11 (tab vars (fun _ => false))
  y : Kd.R Kd.bool 4 W w0.heap.size (fun _ => True) v12 (tab vars (fun _ => true))
  l : ∀ i ∈ ids, i < ns.length
section
variable {w0 W W' : World} {g vars most nb nb' K v : Nat} {full : Bool} {ns : List Nd} {v9 v10 v11 v12 : Value} {ids : List Nat} {F : (Nat → Bool) → Bool} {e : Ending}
theorem Ms.below (h : Ms w0 W g vars most full ns nb v9 v10 v11 v12 ids) (hb : Below W.heap.size W W') : Ms w0 W' g vars most full ns nb v9 v10 v11 v12 ids :=
  ⟨below_then h.b h.b.size hb, (h.s.below hb).typed, Kd.R_below h.n hb, Kd.R_below h.t hb, Kd.R_below h.o hb, Kd.R_below h.y hb, h.l⟩
theorem Ms.bs (h : Ms w0 W g vars most full ns nb v9 v10 v11 v12 ids) : BS w0 W (setB w0 W) g vars most full ns nb := h.s
theorem Ms.kept {full' : Bool} {dd : List Nd} (h : Ms w0 W g vars most full ns nb v9 v10 v11 v12 ids) (hk : Kept W W' (setB w0 W)) (hb : BS w0 W' (fun k => setB w0 W k ∨ W.heap.size ≤ k) g vars most full' (ns ++ dd) nb') : Ms w0 W' g vars most full' (ns ++ dd) nb' v9 v10 v11 v12 ids := by
  refine ⟨?_, hb.typed, row_set h.n (by decide) hk, ?_, row_set h.o (by decide) hk, row_set h.y (by decide) hk, fun i hi => by rw [List.length_append]; have := h.l i hi; omega⟩
  · exact (((Kept.of_below h.b (fun k => w0.heap.size ≤ k)).then_ hk (fun k h2 => .inl h2.1)).to_below (fun k h2 => h2))
  · have he : ids.map (fun i => tab vars (sem (ns ++ dd) i)) = ids.map (fun i => tab vars (sem ns i)) := by
      apply List.map_congr_left
      intro i hi
      have hs : sem (ns ++ dd) i = sem ns i := by funext x; exact sem_pre h.s.inv dd (h.l i hi) x
      rw [hs]
    rw [he]
    exact row_set h.t (by decide) hk
/-- A call of the set. -/
def Put (w0 W : World) (g vars most : Nat) (full : Bool) (ns : List Nd) (nb K : Nat) (F : (Nat → Bool) → Bool) (v9 v10 v11 v12 : Value) (ids : List Nat) (val : Value) : Prop :=
  ∃ dd : List Nd, (ns ++ dd).length ≤ ns.length + K ∧
    ((∃ m : Nat, val = .int .i64 (m : Int) ∧ m < (ns ++ dd).length ∧ (∀ x, sem (ns ++ dd) m x = F x) ∧ Ms w0 W g vars most full (ns ++ dd) nb v9 v10 v11 v12 ids) ∨
     (val = .int .i64 (-1) ∧ most ≤ (ns ++ dd).length ∧ Ms w0 W g vars most true (ns ++ dd) nb v9 v10 v11 v12 ids))
theorem Ms.op (h : Ms w0 W g vars most full ns nb v9 v10 v11 v12 ids) (hr : Res w0 W (setB w0 W) g vars most full ns nb' K v F e W') : ∃ val, e = .returned val ∧ Aside0 (Put w0 W' g vars most full ns nb' K F v9 v10 v11 v12 ids val) := by
  obtain ⟨ns1, ⟨dd, rfl⟩, h1, h2, hc⟩ := hr
  rcases hc with ⟨m, rfl, hm, _, hs, hb⟩ | ⟨rfl, hm, hb⟩
  · exact ⟨_, rfl, ⟨dd, h1, .inl ⟨m, rfl, hm, hs, h.kept h2 hb⟩⟩⟩
  · exact ⟨_, rfl, ⟨dd, h1, .inr ⟨rfl, hm, h.kept h2 hb⟩⟩⟩
theorem Put.below {val : Value} (h : Put w0 W g vars most full ns nb K F v9 v10 v11 v12 ids val) (hb : Below W.heap.size W W') : Put w0 W' g vars most full ns nb K F v9 v10 v11 v12 ids val := by
  obtain ⟨dd, h1, h2⟩ := h
  refine ⟨dd, h1, ?_⟩
  rcases h2 with ⟨m, e, hm, hs, h3⟩ | ⟨e, hm, h3⟩
  · exact .inl ⟨m, e, hm, hs, h3.below hb⟩
  · exact .inr ⟨e, hm, h3.below hb⟩
/-- A number and its place. -/
theorem Ms.num (h : Ms w0 W g vars most full ns nb v9 v10 v11 v12 ids) {j : Nat} (hj : j < ids.length) : ∃ ad c, v9 = .slice (some ad) ids.length c ∧ ids.length ≤ c ∧ ∀ W', Kept W W' (setB w0 W) → W'.cell? (ad.add j) = some (.int .i64 (ids[j] : Int)) := by
  obtain ⟨A, c, hv, hl, hC⟩ := Kd.R_reads h.n
  rw [List.length_map] at hv hl
  obtain ⟨ad, rfl, hc⟩ := Kd.at_int hC (j : Int) (by omega) (by rw [List.length_map]; omega)
  refine ⟨ad, c, hv, hl, fun W' hk => ?_⟩
  have hr := row_set (w0 := w0) h.n (by decide) hk
  rw [hv] at hr
  obtain ⟨ad2, e2, hc2⟩ := Kd.at_int (Kd.R_reads' hr).2.2 (j : Int) (by omega) (by rw [List.length_map]; omega)
  obtain rfl : ad = ad2 := by injection e2
  rw [Int.toNat_natCast] at hc2
  rw [hc2]
  unfold rd
  rw [Int.toNat_natCast, List.getD_eq_getElem?_getD, List.getElem?_map, List.getElem?_eq_getElem hj]
  rfl
/-- A table and its place. -/
theorem Ms.tabl (h : Ms w0 W g vars most full ns nb v9 v10 v11 v12 ids) {j : Nat} (hj : j < ids.length) : ∃ ad c A cc, v10 = .slice (some ad) ids.length c ∧ ids.length ≤ c ∧ (tab vars (sem ns ids[j])).length ≤ cc ∧ ∀ W', Kept W W' (setB w0 W) → W'.cell? (ad.add j) = some (.slice A (tab vars (sem ns ids[j])).length cc) ∧ Kd.bool.C W' A (tab vars (sem ns ids[j])).length (tab vars (sem ns ids[j])) := by
  obtain ⟨A0, c, hv, hl, hC⟩ := Kd.R_reads h.t
  rw [List.length_map] at hv hl
  have hR := h.t
  obtain ⟨ad, A1, c1, rfl, _⟩ := at_L1 hC (j : Int) (by omega) (by rw [List.length_map]; omega)
  rw [hv] at hR
  obtain ⟨cs, hcl, hM, hcc⟩ := Kd.R_get hR ([] : List Bool) (j : Int) (by omega) (by omega)
  have hgd : (ids.map (fun i => tab vars (sem ns i))).getD (j : Int).toNat [] = tab vars (sem ns ids[j]) := by
    rw [Int.toNat_natCast, List.getD_eq_getElem?_getD, List.getElem?_map, List.getElem?_eq_getElem hj]
    rfl
  rw [hgd] at hM
  obtain ⟨u, rfl, hu⟩ := hM
  obtain ⟨A, cc, rfl, hlc, _⟩ := Kd.R_reads hu
  have hcell := hcc 0 _ rfl
  rw [Int.toNat_natCast, show j * (Kd.slice 4 Kd.bool).sz + 0 = j from by show j * 1 + 0 = j; omega] at hcell
  refine ⟨ad, c, A, cc, hv, hl, hlc, fun W' hk => ⟨?_, (Kd.R_reads' (row_set (w0 := w0) hu (by decide) hk)).2.2⟩⟩
  obtain ⟨g', hg'⟩ : ∃ g', ad = ⟨g', 0, none⟩ := by
    obtain ⟨_, inner, ho, _⟩ := hR
    rcases ho.2 with ⟨hv, _⟩ | ⟨g, cap', cur, hv, _⟩
    · cases hv
    · injection hv with ha _ _
      injection ha with ha
      exact ⟨g, ha⟩
  subst hg'
  obtain ⟨cells, hty⟩ := Kd.R_typed hR g' rfl
  exact cell_set hcell (q := 31) (by rw [add_plain]; exact hty) (by decide) hk
end
end Go.Proofs.Ytialbhkamlfccaa.PA
/- made: its rows, its acts, and what a choice of them comes to. No condition but the hypotheses that each theorem states. -/
namespace Go.Proofs.Ytialbhkamlfccaa.PA
open Go.RowKit Go.Proofs.YtialbhkamlfccaaW.PrintWords Go.Proofs.YtialbhkamlfccaaW.PrintLast Go.Proofs.YtialbhkamlfccaaW.PrintMore Go.Proofs.Ytialbhkamlfccaa.Mp Go.Proofs.Ytialbhkamlfccaa.Dia
set_option linter.unusedVariables false
set_option linter.unusedSimpArgs false
theorem info3 : (Try.prog.info? 3).map (fun i => (i.zero, i.size, i.bytes)) = some (some (.int .i64 0), 1, 8) := by kernel_rfl
theorem info31 : (Try.prog.info? 31).map (fun i => (i.zero, i.size, i.bytes)) = some (some (.slice none 0 0), 1, 24) := by kernel_rfl
/-- An act. -/
structure AcT where
  k : Int
  a : Int
  b : Int
  c : Int
abbrev k58 : Kd AcT := Kd.iso (Kd.pair (Kd.int .i64) (Kd.pair (Kd.int .i64) (Kd.pair (Kd.int .i64) (Kd.int .i64)))) (fun x : AcT => (x.k, x.a, x.b, x.c))
theorem at_Ac {w : World} {A : Option Addr} {n : Nat} {xs : List AcT} (h : Kd.C k58 w A n xs) (i : Nat) (hi : i < n) (hx : i < xs.length) : ∃ ad, A = some ad ∧ w.cell? (ad.add (i * 4)) = some (.int .i64 xs[i].k) ∧ w.cell? ⟨(ad.add (i * 4)).block, (ad.add (i * 4)).off + 1, none⟩ = some (.int .i64 xs[i].a) ∧ w.cell? ⟨(ad.add (i * 4)).block, (ad.add (i * 4)).off + 2, none⟩ = some (.int .i64 xs[i].b) ∧ w.cell? ⟨(ad.add (i * 4)).block, (ad.add (i * 4)).off + 3, none⟩ = some (.int .i64 xs[i].c) := by
  obtain ⟨ad, c, e, _, hK, hc0⟩ := Kd.C_get h ⟨0, 0, 0, 0⟩ (i : Int) (by omega) (by omega)
  have hg : xs.getD (i : Int).toNat ⟨0, 0, 0, 0⟩ = xs[i] := by rw [Int.toNat_natCast, List.getD_eq_getElem?_getD, List.getElem?_eq_getElem hx]; rfl
  rw [hg] at hK
  have hc : ∀ j u, c[j]? = some u → w.cell? (ad.add (i * 4 + j)) = some u := hc0
  have hcc : c = [.int .i64 xs[i].k, .int .i64 xs[i].a, .int .i64 xs[i].b, .int .i64 xs[i].c] := by
    obtain ⟨_, _, rfl, rfl, _, _, rfl, rfl, _, _, rfl, rfl, rfl⟩ := hK
    exact rfl
  rw [hcc] at hc
  exact ⟨ad, e, hc 0 _ rfl, by rw [← add_field _ _ 1 (by omega)]; exact hc 1 _ rfl, by rw [← add_field _ _ 2 (by omega)]; exact hc 2 _ rfl, by rw [← add_field _ _ 3 (by omega)]; exact hc 3 _ rfl⟩
theorem cells4 {W : World} {b t : Nat} {x y z u : Value} (h : W.heap[b]? = some (.cells #[x, y, z, u] t (0, 0))) : W.cell? ⟨b, 0, none⟩ = some x ∧ W.cell? ⟨b, 1, none⟩ = some y ∧ W.cell? ⟨b, 2, none⟩ = some z ∧ W.cell? ⟨b, 3, none⟩ = some u :=
  ⟨(cell_of_row _ _ 0 _ _ _ h).trans rfl, (cell_of_row _ _ 1 _ _ _ h).trans rfl, (cell_of_row _ _ 2 _ _ _ h).trans rfl, (cell_of_row _ _ 3 _ _ _ h).trans rfl⟩
section
variable {w0 W W' : World} {g vars most nb nb' nb2 K K2 v : Nat} {full : Bool} {ns : List Nd} {v9 v10 v11 v12 : Value} {ids : List Nat} {F G : (Nat → Bool) → Bool} {e : Ending}
theorem blk_set58 {b t : Nat} {cells : Array Value} (h : W.heap[b]? = some (.cells cells t (0, 0))) (ht : t ≠ 52 ∧ t ≠ 54) (hk : Kept W W' (setB w0 W)) : W'.heap[b]? = some (.cells cells t (0, 0)) := by
  refine blk_kept h hk (fun hs => ?_)
  rcases hs.2 with ⟨cells', q', hq', hc'⟩ | ⟨es, c, hc'⟩
  · rw [h] at hc'
    injection hc' with hc'
    injection hc' with _ hc'
    rcases hq' with h52 | h54
    · exact ht.1 (hc'.trans h52)
    · exact ht.2 (hc'.trans h54)
  · rw [h] at hc'
    cases hc'
theorem Res.kept (h : Res w0 W (setB w0 W) g vars most full ns nb K v F e W') : Kept W W' (setB w0 W) := by
  obtain ⟨_, _, _, hk, _⟩ := h
  exact hk
theorem Ms.mono (h : Ms w0 W g vars most full ns nb v9 v10 v11 v12 ids) (hn : nb ≤ nb2) : Ms w0 W g vars most full ns nb2 v9 v10 v11 v12 ids :=
  ⟨h.b, h.s.mono (fun _ hk => hk) hn, h.n, h.t, h.o, h.y, h.l⟩
/-- Where the numbers and the tables stand. -/
theorem Ms.at_ (h : Ms w0 W g vars most full ns nb v9 v10 v11 v12 ids) {j : Nat} (hj : j < ids.length) : ∃ (m : Nat) (ad9 : Addr) (c9 : Nat) (ad10 : Addr) (c10 : Nat) (A : Option Addr) (cc : Nat), m < ns.length ∧ v9 = .slice (some ad9) ids.length c9 ∧ v10 = .slice (some ad10) ids.length c10 ∧ (tab vars (sem ns m)).length ≤ cc ∧
    ∀ W', Kept W W' (setB w0 W) → W'.cell? (ad9.add j) = some (.int .i64 (m : Int)) ∧ W'.cell? (ad10.add j) = some (.slice A (tab vars (sem ns m)).length cc) ∧ Kd.bool.C W' A (tab vars (sem ns m)).length (tab vars (sem ns m)) := by
  obtain ⟨ad9, c9, e9, _, h9⟩ := h.num hj
  obtain ⟨ad10, c10, A, cc, e10, _, hl, h10⟩ := h.tabl hj
  exact ⟨ids[j], ad9, c9, ad10, c10, A, cc, h.l _ (List.getElem_mem hj), e9, e10, hl, fun W' hk => ⟨h9 W' hk, (h10 W' hk).1, (h10 W' hk).2⟩⟩
/-- What an act comes to: a number and its table, or none and there is no room. -/
def Fin (w0 W : World) (g vars most : Nat) (full : Bool) (ns : List Nd) (nb K : Nat) (v9 v10 v11 v12 : Value) (ids : List Nat) (v18 v19 : Value) : Prop :=
  ∃ dd : List Nd, (ns ++ dd).length ≤ ns.length + K ∧
    ((∃ m : Nat, v18 = .int .i64 (m : Int) ∧ m < (ns ++ dd).length ∧ Kd.R Kd.bool 4 W w0.heap.size (fun _ => True) v19 (tab vars (sem (ns ++ dd) m)) ∧ Ms w0 W g vars most full (ns ++ dd) nb v9 v10 v11 v12 ids) ∨
     (v18 = .int .i64 (-1) ∧ most ≤ (ns ++ dd).length ∧ Ms w0 W g vars most true (ns ++ dd) nb v9 v10 v11 v12 ids))
theorem Put.fin {val v19 : Value} (h : Put w0 W g vars most full ns nb K F v9 v10 v11 v12 ids val) (hr : Kd.R Kd.bool 4 W w0.heap.size (fun _ => True) v19 (tab vars G)) (hG : ∀ x, G x = F x) (hK : K ≤ K2) (hn : nb ≤ nb2) : Fin w0 W g vars most full ns nb2 K2 v9 v10 v11 v12 ids val v19 := by
  obtain ⟨dd, h1, h2⟩ := h
  refine ⟨dd, by omega, ?_⟩
  rcases h2 with ⟨m, e, hm, hs, h3⟩ | ⟨e, hm, h3⟩
  · have hg : G = sem (ns ++ dd) m := by funext x; rw [hs x, hG x]
    exact .inl ⟨m, e, hm, hg ▸ hr, h3.mono hn⟩
  · exact .inr ⟨e, hm, h3.mono hn⟩
end
end Go.Proofs.Ytialbhkamlfccaa.PA
/- made: how it starts. No condition but the hypotheses that each theorem states. -/
namespace Go.Proofs.Ytialbhkamlfccaa.PA
open Go.RowKit Go.Proofs.YtialbhkamlfccaaW.PrintWords Go.Proofs.YtialbhkamlfccaaW.PrintLast Go.Proofs.YtialbhkamlfccaaW.PrintMore Go.Proofs.Ytialbhkamlfccaa.Mp Go.Proofs.Ytialbhkamlfccaa.Dia
set_option linter.unusedVariables false
set_option linter.unusedSimpArgs false
/-- How many nodes an act may make. -/
def pp (vars : Nat) : Nat := kk vars + kk vars + 1
/-- What the functions made come to. -/
def Mdo (w0 : World) (g vars most : Nat) (full : Bool) (ns : List Nd) (nb : Nat) (e : Ending) (w' : World) : Prop :=
  ∃ (v9 v10 v11 v12 : Value) (ids : List Nat) (ns' : List Nd) (full' : Bool), e = .returned (.tuple #[v9, v10, .bool true]) ∧ Aside0 (Ms w0 w' g vars most full' ns' (nb + 40 * pp vars) v9 v10 v11 v12 ids) ∧ Aside0 (2 ≤ ids.length ∧ ids.length ≤ 42 ∧ ns'.length ≤ ns.length + 40 * pp vars ∧ (full' = full ∨ most ≤ ns'.length))
theorem pp_le {vars : Nat} (h : vars ≤ 5) : pp vars ≤ 63 := by
  unfold pp kk
  have := Nat.pow_le_pow_right (show 0 < 2 by decide) h
  omega
theorem room {nb i vars : Nat} (h : nb + 40 * pp vars ≤ 1000000000) (hi : i < 40) : nb + i * pp vars + pp vars ≤ 1000000000 := by
  have h1 := Nat.mul_le_mul_right (pp vars) (show i + 1 ≤ 40 by omega)
  rw [Nat.add_mul, Nat.one_mul] at h1
  omega
theorem room1 {nb i vars : Nat} (h : nb + 40 * pp vars ≤ 1000000000) (hi : i < 40) : nb + i * pp vars + kk vars ≤ 1000000000000 := by
  have h1 := room h hi
  have h2 : kk vars ≤ pp vars := by unfold pp; omega
  omega
theorem room2 {nb i vars : Nat} (h : nb + 40 * pp vars ≤ 1000000000) (hi : i < 40) : nb + i * pp vars + kk vars + kk vars ≤ 1000000000000 := by
  have h1 := room h hi
  have h2 : kk vars + kk vars ≤ pp vars := by unfold pp; omega
  omega
theorem cells2 {W : World} {b t : Nat} {x y : Value} (h : W.heap[b]? = some (.cells #[x, y] t (0, 0))) : W.cell? ⟨b, 0, none⟩ = some x ∧ W.cell? ⟨b, 1, none⟩ = some y :=
  ⟨(cell_of_row _ _ 0 _ _ _ h).trans rfl, (cell_of_row _ _ 1 _ _ _ h).trans rfl⟩
theorem inner_new {w2 : World} {base m : Nat} {v : Value} {xs : List Bool} {o : Obj} (h : Kd.R Kd.bool 4 w2 base (fun _ => True) v xs) : Kd.bool.R 4 (w2.alloc o) base (fun k => True ∧ some k ≠ (Value.slice (some ⟨w2.heap.size, 0, none⟩) 2 m).ownBlock) v xs := by
  refine Kd.R_mono (Kd.R_alloc (Kd.R_bound h) o) (fun k hk => ⟨trivial, fun e => ?_⟩)
  have e2 : k = w2.heap.size := by simpa [Value.ownBlock] using e
  have := hk.2.2.1
  omega
theorem Ms.start {w0 w w1 w2 : World} {g vars most nb : Nat} {full : Bool} {ns : List Nd} {v11 v12 : Value} (hb : Below w0.heap.size w0 w) (h : BS w0 w (setB w0 w) g vars most full ns nb)
    (hb1 : Below (w.alloc (.cells #[.int .i64 0, .int .i64 1] 3)).heap.size (w.alloc (.cells #[.int .i64 0, .int .i64 1] 3)) w1) (hr1 : Kd.R Kd.bool 4 w1 (w.alloc (.cells #[.int .i64 0, .int .i64 1] 3)).heap.size (fun _ => True) v11 (tab vars (fun _ => false)))
    (hb2 : Below w1.heap.size w1 w2) (hr2 : Kd.R Kd.bool 4 w2 w1.heap.size (fun _ => True) v12 (tab vars (fun _ => true))) :
    Ms w0 (w2.alloc (.cells #[v11, v12] 31)) g vars most full ns nb (.slice (some ⟨w.heap.size, 0, none⟩) 2 2) (.slice (some ⟨w2.heap.size, 0, none⟩) 2 2) v11 v12 [0, 1] := by
  have s1 : w0.heap.size ≤ (w.alloc (.cells #[.int .i64 0, .int .i64 1] 3)).heap.size := by have := hb.size; simp; omega
  have s2 : w0.heap.size ≤ w1.heap.size := Nat.le_trans s1 hb1.size
  have s3 : w0.heap.size ≤ w2.heap.size := Nat.le_trans s2 hb2.size
  have hlen := h.inv.len
  have hn : Kd.R (Kd.int .i64) 3 (w.alloc (.cells #[.int .i64 0, .int .i64 1] 3)) w0.heap.size (fun _ => True) (.slice (some ⟨w.heap.size, 0, none⟩) 2 2) [0, 1] :=
    Kd.R_of_own (own_lit w w0.heap.size 3 .i64 [0, 1] hb.size (by decide)) (fun _ _ => trivial)
  have r1 := Kd.R_below (Kd.R_lower hr1 s1) hb2
  have r2 := Kd.R_lower hr2 s2
  have e1 : sem ns 0 = fun _ => false := rfl
  have e2 : sem ns 1 = fun _ => true := rfl
  refine ⟨?_, ?_, Kd.R_alloc (Kd.R_below (Kd.R_below hn hb1) hb2) _, ?_, Kd.R_alloc r1 _, Kd.R_alloc r2 _, fun i hi => ?_⟩
  · exact below_then (below_then (below_then (below_then hb hb.size (below_alloc (Below.refl _ _) _)) s1 hb1) s2 hb2) s3 (below_alloc (Below.refl _ _) _)
  · exact ((((h.alloc _).below hb1).below hb2).alloc _).typed
  · show Kd.R (Kd.slice 4 Kd.bool) 31 _ _ _ _ [tab vars (sem ns 0), tab vars (sem ns 1)]
    rw [e1, e2]
    obtain ⟨A1, c1, ea⟩ := Kd.R_slice r1
    obtain ⟨A2, c2, eb⟩ := Kd.R_slice r2
    have hown := World.ownsRow_lit (base := w0.heap.size) (e := 31) (size := 1) w2 #[v11, v12] 2 s3 (by decide) rfl
    refine ⟨fun _ _ => trivial, _, hown, rfl, fun j p hj => ?_⟩
    match j, hj with
    | 0, hj =>
      simp at hj
      subst hj
      exact ⟨v11, rfl, inner_new r1⟩
    | 1, hj =>
      simp at hj
      subst hj
      exact ⟨v12, rfl, inner_new r2⟩
    | j + 2, hj => simp at hj
  · rcases List.mem_cons.mp hi with rfl | hi
    · omega
    · rcases List.mem_cons.mp hi with rfl | hi
      · omega
      · cases hi
section
variable {w0 W : World} {g vars most nb : Nat} {full : Bool} {ns : List Nd} {v9 v10 v11 v12 : Value} {ids : List Nat}
theorem Ms.at3 (h : Ms w0 W g vars most full ns nb v9 v10 v11 v12 ids) {ra rb rc : Nat} (ha : ra < ids.length) (hb : rb < ids.length) (hc : rc < ids.length) :
    ∃ (ad9 : Addr) (c9 : Nat) (ad10 : Addr) (c10 ma : Nat) (Aa : Option Addr) (ca mb : Nat) (Ab : Option Addr) (cb mc : Nat) (Ac : Option Addr) (cc : Nat), v9 = .slice (some ad9) ids.length c9 ∧ v10 = .slice (some ad10) ids.length c10 ∧ (ma < ns.length ∧ mb < ns.length ∧ mc < ns.length) ∧
      ((tab vars (sem ns ma)).length ≤ ca ∧ (tab vars (sem ns mb)).length ≤ cb ∧ (tab vars (sem ns mc)).length ≤ cc) ∧
      ∀ W', Kept W W' (setB w0 W) → (W'.cell? (ad9.add ra) = some (.int .i64 (ma : Int)) ∧ W'.cell? (ad9.add rb) = some (.int .i64 (mb : Int)) ∧ W'.cell? (ad9.add rc) = some (.int .i64 (mc : Int)) ∧
        W'.cell? (ad10.add ra) = some (.slice Aa (tab vars (sem ns ma)).length ca) ∧ W'.cell? (ad10.add rb) = some (.slice Ab (tab vars (sem ns mb)).length cb) ∧ W'.cell? (ad10.add rc) = some (.slice Ac (tab vars (sem ns mc)).length cc)) ∧
        Kd.bool.C W' Aa (tab vars (sem ns ma)).length (tab vars (sem ns ma)) ∧ Kd.bool.C W' Ab (tab vars (sem ns mb)).length (tab vars (sem ns mb)) ∧ Kd.bool.C W' Ac (tab vars (sem ns mc)).length (tab vars (sem ns mc)) := by
  obtain ⟨ma, ad9, c9, ad10, c10, Aa, ca, hma, e9, e10, hla, hca⟩ := h.at_ ha
  obtain ⟨mb, ad9b, c9b, ad10b, c10b, Ab, cb, hmb, e9b, e10b, hlb, hcb⟩ := h.at_ hb
  obtain ⟨mc, ad9c, c9c, ad10c, c10c, Ac, cc, hmc, e9c, e10c, hlc, hcc⟩ := h.at_ hc
  have x1 : ad9 = ad9b := by rw [e9] at e9b; injection e9b with e; injection e
  have x2 : ad10 = ad10b := by rw [e10] at e10b; injection e10b with e; injection e
  have x3 : ad9 = ad9c := by rw [e9] at e9c; injection e9c with e; injection e
  have x4 : ad10 = ad10c := by rw [e10] at e10c; injection e10c with e; injection e
  subst x1 x2 x3 x4
  exact ⟨ad9, c9, ad10, c10, ma, Aa, ca, mb, Ab, cb, mc, Ac, cc, e9, e10, ⟨hma, hmb, hmc⟩, ⟨hla, hlb, hlc⟩, fun W' hk => ⟨⟨(hca W' hk).1, (hcb W' hk).1, (hcc W' hk).1, (hca W' hk).2.1, (hcb W' hk).2.1, (hcc W' hk).2.1⟩, (hca W' hk).2.2, (hcb W' hk).2.2, (hcc W' hk).2.2⟩⟩
theorem Ms.consts {A11 A12 : Option Addr} {c11 c12 n11 n12 : Nat} (h : Ms w0 W g vars most full ns nb v9 v10 (.slice A11 n11 c11) (.slice A12 n12 c12) ids) :
    (tab vars (fun _ => false)).length ≤ c11 ∧ (tab vars (fun _ => true)).length ≤ c12 ∧ ∀ W', Kept W W' (setB w0 W) → Kd.bool.C W' A11 (tab vars (fun _ => false)).length (tab vars (fun _ => false)) ∧ Kd.bool.C W' A12 (tab vars (fun _ => true)).length (tab vars (fun _ => true)) := by
  have h1 := Kd.R_reads' h.o
  have h2 := Kd.R_reads' h.y
  exact ⟨by have := h1.1; have := h1.2.1; omega, by have := h2.1; have := h2.2.1; omega, fun W' hk => ⟨(Kd.R_reads' (row_set h.o (by decide) hk)).2.2, (Kd.R_reads' (row_set h.y (by decide) hk)).2.2⟩⟩
end
section
variable {w0 W w1 w2 : World} {g vars most nb m : Nat} {full : Bool} {ns : List Nd} {v9 v10 v11 v12 v9' v10' v19 : Value} {ids : List Nat}
theorem Ms.app9 (h : Ms w0 W g vars most full ns nb v9 v10 v11 v12 ids) (hr : Kd.R Kd.bool 4 W w0.heap.size (fun _ => True) v19 (tab vars (sem ns m))) (hg : W.grownBy w1 v9.ownBlock) :
    BS w0 w1 (setB w0 w1) g vars most full ns nb ∧ Kd.R (Kd.slice 4 Kd.bool) 31 w1 w0.heap.size (fun _ => True) v10 (ids.map (fun i => tab vars (sem ns i))) ∧ Kd.R Kd.bool 4 w1 w0.heap.size (fun _ => True) v11 (tab vars (fun _ => false)) ∧ Kd.R Kd.bool 4 w1 w0.heap.size (fun _ => True) v12 (tab vars (fun _ => true)) ∧ Kd.R Kd.bool 4 w1 w0.heap.size (fun _ => True) v19 (tab vars (sem ns m)) :=
  ⟨h.s.row hg (Kd.R_typed h.n) (by decide), Kd.R_over' (v := v9) h.t (Kd.R_typed h.n) (by decide) hg, Kd.R_over' (v := v9) h.o (Kd.R_typed h.n) (by decide) hg, Kd.R_over' (v := v9) h.y (Kd.R_typed h.n) (by decide) hg, Kd.R_over' (v := v9) hr (Kd.R_typed h.n) (by decide) hg⟩
theorem Ms.more (hl : ∀ i ∈ ids, i < ns.length) (hm : m < ns.length) (h : BS w0 w1 (setB w0 w1) g vars most full ns nb ∧ Kd.R (Kd.slice 4 Kd.bool) 31 w1 w0.heap.size (fun _ => True) v10 (ids.map (fun i => tab vars (sem ns i))) ∧ Kd.R Kd.bool 4 w1 w0.heap.size (fun _ => True) v11 (tab vars (fun _ => false)) ∧ Kd.R Kd.bool 4 w1 w0.heap.size (fun _ => True) v12 (tab vars (fun _ => true)) ∧ Kd.R Kd.bool 4 w1 w0.heap.size (fun _ => True) v19 (tab vars (sem ns m)))
    (hn : Kd.R (Kd.int .i64) 3 w1 w0.heap.size (fun _ => True) v9' (ids.map (fun i : Nat => (i : Int)) ++ [(m : Int)])) (hb : Below w0.heap.size w0 w2)
    (ht : Kd.R (Kd.slice 4 Kd.bool) 31 w2 w0.heap.size (fun _ => True) v10' (ids.map (fun i => tab vars (sem ns i)) ++ [tab vars (sem ns m)])) (hg : w1.grownBy w2 v10.ownBlock) : Ms w0 w2 g vars most full ns nb v9' v10' v11 v12 (ids ++ [m]) := by
  obtain ⟨hs, ht0, ho, hy, _⟩ := h
  refine ⟨hb, hs.row hg (Kd.R_typed ht0) (by decide), ?_, ?_, Kd.R_over' (v := v10) ho (Kd.R_typed ht0) (by decide) hg, Kd.R_over' (v := v10) hy (Kd.R_typed ht0) (by decide) hg, fun i hi => ?_⟩
  · rw [List.map_append]
    exact Kd.R_over' (v := v10) hn (Kd.R_typed ht0) (by decide) hg
  · rw [List.map_append]
    exact ht
  · rcases List.mem_append.mp hi with h1 | h1
    · exact hl i h1
    · rw [List.mem_singleton.mp h1]
      exact hm
end
end Go.Proofs.Ytialbhkamlfccaa.PA
