/- The set in a world; has, Full, part, known, put. No condition but the hypotheses that each theorem states. -/
import Derived.Test.YtialbhkamlfccaaPAx0
import Derived.Test.YtialbhkamlfccaaM2
import Derived.Test.YtialbhkamlfccaaM1
import Derived.Deep.RegionHeld3
/- The set as it stands in a world. No condition but the hypotheses that each theorem states. -/
namespace Go.Proofs.Ytialbhkamlfccaa.PA
open Go.RowKit Go.Proofs.YtialbhkamlfccaaW.PrintWords Go.Proofs.YtialbhkamlfccaaW.PrintLast Go.Proofs.YtialbhkamlfccaaW.PrintMore Go.Proofs.Ytialbhkamlfccaa.Mp Go.Proofs.Ytialbhkamlfccaa.Dia
set_option linter.unusedVariables false
set_option linter.unusedSimpArgs false
/-- What a call keeps: all but the blocks of S and what is new since; it reads and writes nothing outside. -/
def Kept (w W : World) (S : Nat → Prop) : Prop := w.heap.size ≤ W.heap.size ∧ (∀ i, i < w.heap.size → ¬ S i → W.heap[i]? = w.heap[i]?) ∧ W.os = w.os ∧ W.tape = w.tape ∧ W.output = w.output
section
variable {w W W2 : World} {S S2 S' : Nat → Prop}
theorem Kept.old (h : Kept w W S) : Go.Proofs.YtialbhkamlfccaaW.PrintWords.Kept w W S := ⟨h.1, h.2.1⟩
theorem Kept.refl (w : World) (S : Nat → Prop) : Kept w w S := ⟨Nat.le_refl _, fun _ _ _ => rfl, rfl, rfl, rfl⟩
theorem Kept.of_below (h : Below w.heap.size w W) (S : Nat → Prop) : Kept w W S := ⟨h.size, fun i hi _ => h.block i hi, h.os, h.tape, h.output⟩
theorem Kept.to_below (h : Kept w W S) (hS : ∀ k, S k → w.heap.size ≤ k) : Below w.heap.size w W := ⟨h.2.2.1, h.2.2.2.1, h.2.2.2.2, h.1, fun k hk => h.2.1 k hk (fun h2 => by have := hS k h2; omega)⟩
theorem Kept.mono (h : Kept w W S) (hs : ∀ k, S k → S' k) : Kept w W S' := ⟨h.1, fun i hi hn => h.2.1 i hi (fun hk => hn (hs i hk)), h.2.2⟩
theorem Kept.then_ (h : Kept w W S) (k : Kept W W2 S2) (hs : ∀ k, S2 k → S k ∨ w.heap.size ≤ k) : Kept w W2 S :=
  ⟨Nat.le_trans h.1 k.1, fun i hi hn => (k.2.1 i (Nat.lt_of_lt_of_le hi h.1) (fun h2 => (hs i h2).elim hn (fun h3 => by omega))).trans (h.2.1 i hi hn), k.2.2.1.trans h.2.2.1, k.2.2.2.1.trans h.2.2.2.1, k.2.2.2.2.trans h.2.2.2.2⟩
theorem Kept.of_grown {row : Option Nat} (hg : W.grownBy W2 row) (h : Kept w W S) (hr : ∀ k, row = some k → S k ∨ w.heap.size ≤ k) : Kept w W2 S :=
  h.then_ (S2 := fun k => row = some k) ⟨hg.size, fun i hi hn => hg.block i hi (fun he => hn he.symm), hg.os, hg.tape, hg.output⟩ hr
theorem Kept.below (h : Kept w W S) (hb : Below W.heap.size W W2) : Kept w W2 S := h.then_ (Kept.of_below hb (fun _ => False)) (fun _ hk => hk.elim)
theorem Kept.alloc (h : Kept w W S) (o : Obj) : Kept w (W.alloc o) S := h.below (below_alloc (Below.refl _ _) o)
theorem Kept.drew (h : Kept w W S) : Kept w W.drew S := h
theorem Kept.setCell (h : Kept w W S) {p : Addr} (hp : S p.block ∨ w.heap.size ≤ p.block) (u : Value) : Kept w (W.setCell p u) S :=
  h.then_ (S2 := fun k => k = p.block) ⟨by simp [World.setCell], fun i _ hn => Below.heap_setCell W p u i hn, rfl, rfl, rfl⟩ (fun k hk => by rw [hk]; exact hp)
theorem blk_kept {g : Nat} {o : Obj} (hb : W.heap[g]? = some o) (hk : Kept W W2 S) (hne : ¬ S g) : W2.heap[g]? = some o := (hk.2.1 g (blk_lt hb) hne).trans hb
theorem cell_kept {a : Addr} {v : Value} (hc : W.cell? a = some v) (hk : Kept W W2 S) (hne : ¬ S a.block) : W2.cell? a = some v := Go.Proofs.YtialbhkamlfccaaW.PrintWords.cell_kept hc hk.old hne
end
/-- A node's three numbers. -/
abbrev k54 : Kd Nd := Kd.iso (Kd.pair (Kd.int .i64) (Kd.pair (Kd.int .i64) (Kd.int .i64))) (fun x : Nd => ((x.v : Int), (x.lo : Int), (x.hi : Int)))
theorem info54 : (Try.prog.info? 54).map (fun i => (i.zero, i.size, i.bytes)) = some (some (.agg #[.int .i64 0, .int .i64 0, .int .i64 0]), 3, 24) := by kernel_rfl
/-- 'where': the places of the nodes. -/
def whereOf (ns : List Nd) (a b c : Int) : Option Int :=
  Option.map (fun i : Nat => (i : Int)) ((List.range ns.length).find? (fun i : Nat => decide (2 ≤ i) && decide (ns[i]? = some (⟨a.toNat, b.toNat, c.toNat⟩ : Nd)) && decide (0 ≤ a) && decide (0 ≤ b) && decide (0 ≤ c)))
/-- 'asked': what is in it is right. -/
def AskedOk (ns : List Nd) (f : Int → Int → Int → Option Int) : Prop :=
  ∀ a b c n, f a b c = some n → ∃ i j k m : Nat, a = i ∧ b = j ∧ c = k ∧ n = m ∧ i < ns.length ∧ j < ns.length ∧ k < ns.length ∧ m < ns.length ∧ ∀ x, sem ns m x = if sem ns i x then sem ns j x else sem ns k x
/-- The set: its struct at g, its two maps, its row of nodes, all in blocks of ok; nb: how often 'asked' was written at most. -/
structure BS (w0 W : World) (ok : Nat → Prop) (g vars most : Nat) (full : Bool) (ns : List Nd) (nb : Nat) : Prop where
  inv : Inv vars ns
  small : vars < 1000000 ∧ most < 1000000000 ∧ ns.length ≤ most
  ge : w0.heap.size ≤ g
  at_ : ∃ (v : Value) (mw ma n1 n2 : Nat) (D1 D2 : DataW Unit) (f : Int → Int → Int → Option Int),
    W.heap[g]? = some (.cells #[v, .map (some mw), .map (some ma), .int .i64 vars, .int .i64 most, .bool full] 52 (0, 0)) ∧
    Kd.R k54 54 W w0.heap.size (fun k => ok k ∧ k ≠ g ∧ k ≠ mw ∧ k ≠ ma) v ns ∧
    (w0.heap.size ≤ mw ∧ w0.heap.size ≤ ma ∧ mw ≠ ma ∧ g ≠ mw ∧ g ≠ ma ∧ ok g ∧ ok mw ∧ ok ma) ∧
    W.ownsMap Try.prog 54 (plainElem Try.prog 3) mw n1 D1 ∧ W.ownsMap Try.prog 69 (plainElem Try.prog 3) ma n2 D2 ∧
    Reads D1 (whereOf ns) ∧ Reads D2 f ∧ AskedOk ns f ∧ n1 ≤ ns.length ∧ n2 ≤ nb
end Go.Proofs.Ytialbhkamlfccaa.PA
/- has, Full: what the calls come to. No condition but the hypotheses that each theorem states. -/
namespace Go.Proofs.Ytialbhkamlfccaa.PA
open Go.RowKit Go.Proofs.YtialbhkamlfccaaW.PrintWords Go.Proofs.YtialbhkamlfccaaW.PrintLast Go.Proofs.YtialbhkamlfccaaW.PrintMore Go.Proofs.Ytialbhkamlfccaa.Mp Go.Proofs.Ytialbhkamlfccaa.Dia
set_option linter.unusedVariables false
set_option linter.unusedSimpArgs false
/-- The struct's cells. -/
theorem BS.cells {w0 W : World} {ok : Nat → Prop} {nb g vars most : Nat} {full : Bool} {ns : List Nd} (h : BS w0 W ok g vars most full ns nb) :
    ∃ (A : Option Addr) (c mw ma : Nat), W.heap[g]? = some (.cells #[.slice A ns.length c, .map (some mw), .map (some ma), .int .i64 vars, .int .i64 most, .bool full] 52 (0, 0)) ∧ Kd.C k54 W A ns.length ns ∧ ns.length ≤ c := by
  obtain ⟨v, mw, ma, n1, n2, D1, D2, f, hb, hR, _⟩ := h.at_
  obtain ⟨A, c, rfl⟩ := Kd.R_slice hR
  exact ⟨A, c, mw, ma, hb, (Kd.R_reads' hR).2.2, (Kd.R_reads' hR).2.1⟩
set_option maxHeartbeats 8000000 in
set_option maxRecDepth 100000 in
theorem bdd_has.calls (a : Int) (g vars most : Nat) (ok : Nat → Prop) (nb : Nat) (full : Bool) (ns : List Nd) (w0 w : World) (h : BS w0 w ok g vars most full ns nb) :
    Calls Try.prog 32 #[.pointer (some ⟨g, 0, none⟩), .int .i64 a] w fun e w' => e = .returned (.bool (decide (0 ≤ a) && decide (a < (ns.length : Int)))) ∧ w' = w := by
  obtain ⟨A, c, mw, ma, hb, hC, hc⟩ := h.cells
  have z0 : w.cell? ⟨g, 0, none⟩ = some (.slice A ns.length c) := (cell_of_row _ _ 0 _ _ _ hb).trans rfl
  clear hb hC hc
  by_cases h0 : 0 ≤ a
  · by_cases h1 : a < (ns.length : Int)
    · have q0 : decide (0 ≤ a) = true := decide_eq_true h0
      have q1 : decide (a < (ns.length : Int)) = true := decide_eq_true h1
      rw [q0, q1]
      clear h0 h1 h
      go_enter Try.func32, Try.ntmps32
      go_wp2_with fail
      go_ret
      exact ⟨rfl, rfl⟩
    · have q0 : decide (0 ≤ a) = true := decide_eq_true h0
      have q1 : decide (a < (ns.length : Int)) = false := decide_eq_false h1
      rw [q0, q1]
      clear h0 h1 h
      go_enter Try.func32, Try.ntmps32
      go_wp2_with fail
      go_ret
      exact ⟨rfl, rfl⟩
  · have q0 : decide (0 ≤ a) = false := decide_eq_false h0
    rw [q0]
    clear h0 h
    go_enter Try.func32, Try.ntmps32
    go_wp2_with fail
    go_ret
    exact ⟨rfl, rfl⟩
set_option maxHeartbeats 8000000 in
set_option maxRecDepth 100000 in
theorem bdd_Full.calls (g vars most : Nat) (ok : Nat → Prop) (nb : Nat) (full : Bool) (ns : List Nd) (w0 w : World) (h : BS w0 w ok g vars most full ns nb) :
    Calls Try.prog 9 #[.pointer (some ⟨g, 0, none⟩)] w fun e w' => e = .returned (.bool full) ∧ w' = w := by
  obtain ⟨A, c, mw, ma, hb, hC, hc⟩ := h.cells
  have z5 : w.cell? ⟨g, 5, none⟩ = some (.bool full) := (cell_of_row _ _ 5 _ _ _ hb).trans rfl
  clear hb hC hc h
  go_enter Try.func9, Try.ntmps9
  go_wp2_with fail
  go_ret
  exact ⟨rfl, rfl⟩
end Go.Proofs.Ytialbhkamlfccaa.PA
/- part: what the call comes to. No condition but the hypotheses that each theorem states. -/
namespace Go.Proofs.Ytialbhkamlfccaa.PA
open Go.RowKit Go.Proofs.YtialbhkamlfccaaW.PrintWords Go.Proofs.YtialbhkamlfccaaW.PrintLast Go.Proofs.YtialbhkamlfccaaW.PrintMore Go.Proofs.Ytialbhkamlfccaa.Mp Go.Proofs.Ytialbhkamlfccaa.Dia
set_option linter.unusedVariables false
set_option linter.unusedSimpArgs false
theorem k54_open {w : World} {x : Nd} {cs : List Value} (h : k54.K w x cs) : cs = [.int .i64 x.v, .int .i64 x.lo, .int .i64 x.hi] := by
  obtain ⟨_, _, rfl, rfl, _, _, rfl, rfl, rfl⟩ := h
  exact rfl
theorem at_Nd {w : World} {A : Option Addr} {n : Nat} {xs : List Nd} (h : Kd.C k54 w A n xs) (i : Nat) (hi : i < n) (hx : i < xs.length) : ∃ ad, A = some ad ∧ w.cell? (ad.add (i * 3)) = some (.int .i64 (xs[i].v : Int)) ∧ w.cell? ⟨(ad.add (i * 3)).block, (ad.add (i * 3)).off + 1, none⟩ = some (.int .i64 (xs[i].lo : Int)) ∧ w.cell? ⟨(ad.add (i * 3)).block, (ad.add (i * 3)).off + 2, none⟩ = some (.int .i64 (xs[i].hi : Int)) := by
  obtain ⟨ad, c, e, _, hK, hc0⟩ := Kd.C_get h ⟨0, 0, 0⟩ (i : Int) (by omega) (by omega)
  have hg : xs.getD (i : Int).toNat ⟨0, 0, 0⟩ = xs[i] := by rw [Int.toNat_natCast, List.getD_eq_getElem?_getD, List.getElem?_eq_getElem hx]; rfl
  rw [hg] at hK
  have hc : ∀ j u, c[j]? = some u → w.cell? (ad.add (i * 3 + j)) = some u := hc0
  obtain rfl := k54_open hK
  exact ⟨ad, e, hc 0 _ rfl, by rw [← add_field _ _ 1 (by omega)]; exact hc 1 _ rfl, by rw [← add_field _ _ 2 (by omega)]; exact hc 2 _ rfl⟩
set_option maxHeartbeats 8000000 in
set_option maxRecDepth 100000 in
theorem bdd_part.calls (a v : Nat) (b : Bool) (g vars most : Nat) (ok : Nat → Prop) (nb : Nat) (full : Bool) (ns : List Nd) (w0 w : World) (h : BS w0 w ok g vars most full ns nb) (ha : a < ns.length) :
    Calls Try.prog 38 #[.pointer (some ⟨g, 0, none⟩), .int .i64 (a : Int), .int .i64 (v : Int), .bool b] w fun e w' => e = .returned (.int .i64 (Dia.part ns a v b : Int)) ∧ Below w.heap.size w w' := by
  obtain ⟨A, c, mw, ma, hb, hC, hc⟩ := h.cells
  have z0 : w.cell? ⟨g, 0, none⟩ = some (.slice A ns.length c) := (cell_of_row _ _ 0 _ _ _ hb).trans rfl
  obtain ⟨ad, rfl, c0, c1, c2⟩ := at_Nd hC a ha ha
  have hp : Dia.part ns a v b = if ns[a].v = v then (if b then ns[a].hi else ns[a].lo) else a := by unfold Dia.part; rw [List.getElem?_eq_getElem ha]
  rw [hp]
  generalize ns[a] = n at c0 c1 c2 hp ⊢
  have u54 := Try.underlying54
  have i1 : ((a : Int) < (ns.length : Int)) = True := eq_true (by omega)
  have i0 : (0 ≤ (a : Int)) = True := eq_true (by omega)
  have i2 : (a < ns.length) = True := eq_true ha
  have HB := Aside0.mk (Below.refl w.heap.size w)
  clear hb hC hc hp h ha
  by_cases hv : n.v = v
  · have q3 : ((n.v : Int) != (v : Int)) = false := by rw [hv]; simp
    rw [if_pos hv]
    clear hv
    cases b with
    | true =>
      rw [if_pos rfl]
      go_enter Try.func38, Try.ntmps38
      go_wp2_with fail
      go_ret
      exact ⟨rfl, below_alloc HB.out _⟩
    | false =>
      rw [if_neg (by decide)]
      go_enter Try.func38, Try.ntmps38
      go_wp2_with fail
      go_ret
      exact ⟨rfl, below_alloc HB.out _⟩
  · have q3 : ((n.v : Int) != (v : Int)) = true := by simp; omega
    rw [if_neg hv]
    clear hv
    go_enter Try.func38, Try.ntmps38
    go_wp2_with fail
    go_ret
    exact ⟨rfl, below_alloc HB.out _⟩
end Go.Proofs.Ytialbhkamlfccaa.PA
/- known: what the call comes to. No condition but the hypotheses that each theorem states. -/
namespace Go.Proofs.Ytialbhkamlfccaa.PA
open Go.RowKit Go.Proofs.YtialbhkamlfccaaW.PrintWords Go.Proofs.YtialbhkamlfccaaW.PrintLast Go.Proofs.YtialbhkamlfccaaW.PrintMore Go.Proofs.Ytialbhkamlfccaa.Mp Go.Proofs.Ytialbhkamlfccaa.Dia
set_option linter.unusedVariables false
set_option linter.unusedSimpArgs false
def isNum (ns : List Nd) (a : Int) : Bool := decide (0 ≤ a) && decide (a < (ns.length : Int))
set_option maxHeartbeats 8000000 in
set_option maxRecDepth 100000 in
theorem bdd_known.calls (A : Option Addr) (c : Nat) (l : List Int) (g vars most : Nat) (ok : Nat → Prop) (nb : Nat) (full : Bool) (ns : List Nd) (w0 w : World) (h : BS w0 w ok g vars most full ns nb) (hC : Kd.C (Kd.int .i64) w A l.length l) (hl : l.length < 1000) :
    Calls Try.prog 35 #[.pointer (some ⟨g, 0, none⟩), .slice A l.length c] w fun e w' => e = .returned (.bool (l.all (isNum ns))) ∧ w' = w := by
  have HS := Aside0.mk h
  have HC := Aside0.mk hC
  have HL := Aside0.mk hl
  clear h hC hl
  go_enter Try.func35, Try.ntmps35
  go_wp2_with fail
  go_loopg [6, 9] (l.length + 1) (fun kq v6 v9 w' => ∃ i : Nat, v9 = .int .i64 (i : Int) ∧ Aside0 (i + kq = l.length + 1 ∧ i ≤ l.length) ∧ Aside0 ((l.take i).all (isNum ns) = true) ∧ w' = w)
  case atStart => exact ⟨0, rfl, ⟨Nat.zero_add _, Nat.zero_le _⟩, ⟨rfl⟩, rfl⟩
  case round =>
    obtain ⟨i, rfl, HG, HA, rfl⟩ := hrel
    by_cases hi : i < l.length
    · have q1 : ((i : Int) < (l.length : Int)) = True := eq_true (by omega)
      have q3 : (0 ≤ (i : Int)) = True := eq_true (by omega)
      have hw1 := Aside0.mk (show wrap64 ((i : Int) + 1) = ((i + 1 : Nat) : Int) by unfold wrap64; have := HL.out; omega)
      obtain ⟨ad, e, hx⟩ := Kd.at_int HC.out (i : Int) (Int.natCast_nonneg i) (by omega)
      subst e
      have hrd : rd l (i : Int) = l[i] := by unfold rd; rw [Int.toNat_natCast, List.getD_eq_getElem?_getD, List.getElem?_eq_getElem hi]; rfl
      rw [hrd] at hx
      have htk : (l.take (i + 1)).all (isNum ns) = ((l.take i).all (isNum ns) && isNum ns l[i]) := by rw [List.take_succ_eq_append_getElem hi, List.all_append]; simp
      have hfa : isNum ns l[i] = false → l.all (isNum ns) = false := fun hf => by
        rw [List.all_eq_false]
        exact ⟨l[i], List.getElem_mem hi, by simp [hf]⟩
      generalize hz : l[i] = z at hx htk hfa
      have hx0 : wr.cell? (ad.add i) = some (.int .i64 z) := hx
      clear hx
      have HI := Aside0.mk hi
      have HT := Aside0.mk htk
      have HF := Aside0.mk hfa
      clear hi hrd htk hfa hz
      cases hb : isNum ns z with
      | true =>
        have HN := Aside0.mk hb
        clear hb
        go_wp2_with (first | (go_at_call 32; (refine (bdd_has.calls z g vars most ok nb full ns w0 _ HS.out).mono ?_); rintro e w1 ⟨rfl, rfl⟩; rw [show (decide (0 ≤ z) && decide (z < (ns.length : Int))) = true from HN.out]))
        go_roundg (gk - 1)
        case measure => have := HG.out; have := HI.out; omega
        case rel => exact ⟨i + 1, congrArg (Value.int .i64) hw1.out, ⟨by have := HG.out; have := HI.out; omega⟩, ⟨by rw [HT.out, HA.out, HN.out]; rfl⟩, rfl⟩
      | false =>
        have HN := Aside0.mk hb
        clear hb
        go_wp2_with (first | (go_at_call 32; (refine (bdd_has.calls z g vars most ok nb full ns w0 _ HS.out).mono ?_); rintro e w1 ⟨rfl, rfl⟩; rw [show (decide (0 ≤ z) && decide (z < (ns.length : Int))) = false from HN.out]))
        go_ret
        exact ⟨by rw [HF.out HN.out]; rfl, rfl⟩
    · have he : i = l.length := by have := HG.out; omega
      have q1 : ((i : Int) < (l.length : Int)) = False := eq_false (by omega)
      subst he
      go_wp2_with fail
      go_ret
      have hA := HA.out
      rw [List.take_length] at hA
      exact ⟨by rw [hA]; rfl, rfl⟩
end Go.Proofs.Ytialbhkamlfccaa.PA
/- The set stays what it is while other blocks are made. No condition but the hypotheses that each theorem states. -/
namespace Go.Proofs.Ytialbhkamlfccaa.PA
open Go.RowKit Go.Proofs.YtialbhkamlfccaaW.PrintWords Go.Proofs.YtialbhkamlfccaaW.PrintLast Go.Proofs.YtialbhkamlfccaaW.PrintMore Go.Proofs.Ytialbhkamlfccaa.Mp Go.Proofs.Ytialbhkamlfccaa.Dia
set_option linter.unusedVariables false
set_option linter.unusedSimpArgs false
theorem BS.below {w0 W W1 : World} {ok : Nat → Prop} {nb g vars most : Nat} {full : Bool} {ns : List Nd} (h : BS w0 W ok g vars most full ns nb) (hb : Below W.heap.size W W1) : BS w0 W1 ok g vars most full ns nb := by
  obtain ⟨v, mw, ma, n1, n2, D1, D2, f, hbk, hR, hne, h1, h2, r1, r2, r3, r4, r5⟩ := h.at_
  have hg : W.grownBy W1 none := grown_of_below hb none
  exact ⟨h.inv, h.small, h.ge, v, mw, ma, n1, n2, D1, D2, f, (hb.block g (blk_lt hbk)).trans hbk, Kd.R_below hR hb, hne, h1.kept hg (by simp), h2.kept hg (by simp), r1, r2, r3, r4, r5⟩
theorem BS.alloc {w0 W : World} {ok : Nat → Prop} {nb g vars most : Nat} {full : Bool} {ns : List Nd} (h : BS w0 W ok g vars most full ns nb) (o : Obj) : BS w0 (W.alloc o) ok g vars most full ns nb := h.below (below_alloc (Below.refl _ _) o)
/-- 'where' knows a node just where it stands. -/
theorem where_of {vars : Nat} {ns : List Nd} (h : Inv vars ns) {i : Nat} {n : Nd} (hn : ns[i]? = some n) (hi : 2 ≤ i) : whereOf ns n.v n.lo n.hi = some (i : Int) := by
  have hl : i < ns.length := (List.getElem?_eq_some_iff.mp hn).1
  unfold whereOf
  cases hf : (List.range ns.length).find? (fun j : Nat => decide (2 ≤ j) && decide (ns[j]? = some (⟨(n.v : Int).toNat, (n.lo : Int).toNat, (n.hi : Int).toNat⟩ : Nd)) && decide (0 ≤ (n.v : Int)) && decide (0 ≤ (n.lo : Int)) && decide (0 ≤ (n.hi : Int))) with
  | none =>
    have h2 := List.find?_eq_none.mp hf i (by simp; exact hl)
    exact absurd (by simp [hi, hn]) h2
  | some j =>
    have h2 := List.find?_some hf
    simp only [Bool.and_eq_true, decide_eq_true_eq, Int.toNat_natCast] at h2
    have e : j = i := h.one j i n h2.1.1.1.2 hn h2.1.1.1.1 hi
    rw [e]
    rfl
theorem where_some {ns : List Nd} {a b c n : Int} (h : whereOf ns a b c = some n) : ∃ i : Nat, n = i ∧ 2 ≤ i ∧ i < ns.length ∧ 0 ≤ a ∧ 0 ≤ b ∧ 0 ≤ c ∧ ns[i]? = some ⟨a.toNat, b.toNat, c.toNat⟩ := by
  unfold whereOf at h
  obtain ⟨i, hi, rfl⟩ := Option.map_eq_some_iff.mp h
  have h2 := List.find?_some hi
  have h3 := List.mem_of_find?_eq_some hi
  simp only [Bool.and_eq_true, decide_eq_true_eq] at h2
  simp at h3
  exact ⟨i, rfl, h2.1.1.1.1, h3, h2.1.1.2, h2.1.2, h2.2, h2.1.1.1.2⟩
theorem where_none {ns : List Nd} {n : Nd} (h : whereOf ns n.v n.lo n.hi = none) : ∀ i, 2 ≤ i → ns[i]? ≠ some n := by
  intro i hi hn
  have hl : i < ns.length := (List.getElem?_eq_some_iff.mp hn).1
  unfold whereOf at h
  rw [Option.map_eq_none_iff, List.find?_eq_none] at h
  exact absurd (by simp [hi, hn]) (h i (by simp; exact hl))
/-- What is right stays right when nodes are put behind. -/
theorem AskedOk.pre {vars : Nat} {ns : List Nd} (h : Inv vars ns) {f : Int → Int → Int → Option Int} (ha : AskedOk ns f) (e : List Nd) : AskedOk (ns ++ e) f := by
  intro a b c n hf
  obtain ⟨i, j, k, m, h1, h2, h3, h4, li, lj, lk, lm, hs⟩ := ha a b c n hf
  refine ⟨i, j, k, m, h1, h2, h3, h4, by simp; omega, by simp; omega, by simp; omega, by simp; omega, fun x => ?_⟩
  rw [sem_pre h e lm x, sem_pre h e li x, sem_pre h e lj x, sem_pre h e lk x]
  exact hs x
end Go.Proofs.Ytialbhkamlfccaa.PA
/- put: what the call comes to. No condition but the hypotheses that each theorem states. -/
namespace Go.Proofs.Ytialbhkamlfccaa.PA
open Go.RowKit Go.Proofs.YtialbhkamlfccaaW.PrintWords Go.Proofs.YtialbhkamlfccaaW.PrintLast Go.Proofs.YtialbhkamlfccaaW.PrintMore Go.Proofs.Ytialbhkamlfccaa.Mp Go.Proofs.Ytialbhkamlfccaa.Dia
set_option linter.unusedVariables false
set_option linter.unusedSimpArgs false
set_option maxHeartbeats 8000000 in
set_option maxRecDepth 100000 in
theorem put_same (x : Nd) (g vars most : Nat) (ok : Nat → Prop) (nb : Nat) (full : Bool) (ns : List Nd) (w0 w : World) (h : BS w0 w ok g vars most full ns nb) (he : x.lo = x.hi) :
    Calls Try.prog 37 #[.pointer (some ⟨g, 0, none⟩), .agg #[.int .i64 (x.v : Int), .int .i64 (x.lo : Int), .int .i64 (x.hi : Int)]] w fun e w' => e = .returned (.int .i64 (x.lo : Int)) ∧ Below w.heap.size w w' := by
  have q : ((x.lo : Int) = (x.hi : Int)) = True := eq_true (by omega)
  have q2 : decide ((x.lo : Int) = (x.hi : Int)) = true := decide_eq_true (by omega)
  have q3 : ((x.lo : Int) == (x.hi : Int)) = true := by rw [he]; simp
  have q4 : (x.lo = x.hi) = True := eq_true he
  have u54 := Try.underlying54
  have HB := Aside0.mk (below_alloc (Below.refl w.heap.size w) (.cells #[.int .i64 (x.v : Int), .int .i64 (x.lo : Int), .int .i64 (x.hi : Int)] 54))
  clear h he
  go_enter Try.func37, Try.ntmps37
  go_wp2_with fail
  go_ret
  exact ⟨rfl, HB.out⟩
end Go.Proofs.Ytialbhkamlfccaa.PA
/- put, where the node stands already. No condition but the hypotheses that each theorem states. -/
namespace Go.Proofs.Ytialbhkamlfccaa.PA
open Go.RowKit Go.Proofs.YtialbhkamlfccaaW.PrintWords Go.Proofs.YtialbhkamlfccaaW.PrintLast Go.Proofs.YtialbhkamlfccaaW.PrintMore Go.Proofs.Ytialbhkamlfccaa.Mp Go.Proofs.Ytialbhkamlfccaa.Dia
set_option linter.unusedVariables false
set_option linter.unusedSimpArgs false
theorem new_at' {W : World} {o : Obj} : (W.alloc o).heap[W.heap.size]? = some o := heap_alloc_new W o
theorem wf_nat {n : Nat} (h : n < 9223372036854775808) : (Lit.int .i64 (n : Int)).wf = true := by
  simp [Lit.wf, IntKind.min, IntKind.max, IntKind.bits, IntKind.signed]
  omega
set_option maxHeartbeats 8000000 in
set_option maxRecDepth 100000 in
theorem put_found (x : Nd) (i g vars most : Nat) (ok : Nat → Prop) (nb : Nat) (full : Bool) (ns : List Nd) (w0 w : World) (h : BS w0 w ok g vars most full ns nb) (he : x.lo ≠ x.hi) (hf : whereOf ns x.v x.lo x.hi = some (i : Int)) (hx : x.v < 9223372036854775808 ∧ x.lo < 9223372036854775808 ∧ x.hi < 9223372036854775808) :
    Calls Try.prog 37 #[.pointer (some ⟨g, 0, none⟩), .agg #[.int .i64 (x.v : Int), .int .i64 (x.lo : Int), .int .i64 (x.hi : Int)]] w fun e w' => e = .returned (.int .i64 (i : Int)) ∧ Below w.heap.size w w' := by
  have q : ((x.lo : Int) = (x.hi : Int)) = False := eq_false (by omega)
  have q2 : decide ((x.lo : Int) = (x.hi : Int)) = false := decide_eq_false (by omega)
  have q3 : ((x.lo : Int) == (x.hi : Int)) = false := by rw [beq_eq_false_iff_ne]; omega
  have q4 : (x.lo = x.hi) = False := eq_false he
  have u54 := Try.underlying54
  obtain ⟨v, mw, ma, n1, n2, D1, D2, f, hbk, hR, hne, h1, h2, r1, r2, r3, r4, r5⟩ := h.at_
  have hb0 := below_alloc (Below.refl w.heap.size w) (.cells #[.int .i64 (x.v : Int), .int .i64 (x.lo : Int), .int .i64 (x.hi : Int)] 54)
  have HB := Aside0.mk hb0
  have hw3 : wf3 (x.v : Int) (x.lo : Int) (x.hi : Int) := ⟨wf_nat hx.1, wf_nat hx.2.1, wf_nat hx.2.2⟩
  have hS : ∀ W, Below (w.heap.size + 1) (w.alloc (.cells #[.int .i64 (x.v : Int), .int .i64 (x.lo : Int), .int .i64 (x.hi : Int)] 54)) W →
      W.cell? ⟨g, 1, none⟩ = some (.map (some mw)) ∧ W.cell? ⟨w.heap.size, 0, none⟩ = some (.int .i64 (x.v : Int)) ∧ W.cell? ⟨w.heap.size, 1, none⟩ = some (.int .i64 (x.lo : Int)) ∧ W.cell? ⟨w.heap.size, 2, none⟩ = some (.int .i64 (x.hi : Int)) ∧
      (Instr.lookup 48 (.map (some mw)) (.agg #[.int .i64 (x.v : Int), .int .i64 (x.lo : Int), .int .i64 (x.hi : Int)]) true).run Try.prog W = .ok (.tuple #[.int .i64 (i : Int), .bool true]) W := by
    intro W hW
    have hsz : (w.alloc (.cells #[.int .i64 (x.v : Int), .int .i64 (x.lo : Int), .int .i64 (x.hi : Int)] 54)).heap.size = w.heap.size + 1 := by simp
    have hW2 : Below (w.alloc (.cells #[.int .i64 (x.v : Int), .int .i64 (x.lo : Int), .int .i64 (x.hi : Int)] 54)).heap.size (w.alloc (.cells #[.int .i64 (x.v : Int), .int .i64 (x.lo : Int), .int .i64 (x.hi : Int)] 54)) W := by rw [hsz]; exact hW
    have hg1 : W.heap[g]? = _ := blk_below (blk_alloc hbk _) hW2
    have hn : W.heap[w.heap.size]? = _ := blk_below (heap_alloc_new w (.cells #[.int .i64 (x.v : Int), .int .i64 (x.lo : Int), .int .i64 (x.hi : Int)] 54)) hW2
    have hm : W.ownsMap Try.prog 54 (plainElem Try.prog 3) mw n1 D1 := (h1.alloc _).kept (grown_of_below hW2 none) (by simp)
    have hl := look_run0 W 48 54 keyed54 Try.underlying48 hm r1 hw3 _ (key54 hw3)
    rw [hf] at hl
    exact ⟨(cell_of_row _ _ 1 _ _ _ hg1).trans rfl, (cell_of_row _ _ 0 _ _ _ hn).trans rfl, (cell_of_row _ _ 1 _ _ _ hn).trans rfl, (cell_of_row _ _ 2 _ _ _ hn).trans rfl, hl⟩
  have HS := Aside0.mk hS
  clear h hbk hR hne h1 h2 r1 r2 r3 r4 r5 hb0 hf hw3 hS he hx
  go_enter Try.func37, Try.ntmps37
  go_wp2_with fail
  go_region_held3 (fun W => W.cell? ⟨g, 1, none⟩ = some (.map (some mw)) ∧ W.cell? ⟨w.heap.size, 0, none⟩ = some (.int .i64 (x.v : Int)) ∧ W.cell? ⟨w.heap.size, 1, none⟩ = some (.int .i64 (x.lo : Int)) ∧ W.cell? ⟨w.heap.size, 2, none⟩ = some (.int .i64 (x.hi : Int)) ∧
      (Instr.lookup 48 (.map (some mw)) (.agg #[.int .i64 (x.v : Int), .int .i64 (x.lo : Int), .int .i64 (x.hi : Int)]) true).run Try.prog W = .ok (.tuple #[.int .i64 (i : Int), .bool true]) W) (exact HS.out _ (Below.refl _ _).drew) (fail)
  go_wp2_with fail
  go_ret
  exact ⟨rfl, below_drew1 HB.out⟩
end Go.Proofs.Ytialbhkamlfccaa.PA
/- put, where there is no room. No condition but the hypotheses that each theorem states. -/
namespace Go.Proofs.Ytialbhkamlfccaa.PA
open Go.RowKit Go.Proofs.YtialbhkamlfccaaW.PrintWords Go.Proofs.YtialbhkamlfccaaW.PrintLast Go.Proofs.YtialbhkamlfccaaW.PrintMore Go.Proofs.Ytialbhkamlfccaa.Mp Go.Proofs.Ytialbhkamlfccaa.Dia
set_option linter.unusedVariables false
set_option linter.unusedSimpArgs false
theorem BS.fill {w0 W : World} {ok : Nat → Prop} {nb g vars most : Nat} {full : Bool} {ns : List Nd} (h : BS w0 W ok g vars most full ns nb) : BS w0 (W.setCell ⟨g, 5, none⟩ (.bool true)) ok g vars most true ns nb := by
  obtain ⟨v, mw, ma, n1, n2, D1, D2, f, hbk, hR, hne, h1, h2, r1, r2, r3, r4, r5⟩ := h.at_
  exact ⟨h.inv, h.small, h.ge, v, mw, ma, n1, n2, D1, D2, f, blk_put hbk 5 (.bool true) rfl, Kd.R_far hR (p := ⟨g, 5, none⟩) (fun k hk => hk.2.1) (.bool true), hne, h1.setCell (fun e => hne.2.2.2.1 e.symm) _, h2.setCell (fun e => hne.2.2.2.2.1 e.symm) _, r1, r2, r3, r4, r5⟩
set_option maxHeartbeats 8000000 in
set_option maxRecDepth 100000 in
theorem put_full (x : Nd) (g vars most : Nat) (ok : Nat → Prop) (nb : Nat) (full : Bool) (ns : List Nd) (w0 w : World) (h : BS w0 w ok g vars most full ns nb) (he : x.lo ≠ x.hi) (hf : whereOf ns x.v x.lo x.hi = none) (hmost : most ≤ ns.length) (hx : x.v < 9223372036854775808 ∧ x.lo < 9223372036854775808 ∧ x.hi < 9223372036854775808) :
    Calls Try.prog 37 #[.pointer (some ⟨g, 0, none⟩), .agg #[.int .i64 (x.v : Int), .int .i64 (x.lo : Int), .int .i64 (x.hi : Int)]] w fun e w' => e = .returned (.int .i64 (-1)) ∧ BS w0 w' ok g vars most true ns nb ∧ Kept w w' (fun k => k = g) := by
  have q : ((x.lo : Int) = (x.hi : Int)) = False := eq_false (by omega)
  have q2 : decide ((x.lo : Int) = (x.hi : Int)) = false := decide_eq_false (by omega)
  have q3 : ((x.lo : Int) == (x.hi : Int)) = false := by rw [beq_eq_false_iff_ne]; omega
  have q4 : (x.lo = x.hi) = False := eq_false he
  have u54 := Try.underlying54
  obtain ⟨v, mw, ma, n1, n2, D1, D2, f, hbk, hR, hne, h1, h2, r1, r2, r3, r4, r5⟩ := h.at_
  have hb0 := below_alloc (Below.refl w.heap.size w) (.cells #[.int .i64 (x.v : Int), .int .i64 (x.lo : Int), .int .i64 (x.hi : Int)] 54)
  have HB := Aside0.mk hb0
  have hw3 : wf3 (x.v : Int) (x.lo : Int) (x.hi : Int) := ⟨wf_nat hx.1, wf_nat hx.2.1, wf_nat hx.2.2⟩
  obtain ⟨A, c, rfl⟩ := Kd.R_slice hR
  have hbs := h.alloc (.cells #[.int .i64 (x.v : Int), .int .i64 (x.lo : Int), .int .i64 (x.hi : Int)] 54)
  have HBS := Aside0.mk hbs
  clear hbs
  have m1 : ((most : Int) ≤ (ns.length : Int)) = True := eq_true (by omega)
  have m2 : decide ((most : Int) ≤ (ns.length : Int)) = true := decide_eq_true (by omega)
  have m3 : (most ≤ ns.length) = True := eq_true hmost
  have hgl : g < w.heap.size := blk_lt hbk
  have HG := Aside0.mk hgl
  have hS : ∀ W, Below (w.heap.size + 1) (w.alloc (.cells #[.int .i64 (x.v : Int), .int .i64 (x.lo : Int), .int .i64 (x.hi : Int)] 54)) W →
      W.cell? ⟨g, 0, none⟩ = some (.slice A ns.length c) ∧ W.cell? ⟨g, 4, none⟩ = some (.int .i64 (most : Int)) ∧ W.cell? ⟨g, 5, none⟩ = some (.bool full) ∧ W.frozen? ⟨g, 5, none⟩ = false ∧ W.cell? ⟨g, 1, none⟩ = some (.map (some mw)) ∧ W.cell? ⟨w.heap.size, 0, none⟩ = some (.int .i64 (x.v : Int)) ∧ W.cell? ⟨w.heap.size, 1, none⟩ = some (.int .i64 (x.lo : Int)) ∧ W.cell? ⟨w.heap.size, 2, none⟩ = some (.int .i64 (x.hi : Int)) ∧
      (Instr.lookup 48 (.map (some mw)) (.agg #[.int .i64 (x.v : Int), .int .i64 (x.lo : Int), .int .i64 (x.hi : Int)]) true).run Try.prog W = .ok (.tuple #[.int .i64 0, .bool false]) W := by
    intro W hW
    have hsz : (w.alloc (.cells #[.int .i64 (x.v : Int), .int .i64 (x.lo : Int), .int .i64 (x.hi : Int)] 54)).heap.size = w.heap.size + 1 := by simp
    have hW2 : Below (w.alloc (.cells #[.int .i64 (x.v : Int), .int .i64 (x.lo : Int), .int .i64 (x.hi : Int)] 54)).heap.size (w.alloc (.cells #[.int .i64 (x.v : Int), .int .i64 (x.lo : Int), .int .i64 (x.hi : Int)] 54)) W := by rw [hsz]; exact hW
    have hg1 : W.heap[g]? = _ := blk_below (blk_alloc hbk _) hW2
    have hn : W.heap[w.heap.size]? = _ := blk_below (heap_alloc_new w (.cells #[.int .i64 (x.v : Int), .int .i64 (x.lo : Int), .int .i64 (x.hi : Int)] 54)) hW2
    have hm : W.ownsMap Try.prog 54 (plainElem Try.prog 3) mw n1 D1 := (h1.alloc _).kept (grown_of_below hW2 none) (by simp)
    have hl := look_run0 W 48 54 keyed54 Try.underlying48 hm r1 hw3 _ (key54 hw3)
    rw [hf] at hl
    exact ⟨(cell_of_row _ _ 0 _ _ _ hg1).trans rfl, (cell_of_row _ _ 4 _ _ _ hg1).trans rfl, (cell_of_row _ _ 5 _ _ _ hg1).trans rfl, blk_frozen hg1 5, (cell_of_row _ _ 1 _ _ _ hg1).trans rfl, (cell_of_row _ _ 0 _ _ _ hn).trans rfl, (cell_of_row _ _ 1 _ _ _ hn).trans rfl, (cell_of_row _ _ 2 _ _ _ hn).trans rfl, hl⟩
  have HS := Aside0.mk hS
  clear h hbk hR hne h1 h2 r1 r2 r3 r4 r5 hb0 hf hw3 hS he hx hmost hgl
  go_enter Try.func37, Try.ntmps37
  go_wp2_with fail
  go_region_held3 (fun W => W.cell? ⟨g, 0, none⟩ = some (.slice A ns.length c) ∧ W.cell? ⟨g, 4, none⟩ = some (.int .i64 (most : Int)) ∧ W.cell? ⟨g, 5, none⟩ = some (.bool full) ∧ W.frozen? ⟨g, 5, none⟩ = false ∧ W.cell? ⟨g, 1, none⟩ = some (.map (some mw)) ∧ W.cell? ⟨w.heap.size, 0, none⟩ = some (.int .i64 (x.v : Int)) ∧ W.cell? ⟨w.heap.size, 1, none⟩ = some (.int .i64 (x.lo : Int)) ∧ W.cell? ⟨w.heap.size, 2, none⟩ = some (.int .i64 (x.hi : Int)) ∧
      (Instr.lookup 48 (.map (some mw)) (.agg #[.int .i64 (x.v : Int), .int .i64 (x.lo : Int), .int .i64 (x.hi : Int)]) true).run Try.prog W = .ok (.tuple #[.int .i64 0, .bool false]) W) (exact HS.out _ (Below.refl _ _).drew) (fail)
  go_wp2_with fail
  go_region_held3 (fun W => W.cell? ⟨g, 0, none⟩ = some (.slice A ns.length c) ∧ W.cell? ⟨g, 4, none⟩ = some (.int .i64 (most : Int)) ∧ W.cell? ⟨g, 5, none⟩ = some (.bool full) ∧ W.frozen? ⟨g, 5, none⟩ = false ∧ W.cell? ⟨g, 1, none⟩ = some (.map (some mw)) ∧ W.cell? ⟨w.heap.size, 0, none⟩ = some (.int .i64 (x.v : Int)) ∧ W.cell? ⟨w.heap.size, 1, none⟩ = some (.int .i64 (x.lo : Int)) ∧ W.cell? ⟨w.heap.size, 2, none⟩ = some (.int .i64 (x.hi : Int)) ∧
      (Instr.lookup 48 (.map (some mw)) (.agg #[.int .i64 (x.v : Int), .int .i64 (x.lo : Int), .int .i64 (x.hi : Int)]) true).run Try.prog W = .ok (.tuple #[.int .i64 0, .bool false]) W) (exact HS.out _ (Below.refl _ _).drew.drew) (fail)
  have hc5 := (HS.out _ (Below.refl _ _).drew.drew).2.2.1
  have hf5 := (HS.out _ (Below.refl _ _).drew.drew).2.2.2.1
  go_wp2_with fail
  go_ret
  exact ⟨rfl, (BS.fill HBS.out).below (Below.refl _ _).drew.drew, ((Kept.of_below HB.out (fun k => k = g)).setCell (p := ⟨g, 5, none⟩) (.inl rfl) (.bool true)).drew.drew⟩
end Go.Proofs.Ytialbhkamlfccaa.PA
/- One more node in 'where'. No condition but the hypotheses that each theorem states. -/
namespace Go.Proofs.Ytialbhkamlfccaa.PA
open Go.RowKit Go.Proofs.YtialbhkamlfccaaW.PrintWords Go.Proofs.YtialbhkamlfccaaW.PrintLast Go.Proofs.YtialbhkamlfccaaW.PrintMore Go.Proofs.Ytialbhkamlfccaa.Mp Go.Proofs.Ytialbhkamlfccaa.Dia
set_option linter.unusedVariables false
set_option linter.unusedSimpArgs false
theorem find_congr {p q : Nat → Bool} : ∀ {l : List Nat}, (∀ i ∈ l, p i = q i) → l.find? p = l.find? q
  | [], _ => rfl
  | a :: t, h => by rw [List.find?_cons, List.find?_cons, h a (by simp), find_congr (l := t) (fun i hi => h i (by simp [hi]))]
theorem where_snoc {ns : List Nd} {x : Nd} (hl : 2 ≤ ns.length) (hnew : ∀ i, 2 ≤ i → ns[i]? ≠ some x) (a b c : Int) : whereOf (ns ++ [x]) a b c = upd (whereOf ns) x.v x.lo x.hi ns.length a b c := by
  have hsame : (List.range ns.length).find? (fun i : Nat => decide (2 ≤ i) && decide ((ns ++ [x])[i]? = some (⟨a.toNat, b.toNat, c.toNat⟩ : Nd)) && decide (0 ≤ a) && decide (0 ≤ b) && decide (0 ≤ c)) = (List.range ns.length).find? (fun i : Nat => decide (2 ≤ i) && decide (ns[i]? = some (⟨a.toNat, b.toNat, c.toNat⟩ : Nd)) && decide (0 ≤ a) && decide (0 ≤ b) && decide (0 ≤ c)) := by
    apply find_congr
    intro i hi
    have hi2 : i < ns.length := by simpa using hi
    simp only [List.getElem?_append_left hi2]
  unfold whereOf
  rw [List.length_append, List.length_singleton, List.range_succ, List.find?_append, hsame]
  unfold upd
  by_cases he : a = (x.v : Int) ∧ b = (x.lo : Int) ∧ c = (x.hi : Int)
  · obtain ⟨rfl, rfl, rfl⟩ := he
    rw [if_pos ⟨rfl, rfl, rfl⟩]
    have hn : (List.range ns.length).find? (fun i : Nat => decide (2 ≤ i) && decide (ns[i]? = some (⟨(x.v : Int).toNat, (x.lo : Int).toNat, (x.hi : Int).toNat⟩ : Nd)) && decide (0 ≤ (x.v : Int)) && decide (0 ≤ (x.lo : Int)) && decide (0 ≤ (x.hi : Int))) = none := by
      rw [List.find?_eq_none]
      intro i hi hc
      simp only [Bool.and_eq_true, decide_eq_true_eq, Int.toNat_natCast] at hc
      exact hnew i hc.1.1.1.1 hc.1.1.1.2
    rw [hn]
    simp [hl]
  · rw [if_neg he]
    cases hf : (List.range ns.length).find? (fun i : Nat => decide (2 ≤ i) && decide (ns[i]? = some (⟨a.toNat, b.toNat, c.toNat⟩ : Nd)) && decide (0 ≤ a) && decide (0 ≤ b) && decide (0 ≤ c)) with
    | some j => simp only [hf]; rfl
    | none =>
      simp only [hf]
      have hn : ¬ (((decide (2 ≤ ns.length) && decide ((ns ++ [x])[ns.length]? = some (⟨a.toNat, b.toNat, c.toNat⟩ : Nd)) && decide (0 ≤ a) && decide (0 ≤ b) && decide (0 ≤ c))) = true) := by
        intro hc
        simp only [Bool.and_eq_true, decide_eq_true_eq] at hc
        obtain ⟨⟨⟨⟨_, h1⟩, h2⟩, h3⟩, h4⟩ := hc
        simp at h1
        apply he
        rw [h1]
        simp only
        omega
      simp only [List.find?_cons, hn, Option.none_or, List.find?_nil, Option.map_none]
end Go.Proofs.Ytialbhkamlfccaa.PA
/- put, where the node is new. No condition but the hypotheses that each theorem states. -/

namespace Go.Proofs.Ytialbhkamlfccaa.PA
open Go.RowKit Go.Proofs.YtialbhkamlfccaaW.PrintWords Go.Proofs.YtialbhkamlfccaaW.PrintLast Go.Proofs.YtialbhkamlfccaaW.PrintMore Go.Proofs.Ytialbhkamlfccaa.Mp Go.Proofs.Ytialbhkamlfccaa.Dia
set_option linter.unusedVariables false
set_option linter.unusedSimpArgs false
theorem Reads.congr {D : DataW Unit} {f f' : Int → Int → Int → Option Int} (h : Reads D f) (he : ∀ a b c, f' a b c = f a b c) : Reads D f' := by
  obtain rfl : f' = f := by funext a b c; exact he a b c
  exact h
theorem BS.mono {w0 W : World} {ok ok' : Nat → Prop} {nb nb' g vars most : Nat} {full : Bool} {ns : List Nd} (h : BS w0 W ok g vars most full ns nb) (hok : ∀ k, ok k → ok' k) (hn : nb ≤ nb') : BS w0 W ok' g vars most full ns nb' := by
  obtain ⟨v, mw, ma, n1, n2, D1, D2, f, hbk, hR, hne, h1, h2, r1, r2, r3, r4, r5⟩ := h.at_
  exact ⟨h.inv, h.small, h.ge, v, mw, ma, n1, n2, D1, D2, f, hbk, Kd.R_mono hR (fun k hk => ⟨hok k hk.1, hk.2⟩), ⟨hne.1, hne.2.1, hne.2.2.1, hne.2.2.2.1, hne.2.2.2.2.1, hok _ hne.2.2.2.2.2.1, hok _ hne.2.2.2.2.2.2.1, hok _ hne.2.2.2.2.2.2.2⟩, h1, h2, r1, r2, r3, r4, Nat.le_trans r5 hn⟩
theorem map_lt {W : World} {k : TypeId} {b n : Nat} {D : DataW Unit} (h : W.ownsMap Try.prog k (plainElem Try.prog 3) b n D) : b < W.heap.size := h.lt
theorem BS.bound {w0 W : World} {ok : Nat → Prop} {nb g vars most : Nat} {full : Bool} {ns : List Nd} (h : BS w0 W ok g vars most full ns nb) : BS w0 W (fun k => ok k ∧ w0.heap.size ≤ k ∧ k < W.heap.size) g vars most full ns nb := by
  obtain ⟨v, mw, ma, n1, n2, D1, D2, f, hbk, hR, hne, h1, h2, r1, r2, r3, r4, r5⟩ := h.at_
  exact ⟨h.inv, h.small, h.ge, v, mw, ma, n1, n2, D1, D2, f, hbk, Kd.R_mono (Kd.R_bound hR) (fun k hk => ⟨⟨hk.1.1, hk.2.1, hk.2.2.1⟩, hk.1.2⟩), ⟨hne.1, hne.2.1, hne.2.2.1, hne.2.2.2.1, hne.2.2.2.2.1, ⟨hne.2.2.2.2.2.1, h.ge, blk_lt hbk⟩, ⟨hne.2.2.2.2.2.2.1, hne.1, h1.lt⟩, ⟨hne.2.2.2.2.2.2.2, hne.2.1, h2.lt⟩⟩, h1, h2, r1, r2, r3, r4, r5⟩
theorem cells3 {W : World} {b t : Nat} {x y z : Value} (h : W.heap[b]? = some (.cells #[x, y, z] t (0, 0))) : W.cell? ⟨b, 0, none⟩ = some x ∧ W.cell? ⟨b, 1, none⟩ = some y ∧ W.cell? ⟨b, 2, none⟩ = some z :=
  ⟨(cell_of_row _ _ 0 _ _ _ h).trans rfl, (cell_of_row _ _ 1 _ _ _ h).trans rfl, (cell_of_row _ _ 2 _ _ _ h).trans rfl⟩
set_option maxHeartbeats 8000000 in
set_option maxRecDepth 100000 in
theorem put_new (x : Nd) (g vars most : Nat) (ok : Nat → Prop) (nb : Nat) (full : Bool) (ns : List Nd) (w0 w : World) (h : BS w0 w ok g vars most full ns nb) (he : x.lo ≠ x.hi) (hf : whereOf ns x.v x.lo x.hi = none) (hmost : ns.length < most) (hx : x.v < 9223372036854775808 ∧ x.lo < 9223372036854775808 ∧ x.hi < 9223372036854775808) (hinv : Inv vars (ns ++ [x])) :
    Calls Try.prog 37 #[.pointer (some ⟨g, 0, none⟩), .agg #[.int .i64 (x.v : Int), .int .i64 (x.lo : Int), .int .i64 (x.hi : Int)]] w fun e w' => e = .returned (.int .i64 (ns.length : Int)) ∧ BS w0 w' (fun k => ok k ∨ w.heap.size ≤ k) g vars most full (ns ++ [x]) nb ∧ Kept w w' ok := by
  have q : ((x.lo : Int) = (x.hi : Int)) = False := eq_false (by omega)
  have q2 : decide ((x.lo : Int) = (x.hi : Int)) = false := decide_eq_false (by omega)
  have q3 : ((x.lo : Int) == (x.hi : Int)) = false := by rw [beq_eq_false_iff_ne]; omega
  have q4 : (x.lo = x.hi) = False := eq_false he
  have u54 := Try.underlying54
  have hsm := h.small
  obtain ⟨v, mw, ma, n1, n2, D1, D2, f, hbk, hR, hne, h1, h2, r1, r2, r3, r4, r5⟩ := h.at_
  have hb0 := below_alloc (Below.refl w.heap.size w) (.cells #[.int .i64 (x.v : Int), .int .i64 (x.lo : Int), .int .i64 (x.hi : Int)] 54)
  have HB := Aside0.mk hb0
  have hw3 : wf3 (x.v : Int) (x.lo : Int) (x.hi : Int) := ⟨wf_nat hx.1, wf_nat hx.2.1, wf_nat hx.2.2⟩
  obtain ⟨A, c, rfl⟩ := Kd.R_slice hR
  have m1 : ((most : Int) ≤ (ns.length : Int)) = False := eq_false (by omega)
  have m2 : decide ((most : Int) ≤ (ns.length : Int)) = false := decide_eq_false (by omega)
  have m3 : (most ≤ ns.length) = False := eq_false (by omega)
  have hgl : g < w.heap.size := blk_lt hbk
  have hmw : mw < w.heap.size := h1.lt
  have hma : ma < w.heap.size := h2.lt
  have hge := h.ge
  have hgw : (g = w.heap.size) = False := eq_false (by omega)
  have HN := Aside0.mk (show g < w.heap.size ∧ mw < w.heap.size ∧ ma < w.heap.size ∧ w0.heap.size ≤ g ∧ ns.length < most ∧ most < 1000000000 from ⟨hgl, hmw, hma, hge, hmost, hsm.2.1⟩)
  have hS : ∀ W, Below (w.heap.size + 1) (w.alloc (.cells #[.int .i64 (x.v : Int), .int .i64 (x.lo : Int), .int .i64 (x.hi : Int)] 54)) W →
      W.cell? ⟨g, 0, none⟩ = some (.slice A ns.length c) ∧ W.cell? ⟨g, 4, none⟩ = some (.int .i64 (most : Int)) ∧ W.cell? ⟨g, 1, none⟩ = some (.map (some mw)) ∧ W.cell? ⟨w.heap.size, 0, none⟩ = some (.int .i64 (x.v : Int)) ∧ W.cell? ⟨w.heap.size, 1, none⟩ = some (.int .i64 (x.lo : Int)) ∧ W.cell? ⟨w.heap.size, 2, none⟩ = some (.int .i64 (x.hi : Int)) ∧
      (Instr.lookup 48 (.map (some mw)) (.agg #[.int .i64 (x.v : Int), .int .i64 (x.lo : Int), .int .i64 (x.hi : Int)]) true).run Try.prog W = .ok (.tuple #[.int .i64 0, .bool false]) W := by
    intro W hW
    have hsz : (w.alloc (.cells #[.int .i64 (x.v : Int), .int .i64 (x.lo : Int), .int .i64 (x.hi : Int)] 54)).heap.size = w.heap.size + 1 := by simp
    have hW2 : Below (w.alloc (.cells #[.int .i64 (x.v : Int), .int .i64 (x.lo : Int), .int .i64 (x.hi : Int)] 54)).heap.size (w.alloc (.cells #[.int .i64 (x.v : Int), .int .i64 (x.lo : Int), .int .i64 (x.hi : Int)] 54)) W := by rw [hsz]; exact hW
    have hg1 : W.heap[g]? = _ := blk_below (blk_alloc hbk _) hW2
    have hn : W.heap[w.heap.size]? = _ := blk_below (heap_alloc_new w (.cells #[.int .i64 (x.v : Int), .int .i64 (x.lo : Int), .int .i64 (x.hi : Int)] 54)) hW2
    have hm : W.ownsMap Try.prog 54 (plainElem Try.prog 3) mw n1 D1 := (h1.alloc _).kept (grown_of_below hW2 none) (by simp)
    have hl := look_run0 W 48 54 keyed54 Try.underlying48 hm r1 hw3 _ (key54 hw3)
    rw [hf] at hl
    exact ⟨(cell_of_row _ _ 0 _ _ _ hg1).trans rfl, (cell_of_row _ _ 4 _ _ _ hg1).trans rfl, (cell_of_row _ _ 1 _ _ _ hg1).trans rfl, (cell_of_row _ _ 0 _ _ _ hn).trans rfl, (cell_of_row _ _ 1 _ _ _ hn).trans rfl, (cell_of_row _ _ 2 _ _ _ hn).trans rfl, hl⟩
  have HS := Aside0.mk hS
  have HR := Aside0.mk (Kd.R_mono (ok' := fun k => (ok k ∨ w.heap.size ≤ k) ∧ k ≠ g ∧ k ≠ mw ∧ k ≠ ma) (Kd.R_alloc hR (.cells #[.int .i64 (x.v : Int), .int .i64 (x.lo : Int), .int .i64 (x.hi : Int)] 54)) (fun k hk => ⟨.inl hk.1, hk.2⟩))
  have HBK := Aside0.mk hbk
  have HF := Aside0.mk (where_none hf)
  have HIN := Aside0.mk h.inv
  have HSM := Aside0.mk hsm
  have HV := Aside0.mk (fun k hk => (And.intro (Kd.R_lt hR k hk) (hR.1 k hk).1))
  have HM := Aside0.mk (And.intro h1 (And.intro h2 (And.intro r1 (And.intro r2 (And.intro r3 (And.intro r4 r5))))))
  have HNE := Aside0.mk hne
  have HW3 := Aside0.mk hw3
  have HI := Aside0.mk hinv
  clear h hbk hR hne h1 h2 r1 r2 r3 r4 r5 hb0 hf hw3 hS he hx hmost hgl hsm hinv hmw hma hge
  go_enter Try.func37, Try.ntmps37
  go_wp2_with fail
  go_region_held3 (fun W => W.cell? ⟨g, 0, none⟩ = some (.slice A ns.length c) ∧ W.cell? ⟨g, 4, none⟩ = some (.int .i64 (most : Int)) ∧ W.cell? ⟨g, 1, none⟩ = some (.map (some mw)) ∧ W.cell? ⟨w.heap.size, 0, none⟩ = some (.int .i64 (x.v : Int)) ∧ W.cell? ⟨w.heap.size, 1, none⟩ = some (.int .i64 (x.lo : Int)) ∧ W.cell? ⟨w.heap.size, 2, none⟩ = some (.int .i64 (x.hi : Int)) ∧
      (Instr.lookup 48 (.map (some mw)) (.agg #[.int .i64 (x.v : Int), .int .i64 (x.lo : Int), .int .i64 (x.hi : Int)]) true).run Try.prog W = .ok (.tuple #[.int .i64 0, .bool false]) W) (exact HS.out _ (Below.refl _ _).drew) (fail)
  go_wp2_with fail
  go_region_held3 (fun W => W.cell? ⟨g, 0, none⟩ = some (.slice A ns.length c) ∧ W.cell? ⟨g, 4, none⟩ = some (.int .i64 (most : Int)) ∧ W.cell? ⟨g, 1, none⟩ = some (.map (some mw)) ∧ W.cell? ⟨w.heap.size, 0, none⟩ = some (.int .i64 (x.v : Int)) ∧ W.cell? ⟨w.heap.size, 1, none⟩ = some (.int .i64 (x.lo : Int)) ∧ W.cell? ⟨w.heap.size, 2, none⟩ = some (.int .i64 (x.hi : Int)) ∧
      (Instr.lookup 48 (.map (some mw)) (.agg #[.int .i64 (x.v : Int), .int .i64 (x.lo : Int), .int .i64 (x.hi : Int)]) true).run Try.prog W = .ok (.tuple #[.int .i64 0, .bool false]) W) (exact HS.out _ (Below.refl _ _).drew.drew) (fail)
  go_wp2_with fail
  obtain ⟨H, hH⟩ : ∃ H, H = ((w.alloc (.cells #[.int .i64 (x.v : Int), .int .i64 (x.lo : Int), .int .i64 (x.hi : Int)] 54)).drew).drew := ⟨_, rfl⟩
  have hsz : H.heap.size = w.heap.size + 1 := by rw [hH]; simp
  have hbl : Below w.heap.size w H := by rw [hH]; exact HB.out.drew.drew
  have HR1 : Aside0 (Kd.R k54 54 H w0.heap.size (fun k => (ok k ∨ w.heap.size ≤ k) ∧ k ≠ g ∧ k ≠ mw ∧ k ≠ ma) (.slice A ns.length c) ns) := by rw [hH]; exact ⟨Kd.R_drew (Kd.R_drew HR.out)⟩
  have HBK1 : Aside0 (H.heap[g]? = some (.cells #[.slice A ns.length c, .map (some mw), .map (some ma), .int .i64 vars, .int .i64 most, .bool full] 52 (0, 0))) := ⟨blk_below HBK.out hbl⟩
  have HBX : Aside0 (H.heap[w.heap.size]? = some (.cells #[.int .i64 (x.v : Int), .int .i64 (x.lo : Int), .int .i64 (x.hi : Int)] 54)) := ⟨by rw [hH]; exact blk_drew (blk_drew (heap_alloc_new w (.cells #[.int .i64 (x.v : Int), .int .i64 (x.lo : Int), .int .i64 (x.hi : Int)] 54)))⟩
  have HM1 := Aside0.mk (And.intro (HM.out.1.kept (grown_of_below hbl none) (by simp)) (HM.out.2.1.kept (grown_of_below hbl none) (by simp)))
  have HSZ := Aside0.mk hsz
  have HBL := Aside0.mk hbl
  clear hsz hbl
  rw [← hH]
  clear hH HR HBK HS
  have z1 : ∀ o, (H.drew.alloc o).cell? ⟨g, 0, none⟩ = some (.slice A ns.length c) := fun o => (cell_of_row _ _ 0 _ _ _ (blk_alloc (blk_drew HBK1.out) o)).trans rfl
  refine start_ (n := 11) (S := fun w' => w'.cell? ⟨g, 0, none⟩ = some (.slice A ns.length c) ∧ w'.cell? ⟨w.heap.size, 0, none⟩ = some (.int .i64 (x.v : Int)) ∧ w'.cell? ⟨w.heap.size, 1, none⟩ = some (.int .i64 (x.lo : Int)) ∧ w'.cell? ⟨w.heap.size, 2, none⟩ = some (.int .i64 (x.hi : Int))) (ds := [10]) #[false, false, false, false, false, false, false, false, false, false, false] (by kernel_rfl) rfl rfl (⟨(cell_of_row _ _ 0 _ _ _ (blk_drew HBK1.out)).trans rfl, cells3 (blk_drew HBX.out)⟩) (fun hHeld => ?_)
  refine take_ (i := 0) (N := some 38) (v := ?_) (a' := ?_) #[true, false, false, false, false, false, false, false, false, false, false] rfl rfl (by kernel_rfl) (fun _ _ _ h => h) (Or.inl ⟨by rfl, ?_⟩) hHeld ?_ ?_
  rotate_left
  · rintro w' ⟨s0, s1, s2, s3⟩
    go_simp
    with_reducible rfl
  rotate_left
  · simp only [Act.put, List.setIfInBounds_toArray, List.set_cons_zero, List.set_cons_succ]
    rfl
  refine take_ (i := 1) (N := some 39) (v := ?_) (a' := ?_) #[true, true, false, false, false, false, false, false, false, false, false] rfl rfl (by kernel_rfl) (fun _ _ _ h => h) (Or.inl ⟨by rfl, ?_⟩) hHeld ?_ ?_
  rotate_left
  · rintro w' ⟨s0, s1, s2, s3⟩
    go_simp
    with_reducible rfl
  rotate_left
  · simp only [Act.put, List.setIfInBounds_toArray, List.set_cons_zero, List.set_cons_succ]
    rfl
  refine take_ (i := 2) (N := some 40) (v := ?_) (a' := ?_) #[true, true, true, false, false, false, false, false, false, false, false] rfl rfl (by kernel_rfl) (fun _ _ _ h => h) (Or.inl ⟨by rfl, ?_⟩) hHeld ?_ ?_
  rotate_left
  · rintro w' ⟨s0, s1, s2, s3⟩
    go_simp
    with_reducible rfl
  rotate_left
  · simp only [Act.put, List.setIfInBounds_toArray, List.set_cons_zero, List.set_cons_succ]
    rfl
  refine take_ (i := 3) (N := some 41) (v := ?_) (a' := ?_) #[true, true, true, true, false, false, false, false, false, false, false] rfl rfl (by kernel_rfl) (fun _ _ _ h => h) (Or.inl ⟨by rfl, ?_⟩) hHeld ?_ ?_
  rotate_left
  · rintro w' ⟨s0, s1, s2, s3⟩
    go_simp
    with_reducible rfl
  rotate_left
  · simp only [Act.put, List.setIfInBounds_toArray, List.set_cons_zero, List.set_cons_succ]
    rfl
  refine take_ (i := 4) (N := some 42) (v := ?_) (a' := ?_) #[true, true, true, true, true, false, false, false, false, false, false] rfl rfl (by kernel_rfl) (fun _ _ _ h => h) (Or.inl ⟨by rfl, ?_⟩) hHeld ?_ ?_
  rotate_left
  · rintro w' ⟨s0, s1, s2, s3⟩
    go_simp
    with_reducible rfl
  rotate_left
  · simp only [Act.put, List.setIfInBounds_toArray, List.set_cons_zero, List.set_cons_succ]
    rfl
  refine take_ (i := 5) (N := some 43) (v := ?_) (a' := ?_) #[true, true, true, true, true, true, false, false, false, false, false] rfl rfl (by kernel_rfl) (fun _ _ _ h => h) (Or.inl ⟨by rfl, ?_⟩) hHeld ?_ ?_
  rotate_left
  · rintro w' ⟨s0, s1, s2, s3⟩
    go_simp
    with_reducible rfl
  rotate_left
  · simp only [Act.put, List.setIfInBounds_toArray, List.set_cons_zero, List.set_cons_succ]
    rfl
  refine one_ (i := 6) (N := some 44) #[true, true, true, true, true, true, true, false, false, false, false] rfl rfl (by kernel_rfl) (by decide) (fun K hK => ?_)
  go_simp
  refine hK.out _ _ ⟨z1 _, cells3 (blk_alloc (blk_drew HBX.out) _)⟩ (fun hHeld => ?_)
  clear hK K
  refine one_ (i := 7) (N := some 45) #[true, true, true, true, true, true, true, true, false, false, false] rfl rfl (by kernel_rfl) (by decide) (fun K hK => ?_)
  (refine Kd.R_append_step k54 (w0 := H.drew) (W := H.drew) w0.heap.size (by rfl) (.tmp 42) (.tmp 44) 50 54 (.agg #[.int .i64 0, .int .i64 0, .int .i64 0]) 24 rfl Try.underlying50 info54 rfl (by decide) (by decide) (.slice A ns.length c) ns x [.int .i64 (x.v : Int), .int .i64 (x.lo : Int), .int .i64 (x.hi : Int)] (fun k => (ok k ∨ w.heap.size ≤ k) ∧ k ≠ g ∧ k ≠ mw ∧ k ≠ ma) (fun _ => False) rfl rfl ⟨_, _, rfl, rfl, _, _, rfl, rfl, rfl⟩ (fun _ hk => hk.elim) ?aF ?aO (Below.refl _ _) ?aS ?aL ?_)
  (case aF => intro k hk; have h1 : H.heap.size ≤ k := hk; have := HN.out; have := HSZ.out; exact ⟨.inr (by omega), by omega, by omega, by omega⟩)
  (case aO => exact Kd.R_drew HR1.out)
  (case aS => have := HN.out; have := HSZ.out; show w0.heap.size ≤ H.heap.size; omega)
  (case aL => have := HN.out; omega)
  intro v1 w1 ho1 hb1 hg1 hat1
  obtain ⟨A1, c1, e1⟩ := Kd.R_slice ho1
  rw [show (ns ++ [x]).length = ns.length + 1 by simp] at e1
  rw [e1] at ho1 hat1 ⊢
  clear e1
  have hbg : w1.heap[g]? = _ := blk_grown (blk_drew HBK1.out) hg1 (fun e => (HR1.out.1 g e.symm).2.1 rfl)
  have zc := (cell_of_row _ _ 0 _ _ _ hbg).trans rfl
  have zf := blk_frozen hbg 0
  have HBG := Aside0.mk hbg
  have HBX2 := Aside0.mk (blk_grown (blk_drew HBX.out) hg1 (fun e => by have := (HV.out _ e.symm).1; omega))
  clear hbg
  have HO1 := Aside0.mk ho1
  have HG1 := Aside0.mk hg1
  have HA1 := Aside0.mk hat1
  clear ho1 hb1 hg1 hat1
  refine hK.out _ _ ⟨zc, cells3 HBX2.out⟩ (fun hHeld => ?_)
  clear hK K
  refine norm_ (a' := ?_) ?_ ?_
  rotate_left
  · show Act.put _ (some 45) _ = _
    simp only [Act.put, List.setIfInBounds_toArray, List.set_cons_zero, List.set_cons_succ]
    rfl
  refine take_ (i := 8) (N := some 46) (v := ?_) (a' := ?_) #[true, true, true, true, true, true, true, true, true, false, false] rfl rfl (by kernel_rfl) (fun _ _ _ h => h) (Or.inl ⟨by rfl, ?_⟩) hHeld ?_ ?_
  rotate_left
  · rintro w' ⟨s0, s1, s2, s3⟩
    go_simp
    with_reducible rfl
  rotate_left
  · simp only [Act.put, List.setIfInBounds_toArray, List.set_cons_zero, List.set_cons_succ]
    rfl
  refine take_ (i := 9) (N := some 47) (v := ?_) (a' := ?_) #[true, true, true, true, true, true, true, true, true, true, false] rfl rfl (by kernel_rfl) (fun _ _ _ h => h) (Or.inl ⟨by rfl, ?_⟩) hHeld ?_ ?_
  rotate_left
  · rintro w' ⟨s0, s1, s2, s3⟩
    go_simp
    with_reducible rfl
  rotate_left
  · simp only [Act.put, List.setIfInBounds_toArray, List.set_cons_zero, List.set_cons_succ]
    rfl
  refine last_ (i := 10) (N := none) #[true, true, true, true, true, true, true, true, true, true, true] rfl rfl (by kernel_rfl) (by decide) (fun K hK => ?_)
  refine skip_ (w1 := ?_) (by rfl) rfl ?_ ?_
  rotate_left
  · go_simp
    rfl
  refine hK.out _ _ ?_
  clear hK K
  refine done_ (by kernel_rfl) ?_
  obtain ⟨H2, hH2⟩ : ∃ H2, H2 = w1.setCell ⟨g, 0, none⟩ (.slice A1 (ns.length + 1) c1) := ⟨_, rfl⟩
  have HBK2 : Aside0 (H2.heap[g]? = some (.cells #[.slice A1 (ns.length + 1) c1, .map (some mw), .map (some ma), .int .i64 vars, .int .i64 most, .bool full] 52 (0, 0))) := ⟨by rw [hH2]; exact blk_put HBG.out 0 _ rfl⟩
  have HBX3 : Aside0 (H2.heap[w.heap.size]? = some (.cells #[.int .i64 (x.v : Int), .int .i64 (x.lo : Int), .int .i64 (x.hi : Int)] 54)) := ⟨by rw [hH2]; exact blk_far HBX2.out (Nat.ne_of_gt HN.out.1) _⟩
  have HR2 : Aside0 (Kd.R k54 54 H2 w0.heap.size (fun k => (ok k ∨ w.heap.size ≤ k) ∧ k ≠ g ∧ k ≠ mw ∧ k ≠ ma) (.slice A1 (ns.length + 1) c1) (ns ++ [x])) := ⟨by rw [hH2]; exact Kd.R_far HO1.out (p := ⟨g, 0, none⟩) (fun k hk => hk.2.1) _⟩
  have HM2 : Aside0 (H2.ownsMap Try.prog 54 (plainElem Try.prog 3) mw n1 D1 ∧ H2.ownsMap Try.prog 69 (plainElem Try.prog 3) ma n2 D2) := ⟨by
    rw [hH2]
    have hne := HNE.out
    exact ⟨(HM1.out.1.drew.kept HG1.out (fun e => (HR1.out.1 mw e.symm).2.2.1 rfl)).setCell (fun e => hne.2.2.2.1 e.symm) _, (HM1.out.2.drew.kept HG1.out (fun e => (HR1.out.1 ma e.symm).2.2.2 rfl)).setCell (fun e => hne.2.2.2.2.1 e.symm) _⟩⟩
  have HK2 : Aside0 (Kept w H2 ok) := ⟨by
    rw [hH2]
    exact (Kept.of_grown HG1.out (Kept.of_below HBL.out ok).drew (fun k hk => .inl (HV.out k hk).2)).setCell (p := ⟨g, 0, none⟩) (.inl HNE.out.2.2.2.2.2.1) _⟩
  clear HO1 HG1 HA1 HBG HBX2 HM1 HR1 HBK1 HBX z1 zc zf hHeld HBL
  rw [← hH2]
  clear hH2
  obtain ⟨w4, D3, hrun, ho4, hr4, hg4⟩ := store_run H2.drew 48 54 keyed54 Try.underlying48 HM2.out.1.drew (by have := HN.out; have := HM.out.2.2.2.2.2.1; simp only [maxLen]; omega) HM.out.2.2.1 HW3.out _ (key54 HW3.out) (ns.length : Int) (wf_nat (by have := HN.out; omega))
  have hw0 : IntKind.i64.wrap (ns.length : Int) = (ns.length : Int) := by have := HN.out; simp only [IntKind.wrap, IntKind.bits, IntKind.signed, IntKind.max, IntKind.min]; simp; omega
  have hw1 : wrap64 ((((ns.length + 1 : Nat) : Int)) - 1) = (ns.length : Int) := by have := HN.out; unfold wrap64; omega
  have hw2 : wrap64 (((ns.length : Int) + 1) - 1) = (ns.length : Int) := by have := HN.out; unfold wrap64; omega
  have zb : w4.heap[g]? = _ := blk_grown (blk_drew HBK2.out) hg4 (fun e => by injection e with e; exact HNE.out.2.2.2.1 e)
  have zb0 : w4.cell? ⟨g, 0, none⟩ = _ := (cell_of_row _ _ 0 _ _ _ zb).trans rfl
  have zx : w4.heap[w.heap.size]? = _ := blk_grown (blk_drew HBX3.out) hg4 (fun e => by injection e with e; have := HN.out; omega)
  have ZB := Aside0.mk zb
  have ZX := Aside0.mk zx
  have HO4 := Aside0.mk ho4
  have HR4 := Aside0.mk hr4
  have HG4 := Aside0.mk hg4
  clear zb zx ho4 hr4 hg4
  go_wp2_with fail
  go_region_held3 (fun W => W.cell? ⟨g, 0, none⟩ = some (.slice A1 (ns.length + 1) c1) ∧ W.cell? ⟨g, 1, none⟩ = some (.map (some mw)) ∧ W.cell? ⟨w.heap.size, 0, none⟩ = some (.int .i64 (x.v : Int)) ∧ W.cell? ⟨w.heap.size, 1, none⟩ = some (.int .i64 (x.lo : Int)) ∧ W.cell? ⟨w.heap.size, 2, none⟩ = some (.int .i64 (x.hi : Int))) (first | exact ⟨(cell_of_row _ _ 0 _ _ _ (blk_drew HBK2.out)).trans rfl, (cell_of_row _ _ 1 _ _ _ (blk_drew HBK2.out)).trans rfl, cells3 (blk_drew HBX3.out)⟩ | exact ⟨(cell_of_row _ _ 0 _ _ _ ZB.out).trans rfl, (cell_of_row _ _ 1 _ _ _ ZB.out).trans rfl, cells3 ZX.out⟩) (fail)
  go_wp2_with fail
  go_ret
  have hne := HNE.out
  have hn := HN.out
  have hm := HM.out
  refine ⟨rfl, ⟨HI.out, ⟨HSM.out.1, HSM.out.2.1, by simp; omega⟩, hn.2.2.2.1, .slice A1 (ns.length + 1) c1, mw, ma, n1 + 1, n2, D3, D2, f, ZB.out, Kd.R_grown (Kd.R_drew HR2.out) HG4.out (fun k hk e => by injection e with e; exact hk.2.2.1 e), ⟨hne.1, hne.2.1, hne.2.2.1, hne.2.2.2.1, hne.2.2.2.2.1, .inl hne.2.2.2.2.2.1, .inl hne.2.2.2.2.2.2.1, .inl hne.2.2.2.2.2.2.2⟩, HO4.out, HM2.out.2.drew.kept HG4.out (fun e => by injection e with e; exact hne.2.2.1 e.symm), Reads.congr HR4.out (fun a b c => where_snoc HIN.out.len HF.out a b c), hm.2.2.2.1, AskedOk.pre HIN.out hm.2.2.2.2.1 [x], by simp; omega, hm.2.2.2.2.2.2⟩, ?_⟩
  exact Kept.of_grown HG4.out HK2.out.drew (fun k hk => .inl (by injection hk with hk; rw [← hk]; exact hne.2.2.2.2.2.2.1))
end Go.Proofs.Ytialbhkamlfccaa.PA
