/- image's reader: take, octet, number, cells: what the calls come to. No condition but the hypotheses that each theorem states. -/
import Derived.Test.YtimhllaahihhgaaQN
import Derived.Test.YtimhllaahihhgaaPAx4
import Derived.StillTailTactics
namespace Go.Proofs.Ytimhllaahihhgaa.PA
open Go.RowKit Go.Proofs.YtimhllaahihhgaaW.PrintWords Go.Proofs.YtimhllaahihhgaaW.PrintLast Go.Proofs.YtimhllaahihhgaaW.PrintMore
set_option linter.unusedVariables false
set_option linter.unusedSimpArgs false
theorem reader_number2.calls (b : Nat) (bs : List Int) (sh : Bool) (D bs1 : List Int) (sh1 : Bool) (e : takeB 4 bs sh = (D, bs1, sh1)) (w0 w : World) (hB : Below w0.heap.size w0 w) (hb : w0.heap.size ≤ b) (h : RAt w0 w b bs sh) :
    Calls Try.prog 24 #[.pointer (some ⟨b, 0, none⟩)] w fun e w' => e = .returned (.int .i64 (num4 D)) ∧ RAt w0 w' b bs1 sh1 ∧ Kept w w' (fun k => k = b) ∧ Below w0.heap.size w0 w' := by
  have h1 := reader_number.calls b bs sh w0 w hB hb h
  rw [e] at h1
  exact h1
theorem reader_take2.calls (n b : Nat) (bs : List Int) (sh : Bool) (D bs1 : List Int) (sh1 : Bool) (e : takeB n bs sh = (D, bs1, sh1)) (w0 w : World) (hB : Below w0.heap.size w0 w) (hb : w0.heap.size ≤ b) (h : RAt w0 w b bs sh) (hn : n < 1099511627776) :
    Calls Try.prog 25 #[.pointer (some ⟨b, 0, none⟩), .int .i64 (n : Int)] w fun e w' => ∃ (A : Option Addr) (c : Nat), e = .returned (.slice A D.length c) ∧ Kd.C (Kd.int .u8) w' A D.length D ∧ D.length ≤ c ∧ RAt w0 w' b bs1 sh1 ∧ Kept w w' (fun k => k = b) ∧ Below w0.heap.size w0 w' := by
  have h1 := reader_take.calls n b bs sh w0 w hB hb h hn
  have hl : (takeB n bs sh).1.length = n := takeB_len
  rw [e] at h1 hl
  rw [← hl] at h1
  rw [← hl]
  exact h1
theorem reader_cells2.calls (b : Nat) (bs : List Int) (sh : Bool) (L : List S26) (bs1 : List Int) (sh1 : Bool) (e : cellsF bs sh = (L, bs1, sh1)) (w0 w : World) (hB : Below w0.heap.size w0 w) (hb : w0.heap.size ≤ b) (h : RAt w0 w b bs sh) (hbs : Bytes bs) :
    Calls Try.prog 27 #[.pointer (some ⟨b, 0, none⟩)] w fun e w' => ∃ v, e = .returned v ∧ Kd.R k26 26 w' w0.heap.size (fun k => w.heap.size ≤ k) v L ∧ RAt w0 w' b bs1 sh1 ∧ Kept w w' (fun k => k = b) ∧ Below w0.heap.size w0 w' ∧ Bytes bs1 := by
  have h1 := reader_cells.calls b bs sh w0 w hB hb h hbs
  rw [e] at h1
  exact h1
abbrev TakeR := List Int × Int × Int × Int × Int × List S26 × List S26 × List S26 × Int
def errI (c : Int) : TakeR := ([], 0, 0, 0, 0, [], [], [], c)
def canB (a0 a1 a2 a3 : Int) (l4 l5 l6 : List S26) : Bool := numOK a0 && (numOK a1 && (numOK a2 && (numOK a3 && (listOK l4 && (listOK l5 && (listOK l6 && decide (a3 ≤ 16000)))))))
def tailI (b0 : List Int) : TakeR :=
  let p0 := takeB 4 b0 false
  let p1 := takeB 4 p0.2.1 p0.2.2
  let p2 := takeB 4 p1.2.1 p1.2.2
  let p3 := takeB 4 p2.2.1 p2.2.2
  let p4 := takeB 4 p3.2.1 p3.2.2
  if 60000 < num4 p4.1 ∧ p4.2.2 = false then errI 2 else
  let t := takeB (2 * min (num4 p4.1).toNat 60000) p4.2.1 p4.2.2
  let c1 := cellsF t.2.1 t.2.2
  let c2 := cellsF c1.2.1 c1.2.2
  let c3 := cellsF c2.2.1 c2.2.2
  if c3.2.2 = true then errI 3
  else if 0 < c3.2.1.length ∨ canB (num4 p0.1) (num4 p1.1) (num4 p2.1) (num4 p3.1) c1.1 c2.1 c3.1 = false then errI 4
  else (halvesL t.1, num4 p0.1, num4 p1.1, num4 p2.1, num4 p3.1, c1.1, c2.1, c3.1, 0)
def takeI (l : List Int) : TakeR :=
  if ((strOfNums (l.take (min l.length 4))).toList == ((⟨#[77, 83, 75, 49]⟩ : ByteArray).extract 0 (min l.length 4)).toList) = true then
    if l.length < 4 then errI 3 else tailI (l.drop 4)
  else errI 4
theorem new_at {W : World} {o : Obj} {g : Nat} (hg : g = W.heap.size) : (W.alloc o).heap[g]? = some o := by subst hg; exact heap_alloc_new W o
theorem RAt_set {w0 W : World} {b g i : Nat} {bs : List Int} {sh : Bool} {v : Value} (h : RAt w0 W b bs sh) (hne : b ≠ g) : RAt w0 (W.setCell ⟨g, i, none⟩ v) b bs sh := by
  obtain ⟨ad, c, h1, h2, h3⟩ := h
  exact ⟨ad, c, blk_far h1 (p := ⟨g, i, none⟩) hne v, h2, h3⟩
theorem RAt_below {w0 W W1 : World} {b : Nat} {bs : List Int} {sh : Bool} (h : RAt w0 W b bs sh) (hb : Below W.heap.size W W1) : RAt w0 W1 b bs sh := by
  obtain ⟨ad, c, h1, h2, h3⟩ := h
  exact ⟨ad, c, blk_below h1 hb, h2, h3⟩
theorem blk_kept {W W1 : World} {b g : Nat} {o : Obj} (h : W.heap[g]? = some o) (hk : Kept W W1 (fun k => k = b)) (hne : g ≠ b) : W1.heap[g]? = some o := (hk.2 g (blk_lt' h) hne).trans h
section
variable {R E2 E3 E4 O : TakeR} {A : Prop} [Decidable A] {s9 cb : Bool} {b9 : List Int}
theorem leafS (h : R = if A then E2 else if s9 = true then E3 else if 0 < b9.length ∨ cb = false then E4 else O) (hn : ¬ A) (h1 : s9 = true) : R = E3 := by rw [h, if_neg hn, if_pos h1]
theorem leafL (h : R = if A then E2 else if s9 = true then E3 else if 0 < b9.length ∨ cb = false then E4 else O) (hn : ¬ A) (h1 : s9 = false) (h2 : 0 < b9.length) : R = E4 := by rw [h, if_neg hn, if_neg (fun h2 => Bool.false_ne_true (h1.symm.trans h2)), if_pos (.inl h2)]
theorem leafC (h : R = if A then E2 else if s9 = true then E3 else if 0 < b9.length ∨ cb = false then E4 else O) (hn : ¬ A) (h1 : s9 = false) (h2 : (!cb) = true) : R = E4 := by rw [h, if_neg hn, if_neg (fun h2 => Bool.false_ne_true (h1.symm.trans h2)), if_pos (.inr (by simpa using h2))]
theorem leafO (h : R = if A then E2 else if s9 = true then E3 else if 0 < b9.length ∨ cb = false then E4 else O) (hn : ¬ A) (h1 : s9 = false) (h2 : b9 = []) (h3' : (!cb) = false) : R = O := by
  have h3 : cb = true := by simpa using h3'
  subst h2
  subst h3
  rw [h, if_neg hn, if_neg (fun h2 => Bool.false_ne_true (h1.symm.trans h2)), if_neg (by simp)]
end
theorem ff_ne {b : Bool} (h : b = false) : ¬ b = true := fun h2 => Bool.false_ne_true (h.symm.trans h2)
theorem no_two {l : List Int} {b : Bool} (h : l = []) (h2 : b = true) : ¬ (0 < l.length ∨ b = false) := fun h3 => h3.elim (fun h4 => by rw [h] at h4; exact absurd h4 (by decide)) (fun h4 => Bool.false_ne_true (h4.symm.trans h2))
theorem seven {W : World} {g : Nat} {t : TypeId} {a0 a1 a2 a3 a4 a5 a6 : Value} (h : W.heap[g]? = some (.cells #[a0, a1, a2, a3, a4, a5, a6] t (0, 0))) (b0 b1 b2 b3 b4 b5 b6 : Value) :
    (((((((W.setCell ⟨g, 0, none⟩ b0).setCell ⟨g, 1, none⟩ b1).setCell ⟨g, 2, none⟩ b2).setCell ⟨g, 3, none⟩ b3).setCell ⟨g, 4, none⟩ b4).setCell ⟨g, 5, none⟩ b5).setCell ⟨g, 6, none⟩ b6).heap[g]? = some (.cells #[b0, b1, b2, b3, b4, b5, b6] t (0, 0)) := by
  have h0 := blk_put h 0 b0 (cs' := #[b0, a1, a2, a3, a4, a5, a6]) rfl
  have h1 := blk_put h0 1 b1 (cs' := #[b0, b1, a2, a3, a4, a5, a6]) rfl
  have h2 := blk_put h1 2 b2 (cs' := #[b0, b1, b2, a3, a4, a5, a6]) rfl
  have h3 := blk_put h2 3 b3 (cs' := #[b0, b1, b2, b3, a4, a5, a6]) rfl
  have h4 := blk_put h3 4 b4 (cs' := #[b0, b1, b2, b3, b4, a5, a6]) rfl
  have h5 := blk_put h4 5 b5 (cs' := #[b0, b1, b2, b3, b4, b5, a6]) rfl
  exact blk_put h5 6 b6 (cs' := #[b0, b1, b2, b3, b4, b5, b6]) rfl
theorem R_seven {α : Type} {d : Kd α} {e base : Nat} {ok : Nat → Prop} {W : World} {v : Value} {xs : List α} {g : Nat} (h : d.R e W base ok v xs) (hne : ∀ k, ok k → k ≠ g) (b0 b1 b2 b3 b4 b5 b6 : Value) :
    d.R e (((((((W.setCell ⟨g, 0, none⟩ b0).setCell ⟨g, 1, none⟩ b1).setCell ⟨g, 2, none⟩ b2).setCell ⟨g, 3, none⟩ b3).setCell ⟨g, 4, none⟩ b4).setCell ⟨g, 5, none⟩ b5).setCell ⟨g, 6, none⟩ b6) base ok v xs :=
  Kd.R_far (Kd.R_far (Kd.R_far (Kd.R_far (Kd.R_far (Kd.R_far (Kd.R_far h (p := ⟨g, 0, none⟩) hne b0) (p := ⟨g, 1, none⟩) hne b1) (p := ⟨g, 2, none⟩) hne b2) (p := ⟨g, 3, none⟩) hne b3) (p := ⟨g, 4, none⟩) hne b4) (p := ⟨g, 5, none⟩) hne b5) (p := ⟨g, 6, none⟩) hne b6
theorem below_seven {W0 W : World} {g : Nat} (h : Below W0.heap.size W0 W) (hb : W0.heap.size ≤ g) (b0 b1 b2 b3 b4 b5 b6 : Value) : Below W0.heap.size W0 (((((((W.setCell ⟨g, 0, none⟩ b0).setCell ⟨g, 1, none⟩ b1).setCell ⟨g, 2, none⟩ b2).setCell ⟨g, 3, none⟩ b3).setCell ⟨g, 4, none⟩ b4).setCell ⟨g, 5, none⟩ b5).setCell ⟨g, 6, none⟩ b6) :=
  below_set (below_set (below_set (below_set (below_set (below_set (below_set h hb) hb) hb) hb) hb) hb) hb
end Go.Proofs.Ytimhllaahihhgaa.PA
