/- The reference's reader of numbers: what it comes to in the words of the program's own reader. No condition but the hypotheses that each theorem states. -/
import Derived.Test.YtimhllaahihhgaaRM
namespace Go.Proofs.Ytimhllaahihhgaa.PA
open Go.RowKit Go.Proofs.YtimhllaahihhgaaW.PrintWords Go.Proofs.YtimhllaahihhgaaW.PrintLast Go.Proofs.YtimhllaahihhgaaW.PrintMore
set_option linter.unusedVariables false
set_option linter.unusedSimpArgs false
theorem wrap64_in' (n : Int) (h : -9223372036854775808 ≤ n ∧ n ≤ 9223372036854775807) : wrap64 n = n := by unfold wrap64; omega
theorem rd_part {B : List Int} {a n i : Nat} (hi : i < n) : rd ((B.drop a).take n) (i : Int) = rd B ((a + i : Nat) : Int) := by
  unfold rd
  rw [List.getD_eq_getElem?_getD, List.getD_eq_getElem?_getD]
  rw [show ((a + i : Nat) : Int).toNat = a + i from Int.toNat_natCast _, show ((i : Nat) : Int).toNat = i from Int.toNat_natCast _]
  simp [List.getElem?_take, List.getElem?_drop, hi]
theorem num_step (k : Nat) (n acc : Int) (a i : Nat) (B : List Int) (hB : Bytes B) (hl : B.length < 4611686018427387904) (h : a + i < B.length) (hacc : 0 ≤ acc ∧ acc < 1099511627776) :
    bautaref03_R_num.l0 (k + 1) n acc (i : Int) B (a : Int) false = bautaref03_R_num.l0 k n (acc * 256 + rd B ((a + i : Nat) : Int)) ((i : Int) - 1) B (a : Int) false := by
  have h1 : wrap64 ((a : Int) + (i : Int)) = ((a + i : Nat) : Int) := by rw [wrap64_in' _ (by omega)]; omega
  have hr := rd_bytes hB ((a + i : Nat) : Int)
  rw [bautaref03_R_num.l0, if_pos (by omega), h1, if_pos (by omega), if_pos (by omega), wrap64_in' (rd B _) (by omega), wrap64_in' (acc * 256) (by omega), wrap64_in' _ (by omega), wrap64_in' _ (by omega)]
theorem num_end (k : Nat) (n acc : Int) (a : Nat) (B : List Int) (h : (a : Int) + n < 9223372036854775807) (hn : 0 ≤ n) : bautaref03_R_num.l0 (k + 1) n acc (-1) B (a : Int) false = some (acc, (a : Int) + n, false) := by
  rw [bautaref03_R_num.l0, if_neg (by omega), wrap64_in' _ (by omega)]
/-- A number of so many bytes, the lowest first. -/
def numV (n : Nat) (l : List Int) : Int := if n = 1 then rd l 0 else if n = 2 then rd l 0 + 256 * rd l 1 else num4 l
theorem numV_zero {n : Nat} (hn : n = 1 ∨ n = 2 ∨ n = 4) : numV n (List.replicate n 0) = 0 := by
  rcases hn with rfl | rfl | rfl <;> decide
def shAt (n a len : Nat) (sh : Bool) : Bool := if sh = true ∨ len - a < n then true else false
theorem num_eq (n a : Nat) (B : List Int) (sh : Bool) (hn : n = 1 ∨ n = 2 ∨ n = 4) (hB : Bytes B) (hl : B.length < 4611686018427387904) (ha : a ≤ B.length) :
    bautaref03_R_num.f 9 B (a : Int) sh (n : Int) = some (numV n (takeB n (B.drop a) sh).1, ((B.length - (takeB n (B.drop a) sh).2.1.length : Nat) : Int), (takeB n (B.drop a) sh).2.2) := by
  have hw : wrap64 ((B.length : Int) - (a : Int)) = ((B.length - a : Nat) : Int) := by rw [wrap64_in' _ (by omega)]; omega
  unfold bautaref03_R_num.f takeB
  rw [hw, List.length_drop]
  by_cases hs : sh = true ∨ B.length - a < n
  · rw [if_pos hs]
    simp only [numV_zero hn, List.length_drop]
    have e1 : B.length - (B.length - a) = a := by omega
    rw [e1]
    rcases hs with rfl | hs
    · split <;> simp [bautaref03_R_num.j0]
    · rw [if_pos (by omega)]; simp [bautaref03_R_num.j0]
  · have hs1 : sh = false := by cases sh with | true => exact absurd (.inl rfl) hs | false => rfl
    have hs2 : ¬ B.length - a < n := fun h => hs (.inr h)
    rw [if_neg hs, if_neg (by omega)]
    subst hs1
    simp only [List.length_drop]
    have e1 : B.length - (B.length - a - n) = a + n := by omega
    rw [e1, bautaref03_R_num.j0, if_neg (by decide)]
    have r0 := rd_bytes hB ((a + 0 : Nat) : Int)
    have r1 := rd_bytes hB ((a + 1 : Nat) : Int)
    have r2 := rd_bytes hB ((a + 2 : Nat) : Int)
    have r3 := rd_bytes hB ((a + 3 : Nat) : Int)
    rcases hn with rfl | rfl | rfl
    · rw [show wrap64 (((1 : Nat) : Int) - 1) = ((0 : Nat) : Int) by rw [wrap64_in' _ (by omega)]; omega, num_step _ _ _ _ 0 _ hB hl (by omega) (by omega), show ((0 : Nat) : Int) - 1 = -1 by decide, num_end _ _ _ _ _ (by omega) (by omega)]
      have p0 := rd_part (B := B) (a := a) (n := 1) (i := 0) (by omega)
      rw [show ((0 : Nat) : Int) = (0 : Int) from rfl] at p0
      simp [numV, p0]
    · rw [show wrap64 (((2 : Nat) : Int) - 1) = ((1 : Nat) : Int) by rw [wrap64_in' _ (by omega)]; omega, num_step _ _ _ _ 1 _ hB hl (by omega) (by omega), show ((1 : Nat) : Int) - 1 = ((0 : Nat) : Int) by decide, num_step _ _ _ _ 0 _ hB hl (by omega) (by omega), show ((0 : Nat) : Int) - 1 = -1 by decide, num_end _ _ _ _ _ (by omega) (by omega)]
      have p0 := rd_part (B := B) (a := a) (n := 2) (i := 0) (by omega)
      have p1 := rd_part (B := B) (a := a) (n := 2) (i := 1) (by omega)
      rw [show ((0 : Nat) : Int) = (0 : Int) from rfl] at p0
      rw [show ((1 : Nat) : Int) = (1 : Int) from rfl] at p1
      have hV : numV 2 ((B.drop a).take 2) = rd B ((a + 0 : Nat) : Int) + 256 * rd B ((a + 1 : Nat) : Int) := by unfold numV; rw [if_neg (by decide), if_pos rfl, p0, p1]
      rw [hV]
      congr 2
      omega
    · rw [show wrap64 (((4 : Nat) : Int) - 1) = ((3 : Nat) : Int) by rw [wrap64_in' _ (by omega)]; omega, num_step _ _ _ _ 3 _ hB hl (by omega) (by omega), show ((3 : Nat) : Int) - 1 = ((2 : Nat) : Int) by decide, num_step _ _ _ _ 2 _ hB hl (by omega) (by omega), show ((2 : Nat) : Int) - 1 = ((1 : Nat) : Int) by decide,
        num_step _ _ _ _ 1 _ hB hl (by omega) (by omega), show ((1 : Nat) : Int) - 1 = ((0 : Nat) : Int) by decide, num_step _ _ _ _ 0 _ hB hl (by omega) (by omega), show ((0 : Nat) : Int) - 1 = -1 by decide, num_end _ _ _ _ _ (by omega) (by omega)]
      have p0 := rd_part (B := B) (a := a) (n := 4) (i := 0) (by omega)
      have p1 := rd_part (B := B) (a := a) (n := 4) (i := 1) (by omega)
      have p2 := rd_part (B := B) (a := a) (n := 4) (i := 2) (by omega)
      have p3 := rd_part (B := B) (a := a) (n := 4) (i := 3) (by omega)
      rw [show ((0 : Nat) : Int) = (0 : Int) from rfl] at p0
      rw [show ((1 : Nat) : Int) = (1 : Int) from rfl] at p1
      rw [show ((2 : Nat) : Int) = (2 : Int) from rfl] at p2
      rw [show ((3 : Nat) : Int) = (3 : Int) from rfl] at p3
      have hV : numV 4 ((B.drop a).take 4) = rd B ((a + 0 : Nat) : Int) + 256 * rd B ((a + 1 : Nat) : Int) + 65536 * rd B ((a + 2 : Nat) : Int) + 16777216 * rd B ((a + 3 : Nat) : Int) := by
        unfold numV; rw [if_neg (by decide), if_neg (by decide), num4_eq ((hB.drop a).take 4), p0, p1, p2, p3]
      rw [hV]
      congr 2
      omega
/-- The reference's reader of the bytes B, as what is left, and whether they ended. -/
def RS (w0 w : World) (g : Nat) (B bs : List Int) (sh : Bool) : Prop := ∃ a : Nat, a ≤ B.length ∧ bs = B.drop a ∧ IsX w0 w g B (a : Int) sh
theorem RS.of_take {w0 w : World} {g n a : Nat} {B : List Int} {sh : Bool} (ha : a ≤ B.length) (h : IsX w0 w g B ((B.length - (takeB n (B.drop a) sh).2.1.length : Nat) : Int) (takeB n (B.drop a) sh).2.2) : RS w0 w g B (takeB n (B.drop a) sh).2.1 (takeB n (B.drop a) sh).2.2 := by
  refine ⟨_, by omega, ?_, h⟩
  unfold takeB
  split
  · simp only [List.length_drop]; rw [show B.length - (B.length - a) = a by omega]
  · rename_i hs
    have hs2 : ¬ (B.drop a).length < n := fun h => hs (.inr h)
    rw [List.length_drop] at hs2
    simp only [List.length_drop, List.drop_drop]
    congr 1
    omega
theorem RS.alloc {w0 w : World} {g : Nat} {B bs : List Int} {sh : Bool} (h : RS w0 w g B bs sh) (o : Obj) : RS w0 (w.alloc o) g B bs sh := by obtain ⟨a, h1, h2, h3⟩ := h; exact ⟨a, h1, h2, h3.alloc o⟩
theorem RS.drew {w0 w : World} {g : Nat} {B bs : List Int} {sh : Bool} (h : RS w0 w g B bs sh) : RS w0 w.drew g B bs sh := h
theorem RS.far {w0 w : World} {g : Nat} {B bs : List Int} {sh : Bool} {p : Addr} (h : RS w0 w g B bs sh) (hne : g ≠ p.block) (u : Value) : RS w0 (w.setCell p u) g B bs sh := by obtain ⟨a, h1, h2, h3⟩ := h; exact ⟨a, h1, h2, h3.far hne u⟩
theorem RS.below {w0 w w1 : World} {g : Nat} {B bs : List Int} {sh : Bool} (h : RS w0 w g B bs sh) (hb : Below w.heap.size w w1) : RS w0 w1 g B bs sh := by obtain ⟨a, h1, h2, h3⟩ := h; exact ⟨a, h1, h2, h3.below hb⟩
theorem RS.grown {w0 w w1 : World} {g : Nat} {B bs : List Int} {sh : Bool} {row : Option Nat} (h : RS w0 w g B bs sh) (hw : w.grownBy w1 row) (hne : some g ≠ row) : RS w0 w1 g B bs sh := by obtain ⟨a, h1, h2, h3⟩ := h; exact ⟨a, h1, h2, h3.grown hw hne⟩
theorem R_num.calls (n : Nat) (g : Nat) (B bs : List Int) (sh : Bool) (w0 w : World) (hI : RS w0 w g B bs sh) (hBe : Below w0.heap.size w0 w) (hB : Bytes B) (hl : B.length < 4611686018427387904) (hn : n = 1 ∨ n = 2 ∨ n = 4) :
    Calls Try.prog 29 #[.pointer (some ⟨g, 0, none⟩), .int .i64 (n : Int)] w fun e w' => e = .returned (.int .i64 (numV n (takeB n bs sh).1)) ∧ RS w0 w' g B (takeB n bs sh).2.1 (takeB n bs sh).2.2 ∧ Below w0.heap.size w0 w' ∧ KeepBut w w' g none := by
  obtain ⟨a, ha, rfl, hI⟩ := hI
  refine (R_numX.calls 9 g B _ sh _ _ _ _ w0 w hI hBe (num_eq n a B sh hn hB hl ha)).mono ?_
  rintro e w1 ⟨rfl, h1, h2, h3⟩
  exact ⟨rfl, RS.of_take ha h1, h2, h3⟩
end Go.Proofs.Ytimhllaahihhgaa.PA
