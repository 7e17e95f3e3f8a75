/- Written by this session's own program (wip/tools/pr.sh) for this claim: functions of the Go program as plain Lean functions, and that the calls come to what these say; in a Law text: the given statement. Conditions: none but the hypotheses that each theorem states. -/
import Derived.Test.YtcpcahhnkojolaaPBx0
import Derived.Test.YtcpcahhnkojolaaPBx5
namespace Go.Proofs.Ytcpcahhnkojolaa.PB
open Go.RowKit Go.Proofs.YtcpcahhnkojolaaW.PrintWords Go.Proofs.YtcpcahhnkojolaaW.PrintLast Go.Proofs.YtcpcahhnkojolaaW.PrintMore
attribute [local go_sem] max2_int min2_int max_two min_two max_three min_three max_four min_four   -- for this text's walks alone
set_option linter.unusedVariables false
set_option linter.unusedSimpArgs false

/-! ### bautaref01_Shift: function 32 -/
mutual
def bautaref01_Shift.j0 : Nat → Int → Int → Int → Bool → Bool → Option (Int × Bool)
  | 0, _, _, _, _, _ => none
  | k + 1, x0, x1, x2, x3, x19 => if x19 = true then (some (0, false)) else (if x0 = 3 then (bautaref01_Shift.j1 k x0 x1 x2 x3 (decide (x2 > 64))) else (bautaref01_Shift.j1 k x0 x1 x2 x3 false))
def bautaref01_Shift.j1 : Nat → Int → Int → Int → Bool → Bool → Option (Int × Bool)
  | 0, _, _, _, _, _ => none
  | k + 1, x0, x1, x2, x3, x25 => if x25 = true then (bautaref01_Shift.j2 k x0 x1 ((32 + (Int.tmod x2 32)) % 4294967296) x3) else (bautaref01_Shift.j2 k x0 x1 x2 x3)
def bautaref01_Shift.j2 : Nat → Int → Int → Int → Bool → Option (Int × Bool)
  | 0, _, _, _, _ => none
  | k + 1, x0, x1, x2, x3 => (bautaref01_Bits.f k x1).bind fun t298 => (bautaref01_Shift.l0 k x0 x2 x3 t298 0)
def bautaref01_Shift.l0 : Nat → Int → Int → Bool → List Bool → Int → Option (Int × Bool)
  | 0, _, _, _, _, _ => none
  | k + 1, x0, x2, x3, x10, x11 => if x11 < x2 then (bautaref01_Shift.j4 k x0 x2 x3 x10 x11 (decide (x11 < 70))) else (bautaref01_Shift.j4 k x0 x2 x3 x10 x11 false)
def bautaref01_Shift.j4 : Nat → Int → Int → Bool → List Bool → Int → Bool → Option (Int × Bool)
  | 0, _, _, _, _, _, _ => none
  | k + 1, x0, x2, x3, x10, x11, x37 => if x37 = true then (if 32 ≤ 281474976710656 then (bautaref01_Shift.l1 k x0 x2 x10 x11 (List.replicate 32 false) 0) else (none)) else ((bautaref01_Word.f k x10).bind fun t301 => (some (t301, x3)))
def bautaref01_Shift.l1 : Nat → Int → Int → List Bool → Int → List Bool → Int → Option (Int × Bool)
  | 0, _, _, _, _, _, _ => none
  | k + 1, x0, x2, x10, x11, x12, x13 => if x13 < 32 then (if x0 = 0 then (bautaref01_Shift.j6 k x0 x2 x10 x11 x12 x13 (decide (x13 > 0))) else (bautaref01_Shift.j6 k x0 x2 x10 x11 x12 x13 false)) else (if x0 = 0 then (if 31 < (x10.length : Int) then (bautaref01_Shift.j7 k x0 x2 (rdOf false x10 31) x10 x11 x12) else (none)) else (if 0 < (x10.length : Int) then (bautaref01_Shift.j7 k x0 x2 (rdOf false x10 0) x10 x11 x12) else (none)))
def bautaref01_Shift.j6 : Nat → Int → Int → List Bool → Int → List Bool → Int → Bool → Option (Int × Bool)
  | 0, _, _, _, _, _, _, _ => none
  | k + 1, x0, x2, x10, x11, x12, x13, x50 => if x50 = true then (if 0 ≤ (wrap64 (x13 - 1)) then (if (wrap64 (x13 - 1)) < (x10.length : Int) then (if 0 ≤ x13 then (if x13 < (x12.length : Int) then ((some (x12.set (x13 : Int).toNat (rdOf false x10 (wrap64 (x13 - 1))) : List Bool)).bind fun y306 => (if x0 > 0 then (if x13 < 31 then (if 0 ≤ (wrap64 (x13 + 1)) then (if (wrap64 (x13 + 1)) < (x10.length : Int) then (bautaref01_Shift.l1 k x0 x2 x10 x11 (y306.set (x13 : Int).toNat (rdOf false x10 (wrap64 (x13 + 1)))) (wrap64 (x13 + 1))) else (none)) else (none)) else (bautaref01_Shift.l1 k x0 x2 x10 x11 y306 (wrap64 (x13 + 1)))) else (bautaref01_Shift.l1 k x0 x2 x10 x11 y306 (wrap64 (x13 + 1))))) else (none)) else (none)) else (none)) else (none)) else (if x0 > 0 then (if x13 < 31 then (if 0 ≤ (wrap64 (x13 + 1)) then (if (wrap64 (x13 + 1)) < (x10.length : Int) then (if 0 ≤ x13 then (if x13 < (x12.length : Int) then (bautaref01_Shift.l1 k x0 x2 x10 x11 (x12.set (x13 : Int).toNat (rdOf false x10 (wrap64 (x13 + 1)))) (wrap64 (x13 + 1))) else (none)) else (none)) else (none)) else (none)) else (bautaref01_Shift.l1 k x0 x2 x10 x11 x12 (wrap64 (x13 + 1)))) else (bautaref01_Shift.l1 k x0 x2 x10 x11 x12 (wrap64 (x13 + 1))))
def bautaref01_Shift.j7 : Nat → Int → Int → Bool → List Bool → Int → List Bool → Option (Int × Bool)
  | 0, _, _, _, _, _, _ => none
  | k + 1, x0, x2, x3, x10, x11, x12 => if x0 = 2 then (if 31 < (x10.length : Int) then (if 31 < (x12.length : Int) then ((some (x12.set (31 : Int).toNat (rdOf false x10 31) : List Bool)).bind fun y314 => (if x0 = 3 then (if 0 < (x10.length : Int) then (bautaref01_Shift.l0 k x0 x2 x3 (y314.set (31 : Int).toNat (rdOf false x10 0)) ((x11 + 1) % 4294967296)) else (none)) else (bautaref01_Shift.l0 k x0 x2 x3 y314 ((x11 + 1) % 4294967296)))) else (none)) else (none)) else (if x0 = 3 then (if 0 < (x10.length : Int) then (if 31 < (x12.length : Int) then (bautaref01_Shift.l0 k x0 x2 x3 (x12.set (31 : Int).toNat (rdOf false x10 0)) ((x11 + 1) % 4294967296)) else (none)) else (none)) else (bautaref01_Shift.l0 k x0 x2 x3 x12 ((x11 + 1) % 4294967296)))
end
def bautaref01_Shift.f (k : Nat) (a0 : Int) (a1 : Int) (a2 : Int) (a3 : Bool) : Option (Int × Bool) := if a0 < 0 then (bautaref01_Shift.j0 k a0 a1 a2 a3 true) else (bautaref01_Shift.j0 k a0 a1 a2 a3 (decide (a0 > 3)))
theorem bautaref01_Shift.mono_l : ∀ k, (∀ y0 y1 y2 y3 y4, LeO (bautaref01_Shift.j0 k y0 y1 y2 y3 y4) (bautaref01_Shift.j0 (k + 1) y0 y1 y2 y3 y4)) ∧ (∀ y0 y1 y2 y3 y4, LeO (bautaref01_Shift.j1 k y0 y1 y2 y3 y4) (bautaref01_Shift.j1 (k + 1) y0 y1 y2 y3 y4)) ∧ (∀ y0 y1 y2 y3, LeO (bautaref01_Shift.j2 k y0 y1 y2 y3) (bautaref01_Shift.j2 (k + 1) y0 y1 y2 y3)) ∧ (∀ y0 y1 y2 y3 y4, LeO (bautaref01_Shift.l0 k y0 y1 y2 y3 y4) (bautaref01_Shift.l0 (k + 1) y0 y1 y2 y3 y4)) ∧ (∀ y0 y1 y2 y3 y4 y5, LeO (bautaref01_Shift.j4 k y0 y1 y2 y3 y4 y5) (bautaref01_Shift.j4 (k + 1) y0 y1 y2 y3 y4 y5)) ∧ (∀ y0 y1 y2 y3 y4 y5, LeO (bautaref01_Shift.l1 k y0 y1 y2 y3 y4 y5) (bautaref01_Shift.l1 (k + 1) y0 y1 y2 y3 y4 y5)) ∧ (∀ y0 y1 y2 y3 y4 y5 y6, LeO (bautaref01_Shift.j6 k y0 y1 y2 y3 y4 y5 y6) (bautaref01_Shift.j6 (k + 1) y0 y1 y2 y3 y4 y5 y6)) ∧ (∀ y0 y1 y2 y3 y4 y5, LeO (bautaref01_Shift.j7 k y0 y1 y2 y3 y4 y5) (bautaref01_Shift.j7 (k + 1) y0 y1 y2 y3 y4 y5))
  | 0 => ⟨fun _ _ _ _ _ r h => by simp [bautaref01_Shift.j0] at h, fun _ _ _ _ _ r h => by simp [bautaref01_Shift.j1] at h, fun _ _ _ _ r h => by simp [bautaref01_Shift.j2] at h, fun _ _ _ _ _ r h => by simp [bautaref01_Shift.l0] at h, fun _ _ _ _ _ _ r h => by simp [bautaref01_Shift.j4] at h, fun _ _ _ _ _ _ r h => by simp [bautaref01_Shift.l1] at h, fun _ _ _ _ _ _ _ r h => by simp [bautaref01_Shift.j6] at h, fun _ _ _ _ _ _ r h => by simp [bautaref01_Shift.j7] at h⟩
  | k + 1 => by
    obtain ⟨ih0, ih1, ih2, ih3, ih4, ih5, ih6, ih7⟩ := bautaref01_Shift.mono_l k
    refine ⟨?_, ?_, ?_, ?_, ?_, ?_, ?_, ?_⟩
    · intro y0 y1 y2 y3 y4
      unfold bautaref01_Shift.j0
      repeat' first
      | (with_reducible exact ih0 _ _ _ _ _)
      | (with_reducible exact ih1 _ _ _ _ _)
      | (with_reducible exact ih2 _ _ _ _)
      | (with_reducible exact ih3 _ _ _ _ _)
      | (with_reducible exact ih4 _ _ _ _ _ _)
      | (with_reducible exact ih5 _ _ _ _ _ _)
      | (with_reducible exact ih6 _ _ _ _ _ _ _)
      | (with_reducible exact ih7 _ _ _ _ _ _)
      | (with_reducible exact bautaref01_Bits.mono _ _)
      | (with_reducible exact bautaref01_Word.mono _ _)
      | (with_reducible exact LeO.refl _)
      | (with_reducible exact LeO.none _)
      | (with_reducible refine LeO.ite ?_ ?_)
      | (with_reducible refine LeO.bind ?_ (fun _ => ?_))
      | exact ih0 _ _ _ _ _
      | exact ih1 _ _ _ _ _
      | exact ih2 _ _ _ _
      | exact ih3 _ _ _ _ _
      | exact ih4 _ _ _ _ _ _
      | exact ih5 _ _ _ _ _ _
      | exact ih6 _ _ _ _ _ _ _
      | exact ih7 _ _ _ _ _ _
      | exact bautaref01_Bits.mono _ _
      | exact bautaref01_Word.mono _ _
      | exact LeO.none _
      | refine LeO.ite ?_ ?_
      | refine LeO.bind ?_ (fun _ => ?_)
    · intro y0 y1 y2 y3 y4
      unfold bautaref01_Shift.j1
      repeat' first
      | (with_reducible exact ih0 _ _ _ _ _)
      | (with_reducible exact ih1 _ _ _ _ _)
      | (with_reducible exact ih2 _ _ _ _)
      | (with_reducible exact ih3 _ _ _ _ _)
      | (with_reducible exact ih4 _ _ _ _ _ _)
      | (with_reducible exact ih5 _ _ _ _ _ _)
      | (with_reducible exact ih6 _ _ _ _ _ _ _)
      | (with_reducible exact ih7 _ _ _ _ _ _)
      | (with_reducible exact bautaref01_Bits.mono _ _)
      | (with_reducible exact bautaref01_Word.mono _ _)
      | (with_reducible exact LeO.refl _)
      | (with_reducible exact LeO.none _)
      | (with_reducible refine LeO.ite ?_ ?_)
      | (with_reducible refine LeO.bind ?_ (fun _ => ?_))
      | exact ih0 _ _ _ _ _
      | exact ih1 _ _ _ _ _
      | exact ih2 _ _ _ _
      | exact ih3 _ _ _ _ _
      | exact ih4 _ _ _ _ _ _
      | exact ih5 _ _ _ _ _ _
      | exact ih6 _ _ _ _ _ _ _
      | exact ih7 _ _ _ _ _ _
      | exact bautaref01_Bits.mono _ _
      | exact bautaref01_Word.mono _ _
      | exact LeO.none _
      | refine LeO.ite ?_ ?_
      | refine LeO.bind ?_ (fun _ => ?_)
    · intro y0 y1 y2 y3
      unfold bautaref01_Shift.j2
      repeat' first
      | (with_reducible exact ih0 _ _ _ _ _)
      | (with_reducible exact ih1 _ _ _ _ _)
      | (with_reducible exact ih2 _ _ _ _)
      | (with_reducible exact ih3 _ _ _ _ _)
      | (with_reducible exact ih4 _ _ _ _ _ _)
      | (with_reducible exact ih5 _ _ _ _ _ _)
      | (with_reducible exact ih6 _ _ _ _ _ _ _)
      | (with_reducible exact ih7 _ _ _ _ _ _)
      | (with_reducible exact bautaref01_Bits.mono _ _)
      | (with_reducible exact bautaref01_Word.mono _ _)
      | (with_reducible exact LeO.refl _)
      | (with_reducible exact LeO.none _)
      | (with_reducible refine LeO.ite ?_ ?_)
      | (with_reducible refine LeO.bind ?_ (fun _ => ?_))
      | exact ih0 _ _ _ _ _
      | exact ih1 _ _ _ _ _
      | exact ih2 _ _ _ _
      | exact ih3 _ _ _ _ _
      | exact ih4 _ _ _ _ _ _
      | exact ih5 _ _ _ _ _ _
      | exact ih6 _ _ _ _ _ _ _
      | exact ih7 _ _ _ _ _ _
      | exact bautaref01_Bits.mono _ _
      | exact bautaref01_Word.mono _ _
      | exact LeO.none _
      | refine LeO.ite ?_ ?_
      | refine LeO.bind ?_ (fun _ => ?_)
    · intro y0 y1 y2 y3 y4
      unfold bautaref01_Shift.l0
      repeat' first
      | (with_reducible exact ih0 _ _ _ _ _)
      | (with_reducible exact ih1 _ _ _ _ _)
      | (with_reducible exact ih2 _ _ _ _)
      | (with_reducible exact ih3 _ _ _ _ _)
      | (with_reducible exact ih4 _ _ _ _ _ _)
      | (with_reducible exact ih5 _ _ _ _ _ _)
      | (with_reducible exact ih6 _ _ _ _ _ _ _)
      | (with_reducible exact ih7 _ _ _ _ _ _)
      | (with_reducible exact bautaref01_Bits.mono _ _)
      | (with_reducible exact bautaref01_Word.mono _ _)
      | (with_reducible exact LeO.refl _)
      | (with_reducible exact LeO.none _)
      | (with_reducible refine LeO.ite ?_ ?_)
      | (with_reducible refine LeO.bind ?_ (fun _ => ?_))
      | exact ih0 _ _ _ _ _
      | exact ih1 _ _ _ _ _
      | exact ih2 _ _ _ _
      | exact ih3 _ _ _ _ _
      | exact ih4 _ _ _ _ _ _
      | exact ih5 _ _ _ _ _ _
      | exact ih6 _ _ _ _ _ _ _
      | exact ih7 _ _ _ _ _ _
      | exact bautaref01_Bits.mono _ _
      | exact bautaref01_Word.mono _ _
      | exact LeO.none _
      | refine LeO.ite ?_ ?_
      | refine LeO.bind ?_ (fun _ => ?_)
    · intro y0 y1 y2 y3 y4 y5
      unfold bautaref01_Shift.j4
      repeat' first
      | (with_reducible exact ih0 _ _ _ _ _)
      | (with_reducible exact ih1 _ _ _ _ _)
      | (with_reducible exact ih2 _ _ _ _)
      | (with_reducible exact ih3 _ _ _ _ _)
      | (with_reducible exact ih4 _ _ _ _ _ _)
      | (with_reducible exact ih5 _ _ _ _ _ _)
      | (with_reducible exact ih6 _ _ _ _ _ _ _)
      | (with_reducible exact ih7 _ _ _ _ _ _)
      | (with_reducible exact bautaref01_Bits.mono _ _)
      | (with_reducible exact bautaref01_Word.mono _ _)
      | (with_reducible exact LeO.refl _)
      | (with_reducible exact LeO.none _)
      | (with_reducible refine LeO.ite ?_ ?_)
      | (with_reducible refine LeO.bind ?_ (fun _ => ?_))
      | exact ih0 _ _ _ _ _
      | exact ih1 _ _ _ _ _
      | exact ih2 _ _ _ _
      | exact ih3 _ _ _ _ _
      | exact ih4 _ _ _ _ _ _
      | exact ih5 _ _ _ _ _ _
      | exact ih6 _ _ _ _ _ _ _
      | exact ih7 _ _ _ _ _ _
      | exact bautaref01_Bits.mono _ _
      | exact bautaref01_Word.mono _ _
      | exact LeO.none _
      | refine LeO.ite ?_ ?_
      | refine LeO.bind ?_ (fun _ => ?_)
    · intro y0 y1 y2 y3 y4 y5
      unfold bautaref01_Shift.l1
      repeat' first
      | (with_reducible exact ih0 _ _ _ _ _)
      | (with_reducible exact ih1 _ _ _ _ _)
      | (with_reducible exact ih2 _ _ _ _)
      | (with_reducible exact ih3 _ _ _ _ _)
      | (with_reducible exact ih4 _ _ _ _ _ _)
      | (with_reducible exact ih5 _ _ _ _ _ _)
      | (with_reducible exact ih6 _ _ _ _ _ _ _)
      | (with_reducible exact ih7 _ _ _ _ _ _)
      | (with_reducible exact bautaref01_Bits.mono _ _)
      | (with_reducible exact bautaref01_Word.mono _ _)
      | (with_reducible exact LeO.refl _)
      | (with_reducible exact LeO.none _)
      | (with_reducible refine LeO.ite ?_ ?_)
      | (with_reducible refine LeO.bind ?_ (fun _ => ?_))
      | exact ih0 _ _ _ _ _
      | exact ih1 _ _ _ _ _
      | exact ih2 _ _ _ _
      | exact ih3 _ _ _ _ _
      | exact ih4 _ _ _ _ _ _
      | exact ih5 _ _ _ _ _ _
      | exact ih6 _ _ _ _ _ _ _
      | exact ih7 _ _ _ _ _ _
      | exact bautaref01_Bits.mono _ _
      | exact bautaref01_Word.mono _ _
      | exact LeO.none _
      | refine LeO.ite ?_ ?_
      | refine LeO.bind ?_ (fun _ => ?_)
    · intro y0 y1 y2 y3 y4 y5 y6
      unfold bautaref01_Shift.j6
      repeat' first
      | (with_reducible exact ih0 _ _ _ _ _)
      | (with_reducible exact ih1 _ _ _ _ _)
      | (with_reducible exact ih2 _ _ _ _)
      | (with_reducible exact ih3 _ _ _ _ _)
      | (with_reducible exact ih4 _ _ _ _ _ _)
      | (with_reducible exact ih5 _ _ _ _ _ _)
      | (with_reducible exact ih6 _ _ _ _ _ _ _)
      | (with_reducible exact ih7 _ _ _ _ _ _)
      | (with_reducible exact bautaref01_Bits.mono _ _)
      | (with_reducible exact bautaref01_Word.mono _ _)
      | (with_reducible exact LeO.refl _)
      | (with_reducible exact LeO.none _)
      | (with_reducible refine LeO.ite ?_ ?_)
      | (with_reducible refine LeO.bind ?_ (fun _ => ?_))
      | exact ih0 _ _ _ _ _
      | exact ih1 _ _ _ _ _
      | exact ih2 _ _ _ _
      | exact ih3 _ _ _ _ _
      | exact ih4 _ _ _ _ _ _
      | exact ih5 _ _ _ _ _ _
      | exact ih6 _ _ _ _ _ _ _
      | exact ih7 _ _ _ _ _ _
      | exact bautaref01_Bits.mono _ _
      | exact bautaref01_Word.mono _ _
      | exact LeO.none _
      | refine LeO.ite ?_ ?_
      | refine LeO.bind ?_ (fun _ => ?_)
    · intro y0 y1 y2 y3 y4 y5
      unfold bautaref01_Shift.j7
      repeat' first
      | (with_reducible exact ih0 _ _ _ _ _)
      | (with_reducible exact ih1 _ _ _ _ _)
      | (with_reducible exact ih2 _ _ _ _)
      | (with_reducible exact ih3 _ _ _ _ _)
      | (with_reducible exact ih4 _ _ _ _ _ _)
      | (with_reducible exact ih5 _ _ _ _ _ _)
      | (with_reducible exact ih6 _ _ _ _ _ _ _)
      | (with_reducible exact ih7 _ _ _ _ _ _)
      | (with_reducible exact bautaref01_Bits.mono _ _)
      | (with_reducible exact bautaref01_Word.mono _ _)
      | (with_reducible exact LeO.refl _)
      | (with_reducible exact LeO.none _)
      | (with_reducible refine LeO.ite ?_ ?_)
      | (with_reducible refine LeO.bind ?_ (fun _ => ?_))
      | exact ih0 _ _ _ _ _
      | exact ih1 _ _ _ _ _
      | exact ih2 _ _ _ _
      | exact ih3 _ _ _ _ _
      | exact ih4 _ _ _ _ _ _
      | exact ih5 _ _ _ _ _ _
      | exact ih6 _ _ _ _ _ _ _
      | exact ih7 _ _ _ _ _ _
      | exact bautaref01_Bits.mono _ _
      | exact bautaref01_Word.mono _ _
      | exact LeO.none _
      | refine LeO.ite ?_ ?_
      | refine LeO.bind ?_ (fun _ => ?_)
theorem bautaref01_Shift.mono : ∀ a0 a1 a2 a3 k, LeO (bautaref01_Shift.f k a0 a1 a2 a3) (bautaref01_Shift.f (k + 1) a0 a1 a2 a3) := by
  intro a0 a1 a2 a3 k
  obtain ⟨ih0, ih1, ih2, ih3, ih4, ih5, ih6, ih7⟩ := bautaref01_Shift.mono_l k
  unfold bautaref01_Shift.f
  repeat' first
      | (with_reducible exact ih0 _ _ _ _ _)
      | (with_reducible exact ih1 _ _ _ _ _)
      | (with_reducible exact ih2 _ _ _ _)
      | (with_reducible exact ih3 _ _ _ _ _)
      | (with_reducible exact ih4 _ _ _ _ _ _)
      | (with_reducible exact ih5 _ _ _ _ _ _)
      | (with_reducible exact ih6 _ _ _ _ _ _ _)
      | (with_reducible exact ih7 _ _ _ _ _ _)
      | (with_reducible exact bautaref01_Bits.mono _ _)
      | (with_reducible exact bautaref01_Word.mono _ _)
      | (with_reducible exact LeO.refl _)
      | (with_reducible exact LeO.none _)
      | (with_reducible refine LeO.ite ?_ ?_)
      | (with_reducible refine LeO.bind ?_ (fun _ => ?_))
      | exact ih0 _ _ _ _ _
      | exact ih1 _ _ _ _ _
      | exact ih2 _ _ _ _
      | exact ih3 _ _ _ _ _
      | exact ih4 _ _ _ _ _ _
      | exact ih5 _ _ _ _ _ _
      | exact ih6 _ _ _ _ _ _ _
      | exact ih7 _ _ _ _ _ _
      | exact bautaref01_Bits.mono _ _
      | exact bautaref01_Word.mono _ _
      | exact LeO.none _
      | refine LeO.ite ?_ ?_
      | refine LeO.bind ?_ (fun _ => ?_)
set_option maxHeartbeats 8000000 in
set_option maxRecDepth 100000 in
theorem bautaref01_Shift.calls (k : Nat) (a0 : Int) (a1 : Int) (a2 : Int) (a3 : Bool) (r1 : Int) (r2 : Bool) (w : World) (h : bautaref01_Shift.f k a0 a1 a2 a3 = some (r1, r2)) :
    Calls Try.prog 32 #[.int .i64 a0, .int .u32 a1, .int .u32 a2, .bool a3] w fun e w' => e = .returned (.tuple #[.int .u32 r1, .bool r2]) ∧ Below w.heap.size w w' := by
  have HB := Aside0.mk (Below.refl w.heap.size w)
  have H : (if a0 < 0 then (bautaref01_Shift.j0 k a0 a1 a2 a3 true) else (bautaref01_Shift.j0 k a0 a1 a2 a3 (decide (a0 > 3)))) = some (r1, r2) := h
  clear h
  have HC5 := Aside0.mk H
  clear H
  go_enter Try.func32, Try.ntmps32
  go_upto_region 1 with (fail)
  go_cut [19] (fun v19 wc => ∃ (kq : Nat) (x19_4 : Bool), v19 = .bool x19_4 ∧ Aside0 (bautaref01_Shift.j0 kq a0 a1 a2 a3 x19_4 = some (r1, r2)) ∧ Aside0 (kq ≤ k) ∧ Aside0 (Below w.heap.size w wc))
  case first =>
    have H := HC5.out
    clear HC5
    by_cases c6 : a0 < 0
    · rw [if_pos c6] at H
      have c6b0 : decide (a0 < 0) = true := decide_eq_true c6
      clear c6
      (first | rw [c6b0] | rw [c6b1] | (simp only [i64_w, i32_w]; rw [c6b0]) | skip)
      have H' := Aside0.mk H
      clear H
      go_wp2
      go_meet
      case rel => exact ⟨_, (true), (by first | rfl | (simp; done) | (simp [*]; done) | (simp; omega)), H', ⟨by first | omega | exact Nat.le_refl _⟩, ⟨by repeat (first | (with_reducible first | exact HB.out | apply below_alloc | apply pw_below_drewN | apply below_drew1) | exact HB.out)⟩⟩
    · rw [if_neg c6] at H
      have c6b0 : decide (a0 < 0) = false := decide_eq_false c6
      clear c6
      (first | rw [c6b0] | rw [c6b1] | (simp only [i64_w, i32_w]; rw [c6b0]) | skip)
      have H' := Aside0.mk H
      clear H
      go_wp2
      go_meet
      case rel => exact ⟨_, (decide (a0 > 3)), (by first | rfl | (simp; done) | (simp [*]; done) | (simp; omega)), H', ⟨by first | omega | exact Nat.le_refl _⟩, ⟨by repeat (first | (with_reducible first | exact HB.out | apply below_alloc | apply pw_below_drewN | apply below_drew1) | exact HB.out)⟩⟩
  case rest =>
    clear HC5
    try clear p2
    try clear c3
    try clear c6
    try clear c6b0
    try clear c6b1
    obtain ⟨kq, x19_4, rfl, HA, HJ4, HB⟩ := hcut
    cases kq with
    | zero => exact absurd HA.out (by simp [bautaref01_Shift.j0])
    | succ kj4 =>
      have H := HA.out
      clear HA
      simp only [bautaref01_Shift.j0] at H
      by_cases c7 : x19_4 = true
      · subst c7
        have H1 : (some (0, false)) = some (r1, r2) := by rw [if_pos rfl] at H; exact H
        clear H
        have H := H1
        clear H1
        simp only [Option.some.injEq, Prod.mk.injEq] at H
        obtain ⟨rfl, rfl⟩ := H
        go_wp2
        go_ret2
        exact ⟨by first | rfl | (simp [errW_none, errW_some] <;> rfl) | (simp [*, errW_none, errW_some] <;> rfl), by repeat (first | (with_reducible first | exact HB.out | apply below_alloc | apply pw_below_drewN | apply below_drew1) | exact HB.out)⟩
      · replace c7 := Bool.eq_false_iff.mpr c7
        subst c7
        have H1 : (if a0 = 3 then (bautaref01_Shift.j1 kj4 a0 a1 a2 a3 (decide (a2 > 64))) else (bautaref01_Shift.j1 kj4 a0 a1 a2 a3 false)) = some (r1, r2) := by rw [if_neg (show ¬ (false = true) by decide)] at H; exact H
        clear H
        have H := H1
        clear H1
        have HC8 := Aside0.mk H
        clear H
        go_upto_region 3 with (fail)
        go_cut [25] (fun v25 wc => ∃ (kq : Nat) (x25_7 : Bool), v25 = .bool x25_7 ∧ Aside0 (bautaref01_Shift.j1 kq a0 a1 a2 a3 x25_7 = some (r1, r2)) ∧ Aside0 (kq ≤ kj4) ∧ Aside0 (Below w.heap.size w wc))
        case first =>
          have H := HC8.out
          clear HC8
          by_cases c9 : a0 = 3
          · rw [if_pos c9] at H
            have c9b0 : (a0 == 3) = true := beq_iff_eq.mpr c9
            have c9b1 : (a0 != 3) = false := bne_eq_false_iff_eq.mpr c9
            clear c9
            (first | rw [c9b0] | rw [c9b1] | (simp only [i64_w, i32_w]; rw [c9b0]) | skip)
            have H' := Aside0.mk H
            clear H
            go_wp2
            go_meet
            case rel => exact ⟨_, (decide (a2 > 64)), (by first | rfl | (simp; done) | (simp [*]; done) | (simp; omega)), H', ⟨by have := HJ4.out; first | omega | exact Nat.le_refl _⟩, ⟨by repeat (first | (with_reducible first | exact HB.out | apply below_alloc | apply pw_below_drewN | apply below_drew1) | exact HB.out)⟩⟩
          · rw [if_neg c9] at H
            have c9b0 : (a0 == 3) = false := beq_eq_false_iff_ne.mpr c9
            have c9b1 : (a0 != 3) = true := bne_iff_ne.mpr c9
            (first | rw [c9b0] | rw [c9b1] | (simp only [i64_w, i32_w]; rw [c9b0]) | skip)
            have H' := Aside0.mk H
            clear H
            go_wp2
            go_meet
            case rel => exact ⟨_, (false), (by first | rfl | (simp; done) | (simp [*]; done) | (simp; omega)), H', ⟨by have := HJ4.out; first | omega | exact Nat.le_refl _⟩, ⟨by repeat (first | (with_reducible first | exact HB.out | apply below_alloc | apply pw_below_drewN | apply below_drew1) | exact HB.out)⟩⟩
        case rest =>
          clear HC8
          try clear p2
          try clear c3
          try clear c6
          try clear c6b0
          try clear c6b1
          try clear c7
          try clear c9
          try clear c9b0
          try clear c9b1
          try clear p2
          obtain ⟨kq, x25_7, rfl, HA, HJ7, HB⟩ := hcut
          cases kq with
          | zero => exact absurd HA.out (by simp [bautaref01_Shift.j1])
          | succ kj7 =>
            have H := HA.out
            clear HA
            simp only [bautaref01_Shift.j1] at H
            have HC10 := Aside0.mk H
            clear H
            go_upto_if 25 with (fail)
            go_cut [2] (fun v2 wc => ∃ (kq : Nat) (x2_9 : Int), v2 = .int .u32 x2_9 ∧ Aside0 (bautaref01_Shift.j2 kq a0 a1 x2_9 a3 = some (r1, r2)) ∧ Aside0 (kq ≤ kj7) ∧ Aside0 (Below w.heap.size w wc))
            case first =>
              have H := HC10.out
              clear HC10
              by_cases c11 : x25_7 = true
              · subst c11
                have H1 : (bautaref01_Shift.j2 kj7 a0 a1 ((32 + (Int.tmod a2 32)) % 4294967296) a3) = some (r1, r2) := by rw [if_pos rfl] at H; exact H
                clear H
                have H := H1
                clear H1
                have H' := Aside0.mk H
                clear H
                go_wp2
                go_meet
                case rel => exact ⟨_, ((32 + (Int.tmod a2 32)) % 4294967296), (by first | rfl | (simp; done) | (simp [*]; done) | (simp; omega)), H', ⟨by have := HJ4.out; have := HJ7.out; first | omega | exact Nat.le_refl _⟩, ⟨by repeat (first | (with_reducible first | exact HB.out | apply below_alloc | apply pw_below_drewN | apply below_drew1) | exact HB.out)⟩⟩
              · replace c11 := Bool.eq_false_iff.mpr c11
                subst c11
                have H1 : (bautaref01_Shift.j2 kj7 a0 a1 a2 a3) = some (r1, r2) := by rw [if_neg (show ¬ (false = true) by decide)] at H; exact H
                clear H
                have H := H1
                clear H1
                have H' := Aside0.mk H
                clear H
                go_wp2
                go_meet
                case rel => exact ⟨_, (a2), (by first | rfl | (simp; done) | (simp [*]; done) | (simp; omega)), H', ⟨by have := HJ4.out; have := HJ7.out; first | omega | exact Nat.le_refl _⟩, ⟨by repeat (first | (with_reducible first | exact HB.out | apply below_alloc | apply pw_below_drewN | apply below_drew1) | exact HB.out)⟩⟩
            case rest =>
              clear HC10
              try clear c1
              try clear p2
              try clear c3
              try clear c6
              try clear c6b0
              try clear c6b1
              try clear c7
              try clear c9
              try clear c9b0
              try clear c9b1
              try clear c11
              try clear p2
              obtain ⟨kq, x2_9, rfl, HA, HJ9, HB⟩ := hcut
              cases kq with
              | zero => exact absurd HA.out (by simp [bautaref01_Shift.j2])
              | succ kj9 =>
                have H := HA.out
                clear HA
                simp only [bautaref01_Shift.j2] at H
                replace H := Option.bind_eq_some_iff.mp H
                obtain ⟨t298, A120, H⟩ := H
                replace H : (bautaref01_Shift.l0 kj9 a0 x2_9 a3 t298 0) = some (r1, r2) := H
                have A12 := Aside0.mk A120
                clear A120
                have H' := Aside0.mk H
                clear H
                go_wp2_with (first | ((with_reducible refine gate_callee (f := 34) rfl ?_); refine goesL_ (some 30) rfl rfl Try.func34 (by kernel_rfl) rfl #[.int .u32 a1] rfl (by (try simp only [List.map_toArray, List.map_cons, List.map_nil]); first | done | rfl | (simp only [List.length_drop, List.length_take]; rfl)) ?_; (with_reducible refine (bautaref01_Bits.calls kj9 a1 t298 _ A12.out).mono ?_); rintro e w13 ⟨v299, rfl, ho0, hb⟩; refine ⟨_, rfl, ?_⟩; have n0_ := Aside0.mk (Kd.R_lower ho0 (below_size (by repeat (first | (with_reducible first | exact HB.out | apply below_alloc | apply pw_below_drewN | apply below_drew1) | exact HB.out)))); have n1_ := Aside0.mk (below_step (by repeat (first | (with_reducible first | exact HB.out | apply below_alloc | apply pw_below_drewN | apply below_drew1) | exact HB.out)) hb); clear HB; have HO300 := n0_; have HB := n1_; clear n0_ n1_; (try clear hb); (try clear hb2); (try clear hk); (try clear hi); (try clear ho0)))
                go_loopg [3, 10, 11] kj9 (fun kq v3 v10 v11 w' => ∃ (x3_4 : Bool) (x10_4 : List Bool) (x11_4 : Int), v3 = .bool x3_4 ∧ v11 = .int .u32 x11_4 ∧ Aside0 (bautaref01_Shift.l0 kq a0 x2_9 x3_4 x10_4 x11_4 = some (r1, r2)) ∧ Aside0 (kq ≤ kj9) ∧ Aside0 (Kd.R Kd.bool 4 w' w.heap.size (fun _ => True) v10 x10_4) ∧ Aside0 (Below w.heap.size w w'))
                case atStart => exact ⟨(a3), (t298), (0), (by first | rfl | (simp; done) | (simp [*]; done) | (simp; omega)), (by first | rfl | (simp; done) | (simp [*]; done) | (simp; omega)), H', ⟨Nat.le_refl _⟩, ⟨by (with_reducible repeat (first | apply Kd.R_alloc | apply Kd.R_drewN | apply Kd.R_drew)); exact HO300.out⟩, ⟨by repeat (first | (with_reducible first | exact HB.out | apply below_alloc | apply pw_below_drewN | apply below_drew1) | exact HB.out)⟩⟩
                case round =>
                  clear H'
                  try clear c1
                  try clear p2
                  try clear c3
                  try clear c6
                  try clear c6b0
                  try clear c6b1
                  try clear c7
                  try clear c9
                  try clear c9b0
                  try clear c9b1
                  try clear c11
                  try clear p2
                  obtain ⟨x3_4, x10_4, x11_4, rfl, rfl, HA, HK4, HO_10, HB⟩ := hrel
                  cases gk with
                  | zero => exact absurd HA.out (by simp [bautaref01_Shift.l0])
                  | succ k4 =>
                    have H := HA.out
                    clear HA
                    simp only [bautaref01_Shift.l0] at H
                    have HC14 := Aside0.mk H
                    clear H
                    go_upto_region 7 with (fail)
                    go_cut [37] (fun v37 wc => ∃ (kq : Nat) (x37_13 : Bool), v37 = .bool x37_13 ∧ Aside0 (bautaref01_Shift.j4 kq a0 x2_9 x3_4 x10_4 x11_4 x37_13 = some (r1, r2)) ∧ Aside0 (kq ≤ k4) ∧ Aside0 (Kd.R Kd.bool 4 wc w.heap.size (fun _ => True) u10 x10_4) ∧ Aside0 (Below w.heap.size w wc))
                    case first =>
                      have H := HC14.out
                      clear HC14
                      by_cases c15 : x11_4 < x2_9
                      · rw [if_pos c15] at H
                        have c15b0 : decide (x11_4 < x2_9) = true := decide_eq_true c15
                        clear c15
                        (first | rw [c15b0] | rw [c15b1] | (simp only [i64_w, i32_w]; rw [c15b0]) | skip)
                        have H' := Aside0.mk H
                        clear H
                        go_wp2
                        go_meet
                        case rel => exact ⟨_, (decide (x11_4 < 70)), (by first | rfl | (simp; done) | (simp [*]; done) | (simp; omega)), H', ⟨by have := HJ4.out; have := HJ7.out; have := HJ9.out; have := HK4.out; first | omega | exact Nat.le_refl _⟩, ⟨by (with_reducible repeat (first | apply Kd.R_alloc | apply Kd.R_drewN | apply Kd.R_drew)); exact HO_10.out⟩, ⟨by repeat (first | (with_reducible first | exact HB.out | apply below_alloc | apply pw_below_drewN | apply below_drew1) | exact HB.out)⟩⟩
                      · rw [if_neg c15] at H
                        have c15b0 : decide (x11_4 < x2_9) = false := decide_eq_false c15
                        clear c15
                        (first | rw [c15b0] | rw [c15b1] | (simp only [i64_w, i32_w]; rw [c15b0]) | skip)
                        have H' := Aside0.mk H
                        clear H
                        go_wp2
                        go_meet
                        case rel => exact ⟨_, (false), (by first | rfl | (simp; done) | (simp [*]; done) | (simp; omega)), H', ⟨by have := HJ4.out; have := HJ7.out; have := HJ9.out; have := HK4.out; first | omega | exact Nat.le_refl _⟩, ⟨by (with_reducible repeat (first | apply Kd.R_alloc | apply Kd.R_drewN | apply Kd.R_drew)); exact HO_10.out⟩, ⟨by repeat (first | (with_reducible first | exact HB.out | apply below_alloc | apply pw_below_drewN | apply below_drew1) | exact HB.out)⟩⟩
                    case rest =>
                      clear HC14
                      try clear c1
                      try clear p2
                      try clear c3
                      try clear c6
                      try clear c6b0
                      try clear c6b1
                      try clear c7
                      try clear c9
                      try clear c9b0
                      try clear c9b1
                      try clear c11
                      try clear c15
                      try clear c15b0
                      try clear c15b1
                      try clear p2
                      obtain ⟨kq, x37_13, rfl, HA, HJ13, HO_10, HB⟩ := hcut
                      cases kq with
                      | zero => exact absurd HA.out (by simp [bautaref01_Shift.j4])
                      | succ kj13 =>
                        have H := HA.out
                        clear HA
                        simp only [bautaref01_Shift.j4] at H
                        by_cases c16 : x37_13 = true
                        · subst c16
                          have H1 : (if 32 ≤ 281474976710656 then (bautaref01_Shift.l1 kj13 a0 x2_9 x10_4 x11_4 (List.replicate 32 false) 0) else (none)) = some (r1, r2) := by rw [if_pos rfl] at H; exact H
                          clear H
                          have H := H1
                          clear H1
                          by_cases c17 : 32 ≤ 281474976710656
                          · rw [if_pos c17] at H
                            have c17b0 := eq_true c17
                            have c17b1 : decide (32 ≤ 281474976710656) = true := decide_eq_true c17
                            clear c17
                            obtain ⟨y302, hy302⟩ : ∃ y_ : List Bool, y_ = (List.replicate 32 false) := ⟨_, rfl⟩
                            replace H : (bautaref01_Shift.l1 kj13 a0 x2_9 x10_4 x11_4 y302 0) = some (r1, r2) := by first | (rw [hy302]; with_reducible exact H) | (have H2_ := (Option.bind_some _ _).symm.trans H; rw [hy302]; with_reducible exact H2_) | (have H2_ := (Option.bind_some _ _).symm.trans H; with_reducible exact H2_) | with_reducible exact H | (rw [hy302]; exact H) | exact H
                            have Ny302 := Aside0.mk hy302
                            clear hy302
                            have H' := Aside0.mk H
                            clear H
                            go_wp2_with (first | ((with_reducible refine gate_dst (N := 40) rfl ?_); refine Kd.R_make Kd.bool _ 4 rfl (N := 40) rfl 44 _ _ rfl 32 rfl rfl Try.underlying44 (.bool false) 1 info4 rfl (by decide) (by omega) false (ok := fun _ => True) (okp := fun _ => True) rfl (fun _ hk => hk) trivial (by omega) (by omega) (Below.refl _ _) (Nat.le_refl _) ?_; intro v303 w18 ho19 hb hg_ hnew_; clear hg_ hnew_; (first | rw [← Ny302.out] at ho19 | (simp only [Int.reduceToNat] at ho19; rw [← Ny302.out] at ho19)); have n0_ := Aside0.mk (Kd.R_elder' (by (with_reducible repeat (first | apply Kd.R_alloc | apply Kd.R_drewN | apply Kd.R_drew)); exact HO_10.out) (Kd.R_base ho19) hb); have n1_ := Aside0.mk (Kd.R_lower (Kd.R_new' ho19 (Kd.R_lt (by (with_reducible repeat (first | apply Kd.R_alloc | apply Kd.R_drewN | apply Kd.R_drew)); exact HO_10.out))) (below_size (by repeat (first | (with_reducible first | exact HB.out | apply below_alloc | apply pw_below_drewN | apply below_drew1) | exact HB.out)))); have n2_ := Aside0.mk (below_step (by repeat (first | (with_reducible first | exact HB.out | apply below_alloc | apply pw_below_drewN | apply below_drew1) | exact HB.out)) hb); clear HO_10; clear HB; have HO_10 := n0_; have HO304 := n1_; have HB := n2_; clear n0_ n1_ n2_; clear hb ho19))
                            go_loopg [13] kj13 (fun kq v13 w' => ∃ (x12_6 : List Bool) (x13_6 : Int), v13 = .int .i64 x13_6 ∧ Aside0 (bautaref01_Shift.l1 kq a0 x2_9 x10_4 x11_4 x12_6 x13_6 = some (r1, r2)) ∧ Aside0 (kq ≤ kj13) ∧ Aside0 (Kd.R Kd.bool 4 w' w.heap.size (fun k_ => some k_ ≠ (v303 : Value).ownBlock) u10 x10_4) ∧ Aside0 (Kd.R Kd.bool 4 w' w.heap.size (fun k_ => some k_ ≠ (u10 : Value).ownBlock) v303 x12_6) ∧ Aside0 (Below w.heap.size w w'))
                            case atStart => exact ⟨(y302), (0), (by first | rfl | (simp; done) | (simp [*]; done) | (simp; omega)), H', ⟨Nat.le_refl _⟩, ⟨by (with_reducible repeat (first | apply Kd.R_alloc | apply Kd.R_drewN | apply Kd.R_drew)); exact Kd.R_mono HO_10.out (fun _ hk => hk.2)⟩, ⟨by (with_reducible repeat (first | apply Kd.R_alloc | apply Kd.R_drewN | apply Kd.R_drew)); exact Kd.R_mono HO304.out (fun _ hk => hk.2)⟩, ⟨by repeat (first | (with_reducible first | exact HB.out | apply below_alloc | apply pw_below_drewN | apply below_drew1) | exact HB.out)⟩⟩
                            case round =>
                              clear H'
                              try clear c1
                              try clear p2
                              try clear c3
                              try clear c6
                              try clear c6b0
                              try clear c6b1
                              try clear c7
                              try clear c9
                              try clear c9b0
                              try clear c9b1
                              try clear c11
                              try clear c15
                              try clear c15b0
                              try clear c15b1
                              try clear c16
                              try clear c17
                              try clear c17b0
                              try clear c17b1
                              try clear p2
                              obtain ⟨x12_6, x13_6, rfl, HA, HK6, HO_10, HO_12, HB⟩ := hrel
                              cases gk with
                              | zero => exact absurd HA.out (by simp [bautaref01_Shift.l1])
                              | succ k6 =>
                                have H := HA.out
                                clear HA
                                simp only [bautaref01_Shift.l1] at H
                                by_cases c20 : x13_6 < 32
                                · rw [if_pos c20] at H
                                  have c20b0 : decide (x13_6 < 32) = true := decide_eq_true c20
                                  clear c20
                                  have HC21 := Aside0.mk H
                                  clear H
                                  go_upto_region 13 with (fail)
                                  go_cut [50] (fun v50 wc => ∃ (kq : Nat) (x50_20 : Bool), v50 = .bool x50_20 ∧ Aside0 (bautaref01_Shift.j6 kq a0 x2_9 x10_4 x11_4 x12_6 x13_6 x50_20 = some (r1, r2)) ∧ Aside0 (kq ≤ k6) ∧ Aside0 (Kd.R Kd.bool 4 wc w.heap.size (fun k_ => some k_ ≠ (v303 : Value).ownBlock) u10 x10_4) ∧ Aside0 (Kd.R Kd.bool 4 wc w.heap.size (fun k_ => some k_ ≠ (u10 : Value).ownBlock) v303 x12_6) ∧ Aside0 (Below w.heap.size w wc))
                                  case first =>
                                    have H := HC21.out
                                    clear HC21
                                    by_cases c22 : a0 = 0
                                    · rw [if_pos c22] at H
                                      have c22b0 : (a0 == 0) = true := beq_iff_eq.mpr c22
                                      have c22b1 : (a0 != 0) = false := bne_eq_false_iff_eq.mpr c22
                                      clear c22
                                      (first | rw [c22b0] | rw [c22b1] | (simp only [i64_w, i32_w]; rw [c22b0]) | skip)
                                      have H' := Aside0.mk H
                                      clear H
                                      go_wp2
                                      go_meet
                                      case rel => exact ⟨_, (decide (x13_6 > 0)), (by first | rfl | (simp; done) | (simp [*]; done) | (simp; omega)), H', ⟨by have := HJ4.out; have := HJ7.out; have := HJ9.out; have := HK4.out; have := HJ13.out; have := HK6.out; first | omega | exact Nat.le_refl _⟩, ⟨by (with_reducible repeat (first | apply Kd.R_alloc | apply Kd.R_drewN | apply Kd.R_drew)); exact HO_10.out⟩, ⟨by (with_reducible repeat (first | apply Kd.R_alloc | apply Kd.R_drewN | apply Kd.R_drew)); exact HO_12.out⟩, ⟨by repeat (first | (with_reducible first | exact HB.out | apply below_alloc | apply pw_below_drewN | apply below_drew1) | exact HB.out)⟩⟩
                                    · rw [if_neg c22] at H
                                      have c22b0 : (a0 == 0) = false := beq_eq_false_iff_ne.mpr c22
                                      have c22b1 : (a0 != 0) = true := bne_iff_ne.mpr c22
                                      (first | rw [c22b0] | rw [c22b1] | (simp only [i64_w, i32_w]; rw [c22b0]) | skip)
                                      have H' := Aside0.mk H
                                      clear H
                                      go_wp2
                                      go_meet
                                      case rel => exact ⟨_, (false), (by first | rfl | (simp; done) | (simp [*]; done) | (simp; omega)), H', ⟨by have := HJ4.out; have := HJ7.out; have := HJ9.out; have := HK4.out; have := HJ13.out; have := HK6.out; first | omega | exact Nat.le_refl _⟩, ⟨by (with_reducible repeat (first | apply Kd.R_alloc | apply Kd.R_drewN | apply Kd.R_drew)); exact HO_10.out⟩, ⟨by (with_reducible repeat (first | apply Kd.R_alloc | apply Kd.R_drewN | apply Kd.R_drew)); exact HO_12.out⟩, ⟨by repeat (first | (with_reducible first | exact HB.out | apply below_alloc | apply pw_below_drewN | apply below_drew1) | exact HB.out)⟩⟩
                                  case rest =>
                                    clear HC21
                                    try clear c1
                                    try clear c2
                                    try clear p2
                                    try clear c3
                                    try clear c6
                                    try clear c6b0
                                    try clear c6b1
                                    try clear c7
                                    try clear c9
                                    try clear c9b0
                                    try clear c9b1
                                    try clear c11
                                    try clear c15
                                    try clear c15b0
                                    try clear c15b1
                                    try clear c16
                                    try clear c17
                                    try clear c17b0
                                    try clear c17b1
                                    try clear c20
                                    try clear c20b0
                                    try clear c22
                                    try clear c22b0
                                    try clear c22b1
                                    try clear p2
                                    obtain ⟨kq, x50_20, rfl, HA, HJ20, HO_10, HO_12, HB⟩ := hcut
                                    cases kq with
                                    | zero => exact absurd HA.out (by simp [bautaref01_Shift.j6])
                                    | succ kj20 =>
                                      have H := HA.out
                                      clear HA
                                      simp only [bautaref01_Shift.j6] at H
                                      by_cases c23 : x50_20 = true
                                      · subst c23
                                        have H1 : (if 0 ≤ (wrap64 (x13_6 - 1)) then (if (wrap64 (x13_6 - 1)) < (x10_4.length : Int) then (if 0 ≤ x13_6 then (if x13_6 < (x12_6.length : Int) then ((some (x12_6.set (x13_6 : Int).toNat (rdOf false x10_4 (wrap64 (x13_6 - 1))) : List Bool)).bind fun y306 => (if a0 > 0 then (if x13_6 < 31 then (if 0 ≤ (wrap64 (x13_6 + 1)) then (if (wrap64 (x13_6 + 1)) < (x10_4.length : Int) then (bautaref01_Shift.l1 kj20 a0 x2_9 x10_4 x11_4 (y306.set (x13_6 : Int).toNat (rdOf false x10_4 (wrap64 (x13_6 + 1)))) (wrap64 (x13_6 + 1))) else (none)) else (none)) else (bautaref01_Shift.l1 kj20 a0 x2_9 x10_4 x11_4 y306 (wrap64 (x13_6 + 1)))) else (bautaref01_Shift.l1 kj20 a0 x2_9 x10_4 x11_4 y306 (wrap64 (x13_6 + 1))))) else (none)) else (none)) else (none)) else (none)) = some (r1, r2) := by rw [if_pos rfl] at H; exact H
                                        clear H
                                        have H := H1
                                        clear H1
                                        obtain ⟨ji24, hji24⟩ : ∃ j_ : Int, (wrap64 (x13_6 - 1)) = j_ := ⟨_, rfl⟩
                                        replace H : (if 0 ≤ (ji24) then (if (ji24) < (x10_4.length : Int) then (if 0 ≤ x13_6 then (if x13_6 < (x12_6.length : Int) then ((some (x12_6.set (x13_6 : Int).toNat (rdOf false x10_4 (ji24)) : List Bool)).bind fun y306 => (if a0 > 0 then (if x13_6 < 31 then (if 0 ≤ (wrap64 (x13_6 + 1)) then (if (wrap64 (x13_6 + 1)) < (x10_4.length : Int) then (bautaref01_Shift.l1 kj20 a0 x2_9 x10_4 x11_4 (y306.set (x13_6 : Int).toNat (rdOf false x10_4 (wrap64 (x13_6 + 1)))) (wrap64 (x13_6 + 1))) else (none)) else (none)) else (bautaref01_Shift.l1 kj20 a0 x2_9 x10_4 x11_4 y306 (wrap64 (x13_6 + 1)))) else (bautaref01_Shift.l1 kj20 a0 x2_9 x10_4 x11_4 y306 (wrap64 (x13_6 + 1))))) else (none)) else (none)) else (none)) else (none)) = some (r1, r2) := by first | (rw [hji24] at H; exact H) | (simp only [hji24] at H ⊢; exact H)
                                        have hji24w : (IntKind.i64.wrap (x13_6 - 1)) = ji24 := (i64_w _).trans hji24
                                        by_cases c25 : 0 ≤ (ji24)
                                        · rw [if_pos c25] at H
                                          have c25b0 : decide (0 ≤ (ji24)) = true := decide_eq_true c25
                                          clear c25
                                          by_cases c26 : (ji24) < (x10_4.length : Int)
                                          · rw [if_pos c26] at H
                                            have c26b0 : decide ((ji24) < (x10_4.length : Int)) = true := decide_eq_true c26
                                            clear c26
                                            by_cases c27 : 0 ≤ x13_6
                                            · rw [if_pos c27] at H
                                              have c27b0 : decide (0 ≤ x13_6) = true := decide_eq_true c27
                                              clear c27
                                              by_cases c28 : x13_6 < (x12_6.length : Int)
                                              · rw [if_pos c28] at H
                                                have c28b0 : decide (x13_6 < (x12_6.length : Int)) = true := decide_eq_true c28
                                                clear c28
                                                obtain ⟨y306, hy306⟩ : ∃ y_ : List Bool, y_ = (x12_6.set (x13_6 : Int).toNat (rdOf false x10_4 (ji24))) := ⟨_, rfl⟩
                                                replace H : (if a0 > 0 then (if x13_6 < 31 then (if 0 ≤ (wrap64 (x13_6 + 1)) then (if (wrap64 (x13_6 + 1)) < (x10_4.length : Int) then (bautaref01_Shift.l1 kj20 a0 x2_9 x10_4 x11_4 (y306.set (x13_6 : Int).toNat (rdOf false x10_4 (wrap64 (x13_6 + 1)))) (wrap64 (x13_6 + 1))) else (none)) else (none)) else (bautaref01_Shift.l1 kj20 a0 x2_9 x10_4 x11_4 y306 (wrap64 (x13_6 + 1)))) else (bautaref01_Shift.l1 kj20 a0 x2_9 x10_4 x11_4 y306 (wrap64 (x13_6 + 1)))) = some (r1, r2) := by first | (rw [hy306]; with_reducible exact H) | (have H2_ := (Option.bind_some _ _).symm.trans H; rw [hy306]; with_reducible exact H2_) | (have H2_ := (Option.bind_some _ _).symm.trans H; with_reducible exact H2_) | with_reducible exact H | (rw [hy306]; exact H) | exact H
                                                have Ny306 := Aside0.mk hy306
                                                clear hy306
                                                by_cases c30 : a0 > 0
                                                · rw [if_pos c30] at H
                                                  have c30b0 : decide (0 < a0) = true := decide_eq_true c30
                                                  clear c30
                                                  by_cases c31 : x13_6 < 31
                                                  · rw [if_pos c31] at H
                                                    have c31b0 : decide (x13_6 < 31) = true := decide_eq_true c31
                                                    clear c31
                                                    obtain ⟨ji32, hji32⟩ : ∃ j_ : Int, (wrap64 (x13_6 + 1)) = j_ := ⟨_, rfl⟩
                                                    replace H : (if 0 ≤ (ji32) then (if (ji32) < (x10_4.length : Int) then (bautaref01_Shift.l1 kj20 a0 x2_9 x10_4 x11_4 (y306.set (x13_6 : Int).toNat (rdOf false x10_4 (ji32))) ji32) else (none)) else (none)) = some (r1, r2) := by first | (rw [hji32] at H; exact H) | (simp only [hji32] at H ⊢; exact H)
                                                    have hji32w : (IntKind.i64.wrap (x13_6 + 1)) = ji32 := (i64_w _).trans hji32
                                                    by_cases c33 : 0 ≤ (ji32)
                                                    · rw [if_pos c33] at H
                                                      have c33b0 : decide (0 ≤ (ji32)) = true := decide_eq_true c33
                                                      clear c33
                                                      by_cases c34 : (ji32) < (x10_4.length : Int)
                                                      · rw [if_pos c34] at H
                                                        have c34b0 : decide ((ji32) < (x10_4.length : Int)) = true := decide_eq_true c34
                                                        clear c34
                                                        obtain ⟨y308, hy308⟩ : ∃ y_ : List Bool, y_ = (y306.set (x13_6 : Int).toNat (rdOf false x10_4 (ji32))) := ⟨_, rfl⟩
                                                        replace H : (bautaref01_Shift.l1 kj20 a0 x2_9 x10_4 x11_4 y308 ji32) = some (r1, r2) := by first | (rw [hy308]; with_reducible exact H) | (have H2_ := (Option.bind_some _ _).symm.trans H; rw [hy308]; with_reducible exact H2_) | (have H2_ := (Option.bind_some _ _).symm.trans H; with_reducible exact H2_) | with_reducible exact H | (rw [hy308]; exact H) | exact H
                                                        have Ny308 := Aside0.mk hy308
                                                        clear hy308
                                                        have H' := Aside0.mk H
                                                        clear H
                                                        obtain ⟨Ao36, co36, eo36⟩ := Kd.R_slice HO_10.out
                                                        subst eo36
                                                        have p305 : 0 ≤ ((ji24) : Int) := of_decide_eq_true (by first | (with_reducible assumption) | assumption)
                                                        have q305 : (ji24) < (x10_4.length : Int) := of_decide_eq_true (by first | (with_reducible assumption) | assumption)
                                                        obtain ⟨ad305, e305, hx305_0⟩ := Kd.at_bool (Kd.R_reads' HO_10.out).2.2 (ji24) p305 q305
                                                        cases e305
                                                        replace p305 := eq_true p305
                                                        replace q305 := eq_true q305
                                                        have p29 : 0 ≤ (x13_6 : Int) := of_decide_eq_true (by first | (with_reducible assumption) | assumption)
                                                        have q29 : (x13_6 : Int) < ((x12_6.length : Int) : Int) := of_decide_eq_true (by first | (with_reducible assumption) | assumption)
                                                        obtain ⟨go29, co29, eo29, gb29, gl29, cl29, HG29⟩ := Kd.R_form HO_12.out (by omega)
                                                        (first | cases eo29 | (injection eo29 with ea_ en_ ec_; (first | subst ea_ | (injection ea_ with ea_; subst ea_)); subst ec_; clear en_))
                                                        have GB29 := Aside0.mk gb29
                                                        have GG29 := Aside0.mk HG29
                                                        clear gb29 gl29 HG29
                                                        obtain ⟨hx29_0, hf29_0⟩ := Kd.R_celln false HO_12.out (x13_6 : Int) p29 q29
                                                        replace p29 := eq_true p29
                                                        replace q29 := eq_true q29
                                                        have HP37 := Kd.R_putg HO_12.out (x13_6 : Int) (rdOf false x10_4 (ji24))
                                                        go_wp2_with (first | ((with_reducible refine gate_store (t := 4) (p := 58) rfl ?_); refine store_event (t := 4) (p := 58) (v := ?vo_w38) (w1 := (wc.setCell ⟨go29, (x13_6 : Int).toNat, none⟩ (.bool (rdOf false x10_4 (ji24))))) ?hg ?ho ?hn ?hr ?_; (case ho => rfl); (case hg => rfl); (case hn => rfl); (case hr => first | (go_simp; done) | (go_simp; rfl)); intro w38 hw; have hg : wc.grownBy w38 (some go29) := (by rw [hw]; exact HP37.2); have hp_ : Kd.R Kd.bool 4 w38 w.heap.size (fun k_ => some k_ ≠ (.slice (some ad305) x10_4.length co36 : Value).ownBlock) (.slice (some ⟨go29, 0, none⟩) x12_6.length co29) y306 := (by rw [hw, Ny306.out]; exact HP37.1); clear HP37; have n0_ := Aside0.mk (Kd.R_after (v := (.slice (some ⟨go29, 0, none⟩) x12_6.length co29)) (v1 := (.slice (some ⟨go29, 0, none⟩) x12_6.length co29)) (ok := (fun _ => True)) (by (with_reducible repeat (first | apply Kd.R_alloc | apply Kd.R_drewN | apply Kd.R_drew)); exact Kd.R_mono HO_10.out (fun _ hk => ⟨trivial, hk⟩)) hg (.inl rfl)); have n1_ := Aside0.mk (hp_); have n2_ := Aside0.mk ((by rw [hw]; exact below_set (HB.out) GB29.out : Below w.heap.size w w38)); clear HO_10; clear HO_12; clear HB; have HO_10 := n0_; have HO_12 := n1_; have HB := n2_; clear n0_ n1_ n2_; clear hg hw hp_; have p307 : 0 ≤ ((ji32) : Int) := of_decide_eq_true (by first | (with_reducible assumption) | assumption); have q307 : (ji32) < (x10_4.length : Int) := of_decide_eq_true (by first | (with_reducible assumption) | assumption); obtain ⟨ad307, e307, hx307_0⟩ := Kd.at_bool (Kd.R_reads' HO_10.out).2.2 (ji32) p307 q307; obtain rfl : ad305 = ad307 := (by injection e307); replace p307 := eq_true p307; replace q307 := eq_true q307; have p35 : 0 ≤ (x13_6 : Int) := of_decide_eq_true (by first | (with_reducible assumption) | assumption); have q35 : (x13_6 : Int) < ((x12_6.length : Int) : Int) := of_decide_eq_true (by first | (with_reducible assumption) | assumption); obtain ⟨hx35_0, hf35_0⟩ := Kd.R_celln false HO_12.out (x13_6 : Int) p35 q35; replace p35 := eq_true p35; replace q35 := eq_true q35; obtain ⟨hy39_, hz39_⟩ := Kd.R_celln false HO_12.out (x13_6 : Int) (of_decide_eq_true (by first | (with_reducible assumption) | assumption)) (of_decide_eq_true (by first | (with_reducible assumption) | assumption)); have HP39 := Kd.R_putg HO_12.out (x13_6 : Int) (rdOf false x10_4 (ji32))) | ((with_reducible refine gate_store (t := 4) (p := 72) rfl ?_); refine store_event (t := 4) (p := 72) (v := ?vo_w40) (w1 := (w38.setCell ⟨go29, (x13_6 : Int).toNat, none⟩ (.bool (rdOf false x10_4 (ji32))))) ?hg ?ho ?hn ?hr ?_; (case ho => rfl); (case hg => rfl); (case hn => rfl); (case hr => first | (go_simp; done) | (go_simp; rfl)); intro w40 hw; have hg : w38.grownBy w40 (some go29) := (by rw [hw]; exact HP39.2); have hp_ : Kd.R Kd.bool 4 w40 w.heap.size (fun k_ => some k_ ≠ (.slice (some ad305) x10_4.length co36 : Value).ownBlock) (.slice (some ⟨go29, 0, none⟩) x12_6.length co29) y308 := (by rw [hw, Ny308.out]; exact HP39.1); clear HP39; have n0_ := Aside0.mk (Kd.R_after (v := (.slice (some ⟨go29, 0, none⟩) x12_6.length co29)) (v1 := (.slice (some ⟨go29, 0, none⟩) x12_6.length co29)) (ok := (fun _ => True)) (by (with_reducible repeat (first | apply Kd.R_alloc | apply Kd.R_drewN | apply Kd.R_drew)); exact HO_10.out) hg (.inl rfl)); have n1_ := Aside0.mk (hp_); have n2_ := Aside0.mk ((by rw [hw]; exact below_set (HB.out) GB29.out : Below w.heap.size w w40)); clear HO_10; clear HO_12; clear HB; have HO_10 := n0_; have HO_12 := n1_; have HB := n2_; clear n0_ n1_ n2_; clear hg hw hp_))
                                                        go_roundg kj20
                                                        case measure => have := HJ4.out; have := HJ7.out; have := HJ9.out; have := HK4.out; have := HJ13.out; have := HK6.out; have := HJ20.out; omega
                                                        case rel => exact ⟨(y308), (ji32), (by first | rfl | (simp; done) | (simp only [← hji32] <;> (first | rfl | simp)) | (simp [*]; done)), H', ⟨by have := HJ4.out; have := HJ7.out; have := HJ9.out; have := HK4.out; have := HJ13.out; have := HK6.out; have := HJ20.out; omega⟩, ⟨by (with_reducible repeat (first | apply Kd.R_alloc | apply Kd.R_drewN | apply Kd.R_drew)); exact Kd.R_mono HO_10.out (fun _ hk => hk.2)⟩, ⟨by (with_reducible repeat (first | apply Kd.R_alloc | apply Kd.R_drewN | apply Kd.R_drew)); exact HO_12.out⟩, ⟨by repeat (first | (with_reducible first | exact HB.out | apply below_alloc | apply pw_below_drewN | apply below_drew1) | exact HB.out)⟩⟩
                                                      · rw [if_neg c34] at H
                                                        exact absurd H (by simp)
                                                    · rw [if_neg c33] at H
                                                      exact absurd H (by simp)
                                                  · rw [if_neg c31] at H
                                                    have c31b0 : decide (x13_6 < 31) = false := decide_eq_false c31
                                                    clear c31
                                                    have H' := Aside0.mk H
                                                    clear H
                                                    obtain ⟨Ao41, co41, eo41⟩ := Kd.R_slice HO_10.out
                                                    subst eo41
                                                    have p305 : 0 ≤ ((ji24) : Int) := of_decide_eq_true (by first | (with_reducible assumption) | assumption)
                                                    have q305 : (ji24) < (x10_4.length : Int) := of_decide_eq_true (by first | (with_reducible assumption) | assumption)
                                                    obtain ⟨ad305, e305, hx305_0⟩ := Kd.at_bool (Kd.R_reads' HO_10.out).2.2 (ji24) p305 q305
                                                    cases e305
                                                    replace p305 := eq_true p305
                                                    replace q305 := eq_true q305
                                                    have p29 : 0 ≤ (x13_6 : Int) := of_decide_eq_true (by first | (with_reducible assumption) | assumption)
                                                    have q29 : (x13_6 : Int) < ((x12_6.length : Int) : Int) := of_decide_eq_true (by first | (with_reducible assumption) | assumption)
                                                    obtain ⟨go29, co29, eo29, gb29, gl29, cl29, HG29⟩ := Kd.R_form HO_12.out (by omega)
                                                    (first | cases eo29 | (injection eo29 with ea_ en_ ec_; (first | subst ea_ | (injection ea_ with ea_; subst ea_)); subst ec_; clear en_))
                                                    have GB29 := Aside0.mk gb29
                                                    have GG29 := Aside0.mk HG29
                                                    clear gb29 gl29 HG29
                                                    obtain ⟨hx29_0, hf29_0⟩ := Kd.R_celln false HO_12.out (x13_6 : Int) p29 q29
                                                    replace p29 := eq_true p29
                                                    replace q29 := eq_true q29
                                                    have HP42 := Kd.R_putg HO_12.out (x13_6 : Int) (rdOf false x10_4 (ji24))
                                                    go_wp2_with (first | ((with_reducible refine gate_store (t := 4) (p := 58) rfl ?_); refine store_event (t := 4) (p := 58) (v := ?vo_w43) (w1 := (wc.setCell ⟨go29, (x13_6 : Int).toNat, none⟩ (.bool (rdOf false x10_4 (ji24))))) ?hg ?ho ?hn ?hr ?_; (case ho => rfl); (case hg => rfl); (case hn => rfl); (case hr => first | (go_simp; done) | (go_simp; rfl)); intro w43 hw; have hg : wc.grownBy w43 (some go29) := (by rw [hw]; exact HP42.2); have hp_ : Kd.R Kd.bool 4 w43 w.heap.size (fun k_ => some k_ ≠ (.slice (some ad305) x10_4.length co41 : Value).ownBlock) (.slice (some ⟨go29, 0, none⟩) x12_6.length co29) y306 := (by rw [hw, Ny306.out]; exact HP42.1); clear HP42; have n0_ := Aside0.mk (Kd.R_after (v := (.slice (some ⟨go29, 0, none⟩) x12_6.length co29)) (v1 := (.slice (some ⟨go29, 0, none⟩) x12_6.length co29)) (ok := (fun _ => True)) (by (with_reducible repeat (first | apply Kd.R_alloc | apply Kd.R_drewN | apply Kd.R_drew)); exact Kd.R_mono HO_10.out (fun _ hk => ⟨trivial, hk⟩)) hg (.inl rfl)); have n1_ := Aside0.mk (hp_); have n2_ := Aside0.mk ((by rw [hw]; exact below_set (HB.out) GB29.out : Below w.heap.size w w43)); clear HO_10; clear HO_12; clear HB; have HO_10 := n0_; have HO_12 := n1_; have HB := n2_; clear n0_ n1_ n2_; clear hg hw hp_))
                                                    go_roundg kj20
                                                    case measure => have := HJ4.out; have := HJ7.out; have := HJ9.out; have := HK4.out; have := HJ13.out; have := HK6.out; have := HJ20.out; omega
                                                    case rel => exact ⟨(y306), (wrap64 (x13_6 + 1)), (by first | rfl | (simp; done) | (simp [*]; done) | (simp; omega)), H', ⟨by have := HJ4.out; have := HJ7.out; have := HJ9.out; have := HK4.out; have := HJ13.out; have := HK6.out; have := HJ20.out; omega⟩, ⟨by (with_reducible repeat (first | apply Kd.R_alloc | apply Kd.R_drewN | apply Kd.R_drew)); exact Kd.R_mono HO_10.out (fun _ hk => hk.2)⟩, ⟨by (with_reducible repeat (first | apply Kd.R_alloc | apply Kd.R_drewN | apply Kd.R_drew)); exact HO_12.out⟩, ⟨by repeat (first | (with_reducible first | exact HB.out | apply below_alloc | apply pw_below_drewN | apply below_drew1) | exact HB.out)⟩⟩
                                                · rw [if_neg c30] at H
                                                  have c30b0 : decide (0 < a0) = false := decide_eq_false c30
                                                  clear c30
                                                  have H' := Aside0.mk H
                                                  clear H
                                                  obtain ⟨Ao44, co44, eo44⟩ := Kd.R_slice HO_10.out
                                                  subst eo44
                                                  have p305 : 0 ≤ ((ji24) : Int) := of_decide_eq_true (by first | (with_reducible assumption) | assumption)
                                                  have q305 : (ji24) < (x10_4.length : Int) := of_decide_eq_true (by first | (with_reducible assumption) | assumption)
                                                  obtain ⟨ad305, e305, hx305_0⟩ := Kd.at_bool (Kd.R_reads' HO_10.out).2.2 (ji24) p305 q305
                                                  cases e305
                                                  replace p305 := eq_true p305
                                                  replace q305 := eq_true q305
                                                  have p29 : 0 ≤ (x13_6 : Int) := of_decide_eq_true (by first | (with_reducible assumption) | assumption)
                                                  have q29 : (x13_6 : Int) < ((x12_6.length : Int) : Int) := of_decide_eq_true (by first | (with_reducible assumption) | assumption)
                                                  obtain ⟨go29, co29, eo29, gb29, gl29, cl29, HG29⟩ := Kd.R_form HO_12.out (by omega)
                                                  (first | cases eo29 | (injection eo29 with ea_ en_ ec_; (first | subst ea_ | (injection ea_ with ea_; subst ea_)); subst ec_; clear en_))
                                                  have GB29 := Aside0.mk gb29
                                                  have GG29 := Aside0.mk HG29
                                                  clear gb29 gl29 HG29
                                                  obtain ⟨hx29_0, hf29_0⟩ := Kd.R_celln false HO_12.out (x13_6 : Int) p29 q29
                                                  replace p29 := eq_true p29
                                                  replace q29 := eq_true q29
                                                  have HP45 := Kd.R_putg HO_12.out (x13_6 : Int) (rdOf false x10_4 (ji24))
                                                  go_wp2_with (first | ((with_reducible refine gate_store (t := 4) (p := 58) rfl ?_); refine store_event (t := 4) (p := 58) (v := ?vo_w46) (w1 := (wc.setCell ⟨go29, (x13_6 : Int).toNat, none⟩ (.bool (rdOf false x10_4 (ji24))))) ?hg ?ho ?hn ?hr ?_; (case ho => rfl); (case hg => rfl); (case hn => rfl); (case hr => first | (go_simp; done) | (go_simp; rfl)); intro w46 hw; have hg : wc.grownBy w46 (some go29) := (by rw [hw]; exact HP45.2); have hp_ : Kd.R Kd.bool 4 w46 w.heap.size (fun k_ => some k_ ≠ (.slice (some ad305) x10_4.length co44 : Value).ownBlock) (.slice (some ⟨go29, 0, none⟩) x12_6.length co29) y306 := (by rw [hw, Ny306.out]; exact HP45.1); clear HP45; have n0_ := Aside0.mk (Kd.R_after (v := (.slice (some ⟨go29, 0, none⟩) x12_6.length co29)) (v1 := (.slice (some ⟨go29, 0, none⟩) x12_6.length co29)) (ok := (fun _ => True)) (by (with_reducible repeat (first | apply Kd.R_alloc | apply Kd.R_drewN | apply Kd.R_drew)); exact Kd.R_mono HO_10.out (fun _ hk => ⟨trivial, hk⟩)) hg (.inl rfl)); have n1_ := Aside0.mk (hp_); have n2_ := Aside0.mk ((by rw [hw]; exact below_set (HB.out) GB29.out : Below w.heap.size w w46)); clear HO_10; clear HO_12; clear HB; have HO_10 := n0_; have HO_12 := n1_; have HB := n2_; clear n0_ n1_ n2_; clear hg hw hp_))
                                                  go_roundg kj20
                                                  case measure => have := HJ4.out; have := HJ7.out; have := HJ9.out; have := HK4.out; have := HJ13.out; have := HK6.out; have := HJ20.out; omega
                                                  case rel => exact ⟨(y306), (wrap64 (x13_6 + 1)), (by first | rfl | (simp; done) | (simp [*]; done) | (simp; omega)), H', ⟨by have := HJ4.out; have := HJ7.out; have := HJ9.out; have := HK4.out; have := HJ13.out; have := HK6.out; have := HJ20.out; omega⟩, ⟨by (with_reducible repeat (first | apply Kd.R_alloc | apply Kd.R_drewN | apply Kd.R_drew)); exact Kd.R_mono HO_10.out (fun _ hk => hk.2)⟩, ⟨by (with_reducible repeat (first | apply Kd.R_alloc | apply Kd.R_drewN | apply Kd.R_drew)); exact HO_12.out⟩, ⟨by repeat (first | (with_reducible first | exact HB.out | apply below_alloc | apply pw_below_drewN | apply below_drew1) | exact HB.out)⟩⟩
                                              · rw [if_neg c28] at H
                                                exact absurd H (by simp)
                                            · rw [if_neg c27] at H
                                              exact absurd H (by simp)
                                          · rw [if_neg c26] at H
                                            exact absurd H (by simp)
                                        · rw [if_neg c25] at H
                                          exact absurd H (by simp)
                                      · replace c23 := Bool.eq_false_iff.mpr c23
                                        subst c23
                                        have H1 : (if a0 > 0 then (if x13_6 < 31 then (if 0 ≤ (wrap64 (x13_6 + 1)) then (if (wrap64 (x13_6 + 1)) < (x10_4.length : Int) then (if 0 ≤ x13_6 then (if x13_6 < (x12_6.length : Int) then (bautaref01_Shift.l1 kj20 a0 x2_9 x10_4 x11_4 (x12_6.set (x13_6 : Int).toNat (rdOf false x10_4 (wrap64 (x13_6 + 1)))) (wrap64 (x13_6 + 1))) else (none)) else (none)) else (none)) else (none)) else (bautaref01_Shift.l1 kj20 a0 x2_9 x10_4 x11_4 x12_6 (wrap64 (x13_6 + 1)))) else (bautaref01_Shift.l1 kj20 a0 x2_9 x10_4 x11_4 x12_6 (wrap64 (x13_6 + 1)))) = some (r1, r2) := by rw [if_neg (show ¬ (false = true) by decide)] at H; exact H
                                        clear H
                                        have H := H1
                                        clear H1
                                        by_cases c47 : a0 > 0
                                        · rw [if_pos c47] at H
                                          have c47b0 : decide (0 < a0) = true := decide_eq_true c47
                                          clear c47
                                          by_cases c48 : x13_6 < 31
                                          · rw [if_pos c48] at H
                                            have c48b0 : decide (x13_6 < 31) = true := decide_eq_true c48
                                            clear c48
                                            obtain ⟨ji49, hji49⟩ : ∃ j_ : Int, (wrap64 (x13_6 + 1)) = j_ := ⟨_, rfl⟩
                                            replace H : (if 0 ≤ (ji49) then (if (ji49) < (x10_4.length : Int) then (if 0 ≤ x13_6 then (if x13_6 < (x12_6.length : Int) then (bautaref01_Shift.l1 kj20 a0 x2_9 x10_4 x11_4 (x12_6.set (x13_6 : Int).toNat (rdOf false x10_4 (ji49))) ji49) else (none)) else (none)) else (none)) else (none)) = some (r1, r2) := by first | (rw [hji49] at H; exact H) | (simp only [hji49] at H ⊢; exact H)
                                            have hji49w : (IntKind.i64.wrap (x13_6 + 1)) = ji49 := (i64_w _).trans hji49
                                            by_cases c50 : 0 ≤ (ji49)
                                            · rw [if_pos c50] at H
                                              have c50b0 : decide (0 ≤ (ji49)) = true := decide_eq_true c50
                                              clear c50
                                              by_cases c51 : (ji49) < (x10_4.length : Int)
                                              · rw [if_pos c51] at H
                                                have c51b0 : decide ((ji49) < (x10_4.length : Int)) = true := decide_eq_true c51
                                                clear c51
                                                by_cases c52 : 0 ≤ x13_6
                                                · rw [if_pos c52] at H
                                                  have c52b0 : decide (0 ≤ x13_6) = true := decide_eq_true c52
                                                  clear c52
                                                  by_cases c53 : x13_6 < (x12_6.length : Int)
                                                  · rw [if_pos c53] at H
                                                    have c53b0 : decide (x13_6 < (x12_6.length : Int)) = true := decide_eq_true c53
                                                    clear c53
                                                    obtain ⟨y310, hy310⟩ : ∃ y_ : List Bool, y_ = (x12_6.set (x13_6 : Int).toNat (rdOf false x10_4 (ji49))) := ⟨_, rfl⟩
                                                    replace H : (bautaref01_Shift.l1 kj20 a0 x2_9 x10_4 x11_4 y310 ji49) = some (r1, r2) := by first | (rw [hy310]; with_reducible exact H) | (have H2_ := (Option.bind_some _ _).symm.trans H; rw [hy310]; with_reducible exact H2_) | (have H2_ := (Option.bind_some _ _).symm.trans H; with_reducible exact H2_) | with_reducible exact H | (rw [hy310]; exact H) | exact H
                                                    have Ny310 := Aside0.mk hy310
                                                    clear hy310
                                                    have H' := Aside0.mk H
                                                    clear H
                                                    obtain ⟨Ao55, co55, eo55⟩ := Kd.R_slice HO_10.out
                                                    subst eo55
                                                    have p309 : 0 ≤ ((ji49) : Int) := of_decide_eq_true (by first | (with_reducible assumption) | assumption)
                                                    have q309 : (ji49) < (x10_4.length : Int) := of_decide_eq_true (by first | (with_reducible assumption) | assumption)
                                                    obtain ⟨ad309, e309, hx309_0⟩ := Kd.at_bool (Kd.R_reads' HO_10.out).2.2 (ji49) p309 q309
                                                    cases e309
                                                    replace p309 := eq_true p309
                                                    replace q309 := eq_true q309
                                                    have p54 : 0 ≤ (x13_6 : Int) := of_decide_eq_true (by first | (with_reducible assumption) | assumption)
                                                    have q54 : (x13_6 : Int) < ((x12_6.length : Int) : Int) := of_decide_eq_true (by first | (with_reducible assumption) | assumption)
                                                    obtain ⟨go54, co54, eo54, gb54, gl54, cl54, HG54⟩ := Kd.R_form HO_12.out (by omega)
                                                    (first | cases eo54 | (injection eo54 with ea_ en_ ec_; (first | subst ea_ | (injection ea_ with ea_; subst ea_)); subst ec_; clear en_))
                                                    have GB54 := Aside0.mk gb54
                                                    have GG54 := Aside0.mk HG54
                                                    clear gb54 gl54 HG54
                                                    obtain ⟨hx54_0, hf54_0⟩ := Kd.R_celln false HO_12.out (x13_6 : Int) p54 q54
                                                    replace p54 := eq_true p54
                                                    replace q54 := eq_true q54
                                                    have HP56 := Kd.R_putg HO_12.out (x13_6 : Int) (rdOf false x10_4 (ji49))
                                                    go_wp2_with (first | ((with_reducible refine gate_store (t := 4) (p := 72) rfl ?_); refine store_event (t := 4) (p := 72) (v := ?vo_w57) (w1 := (wc.setCell ⟨go54, (x13_6 : Int).toNat, none⟩ (.bool (rdOf false x10_4 (ji49))))) ?hg ?ho ?hn ?hr ?_; (case ho => rfl); (case hg => rfl); (case hn => rfl); (case hr => first | (go_simp; done) | (go_simp; rfl)); intro w57 hw; have hg : wc.grownBy w57 (some go54) := (by rw [hw]; exact HP56.2); have hp_ : Kd.R Kd.bool 4 w57 w.heap.size (fun k_ => some k_ ≠ (.slice (some ad309) x10_4.length co55 : Value).ownBlock) (.slice (some ⟨go54, 0, none⟩) x12_6.length co54) y310 := (by rw [hw, Ny310.out]; exact HP56.1); clear HP56; have n0_ := Aside0.mk (Kd.R_after (v := (.slice (some ⟨go54, 0, none⟩) x12_6.length co54)) (v1 := (.slice (some ⟨go54, 0, none⟩) x12_6.length co54)) (ok := (fun _ => True)) (by (with_reducible repeat (first | apply Kd.R_alloc | apply Kd.R_drewN | apply Kd.R_drew)); exact Kd.R_mono HO_10.out (fun _ hk => ⟨trivial, hk⟩)) hg (.inl rfl)); have n1_ := Aside0.mk (hp_); have n2_ := Aside0.mk ((by rw [hw]; exact below_set (HB.out) GB54.out : Below w.heap.size w w57)); clear HO_10; clear HO_12; clear HB; have HO_10 := n0_; have HO_12 := n1_; have HB := n2_; clear n0_ n1_ n2_; clear hg hw hp_))
                                                    go_roundg kj20
                                                    case measure => have := HJ4.out; have := HJ7.out; have := HJ9.out; have := HK4.out; have := HJ13.out; have := HK6.out; have := HJ20.out; omega
                                                    case rel => exact ⟨(y310), (ji49), (by first | rfl | (simp; done) | (simp only [← hji49] <;> (first | rfl | simp)) | (simp [*]; done)), H', ⟨by have := HJ4.out; have := HJ7.out; have := HJ9.out; have := HK4.out; have := HJ13.out; have := HK6.out; have := HJ20.out; omega⟩, ⟨by (with_reducible repeat (first | apply Kd.R_alloc | apply Kd.R_drewN | apply Kd.R_drew)); exact Kd.R_mono HO_10.out (fun _ hk => hk.2)⟩, ⟨by (with_reducible repeat (first | apply Kd.R_alloc | apply Kd.R_drewN | apply Kd.R_drew)); exact HO_12.out⟩, ⟨by repeat (first | (with_reducible first | exact HB.out | apply below_alloc | apply pw_below_drewN | apply below_drew1) | exact HB.out)⟩⟩
                                                  · rw [if_neg c53] at H
                                                    exact absurd H (by simp)
                                                · rw [if_neg c52] at H
                                                  exact absurd H (by simp)
                                              · rw [if_neg c51] at H
                                                exact absurd H (by simp)
                                            · rw [if_neg c50] at H
                                              exact absurd H (by simp)
                                          · rw [if_neg c48] at H
                                            have c48b0 : decide (x13_6 < 31) = false := decide_eq_false c48
                                            clear c48
                                            have H' := Aside0.mk H
                                            clear H
                                            go_wp2
                                            go_roundg kj20
                                            case measure => have := HJ4.out; have := HJ7.out; have := HJ9.out; have := HK4.out; have := HJ13.out; have := HK6.out; have := HJ20.out; omega
                                            case rel => exact ⟨(x12_6), (wrap64 (x13_6 + 1)), (by first | rfl | (simp; done) | (simp [*]; done) | (simp; omega)), H', ⟨by have := HJ4.out; have := HJ7.out; have := HJ9.out; have := HK4.out; have := HJ13.out; have := HK6.out; have := HJ20.out; omega⟩, ⟨by (with_reducible repeat (first | apply Kd.R_alloc | apply Kd.R_drewN | apply Kd.R_drew)); exact HO_10.out⟩, ⟨by (with_reducible repeat (first | apply Kd.R_alloc | apply Kd.R_drewN | apply Kd.R_drew)); exact HO_12.out⟩, ⟨by repeat (first | (with_reducible first | exact HB.out | apply below_alloc | apply pw_below_drewN | apply below_drew1) | exact HB.out)⟩⟩
                                        · rw [if_neg c47] at H
                                          have c47b0 : decide (0 < a0) = false := decide_eq_false c47
                                          clear c47
                                          have H' := Aside0.mk H
                                          clear H
                                          go_wp2
                                          go_roundg kj20
                                          case measure => have := HJ4.out; have := HJ7.out; have := HJ9.out; have := HK4.out; have := HJ13.out; have := HK6.out; have := HJ20.out; omega
                                          case rel => exact ⟨(x12_6), (wrap64 (x13_6 + 1)), (by first | rfl | (simp; done) | (simp [*]; done) | (simp; omega)), H', ⟨by have := HJ4.out; have := HJ7.out; have := HJ9.out; have := HK4.out; have := HJ13.out; have := HK6.out; have := HJ20.out; omega⟩, ⟨by (with_reducible repeat (first | apply Kd.R_alloc | apply Kd.R_drewN | apply Kd.R_drew)); exact HO_10.out⟩, ⟨by (with_reducible repeat (first | apply Kd.R_alloc | apply Kd.R_drewN | apply Kd.R_drew)); exact HO_12.out⟩, ⟨by repeat (first | (with_reducible first | exact HB.out | apply below_alloc | apply pw_below_drewN | apply below_drew1) | exact HB.out)⟩⟩
                                · rw [if_neg c20] at H
                                  have c20b0 : decide (x13_6 < 32) = false := decide_eq_false c20
                                  clear c20
                                  have HC58 := Aside0.mk H
                                  clear H
                                  go_upto_if 74 with (fail)
                                  go_cut [3] (fun v3 wc => ∃ (kq : Nat) (x3_57 : Bool), v3 = .bool x3_57 ∧ Aside0 (bautaref01_Shift.j7 kq a0 x2_9 x3_57 x10_4 x11_4 x12_6 = some (r1, r2)) ∧ Aside0 (kq ≤ k6) ∧ Aside0 (Kd.R Kd.bool 4 wc w.heap.size (fun k_ => some k_ ≠ (v303 : Value).ownBlock) u10 x10_4) ∧ Aside0 (Kd.R Kd.bool 4 wc w.heap.size (fun k_ => some k_ ≠ (u10 : Value).ownBlock) v303 x12_6) ∧ Aside0 (Below w.heap.size w wc))
                                  case first =>
                                    have H := HC58.out
                                    clear HC58
                                    by_cases c59 : a0 = 0
                                    · rw [if_pos c59] at H
                                      have c59b0 : (a0 == 0) = true := beq_iff_eq.mpr c59
                                      have c59b1 : (a0 != 0) = false := bne_eq_false_iff_eq.mpr c59
                                      clear c59
                                      (first | rw [c59b0] | rw [c59b1] | (simp only [i64_w, i32_w]; rw [c59b0]) | skip)
                                      by_cases c60 : 31 < (x10_4.length : Int)
                                      · rw [if_pos c60] at H
                                        have c60b0 : decide (31 < (x10_4.length : Int)) = true := decide_eq_true c60
                                        have c60b1 : decide (31 < x10_4.length) = true := decide_eq_true (by omega)
                                        clear c60
                                        have H' := Aside0.mk H
                                        clear H
                                        obtain ⟨Ao61, co61, eo61⟩ := Kd.R_slice HO_10.out
                                        subst eo61
                                        have p311 : 0 ≤ (31 : Int) := (by omega)
                                        have q311 : 31 < (x10_4.length : Int) := of_decide_eq_true (by first | (with_reducible assumption) | assumption)
                                        obtain ⟨ad311, e311, hx311_0⟩ := Kd.at_bool (Kd.R_reads' HO_10.out).2.2 31 p311 q311
                                        cases e311
                                        (try simp only [show (31 : Int).toNat = 31 from rfl, Nat.reduceMul, Nat.reduceEqDiff, Go.Addr.add, ↓reduceIte] at hx311_0)
                                        have qi311 : (31 < x10_4.length) = True := eq_true (by omega)
                                        (try rw [show ((31 : Int)).toNat = 31 from rfl] at hx311_0)
                                        replace p311 := eq_true p311
                                        replace q311 := eq_true q311
                                        go_wp2
                                        go_meet
                                        case rel => exact ⟨_, (rdOf false x10_4 31), (by first | rfl | (simp; done) | (simp [*]; done) | (simp; omega)), H', ⟨by have := HJ4.out; have := HJ7.out; have := HJ9.out; have := HK4.out; have := HJ13.out; have := HK6.out; first | omega | exact Nat.le_refl _⟩, ⟨by (with_reducible repeat (first | apply Kd.R_alloc | apply Kd.R_drewN | apply Kd.R_drew)); exact HO_10.out⟩, ⟨by (with_reducible repeat (first | apply Kd.R_alloc | apply Kd.R_drewN | apply Kd.R_drew)); exact HO_12.out⟩, ⟨by repeat (first | (with_reducible first | exact HB.out | apply below_alloc | apply pw_below_drewN | apply below_drew1) | exact HB.out)⟩⟩
                                      · rw [if_neg c60] at H
                                        exact absurd H (by simp)
                                    · rw [if_neg c59] at H
                                      have c59b0 : (a0 == 0) = false := beq_eq_false_iff_ne.mpr c59
                                      have c59b1 : (a0 != 0) = true := bne_iff_ne.mpr c59
                                      (first | rw [c59b0] | rw [c59b1] | (simp only [i64_w, i32_w]; rw [c59b0]) | skip)
                                      by_cases c62 : 0 < (x10_4.length : Int)
                                      · rw [if_pos c62] at H
                                        have c62b0 : decide (0 < (x10_4.length : Int)) = true := decide_eq_true c62
                                        have c62b1 : decide (0 < x10_4.length) = true := decide_eq_true (by omega)
                                        clear c62
                                        have H' := Aside0.mk H
                                        clear H
                                        obtain ⟨Ao63, co63, eo63⟩ := Kd.R_slice HO_10.out
                                        subst eo63
                                        have p312 : 0 ≤ (0 : Int) := (by omega)
                                        have q312 : 0 < (x10_4.length : Int) := of_decide_eq_true (by first | (with_reducible assumption) | assumption)
                                        obtain ⟨ad312, e312, hx312_0⟩ := Kd.at_bool (Kd.R_reads' HO_10.out).2.2 0 p312 q312
                                        cases e312
                                        have qi312 : (0 < x10_4.length) = True := eq_true (by omega)
                                        (try rw [show ((0 : Int)).toNat = 0 from rfl] at hx312_0)
                                        (try rw [Addr.add_zero'] at hx312_0)
                                        replace p312 := eq_true p312
                                        replace q312 := eq_true q312
                                        go_wp2
                                        go_meet
                                        case rel => exact ⟨_, (rdOf false x10_4 0), (by first | rfl | (simp; done) | (simp [*]; done) | (simp; omega)), H', ⟨by have := HJ4.out; have := HJ7.out; have := HJ9.out; have := HK4.out; have := HJ13.out; have := HK6.out; first | omega | exact Nat.le_refl _⟩, ⟨by (with_reducible repeat (first | apply Kd.R_alloc | apply Kd.R_drewN | apply Kd.R_drew)); exact HO_10.out⟩, ⟨by (with_reducible repeat (first | apply Kd.R_alloc | apply Kd.R_drewN | apply Kd.R_drew)); exact HO_12.out⟩, ⟨by repeat (first | (with_reducible first | exact HB.out | apply below_alloc | apply pw_below_drewN | apply below_drew1) | exact HB.out)⟩⟩
                                      · rw [if_neg c62] at H
                                        exact absurd H (by simp)
                                  case rest =>
                                    clear HC58
                                    try clear c1
                                    try clear c2
                                    try clear p2
                                    try clear q2
                                    try clear hx2
                                    try clear c3
                                    try clear p3
                                    try clear q3
                                    try clear hx3
                                    try clear qi3
                                    try clear c4
                                    try clear c5
                                    try clear p5
                                    try clear q5
                                    try clear hx5
                                    try clear hf5
                                    try clear c6
                                    try clear c6b0
                                    try clear c6b1
                                    try clear p6
                                    try clear c7
                                    try clear c9
                                    try clear c9b0
                                    try clear c9b1
                                    try clear c11
                                    try clear c15
                                    try clear c15b0
                                    try clear c15b1
                                    try clear c16
                                    try clear c17
                                    try clear c17b0
                                    try clear c17b1
                                    try clear c20
                                    try clear c20b0
                                    try clear c22
                                    try clear c22b0
                                    try clear c22b1
                                    try clear c23
                                    try clear c25
                                    try clear c25b0
                                    try clear c26
                                    try clear c26b0
                                    try clear c27
                                    try clear c27b0
                                    try clear c28
                                    try clear c28b0
                                    try clear p29
                                    try clear q29
                                    try clear hx29
                                    try clear hf29
                                    try clear c30
                                    try clear c30b0
                                    try clear p30
                                    try clear q30
                                    try clear hx30
                                    try clear c31
                                    try clear c31b0
                                    try clear p31
                                    try clear q31
                                    try clear hx31
                                    try clear qi31
                                    try clear c33
                                    try clear c33b0
                                    try clear c34
                                    try clear c34b0
                                    try clear p35
                                    try clear q35
                                    try clear hx35
                                    try clear hf35
                                    try clear c47
                                    try clear c47b0
                                    try clear c48
                                    try clear c48b0
                                    try clear c50
                                    try clear c50b0
                                    try clear c51
                                    try clear c51b0
                                    try clear c52
                                    try clear c52b0
                                    try clear c53
                                    try clear c53b0
                                    try clear p54
                                    try clear q54
                                    try clear hx54
                                    try clear hf54
                                    try clear c59
                                    try clear c59b0
                                    try clear c59b1
                                    try clear c60
                                    try clear c60b0
                                    try clear c60b1
                                    try clear c62
                                    try clear c62b0
                                    try clear c62b1
                                    try clear hx29_0
                                    try clear hx305_0
                                    try clear hx307_0
                                    try clear hx309_0
                                    try clear hx311_0
                                    try clear hx312_0
                                    try clear hx35_0
                                    try clear hx54_0
                                    try clear p2
                                    try clear p29
                                    try clear p305
                                    try clear p307
                                    try clear p309
                                    try clear p311
                                    try clear p312
                                    try clear p35
                                    try clear p54
                                    try clear q29
                                    try clear q305
                                    try clear q307
                                    try clear q309
                                    try clear q311
                                    try clear q312
                                    try clear q35
                                    try clear q54
                                    obtain ⟨kq, x3_57, rfl, HA, HJ57, HO_10, HO_12, HB⟩ := hcut
                                    cases kq with
                                    | zero => exact absurd HA.out (by simp [bautaref01_Shift.j7])
                                    | succ kj57 =>
                                      have H := HA.out
                                      clear HA
                                      simp only [bautaref01_Shift.j7] at H
                                      by_cases c64 : a0 = 2
                                      · rw [if_pos c64] at H
                                        have c64b0 : (a0 == 2) = true := beq_iff_eq.mpr c64
                                        have c64b1 : (a0 != 2) = false := bne_eq_false_iff_eq.mpr c64
                                        clear c64
                                        by_cases c65 : 31 < (x10_4.length : Int)
                                        · rw [if_pos c65] at H
                                          have c65b0 : decide (31 < (x10_4.length : Int)) = true := decide_eq_true c65
                                          have c65b1 : decide (31 < x10_4.length) = true := decide_eq_true (by omega)
                                          clear c65
                                          by_cases c66 : 31 < (x12_6.length : Int)
                                          · rw [if_pos c66] at H
                                            have c66b0 : decide (31 < (x12_6.length : Int)) = true := decide_eq_true c66
                                            have c66b1 : decide (31 < x12_6.length) = true := decide_eq_true (by omega)
                                            clear c66
                                            obtain ⟨y314, hy314⟩ : ∃ y_ : List Bool, y_ = (x12_6.set (31 : Int).toNat (rdOf false x10_4 31)) := ⟨_, rfl⟩
                                            replace H : (if a0 = 3 then (if 0 < (x10_4.length : Int) then (bautaref01_Shift.l0 kj57 a0 x2_9 x3_57 (y314.set (31 : Int).toNat (rdOf false x10_4 0)) ((x11_4 + 1) % 4294967296)) else (none)) else (bautaref01_Shift.l0 kj57 a0 x2_9 x3_57 y314 ((x11_4 + 1) % 4294967296))) = some (r1, r2) := by first | (rw [hy314]; with_reducible exact H) | (have H2_ := (Option.bind_some _ _).symm.trans H; rw [hy314]; with_reducible exact H2_) | (have H2_ := (Option.bind_some _ _).symm.trans H; with_reducible exact H2_) | with_reducible exact H | (rw [hy314]; exact H) | exact H
                                            have Ny314 := Aside0.mk hy314
                                            clear hy314
                                            by_cases c68 : a0 = 3
                                            · rw [if_pos c68] at H
                                              have c68b0 : (a0 == 3) = true := beq_iff_eq.mpr c68
                                              have c68b1 : (a0 != 3) = false := bne_eq_false_iff_eq.mpr c68
                                              clear c68
                                              by_cases c69 : 0 < (x10_4.length : Int)
                                              · rw [if_pos c69] at H
                                                have c69b0 : decide (0 < (x10_4.length : Int)) = true := decide_eq_true c69
                                                have c69b1 : decide (0 < x10_4.length) = true := decide_eq_true (by omega)
                                                clear c69
                                                obtain ⟨y316, hy316⟩ : ∃ y_ : List Bool, y_ = (y314.set (31 : Int).toNat (rdOf false x10_4 0)) := ⟨_, rfl⟩
                                                replace H : (bautaref01_Shift.l0 kj57 a0 x2_9 x3_57 y316 ((x11_4 + 1) % 4294967296)) = some (r1, r2) := by first | (rw [hy316]; with_reducible exact H) | (have H2_ := (Option.bind_some _ _).symm.trans H; rw [hy316]; with_reducible exact H2_) | (have H2_ := (Option.bind_some _ _).symm.trans H; with_reducible exact H2_) | with_reducible exact H | (rw [hy316]; exact H) | exact H
                                                have Ny316 := Aside0.mk hy316
                                                clear hy316
                                                have H' := Aside0.mk H
                                                clear H
                                                obtain ⟨Ao71, co71, eo71⟩ := Kd.R_slice HO_10.out
                                                subst eo71
                                                have p313 : 0 ≤ (31 : Int) := (by omega)
                                                have q313 : 31 < (x10_4.length : Int) := of_decide_eq_true (by first | (with_reducible assumption) | assumption)
                                                obtain ⟨ad313, e313, hx313_0⟩ := Kd.at_bool (Kd.R_reads' HO_10.out).2.2 31 p313 q313
                                                cases e313
                                                (try simp only [show (31 : Int).toNat = 31 from rfl, Nat.reduceMul, Nat.reduceEqDiff, Go.Addr.add, ↓reduceIte] at hx313_0)
                                                have qi313 : (31 < x10_4.length) = True := eq_true (by omega)
                                                (try rw [show ((31 : Int)).toNat = 31 from rfl] at hx313_0)
                                                replace p313 := eq_true p313
                                                replace q313 := eq_true q313
                                                have p67 : 0 ≤ (31 : Int) := (by omega)
                                                have q67 : (31 : Int) < ((x12_6.length : Int) : Int) := of_decide_eq_true (by first | (with_reducible assumption) | assumption)
                                                have qi67 : (31 < x12_6.length) = True := eq_true (by omega)
                                                obtain ⟨go67, co67, eo67, gb67, gl67, cl67, HG67⟩ := Kd.R_form HO_12.out (by omega)
                                                (first | cases eo67 | (injection eo67 with ea_ en_ ec_; (first | subst ea_ | (injection ea_ with ea_; subst ea_)); subst ec_; clear en_))
                                                have GB67 := Aside0.mk gb67
                                                have GG67 := Aside0.mk HG67
                                                clear gb67 gl67 HG67
                                                obtain ⟨hx67_0, hf67_0⟩ := Kd.R_celln false HO_12.out (31 : Int) p67 q67
                                                (try rw [show ((31 : Int)).toNat = 31 from rfl] at hx67_0)
                                                (try simp only [Nat.reduceMul, Nat.zero_mul, Nat.zero_add, Nat.reduceAdd] at hx67_0)
                                                (try rw [show ((31 : Int)).toNat = 31 from rfl] at hf67_0)
                                                (try simp only [Nat.reduceMul, Nat.zero_mul, Nat.zero_add, Nat.reduceAdd] at hf67_0)
                                                replace p67 := eq_true p67
                                                replace q67 := eq_true q67
                                                have HP72 := Kd.R_putg HO_12.out (31 : Int) (rdOf false x10_4 31)
                                                go_wp2_with (first | ((with_reducible refine gate_store (t := 4) (p := 87) rfl ?_); refine store_event (t := 4) (p := 87) (v := ?vo_w73) (w1 := (wc.setCell ⟨go67, (31 : Int).toNat, none⟩ (.bool (rdOf false x10_4 31)))) ?hg ?ho ?hn ?hr ?_; (case ho => rfl); (case hg => rfl); (case hn => rfl); (case hr => first | (go_simp; done) | (go_simp; rfl)); intro w73 hw; have hg : wc.grownBy w73 (some go67) := (by rw [hw]; exact HP72.2); have hp_ : Kd.R Kd.bool 4 w73 w.heap.size (fun k_ => some k_ ≠ (.slice (some ad313) x10_4.length co71 : Value).ownBlock) (.slice (some ⟨go67, 0, none⟩) x12_6.length co67) y314 := (by rw [hw, Ny314.out]; exact HP72.1); clear HP72; have n0_ := Aside0.mk (Kd.R_after (v := (.slice (some ⟨go67, 0, none⟩) x12_6.length co67)) (v1 := (.slice (some ⟨go67, 0, none⟩) x12_6.length co67)) (ok := (fun _ => True)) (by (with_reducible repeat (first | apply Kd.R_alloc | apply Kd.R_drewN | apply Kd.R_drew)); exact Kd.R_mono HO_10.out (fun _ hk => ⟨trivial, hk⟩)) hg (.inl rfl)); have n1_ := Aside0.mk (hp_); have n2_ := Aside0.mk ((by rw [hw]; exact below_set (HB.out) GB67.out : Below w.heap.size w w73)); clear HO_10; clear HO_12; clear HB; have HO_10 := n0_; have HO_12 := n1_; have HB := n2_; clear n0_ n1_ n2_; clear hg hw hp_; have p315 : 0 ≤ (0 : Int) := (by omega); have q315 : 0 < (x10_4.length : Int) := of_decide_eq_true (by first | (with_reducible assumption) | assumption); obtain ⟨ad315, e315, hx315_0⟩ := Kd.at_bool (Kd.R_reads' HO_10.out).2.2 0 p315 q315; obtain rfl : ad313 = ad315 := (by injection e315); have qi315 : (0 < x10_4.length) = True := eq_true (by omega); (try rw [show ((0 : Int)).toNat = 0 from rfl] at hx315_0); (try rw [Addr.add_zero'] at hx315_0); replace p315 := eq_true p315; replace q315 := eq_true q315; have p70 : 0 ≤ (31 : Int) := (by omega); have q70 : (31 : Int) < ((x12_6.length : Int) : Int) := of_decide_eq_true (by first | (with_reducible assumption) | assumption); have qi70 : (31 < x12_6.length) = True := eq_true (by omega); obtain ⟨hx70_0, hf70_0⟩ := Kd.R_celln false HO_12.out (31 : Int) p70 q70; (try rw [show ((31 : Int)).toNat = 31 from rfl] at hx70_0); (try simp only [Nat.reduceMul, Nat.zero_mul, Nat.zero_add, Nat.reduceAdd] at hx70_0); (try rw [show ((31 : Int)).toNat = 31 from rfl] at hf70_0); (try simp only [Nat.reduceMul, Nat.zero_mul, Nat.zero_add, Nat.reduceAdd] at hf70_0); replace p70 := eq_true p70; replace q70 := eq_true q70; obtain ⟨hy74_, hz74_⟩ := Kd.R_celln false HO_12.out (31 : Int) (by omega) (of_decide_eq_true (by first | (with_reducible assumption) | assumption)); (try simp only [Int.reduceToNat, Int.toNat_zero, Int.toNat_ofNat, Nat.reduceMul, Nat.zero_mul, Nat.zero_add] at hy74_ hz74_); (try rw [show ((31 : Int)).toNat = 31 from rfl] at hy74_); (try rw [show ((31 : Int)).toNat = 31 from rfl] at hz74_); have HP74 := Kd.R_putg HO_12.out (31 : Int) (rdOf false x10_4 0)) | ((with_reducible refine gate_store (t := 4) (p := 94) rfl ?_); refine store_event (t := 4) (p := 94) (v := ?vo_w75) (w1 := (w73.setCell ⟨go67, (31 : Int).toNat, none⟩ (.bool (rdOf false x10_4 0)))) ?hg ?ho ?hn ?hr ?_; (case ho => rfl); (case hg => rfl); (case hn => rfl); (case hr => first | (go_simp; done) | (go_simp; rfl)); intro w75 hw; have hg : w73.grownBy w75 (some go67) := (by rw [hw]; exact HP74.2); have hp_ : Kd.R Kd.bool 4 w75 w.heap.size (fun k_ => some k_ ≠ (.slice (some ad313) x10_4.length co71 : Value).ownBlock) (.slice (some ⟨go67, 0, none⟩) x12_6.length co67) y316 := (by rw [hw, Ny316.out]; exact HP74.1); clear HP74; have n0_ := Aside0.mk (Kd.R_after (v := (.slice (some ⟨go67, 0, none⟩) x12_6.length co67)) (v1 := (.slice (some ⟨go67, 0, none⟩) x12_6.length co67)) (ok := (fun _ => True)) (by (with_reducible repeat (first | apply Kd.R_alloc | apply Kd.R_drewN | apply Kd.R_drew)); exact HO_10.out) hg (.inl rfl)); have n1_ := Aside0.mk (hp_); have n2_ := Aside0.mk ((by rw [hw]; exact below_set (HB.out) GB67.out : Below w.heap.size w w75)); clear HO_10; clear HO_12; clear HB; have HO_10 := n0_; have HO_12 := n1_; have HB := n2_; clear n0_ n1_ n2_; clear hg hw hp_))
                                                go_roundg kj57
                                                case measure => have := HJ4.out; have := HJ7.out; have := HJ9.out; have := HK4.out; have := HJ13.out; have := HK6.out; have := HJ57.out; omega
                                                case rel => exact ⟨(x3_57), (y316), ((x11_4 + 1) % 4294967296), (by first | rfl | (simp; done) | (simp [*]; done) | (simp; omega)), (by first | rfl | (simp; done) | (simp [*]; done) | (simp; omega)), H', ⟨by have := HJ4.out; have := HJ7.out; have := HJ9.out; have := HK4.out; have := HJ13.out; have := HK6.out; have := HJ57.out; omega⟩, ⟨by (with_reducible repeat (first | apply Kd.R_alloc | apply Kd.R_drewN | apply Kd.R_drew)); exact Kd.R_mono HO_12.out (fun _ hk => trivial)⟩, ⟨by repeat (first | (with_reducible first | exact HB.out | apply below_alloc | apply pw_below_drewN | apply below_drew1) | exact HB.out)⟩⟩
                                              · rw [if_neg c69] at H
                                                exact absurd H (by simp)
                                            · rw [if_neg c68] at H
                                              have c68b0 : (a0 == 3) = false := beq_eq_false_iff_ne.mpr c68
                                              have c68b1 : (a0 != 3) = true := bne_iff_ne.mpr c68
                                              have H' := Aside0.mk H
                                              clear H
                                              obtain ⟨Ao76, co76, eo76⟩ := Kd.R_slice HO_10.out
                                              subst eo76
                                              have p313 : 0 ≤ (31 : Int) := (by omega)
                                              have q313 : 31 < (x10_4.length : Int) := of_decide_eq_true (by first | (with_reducible assumption) | assumption)
                                              obtain ⟨ad313, e313, hx313_0⟩ := Kd.at_bool (Kd.R_reads' HO_10.out).2.2 31 p313 q313
                                              cases e313
                                              (try simp only [show (31 : Int).toNat = 31 from rfl, Nat.reduceMul, Nat.reduceEqDiff, Go.Addr.add, ↓reduceIte] at hx313_0)
                                              have qi313 : (31 < x10_4.length) = True := eq_true (by omega)
                                              (try rw [show ((31 : Int)).toNat = 31 from rfl] at hx313_0)
                                              replace p313 := eq_true p313
                                              replace q313 := eq_true q313
                                              have p67 : 0 ≤ (31 : Int) := (by omega)
                                              have q67 : (31 : Int) < ((x12_6.length : Int) : Int) := of_decide_eq_true (by first | (with_reducible assumption) | assumption)
                                              have qi67 : (31 < x12_6.length) = True := eq_true (by omega)
                                              obtain ⟨go67, co67, eo67, gb67, gl67, cl67, HG67⟩ := Kd.R_form HO_12.out (by omega)
                                              (first | cases eo67 | (injection eo67 with ea_ en_ ec_; (first | subst ea_ | (injection ea_ with ea_; subst ea_)); subst ec_; clear en_))
                                              have GB67 := Aside0.mk gb67
                                              have GG67 := Aside0.mk HG67
                                              clear gb67 gl67 HG67
                                              obtain ⟨hx67_0, hf67_0⟩ := Kd.R_celln false HO_12.out (31 : Int) p67 q67
                                              (try rw [show ((31 : Int)).toNat = 31 from rfl] at hx67_0)
                                              (try simp only [Nat.reduceMul, Nat.zero_mul, Nat.zero_add, Nat.reduceAdd] at hx67_0)
                                              (try rw [show ((31 : Int)).toNat = 31 from rfl] at hf67_0)
                                              (try simp only [Nat.reduceMul, Nat.zero_mul, Nat.zero_add, Nat.reduceAdd] at hf67_0)
                                              replace p67 := eq_true p67
                                              replace q67 := eq_true q67
                                              have HP77 := Kd.R_putg HO_12.out (31 : Int) (rdOf false x10_4 31)
                                              go_wp2_with (first | ((with_reducible refine gate_store (t := 4) (p := 87) rfl ?_); refine store_event (t := 4) (p := 87) (v := ?vo_w78) (w1 := (wc.setCell ⟨go67, (31 : Int).toNat, none⟩ (.bool (rdOf false x10_4 31)))) ?hg ?ho ?hn ?hr ?_; (case ho => rfl); (case hg => rfl); (case hn => rfl); (case hr => first | (go_simp; done) | (go_simp; rfl)); intro w78 hw; have hg : wc.grownBy w78 (some go67) := (by rw [hw]; exact HP77.2); have hp_ : Kd.R Kd.bool 4 w78 w.heap.size (fun k_ => some k_ ≠ (.slice (some ad313) x10_4.length co76 : Value).ownBlock) (.slice (some ⟨go67, 0, none⟩) x12_6.length co67) y314 := (by rw [hw, Ny314.out]; exact HP77.1); clear HP77; have n0_ := Aside0.mk (Kd.R_after (v := (.slice (some ⟨go67, 0, none⟩) x12_6.length co67)) (v1 := (.slice (some ⟨go67, 0, none⟩) x12_6.length co67)) (ok := (fun _ => True)) (by (with_reducible repeat (first | apply Kd.R_alloc | apply Kd.R_drewN | apply Kd.R_drew)); exact Kd.R_mono HO_10.out (fun _ hk => ⟨trivial, hk⟩)) hg (.inl rfl)); have n1_ := Aside0.mk (hp_); have n2_ := Aside0.mk ((by rw [hw]; exact below_set (HB.out) GB67.out : Below w.heap.size w w78)); clear HO_10; clear HO_12; clear HB; have HO_10 := n0_; have HO_12 := n1_; have HB := n2_; clear n0_ n1_ n2_; clear hg hw hp_))
                                              go_roundg kj57
                                              case measure => have := HJ4.out; have := HJ7.out; have := HJ9.out; have := HK4.out; have := HJ13.out; have := HK6.out; have := HJ57.out; omega
                                              case rel => exact ⟨(x3_57), (y314), ((x11_4 + 1) % 4294967296), (by first | rfl | (simp; done) | (simp [*]; done) | (simp; omega)), (by first | rfl | (simp; done) | (simp [*]; done) | (simp; omega)), H', ⟨by have := HJ4.out; have := HJ7.out; have := HJ9.out; have := HK4.out; have := HJ13.out; have := HK6.out; have := HJ57.out; omega⟩, ⟨by (with_reducible repeat (first | apply Kd.R_alloc | apply Kd.R_drewN | apply Kd.R_drew)); exact Kd.R_mono HO_12.out (fun _ hk => trivial)⟩, ⟨by repeat (first | (with_reducible first | exact HB.out | apply below_alloc | apply pw_below_drewN | apply below_drew1) | exact HB.out)⟩⟩
                                          · rw [if_neg c66] at H
                                            exact absurd H (by simp)
                                        · rw [if_neg c65] at H
                                          exact absurd H (by simp)
                                      · rw [if_neg c64] at H
                                        have c64b0 : (a0 == 2) = false := beq_eq_false_iff_ne.mpr c64
                                        have c64b1 : (a0 != 2) = true := bne_iff_ne.mpr c64
                                        by_cases c79 : a0 = 3
                                        · rw [if_pos c79] at H
                                          have c79b0 : (a0 == 3) = true := beq_iff_eq.mpr c79
                                          have c79b1 : (a0 != 3) = false := bne_eq_false_iff_eq.mpr c79
                                          clear c79
                                          by_cases c80 : 0 < (x10_4.length : Int)
                                          · rw [if_pos c80] at H
                                            have c80b0 : decide (0 < (x10_4.length : Int)) = true := decide_eq_true c80
                                            have c80b1 : decide (0 < x10_4.length) = true := decide_eq_true (by omega)
                                            clear c80
                                            by_cases c81 : 31 < (x12_6.length : Int)
                                            · rw [if_pos c81] at H
                                              have c81b0 : decide (31 < (x12_6.length : Int)) = true := decide_eq_true c81
                                              have c81b1 : decide (31 < x12_6.length) = true := decide_eq_true (by omega)
                                              clear c81
                                              obtain ⟨y318, hy318⟩ : ∃ y_ : List Bool, y_ = (x12_6.set (31 : Int).toNat (rdOf false x10_4 0)) := ⟨_, rfl⟩
                                              replace H : (bautaref01_Shift.l0 kj57 a0 x2_9 x3_57 y318 ((x11_4 + 1) % 4294967296)) = some (r1, r2) := by first | (rw [hy318]; with_reducible exact H) | (have H2_ := (Option.bind_some _ _).symm.trans H; rw [hy318]; with_reducible exact H2_) | (have H2_ := (Option.bind_some _ _).symm.trans H; with_reducible exact H2_) | with_reducible exact H | (rw [hy318]; exact H) | exact H
                                              have Ny318 := Aside0.mk hy318
                                              clear hy318
                                              have H' := Aside0.mk H
                                              clear H
                                              obtain ⟨Ao83, co83, eo83⟩ := Kd.R_slice HO_10.out
                                              subst eo83
                                              have p317 : 0 ≤ (0 : Int) := (by omega)
                                              have q317 : 0 < (x10_4.length : Int) := of_decide_eq_true (by first | (with_reducible assumption) | assumption)
                                              obtain ⟨ad317, e317, hx317_0⟩ := Kd.at_bool (Kd.R_reads' HO_10.out).2.2 0 p317 q317
                                              cases e317
                                              have qi317 : (0 < x10_4.length) = True := eq_true (by omega)
                                              (try rw [show ((0 : Int)).toNat = 0 from rfl] at hx317_0)
                                              (try rw [Addr.add_zero'] at hx317_0)
                                              replace p317 := eq_true p317
                                              replace q317 := eq_true q317
                                              have p82 : 0 ≤ (31 : Int) := (by omega)
                                              have q82 : (31 : Int) < ((x12_6.length : Int) : Int) := of_decide_eq_true (by first | (with_reducible assumption) | assumption)
                                              have qi82 : (31 < x12_6.length) = True := eq_true (by omega)
                                              obtain ⟨go82, co82, eo82, gb82, gl82, cl82, HG82⟩ := Kd.R_form HO_12.out (by omega)
                                              (first | cases eo82 | (injection eo82 with ea_ en_ ec_; (first | subst ea_ | (injection ea_ with ea_; subst ea_)); subst ec_; clear en_))
                                              have GB82 := Aside0.mk gb82
                                              have GG82 := Aside0.mk HG82
                                              clear gb82 gl82 HG82
                                              obtain ⟨hx82_0, hf82_0⟩ := Kd.R_celln false HO_12.out (31 : Int) p82 q82
                                              (try rw [show ((31 : Int)).toNat = 31 from rfl] at hx82_0)
                                              (try simp only [Nat.reduceMul, Nat.zero_mul, Nat.zero_add, Nat.reduceAdd] at hx82_0)
                                              (try rw [show ((31 : Int)).toNat = 31 from rfl] at hf82_0)
                                              (try simp only [Nat.reduceMul, Nat.zero_mul, Nat.zero_add, Nat.reduceAdd] at hf82_0)
                                              replace p82 := eq_true p82
                                              replace q82 := eq_true q82
                                              have HP84 := Kd.R_putg HO_12.out (31 : Int) (rdOf false x10_4 0)
                                              go_wp2_with (first | ((with_reducible refine gate_store (t := 4) (p := 94) rfl ?_); refine store_event (t := 4) (p := 94) (v := ?vo_w85) (w1 := (wc.setCell ⟨go82, (31 : Int).toNat, none⟩ (.bool (rdOf false x10_4 0)))) ?hg ?ho ?hn ?hr ?_; (case ho => rfl); (case hg => rfl); (case hn => rfl); (case hr => first | (go_simp; done) | (go_simp; rfl)); intro w85 hw; have hg : wc.grownBy w85 (some go82) := (by rw [hw]; exact HP84.2); have hp_ : Kd.R Kd.bool 4 w85 w.heap.size (fun k_ => some k_ ≠ (.slice (some ad317) x10_4.length co83 : Value).ownBlock) (.slice (some ⟨go82, 0, none⟩) x12_6.length co82) y318 := (by rw [hw, Ny318.out]; exact HP84.1); clear HP84; have n0_ := Aside0.mk (Kd.R_after (v := (.slice (some ⟨go82, 0, none⟩) x12_6.length co82)) (v1 := (.slice (some ⟨go82, 0, none⟩) x12_6.length co82)) (ok := (fun _ => True)) (by (with_reducible repeat (first | apply Kd.R_alloc | apply Kd.R_drewN | apply Kd.R_drew)); exact Kd.R_mono HO_10.out (fun _ hk => ⟨trivial, hk⟩)) hg (.inl rfl)); have n1_ := Aside0.mk (hp_); have n2_ := Aside0.mk ((by rw [hw]; exact below_set (HB.out) GB82.out : Below w.heap.size w w85)); clear HO_10; clear HO_12; clear HB; have HO_10 := n0_; have HO_12 := n1_; have HB := n2_; clear n0_ n1_ n2_; clear hg hw hp_))
                                              go_roundg kj57
                                              case measure => have := HJ4.out; have := HJ7.out; have := HJ9.out; have := HK4.out; have := HJ13.out; have := HK6.out; have := HJ57.out; omega
                                              case rel => exact ⟨(x3_57), (y318), ((x11_4 + 1) % 4294967296), (by first | rfl | (simp; done) | (simp [*]; done) | (simp; omega)), (by first | rfl | (simp; done) | (simp [*]; done) | (simp; omega)), H', ⟨by have := HJ4.out; have := HJ7.out; have := HJ9.out; have := HK4.out; have := HJ13.out; have := HK6.out; have := HJ57.out; omega⟩, ⟨by (with_reducible repeat (first | apply Kd.R_alloc | apply Kd.R_drewN | apply Kd.R_drew)); exact Kd.R_mono HO_12.out (fun _ hk => trivial)⟩, ⟨by repeat (first | (with_reducible first | exact HB.out | apply below_alloc | apply pw_below_drewN | apply below_drew1) | exact HB.out)⟩⟩
                                            · rw [if_neg c81] at H
                                              exact absurd H (by simp)
                                          · rw [if_neg c80] at H
                                            exact absurd H (by simp)
                                        · rw [if_neg c79] at H
                                          have c79b0 : (a0 == 3) = false := beq_eq_false_iff_ne.mpr c79
                                          have c79b1 : (a0 != 3) = true := bne_iff_ne.mpr c79
                                          have H' := Aside0.mk H
                                          clear H
                                          go_wp2
                                          go_roundg kj57
                                          case measure => have := HJ4.out; have := HJ7.out; have := HJ9.out; have := HK4.out; have := HJ13.out; have := HK6.out; have := HJ57.out; omega
                                          case rel => exact ⟨(x3_57), (x12_6), ((x11_4 + 1) % 4294967296), (by first | rfl | (simp; done) | (simp [*]; done) | (simp; omega)), (by first | rfl | (simp; done) | (simp [*]; done) | (simp; omega)), H', ⟨by have := HJ4.out; have := HJ7.out; have := HJ9.out; have := HK4.out; have := HJ13.out; have := HK6.out; have := HJ57.out; omega⟩, ⟨by (with_reducible repeat (first | apply Kd.R_alloc | apply Kd.R_drewN | apply Kd.R_drew)); exact Kd.R_mono HO_12.out (fun _ hk => trivial)⟩, ⟨by repeat (first | (with_reducible first | exact HB.out | apply below_alloc | apply pw_below_drewN | apply below_drew1) | exact HB.out)⟩⟩
                          · rw [if_neg c17] at H
                            exact absurd H (by simp)
                        · replace c16 := Bool.eq_false_iff.mpr c16
                          subst c16
                          have H1 : ((bautaref01_Word.f kj13 x10_4).bind fun t301 => (some (t301, x3_4))) = some (r1, r2) := by rw [if_neg (show ¬ (false = true) by decide)] at H; exact H
                          clear H
                          have H := H1
                          clear H1
                          replace H := Option.bind_eq_some_iff.mp H
                          obtain ⟨t301, A860, H⟩ := H
                          replace H : (some (t301, x3_4)) = some (r1, r2) := H
                          have A86 := Aside0.mk A860
                          clear A860
                          simp only [Option.some.injEq, Prod.mk.injEq] at H
                          obtain ⟨rfl, rfl⟩ := H
                          obtain ⟨Ao87, co87, eo87⟩ := Kd.R_slice HO_10.out
                          subst eo87
                          go_wp2_with (first | ((with_reducible refine gate_callee (f := 35) rfl ?_); refine goesL_ (some 97) rfl rfl Try.func35 (by kernel_rfl) rfl #[.slice Ao87 x10_4.length co87] rfl (by (try simp only [List.map_toArray, List.map_cons, List.map_nil]); first | done | rfl | (simp only [List.length_drop, List.length_take]; rfl)) ?_; (with_reducible refine (bautaref01_Word.calls kj13 _ _ x10_4 t301 _ ?side1 ?side2 A86.out).mono ?_); (case side1 => repeat (first | exact (Kd.R_reads' HO_10.out).2.2 | (with_reducible refine Kd.C_alloc ?_ _) | (with_reducible refine Kd.C_drewN ?_ _) | (with_reducible refine Kd.C_drew ?_))); (case side2 => exact (Kd.R_reads' HO_10.out).2.1); rintro e w' ⟨rfl, ⟨nd, rfl⟩⟩; refine ⟨_, rfl, ?_⟩))
                          go_ret2
                          exact ⟨by first | rfl | (simp [errW_none, errW_some] <;> rfl) | (simp [*, errW_none, errW_some] <;> rfl), by repeat (first | (with_reducible first | exact HB.out | apply below_alloc | apply pw_below_drewN | apply below_drew1) | exact HB.out)⟩

end Go.Proofs.Ytcpcahhnkojolaa.PB
