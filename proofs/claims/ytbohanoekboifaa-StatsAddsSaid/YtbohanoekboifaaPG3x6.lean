/- Written by this session's own program (wip/tools/pr.sh) for this claim: functions of the Go program as plain Lean functions, and that the calls come to what these say; in a Law text: the given statement. Conditions: none but the hypotheses that each theorem states. -/
import Derived.Test.YtbohanoekboifaaAb
import Derived.Test.YtbohanoekboifaaPG3x0
import Derived.Test.YtbohanoekboifaaPG3x5
namespace Go.Proofs.Ytbohanoekboifaa.PG3
open Go.RowKit Go.Proofs.YtbohanoekboifaaW.PrintWords Go.Proofs.YtbohanoekboifaaW.PrintLast Go.Proofs.YtbohanoekboifaaW.PrintMore Go.Proofs.Ytbohanoekboifaa.Ab
attribute [local go_sem] max2_int min2_int max_two min_two max_three min_three max_four min_four   -- for this text's walks alone
set_option linter.unusedVariables false
set_option linter.unusedSimpArgs false


/-! ### bautaref39_Add: function 14 -/
mutual
def bautaref39_Add.l0 : Nat → List Int → Int → Int → List Int → List Int → Option (Int × List Int × List Int × Int)
 | 0, _, _, _, _, _ => none
 | k + 1, x1, x6, x201000, x201001, x201002 => if x6 < (x1.length : Int) then (if 0 ≤ x6 then (if (rd x1 x6) < 0 then (some (0, ([] : List Int), ([] : List Int), 1)) else (if (rd x1 x6) > 32 then (some (0, ([] : List Int), ([] : List Int), 1)) else (bautaref39_Add.l0 k x1 (wrap64 (x6 + 1)) x201000 x201001 x201002))) else (none)) else ((bautaref39_Can.f k x201000 x201001 x201002).bind fun t204 => (if t204 = true then (if x201000 > 0 then (bautaref39_Add.j1 k x1 ((x201001.length : Int) != (x1.length : Int)) x201000 x201001 x201002) else (bautaref39_Add.j1 k x1 false x201000 x201001 x201002)) else (bautaref39_Add.j1 k x1 true x201000 x201001 x201002)))
def bautaref39_Add.j1 : Nat → List Int → Bool → Int → List Int → List Int → Option (Int × List Int × List Int × Int)
 | 0, _, _, _, _, _ => none
 | k + 1, x1, x45, x201000, x201001, x201002 => if x45 = true then (some (0, ([] : List Int), ([] : List Int), 1)) else (if x201000 = 500 then (bautaref39_Add.j2 k x1 true x201000 x201001 x201002) else (bautaref39_Add.j2 k x1 (decide ((x1.length : Int) > 4000)) x201000 x201001 x201002))
def bautaref39_Add.j2 : Nat → List Int → Bool → Int → List Int → List Int → Option (Int × List Int × List Int × Int)
 | 0, _, _, _, _, _ => none
 | k + 1, x1, x54, x201000, x201001, x201002 => if x54 = true then (some (0, ([] : List Int), ([] : List Int), 150)) else (bautaref39_Add.l1 k x1 0 x201000 x201001 x201002 (wrap64 (x201000 + 1)) ([] : List Int) ([] : List Int))
def bautaref39_Add.l1 : Nat → List Int → Int → Int → List Int → List Int → Int → List Int → List Int → Option (Int × List Int × List Int × Int)
 | 0, _, _, _, _, _, _, _, _ => none
 | k + 1, x1, x8, x201000, x201001, x201002, x206000, x206001, x206002 => if x8 < (x1.length : Int) then (if 0 ≤ x8 then (if x201000 > 0 then (if x8 < (x201001.length : Int) then (if x8 < (x201002.length : Int) then ((some (([wrap64 ((rd x1 x8) + (rd x201001 x8))] : List Int) : List Int)).bind fun y211 => (if x206001.length + y211.length < 17592186044416 then ((some (([wrap64 ((wrap64 ((rd x1 x8) * (rd x1 x8))) + (rd x201002 x8))] : List Int) : List Int)).bind fun y217 => (if x206002.length + y217.length < 17592186044416 then (bautaref39_Add.l1 k x1 (wrap64 (x8 + 1)) x201000 x201001 x201002 x206000 (x206001 ++ y211) (x206002 ++ y217)) else (none))) else (none))) else (none)) else (none)) else ((some (([rd x1 x8] : List Int) : List Int)).bind fun y223 => (if x206001.length + y223.length < 17592186044416 then ((some (([wrap64 ((rd x1 x8) * (rd x1 x8))] : List Int) : List Int)).bind fun y229 => (if x206002.length + y229.length < 17592186044416 then (bautaref39_Add.l1 k x1 (wrap64 (x8 + 1)) x201000 x201001 x201002 x206000 (x206001 ++ y223) (x206002 ++ y229)) else (none))) else (none)))) else (none)) else (some (x206000, x206001, x206002, 0))
end
def bautaref39_Add.f (k : Nat) (a0_0 : Int) (l0_1 : List Int) (l0_2 : List Int) (l1 : List Int) : Option (Int × List Int × List Int × Int) := bautaref39_Add.l0 k l1 0 a0_0 l0_1 l0_2
theorem bautaref39_Add.mono_l : ∀ k, (∀ y0 y1 y2 y3 y4, LeO (bautaref39_Add.l0 k y0 y1 y2 y3 y4) (bautaref39_Add.l0 (k + 1) y0 y1 y2 y3 y4)) ∧ (∀ y0 y1 y2 y3 y4, LeO (bautaref39_Add.j1 k y0 y1 y2 y3 y4) (bautaref39_Add.j1 (k + 1) y0 y1 y2 y3 y4)) ∧ (∀ y0 y1 y2 y3 y4, LeO (bautaref39_Add.j2 k y0 y1 y2 y3 y4) (bautaref39_Add.j2 (k + 1) y0 y1 y2 y3 y4)) ∧ (∀ y0 y1 y2 y3 y4 y5 y6 y7, LeO (bautaref39_Add.l1 k y0 y1 y2 y3 y4 y5 y6 y7) (bautaref39_Add.l1 (k + 1) y0 y1 y2 y3 y4 y5 y6 y7))
 | 0 => ⟨fun _ _ _ _ _ r h => by simp [bautaref39_Add.l0] at h, fun _ _ _ _ _ r h => by simp [bautaref39_Add.j1] at h, fun _ _ _ _ _ r h => by simp [bautaref39_Add.j2] at h, fun _ _ _ _ _ _ _ _ r h => by simp [bautaref39_Add.l1] at h⟩
 | k + 1 => by
  obtain ⟨ih0, ih1, ih2, ih3⟩ := bautaref39_Add.mono_l k
  refine ⟨?_, ?_, ?_, ?_⟩
  ·intro y0 y1 y2 y3 y4
   unfold bautaref39_Add.l0
   repeat' first
   | (with_reducible exact ih0 _ _ _ _ _)
   | (with_reducible exact ih1 _ _ _ _ _)
   | (with_reducible exact ih2 _ _ _ _ _)
   | (with_reducible exact ih3 _ _ _ _ _ _ _ _)
   | (with_reducible exact bautaref39_Can.mono _ _ _ _)
   | (with_reducible exact LeO.refl _)
   | (with_reducible exact LeO.none _)
   | (with_reducible refine LeO.ite ?_ ?_)
   | (with_reducible refine LeO.bind ?_ (fun _ => ?_))
   | exact ih0 _ _ _ _ _
   | exact ih1 _ _ _ _ _
   | exact ih2 _ _ _ _ _
   | exact ih3 _ _ _ _ _ _ _ _
   | exact bautaref39_Can.mono _ _ _ _
   | exact LeO.none _
   | refine LeO.ite ?_ ?_
   | refine LeO.bind ?_ (fun _ => ?_)
  ·intro y0 y1 y2 y3 y4
   unfold bautaref39_Add.j1
   repeat' first
   | (with_reducible exact ih0 _ _ _ _ _)
   | (with_reducible exact ih1 _ _ _ _ _)
   | (with_reducible exact ih2 _ _ _ _ _)
   | (with_reducible exact ih3 _ _ _ _ _ _ _ _)
   | (with_reducible exact bautaref39_Can.mono _ _ _ _)
   | (with_reducible exact LeO.refl _)
   | (with_reducible exact LeO.none _)
   | (with_reducible refine LeO.ite ?_ ?_)
   | (with_reducible refine LeO.bind ?_ (fun _ => ?_))
   | exact ih0 _ _ _ _ _
   | exact ih1 _ _ _ _ _
   | exact ih2 _ _ _ _ _
   | exact ih3 _ _ _ _ _ _ _ _
   | exact bautaref39_Can.mono _ _ _ _
   | exact LeO.none _
   | refine LeO.ite ?_ ?_
   | refine LeO.bind ?_ (fun _ => ?_)
  ·intro y0 y1 y2 y3 y4
   unfold bautaref39_Add.j2
   repeat' first
   | (with_reducible exact ih0 _ _ _ _ _)
   | (with_reducible exact ih1 _ _ _ _ _)
   | (with_reducible exact ih2 _ _ _ _ _)
   | (with_reducible exact ih3 _ _ _ _ _ _ _ _)
   | (with_reducible exact bautaref39_Can.mono _ _ _ _)
   | (with_reducible exact LeO.refl _)
   | (with_reducible exact LeO.none _)
   | (with_reducible refine LeO.ite ?_ ?_)
   | (with_reducible refine LeO.bind ?_ (fun _ => ?_))
   | exact ih0 _ _ _ _ _
   | exact ih1 _ _ _ _ _
   | exact ih2 _ _ _ _ _
   | exact ih3 _ _ _ _ _ _ _ _
   | exact bautaref39_Can.mono _ _ _ _
   | exact LeO.none _
   | refine LeO.ite ?_ ?_
   | refine LeO.bind ?_ (fun _ => ?_)
  ·intro y0 y1 y2 y3 y4 y5 y6 y7
   unfold bautaref39_Add.l1
   repeat' first
   | (with_reducible exact ih0 _ _ _ _ _)
   | (with_reducible exact ih1 _ _ _ _ _)
   | (with_reducible exact ih2 _ _ _ _ _)
   | (with_reducible exact ih3 _ _ _ _ _ _ _ _)
   | (with_reducible exact bautaref39_Can.mono _ _ _ _)
   | (with_reducible exact LeO.refl _)
   | (with_reducible exact LeO.none _)
   | (with_reducible refine LeO.ite ?_ ?_)
   | (with_reducible refine LeO.bind ?_ (fun _ => ?_))
   | exact ih0 _ _ _ _ _
   | exact ih1 _ _ _ _ _
   | exact ih2 _ _ _ _ _
   | exact ih3 _ _ _ _ _ _ _ _
   | exact bautaref39_Can.mono _ _ _ _
   | exact LeO.none _
   | refine LeO.ite ?_ ?_
   | refine LeO.bind ?_ (fun _ => ?_)
theorem bautaref39_Add.mono : ∀ a0 a1 a2 a3 k, LeO (bautaref39_Add.f k a0 a1 a2 a3) (bautaref39_Add.f (k + 1) a0 a1 a2 a3) := by
 intro a0 a1 a2 a3 k
 obtain ⟨ih0, ih1, ih2, ih3⟩ := bautaref39_Add.mono_l k
 unfold bautaref39_Add.f
 repeat' first
   | (with_reducible exact ih0 _ _ _ _ _)
   | (with_reducible exact ih1 _ _ _ _ _)
   | (with_reducible exact ih2 _ _ _ _ _)
   | (with_reducible exact ih3 _ _ _ _ _ _ _ _)
   | (with_reducible exact bautaref39_Can.mono _ _ _ _)
   | (with_reducible exact LeO.refl _)
   | (with_reducible exact LeO.none _)
   | (with_reducible refine LeO.ite ?_ ?_)
   | (with_reducible refine LeO.bind ?_ (fun _ => ?_))
   | exact ih0 _ _ _ _ _
   | exact ih1 _ _ _ _ _
   | exact ih2 _ _ _ _ _
   | exact ih3 _ _ _ _ _ _ _ _
   | exact bautaref39_Can.mono _ _ _ _
   | exact LeO.none _
   | refine LeO.ite ?_ ?_
   | refine LeO.bind ?_ (fun _ => ?_)
def bautaref39_Add.T14 : Bool × List (List Nat × List Nat) := (true, [([], []), ([], []), ([0, 1], [0, 1]), ([2], [2]), ([], []), ([], []), ([4, 5], [4, 5]), ([6], [6]), ([], []), ([], []), ([8, 9], [8, 9]), ([10], [10]), ([7, 11], [7, 11]), ([3, 0, 1, 2, 3], [3]), ([12, 13, 0, 1, 2, 3, 4, 5, 6, 7, 8, 9, 10, 11, 12, 13], [12])])
def bautaref39_Add.B14 : List Nat := [0, 0, 3, 7, 0, 0, 48, 112, 0, 0, 768, 1792, 4080, 15, 16383]
theorem bautaref39_Add.tab14 : rtab .any (opsOf Try.f14 14) = bautaref39_Add.T14 := by kernel_rfl
theorem bautaref39_Add.bits14 : waitsOk bautaref39_Add.T14.2 bautaref39_Add.B14 = true := by kernel_rfl
def bautaref39_Add.T16 : Bool × List (List Nat × List Nat) := (true, [([], []), ([], []), ([1], [1]), ([], []), ([2, 3], [2, 3]), ([4], [4]), ([0, 5], [0, 5]), ([], []), ([], []), ([8], [8]), ([], []), ([9, 10], [9, 10]), ([11], [11]), ([7, 12], [7, 12]), ([6, 0, 1, 2, 3, 4, 5, 6], [0, 6]), ([13, 14, 0, 1, 2, 3, 4, 5, 6, 7, 8, 9, 10, 11, 12, 13, 14], [7, 13])])
def bautaref39_Add.B16 : List Nat := [0, 0, 2, 0, 14, 30, 63, 0, 0, 256, 0, 1792, 3840, 8064, 127, 32767]
theorem bautaref39_Add.tab16 : rtab .any (opsOf Try.f14 16) = bautaref39_Add.T16 := by kernel_rfl
theorem bautaref39_Add.bits16 : waitsOk bautaref39_Add.T16.2 bautaref39_Add.B16 = true := by kernel_rfl
def bautaref39_Add.T17 : Bool × List (List Nat × List Nat) := (true, [([], []), ([0], [0]), ([], []), ([2], [2]), ([1, 3], [1, 3]), ([], []), ([5], [5]), ([], []), ([7], [7]), ([6, 8, 4], [6, 8]), ([0, 1, 2, 3, 4, 5, 6], []), ([10, 4, 9, 0, 1, 2, 3, 4, 5, 6], [4, 10]), ([0, 1, 2, 3, 4, 5, 6, 7, 8, 9, 10, 11], []), ([12, 9, 11, 0, 1, 2, 3, 4, 5, 6, 7, 8, 9, 10, 11], [9, 12])])
def bautaref39_Add.B17 : List Nat := [0, 1, 0, 4, 15, 0, 32, 0, 128, 511, 127, 2047, 4095, 8191]
theorem bautaref39_Add.tab17 : rtab .any (opsOf Try.f14 17) = bautaref39_Add.T17 := by kernel_rfl
theorem bautaref39_Add.bits17 : waitsOk bautaref39_Add.T17.2 bautaref39_Add.B17 = true := by kernel_rfl
set_option maxHeartbeats 8000000 in
set_option maxRecDepth 100000 in
theorem bautaref39_Add.calls (k : Nat) (a0_0 : Int) (A0_1 : Option Addr) (c0_1 : Nat) (l0_1 : List Int) (A0_2 : Option Addr) (c0_2 : Nat) (l0_2 : List Int) (A1 : Option Addr) (c1 : Nat) (l1 : List Int) (r1 : Int) (r2 : List Int) (r3 : List Int) (r4 : Int) (w : World) (hr0_1 : Kd.C (Kd.int .i64) w A0_1 l0_1.length l0_1) (hc0_1 : l0_1.length ≤ c0_1) (hr0_2 : Kd.C (Kd.int .i64) w A0_2 l0_2.length l0_2) (hc0_2 : l0_2.length ≤ c0_2) (hr1 : Kd.C (Kd.int .i64) w A1 l1.length l1) (hc1 : l1.length ≤ c1) (h : bautaref39_Add.f k a0_0 l0_1 l0_2 l1 = some (r1, r2, r3, r4)) :
  Calls Try.prog 14 #[.agg #[.int .i64 a0_0, .slice A0_1 l0_1.length c0_1, .slice A0_2 l0_2.length c0_2], .slice A1 l1.length c1] w fun e w' => ∃ v1_ v2_ : Value, e = .returned (.tuple #[.agg #[.int .i64 r1, v1_, v2_], .int .i64 r4]) ∧ Kd.R (Kd.int .i64) 3 w' w.heap.size (fun k_ => some k_ ≠ (v2_ : Value).ownBlock) v1_ r2 ∧ Kd.R (Kd.int .i64) 3 w' w.heap.size (fun k_ => some k_ ≠ (v1_ : Value).ownBlock) v2_ r3 ∧ Below w.heap.size w w' := by
 have hu24 := Try.underlying24
 have HR0_1 := Aside0.mk hr0_1
 have HC0_1 := Aside0.mk hc0_1
 clear hr0_1 hc0_1
 have HR0_2 := Aside0.mk hr0_2
 have HC0_2 := Aside0.mk hc0_2
 clear hr0_2 hc0_2
 have HR1 := Aside0.mk hr1
 have HC1 := Aside0.mk hc1
 clear hr1 hc1
 have HB := Aside0.mk (Below.refl w.heap.size w)
 have H : (bautaref39_Add.l0 k l1 0 a0_0 l0_1 l0_2) = some (r1, r2, r3, r4) := h
 clear h
 have H' := Aside0.mk H
 clear H
 go_enter Try.func14, Try.ntmps14
 go_wp2_with (first | ((with_reducible refine gate_dst (N := 2) rfl ?_); (try (refine gate_guard (by rfl) ?_; dsimp only)); refine box_event ?hg (N := 2) ?hd (cs := #[.int .i64 a0_0, .slice A0_1 l0_1.length c0_1, .slice A0_2 l0_2.length c0_2]) (t := 24) ?hr ?_; (case hd => rfl); (case hg => rfl); (case hr => first | (go_simp; done) | (go_simp; rfl)); intro gb200 hg wz_ hbox hb; have n0_ := Aside0.mk (below_step (by (repeat (first | (with_reducible first | exact HB.out | apply below_alloc | apply pw_below_drewN | apply below_drew1) | exact HB.out))) hb); have n1_ := Aside0.mk (hbox); have n2_ := Aside0.mk ((by rw [hg]; exact (below_size (by (repeat (first | (with_reducible first | exact HB.out | apply below_alloc | apply pw_below_drewN | apply below_drew1) | exact HB.out)))) : w.heap.size ≤ gb200)); have n3_ := Aside0.mk ((by rw [hg]; exact (below_size (by (repeat (first | (with_reducible first | exact HB.out | apply below_alloc | apply pw_below_drewN | apply below_drew1) | exact HB.out)))) : w.heap.size ≤ gb200)); clear HB; have HB := n0_; have BK200 := n1_; have GW200 := n2_; have GE200 := n3_; clear n0_ n1_ n2_ n3_; clear hb hbox hg) | ((with_reducible refine gate_dst (N := 4) rfl ?_); (try (refine gate_guard (by rfl) ?_; dsimp only)); refine box_event ?hg (N := 4) ?hd (cs := #[.int .i64 0, .slice none 0 0, .slice none 0 0]) (t := 24) ?hr ?_; (case hd => rfl); (case hg => rfl); (case hr => first | (go_simp; done) | (go_simp; rfl)); intro gb201 hg wz_ hbox hb; have n0_ := Aside0.mk (blk_below (rb_ BK200) hb); have n1_ := Aside0.mk (below_step (by (repeat (first | (with_reducible first | exact HB.out | apply below_alloc | apply pw_below_drewN | apply below_drew1 | refine below_set ?_ GE200.out) | exact HB.out))) hb); have n2_ := Aside0.mk (hbox); have n3_ := Aside0.mk ((by rw [hg]; exact (below_size (by (repeat (first | (with_reducible first | exact HB.out | apply below_alloc | apply pw_below_drewN | apply below_drew1 | refine below_set ?_ GE200.out) | exact HB.out)))) : w.heap.size ≤ gb201)); have n4_ := Aside0.mk ((by rw [hg]; exact (below_size (by (repeat (first | (with_reducible first | exact HB.out | apply below_alloc | apply pw_below_drewN | apply below_drew1 | refine below_set ?_ GE200.out) | exact HB.out)))) : w.heap.size ≤ gb201)); have n5_ := Aside0.mk ((by rw [hg]; exact Nat.ne_of_lt (blk_lt (rb_ BK200)) : gb200 ≠ gb201)); have n6_ := Aside0.mk ((by rw [hg]; exact Nat.ne_of_gt (blk_lt (rb_ BK200)) : gb201 ≠ gb200)); clear BK200; clear HB; have BK200 := n0_; have HB := n1_; have BK201 := n2_; have GW201 := n3_; have GE201 := n4_; have NB200_201 := n5_; have NB201_200 := n6_; clear n0_ n1_ n2_ n3_ n4_ n5_ n6_; clear hb hbox hg))
 go_loopg [6] k (fun kq v6 w' => ∃ (x6_1 : Int) (x202000_1 : Int), v6 = .int .i64 x6_1 ∧ Aside0 (bautaref39_Add.l0 kq l1 x6_1 a0_0 l0_1 l0_2 = some (r1, r2, r3, r4)) ∧ Aside0 (kq ≤ k) ∧ Aside0 (w'.heap[gb200]? = some (.cells #[.int .i64 a0_0, (.slice A0_1 l0_1.length c0_1), (.slice A0_2 l0_2.length c0_2)] 24 (0, 0))) ∧ Aside0 (w'.heap[gb201]? = some (.cells #[.int .i64 x202000_1, (.slice none 0 0), (.slice none 0 0)] 24 (0, 0))) ∧ Aside0 (Below w.heap.size w w'))
 case atStart => exact ⟨(0), (0), (by first | rfl | (simp; done) | (simp [*]; done) | (simp; omega)), H', ⟨Nat.le_refl _⟩, ⟨by (with_reducible repeat (first | refine blk_drewN ?_ _ | refine blk_drew ?_ | refine blk_alloc ?_ _)); exact BK200.out⟩, ⟨by (with_reducible repeat (first | refine blk_drewN ?_ _ | refine blk_drew ?_ | refine blk_alloc ?_ _)); exact BK201.out⟩, ⟨by repeat (first | (with_reducible first | exact HB.out | apply below_alloc | apply pw_below_drewN | apply below_drew1 | refine below_set ?_ GE200.out | refine below_set ?_ GE201.out) | exact HB.out)⟩⟩
 case round =>
  clear H'
  try clear c1
  try clear p2
  obtain ⟨x6_1, x202000_1, rfl, HA, HK1, BK200, BK201, HB⟩ := hrel
  cases gk with
  | zero => exact absurd HA.out (by simp [bautaref39_Add.l0])
  | succ k1 =>
   have H := HA.out
   clear HA
   simp only [bautaref39_Add.l0] at H
   by_cases c5 : x6_1 < (l1.length : Int)
   ·rw [if_pos c5] at H
    have c5b0 : decide (x6_1 < (l1.length : Int)) = true := decide_eq_true c5
    clear c5
    by_cases c6 : 0 ≤ x6_1
    ·rw [if_pos c6] at H
     have c6b0 : decide (0 ≤ x6_1) = true := decide_eq_true c6
     clear c6
     by_cases c7 : (rd l1 x6_1) < 0
     ·rw [if_pos c7] at H
      have c7b0 : decide ((rd l1 x6_1) < 0) = true := decide_eq_true c7
      clear c7
      simp only [Option.some.injEq, Prod.mk.injEq] at H
      obtain ⟨rfl, rfl, rfl, rfl⟩ := H
      have p202 : 0 ≤ (x6_1 : Int) := of_decide_eq_true (by first | (with_reducible assumption) | assumption)
      have q202 : x6_1 < (l1.length : Int) := of_decide_eq_true (by first | (with_reducible assumption) | assumption)
      obtain ⟨ad202, e202, hx202_0⟩ := Kd.at_int HR1.out x6_1 p202 q202
      cases e202
      replace hx202_0 := (HB.out.cell (World.block_lt_of_cell? w _ hx202_0)).trans hx202_0
      replace p202 := eq_true p202
      replace q202 := eq_true q202
      have hnb8 := NB201_200.out
      have hnc8 := NB200_201.out
      have hcz9_0 : wr.cell? ⟨gb201, 0, none⟩ = some (.int .i64 x202000_1) := (blk_cell BK201.out 0).trans rfl
      have hcz9_1 : wr.cell? ⟨gb201, 1, none⟩ = some (.slice none 0 0) := (blk_cell BK201.out 1).trans rfl
      have hcz9_2 : wr.cell? ⟨gb201, 2, none⟩ = some (.slice none 0 0) := (blk_cell BK201.out 2).trans rfl
      have hfz9_0 := blk_frozen BK201.out 0
      have hfz9_1 := blk_frozen BK201.out 1
      have hfz9_2 := blk_frozen BK201.out 2
      go_wp2
      refine bodyPost_ret (results_ct rfl _ _ gb201 24 #[.int .i64 0, .slice none 0 0, .slice none 0 0] (0, 0) _ rfl (by (with_reducible repeat (first | refine blk_drewN ?_ _ | refine blk_drew ?_ | refine blk_alloc ?_ _)); refine blk_put (cs := #[.int .i64 0, .slice none 0 0, .slice none 0 0]) ?_ 2 _ rfl; (with_reducible repeat (first | refine blk_drewN ?_ _ | refine blk_drew ?_ | refine blk_alloc ?_ _)); refine blk_put (cs := #[.int .i64 0, .slice none 0 0, .slice none 0 0]) ?_ 1 _ rfl; (with_reducible repeat (first | refine blk_drewN ?_ _ | refine blk_drew ?_ | refine blk_alloc ?_ _)); refine blk_put (cs := #[.int .i64 x202000_1, .slice none 0 0, .slice none 0 0]) ?_ 0 _ rfl; (with_reducible repeat (first | refine blk_drewN ?_ _ | refine blk_drew ?_ | refine blk_alloc ?_ _)); exact BK201.out) Try.underlying24 rfl (by kernel_rfl)) rfl ?_
      exact ⟨_, _, by first | rfl | (simp [errW_none, errW_some] <;> rfl) | (simp [*, errW_none, errW_some] <;> rfl), by first | exact Kd.R_nil _ _ _ _ _ | exact Kd.N_nil _ _ _ _ _ | exact Kd.V_nil _ _ _ _ _ | exact Kd.Q_nil _ _ _ _ _ | exact Kd.S_nil _ _ _ _ _, by first | exact Kd.R_nil _ _ _ _ _ | exact Kd.N_nil _ _ _ _ _ | exact Kd.V_nil _ _ _ _ _ | exact Kd.Q_nil _ _ _ _ _ | exact Kd.S_nil _ _ _ _ _, by repeat (first | (with_reducible first | exact HB.out | apply below_alloc | apply pw_below_drewN | apply below_drew1 | refine below_set ?_ GE200.out | refine below_set ?_ GE201.out) | exact HB.out)⟩
     ·rw [if_neg c7] at H
      have c7b0 : decide ((rd l1 x6_1) < 0) = false := decide_eq_false c7
      clear c7
      by_cases c10 : (rd l1 x6_1) > 32
      ·rw [if_pos c10] at H
       have c10b0 : decide (32 < (rd l1 x6_1)) = true := decide_eq_true c10
       clear c10
       simp only [Option.some.injEq, Prod.mk.injEq] at H
       obtain ⟨rfl, rfl, rfl, rfl⟩ := H
       have p202 : 0 ≤ (x6_1 : Int) := of_decide_eq_true (by first | (with_reducible assumption) | assumption)
       have q202 : x6_1 < (l1.length : Int) := of_decide_eq_true (by first | (with_reducible assumption) | assumption)
       obtain ⟨ad202, e202, hx202_0⟩ := Kd.at_int HR1.out x6_1 p202 q202
       cases e202
       replace hx202_0 := (HB.out.cell (World.block_lt_of_cell? w _ hx202_0)).trans hx202_0
       replace p202 := eq_true p202
       replace q202 := eq_true q202
       have p203 : 0 ≤ (x6_1 : Int) := of_decide_eq_true (by first | (with_reducible assumption) | assumption)
       have q203 : x6_1 < (l1.length : Int) := of_decide_eq_true (by first | (with_reducible assumption) | assumption)
       obtain ⟨ad203, e203, hx203_0⟩ := Kd.at_int HR1.out x6_1 p203 q203
       obtain rfl : ad202 = ad203 := (by injection e203)
       replace hx203_0 := (HB.out.cell (World.block_lt_of_cell? w _ hx203_0)).trans hx203_0
       replace p203 := eq_true p203
       replace q203 := eq_true q203
       have hnb11 := NB201_200.out
       have hnc11 := NB200_201.out
       have hcz12_0 : wr.cell? ⟨gb201, 0, none⟩ = some (.int .i64 x202000_1) := (blk_cell BK201.out 0).trans rfl
       have hcz12_1 : wr.cell? ⟨gb201, 1, none⟩ = some (.slice none 0 0) := (blk_cell BK201.out 1).trans rfl
       have hcz12_2 : wr.cell? ⟨gb201, 2, none⟩ = some (.slice none 0 0) := (blk_cell BK201.out 2).trans rfl
       have hfz12_0 := blk_frozen BK201.out 0
       have hfz12_1 := blk_frozen BK201.out 1
       have hfz12_2 := blk_frozen BK201.out 2
       go_wp2
       refine bodyPost_ret (results_ct rfl _ _ gb201 24 #[.int .i64 0, .slice none 0 0, .slice none 0 0] (0, 0) _ rfl (by (with_reducible repeat (first | refine blk_drewN ?_ _ | refine blk_drew ?_ | refine blk_alloc ?_ _)); refine blk_put (cs := #[.int .i64 0, .slice none 0 0, .slice none 0 0]) ?_ 2 _ rfl; (with_reducible repeat (first | refine blk_drewN ?_ _ | refine blk_drew ?_ | refine blk_alloc ?_ _)); refine blk_put (cs := #[.int .i64 0, .slice none 0 0, .slice none 0 0]) ?_ 1 _ rfl; (with_reducible repeat (first | refine blk_drewN ?_ _ | refine blk_drew ?_ | refine blk_alloc ?_ _)); refine blk_put (cs := #[.int .i64 x202000_1, .slice none 0 0, .slice none 0 0]) ?_ 0 _ rfl; (with_reducible repeat (first | refine blk_drewN ?_ _ | refine blk_drew ?_ | refine blk_alloc ?_ _)); exact BK201.out) Try.underlying24 rfl (by kernel_rfl)) rfl ?_
       exact ⟨_, _, by first | rfl | (simp [errW_none, errW_some] <;> rfl) | (simp [*, errW_none, errW_some] <;> rfl), by first | exact Kd.R_nil _ _ _ _ _ | exact Kd.N_nil _ _ _ _ _ | exact Kd.V_nil _ _ _ _ _ | exact Kd.Q_nil _ _ _ _ _ | exact Kd.S_nil _ _ _ _ _, by first | exact Kd.R_nil _ _ _ _ _ | exact Kd.N_nil _ _ _ _ _ | exact Kd.V_nil _ _ _ _ _ | exact Kd.Q_nil _ _ _ _ _ | exact Kd.S_nil _ _ _ _ _, by repeat (first | (with_reducible first | exact HB.out | apply below_alloc | apply pw_below_drewN | apply below_drew1 | refine below_set ?_ GE200.out | refine below_set ?_ GE201.out) | exact HB.out)⟩
      ·rw [if_neg c10] at H
       have c10b0 : decide (32 < (rd l1 x6_1)) = false := decide_eq_false c10
       clear c10
       have H' := Aside0.mk H
       clear H
       have p202 : 0 ≤ (x6_1 : Int) := of_decide_eq_true (by first | (with_reducible assumption) | assumption)
       have q202 : x6_1 < (l1.length : Int) := of_decide_eq_true (by first | (with_reducible assumption) | assumption)
       obtain ⟨ad202, e202, hx202_0⟩ := Kd.at_int HR1.out x6_1 p202 q202
       cases e202
       replace hx202_0 := (HB.out.cell (World.block_lt_of_cell? w _ hx202_0)).trans hx202_0
       replace p202 := eq_true p202
       replace q202 := eq_true q202
       have p203 : 0 ≤ (x6_1 : Int) := of_decide_eq_true (by first | (with_reducible assumption) | assumption)
       have q203 : x6_1 < (l1.length : Int) := of_decide_eq_true (by first | (with_reducible assumption) | assumption)
       obtain ⟨ad203, e203, hx203_0⟩ := Kd.at_int HR1.out x6_1 p203 q203
       obtain rfl : ad202 = ad203 := (by injection e203)
       replace hx203_0 := (HB.out.cell (World.block_lt_of_cell? w _ hx203_0)).trans hx203_0
       replace p203 := eq_true p203
       replace q203 := eq_true q203
       go_wp2
       go_roundg k1
       case measure => have := HK1.out; omega
       case rel => exact ⟨(wrap64 (x6_1 + 1)), (x202000_1), (by first | rfl | (simp; done) | (simp [*]; done) | (simp; omega)), H', ⟨by have := HK1.out; omega⟩, ⟨by (with_reducible repeat (first | refine blk_drewN ?_ _ | refine blk_drew ?_ | refine blk_alloc ?_ _)); exact BK200.out⟩, ⟨by (with_reducible repeat (first | refine blk_drewN ?_ _ | refine blk_drew ?_ | refine blk_alloc ?_ _)); exact BK201.out⟩, ⟨by repeat (first | (with_reducible first | exact HB.out | apply below_alloc | apply pw_below_drewN | apply below_drew1 | refine below_set ?_ GE200.out | refine below_set ?_ GE201.out) | exact HB.out)⟩⟩
    ·rw [if_neg c6] at H
     exact absurd H (by simp)
   ·rw [if_neg c5] at H
    have c5b0 : decide (x6_1 < (l1.length : Int)) = false := decide_eq_false c5
    clear c5
    have HC13 := Aside0.mk H
    clear H
    go_upto_region 6 with (fail)
    go_cut [45] (fun v45 wc => ∃ (kq : Nat) (x45_12 : Bool), v45 = .bool x45_12 ∧ Aside0 (bautaref39_Add.j1 kq l1 x45_12 a0_0 l0_1 l0_2 = some (r1, r2, r3, r4)) ∧ Aside0 (kq ≤ k1) ∧ Aside0 (wc.heap[gb200]? = some (.cells #[.int .i64 a0_0, (.slice A0_1 l0_1.length c0_1), (.slice A0_2 l0_2.length c0_2)] 24 (0, 0))) ∧ Aside0 (wc.heap[gb201]? = some (.cells #[.int .i64 x202000_1, (.slice none 0 0), (.slice none 0 0)] 24 (0, 0))) ∧ Aside0 (Below w.heap.size w wc))
    case first =>
     have H := HC13.out
     clear HC13
     replace H := Option.bind_eq_some_iff.mp H
     obtain ⟨t204, A140, H⟩ := H
     replace H : (if t204 = true then (if a0_0 > 0 then (bautaref39_Add.j1 k1 l1 ((l0_1.length : Int) != (l1.length : Int)) a0_0 l0_1 l0_2) else (bautaref39_Add.j1 k1 l1 false a0_0 l0_1 l0_2)) else (bautaref39_Add.j1 k1 l1 true a0_0 l0_1 l0_2)) = some (r1, r2, r3, r4) := H
     have A14 := Aside0.mk A140
     clear A140
     by_cases c15 : t204 = true
     ·subst c15
      have H1 : (if a0_0 > 0 then (bautaref39_Add.j1 k1 l1 ((l0_1.length : Int) != (l1.length : Int)) a0_0 l0_1 l0_2) else (bautaref39_Add.j1 k1 l1 false a0_0 l0_1 l0_2)) = some (r1, r2, r3, r4) := by rw [if_pos rfl] at H; exact H
      clear H
      have H := H1
      clear H1
      by_cases c16 : a0_0 > 0
      ·rw [if_pos c16] at H
       have c16b0 : decide (0 < a0_0) = true := decide_eq_true c16
       clear c16
       (first | rw [c16b0] | rw [c16b1] | (simp only [i64_w, i32_w]; rw [c16b0]) | skip)
       have H' := Aside0.mk H
       clear H
       have hnb17 := NB200_201.out
       have hnc17 := NB201_200.out
       have hcz18_0 : wr.cell? ⟨gb200, 0, none⟩ = some (.int .i64 a0_0) := (blk_cell BK200.out 0).trans rfl
       have hcz18_1 : wr.cell? ⟨gb200, 1, none⟩ = some (.slice A0_1 l0_1.length c0_1) := (blk_cell BK200.out 1).trans rfl
       have hcz18_2 : wr.cell? ⟨gb200, 2, none⟩ = some (.slice A0_2 l0_2.length c0_2) := (blk_cell BK200.out 2).trans rfl
       have hfz18_0 := blk_frozen BK200.out 0
       have hfz18_1 := blk_frozen BK200.out 1
       have hfz18_2 := blk_frozen BK200.out 2
       go_wp2_with (first | ((with_reducible refine gate_callee (f := 22) rfl ?_); refine goesL_ (some 31) rfl rfl Try.func22 (by kernel_rfl) rfl #[.agg #[.int .i64 a0_0, .slice A0_1 l0_1.length c0_1, .slice A0_2 l0_2.length c0_2]] rfl (by (try simp only [List.map_toArray, List.map_cons, List.map_nil]); first | done | rfl | (simp only [List.length_drop, List.length_take]; done) | (simp only [List.length_drop, List.length_take]; rfl)) ?_; (with_reducible refine (bautaref39_Can.calls k1 a0_0 _ _ l0_1 _ _ l0_2 true _ ?side1 ?side2 ?side3 ?side4 A14.out).mono ?_); (case side1 => exact rcb_ HR0_1 HB); (case side2 => exact HC0_1.out); (case side3 => exact rcb_ HR0_2 HB); (case side4 => exact HC0_2.out); rintro e wz_ ⟨rfl, hb⟩; refine ⟨_, rfl, ?_⟩; have n0_ := Aside0.mk (blk_below (rb_ BK200) hb); have n1_ := Aside0.mk (blk_below (rb_ BK201) hb); have n2_ := Aside0.mk (below_step (by repeat (first | (with_reducible first | exact HB.out | apply below_alloc | apply pw_below_drewN | apply below_drew1 | refine below_set ?_ GE200.out | refine below_set ?_ GE201.out) | exact HB.out)) hb); clear BK200; clear BK201; clear HB; have BK200 := n0_; have BK201 := n1_; have HB := n2_; clear n0_ n1_ n2_; (try clear hb); (try clear hb2); (try clear hk); (try clear hi); have hcz20_0 : wz_.cell? ⟨gb200, 0, none⟩ = some (.int .i64 a0_0) := (blk_cell BK200.out 0).trans rfl; have hcz20_1 : wz_.cell? ⟨gb200, 1, none⟩ = some (.slice A0_1 l0_1.length c0_1) := (blk_cell BK200.out 1).trans rfl; have hcz20_2 : wz_.cell? ⟨gb200, 2, none⟩ = some (.slice A0_2 l0_2.length c0_2) := (blk_cell BK200.out 2).trans rfl; have hfz20_0 := blk_frozen BK200.out 0; have hfz20_1 := blk_frozen BK200.out 1; have hfz20_2 := blk_frozen BK200.out 2))
       go_meet
       case rel => exact ⟨_, (((l0_1.length : Int) != (l1.length : Int))), (by first | rfl | (simp; done) | (simp [*]; done) | (simp; omega)), H', ⟨by have := HK1.out; first | omega | exact Nat.le_refl _⟩, ⟨by (with_reducible repeat (first | refine blk_drewN ?_ _ | refine blk_drew ?_ | refine blk_alloc ?_ _)); exact BK200.out⟩, ⟨by (with_reducible repeat (first | refine blk_drewN ?_ _ | refine blk_drew ?_ | refine blk_alloc ?_ _)); exact BK201.out⟩, ⟨by repeat (first | (with_reducible first | exact HB.out | apply below_alloc | apply pw_below_drewN | apply below_drew1 | refine below_set ?_ GE200.out | refine below_set ?_ GE201.out) | exact HB.out)⟩⟩
      ·rw [if_neg c16] at H
       have c16b0 : decide (0 < a0_0) = false := decide_eq_false c16
       clear c16
       (first | rw [c16b0] | rw [c16b1] | (simp only [i64_w, i32_w]; rw [c16b0]) | skip)
       have H' := Aside0.mk H
       clear H
       have hnb21 := NB200_201.out
       have hnc21 := NB201_200.out
       have hcz22_0 : wr.cell? ⟨gb200, 0, none⟩ = some (.int .i64 a0_0) := (blk_cell BK200.out 0).trans rfl
       have hcz22_1 : wr.cell? ⟨gb200, 1, none⟩ = some (.slice A0_1 l0_1.length c0_1) := (blk_cell BK200.out 1).trans rfl
       have hcz22_2 : wr.cell? ⟨gb200, 2, none⟩ = some (.slice A0_2 l0_2.length c0_2) := (blk_cell BK200.out 2).trans rfl
       have hfz22_0 := blk_frozen BK200.out 0
       have hfz22_1 := blk_frozen BK200.out 1
       have hfz22_2 := blk_frozen BK200.out 2
       go_wp2_with (first | ((with_reducible refine gate_callee (f := 22) rfl ?_); refine goesL_ (some 31) rfl rfl Try.func22 (by kernel_rfl) rfl #[.agg #[.int .i64 a0_0, .slice A0_1 l0_1.length c0_1, .slice A0_2 l0_2.length c0_2]] rfl (by (try simp only [List.map_toArray, List.map_cons, List.map_nil]); first | done | rfl | (simp only [List.length_drop, List.length_take]; done) | (simp only [List.length_drop, List.length_take]; rfl)) ?_; (with_reducible refine (bautaref39_Can.calls k1 a0_0 _ _ l0_1 _ _ l0_2 true _ ?side1 ?side2 ?side3 ?side4 A14.out).mono ?_); (case side1 => exact rcb_ HR0_1 HB); (case side2 => exact HC0_1.out); (case side3 => exact rcb_ HR0_2 HB); (case side4 => exact HC0_2.out); rintro e wz_ ⟨rfl, hb⟩; refine ⟨_, rfl, ?_⟩; have n0_ := Aside0.mk (blk_below (rb_ BK200) hb); have n1_ := Aside0.mk (blk_below (rb_ BK201) hb); have n2_ := Aside0.mk (below_step (by repeat (first | (with_reducible first | exact HB.out | apply below_alloc | apply pw_below_drewN | apply below_drew1 | refine below_set ?_ GE200.out | refine below_set ?_ GE201.out) | exact HB.out)) hb); clear BK200; clear BK201; clear HB; have BK200 := n0_; have BK201 := n1_; have HB := n2_; clear n0_ n1_ n2_; (try clear hb); (try clear hb2); (try clear hk); (try clear hi); have hcz24_0 : wz_.cell? ⟨gb200, 0, none⟩ = some (.int .i64 a0_0) := (blk_cell BK200.out 0).trans rfl; have hcz24_1 : wz_.cell? ⟨gb200, 1, none⟩ = some (.slice A0_1 l0_1.length c0_1) := (blk_cell BK200.out 1).trans rfl; have hcz24_2 : wz_.cell? ⟨gb200, 2, none⟩ = some (.slice A0_2 l0_2.length c0_2) := (blk_cell BK200.out 2).trans rfl; have hfz24_0 := blk_frozen BK200.out 0; have hfz24_1 := blk_frozen BK200.out 1; have hfz24_2 := blk_frozen BK200.out 2))
       go_meet
       case rel => exact ⟨_, (false), (by first | rfl | (simp; done) | (simp [*]; done) | (simp; omega)), H', ⟨by have := HK1.out; first | omega | exact Nat.le_refl _⟩, ⟨by (with_reducible repeat (first | refine blk_drewN ?_ _ | refine blk_drew ?_ | refine blk_alloc ?_ _)); exact BK200.out⟩, ⟨by (with_reducible repeat (first | refine blk_drewN ?_ _ | refine blk_drew ?_ | refine blk_alloc ?_ _)); exact BK201.out⟩, ⟨by repeat (first | (with_reducible first | exact HB.out | apply below_alloc | apply pw_below_drewN | apply below_drew1 | refine below_set ?_ GE200.out | refine below_set ?_ GE201.out) | exact HB.out)⟩⟩
     ·replace c15 := Bool.eq_false_iff.mpr c15
      subst c15
      have H1 : (bautaref39_Add.j1 k1 l1 true a0_0 l0_1 l0_2) = some (r1, r2, r3, r4) := by rw [if_neg (show ¬ (false = true) by decide)] at H; exact H
      clear H
      have H := H1
      clear H1
      have H' := Aside0.mk H
      clear H
      have hnb25 := NB200_201.out
      have hnc25 := NB201_200.out
      have hcz26_0 : wr.cell? ⟨gb200, 0, none⟩ = some (.int .i64 a0_0) := (blk_cell BK200.out 0).trans rfl
      have hcz26_1 : wr.cell? ⟨gb200, 1, none⟩ = some (.slice A0_1 l0_1.length c0_1) := (blk_cell BK200.out 1).trans rfl
      have hcz26_2 : wr.cell? ⟨gb200, 2, none⟩ = some (.slice A0_2 l0_2.length c0_2) := (blk_cell BK200.out 2).trans rfl
      have hfz26_0 := blk_frozen BK200.out 0
      have hfz26_1 := blk_frozen BK200.out 1
      have hfz26_2 := blk_frozen BK200.out 2
      go_wp2_with (first | ((with_reducible refine gate_callee (f := 22) rfl ?_); refine goesL_ (some 31) rfl rfl Try.func22 (by kernel_rfl) rfl #[.agg #[.int .i64 a0_0, .slice A0_1 l0_1.length c0_1, .slice A0_2 l0_2.length c0_2]] rfl (by (try simp only [List.map_toArray, List.map_cons, List.map_nil]); first | done | rfl | (simp only [List.length_drop, List.length_take]; done) | (simp only [List.length_drop, List.length_take]; rfl)) ?_; (with_reducible refine (bautaref39_Can.calls k1 a0_0 _ _ l0_1 _ _ l0_2 false _ ?side1 ?side2 ?side3 ?side4 A14.out).mono ?_); (case side1 => exact rcb_ HR0_1 HB); (case side2 => exact HC0_1.out); (case side3 => exact rcb_ HR0_2 HB); (case side4 => exact HC0_2.out); rintro e wz_ ⟨rfl, hb⟩; refine ⟨_, rfl, ?_⟩; have n0_ := Aside0.mk (blk_below (rb_ BK200) hb); have n1_ := Aside0.mk (blk_below (rb_ BK201) hb); have n2_ := Aside0.mk (below_step (by repeat (first | (with_reducible first | exact HB.out | apply below_alloc | apply pw_below_drewN | apply below_drew1 | refine below_set ?_ GE200.out | refine below_set ?_ GE201.out) | exact HB.out)) hb); clear BK200; clear BK201; clear HB; have BK200 := n0_; have BK201 := n1_; have HB := n2_; clear n0_ n1_ n2_; (try clear hb); (try clear hb2); (try clear hk); (try clear hi)))
      go_meet
      case rel => exact ⟨_, (true), (by first | rfl | (simp; done) | (simp [*]; done) | (simp; omega)), H', ⟨by have := HK1.out; first | omega | exact Nat.le_refl _⟩, ⟨by (with_reducible repeat (first | refine blk_drewN ?_ _ | refine blk_drew ?_ | refine blk_alloc ?_ _)); exact BK200.out⟩, ⟨by (with_reducible repeat (first | refine blk_drewN ?_ _ | refine blk_drew ?_ | refine blk_alloc ?_ _)); exact BK201.out⟩, ⟨by repeat (first | (with_reducible first | exact HB.out | apply below_alloc | apply pw_below_drewN | apply below_drew1 | refine below_set ?_ GE200.out | refine below_set ?_ GE201.out) | exact HB.out)⟩⟩
    case rest =>
     clear HC13
     try clear c1
     try clear c2
     try clear p2
     try clear q2
     try clear hx2
     try clear c5
     try clear c5b0
     try clear c6
     try clear c6b0
     try clear p6
     try clear c7
     try clear c7b0
     try clear c8
     try clear c10
     try clear c10b0
     try clear c11
     try clear c14
     try clear c15
     try clear c16
     try clear c16b0
     try clear c16b1
     try clear c17
     try clear p20
     try clear q20
     try clear hx20
     try clear c21
     try clear c22
     try clear c25
     try clear hcz12_0
     try clear hcz12_1
     try clear hcz12_2
     try clear hcz18_0
     try clear hcz18_1
     try clear hcz18_2
     try clear hcz20_0
     try clear hcz20_1
     try clear hcz20_2
     try clear hcz22_0
     try clear hcz22_1
     try clear hcz22_2
     try clear hcz24_0
     try clear hcz24_1
     try clear hcz24_2
     try clear hcz26_0
     try clear hcz26_1
     try clear hcz26_2
     try clear hcz9_0
     try clear hcz9_1
     try clear hcz9_2
     try clear hfz12_0
     try clear hfz12_1
     try clear hfz12_2
     try clear hfz18_0
     try clear hfz18_1
     try clear hfz18_2
     try clear hfz20_0
     try clear hfz20_1
     try clear hfz20_2
     try clear hfz22_0
     try clear hfz22_1
     try clear hfz22_2
     try clear hfz24_0
     try clear hfz24_1
     try clear hfz24_2
     try clear hfz26_0
     try clear hfz26_1
     try clear hfz26_2
     try clear hfz9_0
     try clear hfz9_1
     try clear hfz9_2
     try clear hx202_0
     try clear hx203_0
     try clear p2
     try clear p202
     try clear p203
     try clear q202
     try clear q203
     obtain ⟨kq, x45_12, rfl, HA, HJ12, BK200, BK201, HB⟩ := hcut
     cases kq with
     | zero => exact absurd HA.out (by simp [bautaref39_Add.j1])
     | succ kj12 =>
      have H := HA.out
      clear HA
      simp only [bautaref39_Add.j1] at H
      by_cases c28 : x45_12 = true
      ·subst c28
       have H1 : (some (0, ([] : List Int), ([] : List Int), 1)) = some (r1, r2, r3, r4) := by rw [if_pos rfl] at H; exact H
       clear H
       have H := H1
       clear H1
       simp only [Option.some.injEq, Prod.mk.injEq] at H
       obtain ⟨rfl, rfl, rfl, rfl⟩ := H
       have hnb29 := NB201_200.out
       have hnc29 := NB200_201.out
       have hcz30_0 : wc.cell? ⟨gb201, 0, none⟩ = some (.int .i64 x202000_1) := (blk_cell BK201.out 0).trans rfl
       have hcz30_1 : wc.cell? ⟨gb201, 1, none⟩ = some (.slice none 0 0) := (blk_cell BK201.out 1).trans rfl
       have hcz30_2 : wc.cell? ⟨gb201, 2, none⟩ = some (.slice none 0 0) := (blk_cell BK201.out 2).trans rfl
       have hfz30_0 := blk_frozen BK201.out 0
       have hfz30_1 := blk_frozen BK201.out 1
       have hfz30_2 := blk_frozen BK201.out 2
       go_wp2
       refine bodyPost_ret (results_ct rfl _ _ gb201 24 #[.int .i64 0, .slice none 0 0, .slice none 0 0] (0, 0) _ rfl (by (with_reducible repeat (first | refine blk_drewN ?_ _ | refine blk_drew ?_ | refine blk_alloc ?_ _)); refine blk_put (cs := #[.int .i64 0, .slice none 0 0, .slice none 0 0]) ?_ 2 _ rfl; (with_reducible repeat (first | refine blk_drewN ?_ _ | refine blk_drew ?_ | refine blk_alloc ?_ _)); refine blk_put (cs := #[.int .i64 0, .slice none 0 0, .slice none 0 0]) ?_ 1 _ rfl; (with_reducible repeat (first | refine blk_drewN ?_ _ | refine blk_drew ?_ | refine blk_alloc ?_ _)); refine blk_put (cs := #[.int .i64 x202000_1, .slice none 0 0, .slice none 0 0]) ?_ 0 _ rfl; (with_reducible repeat (first | refine blk_drewN ?_ _ | refine blk_drew ?_ | refine blk_alloc ?_ _)); exact BK201.out) Try.underlying24 rfl (by kernel_rfl)) rfl ?_
       exact ⟨_, _, by first | rfl | (simp [errW_none, errW_some] <;> rfl) | (simp [*, errW_none, errW_some] <;> rfl), by first | exact Kd.R_nil _ _ _ _ _ | exact Kd.N_nil _ _ _ _ _ | exact Kd.V_nil _ _ _ _ _ | exact Kd.Q_nil _ _ _ _ _ | exact Kd.S_nil _ _ _ _ _, by first | exact Kd.R_nil _ _ _ _ _ | exact Kd.N_nil _ _ _ _ _ | exact Kd.V_nil _ _ _ _ _ | exact Kd.Q_nil _ _ _ _ _ | exact Kd.S_nil _ _ _ _ _, by repeat (first | (with_reducible first | exact HB.out | apply below_alloc | apply pw_below_drewN | apply below_drew1 | refine below_set ?_ GE200.out | refine below_set ?_ GE201.out) | exact HB.out)⟩
      ·replace c28 := Bool.eq_false_iff.mpr c28
       subst c28
       have H1 : (if a0_0 = 500 then (bautaref39_Add.j2 kj12 l1 true a0_0 l0_1 l0_2) else (bautaref39_Add.j2 kj12 l1 (decide ((l1.length : Int) > 4000)) a0_0 l0_1 l0_2)) = some (r1, r2, r3, r4) := by rw [if_neg (show ¬ (false = true) by decide)] at H; exact H
       clear H
       have H := H1
       clear H1
       have HC31 := Aside0.mk H
       clear H
       go_upto_region 8 with (fail)
       go_cut [54] (fun v54 wc => ∃ (kq : Nat) (x54_30 : Bool), v54 = .bool x54_30 ∧ Aside0 (bautaref39_Add.j2 kq l1 x54_30 a0_0 l0_1 l0_2 = some (r1, r2, r3, r4)) ∧ Aside0 (kq ≤ kj12) ∧ Aside0 (wc.heap[gb200]? = some (.cells #[.int .i64 a0_0, (.slice A0_1 l0_1.length c0_1), (.slice A0_2 l0_2.length c0_2)] 24 (0, 0))) ∧ Aside0 (wc.heap[gb201]? = some (.cells #[.int .i64 x202000_1, (.slice none 0 0), (.slice none 0 0)] 24 (0, 0))) ∧ Aside0 (Below w.heap.size w wc))
       case first =>
        have H := HC31.out
        clear HC31
        by_cases c32 : a0_0 = 500
        ·rw [if_pos c32] at H
         have c32b0 : (a0_0 == 500) = true := beq_iff_eq.mpr c32
         have c32b1 : (a0_0 != 500) = false := bne_eq_false_iff_eq.mpr c32
         clear c32
         (first | rw [c32b0] | rw [c32b1] | (simp only [i64_w, i32_w]; rw [c32b0]) | skip)
         have H' := Aside0.mk H
         clear H
         have hnb33 := NB200_201.out
         have hnc33 := NB201_200.out
         have hcz34_0 : wc.cell? ⟨gb200, 0, none⟩ = some (.int .i64 a0_0) := (blk_cell BK200.out 0).trans rfl
         have hcz34_1 : wc.cell? ⟨gb200, 1, none⟩ = some (.slice A0_1 l0_1.length c0_1) := (blk_cell BK200.out 1).trans rfl
         have hcz34_2 : wc.cell? ⟨gb200, 2, none⟩ = some (.slice A0_2 l0_2.length c0_2) := (blk_cell BK200.out 2).trans rfl
         have hfz34_0 := blk_frozen BK200.out 0
         have hfz34_1 := blk_frozen BK200.out 1
         have hfz34_2 := blk_frozen BK200.out 2
         go_wp2
         go_meet
         case rel => exact ⟨_, (true), (by first | rfl | (simp; done) | (simp [*]; done) | (simp; omega)), H', ⟨by have := HK1.out; have := HJ12.out; first | omega | exact Nat.le_refl _⟩, ⟨by (with_reducible repeat (first | refine blk_drewN ?_ _ | refine blk_drew ?_ | refine blk_alloc ?_ _)); exact BK200.out⟩, ⟨by (with_reducible repeat (first | refine blk_drewN ?_ _ | refine blk_drew ?_ | refine blk_alloc ?_ _)); exact BK201.out⟩, ⟨by repeat (first | (with_reducible first | exact HB.out | apply below_alloc | apply pw_below_drewN | apply below_drew1 | refine below_set ?_ GE200.out | refine below_set ?_ GE201.out) | exact HB.out)⟩⟩
        ·rw [if_neg c32] at H
         have c32b0 : (a0_0 == 500) = false := beq_eq_false_iff_ne.mpr c32
         have c32b1 : (a0_0 != 500) = true := bne_iff_ne.mpr c32
         (first | rw [c32b0] | rw [c32b1] | (simp only [i64_w, i32_w]; rw [c32b0]) | skip)
         have H' := Aside0.mk H
         clear H
         have hnb35 := NB200_201.out
         have hnc35 := NB201_200.out
         have hcz36_0 : wc.cell? ⟨gb200, 0, none⟩ = some (.int .i64 a0_0) := (blk_cell BK200.out 0).trans rfl
         have hcz36_1 : wc.cell? ⟨gb200, 1, none⟩ = some (.slice A0_1 l0_1.length c0_1) := (blk_cell BK200.out 1).trans rfl
         have hcz36_2 : wc.cell? ⟨gb200, 2, none⟩ = some (.slice A0_2 l0_2.length c0_2) := (blk_cell BK200.out 2).trans rfl
         have hfz36_0 := blk_frozen BK200.out 0
         have hfz36_1 := blk_frozen BK200.out 1
         have hfz36_2 := blk_frozen BK200.out 2
         go_wp2
         go_meet
         case rel => exact ⟨_, (decide ((l1.length : Int) > 4000)), (by first | rfl | (simp; done) | (simp [*]; done) | (simp; omega)), H', ⟨by have := HK1.out; have := HJ12.out; first | omega | exact Nat.le_refl _⟩, ⟨by (with_reducible repeat (first | refine blk_drewN ?_ _ | refine blk_drew ?_ | refine blk_alloc ?_ _)); exact BK200.out⟩, ⟨by (with_reducible repeat (first | refine blk_drewN ?_ _ | refine blk_drew ?_ | refine blk_alloc ?_ _)); exact BK201.out⟩, ⟨by repeat (first | (with_reducible first | exact HB.out | apply below_alloc | apply pw_below_drewN | apply below_drew1 | refine below_set ?_ GE200.out | refine below_set ?_ GE201.out) | exact HB.out)⟩⟩
       case rest =>
        clear HC31
        try clear c1
        try clear c2
        try clear p2
        try clear q2
        try clear hx2
        try clear c3
        try clear c5
        try clear c5b0
        try clear c6
        try clear c6b0
        try clear p6
        try clear c7
        try clear c7b0
        try clear c8
        try clear c10
        try clear c10b0
        try clear c11
        try clear c14
        try clear c15
        try clear c16
        try clear c16b0
        try clear c16b1
        try clear c17
        try clear p20
        try clear q20
        try clear hx20
        try clear c21
        try clear c22
        try clear c25
        try clear c28
        try clear c29
        try clear c32
        try clear c32b0
        try clear c32b1
        try clear c33
        try clear c35
        try clear hcz12_0
        try clear hcz12_1
        try clear hcz12_2
        try clear hcz18_0
        try clear hcz18_1
        try clear hcz18_2
        try clear hcz20_0
        try clear hcz20_1
        try clear hcz20_2
        try clear hcz22_0
        try clear hcz22_1
        try clear hcz22_2
        try clear hcz24_0
        try clear hcz24_1
        try clear hcz24_2
        try clear hcz26_0
        try clear hcz26_1
        try clear hcz26_2
        try clear hcz30_0
        try clear hcz30_1
        try clear hcz30_2
        try clear hcz34_0
        try clear hcz34_1
        try clear hcz34_2
        try clear hcz36_0
        try clear hcz36_1
        try clear hcz36_2
        try clear hcz9_0
        try clear hcz9_1
        try clear hcz9_2
        try clear hfz12_0
        try clear hfz12_1
        try clear hfz12_2
        try clear hfz18_0
        try clear hfz18_1
        try clear hfz18_2
        try clear hfz20_0
        try clear hfz20_1
        try clear hfz20_2
        try clear hfz22_0
        try clear hfz22_1
        try clear hfz22_2
        try clear hfz24_0
        try clear hfz24_1
        try clear hfz24_2
        try clear hfz26_0
        try clear hfz26_1
        try clear hfz26_2
        try clear hfz30_0
        try clear hfz30_1
        try clear hfz30_2
        try clear hfz34_0
        try clear hfz34_1
        try clear hfz34_2
        try clear hfz36_0
        try clear hfz36_1
        try clear hfz36_2
        try clear hfz9_0
        try clear hfz9_1
        try clear hfz9_2
        try clear hx202_0
        try clear hx203_0
        try clear p2
        try clear p20
        try clear p202
        try clear p203
        try clear p6
        try clear q2
        try clear q20
        try clear q202
        try clear q203
        obtain ⟨kq, x54_30, rfl, HA, HJ30, BK200, BK201, HB⟩ := hcut
        cases kq with
        | zero => exact absurd HA.out (by simp [bautaref39_Add.j2])
        | succ kj30 =>
         have H := HA.out
         clear HA
         simp only [bautaref39_Add.j2] at H
         by_cases c37 : x54_30 = true
         ·subst c37
          have H1 : (some (0, ([] : List Int), ([] : List Int), 150)) = some (r1, r2, r3, r4) := by rw [if_pos rfl] at H; exact H
          clear H
          have H := H1
          clear H1
          simp only [Option.some.injEq, Prod.mk.injEq] at H
          obtain ⟨rfl, rfl, rfl, rfl⟩ := H
          have hnb38 := NB201_200.out
          have hnc38 := NB200_201.out
          have hcz39_0 : wc.cell? ⟨gb201, 0, none⟩ = some (.int .i64 x202000_1) := (blk_cell BK201.out 0).trans rfl
          have hcz39_1 : wc.cell? ⟨gb201, 1, none⟩ = some (.slice none 0 0) := (blk_cell BK201.out 1).trans rfl
          have hcz39_2 : wc.cell? ⟨gb201, 2, none⟩ = some (.slice none 0 0) := (blk_cell BK201.out 2).trans rfl
          have hfz39_0 := blk_frozen BK201.out 0
          have hfz39_1 := blk_frozen BK201.out 1
          have hfz39_2 := blk_frozen BK201.out 2
          go_wp2
          refine bodyPost_ret (results_ct rfl _ _ gb201 24 #[.int .i64 0, .slice none 0 0, .slice none 0 0] (0, 0) _ rfl (by (with_reducible repeat (first | refine blk_drewN ?_ _ | refine blk_drew ?_ | refine blk_alloc ?_ _)); refine blk_put (cs := #[.int .i64 0, .slice none 0 0, .slice none 0 0]) ?_ 2 _ rfl; (with_reducible repeat (first | refine blk_drewN ?_ _ | refine blk_drew ?_ | refine blk_alloc ?_ _)); refine blk_put (cs := #[.int .i64 0, .slice none 0 0, .slice none 0 0]) ?_ 1 _ rfl; (with_reducible repeat (first | refine blk_drewN ?_ _ | refine blk_drew ?_ | refine blk_alloc ?_ _)); refine blk_put (cs := #[.int .i64 x202000_1, .slice none 0 0, .slice none 0 0]) ?_ 0 _ rfl; (with_reducible repeat (first | refine blk_drewN ?_ _ | refine blk_drew ?_ | refine blk_alloc ?_ _)); exact BK201.out) Try.underlying24 rfl (by kernel_rfl)) rfl ?_
          exact ⟨_, _, by first | rfl | (simp [errW_none, errW_some] <;> rfl) | (simp [*, errW_none, errW_some] <;> rfl), by first | exact Kd.R_nil _ _ _ _ _ | exact Kd.N_nil _ _ _ _ _ | exact Kd.V_nil _ _ _ _ _ | exact Kd.Q_nil _ _ _ _ _ | exact Kd.S_nil _ _ _ _ _, by first | exact Kd.R_nil _ _ _ _ _ | exact Kd.N_nil _ _ _ _ _ | exact Kd.V_nil _ _ _ _ _ | exact Kd.Q_nil _ _ _ _ _ | exact Kd.S_nil _ _ _ _ _, by repeat (first | (with_reducible first | exact HB.out | apply below_alloc | apply pw_below_drewN | apply below_drew1 | refine below_set ?_ GE200.out | refine below_set ?_ GE201.out) | exact HB.out)⟩
         ·replace c37 := Bool.eq_false_iff.mpr c37
          subst c37
          have H1 : (bautaref39_Add.l1 kj30 l1 0 a0_0 l0_1 l0_2 (wrap64 (a0_0 + 1)) ([] : List Int) ([] : List Int)) = some (r1, r2, r3, r4) := by rw [if_neg (show ¬ (false = true) by decide)] at H; exact H
          clear H
          have H := H1
          clear H1
          have H' := Aside0.mk H
          clear H
          have hnb40 := NB200_201.out
          have hnc40 := NB201_200.out
          have hcz41_0 : wc.cell? ⟨gb200, 0, none⟩ = some (.int .i64 a0_0) := (blk_cell BK200.out 0).trans rfl
          have hcz41_1 : wc.cell? ⟨gb200, 1, none⟩ = some (.slice A0_1 l0_1.length c0_1) := (blk_cell BK200.out 1).trans rfl
          have hcz41_2 : wc.cell? ⟨gb200, 2, none⟩ = some (.slice A0_2 l0_2.length c0_2) := (blk_cell BK200.out 2).trans rfl
          have hfz41_0 := blk_frozen BK200.out 0
          have hfz41_1 := blk_frozen BK200.out 1
          have hfz41_2 := blk_frozen BK200.out 2
          go_wp2_with (first | ((with_reducible refine gate_dst (N := 7) rfl ?_); (try (refine gate_guard (by rfl) ?_; dsimp only)); refine box_event ?hg (N := 7) ?hd (cs := #[.int .i64 0, .slice none 0 0, .slice none 0 0]) (t := 24) ?hr ?_; (case hd => rfl); (case hg => rfl); (case hr => first | (go_simp; done) | (go_simp; rfl)); intro gb205 hg wz_ hbox hb; have n0_ := Aside0.mk (blk_below (rb_ BK200) hb); have n1_ := Aside0.mk (blk_below (rb_ BK201) hb); have n2_ := Aside0.mk (below_step (by repeat (first | (with_reducible first | exact HB.out | apply below_alloc | apply pw_below_drewN | apply below_drew1 | refine below_set ?_ GE200.out | refine below_set ?_ GE201.out) | exact HB.out)) hb); have n3_ := Aside0.mk (hbox); have n4_ := Aside0.mk ((by rw [hg]; exact (below_size (by repeat (first | (with_reducible first | exact HB.out | apply below_alloc | apply pw_below_drewN | apply below_drew1 | refine below_set ?_ GE200.out | refine below_set ?_ GE201.out) | exact HB.out))) : w.heap.size ≤ gb205)); have n5_ := Aside0.mk ((by rw [hg]; exact (below_size (by repeat (first | (with_reducible first | exact HB.out | apply below_alloc | apply pw_below_drewN | apply below_drew1 | refine below_set ?_ GE200.out | refine below_set ?_ GE201.out) | exact HB.out))) : w.heap.size ≤ gb205)); have n6_ := Aside0.mk ((by rw [hg]; exact Nat.ne_of_lt (blk_lt (rb_ BK200)) : gb200 ≠ gb205)); have n7_ := Aside0.mk ((by rw [hg]; exact Nat.ne_of_gt (blk_lt (rb_ BK200)) : gb205 ≠ gb200)); have n8_ := Aside0.mk ((by rw [hg]; exact Nat.ne_of_lt (blk_lt (rb_ BK201)) : gb201 ≠ gb205)); have n9_ := Aside0.mk ((by rw [hg]; exact Nat.ne_of_gt (blk_lt (rb_ BK201)) : gb205 ≠ gb201)); clear BK200; clear BK201; clear HB; have BK200 := n0_; have BK201 := n1_; have HB := n2_; have BK205 := n3_; have GW205 := n4_; have GE205 := n5_; have NB200_205 := n6_; have NB205_200 := n7_; have NB201_205 := n8_; have NB205_201 := n9_; clear n0_ n1_ n2_ n3_ n4_ n5_ n6_ n7_ n8_ n9_; clear hb hbox hg; have hnb := NB205_200.out; have hnc := NB200_205.out; have hnb := NB205_201.out; have hnc := NB201_205.out; have hcz45_0 : wz_.cell? ⟨gb205, 0, none⟩ = some (.int .i64 0) := (blk_cell BK205.out 0).trans rfl; have hcz45_1 : wz_.cell? ⟨gb205, 1, none⟩ = some (.slice none 0 0) := (blk_cell BK205.out 1).trans rfl; have hcz45_2 : wz_.cell? ⟨gb205, 2, none⟩ = some (.slice none 0 0) := (blk_cell BK205.out 2).trans rfl; have hfz45_0 := blk_frozen BK205.out 0; have hfz45_1 := blk_frozen BK205.out 1; have hfz45_2 := blk_frozen BK205.out 2))
          go_loopg [8] kj30 (fun kq v8 w' => ∃ (x8_4 : Int) (x206001_4 : List Int) (x206002_4 : List Int) (u206001 : Value) (u206002 : Value), v8 = .int .i64 x8_4 ∧ Aside0 (bautaref39_Add.l1 kq l1 x8_4 a0_0 l0_1 l0_2 (wrap64 (a0_0 + 1)) x206001_4 x206002_4 = some (r1, r2, r3, r4)) ∧ Aside0 (kq ≤ kj30) ∧ Aside0 (Kd.R (Kd.int .i64) 3 w' w.heap.size (fun k_ => some k_ ≠ (u206002 : Value).ownBlock) u206001 x206001_4) ∧ Aside0 (Kd.R (Kd.int .i64) 3 w' w.heap.size (fun k_ => some k_ ≠ (u206001 : Value).ownBlock) u206002 x206002_4) ∧ Aside0 (w'.heap[gb200]? = some (.cells #[.int .i64 a0_0, (.slice A0_1 l0_1.length c0_1), (.slice A0_2 l0_2.length c0_2)] 24 (0, 0))) ∧ Aside0 (w'.heap[gb201]? = some (.cells #[.int .i64 x202000_1, (.slice none 0 0), (.slice none 0 0)] 24 (0, 0))) ∧ Aside0 (w'.heap[gb205]? = some (.cells #[.int .i64 (wrap64 (a0_0 + 1)), u206001, u206002] 24 (0, 0))) ∧ Aside0 (Below w.heap.size w w'))
          case atStart => exact ⟨(0), (([] : List Int)), (([] : List Int)), (.slice none 0 0), (.slice none 0 0), (by first | rfl | (simp; done) | (simp [*]; done) | (simp; omega)), H', ⟨Nat.le_refl _⟩, ⟨by first | exact Kd.R_nil _ _ _ _ _ | exact Kd.N_nil _ _ _ _ _ | exact Kd.V_nil _ _ _ _ _ | exact Kd.Q_nil _ _ _ _ _ | exact Kd.S_nil _ _ _ _ _⟩, ⟨by first | exact Kd.R_nil _ _ _ _ _ | exact Kd.N_nil _ _ _ _ _ | exact Kd.V_nil _ _ _ _ _ | exact Kd.Q_nil _ _ _ _ _ | exact Kd.S_nil _ _ _ _ _⟩, ⟨by (with_reducible repeat (first | refine blk_drewN ?_ _ | refine blk_drew ?_ | refine blk_alloc ?_ _)); refine blk_far ?_ NB200_205.out _; (with_reducible repeat (first | refine blk_drewN ?_ _ | refine blk_drew ?_ | refine blk_alloc ?_ _)); refine blk_far ?_ NB200_205.out _; (with_reducible repeat (first | refine blk_drewN ?_ _ | refine blk_drew ?_ | refine blk_alloc ?_ _)); refine blk_far ?_ NB200_205.out _; (with_reducible repeat (first | refine blk_drewN ?_ _ | refine blk_drew ?_ | refine blk_alloc ?_ _)); exact BK200.out⟩, ⟨by (with_reducible repeat (first | refine blk_drewN ?_ _ | refine blk_drew ?_ | refine blk_alloc ?_ _)); refine blk_far ?_ NB201_205.out _; (with_reducible repeat (first | refine blk_drewN ?_ _ | refine blk_drew ?_ | refine blk_alloc ?_ _)); refine blk_far ?_ NB201_205.out _; (with_reducible repeat (first | refine blk_drewN ?_ _ | refine blk_drew ?_ | refine blk_alloc ?_ _)); refine blk_far ?_ NB201_205.out _; (with_reducible repeat (first | refine blk_drewN ?_ _ | refine blk_drew ?_ | refine blk_alloc ?_ _)); exact BK201.out⟩, ⟨by (with_reducible repeat (first | refine blk_drewN ?_ _ | refine blk_drew ?_ | refine blk_alloc ?_ _)); refine blk_put (cs := #[.int .i64 (wrap64 (a0_0 + 1)), .slice none 0 0, .slice none 0 0]) ?_ 2 _ rfl; (with_reducible repeat (first | refine blk_drewN ?_ _ | refine blk_drew ?_ | refine blk_alloc ?_ _)); refine blk_put (cs := #[.int .i64 (wrap64 (a0_0 + 1)), .slice none 0 0, .slice none 0 0]) ?_ 1 _ rfl; (with_reducible repeat (first | refine blk_drewN ?_ _ | refine blk_drew ?_ | refine blk_alloc ?_ _)); refine blk_put (cs := #[.int .i64 0, .slice none 0 0, .slice none 0 0]) ?_ 0 _ rfl; (with_reducible repeat (first | refine blk_drewN ?_ _ | refine blk_drew ?_ | refine blk_alloc ?_ _)); exact BK205.out⟩, ⟨by repeat (first | (with_reducible first | exact HB.out | apply below_alloc | apply pw_below_drewN | apply below_drew1 | refine below_set ?_ GE200.out | refine below_set ?_ GE201.out | refine below_set ?_ GE205.out) | exact HB.out)⟩⟩
          case round =>
           clear H'
           try clear c1
           try clear c2
           try clear p2
           try clear q2
           try clear hx2
           try clear c3
           try clear c4
           try clear c5
           try clear c5b0
           try clear c6
           try clear c6b0
           try clear p6
           try clear c7
           try clear c7b0
           try clear c8
           try clear c10
           try clear c10b0
           try clear c11
           try clear c14
           try clear c15
           try clear c16
           try clear c16b0
           try clear c16b1
           try clear c17
           try clear p20
           try clear q20
           try clear hx20
           try clear c21
           try clear c22
           try clear c25
           try clear c28
           try clear c29
           try clear c32
           try clear c32b0
           try clear c32b1
           try clear c33
           try clear c35
           try clear c37
           try clear c38
           try clear c40
           try clear c43
           try clear c44
           try clear hcz12_0
           try clear hcz12_1
           try clear hcz12_2
           try clear hcz18_0
           try clear hcz18_1
           try clear hcz18_2
           try clear hcz20_0
           try clear hcz20_1
           try clear hcz20_2
           try clear hcz22_0
           try clear hcz22_1
           try clear hcz22_2
           try clear hcz24_0
           try clear hcz24_1
           try clear hcz24_2
           try clear hcz26_0
           try clear hcz26_1
           try clear hcz26_2
           try clear hcz30_0
           try clear hcz30_1
           try clear hcz30_2
           try clear hcz34_0
           try clear hcz34_1
           try clear hcz34_2
           try clear hcz36_0
           try clear hcz36_1
           try clear hcz36_2
           try clear hcz39_0
           try clear hcz39_1
           try clear hcz39_2
           try clear hcz41_0
           try clear hcz41_1
           try clear hcz41_2
           try clear hcz45_0
           try clear hcz45_1
           try clear hcz45_2
           try clear hcz9_0
           try clear hcz9_1
           try clear hcz9_2
           try clear hfz12_0
           try clear hfz12_1
           try clear hfz12_2
           try clear hfz18_0
           try clear hfz18_1
           try clear hfz18_2
           try clear hfz20_0
           try clear hfz20_1
           try clear hfz20_2
           try clear hfz22_0
           try clear hfz22_1
           try clear hfz22_2
           try clear hfz24_0
           try clear hfz24_1
           try clear hfz24_2
           try clear hfz26_0
           try clear hfz26_1
           try clear hfz26_2
           try clear hfz30_0
           try clear hfz30_1
           try clear hfz30_2
           try clear hfz34_0
           try clear hfz34_1
           try clear hfz34_2
           try clear hfz36_0
           try clear hfz36_1
           try clear hfz36_2
           try clear hfz39_0
           try clear hfz39_1
           try clear hfz39_2
           try clear hfz41_0
           try clear hfz41_1
           try clear hfz41_2
           try clear hfz45_0
           try clear hfz45_1
           try clear hfz45_2
           try clear hfz9_0
           try clear hfz9_1
           try clear hfz9_2
           try clear hx202_0
           try clear hx203_0
           try clear p2
           try clear p20
           try clear p202
           try clear p203
           try clear p6
           try clear q2
           try clear q20
           try clear q202
           try clear q203
           obtain ⟨x8_4, x206001_4, x206002_4, u206001, u206002, rfl, HA, HK4, HO_206001, HO_206002, BK200, BK201, BK205, HB⟩ := hrel
           cases gk with
           | zero => exact absurd HA.out (by simp [bautaref39_Add.l1])
           | succ k4 =>
            have H := HA.out
            clear HA
            simp only [bautaref39_Add.l1] at H
            by_cases c46 : x8_4 < (l1.length : Int)
            ·rw [if_pos c46] at H
             have c46b0 : decide (x8_4 < (l1.length : Int)) = true := decide_eq_true c46
             clear c46
             by_cases c47 : 0 ≤ x8_4
             ·rw [if_pos c47] at H
              have c47b0 : decide (0 ≤ x8_4) = true := decide_eq_true c47
              clear c47
              by_cases c48 : a0_0 > 0
              ·rw [if_pos c48] at H
               have c48b0 : decide (0 < a0_0) = true := decide_eq_true c48
               clear c48
               by_cases c49 : x8_4 < (l0_1.length : Int)
               ·rw [if_pos c49] at H
                have c49b0 : decide (x8_4 < (l0_1.length : Int)) = true := decide_eq_true c49
                clear c49
                by_cases c50 : x8_4 < (l0_2.length : Int)
                ·rw [if_pos c50] at H
                 have c50b0 : decide (x8_4 < (l0_2.length : Int)) = true := decide_eq_true c50
                 clear c50
                 obtain ⟨y211, hy211⟩ : ∃ y_ : List Int, y_ = (([wrap64 ((rd l1 x8_4) + (rd l0_1 x8_4))] : List Int)) := ⟨_, rfl⟩
                 replace H : (if x206001_4.length + y211.length < 17592186044416 then ((some (([wrap64 ((wrap64 ((rd l1 x8_4) * (rd l1 x8_4))) + (rd l0_2 x8_4))] : List Int) : List Int)).bind fun y217 => (if x206002_4.length + y217.length < 17592186044416 then (bautaref39_Add.l1 k4 l1 (wrap64 (x8_4 + 1)) a0_0 l0_1 l0_2 (wrap64 (a0_0 + 1)) (x206001_4 ++ y211) (x206002_4 ++ y217)) else (none))) else (none)) = some (r1, r2, r3, r4) := by first | (rw [hy211]; with_reducible exact H) | (have H2_ := (Option.bind_some _ _).symm.trans H; rw [hy211]; with_reducible exact H2_) | (have H2_ := (Option.bind_some _ _).symm.trans H; with_reducible exact H2_) | with_reducible exact H | (rw [hy211]; exact H) | exact H
                 have Ny211 := Aside0.mk hy211
                 clear hy211
                 by_cases c51 : x206001_4.length + y211.length < 17592186044416
                 ·rw [if_pos c51] at H
                  have LMc51 := Aside0.mk c51
                  clear c51
                  obtain ⟨y214, hy214⟩ : ∃ y_ : List Int, y_ = (x206001_4 ++ y211) := ⟨_, rfl⟩
                  replace H : ((some (([wrap64 ((wrap64 ((rd l1 x8_4) * (rd l1 x8_4))) + (rd l0_2 x8_4))] : List Int) : List Int)).bind fun y217 => (if x206002_4.length + y217.length < 17592186044416 then (bautaref39_Add.l1 k4 l1 (wrap64 (x8_4 + 1)) a0_0 l0_1 l0_2 (wrap64 (a0_0 + 1)) y214 (x206002_4 ++ y217)) else (none))) = some (r1, r2, r3, r4) := by first | (rw [hy214]; with_reducible exact H) | (have H2_ := (Option.bind_some _ _).symm.trans H; rw [hy214]; with_reducible exact H2_) | (have H2_ := (Option.bind_some _ _).symm.trans H; with_reducible exact H2_) | with_reducible exact H | (rw [hy214]; exact H) | exact H
                  have Ny214 := Aside0.mk hy214
                  clear hy214
                  obtain ⟨y217, hy217⟩ : ∃ y_ : List Int, y_ = (([wrap64 ((wrap64 ((rd l1 x8_4) * (rd l1 x8_4))) + (rd l0_2 x8_4))] : List Int)) := ⟨_, rfl⟩
                  replace H : (if x206002_4.length + y217.length < 17592186044416 then (bautaref39_Add.l1 k4 l1 (wrap64 (x8_4 + 1)) a0_0 l0_1 l0_2 (wrap64 (a0_0 + 1)) y214 (x206002_4 ++ y217)) else (none)) = some (r1, r2, r3, r4) := by first | (rw [hy217]; with_reducible exact H) | (have H2_ := (Option.bind_some _ _).symm.trans H; rw [hy217]; with_reducible exact H2_) | (have H2_ := (Option.bind_some _ _).symm.trans H; with_reducible exact H2_) | with_reducible exact H | (rw [hy217]; exact H) | exact H
                  have Ny217 := Aside0.mk hy217
                  clear hy217
                  by_cases c52 : x206002_4.length + y217.length < 17592186044416
                  ·rw [if_pos c52] at H
                   have LMc52 := Aside0.mk c52
                   clear c52
                   obtain ⟨y220, hy220⟩ : ∃ y_ : List Int, y_ = (x206002_4 ++ y217) := ⟨_, rfl⟩
                   replace H : (bautaref39_Add.l1 k4 l1 (wrap64 (x8_4 + 1)) a0_0 l0_1 l0_2 (wrap64 (a0_0 + 1)) y214 y220) = some (r1, r2, r3, r4) := by first | (rw [hy220]; with_reducible exact H) | (have H2_ := (Option.bind_some _ _).symm.trans H; rw [hy220]; with_reducible exact H2_) | (have H2_ := (Option.bind_some _ _).symm.trans H; with_reducible exact H2_) | with_reducible exact H | (rw [hy220]; exact H) | exact H
                   have Ny220 := Aside0.mk hy220
                   clear hy220
                   have H' := Aside0.mk H
                   clear H
                   try go_wp2
                   have n0_ := Aside0.mk (Kd.R_drew HO_206001.out)
                   have n1_ := Aside0.mk (Kd.R_drew HO_206002.out)
                   have n2_ := Aside0.mk (blk_drew BK200.out)
                   have n3_ := Aside0.mk (blk_drew BK201.out)
                   have n4_ := Aside0.mk (blk_drew BK205.out)
                   have n5_ := Aside0.mk (below_drew1 HB.out)
                   clear HO_206001
                   clear HO_206002
                   clear BK200
                   clear BK201
                   clear BK205
                   clear HB
                   have HO_206001 := n0_
                   have HO_206002 := n1_
                   have BK200 := n2_
                   have BK201 := n3_
                   have BK205 := n4_
                   have HB := n5_
                   clear n0_ n1_ n2_ n3_ n4_ n5_
                   have p206 : 0 ≤ (x8_4 : Int) := of_decide_eq_true (by first | (with_reducible assumption) | assumption)
                   have q206 : x8_4 < (l1.length : Int) := of_decide_eq_true (by first | (with_reducible assumption) | assumption)
                   obtain ⟨ad206, e206, hx206_0⟩ := Kd.at_int HR1.out x8_4 p206 q206
                   have hw206_0 := hx206_0
                   cases e206
                   replace hx206_0 := (HB.out.cell (World.block_lt_of_cell? w _ hx206_0)).trans hx206_0
                   replace p206 := eq_true p206
                   replace q206 := eq_true q206
                   have p207 : 0 ≤ (x8_4 : Int) := of_decide_eq_true (by first | (with_reducible assumption) | assumption)
                   have q207 : x8_4 < (l1.length : Int) := of_decide_eq_true (by first | (with_reducible assumption) | assumption)
                   obtain ⟨ad207, e207, hx207_0⟩ := Kd.at_int HR1.out x8_4 p207 q207
                   have hw207_0 := hx207_0
                   obtain rfl : ad206 = ad207 := (by injection e207)
                   replace hx207_0 := (HB.out.cell (World.block_lt_of_cell? w _ hx207_0)).trans hx207_0
                   replace p207 := eq_true p207
                   replace q207 := eq_true q207
                   have p208 : 0 ≤ (x8_4 : Int) := of_decide_eq_true (by first | (with_reducible assumption) | assumption)
                   have q208 : x8_4 < (l1.length : Int) := of_decide_eq_true (by first | (with_reducible assumption) | assumption)
                   obtain ⟨ad208, e208, hx208_0⟩ := Kd.at_int HR1.out x8_4 p208 q208
                   have hw208_0 := hx208_0
                   obtain rfl : ad206 = ad208 := (by injection e208)
                   replace hx208_0 := (HB.out.cell (World.block_lt_of_cell? w _ hx208_0)).trans hx208_0
                   replace p208 := eq_true p208
                   replace q208 := eq_true q208
                   refine start_ (n := 15) (S := fun w' => w'.cell? (ad206.add (x8_4).toNat) = some (.int .i64 (rd l1 x8_4)) ∧ w'.cell? (ad206.add (x8_4).toNat) = some (.int .i64 (rd l1 x8_4)) ∧ w'.cell? (ad206.add (x8_4).toNat) = some (.int .i64 (rd l1 x8_4))) (ds := []) #[false, false, false, false, false, false, false, false, false, false, false, false, false, false, false] (by kernel_rfl) rfl rfl ⟨((HB.out.cell (World.block_lt_of_cell? w _ hw206_0)).trans hw206_0), ((HB.out.cell (World.block_lt_of_cell? w _ hw207_0)).trans hw207_0), ((HB.out.cell (World.block_lt_of_cell? w _ hw208_0)).trans hw208_0)⟩ (fun hHeld => ?_); refine with_tabW bautaref39_Add.tab14 bautaref39_Add.bits14 (fun HT_ HW_ => ?_)
                   generalize wr.drew = w53 at HO_206001 HO_206002 BK200 BK201 BK205 HB hx206_0 hx207_0 hx208_0 hHeld ⊢
                   refine pure_ (i := 0) (N := some 66) (v := ?_) (a' := ?_) #[true, false, false, false, false, false, false, false, false, false, false, false, false, false, false] rfl rfl (any_of HT_.out (by kernel_rfl)) (fun _ _ _ h => h) (Or.inl ⟨by rfl, ?_⟩) ?_ ?_
                   rotate_left
                   ·intro w'
                    go_simp
                    with_reducible rfl
                   rotate_left
                   ·(simp only [Act.put, List.setIfInBounds_toArray, List.set_cons_zero, List.set_cons_succ, i64_w, i32_w])
                    rfl
                   refine pure_ (i := 1) (N := some 67) (v := ?_) (a' := ?_) #[true, true, false, false, false, false, false, false, false, false, false, false, false, false, false] rfl rfl (any_of HT_.out (by kernel_rfl)) (fun _ _ _ h => h) (Or.inl ⟨by rfl, ?_⟩) ?_ ?_
                   rotate_left
                   ·intro w'
                    go_simp
                    with_reducible rfl
                   rotate_left
                   ·(simp only [Act.put, List.setIfInBounds_toArray, List.set_cons_zero, List.set_cons_succ, i64_w, i32_w])
                    rfl
                   refine pure_ (i := 2) (N := some 68) (v := ?_) (a' := ?_) #[true, true, true, false, false, false, false, false, false, false, false, false, false, false, false] rfl rfl (any_of HT_.out (by kernel_rfl)) (fun _ _ _ h => h) (Or.inl ⟨by rfl, ?_⟩) ?_ ?_
                   rotate_left
                   ·intro w'
                    go_simp
                    with_reducible rfl
                   rotate_left
                   ·(simp only [Act.put, List.setIfInBounds_toArray, List.set_cons_zero, List.set_cons_succ, i64_w, i32_w])
                    rfl
                   refine pure_ (i := 4) (N := some 70) (v := ?_) (a' := ?_) #[true, true, true, false, true, false, false, false, false, false, false, false, false, false, false] rfl rfl (any_of HT_.out (by kernel_rfl)) (fun _ _ _ h => h) (Or.inl ⟨by rfl, ?_⟩) ?_ ?_
                   rotate_left
                   ·intro w'
                    go_simp
                    with_reducible rfl
                   rotate_left
                   ·(simp only [Act.put, List.setIfInBounds_toArray, List.set_cons_zero, List.set_cons_succ, i64_w, i32_w])
                    rfl
                   refine pure_ (i := 5) (N := some 71) (v := ?_) (a' := ?_) #[true, true, true, false, true, true, false, false, false, false, false, false, false, false, false] rfl rfl (any_of HT_.out (by kernel_rfl)) (fun _ _ _ h => h) (Or.inl ⟨by rfl, ?_⟩) ?_ ?_
                   rotate_left
                   ·intro w'
                    go_simp
                    with_reducible rfl
                   rotate_left
                   ·(simp only [Act.put, List.setIfInBounds_toArray, List.set_cons_zero, List.set_cons_succ, i64_w, i32_w])
                    rfl
                   refine pure_ (i := 6) (N := some 72) (v := ?_) (a' := ?_) #[true, true, true, false, true, true, true, false, false, false, false, false, false, false, false] rfl rfl (any_of HT_.out (by kernel_rfl)) (fun _ _ _ h => h) (Or.inl ⟨by rfl, ?_⟩) ?_ ?_
                   rotate_left
                   ·intro w'
                    go_simp
                    with_reducible rfl
                   rotate_left
                   ·(simp only [Act.put, List.setIfInBounds_toArray, List.set_cons_zero, List.set_cons_succ, i64_w, i32_w])
                    rfl
                   refine pure_ (i := 8) (N := some 74) (v := ?_) (a' := ?_) #[true, true, true, false, true, true, true, false, true, false, false, false, false, false, false] rfl rfl (any_of HT_.out (by kernel_rfl)) (fun _ _ _ h => h) (Or.inl ⟨by rfl, ?_⟩) ?_ ?_
                   rotate_left
                   ·intro w'
                    go_simp
                    with_reducible rfl
                   rotate_left
                   ·(simp only [Act.put, List.setIfInBounds_toArray, List.set_cons_zero, List.set_cons_succ, i64_w, i32_w])
                    rfl
                   refine pure_ (i := 9) (N := some 75) (v := ?_) (a' := ?_) #[true, true, true, false, true, true, true, false, true, true, false, false, false, false, false] rfl rfl (any_of HT_.out (by kernel_rfl)) (fun _ _ _ h => h) (Or.inl ⟨by rfl, ?_⟩) ?_ ?_
                   rotate_left
                   ·intro w'
                    go_simp
                    with_reducible rfl
                   rotate_left
                   ·(simp only [Act.put, List.setIfInBounds_toArray, List.set_cons_zero, List.set_cons_succ, i64_w, i32_w])
                    rfl
                   refine pure_ (i := 10) (N := some 76) (v := ?_) (a' := ?_) #[true, true, true, false, true, true, true, false, true, true, true, false, false, false, false] rfl rfl (any_of HT_.out (by kernel_rfl)) (fun _ _ _ h => h) (Or.inl ⟨by rfl, ?_⟩) ?_ ?_
                   rotate_left
                   ·intro w'
                    go_simp
                    with_reducible rfl
                   rotate_left
                   ·(simp only [Act.put, List.setIfInBounds_toArray, List.set_cons_zero, List.set_cons_succ, i64_w, i32_w])
                    rfl
                   refine take_ (i := 3) (N := some 69) (v := ?_) (a' := ?_) #[true, true, true, true, true, true, true, false, true, true, true, false, false, false, false] rfl rfl (take_ofW HT_.out HW_.out (by kernel_rfl)) (fun _ _ _ h => h) (Or.inl ⟨by rfl, ?_⟩) hHeld ?_ ?_
                   rotate_left
                   ·rintro w' ⟨s0, s1, s2⟩
                    go_simp
                    with_reducible rfl
                   rotate_left
                   ·(simp only [Act.put, List.setIfInBounds_toArray, List.set_cons_zero, List.set_cons_succ, i64_w, i32_w])
                    rfl
                   refine pure_ (i := 13) (N := some 9) (v := ?_) (a' := ?_) #[true, true, true, true, true, true, true, false, true, true, true, false, false, true, false] rfl rfl (any_of HT_.out (by kernel_rfl)) (fun _ _ _ h => h) (Or.inl ⟨by rfl, ?_⟩) ?_ ?_
                   rotate_left
                   ·intro w'
                    go_simp
                    with_reducible rfl
                   rotate_left
                   ·(simp only [Act.put, List.setIfInBounds_toArray, List.set_cons_zero, List.set_cons_succ, i64_w, i32_w])
                    rfl
                   refine take_ (i := 7) (N := some 73) (v := ?_) (a' := ?_) #[true, true, true, true, true, true, true, true, true, true, true, false, false, true, false] rfl rfl (take_ofW HT_.out HW_.out (by kernel_rfl)) (fun _ _ _ h => h) (Or.inl ⟨by rfl, ?_⟩) hHeld ?_ ?_
                   rotate_left
                   ·rintro w' ⟨s0, s1, s2⟩
                    go_simp
                    with_reducible rfl
                   rotate_left
                   ·(simp only [Act.put, List.setIfInBounds_toArray, List.set_cons_zero, List.set_cons_succ, i64_w, i32_w])
                    rfl
                   refine take_ (i := 11) (N := some 77) (v := ?_) (a' := ?_) #[true, true, true, true, true, true, true, true, true, true, true, true, false, true, false] rfl rfl (take_ofW HT_.out HW_.out (by kernel_rfl)) (fun _ _ _ h => h) (Or.inl ⟨by rfl, ?_⟩) hHeld ?_ ?_
                   rotate_left
                   ·rintro w' ⟨s0, s1, s2⟩
                    go_simp
                    with_reducible rfl
                   rotate_left
                   ·(simp only [Act.put, List.setIfInBounds_toArray, List.set_cons_zero, List.set_cons_succ, i64_w, i32_w])
                    rfl
                   refine pure_ (i := 12) (N := some 78) (v := ?_) (a' := ?_) #[true, true, true, true, true, true, true, true, true, true, true, true, true, true, false] rfl rfl (any_of HT_.out (by kernel_rfl)) (fun _ _ _ h => h) (Or.inl ⟨by rfl, ?_⟩) ?_ ?_
                   rotate_left
                   ·intro w'
                    go_simp
                    with_reducible rfl
                   rotate_left
                   ·(simp only [Act.put, List.setIfInBounds_toArray, List.set_cons_zero, List.set_cons_succ, i64_w, i32_w])
                    rfl
                   refine pure_ (i := 14) (N := some 10) (v := ?_) (a' := ?_) #[true, true, true, true, true, true, true, true, true, true, true, true, true, true, true] rfl rfl (any_of HT_.out (by kernel_rfl)) (fun _ _ _ h => h) (Or.inl ⟨by rfl, ?_⟩) ?_ ?_
                   rotate_left
                   ·intro w'
                    go_simp
                    with_reducible rfl
                   rotate_left
                   ·(simp only [Act.put, List.setIfInBounds_toArray, List.set_cons_zero, List.set_cons_succ, i64_w, i32_w])
                    rfl
                   refine done_ (done_of HT_.out (by kernel_rfl)) ?_
                   have hnb54 := NB200_201.out
                   have hnc54 := NB201_200.out
                   have hnb55 := NB200_205.out
                   have hnc55 := NB205_200.out
                   have hcz56_0 : w53.cell? ⟨gb200, 0, none⟩ = some (.int .i64 a0_0) := (blk_cell BK200.out 0).trans rfl
                   have hcz56_1 : w53.cell? ⟨gb200, 1, none⟩ = some (.slice A0_1 l0_1.length c0_1) := (blk_cell BK200.out 1).trans rfl
                   have hcz56_2 : w53.cell? ⟨gb200, 2, none⟩ = some (.slice A0_2 l0_2.length c0_2) := (blk_cell BK200.out 2).trans rfl
                   have hfz56_0 := blk_frozen BK200.out 0
                   have hfz56_1 := blk_frozen BK200.out 1
                   have hfz56_2 := blk_frozen BK200.out 2
                   try go_wp2
                   have n0_ := Aside0.mk (Kd.R_drew HO_206001.out)
                   have n1_ := Aside0.mk (Kd.R_drew HO_206002.out)
                   have n2_ := Aside0.mk (blk_drew BK200.out)
                   have n3_ := Aside0.mk (blk_drew BK201.out)
                   have n4_ := Aside0.mk (blk_drew BK205.out)
                   have n5_ := Aside0.mk (below_drew1 HB.out)
                   clear HO_206001
                   clear HO_206002
                   clear BK200
                   clear BK201
                   clear BK205
                   clear HB
                   have HO_206001 := n0_
                   have HO_206002 := n1_
                   have BK200 := n2_
                   have BK201 := n3_
                   have BK205 := n4_
                   have HB := n5_
                   clear n0_ n1_ n2_ n3_ n4_ n5_
                   have p209 : 0 ≤ (x8_4 : Int) := of_decide_eq_true (by first | (with_reducible assumption) | assumption)
                   have q209 : x8_4 < (l0_1.length : Int) := of_decide_eq_true (by first | (with_reducible assumption) | assumption)
                   obtain ⟨ad209, e209, hx209_0⟩ := Kd.at_int HR0_1.out x8_4 p209 q209
                   have hw209_0 := hx209_0
                   cases e209
                   replace hx209_0 := (HB.out.cell (World.block_lt_of_cell? w _ hx209_0)).trans hx209_0
                   replace p209 := eq_true p209
                   replace q209 := eq_true q209
                   have p210 : 0 ≤ (x8_4 : Int) := of_decide_eq_true (by first | (with_reducible assumption) | assumption)
                   have q210 : x8_4 < (l0_2.length : Int) := of_decide_eq_true (by first | (with_reducible assumption) | assumption)
                   obtain ⟨ad210, e210, hx210_0⟩ := Kd.at_int HR0_2.out x8_4 p210 q210
                   have hw210_0 := hx210_0
                   cases e210
                   replace hx210_0 := (HB.out.cell (World.block_lt_of_cell? w _ hx210_0)).trans hx210_0
                   replace p210 := eq_true p210
                   replace q210 := eq_true q210
                   refine start_ (n := 16) (S := fun w' => w'.cell? ⟨gb200, 0, none⟩ = some (.int .i64 a0_0) ∧ w'.cell? ⟨gb200, 1, none⟩ = some (.slice (some ad209) l0_1.length c0_1) ∧ w'.cell? ⟨gb200, 2, none⟩ = some (.slice (some ad210) l0_2.length c0_2) ∧ w'.cell? (ad209.add (x8_4).toNat) = some (.int .i64 (rd l0_1 x8_4)) ∧ w'.cell? (ad210.add (x8_4).toNat) = some (.int .i64 (rd l0_2 x8_4))) (ds := []) #[false, false, false, false, false, false, false, false, false, false, false, false, false, false, false, false] (by kernel_rfl) rfl rfl ⟨(blk_cell BK200.out 0).trans rfl, (blk_cell BK200.out 1).trans rfl, (blk_cell BK200.out 2).trans rfl, ((HB.out.cell (World.block_lt_of_cell? w _ hw209_0)).trans hw209_0), ((HB.out.cell (World.block_lt_of_cell? w _ hw210_0)).trans hw210_0)⟩ (fun hHeld => ?_); refine with_tabW bautaref39_Add.tab16 bautaref39_Add.bits16 (fun HT_ HW_ => ?_)
                   generalize w53.drew = w57 at HO_206001 HO_206002 BK200 BK201 BK205 HB hx209_0 hx210_0 hHeld ⊢
                   refine pure_ (i := 0) (N := some 82) (v := ?_) (a' := ?_) #[true, false, false, false, false, false, false, false, false, false, false, false, false, false, false, false] rfl rfl (any_of HT_.out (by kernel_rfl)) (fun _ _ _ h => h) (Or.inl ⟨by rfl, ?_⟩) ?_ ?_
                   rotate_left
                   ·intro w'
                    go_simp
                    with_reducible rfl
                   rotate_left
                   ·(simp only [Act.put, List.setIfInBounds_toArray, List.set_cons_zero, List.set_cons_succ, i64_w, i32_w])
                    rfl
                   refine pure_ (i := 1) (N := some 83) (v := ?_) (a' := ?_) #[true, true, false, false, false, false, false, false, false, false, false, false, false, false, false, false] rfl rfl (any_of HT_.out (by kernel_rfl)) (fun _ _ _ h => h) (Or.inl ⟨by rfl, ?_⟩) ?_ ?_
                   rotate_left
                   ·intro w'
                    go_simp
                    with_reducible rfl
                   rotate_left
                   ·(simp only [Act.put, List.setIfInBounds_toArray, List.set_cons_zero, List.set_cons_succ, i64_w, i32_w])
                    rfl
                   refine pure_ (i := 3) (N := some 85) (v := ?_) (a' := ?_) #[true, true, false, true, false, false, false, false, false, false, false, false, false, false, false, false] rfl rfl (any_of HT_.out (by kernel_rfl)) (fun _ _ _ h => h) (Or.inl ⟨by rfl, ?_⟩) ?_ ?_
                   rotate_left
                   ·intro w'
                    go_simp
                    with_reducible rfl
                   rotate_left
                   ·(simp only [Act.put, List.setIfInBounds_toArray, List.set_cons_zero, List.set_cons_succ, i64_w, i32_w])
                    rfl
                   refine pure_ (i := 7) (N := some 89) (v := ?_) (a' := ?_) #[true, true, false, true, false, false, false, true, false, false, false, false, false, false, false, false] rfl rfl (any_of HT_.out (by kernel_rfl)) (fun _ _ _ h => h) (Or.inl ⟨by rfl, ?_⟩) ?_ ?_
                   rotate_left
                   ·intro w'
                    go_simp
                    with_reducible rfl
                   rotate_left
                   ·(simp only [Act.put, List.setIfInBounds_toArray, List.set_cons_zero, List.set_cons_succ, i64_w, i32_w])
                    rfl
                   refine pure_ (i := 8) (N := some 90) (v := ?_) (a' := ?_) #[true, true, false, true, false, false, false, true, true, false, false, false, false, false, false, false] rfl rfl (any_of HT_.out (by kernel_rfl)) (fun _ _ _ h => h) (Or.inl ⟨by rfl, ?_⟩) ?_ ?_
                   rotate_left
                   ·intro w'
                    go_simp
                    with_reducible rfl
                   rotate_left
                   ·(simp only [Act.put, List.setIfInBounds_toArray, List.set_cons_zero, List.set_cons_succ, i64_w, i32_w])
                    rfl
                   refine pure_ (i := 10) (N := some 92) (v := ?_) (a' := ?_) #[true, true, false, true, false, false, false, true, true, false, true, false, false, false, false, false] rfl rfl (any_of HT_.out (by kernel_rfl)) (fun _ _ _ h => h) (Or.inl ⟨by rfl, ?_⟩) ?_ ?_
                   rotate_left
                   ·intro w'
                    go_simp
                    with_reducible rfl
                   rotate_left
                   ·(simp only [Act.put, List.setIfInBounds_toArray, List.set_cons_zero, List.set_cons_succ, i64_w, i32_w])
                    rfl
                   refine take_ (i := 2) (N := some 84) (v := ?_) (a' := ?_) #[true, true, true, true, false, false, false, true, true, false, true, false, false, false, false, false] rfl rfl (take_ofW HT_.out HW_.out (by kernel_rfl)) (fun _ _ _ h => h) (Or.inl ⟨by rfl, ?_⟩) hHeld ?_ ?_
                   rotate_left
                   ·rintro w' ⟨s0, s1, s2, s3, s4⟩
                    go_simp
                    with_reducible rfl
                   rotate_left
                   ·(simp only [Act.put, List.setIfInBounds_toArray, List.set_cons_zero, List.set_cons_succ, i64_w, i32_w])
                    rfl
                   refine pure_ (i := 4) (N := some 86) (v := ?_) (a' := ?_) #[true, true, true, true, true, false, false, true, true, false, true, false, false, false, false, false] rfl rfl (any_of HT_.out (by kernel_rfl)) (fun _ _ _ h => h) (Or.inl ⟨by rfl, ?_⟩) ?_ ?_
                   rotate_left
                   ·intro w'
                    go_simp
                    with_reducible rfl
                   rotate_left
                   ·(simp only [Act.put, List.setIfInBounds_toArray, List.set_cons_zero, List.set_cons_succ, i64_w, i32_w])
                    rfl
                   refine take_ (i := 5) (N := some 87) (v := ?_) (a' := ?_) #[true, true, true, true, true, true, false, true, true, false, true, false, false, false, false, false] rfl rfl (take_ofW HT_.out HW_.out (by kernel_rfl)) (fun _ _ _ h => h) (Or.inl ⟨by rfl, ?_⟩) hHeld ?_ ?_
                   rotate_left
                   ·rintro w' ⟨s0, s1, s2, s3, s4⟩
                    go_simp
                    with_reducible rfl
                   rotate_left
                   ·(simp only [Act.put, List.setIfInBounds_toArray, List.set_cons_zero, List.set_cons_succ, i64_w, i32_w])
                    rfl
                   refine pure_ (i := 6) (N := some 88) (v := ?_) (a' := ?_) #[true, true, true, true, true, true, true, true, true, false, true, false, false, false, false, false] rfl rfl (any_of HT_.out (by kernel_rfl)) (fun _ _ _ h => h) (Or.inl ⟨by rfl, ?_⟩) ?_ ?_
                   rotate_left
                   ·intro w'
                    go_simp
                    with_reducible rfl
                   rotate_left
                   ·(simp only [Act.put, List.setIfInBounds_toArray, List.set_cons_zero, List.set_cons_succ, i64_w, i32_w])
                    rfl
                   refine pure_ (i := 14) (N := some 9) (v := ?_) (a' := ?_) #[true, true, true, true, true, true, true, true, true, false, true, false, false, false, true, false] rfl rfl (any_of HT_.out (by kernel_rfl)) (fun _ _ _ h => h) (Or.inl ⟨by rfl, ?_⟩) ?_ ?_
                   rotate_left
                   ·intro w'
                    go_simp
                    with_reducible rfl
                   rotate_left
                   ·(simp only [Act.put, List.setIfInBounds_toArray, List.set_cons_zero, List.set_cons_succ, i64_w, i32_w])
                    rfl
                   refine take_ (i := 9) (N := some 91) (v := ?_) (a' := ?_) #[true, true, true, true, true, true, true, true, true, true, true, false, false, false, true, false] rfl rfl (take_ofW HT_.out HW_.out (by kernel_rfl)) (fun _ _ _ h => h) (Or.inl ⟨by rfl, ?_⟩) hHeld ?_ ?_
                   rotate_left
                   ·rintro w' ⟨s0, s1, s2, s3, s4⟩
                    go_simp
                    with_reducible rfl
                   rotate_left
                   ·(simp only [Act.put, List.setIfInBounds_toArray, List.set_cons_zero, List.set_cons_succ, i64_w, i32_w])
                    rfl
                   refine pure_ (i := 11) (N := some 93) (v := ?_) (a' := ?_) #[true, true, true, true, true, true, true, true, true, true, true, true, false, false, true, false] rfl rfl (any_of HT_.out (by kernel_rfl)) (fun _ _ _ h => h) (Or.inl ⟨by rfl, ?_⟩) ?_ ?_
                   rotate_left
                   ·intro w'
                    go_simp
                    with_reducible rfl
                   rotate_left
                   ·(simp only [Act.put, List.setIfInBounds_toArray, List.set_cons_zero, List.set_cons_succ, i64_w, i32_w])
                    rfl
                   refine take_ (i := 12) (N := some 94) (v := ?_) (a' := ?_) #[true, true, true, true, true, true, true, true, true, true, true, true, true, false, true, false] rfl rfl (take_ofW HT_.out HW_.out (by kernel_rfl)) (fun _ _ _ h => h) (Or.inl ⟨by rfl, ?_⟩) hHeld ?_ ?_
                   rotate_left
                   ·rintro w' ⟨s0, s1, s2, s3, s4⟩
                    go_simp
                    with_reducible rfl
                   rotate_left
                   ·(simp only [Act.put, List.setIfInBounds_toArray, List.set_cons_zero, List.set_cons_succ, i64_w, i32_w])
                    rfl
                   refine pure_ (i := 13) (N := some 95) (v := ?_) (a' := ?_) #[true, true, true, true, true, true, true, true, true, true, true, true, true, true, true, false] rfl rfl (any_of HT_.out (by kernel_rfl)) (fun _ _ _ h => h) (Or.inl ⟨by rfl, ?_⟩) ?_ ?_
                   rotate_left
                   ·intro w'
                    go_simp
                    with_reducible rfl
                   rotate_left
                   ·(simp only [Act.put, List.setIfInBounds_toArray, List.set_cons_zero, List.set_cons_succ, i64_w, i32_w])
                    rfl
                   refine pure_ (i := 15) (N := some 10) (v := ?_) (a' := ?_) #[true, true, true, true, true, true, true, true, true, true, true, true, true, true, true, true] rfl rfl (any_of HT_.out (by kernel_rfl)) (fun _ _ _ h => h) (Or.inl ⟨by rfl, ?_⟩) ?_ ?_
                   rotate_left
                   ·intro w'
                    go_simp
                    with_reducible rfl
                   rotate_left
                   ·(simp only [Act.put, List.setIfInBounds_toArray, List.set_cons_zero, List.set_cons_succ, i64_w, i32_w])
                    rfl
                   refine done_ (done_of HT_.out (by kernel_rfl)) ?_
                   obtain ⟨Ao58, co58, eo58⟩ := Kd.R_slice HO_206001.out
                   subst eo58
                   obtain ⟨Ao59, co59, eo59⟩ := Kd.R_slice HO_206002.out
                   subst eo59
                   try go_wp2
                   have n0_ := Aside0.mk (Kd.R_drew HO_206001.out)
                   have n1_ := Aside0.mk (Kd.R_drew HO_206002.out)
                   have n2_ := Aside0.mk (blk_drew BK200.out)
                   have n3_ := Aside0.mk (blk_drew BK201.out)
                   have n4_ := Aside0.mk (blk_drew BK205.out)
                   have n5_ := Aside0.mk (below_drew1 HB.out)
                   clear HO_206001
                   clear HO_206002
                   clear BK200
                   clear BK201
                   clear BK205
                   clear HB
                   have HO_206001 := n0_
                   have HO_206002 := n1_
                   have BK200 := n2_
                   have BK201 := n3_
                   have BK205 := n4_
                   have HB := n5_
                   clear n0_ n1_ n2_ n3_ n4_ n5_
                   refine start_ (n := 14) (S := fun w' => w'.cell? ⟨gb205, 0, none⟩ = some (.int .i64 (wrap64 (a0_0 + 1))) ∧ w'.cell? ⟨gb205, 1, none⟩ = some (.slice Ao58 x206001_4.length co58) ∧ w'.cell? ⟨gb205, 2, none⟩ = some (.slice Ao59 x206002_4.length co59)) (ds := [11, 13]) #[false, false, false, false, false, false, false, false, false, false, false, false, false, false] (by kernel_rfl) rfl rfl ⟨(blk_cell BK205.out 0).trans rfl, (blk_cell BK205.out 1).trans rfl, (blk_cell BK205.out 2).trans rfl⟩ (fun hHeld => ?_); refine with_tabW bautaref39_Add.tab17 bautaref39_Add.bits17 (fun HT_ HW_ => ?_)
                   generalize w57.drew = w60 at HO_206001 HO_206002 BK200 BK201 BK205 HB hHeld ⊢
                   refine pure_ (i := 0) (N := some 96) (v := ?_) (a' := ?_) #[true, false, false, false, false, false, false, false, false, false, false, false, false, false] rfl rfl (any_of HT_.out (by kernel_rfl)) (fun _ _ _ h => h) (Or.inl ⟨by rfl, ?_⟩) ?_ ?_
                   rotate_left
                   ·intro w'
                    go_simp
                    with_reducible rfl
                   rotate_left
                   ·(simp only [Act.put, List.setIfInBounds_toArray, List.set_cons_zero, List.set_cons_succ, i64_w, i32_w])
                    rfl
                   refine pure_ (i := 2) (N := some 98) (v := ?_) (a' := ?_) #[true, false, true, false, false, false, false, false, false, false, false, false, false, false] rfl rfl (any_of HT_.out (by kernel_rfl)) (fun _ _ _ h => h) (Or.inl ⟨by rfl, ?_⟩) ?_ ?_
                   rotate_left
                   ·intro w'
                    go_simp
                    with_reducible rfl
                   rotate_left
                   ·(simp only [Act.put, List.setIfInBounds_toArray, List.set_cons_zero, List.set_cons_succ, i64_w, i32_w])
                    rfl
                   refine pure_ (i := 5) (N := some 101) (v := ?_) (a' := ?_) #[true, false, true, false, false, true, false, false, false, false, false, false, false, false] rfl rfl (any_of HT_.out (by kernel_rfl)) (fun _ _ _ h => h) (Or.inl ⟨by rfl, ?_⟩) ?_ ?_
                   rotate_left
                   ·intro w'
                    go_simp
                    with_reducible rfl
                   rotate_left
                   ·(simp only [Act.put, List.setIfInBounds_toArray, List.set_cons_zero, List.set_cons_succ, i64_w, i32_w])
                    rfl
                   refine pure_ (i := 7) (N := some 103) (v := ?_) (a' := ?_) #[true, false, true, false, false, true, false, true, false, false, false, false, false, false] rfl rfl (any_of HT_.out (by kernel_rfl)) (fun _ _ _ h => h) (Or.inl ⟨by rfl, ?_⟩) ?_ ?_
                   rotate_left
                   ·intro w'
                    go_simp
                    with_reducible rfl
                   rotate_left
                   ·(simp only [Act.put, List.setIfInBounds_toArray, List.set_cons_zero, List.set_cons_succ, i64_w, i32_w])
                    rfl
                   refine take_ (i := 1) (N := some 97) (v := ?_) (a' := ?_) #[true, true, true, false, false, true, false, true, false, false, false, false, false, false] rfl rfl (take_ofW HT_.out HW_.out (by kernel_rfl)) (fun _ _ _ h => h) (Or.inl ⟨by rfl, ?_⟩) hHeld ?_ ?_
                   rotate_left
                   ·rintro w' ⟨s0, s1, s2⟩
                    go_simp
                    with_reducible rfl
                   rotate_left
                   ·(simp only [Act.put, List.setIfInBounds_toArray, List.set_cons_zero, List.set_cons_succ, i64_w, i32_w])
                    rfl
                   refine take_ (i := 6) (N := some 102) (v := ?_) (a' := ?_) #[true, true, true, false, false, true, true, true, false, false, false, false, false, false] rfl rfl (take_ofW HT_.out HW_.out (by kernel_rfl)) (fun _ _ _ h => h) (Or.inl ⟨by rfl, ?_⟩) hHeld ?_ ?_
                   rotate_left
                   ·rintro w' ⟨s0, s1, s2⟩
                    go_simp
                    with_reducible rfl
                   rotate_left
                   ·(simp only [Act.put, List.setIfInBounds_toArray, List.set_cons_zero, List.set_cons_succ, i64_w, i32_w])
                    rfl
                   refine join_ (σ := Value × Value × Value) 4 #[true, true, true, true, true, true, true, true, true, false, true, false, false, false] (fun s_ => [(99, s_.1), (100, s_.2.1), (104, s_.2.2), (106, .pointer (some ⟨gb205, 1, none⟩))]) (fun s_ w' => (w'.cell? ⟨gb205, 0, none⟩ = some (.int .i64 (wrap64 (a0_0 + 1))) ∧ w'.cell? ⟨gb205, 1, none⟩ = some (.slice Ao58 x206001_4.length co58) ∧ w'.cell? ⟨gb205, 2, none⟩ = some (.slice Ao59 x206002_4.length co59)) ∧ (Kd.R (Kd.int .i64) 3 w' w.heap.size (fun k_ => some k_ ≠ (s_.2.1 : Value).ownBlock ∧ some k_ ≠ (s_.2.2 : Value).ownBlock ∧ some k_ ≠ (.slice Ao59 x206002_4.length co59 : Value).ownBlock) s_.1 y211) ∧ (Kd.R (Kd.int .i64) 3 w' w.heap.size (fun k_ => some k_ ≠ (s_.1 : Value).ownBlock ∧ some k_ ≠ (s_.2.2 : Value).ownBlock ∧ some k_ ≠ (.slice Ao59 x206002_4.length co59 : Value).ownBlock) s_.2.1 y214) ∧ (Kd.R (Kd.int .i64) 3 w' w.heap.size (fun k_ => some k_ ≠ (s_.1 : Value).ownBlock ∧ some k_ ≠ (s_.2.1 : Value).ownBlock ∧ some k_ ≠ (.slice Ao59 x206002_4.length co59 : Value).ownBlock) s_.2.2 y217) ∧ (Kd.R (Kd.int .i64) 3 w' w.heap.size (fun k_ => some k_ ≠ (s_.1 : Value).ownBlock ∧ some k_ ≠ (s_.2.1 : Value).ownBlock ∧ some k_ ≠ (s_.2.2 : Value).ownBlock) (.slice Ao59 x206002_4.length co59) x206002_4) ∧ (w'.heap[gb200]? = some (.cells #[.int .i64 a0_0, .slice (some ad209) l0_1.length c0_1, .slice (some ad210) l0_2.length c0_2] 24 (0, 0))) ∧ (w'.heap[gb201]? = some (.cells #[.int .i64 x202000_1, .slice none 0 0, .slice none 0 0] 24 (0, 0))) ∧ (w'.heap[gb205]? = some (.cells #[.int .i64 (wrap64 (a0_0 + 1)), .slice Ao58 x206001_4.length co58, .slice Ao59 x206002_4.length co59] 24 (0, 0))) ∧ (Below w.heap.size w w')) ?_ ?_
                   rotate_left
                   ·intro hCont
                    refine two_ (i := 3) (j := 8) (Ni := some 99) (Nj := some 104) #[true, true, true, true, false, true, true, true, false, false, false, false, false, false] #[true, true, true, false, false, true, true, true, true, false, false, false, false, false] rfl rfl rfl rfl (two_of HT_.out (by kernel_rfl)) (by decide) (by decide) (fun K hK => ?_) (fun K hK => ?_)
                    ·skip
                     refine Kd.R_lit_step (Kd.int .i64) _ 3 ?hg (N := 99) ?hd (xs := ([wrap64 ((rd l1 x8_4) + (rd l0_1 x8_4))] : List Int)) (inner := [.int .i64 (wrap64 ((rd l1 x8_4) + (rd l0_1 x8_4)))]) (ok := fun _ => True) (okp := fun _ => True) ?hr ?hp (fun _ hk => hk) trivial (Below.refl _ _) (Nat.le_refl _) (by simp) ?_; (case hd => rfl); (case hg => rfl); (case hr => first | (go_simp; done) | (go_simp; rfl)); (case hp => exact (Reps.one (show Kd.M (Kd.int .i64) _ _ _ (wrap64 ((rd l1 x8_4) + (rd l0_1 x8_4))) [.int .i64 (wrap64 ((rd l1 x8_4) + (rd l0_1 x8_4)))] from rfl) (Reps.none _ _)))
                     intro v212 w61 ho62 hb hg_ hnew_
                     clear hg_ hnew_
                     (first | rw [← Ny211.out] at ho62 | (simp only [Int.reduceToNat] at ho62; rw [← Ny211.out] at ho62))
                     have n0_ := Aside0.mk (Kd.R_elder' (rr_ HO_206001) (Kd.R_base ho62) hb)
                     have n1_ := Aside0.mk (Kd.R_elder' (rr_ HO_206002) (Kd.R_base ho62) hb)
                     have n2_ := Aside0.mk (Kd.R_lower (Kd.R_new' (Kd.R_new' ho62 (Kd.R_lt (rr_ HO_206001))) (Kd.R_lt (rr_ HO_206002))) (below_size (by repeat (first | (with_reducible first | exact HB.out | apply below_alloc | apply pw_below_drewN | apply below_drew1 | refine below_set ?_ GE200.out | refine below_set ?_ GE201.out | refine below_set ?_ GE205.out) | exact HB.out))))
                     have n3_ := Aside0.mk (blk_below (rb_ BK200) hb)
                     have n4_ := Aside0.mk (blk_below (rb_ BK201) hb)
                     have n5_ := Aside0.mk (blk_below (g := gb205) (o := .cells #[.int .i64 (wrap64 (a0_0 + 1)), .slice Ao58 x206001_4.length co58, .slice Ao59 x206002_4.length co59] 24 (0, 0)) (rb_ BK205) hb)
                     have n6_ := Aside0.mk (below_step (by repeat (first | (with_reducible first | exact HB.out | apply below_alloc | apply pw_below_drewN | apply below_drew1 | refine below_set ?_ GE200.out | refine below_set ?_ GE201.out | refine below_set ?_ GE205.out) | exact HB.out)) hb)
                     clear HO_206001
                     clear HO_206002
                     clear BK200
                     clear BK201
                     clear BK205
                     clear HB
                     have HO_206001 := n0_
                     have HO_206002 := n1_
                     have HO213 := n2_
                     have BK200 := n3_
                     have BK201 := n4_
                     have BK205 := n5_
                     have HB := n6_
                     clear n0_ n1_ n2_ n3_ n4_ n5_ n6_
                     clear hb ho62
                     obtain ⟨Ao64, co64, eo64⟩ := Kd.R_slice HO213.out
                     (first | subst eo64 | (injection eo64 with f1_ f2_ f3_; have f4_ := f1_.symm; have f5_ := f3_.symm; clear f1_ f2_ f3_; subst f4_; subst f5_))
                     refine hK.out _ _ ⟨(blk_cell BK205.out 0).trans rfl, (blk_cell BK205.out 1).trans rfl, (blk_cell BK205.out 2).trans rfl⟩ (fun hHeld => ?_)
                     clear hK K
                     refine norm_ (a' := ?_) ?_ ?_
                     rotate_left
                     ·show Act.put _ (some 99) _ = _
                      (simp only [Act.put, List.setIfInBounds_toArray, List.set_cons_zero, List.set_cons_succ, i64_w, i32_w])
                      rfl
                     refine two_ (i := 4) (j := 8) (Ni := some 100) (Nj := some 104) #[true, true, true, true, true, true, true, true, false, false, false, false, false, false] #[true, true, true, true, false, true, true, true, true, false, false, false, false, false] rfl rfl rfl rfl (two_of HT_.out (by kernel_rfl)) (by decide) (by decide) (fun K hK => ?_) (fun K hK => ?_)
                     ·skip
                      refine Kd.R_append_rows_step (Kd.int .i64) (w0 := w) w.heap.size (by rfl) (.tmp 97) (.tmp 99) 22 3 (.int .i64 0) 8 rfl Try.underlying22 info3 rfl (by decide) (by omega) (.slice Ao58 x206001_4.length co58) x206001_4 y211 _ _ _ (fun k_ => some k_ ≠ (.slice Ao59 x206002_4.length co59 : Value).ownBlock ∧ some k_ ≠ (.slice Ao64 y211.length co64 : Value).ownBlock) (fun _ => False) rfl rfl ?aO ?aR (fun _ _ h => h) (fun _ h => h.elim) ?aF ?aB ?aS ?aL ?_
                      (case aR => exact rcr_ HO213)
                      (case aB => exact (by repeat (first | (with_reducible first | exact HB.out | apply below_alloc | apply pw_below_drewN | apply below_drew1 | refine below_set ?_ GE200.out | refine below_set ?_ GE201.out | refine below_set ?_ GE205.out) | exact HB.out)))
                      (case aF => exact (fun k_ hk => ⟨Kd.fresh' (Kd.R_lt (rr_ HO_206002)) k_ hk, Kd.fresh' (Kd.R_lt (rr_ HO213)) k_ hk⟩))
                      (case aO => exact (rr_ HO_206001))
                      (case aS => exact (below_size (by repeat (first | (with_reducible first | exact HB.out | apply below_alloc | apply pw_below_drewN | apply below_drew1 | refine below_set ?_ GE200.out | refine below_set ?_ GE201.out | refine below_set ?_ GE205.out) | exact HB.out))))
                      (case aL => have := LMc51.out; first | omega | (simp only [List.length_take] at *; omega))
                      intro v215 w63 ho hb hg hat
                      rw [← Ny214.out] at ho
                      have n0_ := Aside0.mk (Kd.R_after (ok := (fun k_ => some k_ ≠ (.slice Ao64 y211.length co64 : Value).ownBlock)) (by (with_reducible repeat (first | apply Kd.R_alloc | apply Kd.R_drewN | apply Kd.R_drew)); exact Kd.R_mono HO_206002.out (fun _ hk => ⟨hk.2, hk.1⟩)) hg hat)
                      have n1_ := Aside0.mk (blk_grown (g := gb200) (o := .cells #[.int .i64 a0_0, .slice (some ad209) l0_1.length c0_1, .slice (some ad210) l0_2.length c0_2] 24 (0, 0)) (rb_ BK200) hg (Kd.R_ne HO_206001.out BK200.out (by decide)))
                      have n2_ := Aside0.mk (blk_grown (g := gb201) (o := .cells #[.int .i64 x202000_1, .slice none 0 0, .slice none 0 0] 24 (0, 0)) (rb_ BK201) hg (Kd.R_ne HO_206001.out BK201.out (by decide)))
                      have n3_ := Aside0.mk (blk_grown (g := gb205) (o := .cells #[.int .i64 (wrap64 (a0_0 + 1)), .slice Ao58 x206001_4.length co58, .slice Ao59 x206002_4.length co59] 24 (0, 0)) (rb_ BK205) hg (Kd.R_ne HO_206001.out BK205.out (by decide)))
                      have n4_ := Aside0.mk (Kd.R_after (ok := (fun k_ => some k_ ≠ (.slice Ao59 x206002_4.length co59 : Value).ownBlock)) (by (with_reducible repeat (first | apply Kd.R_alloc | apply Kd.R_drewN | apply Kd.R_drew)); exact Kd.R_mono HO213.out (fun _ hk => ⟨hk.2, hk.1.2⟩)) hg hat)
                      have n5_ := Aside0.mk (hb)
                      have n6_ := Aside0.mk (ho)
                      clear HO_206002
                      clear BK200
                      clear BK201
                      clear BK205
                      clear HO213
                      clear HB
                      clear HO_206001
                      have HO_206002 := n0_
                      have BK200 := n1_
                      have BK201 := n2_
                      have BK205 := n3_
                      have HO213 := n4_
                      have HB := n5_
                      have HO216 := n6_
                      clear n0_ n1_ n2_ n3_ n4_ n5_ n6_
                      clear ho hb hg hat
                      refine hK.out _ _ ⟨(blk_cell BK205.out 0).trans rfl, (blk_cell BK205.out 1).trans rfl, (blk_cell BK205.out 2).trans rfl⟩ (fun hHeld => ?_)
                      clear hK K
                      refine norm_ (a' := ?_) ?_ ?_
                      rotate_left
                      ·show Act.put _ (some 100) _ = _
                       (simp only [Act.put, List.setIfInBounds_toArray, List.set_cons_zero, List.set_cons_succ, i64_w, i32_w])
                       rfl
                      refine pure_ (i := 10) (N := some 106) (v := ?_) (a' := ?_) #[true, true, true, true, true, true, true, true, false, false, true, false, false, false] rfl rfl (any_of HT_.out (by kernel_rfl)) (fun _ _ _ h => h) (Or.inl ⟨by rfl, ?_⟩) ?_ ?_
                      rotate_left
                      ·intro w'
                       go_simp
                       with_reducible rfl
                      rotate_left
                      ·(simp only [Act.put, List.setIfInBounds_toArray, List.set_cons_zero, List.set_cons_succ, i64_w, i32_w])
                       rfl
                      refine one_ (i := 8) (N := some 104) #[true, true, true, true, true, true, true, true, true, false, true, false, false, false] rfl rfl (one_of HT_.out (by kernel_rfl)) (by decide) (fun K hK => ?_)
                      refine Kd.R_lit_step (Kd.int .i64) _ 3 ?hg (N := 104) ?hd (xs := ([wrap64 ((wrap64 ((rd l1 x8_4) * (rd l1 x8_4))) + (rd l0_2 x8_4))] : List Int)) (inner := [.int .i64 (wrap64 ((wrap64 ((rd l1 x8_4) * (rd l1 x8_4))) + (rd l0_2 x8_4)))]) (ok := fun _ => True) (okp := fun _ => True) ?hr ?hp (fun _ hk => hk) trivial (Below.refl _ _) (Nat.le_refl _) (by simp) ?_; (case hd => rfl); (case hg => rfl); (case hr => first | (go_simp; done) | (go_simp; rfl)); (case hp => exact (Reps.one (show Kd.M (Kd.int .i64) _ _ _ (wrap64 ((wrap64 ((rd l1 x8_4) * (rd l1 x8_4))) + (rd l0_2 x8_4))) [.int .i64 (wrap64 ((wrap64 ((rd l1 x8_4) * (rd l1 x8_4))) + (rd l0_2 x8_4)))] from rfl) (Reps.none _ _)))
                      intro v218 w65 ho66 hb hg_ hnew_
                      clear hg_ hnew_
                      (first | rw [← Ny217.out] at ho66 | (simp only [Int.reduceToNat] at ho66; rw [← Ny217.out] at ho66))
                      have n0_ := Aside0.mk (Kd.R_elder' (rr_ HO_206002) (Kd.R_base ho66) hb)
                      have n1_ := Aside0.mk (Kd.R_elder' (rr_ HO213) (Kd.R_base ho66) hb)
                      have n2_ := Aside0.mk (Kd.R_elder' (rr_ HO216) (Kd.R_base ho66) hb)
                      have n3_ := Aside0.mk (Kd.R_lower (Kd.R_new' (Kd.R_new' (Kd.R_new' ho66 (Kd.R_lt (rr_ HO_206002))) (Kd.R_lt (rr_ HO213))) (Kd.R_lt (rr_ HO216))) (below_size (by repeat (first | (with_reducible first | exact HB.out | apply below_alloc | apply pw_below_drewN | apply below_drew1 | refine below_set ?_ GE200.out | refine below_set ?_ GE201.out | refine below_set ?_ GE205.out) | exact HB.out))))
                      have n4_ := Aside0.mk (blk_below (rb_ BK200) hb)
                      have n5_ := Aside0.mk (blk_below (rb_ BK201) hb)
                      have n6_ := Aside0.mk (blk_below (g := gb205) (o := .cells #[.int .i64 (wrap64 (a0_0 + 1)), .slice Ao58 x206001_4.length co58, .slice Ao59 x206002_4.length co59] 24 (0, 0)) (rb_ BK205) hb)
                      have n7_ := Aside0.mk (below_step (by repeat (first | (with_reducible first | exact HB.out | apply below_alloc | apply pw_below_drewN | apply below_drew1 | refine below_set ?_ GE200.out | refine below_set ?_ GE201.out | refine below_set ?_ GE205.out) | exact HB.out)) hb)
                      clear HO_206002
                      clear HO213
                      clear HO216
                      clear BK200
                      clear BK201
                      clear BK205
                      clear HB
                      have HO_206002 := n0_
                      have HO213 := n1_
                      have HO216 := n2_
                      have HO219 := n3_
                      have BK200 := n4_
                      have BK201 := n5_
                      have BK205 := n6_
                      have HB := n7_
                      clear n0_ n1_ n2_ n3_ n4_ n5_ n6_ n7_
                      clear hb ho66
                      refine hK.out _ _ ⟨(blk_cell BK205.out 0).trans rfl, (blk_cell BK205.out 1).trans rfl, (blk_cell BK205.out 2).trans rfl⟩ (fun hHeld => ?_)
                      clear hK K
                      refine norm_ (a' := ?_) ?_ ?_
                      rotate_left
                      ·show Act.put _ (some 104) _ = _
                       (simp only [Act.put, List.setIfInBounds_toArray, List.set_cons_zero, List.set_cons_succ, i64_w, i32_w])
                       rfl
                      exact norm_ (by simp only [putAll, Act.put, List.setIfInBounds_toArray, List.set_cons_zero, List.set_cons_succ]) (hCont (.slice Ao64 y211.length co64, v215, v218) _ ⟨hHeld, (by (with_reducible repeat (first | apply Kd.R_alloc | apply Kd.R_drewN | apply Kd.R_drew)); exact Kd.R_mono HO213.out (fun _ hk => ⟨hk.1.2, ⟨hk.2, hk.1.1⟩⟩)), (by (with_reducible repeat (first | apply Kd.R_alloc | apply Kd.R_drewN | apply Kd.R_drew)); exact Kd.R_mono HO216.out (fun _ hk => ⟨hk.1.2, ⟨hk.2, hk.1.1⟩⟩)), (by (with_reducible repeat (first | apply Kd.R_alloc | apply Kd.R_drewN | apply Kd.R_drew)); exact Kd.R_mono HO219.out (fun _ hk => ⟨hk.1.2, ⟨hk.2, hk.1.1.2⟩⟩)), (by (with_reducible repeat (first | apply Kd.R_alloc | apply Kd.R_drewN | apply Kd.R_drew)); exact Kd.R_mono HO_206002.out (fun _ hk => ⟨hk.1.1, ⟨hk.1.2, hk.2⟩⟩)), (rb_ BK200), (rb_ BK201), (rb_ BK205), (by repeat (first | (with_reducible first | exact HB.out | apply below_alloc | apply pw_below_drewN | apply below_drew1 | refine below_set ?_ GE200.out | refine below_set ?_ GE201.out | refine below_set ?_ GE205.out) | exact HB.out))⟩)
                     ·skip
                      refine Kd.R_lit_step (Kd.int .i64) _ 3 ?hg (N := 104) ?hd (xs := ([wrap64 ((wrap64 ((rd l1 x8_4) * (rd l1 x8_4))) + (rd l0_2 x8_4))] : List Int)) (inner := [.int .i64 (wrap64 ((wrap64 ((rd l1 x8_4) * (rd l1 x8_4))) + (rd l0_2 x8_4)))]) (ok := fun _ => True) (okp := fun _ => True) ?hr ?hp (fun _ hk => hk) trivial (Below.refl _ _) (Nat.le_refl _) (by simp) ?_; (case hd => rfl); (case hg => rfl); (case hr => first | (go_simp; done) | (go_simp; rfl)); (case hp => exact (Reps.one (show Kd.M (Kd.int .i64) _ _ _ (wrap64 ((wrap64 ((rd l1 x8_4) * (rd l1 x8_4))) + (rd l0_2 x8_4))) [.int .i64 (wrap64 ((wrap64 ((rd l1 x8_4) * (rd l1 x8_4))) + (rd l0_2 x8_4)))] from rfl) (Reps.none _ _)))
                      intro v218 w63 ho64 hb hg_ hnew_
                      clear hg_ hnew_
                      (first | rw [← Ny217.out] at ho64 | (simp only [Int.reduceToNat] at ho64; rw [← Ny217.out] at ho64))
                      have n0_ := Aside0.mk (Kd.R_elder' (rr_ HO_206001) (Kd.R_base ho64) hb)
                      have n1_ := Aside0.mk (Kd.R_elder' (rr_ HO_206002) (Kd.R_base ho64) hb)
                      have n2_ := Aside0.mk (Kd.R_elder' (rr_ HO213) (Kd.R_base ho64) hb)
                      have n3_ := Aside0.mk (Kd.R_lower (Kd.R_new' (Kd.R_new' (Kd.R_new' ho64 (Kd.R_lt (rr_ HO_206001))) (Kd.R_lt (rr_ HO_206002))) (Kd.R_lt (rr_ HO213))) (below_size (by repeat (first | (with_reducible first | exact HB.out | apply below_alloc | apply pw_below_drewN | apply below_drew1 | refine below_set ?_ GE200.out | refine below_set ?_ GE201.out | refine below_set ?_ GE205.out) | exact HB.out))))
                      have n4_ := Aside0.mk (blk_below (rb_ BK200) hb)
                      have n5_ := Aside0.mk (blk_below (rb_ BK201) hb)
                      have n6_ := Aside0.mk (blk_below (g := gb205) (o := .cells #[.int .i64 (wrap64 (a0_0 + 1)), .slice Ao58 x206001_4.length co58, .slice Ao59 x206002_4.length co59] 24 (0, 0)) (rb_ BK205) hb)
                      have n7_ := Aside0.mk (below_step (by repeat (first | (with_reducible first | exact HB.out | apply below_alloc | apply pw_below_drewN | apply below_drew1 | refine below_set ?_ GE200.out | refine below_set ?_ GE201.out | refine below_set ?_ GE205.out) | exact HB.out)) hb)
                      clear HO_206001
                      clear HO_206002
                      clear HO213
                      clear BK200
                      clear BK201
                      clear BK205
                      clear HB
                      have HO_206001 := n0_
                      have HO_206002 := n1_
                      have HO213 := n2_
                      have HO219 := n3_
                      have BK200 := n4_
                      have BK201 := n5_
                      have BK205 := n6_
                      have HB := n7_
                      clear n0_ n1_ n2_ n3_ n4_ n5_ n6_ n7_
                      clear hb ho64
                      obtain ⟨Ao66, co66, eo66⟩ := Kd.R_slice HO213.out
                      (first | subst eo66 | (injection eo66 with f1_ f2_ f3_; have f4_ := f1_.symm; have f5_ := f3_.symm; clear f1_ f2_ f3_; subst f4_; subst f5_))
                      refine hK.out _ _ ⟨(blk_cell BK205.out 0).trans rfl, (blk_cell BK205.out 1).trans rfl, (blk_cell BK205.out 2).trans rfl⟩ (fun hHeld => ?_)
                      clear hK K
                      refine norm_ (a' := ?_) ?_ ?_
                      rotate_left
                      ·show Act.put _ (some 104) _ = _
                       (simp only [Act.put, List.setIfInBounds_toArray, List.set_cons_zero, List.set_cons_succ, i64_w, i32_w])
                       rfl
                      refine one_ (i := 4) (N := some 100) #[true, true, true, true, true, true, true, true, true, false, false, false, false, false] rfl rfl (one_of HT_.out (by kernel_rfl)) (by decide) (fun K hK => ?_)
                      refine Kd.R_append_rows_step (Kd.int .i64) (w0 := w) w.heap.size (by rfl) (.tmp 97) (.tmp 99) 22 3 (.int .i64 0) 8 rfl Try.underlying22 info3 rfl (by decide) (by omega) (.slice Ao58 x206001_4.length co58) x206001_4 y211 _ _ _ (fun k_ => some k_ ≠ (.slice Ao59 x206002_4.length co59 : Value).ownBlock ∧ some k_ ≠ (.slice Ao66 y211.length co66 : Value).ownBlock ∧ some k_ ≠ (v218 : Value).ownBlock) (fun _ => False) rfl rfl ?aO ?aR (fun _ _ h => h) (fun _ h => h.elim) ?aF ?aB ?aS ?aL ?_
                      (case aR => exact rcr_ HO213)
                      (case aB => exact (by repeat (first | (with_reducible first | exact HB.out | apply below_alloc | apply pw_below_drewN | apply below_drew1 | refine below_set ?_ GE200.out | refine below_set ?_ GE201.out | refine below_set ?_ GE205.out) | exact HB.out)))
                      (case aF => exact (fun k_ hk => ⟨Kd.fresh' (Kd.R_lt (rr_ HO_206002)) k_ hk, Kd.fresh' (Kd.R_lt (rr_ HO213)) k_ hk, Kd.fresh' (Kd.R_lt (rr_ HO219)) k_ hk⟩))
                      (case aO => exact (by (with_reducible repeat (first | apply Kd.R_alloc | apply Kd.R_drewN | apply Kd.R_drew)); exact Kd.R_mono HO_206001.out (fun _ hk => ⟨hk.1.1, ⟨hk.1.2, hk.2⟩⟩)))
                      (case aS => exact (below_size (by repeat (first | (with_reducible first | exact HB.out | apply below_alloc | apply pw_below_drewN | apply below_drew1 | refine below_set ?_ GE200.out | refine below_set ?_ GE201.out | refine below_set ?_ GE205.out) | exact HB.out))))
                      (case aL => have := LMc51.out; first | omega | (simp only [List.length_take] at *; omega))
                      intro v215 w65 ho hb hg hat
                      rw [← Ny214.out] at ho
                      have n0_ := Aside0.mk (Kd.R_after (ok := (fun k_ => some k_ ≠ (.slice Ao66 y211.length co66 : Value).ownBlock ∧ some k_ ≠ (v218 : Value).ownBlock)) (by (with_reducible repeat (first | apply Kd.R_alloc | apply Kd.R_drewN | apply Kd.R_drew)); exact Kd.R_mono HO_206002.out (fun _ hk => ⟨⟨hk.1.2, hk.2⟩, hk.1.1⟩)) hg hat)
                      have n1_ := Aside0.mk (blk_grown (g := gb200) (o := .cells #[.int .i64 a0_0, .slice (some ad209) l0_1.length c0_1, .slice (some ad210) l0_2.length c0_2] 24 (0, 0)) (rb_ BK200) hg (Kd.R_ne HO_206001.out BK200.out (by decide)))
                      have n2_ := Aside0.mk (blk_grown (g := gb201) (o := .cells #[.int .i64 x202000_1, .slice none 0 0, .slice none 0 0] 24 (0, 0)) (rb_ BK201) hg (Kd.R_ne HO_206001.out BK201.out (by decide)))
                      have n3_ := Aside0.mk (blk_grown (g := gb205) (o := .cells #[.int .i64 (wrap64 (a0_0 + 1)), .slice Ao58 x206001_4.length co58, .slice Ao59 x206002_4.length co59] 24 (0, 0)) (rb_ BK205) hg (Kd.R_ne HO_206001.out BK205.out (by decide)))
                      have n4_ := Aside0.mk (Kd.R_after (ok := (fun k_ => some k_ ≠ (.slice Ao59 x206002_4.length co59 : Value).ownBlock ∧ some k_ ≠ (v218 : Value).ownBlock)) (by (with_reducible repeat (first | apply Kd.R_alloc | apply Kd.R_drewN | apply Kd.R_drew)); exact Kd.R_mono HO213.out (fun _ hk => ⟨⟨hk.1.2, hk.2⟩, hk.1.1.2⟩)) hg hat)
                      have n5_ := Aside0.mk (Kd.R_after (ok := (fun k_ => some k_ ≠ (.slice Ao59 x206002_4.length co59 : Value).ownBlock ∧ some k_ ≠ (.slice Ao66 y211.length co66 : Value).ownBlock)) (by (with_reducible repeat (first | apply Kd.R_alloc | apply Kd.R_drewN | apply Kd.R_drew)); exact Kd.R_mono HO219.out (fun _ hk => ⟨⟨hk.1.2, hk.2⟩, hk.1.1.2⟩)) hg hat)
                      have n6_ := Aside0.mk (hb)
                      have n7_ := Aside0.mk (ho)
                      clear HO_206002
                      clear BK200
                      clear BK201
                      clear BK205
                      clear HO213
                      clear HO219
                      clear HB
                      clear HO_206001
                      have HO_206002 := n0_
                      have BK200 := n1_
                      have BK201 := n2_
                      have BK205 := n3_
                      have HO213 := n4_
                      have HO219 := n5_
                      have HB := n6_
                      have HO216 := n7_
                      clear n0_ n1_ n2_ n3_ n4_ n5_ n6_ n7_
                      clear ho hb hg hat
                      refine hK.out _ _ ⟨(blk_cell BK205.out 0).trans rfl, (blk_cell BK205.out 1).trans rfl, (blk_cell BK205.out 2).trans rfl⟩ (fun hHeld => ?_)
                      clear hK K
                      refine norm_ (a' := ?_) ?_ ?_
                      rotate_left
                      ·show Act.put _ (some 100) _ = _
                       (simp only [Act.put, List.setIfInBounds_toArray, List.set_cons_zero, List.set_cons_succ, i64_w, i32_w])
                       rfl
                      refine pure_ (i := 10) (N := some 106) (v := ?_) (a' := ?_) #[true, true, true, true, true, true, true, true, true, false, true, false, false, false] rfl rfl (any_of HT_.out (by kernel_rfl)) (fun _ _ _ h => h) (Or.inl ⟨by rfl, ?_⟩) ?_ ?_
                      rotate_left
                      ·intro w'
                       go_simp
                       with_reducible rfl
                      rotate_left
                      ·(simp only [Act.put, List.setIfInBounds_toArray, List.set_cons_zero, List.set_cons_succ, i64_w, i32_w])
                       rfl
                      exact norm_ (by simp only [putAll, Act.put, List.setIfInBounds_toArray, List.set_cons_zero, List.set_cons_succ]) (hCont (.slice Ao66 y211.length co66, v215, v218) _ ⟨hHeld, (by (with_reducible repeat (first | apply Kd.R_alloc | apply Kd.R_drewN | apply Kd.R_drew)); exact Kd.R_mono HO213.out (fun _ hk => ⟨hk.2, ⟨hk.1.2, hk.1.1⟩⟩)), (by (with_reducible repeat (first | apply Kd.R_alloc | apply Kd.R_drewN | apply Kd.R_drew)); exact Kd.R_mono HO216.out (fun _ hk => ⟨hk.2.1, ⟨hk.2.2, hk.1⟩⟩)), (by (with_reducible repeat (first | apply Kd.R_alloc | apply Kd.R_drewN | apply Kd.R_drew)); exact Kd.R_mono HO219.out (fun _ hk => ⟨hk.1.2, ⟨hk.2, hk.1.1⟩⟩)), (by (with_reducible repeat (first | apply Kd.R_alloc | apply Kd.R_drewN | apply Kd.R_drew)); exact Kd.R_mono HO_206002.out (fun _ hk => ⟨hk.1.1, ⟨hk.2, hk.1.2⟩⟩)), (rb_ BK200), (rb_ BK201), (rb_ BK205), (by repeat (first | (with_reducible first | exact HB.out | apply below_alloc | apply pw_below_drewN | apply below_drew1 | refine below_set ?_ GE200.out | refine below_set ?_ GE201.out | refine below_set ?_ GE205.out) | exact HB.out))⟩)
                    ·skip
                     refine Kd.R_lit_step (Kd.int .i64) _ 3 ?hg (N := 104) ?hd (xs := ([wrap64 ((wrap64 ((rd l1 x8_4) * (rd l1 x8_4))) + (rd l0_2 x8_4))] : List Int)) (inner := [.int .i64 (wrap64 ((wrap64 ((rd l1 x8_4) * (rd l1 x8_4))) + (rd l0_2 x8_4)))]) (ok := fun _ => True) (okp := fun _ => True) ?hr ?hp (fun _ hk => hk) trivial (Below.refl _ _) (Nat.le_refl _) (by simp) ?_; (case hd => rfl); (case hg => rfl); (case hr => first | (go_simp; done) | (go_simp; rfl)); (case hp => exact (Reps.one (show Kd.M (Kd.int .i64) _ _ _ (wrap64 ((wrap64 ((rd l1 x8_4) * (rd l1 x8_4))) + (rd l0_2 x8_4))) [.int .i64 (wrap64 ((wrap64 ((rd l1 x8_4) * (rd l1 x8_4))) + (rd l0_2 x8_4)))] from rfl) (Reps.none _ _)))
                     intro v218 w61 ho62 hb hg_ hnew_
                     clear hg_ hnew_
                     (first | rw [← Ny217.out] at ho62 | (simp only [Int.reduceToNat] at ho62; rw [← Ny217.out] at ho62))
                     have n0_ := Aside0.mk (Kd.R_elder' (rr_ HO_206001) (Kd.R_base ho62) hb)
                     have n1_ := Aside0.mk (Kd.R_elder' (rr_ HO_206002) (Kd.R_base ho62) hb)
                     have n2_ := Aside0.mk (Kd.R_lower (Kd.R_new' (Kd.R_new' ho62 (Kd.R_lt (rr_ HO_206001))) (Kd.R_lt (rr_ HO_206002))) (below_size (by repeat (first | (with_reducible first | exact HB.out | apply below_alloc | apply pw_below_drewN | apply below_drew1 | refine below_set ?_ GE200.out | refine below_set ?_ GE201.out | refine below_set ?_ GE205.out) | exact HB.out))))
                     have n3_ := Aside0.mk (blk_below (rb_ BK200) hb)
                     have n4_ := Aside0.mk (blk_below (rb_ BK201) hb)
                     have n5_ := Aside0.mk (blk_below (g := gb205) (o := .cells #[.int .i64 (wrap64 (a0_0 + 1)), .slice Ao58 x206001_4.length co58, .slice Ao59 x206002_4.length co59] 24 (0, 0)) (rb_ BK205) hb)
                     have n6_ := Aside0.mk (below_step (by repeat (first | (with_reducible first | exact HB.out | apply below_alloc | apply pw_below_drewN | apply below_drew1 | refine below_set ?_ GE200.out | refine below_set ?_ GE201.out | refine below_set ?_ GE205.out) | exact HB.out)) hb)
                     clear HO_206001
                     clear HO_206002
                     clear BK200
                     clear BK201
                     clear BK205
                     clear HB
                     have HO_206001 := n0_
                     have HO_206002 := n1_
                     have HO219 := n2_
                     have BK200 := n3_
                     have BK201 := n4_
                     have BK205 := n5_
                     have HB := n6_
                     clear n0_ n1_ n2_ n3_ n4_ n5_ n6_
                     clear hb ho62
                     refine hK.out _ _ ⟨(blk_cell BK205.out 0).trans rfl, (blk_cell BK205.out 1).trans rfl, (blk_cell BK205.out 2).trans rfl⟩ (fun hHeld => ?_)
                     clear hK K
                     refine norm_ (a' := ?_) ?_ ?_
                     rotate_left
                     ·show Act.put _ (some 104) _ = _
                      (simp only [Act.put, List.setIfInBounds_toArray, List.set_cons_zero, List.set_cons_succ, i64_w, i32_w])
                      rfl
                     refine one_ (i := 3) (N := some 99) #[true, true, true, true, false, true, true, true, true, false, false, false, false, false] rfl rfl (one_of HT_.out (by kernel_rfl)) (by decide) (fun K hK => ?_)
                     refine Kd.R_lit_step (Kd.int .i64) _ 3 ?hg (N := 99) ?hd (xs := ([wrap64 ((rd l1 x8_4) + (rd l0_1 x8_4))] : List Int)) (inner := [.int .i64 (wrap64 ((rd l1 x8_4) + (rd l0_1 x8_4)))]) (ok := fun _ => True) (okp := fun _ => True) ?hr ?hp (fun _ hk => hk) trivial (Below.refl _ _) (Nat.le_refl _) (by simp) ?_; (case hd => rfl); (case hg => rfl); (case hr => first | (go_simp; done) | (go_simp; rfl)); (case hp => exact (Reps.one (show Kd.M (Kd.int .i64) _ _ _ (wrap64 ((rd l1 x8_4) + (rd l0_1 x8_4))) [.int .i64 (wrap64 ((rd l1 x8_4) + (rd l0_1 x8_4)))] from rfl) (Reps.none _ _)))
                     intro v212 w63 ho64 hb hg_ hnew_
                     clear hg_ hnew_
                     (first | rw [← Ny211.out] at ho64 | (simp only [Int.reduceToNat] at ho64; rw [← Ny211.out] at ho64))
                     have n0_ := Aside0.mk (Kd.R_elder' (rr_ HO_206001) (Kd.R_base ho64) hb)
                     have n1_ := Aside0.mk (Kd.R_elder' (rr_ HO_206002) (Kd.R_base ho64) hb)
                     have n2_ := Aside0.mk (Kd.R_elder' (rr_ HO219) (Kd.R_base ho64) hb)
                     have n3_ := Aside0.mk (Kd.R_lower (Kd.R_new' (Kd.R_new' (Kd.R_new' ho64 (Kd.R_lt (rr_ HO_206001))) (Kd.R_lt (rr_ HO_206002))) (Kd.R_lt (rr_ HO219))) (below_size (by repeat (first | (with_reducible first | exact HB.out | apply below_alloc | apply pw_below_drewN | apply below_drew1 | refine below_set ?_ GE200.out | refine below_set ?_ GE201.out | refine below_set ?_ GE205.out) | exact HB.out))))
                     have n4_ := Aside0.mk (blk_below (rb_ BK200) hb)
                     have n5_ := Aside0.mk (blk_below (rb_ BK201) hb)
                     have n6_ := Aside0.mk (blk_below (g := gb205) (o := .cells #[.int .i64 (wrap64 (a0_0 + 1)), .slice Ao58 x206001_4.length co58, .slice Ao59 x206002_4.length co59] 24 (0, 0)) (rb_ BK205) hb)
                     have n7_ := Aside0.mk (below_step (by repeat (first | (with_reducible first | exact HB.out | apply below_alloc | apply pw_below_drewN | apply below_drew1 | refine below_set ?_ GE200.out | refine below_set ?_ GE201.out | refine below_set ?_ GE205.out) | exact HB.out)) hb)
                     clear HO_206001
                     clear HO_206002
                     clear HO219
                     clear BK200
                     clear BK201
                     clear BK205
                     clear HB
                     have HO_206001 := n0_
                     have HO_206002 := n1_
                     have HO219 := n2_
                     have HO213 := n3_
                     have BK200 := n4_
                     have BK201 := n5_
                     have BK205 := n6_
                     have HB := n7_
                     clear n0_ n1_ n2_ n3_ n4_ n5_ n6_ n7_
                     clear hb ho64
                     obtain ⟨Ao66, co66, eo66⟩ := Kd.R_slice HO213.out
                     (first | subst eo66 | (injection eo66 with f1_ f2_ f3_; have f4_ := f1_.symm; have f5_ := f3_.symm; clear f1_ f2_ f3_; subst f4_; subst f5_))
                     refine hK.out _ _ ⟨(blk_cell BK205.out 0).trans rfl, (blk_cell BK205.out 1).trans rfl, (blk_cell BK205.out 2).trans rfl⟩ (fun hHeld => ?_)
                     clear hK K
                     refine norm_ (a' := ?_) ?_ ?_
                     rotate_left
                     ·show Act.put _ (some 99) _ = _
                      (simp only [Act.put, List.setIfInBounds_toArray, List.set_cons_zero, List.set_cons_succ, i64_w, i32_w])
                      rfl
                     refine one_ (i := 4) (N := some 100) #[true, true, true, true, true, true, true, true, true, false, false, false, false, false] rfl rfl (one_of HT_.out (by kernel_rfl)) (by decide) (fun K hK => ?_)
                     refine Kd.R_append_rows_step (Kd.int .i64) (w0 := w) w.heap.size (by rfl) (.tmp 97) (.tmp 99) 22 3 (.int .i64 0) 8 rfl Try.underlying22 info3 rfl (by decide) (by omega) (.slice Ao58 x206001_4.length co58) x206001_4 y211 _ _ _ (fun k_ => some k_ ≠ (.slice Ao59 x206002_4.length co59 : Value).ownBlock ∧ some k_ ≠ (v218 : Value).ownBlock ∧ some k_ ≠ (.slice Ao66 y211.length co66 : Value).ownBlock) (fun _ => False) rfl rfl ?aO ?aR (fun _ _ h => h) (fun _ h => h.elim) ?aF ?aB ?aS ?aL ?_
                     (case aR => exact rcr_ HO213)
                     (case aB => exact (by repeat (first | (with_reducible first | exact HB.out | apply below_alloc | apply pw_below_drewN | apply below_drew1 | refine below_set ?_ GE200.out | refine below_set ?_ GE201.out | refine below_set ?_ GE205.out) | exact HB.out)))
                     (case aF => exact (fun k_ hk => ⟨Kd.fresh' (Kd.R_lt (rr_ HO_206002)) k_ hk, Kd.fresh' (Kd.R_lt (rr_ HO219)) k_ hk, Kd.fresh' (Kd.R_lt (rr_ HO213)) k_ hk⟩))
                     (case aO => exact (by (with_reducible repeat (first | apply Kd.R_alloc | apply Kd.R_drewN | apply Kd.R_drew)); exact Kd.R_mono HO_206001.out (fun _ hk => ⟨hk.1.1, ⟨hk.1.2, hk.2⟩⟩)))
                     (case aS => exact (below_size (by repeat (first | (with_reducible first | exact HB.out | apply below_alloc | apply pw_below_drewN | apply below_drew1 | refine below_set ?_ GE200.out | refine below_set ?_ GE201.out | refine below_set ?_ GE205.out) | exact HB.out))))
                     (case aL => have := LMc51.out; first | omega | (simp only [List.length_take] at *; omega))
                     intro v215 w65 ho hb hg hat
                     rw [← Ny214.out] at ho
                     have n0_ := Aside0.mk (Kd.R_after (ok := (fun k_ => some k_ ≠ (v218 : Value).ownBlock ∧ some k_ ≠ (.slice Ao66 y211.length co66 : Value).ownBlock)) (by (with_reducible repeat (first | apply Kd.R_alloc | apply Kd.R_drewN | apply Kd.R_drew)); exact Kd.R_mono HO_206002.out (fun _ hk => ⟨⟨hk.1.2, hk.2⟩, hk.1.1⟩)) hg hat)
                     have n1_ := Aside0.mk (blk_grown (g := gb200) (o := .cells #[.int .i64 a0_0, .slice (some ad209) l0_1.length c0_1, .slice (some ad210) l0_2.length c0_2] 24 (0, 0)) (rb_ BK200) hg (Kd.R_ne HO_206001.out BK200.out (by decide)))
                     have n2_ := Aside0.mk (blk_grown (g := gb201) (o := .cells #[.int .i64 x202000_1, .slice none 0 0, .slice none 0 0] 24 (0, 0)) (rb_ BK201) hg (Kd.R_ne HO_206001.out BK201.out (by decide)))
                     have n3_ := Aside0.mk (blk_grown (g := gb205) (o := .cells #[.int .i64 (wrap64 (a0_0 + 1)), .slice Ao58 x206001_4.length co58, .slice Ao59 x206002_4.length co59] 24 (0, 0)) (rb_ BK205) hg (Kd.R_ne HO_206001.out BK205.out (by decide)))
                     have n4_ := Aside0.mk (Kd.R_after (ok := (fun k_ => some k_ ≠ (.slice Ao59 x206002_4.length co59 : Value).ownBlock ∧ some k_ ≠ (.slice Ao66 y211.length co66 : Value).ownBlock)) (by (with_reducible repeat (first | apply Kd.R_alloc | apply Kd.R_drewN | apply Kd.R_drew)); exact Kd.R_mono HO219.out (fun _ hk => ⟨⟨hk.1.2, hk.2⟩, hk.1.1.2⟩)) hg hat)
                     have n5_ := Aside0.mk (Kd.R_after (ok := (fun k_ => some k_ ≠ (.slice Ao59 x206002_4.length co59 : Value).ownBlock ∧ some k_ ≠ (v218 : Value).ownBlock)) (by (with_reducible repeat (first | apply Kd.R_alloc | apply Kd.R_drewN | apply Kd.R_drew)); exact Kd.R_mono HO213.out (fun _ hk => ⟨⟨hk.1.2, hk.2⟩, hk.1.1.2⟩)) hg hat)
                     have n6_ := Aside0.mk (hb)
                     have n7_ := Aside0.mk (ho)
                     clear HO_206002
                     clear BK200
                     clear BK201
                     clear BK205
                     clear HO219
                     clear HO213
                     clear HB
                     clear HO_206001
                     have HO_206002 := n0_
                     have BK200 := n1_
                     have BK201 := n2_
                     have BK205 := n3_
                     have HO219 := n4_
                     have HO213 := n5_
                     have HB := n6_
                     have HO216 := n7_
                     clear n0_ n1_ n2_ n3_ n4_ n5_ n6_ n7_
                     clear ho hb hg hat
                     refine hK.out _ _ ⟨(blk_cell BK205.out 0).trans rfl, (blk_cell BK205.out 1).trans rfl, (blk_cell BK205.out 2).trans rfl⟩ (fun hHeld => ?_)
                     clear hK K
                     refine norm_ (a' := ?_) ?_ ?_
                     rotate_left
                     ·show Act.put _ (some 100) _ = _
                      (simp only [Act.put, List.setIfInBounds_toArray, List.set_cons_zero, List.set_cons_succ, i64_w, i32_w])
                      rfl
                     refine pure_ (i := 10) (N := some 106) (v := ?_) (a' := ?_) #[true, true, true, true, true, true, true, true, true, false, true, false, false, false] rfl rfl (any_of HT_.out (by kernel_rfl)) (fun _ _ _ h => h) (Or.inl ⟨by rfl, ?_⟩) ?_ ?_
                     rotate_left
                     ·intro w'
                      go_simp
                      with_reducible rfl
                     rotate_left
                     ·(simp only [Act.put, List.setIfInBounds_toArray, List.set_cons_zero, List.set_cons_succ, i64_w, i32_w])
                      rfl
                     exact norm_ (by simp only [putAll, Act.put, List.setIfInBounds_toArray, List.set_cons_zero, List.set_cons_succ]) (hCont (.slice Ao66 y211.length co66, v215, v218) _ ⟨hHeld, (by (with_reducible repeat (first | apply Kd.R_alloc | apply Kd.R_drewN | apply Kd.R_drew)); exact Kd.R_mono HO213.out (fun _ hk => ⟨hk.2, ⟨hk.1.2, hk.1.1⟩⟩)), (by (with_reducible repeat (first | apply Kd.R_alloc | apply Kd.R_drewN | apply Kd.R_drew)); exact Kd.R_mono HO216.out (fun _ hk => ⟨hk.2.2, ⟨hk.2.1, hk.1⟩⟩)), (by (with_reducible repeat (first | apply Kd.R_alloc | apply Kd.R_drewN | apply Kd.R_drew)); exact Kd.R_mono HO219.out (fun _ hk => ⟨hk.1.2, ⟨hk.2, hk.1.1⟩⟩)), (by (with_reducible repeat (first | apply Kd.R_alloc | apply Kd.R_drewN | apply Kd.R_drew)); exact Kd.R_mono HO_206002.out (fun _ hk => ⟨hk.1.2, ⟨hk.2, hk.1.1⟩⟩)), (rb_ BK200), (rb_ BK201), (rb_ BK205), (by repeat (first | (with_reducible first | exact HB.out | apply below_alloc | apply pw_below_drewN | apply below_drew1 | refine below_set ?_ GE200.out | refine below_set ?_ GE201.out | refine below_set ?_ GE205.out) | exact HB.out))⟩)
                   rintro ⟨v212, v215, v218⟩ w67 ⟨hS_, h0_, h1_, h2_, h3_, h4_, h5_, h6_, h7_⟩
                   have n0_ : Aside0 (Kd.R (Kd.int .i64) 3 w67 w.heap.size (fun k_ => some k_ ≠ (v215 : Value).ownBlock ∧ some k_ ≠ (v218 : Value).ownBlock ∧ some k_ ≠ (.slice Ao59 x206002_4.length co59 : Value).ownBlock) v212 y211) := ⟨h0_⟩
                   have n1_ : Aside0 (Kd.R (Kd.int .i64) 3 w67 w.heap.size (fun k_ => some k_ ≠ (v212 : Value).ownBlock ∧ some k_ ≠ (v218 : Value).ownBlock ∧ some k_ ≠ (.slice Ao59 x206002_4.length co59 : Value).ownBlock) v215 y214) := ⟨h1_⟩
                   have n2_ : Aside0 (Kd.R (Kd.int .i64) 3 w67 w.heap.size (fun k_ => some k_ ≠ (v212 : Value).ownBlock ∧ some k_ ≠ (v215 : Value).ownBlock ∧ some k_ ≠ (.slice Ao59 x206002_4.length co59 : Value).ownBlock) v218 y217) := ⟨h2_⟩
                   have n3_ : Aside0 (Kd.R (Kd.int .i64) 3 w67 w.heap.size (fun k_ => some k_ ≠ (v212 : Value).ownBlock ∧ some k_ ≠ (v215 : Value).ownBlock ∧ some k_ ≠ (v218 : Value).ownBlock) (.slice Ao59 x206002_4.length co59) x206002_4) := ⟨h3_⟩
                   have n4_ : Aside0 (w67.heap[gb200]? = some (.cells #[.int .i64 a0_0, .slice (some ad209) l0_1.length c0_1, .slice (some ad210) l0_2.length c0_2] 24 (0, 0))) := ⟨h4_⟩
                   have n5_ : Aside0 (w67.heap[gb201]? = some (.cells #[.int .i64 x202000_1, .slice none 0 0, .slice none 0 0] 24 (0, 0))) := ⟨h5_⟩
                   have n6_ : Aside0 (w67.heap[gb205]? = some (.cells #[.int .i64 (wrap64 (a0_0 + 1)), .slice Ao58 x206001_4.length co58, .slice Ao59 x206002_4.length co59] 24 (0, 0))) := ⟨h6_⟩
                   have n7_ : Aside0 (Below w.heap.size w w67) := ⟨h7_⟩
                   clear HO_206001
                   clear HO_206002
                   clear BK200
                   clear BK201
                   clear BK205
                   clear HB
                   clear h0_ h1_ h2_ h3_ h4_ h5_ h6_ h7_
                   have HO213 := n0_
                   have HO216 := n1_
                   have HO219 := n2_
                   have HO_206002 := n3_
                   have BK200 := n4_
                   have BK201 := n5_
                   have BK205 := n6_
                   have HB := n7_
                   clear n0_ n1_ n2_ n3_ n4_ n5_ n6_ n7_
                   have hHeld : w67.cell? ⟨gb205, 0, none⟩ = some (.int .i64 (wrap64 (a0_0 + 1))) ∧ w67.cell? ⟨gb205, 1, none⟩ = some (.slice Ao58 x206001_4.length co58) ∧ w67.cell? ⟨gb205, 2, none⟩ = some (.slice Ao59 x206002_4.length co59) := hS_
                   obtain ⟨Ao69, co69, eo69⟩ := Kd.R_slice HO219.out
                   (first | subst eo69 | (injection eo69 with f1_ f2_ f3_; have f4_ := f1_.symm; have f5_ := f3_.symm; clear f1_ f2_ f3_; subst f4_; subst f5_))
                   refine norm_ (a' := ?_) ?_ ?_
                   rotate_left
                   ·simp only [putAll, Act.put, List.setIfInBounds_toArray, List.set_cons_zero, List.set_cons_succ]
                    rfl
                   refine one_ (i := 9) (N := some 105) #[true, true, true, true, true, true, true, true, true, true, true, false, false, false] rfl rfl (one_of HT_.out (by kernel_rfl)) (by decide) (fun K hK => ?_)
                   refine Kd.R_append_rows_step (Kd.int .i64) (w0 := w) w.heap.size (by rfl) (.tmp 102) (.tmp 104) 22 3 (.int .i64 0) 8 rfl Try.underlying22 info3 rfl (by decide) (by omega) (.slice Ao59 x206002_4.length co59) x206002_4 y217 _ _ _ (fun k_ => some k_ ≠ (v212 : Value).ownBlock ∧ some k_ ≠ (v215 : Value).ownBlock ∧ some k_ ≠ (.slice Ao69 y217.length co69 : Value).ownBlock) (fun _ => False) rfl rfl ?aO ?aR (fun _ _ h => h) (fun _ h => h.elim) ?aF ?aB ?aS ?aL ?_
                   (case aR => exact rcr_ HO219)
                   (case aB => exact (by repeat (first | (with_reducible first | exact HB.out | apply below_alloc | apply pw_below_drewN | apply below_drew1 | refine below_set ?_ GE200.out | refine below_set ?_ GE201.out | refine below_set ?_ GE205.out) | exact HB.out)))
                   (case aF => exact (fun k_ hk => ⟨Kd.fresh' (Kd.R_lt (rr_ HO213)) k_ hk, Kd.fresh' (Kd.R_lt (rr_ HO216)) k_ hk, Kd.fresh' (Kd.R_lt (rr_ HO219)) k_ hk⟩))
                   (case aO => exact (rr_ HO_206002))
                   (case aS => exact (below_size (by repeat (first | (with_reducible first | exact HB.out | apply below_alloc | apply pw_below_drewN | apply below_drew1 | refine below_set ?_ GE200.out | refine below_set ?_ GE201.out | refine below_set ?_ GE205.out) | exact HB.out))))
                   (case aL => have := LMc52.out; first | omega | (simp only [List.length_take] at *; omega))
                   intro v221 w68 ho hb hg hat
                   rw [← Ny220.out] at ho
                   have n0_ := Aside0.mk (blk_grown (g := gb200) (o := .cells #[.int .i64 a0_0, .slice (some ad209) l0_1.length c0_1, .slice (some ad210) l0_2.length c0_2] 24 (0, 0)) (rb_ BK200) hg (Kd.R_ne HO_206002.out BK200.out (by decide)))
                   have n1_ := Aside0.mk (blk_grown (g := gb201) (o := .cells #[.int .i64 x202000_1, .slice none 0 0, .slice none 0 0] 24 (0, 0)) (rb_ BK201) hg (Kd.R_ne HO_206002.out BK201.out (by decide)))
                   have n2_ := Aside0.mk (blk_grown (g := gb205) (o := .cells #[.int .i64 (wrap64 (a0_0 + 1)), .slice Ao58 x206001_4.length co58, .slice Ao59 x206002_4.length co59] 24 (0, 0)) (rb_ BK205) hg (Kd.R_ne HO_206002.out BK205.out (by decide)))
                   have n3_ := Aside0.mk (Kd.R_after (ok := (fun k_ => some k_ ≠ (v215 : Value).ownBlock ∧ some k_ ≠ (.slice Ao69 y217.length co69 : Value).ownBlock)) (by (with_reducible repeat (first | apply Kd.R_alloc | apply Kd.R_drewN | apply Kd.R_drew)); exact Kd.R_mono HO213.out (fun _ hk => ⟨⟨hk.1, hk.2.1⟩, hk.2.2⟩)) hg hat)
                   have n4_ := Aside0.mk (Kd.R_after (ok := (fun k_ => some k_ ≠ (v212 : Value).ownBlock ∧ some k_ ≠ (.slice Ao69 y217.length co69 : Value).ownBlock)) (by (with_reducible repeat (first | apply Kd.R_alloc | apply Kd.R_drewN | apply Kd.R_drew)); exact Kd.R_mono HO216.out (fun _ hk => ⟨⟨hk.1, hk.2.1⟩, hk.2.2⟩)) hg hat)
                   have n5_ := Aside0.mk (Kd.R_after (ok := (fun k_ => some k_ ≠ (v212 : Value).ownBlock ∧ some k_ ≠ (v215 : Value).ownBlock)) (by (with_reducible repeat (first | apply Kd.R_alloc | apply Kd.R_drewN | apply Kd.R_drew)); exact Kd.R_mono HO219.out (fun _ hk => ⟨⟨hk.1, hk.2.1⟩, hk.2.2⟩)) hg hat)
                   have n6_ := Aside0.mk (hb)
                   have n7_ := Aside0.mk (ho)
                   clear BK200
                   clear BK201
                   clear BK205
                   clear HO213
                   clear HO216
                   clear HO219
                   clear HB
                   clear HO_206002
                   have BK200 := n0_
                   have BK201 := n1_
                   have BK205 := n2_
                   have HO213 := n3_
                   have HO216 := n4_
                   have HO219 := n5_
                   have HB := n6_
                   have HO222 := n7_
                   clear n0_ n1_ n2_ n3_ n4_ n5_ n6_ n7_
                   clear ho hb hg hat
                   obtain ⟨Ao70, co70, eo70⟩ := Kd.R_slice HO216.out
                   (first | subst eo70 | (injection eo70 with f1_ f2_ f3_; have f4_ := f1_.symm; have f5_ := f3_.symm; clear f1_ f2_ f3_; subst f4_; subst f5_))
                   obtain ⟨Ao72, co72, eo72⟩ := Kd.R_slice HO222.out
                   (first | subst eo72 | (injection eo72 with f1_ f2_ f3_; have f4_ := f1_.symm; have f5_ := f3_.symm; clear f1_ f2_ f3_; subst f4_; subst f5_))
                   refine hK.out _ _ ⟨(blk_cell BK205.out 0).trans rfl, (blk_cell BK205.out 1).trans rfl, (blk_cell BK205.out 2).trans rfl⟩ (fun hHeld => ?_)
                   clear hK K
                   refine norm_ (a' := ?_) ?_ ?_
                   rotate_left
                   ·show Act.put _ (some 105) _ = _
                    (simp only [Act.put, List.setIfInBounds_toArray, List.set_cons_zero, List.set_cons_succ, i64_w, i32_w])
                    rfl
                   refine last_ (i := 11) (N := none) #[true, true, true, true, true, true, true, true, true, true, true, true, false, false] rfl rfl (one_of HT_.out (by kernel_rfl)) (by decide) (fun K hK => ?_)
                   have hs71 : w68.cell? ⟨gb205, 1, none⟩ = some (.slice Ao58 x206001_4.length co58) := (blk_cell BK205.out 1).trans rfl
                   have hfs71 := blk_frozen BK205.out 1
                   have hns71_0 := NB200_205.out
                   have hns71_1 := NB201_205.out
                   have hms71_0 := NB205_200.out
                   have hms71_1 := NB205_201.out
                   refine skip_ (w1 := ?_) (by rfl) rfl ?_ ?_
                   rotate_left
                   ·go_simp
                    rfl
                   refine hK.out _ _ ?_
                   clear hK K
                   refine pure_ (i := 12) (N := some 107) (v := ?_) (a' := ?_) #[true, true, true, true, true, true, true, true, true, true, true, true, true, false] rfl rfl (any_of HT_.out (by kernel_rfl)) (fun _ _ _ h => h) (Or.inl ⟨by rfl, ?_⟩) ?_ ?_
                   rotate_left
                   ·intro w'
                    go_simp
                    with_reducible rfl
                   rotate_left
                   ·(simp only [Act.put, List.setIfInBounds_toArray, List.set_cons_zero, List.set_cons_succ, i64_w, i32_w])
                    rfl
                   refine last_ (i := 13) (N := none) #[true, true, true, true, true, true, true, true, true, true, true, true, true, true] rfl rfl (one_of HT_.out (by kernel_rfl)) (by decide) (fun K hK => ?_)
                   have hs73 : w68.cell? ⟨gb205, 2, none⟩ = some (.slice Ao59 x206002_4.length co59) := (blk_cell BK205.out 2).trans rfl
                   have hfs73 := blk_frozen BK205.out 2
                   have hns73_0 := NB200_205.out
                   have hns73_1 := NB201_205.out
                   have hms73_0 := NB205_200.out
                   have hms73_1 := NB205_201.out
                   refine skip_ (w1 := ?_) (by rfl) rfl ?_ ?_
                   rotate_left
                   ·go_simp
                    rfl
                   refine hK.out _ _ ?_
                   clear hK K
                   refine done_ (done_of HT_.out (by kernel_rfl)) ?_
                   try go_wp2
                   go_roundg k4
                   case measure => have := HK1.out; have := HJ12.out; have := HJ30.out; have := HK4.out; omega
                   case rel => exact ⟨(wrap64 (x8_4 + 1)), (y214), (y220), (.slice Ao70 y214.length co70), (.slice Ao72 y220.length co72), (by first | rfl | (simp; done) | (simp [*]; done) | (simp; omega)), H', ⟨by have := HK1.out; have := HJ12.out; have := HJ30.out; have := HK4.out; omega⟩, ⟨by (with_reducible repeat (first | apply Kd.R_alloc | apply Kd.R_drewN | apply Kd.R_drew)); exact Kd.R_mono (Kd.R_far (p := ⟨gb205, 2, none⟩) (Kd.R_far (p := ⟨gb205, 1, none⟩) (Kd.R_types HO216.out BK205.out (by decide)) (fun _ hk => hk.2) (.slice Ao70 y214.length co70)) (fun _ hk => hk.2) (.slice Ao72 y220.length co72)) (fun _ hk => hk.1.2)⟩, ⟨by (with_reducible repeat (first | apply Kd.R_alloc | apply Kd.R_drewN | apply Kd.R_drew)); exact Kd.R_mono (Kd.R_far (p := ⟨gb205, 2, none⟩) (Kd.R_far (p := ⟨gb205, 1, none⟩) (Kd.R_types HO222.out BK205.out (by decide)) (fun _ hk => hk.2) (.slice Ao70 y214.length co70)) (fun _ hk => hk.2) (.slice Ao72 y220.length co72)) (fun _ hk => hk.1.2.1)⟩, ⟨by (with_reducible repeat (first | refine blk_drewN ?_ _ | refine blk_drew ?_ | refine blk_alloc ?_ _)); refine blk_far ?_ NB200_205.out _; (with_reducible repeat (first | refine blk_drewN ?_ _ | refine blk_drew ?_ | refine blk_alloc ?_ _)); refine blk_far ?_ NB200_205.out _; (with_reducible repeat (first | refine blk_drewN ?_ _ | refine blk_drew ?_ | refine blk_alloc ?_ _)); exact BK200.out⟩, ⟨by (with_reducible repeat (first | refine blk_drewN ?_ _ | refine blk_drew ?_ | refine blk_alloc ?_ _)); refine blk_far ?_ NB201_205.out _; (with_reducible repeat (first | refine blk_drewN ?_ _ | refine blk_drew ?_ | refine blk_alloc ?_ _)); refine blk_far ?_ NB201_205.out _; (with_reducible repeat (first | refine blk_drewN ?_ _ | refine blk_drew ?_ | refine blk_alloc ?_ _)); exact BK201.out⟩, ⟨by (with_reducible repeat (first | refine blk_drewN ?_ _ | refine blk_drew ?_ | refine blk_alloc ?_ _)); refine blk_put (cs := #[.int .i64 (wrap64 (a0_0 + 1)), .slice Ao70 y214.length co70, .slice Ao59 x206002_4.length co59]) ?_ 2 _ rfl; (with_reducible repeat (first | refine blk_drewN ?_ _ | refine blk_drew ?_ | refine blk_alloc ?_ _)); refine blk_put (cs := #[.int .i64 (wrap64 (a0_0 + 1)), .slice Ao58 x206001_4.length co58, .slice Ao59 x206002_4.length co59]) ?_ 1 _ rfl; (with_reducible repeat (first | refine blk_drewN ?_ _ | refine blk_drew ?_ | refine blk_alloc ?_ _)); exact BK205.out⟩, ⟨by repeat (first | (with_reducible first | exact HB.out | apply below_alloc | apply pw_below_drewN | apply below_drew1 | refine below_set ?_ GE200.out | refine below_set ?_ GE201.out | refine below_set ?_ GE205.out) | exact HB.out)⟩⟩
                  ·rw [if_neg c52] at H
                   exact absurd H (by simp)
                 ·rw [if_neg c51] at H
                  exact absurd H (by simp)
                ·rw [if_neg c50] at H
                 exact absurd H (by simp)
               ·rw [if_neg c49] at H
                exact absurd H (by simp)
              ·rw [if_neg c48] at H
               have c48b0 : decide (0 < a0_0) = false := decide_eq_false c48
               clear c48
               obtain ⟨y223, hy223⟩ : ∃ y_ : List Int, y_ = (([rd l1 x8_4] : List Int)) := ⟨_, rfl⟩
               replace H : (if x206001_4.length + y223.length < 17592186044416 then ((some (([wrap64 ((rd l1 x8_4) * (rd l1 x8_4))] : List Int) : List Int)).bind fun y229 => (if x206002_4.length + y229.length < 17592186044416 then (bautaref39_Add.l1 k4 l1 (wrap64 (x8_4 + 1)) a0_0 l0_1 l0_2 (wrap64 (a0_0 + 1)) (x206001_4 ++ y223) (x206002_4 ++ y229)) else (none))) else (none)) = some (r1, r2, r3, r4) := by first | (rw [hy223]; with_reducible exact H) | (have H2_ := (Option.bind_some _ _).symm.trans H; rw [hy223]; with_reducible exact H2_) | (have H2_ := (Option.bind_some _ _).symm.trans H; with_reducible exact H2_) | with_reducible exact H | (rw [hy223]; exact H) | exact H
               have Ny223 := Aside0.mk hy223
               clear hy223
               by_cases c74 : x206001_4.length + y223.length < 17592186044416
               ·rw [if_pos c74] at H
                have LMc74 := Aside0.mk c74
                clear c74
                obtain ⟨y226, hy226⟩ : ∃ y_ : List Int, y_ = (x206001_4 ++ y223) := ⟨_, rfl⟩
                replace H : ((some (([wrap64 ((rd l1 x8_4) * (rd l1 x8_4))] : List Int) : List Int)).bind fun y229 => (if x206002_4.length + y229.length < 17592186044416 then (bautaref39_Add.l1 k4 l1 (wrap64 (x8_4 + 1)) a0_0 l0_1 l0_2 (wrap64 (a0_0 + 1)) y226 (x206002_4 ++ y229)) else (none))) = some (r1, r2, r3, r4) := by first | (rw [hy226]; with_reducible exact H) | (have H2_ := (Option.bind_some _ _).symm.trans H; rw [hy226]; with_reducible exact H2_) | (have H2_ := (Option.bind_some _ _).symm.trans H; with_reducible exact H2_) | with_reducible exact H | (rw [hy226]; exact H) | exact H
                have Ny226 := Aside0.mk hy226
                clear hy226
                obtain ⟨y229, hy229⟩ : ∃ y_ : List Int, y_ = (([wrap64 ((rd l1 x8_4) * (rd l1 x8_4))] : List Int)) := ⟨_, rfl⟩
                replace H : (if x206002_4.length + y229.length < 17592186044416 then (bautaref39_Add.l1 k4 l1 (wrap64 (x8_4 + 1)) a0_0 l0_1 l0_2 (wrap64 (a0_0 + 1)) y226 (x206002_4 ++ y229)) else (none)) = some (r1, r2, r3, r4) := by first | (rw [hy229]; with_reducible exact H) | (have H2_ := (Option.bind_some _ _).symm.trans H; rw [hy229]; with_reducible exact H2_) | (have H2_ := (Option.bind_some _ _).symm.trans H; with_reducible exact H2_) | with_reducible exact H | (rw [hy229]; exact H) | exact H
                have Ny229 := Aside0.mk hy229
                clear hy229
                by_cases c75 : x206002_4.length + y229.length < 17592186044416
                ·rw [if_pos c75] at H
                 have LMc75 := Aside0.mk c75
                 clear c75
                 obtain ⟨y232, hy232⟩ : ∃ y_ : List Int, y_ = (x206002_4 ++ y229) := ⟨_, rfl⟩
                 replace H : (bautaref39_Add.l1 k4 l1 (wrap64 (x8_4 + 1)) a0_0 l0_1 l0_2 (wrap64 (a0_0 + 1)) y226 y232) = some (r1, r2, r3, r4) := by first | (rw [hy232]; with_reducible exact H) | (have H2_ := (Option.bind_some _ _).symm.trans H; rw [hy232]; with_reducible exact H2_) | (have H2_ := (Option.bind_some _ _).symm.trans H; with_reducible exact H2_) | with_reducible exact H | (rw [hy232]; exact H) | exact H
                 have Ny232 := Aside0.mk hy232
                 clear hy232
                 have H' := Aside0.mk H
                 clear H
                 try go_wp2
                 have n0_ := Aside0.mk (Kd.R_drew HO_206001.out)
                 have n1_ := Aside0.mk (Kd.R_drew HO_206002.out)
                 have n2_ := Aside0.mk (blk_drew BK200.out)
                 have n3_ := Aside0.mk (blk_drew BK201.out)
                 have n4_ := Aside0.mk (blk_drew BK205.out)
                 have n5_ := Aside0.mk (below_drew1 HB.out)
                 clear HO_206001
                 clear HO_206002
                 clear BK200
                 clear BK201
                 clear BK205
                 clear HB
                 have HO_206001 := n0_
                 have HO_206002 := n1_
                 have BK200 := n2_
                 have BK201 := n3_
                 have BK205 := n4_
                 have HB := n5_
                 clear n0_ n1_ n2_ n3_ n4_ n5_
                 have p206 : 0 ≤ (x8_4 : Int) := of_decide_eq_true (by first | (with_reducible assumption) | assumption)
                 have q206 : x8_4 < (l1.length : Int) := of_decide_eq_true (by first | (with_reducible assumption) | assumption)
                 obtain ⟨ad206, e206, hx206_0⟩ := Kd.at_int HR1.out x8_4 p206 q206
                 have hw206_0 := hx206_0
                 cases e206
                 replace hx206_0 := (HB.out.cell (World.block_lt_of_cell? w _ hx206_0)).trans hx206_0
                 replace p206 := eq_true p206
                 replace q206 := eq_true q206
                 have p207 : 0 ≤ (x8_4 : Int) := of_decide_eq_true (by first | (with_reducible assumption) | assumption)
                 have q207 : x8_4 < (l1.length : Int) := of_decide_eq_true (by first | (with_reducible assumption) | assumption)
                 obtain ⟨ad207, e207, hx207_0⟩ := Kd.at_int HR1.out x8_4 p207 q207
                 have hw207_0 := hx207_0
                 obtain rfl : ad206 = ad207 := (by injection e207)
                 replace hx207_0 := (HB.out.cell (World.block_lt_of_cell? w _ hx207_0)).trans hx207_0
                 replace p207 := eq_true p207
                 replace q207 := eq_true q207
                 have p208 : 0 ≤ (x8_4 : Int) := of_decide_eq_true (by first | (with_reducible assumption) | assumption)
                 have q208 : x8_4 < (l1.length : Int) := of_decide_eq_true (by first | (with_reducible assumption) | assumption)
                 obtain ⟨ad208, e208, hx208_0⟩ := Kd.at_int HR1.out x8_4 p208 q208
                 have hw208_0 := hx208_0
                 obtain rfl : ad206 = ad208 := (by injection e208)
                 replace hx208_0 := (HB.out.cell (World.block_lt_of_cell? w _ hx208_0)).trans hx208_0
                 replace p208 := eq_true p208
                 replace q208 := eq_true q208
                 refine start_ (n := 15) (S := fun w' => w'.cell? (ad206.add (x8_4).toNat) = some (.int .i64 (rd l1 x8_4)) ∧ w'.cell? (ad206.add (x8_4).toNat) = some (.int .i64 (rd l1 x8_4)) ∧ w'.cell? (ad206.add (x8_4).toNat) = some (.int .i64 (rd l1 x8_4))) (ds := []) #[false, false, false, false, false, false, false, false, false, false, false, false, false, false, false] (by kernel_rfl) rfl rfl ⟨((HB.out.cell (World.block_lt_of_cell? w _ hw206_0)).trans hw206_0), ((HB.out.cell (World.block_lt_of_cell? w _ hw207_0)).trans hw207_0), ((HB.out.cell (World.block_lt_of_cell? w _ hw208_0)).trans hw208_0)⟩ (fun hHeld => ?_); refine with_tabW bautaref39_Add.tab14 bautaref39_Add.bits14 (fun HT_ HW_ => ?_)
                 generalize wr.drew = w76 at HO_206001 HO_206002 BK200 BK201 BK205 HB hx206_0 hx207_0 hx208_0 hHeld ⊢
                 refine pure_ (i := 0) (N := some 66) (v := ?_) (a' := ?_) #[true, false, false, false, false, false, false, false, false, false, false, false, false, false, false] rfl rfl (any_of HT_.out (by kernel_rfl)) (fun _ _ _ h => h) (Or.inl ⟨by rfl, ?_⟩) ?_ ?_
                 rotate_left
                 ·intro w'
                  go_simp
                  with_reducible rfl
                 rotate_left
                 ·(simp only [Act.put, List.setIfInBounds_toArray, List.set_cons_zero, List.set_cons_succ, i64_w, i32_w])
                  rfl
                 refine pure_ (i := 1) (N := some 67) (v := ?_) (a' := ?_) #[true, true, false, false, false, false, false, false, false, false, false, false, false, false, false] rfl rfl (any_of HT_.out (by kernel_rfl)) (fun _ _ _ h => h) (Or.inl ⟨by rfl, ?_⟩) ?_ ?_
                 rotate_left
                 ·intro w'
                  go_simp
                  with_reducible rfl
                 rotate_left
                 ·(simp only [Act.put, List.setIfInBounds_toArray, List.set_cons_zero, List.set_cons_succ, i64_w, i32_w])
                  rfl
                 refine pure_ (i := 2) (N := some 68) (v := ?_) (a' := ?_) #[true, true, true, false, false, false, false, false, false, false, false, false, false, false, false] rfl rfl (any_of HT_.out (by kernel_rfl)) (fun _ _ _ h => h) (Or.inl ⟨by rfl, ?_⟩) ?_ ?_
                 rotate_left
                 ·intro w'
                  go_simp
                  with_reducible rfl
                 rotate_left
                 ·(simp only [Act.put, List.setIfInBounds_toArray, List.set_cons_zero, List.set_cons_succ, i64_w, i32_w])
                  rfl
                 refine pure_ (i := 4) (N := some 70) (v := ?_) (a' := ?_) #[true, true, true, false, true, false, false, false, false, false, false, false, false, false, false] rfl rfl (any_of HT_.out (by kernel_rfl)) (fun _ _ _ h => h) (Or.inl ⟨by rfl, ?_⟩) ?_ ?_
                 rotate_left
                 ·intro w'
                  go_simp
                  with_reducible rfl
                 rotate_left
                 ·(simp only [Act.put, List.setIfInBounds_toArray, List.set_cons_zero, List.set_cons_succ, i64_w, i32_w])
                  rfl
                 refine pure_ (i := 5) (N := some 71) (v := ?_) (a' := ?_) #[true, true, true, false, true, true, false, false, false, false, false, false, false, false, false] rfl rfl (any_of HT_.out (by kernel_rfl)) (fun _ _ _ h => h) (Or.inl ⟨by rfl, ?_⟩) ?_ ?_
                 rotate_left
                 ·intro w'
                  go_simp
                  with_reducible rfl
                 rotate_left
                 ·(simp only [Act.put, List.setIfInBounds_toArray, List.set_cons_zero, List.set_cons_succ, i64_w, i32_w])
                  rfl
                 refine pure_ (i := 6) (N := some 72) (v := ?_) (a' := ?_) #[true, true, true, false, true, true, true, false, false, false, false, false, false, false, false] rfl rfl (any_of HT_.out (by kernel_rfl)) (fun _ _ _ h => h) (Or.inl ⟨by rfl, ?_⟩) ?_ ?_
                 rotate_left
                 ·intro w'
                  go_simp
                  with_reducible rfl
                 rotate_left
                 ·(simp only [Act.put, List.setIfInBounds_toArray, List.set_cons_zero, List.set_cons_succ, i64_w, i32_w])
                  rfl
                 refine pure_ (i := 8) (N := some 74) (v := ?_) (a' := ?_) #[true, true, true, false, true, true, true, false, true, false, false, false, false, false, false] rfl rfl (any_of HT_.out (by kernel_rfl)) (fun _ _ _ h => h) (Or.inl ⟨by rfl, ?_⟩) ?_ ?_
                 rotate_left
                 ·intro w'
                  go_simp
                  with_reducible rfl
                 rotate_left
                 ·(simp only [Act.put, List.setIfInBounds_toArray, List.set_cons_zero, List.set_cons_succ, i64_w, i32_w])
                  rfl
                 refine pure_ (i := 9) (N := some 75) (v := ?_) (a' := ?_) #[true, true, true, false, true, true, true, false, true, true, false, false, false, false, false] rfl rfl (any_of HT_.out (by kernel_rfl)) (fun _ _ _ h => h) (Or.inl ⟨by rfl, ?_⟩) ?_ ?_
                 rotate_left
                 ·intro w'
                  go_simp
                  with_reducible rfl
                 rotate_left
                 ·(simp only [Act.put, List.setIfInBounds_toArray, List.set_cons_zero, List.set_cons_succ, i64_w, i32_w])
                  rfl
                 refine pure_ (i := 10) (N := some 76) (v := ?_) (a' := ?_) #[true, true, true, false, true, true, true, false, true, true, true, false, false, false, false] rfl rfl (any_of HT_.out (by kernel_rfl)) (fun _ _ _ h => h) (Or.inl ⟨by rfl, ?_⟩) ?_ ?_
                 rotate_left
                 ·intro w'
                  go_simp
                  with_reducible rfl
                 rotate_left
                 ·(simp only [Act.put, List.setIfInBounds_toArray, List.set_cons_zero, List.set_cons_succ, i64_w, i32_w])
                  rfl
                 refine take_ (i := 3) (N := some 69) (v := ?_) (a' := ?_) #[true, true, true, true, true, true, true, false, true, true, true, false, false, false, false] rfl rfl (take_ofW HT_.out HW_.out (by kernel_rfl)) (fun _ _ _ h => h) (Or.inl ⟨by rfl, ?_⟩) hHeld ?_ ?_
                 rotate_left
                 ·rintro w' ⟨s0, s1, s2⟩
                  go_simp
                  with_reducible rfl
                 rotate_left
                 ·(simp only [Act.put, List.setIfInBounds_toArray, List.set_cons_zero, List.set_cons_succ, i64_w, i32_w])
                  rfl
                 refine pure_ (i := 13) (N := some 9) (v := ?_) (a' := ?_) #[true, true, true, true, true, true, true, false, true, true, true, false, false, true, false] rfl rfl (any_of HT_.out (by kernel_rfl)) (fun _ _ _ h => h) (Or.inl ⟨by rfl, ?_⟩) ?_ ?_
                 rotate_left
                 ·intro w'
                  go_simp
                  with_reducible rfl
                 rotate_left
                 ·(simp only [Act.put, List.setIfInBounds_toArray, List.set_cons_zero, List.set_cons_succ, i64_w, i32_w])
                  rfl
                 refine take_ (i := 7) (N := some 73) (v := ?_) (a' := ?_) #[true, true, true, true, true, true, true, true, true, true, true, false, false, true, false] rfl rfl (take_ofW HT_.out HW_.out (by kernel_rfl)) (fun _ _ _ h => h) (Or.inl ⟨by rfl, ?_⟩) hHeld ?_ ?_
                 rotate_left
                 ·rintro w' ⟨s0, s1, s2⟩
                  go_simp
                  with_reducible rfl
                 rotate_left
                 ·(simp only [Act.put, List.setIfInBounds_toArray, List.set_cons_zero, List.set_cons_succ, i64_w, i32_w])
                  rfl
                 refine take_ (i := 11) (N := some 77) (v := ?_) (a' := ?_) #[true, true, true, true, true, true, true, true, true, true, true, true, false, true, false] rfl rfl (take_ofW HT_.out HW_.out (by kernel_rfl)) (fun _ _ _ h => h) (Or.inl ⟨by rfl, ?_⟩) hHeld ?_ ?_
                 rotate_left
                 ·rintro w' ⟨s0, s1, s2⟩
                  go_simp
                  with_reducible rfl
                 rotate_left
                 ·(simp only [Act.put, List.setIfInBounds_toArray, List.set_cons_zero, List.set_cons_succ, i64_w, i32_w])
                  rfl
                 refine pure_ (i := 12) (N := some 78) (v := ?_) (a' := ?_) #[true, true, true, true, true, true, true, true, true, true, true, true, true, true, false] rfl rfl (any_of HT_.out (by kernel_rfl)) (fun _ _ _ h => h) (Or.inl ⟨by rfl, ?_⟩) ?_ ?_
                 rotate_left
                 ·intro w'
                  go_simp
                  with_reducible rfl
                 rotate_left
                 ·(simp only [Act.put, List.setIfInBounds_toArray, List.set_cons_zero, List.set_cons_succ, i64_w, i32_w])
                  rfl
                 refine pure_ (i := 14) (N := some 10) (v := ?_) (a' := ?_) #[true, true, true, true, true, true, true, true, true, true, true, true, true, true, true] rfl rfl (any_of HT_.out (by kernel_rfl)) (fun _ _ _ h => h) (Or.inl ⟨by rfl, ?_⟩) ?_ ?_
                 rotate_left
                 ·intro w'
                  go_simp
                  with_reducible rfl
                 rotate_left
                 ·(simp only [Act.put, List.setIfInBounds_toArray, List.set_cons_zero, List.set_cons_succ, i64_w, i32_w])
                  rfl
                 refine done_ (done_of HT_.out (by kernel_rfl)) ?_
                 have hnb77 := NB200_201.out
                 have hnc77 := NB201_200.out
                 have hnb78 := NB200_205.out
                 have hnc78 := NB205_200.out
                 have hcz79_0 : w76.cell? ⟨gb200, 0, none⟩ = some (.int .i64 a0_0) := (blk_cell BK200.out 0).trans rfl
                 have hcz79_1 : w76.cell? ⟨gb200, 1, none⟩ = some (.slice A0_1 l0_1.length c0_1) := (blk_cell BK200.out 1).trans rfl
                 have hcz79_2 : w76.cell? ⟨gb200, 2, none⟩ = some (.slice A0_2 l0_2.length c0_2) := (blk_cell BK200.out 2).trans rfl
                 have hfz79_0 := blk_frozen BK200.out 0
                 have hfz79_1 := blk_frozen BK200.out 1
                 have hfz79_2 := blk_frozen BK200.out 2
                 obtain ⟨Ao80, co80, eo80⟩ := Kd.R_slice HO_206001.out
                 subst eo80
                 obtain ⟨Ao81, co81, eo81⟩ := Kd.R_slice HO_206002.out
                 subst eo81
                 try go_wp2
                 have n0_ := Aside0.mk (Kd.R_drew HO_206001.out)
                 have n1_ := Aside0.mk (Kd.R_drew HO_206002.out)
                 have n2_ := Aside0.mk (blk_drew BK200.out)
                 have n3_ := Aside0.mk (blk_drew BK201.out)
                 have n4_ := Aside0.mk (blk_drew BK205.out)
                 have n5_ := Aside0.mk (below_drew1 HB.out)
                 clear HO_206001
                 clear HO_206002
                 clear BK200
                 clear BK201
                 clear BK205
                 clear HB
                 have HO_206001 := n0_
                 have HO_206002 := n1_
                 have BK200 := n2_
                 have BK201 := n3_
                 have BK205 := n4_
                 have HB := n5_
                 clear n0_ n1_ n2_ n3_ n4_ n5_
                 refine start_ (n := 14) (S := fun w' => w'.cell? ⟨gb205, 0, none⟩ = some (.int .i64 (wrap64 (a0_0 + 1))) ∧ w'.cell? ⟨gb205, 1, none⟩ = some (.slice Ao80 x206001_4.length co80) ∧ w'.cell? ⟨gb205, 2, none⟩ = some (.slice Ao81 x206002_4.length co81)) (ds := [11, 13]) #[false, false, false, false, false, false, false, false, false, false, false, false, false, false] (by kernel_rfl) rfl rfl ⟨(blk_cell BK205.out 0).trans rfl, (blk_cell BK205.out 1).trans rfl, (blk_cell BK205.out 2).trans rfl⟩ (fun hHeld => ?_); refine with_tabW bautaref39_Add.tab17 bautaref39_Add.bits17 (fun HT_ HW_ => ?_)
                 generalize w76.drew = w82 at HO_206001 HO_206002 BK200 BK201 BK205 HB hHeld ⊢
                 refine pure_ (i := 0) (N := some 96) (v := ?_) (a' := ?_) #[true, false, false, false, false, false, false, false, false, false, false, false, false, false] rfl rfl (any_of HT_.out (by kernel_rfl)) (fun _ _ _ h => h) (Or.inl ⟨by rfl, ?_⟩) ?_ ?_
                 rotate_left
                 ·intro w'
                  go_simp
                  with_reducible rfl
                 rotate_left
                 ·(simp only [Act.put, List.setIfInBounds_toArray, List.set_cons_zero, List.set_cons_succ, i64_w, i32_w])
                  rfl
                 refine pure_ (i := 2) (N := some 98) (v := ?_) (a' := ?_) #[true, false, true, false, false, false, false, false, false, false, false, false, false, false] rfl rfl (any_of HT_.out (by kernel_rfl)) (fun _ _ _ h => h) (Or.inl ⟨by rfl, ?_⟩) ?_ ?_
                 rotate_left
                 ·intro w'
                  go_simp
                  with_reducible rfl
                 rotate_left
                 ·(simp only [Act.put, List.setIfInBounds_toArray, List.set_cons_zero, List.set_cons_succ, i64_w, i32_w])
                  rfl
                 refine pure_ (i := 5) (N := some 101) (v := ?_) (a' := ?_) #[true, false, true, false, false, true, false, false, false, false, false, false, false, false] rfl rfl (any_of HT_.out (by kernel_rfl)) (fun _ _ _ h => h) (Or.inl ⟨by rfl, ?_⟩) ?_ ?_
                 rotate_left
                 ·intro w'
                  go_simp
                  with_reducible rfl
                 rotate_left
                 ·(simp only [Act.put, List.setIfInBounds_toArray, List.set_cons_zero, List.set_cons_succ, i64_w, i32_w])
                  rfl
                 refine pure_ (i := 7) (N := some 103) (v := ?_) (a' := ?_) #[true, false, true, false, false, true, false, true, false, false, false, false, false, false] rfl rfl (any_of HT_.out (by kernel_rfl)) (fun _ _ _ h => h) (Or.inl ⟨by rfl, ?_⟩) ?_ ?_
                 rotate_left
                 ·intro w'
                  go_simp
                  with_reducible rfl
                 rotate_left
                 ·(simp only [Act.put, List.setIfInBounds_toArray, List.set_cons_zero, List.set_cons_succ, i64_w, i32_w])
                  rfl
                 refine take_ (i := 1) (N := some 97) (v := ?_) (a' := ?_) #[true, true, true, false, false, true, false, true, false, false, false, false, false, false] rfl rfl (take_ofW HT_.out HW_.out (by kernel_rfl)) (fun _ _ _ h => h) (Or.inl ⟨by rfl, ?_⟩) hHeld ?_ ?_
                 rotate_left
                 ·rintro w' ⟨s0, s1, s2⟩
                  go_simp
                  with_reducible rfl
                 rotate_left
                 ·(simp only [Act.put, List.setIfInBounds_toArray, List.set_cons_zero, List.set_cons_succ, i64_w, i32_w])
                  rfl
                 refine take_ (i := 6) (N := some 102) (v := ?_) (a' := ?_) #[true, true, true, false, false, true, true, true, false, false, false, false, false, false] rfl rfl (take_ofW HT_.out HW_.out (by kernel_rfl)) (fun _ _ _ h => h) (Or.inl ⟨by rfl, ?_⟩) hHeld ?_ ?_
                 rotate_left
                 ·rintro w' ⟨s0, s1, s2⟩
                  go_simp
                  with_reducible rfl
                 rotate_left
                 ·(simp only [Act.put, List.setIfInBounds_toArray, List.set_cons_zero, List.set_cons_succ, i64_w, i32_w])
                  rfl
                 refine join_ (σ := Value × Value × Value) 4 #[true, true, true, true, true, true, true, true, true, false, true, false, false, false] (fun s_ => [(99, s_.1), (100, s_.2.1), (104, s_.2.2), (106, .pointer (some ⟨gb205, 1, none⟩))]) (fun s_ w' => (w'.cell? ⟨gb205, 0, none⟩ = some (.int .i64 (wrap64 (a0_0 + 1))) ∧ w'.cell? ⟨gb205, 1, none⟩ = some (.slice Ao80 x206001_4.length co80) ∧ w'.cell? ⟨gb205, 2, none⟩ = some (.slice Ao81 x206002_4.length co81)) ∧ (Kd.R (Kd.int .i64) 3 w' w.heap.size (fun k_ => some k_ ≠ (s_.2.1 : Value).ownBlock ∧ some k_ ≠ (s_.2.2 : Value).ownBlock ∧ some k_ ≠ (.slice Ao81 x206002_4.length co81 : Value).ownBlock) s_.1 y223) ∧ (Kd.R (Kd.int .i64) 3 w' w.heap.size (fun k_ => some k_ ≠ (s_.1 : Value).ownBlock ∧ some k_ ≠ (s_.2.2 : Value).ownBlock ∧ some k_ ≠ (.slice Ao81 x206002_4.length co81 : Value).ownBlock) s_.2.1 y226) ∧ (Kd.R (Kd.int .i64) 3 w' w.heap.size (fun k_ => some k_ ≠ (s_.1 : Value).ownBlock ∧ some k_ ≠ (s_.2.1 : Value).ownBlock ∧ some k_ ≠ (.slice Ao81 x206002_4.length co81 : Value).ownBlock) s_.2.2 y229) ∧ (Kd.R (Kd.int .i64) 3 w' w.heap.size (fun k_ => some k_ ≠ (s_.1 : Value).ownBlock ∧ some k_ ≠ (s_.2.1 : Value).ownBlock ∧ some k_ ≠ (s_.2.2 : Value).ownBlock) (.slice Ao81 x206002_4.length co81) x206002_4) ∧ (w'.heap[gb200]? = some (.cells #[.int .i64 a0_0, .slice A0_1 l0_1.length c0_1, .slice A0_2 l0_2.length c0_2] 24 (0, 0))) ∧ (w'.heap[gb201]? = some (.cells #[.int .i64 x202000_1, .slice none 0 0, .slice none 0 0] 24 (0, 0))) ∧ (w'.heap[gb205]? = some (.cells #[.int .i64 (wrap64 (a0_0 + 1)), .slice Ao80 x206001_4.length co80, .slice Ao81 x206002_4.length co81] 24 (0, 0))) ∧ (Below w.heap.size w w')) ?_ ?_
                 rotate_left
                 ·intro hCont
                  refine two_ (i := 3) (j := 8) (Ni := some 99) (Nj := some 104) #[true, true, true, true, false, true, true, true, false, false, false, false, false, false] #[true, true, true, false, false, true, true, true, true, false, false, false, false, false] rfl rfl rfl rfl (two_of HT_.out (by kernel_rfl)) (by decide) (by decide) (fun K hK => ?_) (fun K hK => ?_)
                  ·skip
                   refine Kd.R_lit_step (Kd.int .i64) _ 3 ?hg (N := 99) ?hd (xs := ([rd l1 x8_4] : List Int)) (inner := [.int .i64 (rd l1 x8_4)]) (ok := fun _ => True) (okp := fun _ => True) ?hr ?hp (fun _ hk => hk) trivial (Below.refl _ _) (Nat.le_refl _) (by simp) ?_; (case hd => rfl); (case hg => rfl); (case hr => first | (go_simp; done) | (go_simp; rfl)); (case hp => exact (Reps.one (show Kd.M (Kd.int .i64) _ _ _ (rd l1 x8_4) [.int .i64 (rd l1 x8_4)] from rfl) (Reps.none _ _)))
                   intro v224 w83 ho84 hb hg_ hnew_
                   clear hg_ hnew_
                   (first | rw [← Ny223.out] at ho84 | (simp only [Int.reduceToNat] at ho84; rw [← Ny223.out] at ho84))
                   have n0_ := Aside0.mk (Kd.R_elder' (rr_ HO_206001) (Kd.R_base ho84) hb)
                   have n1_ := Aside0.mk (Kd.R_elder' (rr_ HO_206002) (Kd.R_base ho84) hb)
                   have n2_ := Aside0.mk (Kd.R_lower (Kd.R_new' (Kd.R_new' ho84 (Kd.R_lt (rr_ HO_206001))) (Kd.R_lt (rr_ HO_206002))) (below_size (by repeat (first | (with_reducible first | exact HB.out | apply below_alloc | apply pw_below_drewN | apply below_drew1 | refine below_set ?_ GE200.out | refine below_set ?_ GE201.out | refine below_set ?_ GE205.out) | exact HB.out))))
                   have n3_ := Aside0.mk (blk_below (rb_ BK200) hb)
                   have n4_ := Aside0.mk (blk_below (rb_ BK201) hb)
                   have n5_ := Aside0.mk (blk_below (g := gb205) (o := .cells #[.int .i64 (wrap64 (a0_0 + 1)), .slice Ao80 x206001_4.length co80, .slice Ao81 x206002_4.length co81] 24 (0, 0)) (rb_ BK205) hb)
                   have n6_ := Aside0.mk (below_step (by repeat (first | (with_reducible first | exact HB.out | apply below_alloc | apply pw_below_drewN | apply below_drew1 | refine below_set ?_ GE200.out | refine below_set ?_ GE201.out | refine below_set ?_ GE205.out) | exact HB.out)) hb)
                   clear HO_206001
                   clear HO_206002
                   clear BK200
                   clear BK201
                   clear BK205
                   clear HB
                   have HO_206001 := n0_
                   have HO_206002 := n1_
                   have HO225 := n2_
                   have BK200 := n3_
                   have BK201 := n4_
                   have BK205 := n5_
                   have HB := n6_
                   clear n0_ n1_ n2_ n3_ n4_ n5_ n6_
                   clear hb ho84
                   obtain ⟨Ao86, co86, eo86⟩ := Kd.R_slice HO225.out
                   (first | subst eo86 | (injection eo86 with f1_ f2_ f3_; have f4_ := f1_.symm; have f5_ := f3_.symm; clear f1_ f2_ f3_; subst f4_; subst f5_))
                   refine hK.out _ _ ⟨(blk_cell BK205.out 0).trans rfl, (blk_cell BK205.out 1).trans rfl, (blk_cell BK205.out 2).trans rfl⟩ (fun hHeld => ?_)
                   clear hK K
                   refine norm_ (a' := ?_) ?_ ?_
                   rotate_left
                   ·show Act.put _ (some 99) _ = _
                    (simp only [Act.put, List.setIfInBounds_toArray, List.set_cons_zero, List.set_cons_succ, i64_w, i32_w])
                    rfl
                   refine two_ (i := 4) (j := 8) (Ni := some 100) (Nj := some 104) #[true, true, true, true, true, true, true, true, false, false, false, false, false, false] #[true, true, true, true, false, true, true, true, true, false, false, false, false, false] rfl rfl rfl rfl (two_of HT_.out (by kernel_rfl)) (by decide) (by decide) (fun K hK => ?_) (fun K hK => ?_)
                   ·skip
                    refine Kd.R_append_rows_step (Kd.int .i64) (w0 := w) w.heap.size (by rfl) (.tmp 97) (.tmp 99) 22 3 (.int .i64 0) 8 rfl Try.underlying22 info3 rfl (by decide) (by omega) (.slice Ao80 x206001_4.length co80) x206001_4 y223 _ _ _ (fun k_ => some k_ ≠ (.slice Ao81 x206002_4.length co81 : Value).ownBlock ∧ some k_ ≠ (.slice Ao86 y223.length co86 : Value).ownBlock) (fun _ => False) rfl rfl ?aO ?aR (fun _ _ h => h) (fun _ h => h.elim) ?aF ?aB ?aS ?aL ?_
                    (case aR => exact rcr_ HO225)
                    (case aB => exact (by repeat (first | (with_reducible first | exact HB.out | apply below_alloc | apply pw_below_drewN | apply below_drew1 | refine below_set ?_ GE200.out | refine below_set ?_ GE201.out | refine below_set ?_ GE205.out) | exact HB.out)))
                    (case aF => exact (fun k_ hk => ⟨Kd.fresh' (Kd.R_lt (rr_ HO_206002)) k_ hk, Kd.fresh' (Kd.R_lt (rr_ HO225)) k_ hk⟩))
                    (case aO => exact (rr_ HO_206001))
                    (case aS => exact (below_size (by repeat (first | (with_reducible first | exact HB.out | apply below_alloc | apply pw_below_drewN | apply below_drew1 | refine below_set ?_ GE200.out | refine below_set ?_ GE201.out | refine below_set ?_ GE205.out) | exact HB.out))))
                    (case aL => have := LMc74.out; first | omega | (simp only [List.length_take] at *; omega))
                    intro v227 w85 ho hb hg hat
                    rw [← Ny226.out] at ho
                    have n0_ := Aside0.mk (Kd.R_after (ok := (fun k_ => some k_ ≠ (.slice Ao86 y223.length co86 : Value).ownBlock)) (by (with_reducible repeat (first | apply Kd.R_alloc | apply Kd.R_drewN | apply Kd.R_drew)); exact Kd.R_mono HO_206002.out (fun _ hk => ⟨hk.2, hk.1⟩)) hg hat)
                    have n1_ := Aside0.mk (blk_grown (g := gb200) (o := .cells #[.int .i64 a0_0, .slice A0_1 l0_1.length c0_1, .slice A0_2 l0_2.length c0_2] 24 (0, 0)) (rb_ BK200) hg (Kd.R_ne HO_206001.out BK200.out (by decide)))
                    have n2_ := Aside0.mk (blk_grown (g := gb201) (o := .cells #[.int .i64 x202000_1, .slice none 0 0, .slice none 0 0] 24 (0, 0)) (rb_ BK201) hg (Kd.R_ne HO_206001.out BK201.out (by decide)))
                    have n3_ := Aside0.mk (blk_grown (g := gb205) (o := .cells #[.int .i64 (wrap64 (a0_0 + 1)), .slice Ao80 x206001_4.length co80, .slice Ao81 x206002_4.length co81] 24 (0, 0)) (rb_ BK205) hg (Kd.R_ne HO_206001.out BK205.out (by decide)))
                    have n4_ := Aside0.mk (Kd.R_after (ok := (fun k_ => some k_ ≠ (.slice Ao81 x206002_4.length co81 : Value).ownBlock)) (by (with_reducible repeat (first | apply Kd.R_alloc | apply Kd.R_drewN | apply Kd.R_drew)); exact Kd.R_mono HO225.out (fun _ hk => ⟨hk.2, hk.1.2⟩)) hg hat)
                    have n5_ := Aside0.mk (hb)
                    have n6_ := Aside0.mk (ho)
                    clear HO_206002
                    clear BK200
                    clear BK201
                    clear BK205
                    clear HO225
                    clear HB
                    clear HO_206001
                    have HO_206002 := n0_
                    have BK200 := n1_
                    have BK201 := n2_
                    have BK205 := n3_
                    have HO225 := n4_
                    have HB := n5_
                    have HO228 := n6_
                    clear n0_ n1_ n2_ n3_ n4_ n5_ n6_
                    clear ho hb hg hat
                    refine hK.out _ _ ⟨(blk_cell BK205.out 0).trans rfl, (blk_cell BK205.out 1).trans rfl, (blk_cell BK205.out 2).trans rfl⟩ (fun hHeld => ?_)
                    clear hK K
                    refine norm_ (a' := ?_) ?_ ?_
                    rotate_left
                    ·show Act.put _ (some 100) _ = _
                     (simp only [Act.put, List.setIfInBounds_toArray, List.set_cons_zero, List.set_cons_succ, i64_w, i32_w])
                     rfl
                    refine pure_ (i := 10) (N := some 106) (v := ?_) (a' := ?_) #[true, true, true, true, true, true, true, true, false, false, true, false, false, false] rfl rfl (any_of HT_.out (by kernel_rfl)) (fun _ _ _ h => h) (Or.inl ⟨by rfl, ?_⟩) ?_ ?_
                    rotate_left
                    ·intro w'
                     go_simp
                     with_reducible rfl
                    rotate_left
                    ·(simp only [Act.put, List.setIfInBounds_toArray, List.set_cons_zero, List.set_cons_succ, i64_w, i32_w])
                     rfl
                    refine one_ (i := 8) (N := some 104) #[true, true, true, true, true, true, true, true, true, false, true, false, false, false] rfl rfl (one_of HT_.out (by kernel_rfl)) (by decide) (fun K hK => ?_)
                    refine Kd.R_lit_step (Kd.int .i64) _ 3 ?hg (N := 104) ?hd (xs := ([wrap64 ((rd l1 x8_4) * (rd l1 x8_4))] : List Int)) (inner := [.int .i64 (wrap64 ((rd l1 x8_4) * (rd l1 x8_4)))]) (ok := fun _ => True) (okp := fun _ => True) ?hr ?hp (fun _ hk => hk) trivial (Below.refl _ _) (Nat.le_refl _) (by simp) ?_; (case hd => rfl); (case hg => rfl); (case hr => first | (go_simp; done) | (go_simp; rfl)); (case hp => exact (Reps.one (show Kd.M (Kd.int .i64) _ _ _ (wrap64 ((rd l1 x8_4) * (rd l1 x8_4))) [.int .i64 (wrap64 ((rd l1 x8_4) * (rd l1 x8_4)))] from rfl) (Reps.none _ _)))
                    intro v230 w87 ho88 hb hg_ hnew_
                    clear hg_ hnew_
                    (first | rw [← Ny229.out] at ho88 | (simp only [Int.reduceToNat] at ho88; rw [← Ny229.out] at ho88))
                    have n0_ := Aside0.mk (Kd.R_elder' (rr_ HO_206002) (Kd.R_base ho88) hb)
                    have n1_ := Aside0.mk (Kd.R_elder' (rr_ HO225) (Kd.R_base ho88) hb)
                    have n2_ := Aside0.mk (Kd.R_elder' (rr_ HO228) (Kd.R_base ho88) hb)
                    have n3_ := Aside0.mk (Kd.R_lower (Kd.R_new' (Kd.R_new' (Kd.R_new' ho88 (Kd.R_lt (rr_ HO_206002))) (Kd.R_lt (rr_ HO225))) (Kd.R_lt (rr_ HO228))) (below_size (by repeat (first | (with_reducible first | exact HB.out | apply below_alloc | apply pw_below_drewN | apply below_drew1 | refine below_set ?_ GE200.out | refine below_set ?_ GE201.out | refine below_set ?_ GE205.out) | exact HB.out))))
                    have n4_ := Aside0.mk (blk_below (rb_ BK200) hb)
                    have n5_ := Aside0.mk (blk_below (rb_ BK201) hb)
                    have n6_ := Aside0.mk (blk_below (g := gb205) (o := .cells #[.int .i64 (wrap64 (a0_0 + 1)), .slice Ao80 x206001_4.length co80, .slice Ao81 x206002_4.length co81] 24 (0, 0)) (rb_ BK205) hb)
                    have n7_ := Aside0.mk (below_step (by repeat (first | (with_reducible first | exact HB.out | apply below_alloc | apply pw_below_drewN | apply below_drew1 | refine below_set ?_ GE200.out | refine below_set ?_ GE201.out | refine below_set ?_ GE205.out) | exact HB.out)) hb)
                    clear HO_206002
                    clear HO225
                    clear HO228
                    clear BK200
                    clear BK201
                    clear BK205
                    clear HB
                    have HO_206002 := n0_
                    have HO225 := n1_
                    have HO228 := n2_
                    have HO231 := n3_
                    have BK200 := n4_
                    have BK201 := n5_
                    have BK205 := n6_
                    have HB := n7_
                    clear n0_ n1_ n2_ n3_ n4_ n5_ n6_ n7_
                    clear hb ho88
                    refine hK.out _ _ ⟨(blk_cell BK205.out 0).trans rfl, (blk_cell BK205.out 1).trans rfl, (blk_cell BK205.out 2).trans rfl⟩ (fun hHeld => ?_)
                    clear hK K
                    refine norm_ (a' := ?_) ?_ ?_
                    rotate_left
                    ·show Act.put _ (some 104) _ = _
                     (simp only [Act.put, List.setIfInBounds_toArray, List.set_cons_zero, List.set_cons_succ, i64_w, i32_w])
                     rfl
                    exact norm_ (by simp only [putAll, Act.put, List.setIfInBounds_toArray, List.set_cons_zero, List.set_cons_succ]) (hCont (.slice Ao86 y223.length co86, v227, v230) _ ⟨hHeld, (by (with_reducible repeat (first | apply Kd.R_alloc | apply Kd.R_drewN | apply Kd.R_drew)); exact Kd.R_mono HO225.out (fun _ hk => ⟨hk.1.2, ⟨hk.2, hk.1.1⟩⟩)), (by (with_reducible repeat (first | apply Kd.R_alloc | apply Kd.R_drewN | apply Kd.R_drew)); exact Kd.R_mono HO228.out (fun _ hk => ⟨hk.1.2, ⟨hk.2, hk.1.1⟩⟩)), (by (with_reducible repeat (first | apply Kd.R_alloc | apply Kd.R_drewN | apply Kd.R_drew)); exact Kd.R_mono HO231.out (fun _ hk => ⟨hk.1.2, ⟨hk.2, hk.1.1.2⟩⟩)), (by (with_reducible repeat (first | apply Kd.R_alloc | apply Kd.R_drewN | apply Kd.R_drew)); exact Kd.R_mono HO_206002.out (fun _ hk => ⟨hk.1.1, ⟨hk.1.2, hk.2⟩⟩)), (rb_ BK200), (rb_ BK201), (rb_ BK205), (by repeat (first | (with_reducible first | exact HB.out | apply below_alloc | apply pw_below_drewN | apply below_drew1 | refine below_set ?_ GE200.out | refine below_set ?_ GE201.out | refine below_set ?_ GE205.out) | exact HB.out))⟩)
                   ·skip
                    refine Kd.R_lit_step (Kd.int .i64) _ 3 ?hg (N := 104) ?hd (xs := ([wrap64 ((rd l1 x8_4) * (rd l1 x8_4))] : List Int)) (inner := [.int .i64 (wrap64 ((rd l1 x8_4) * (rd l1 x8_4)))]) (ok := fun _ => True) (okp := fun _ => True) ?hr ?hp (fun _ hk => hk) trivial (Below.refl _ _) (Nat.le_refl _) (by simp) ?_; (case hd => rfl); (case hg => rfl); (case hr => first | (go_simp; done) | (go_simp; rfl)); (case hp => exact (Reps.one (show Kd.M (Kd.int .i64) _ _ _ (wrap64 ((rd l1 x8_4) * (rd l1 x8_4))) [.int .i64 (wrap64 ((rd l1 x8_4) * (rd l1 x8_4)))] from rfl) (Reps.none _ _)))
                    intro v230 w85 ho86 hb hg_ hnew_
                    clear hg_ hnew_
                    (first | rw [← Ny229.out] at ho86 | (simp only [Int.reduceToNat] at ho86; rw [← Ny229.out] at ho86))
                    have n0_ := Aside0.mk (Kd.R_elder' (rr_ HO_206001) (Kd.R_base ho86) hb)
                    have n1_ := Aside0.mk (Kd.R_elder' (rr_ HO_206002) (Kd.R_base ho86) hb)
                    have n2_ := Aside0.mk (Kd.R_elder' (rr_ HO225) (Kd.R_base ho86) hb)
                    have n3_ := Aside0.mk (Kd.R_lower (Kd.R_new' (Kd.R_new' (Kd.R_new' ho86 (Kd.R_lt (rr_ HO_206001))) (Kd.R_lt (rr_ HO_206002))) (Kd.R_lt (rr_ HO225))) (below_size (by repeat (first | (with_reducible first | exact HB.out | apply below_alloc | apply pw_below_drewN | apply below_drew1 | refine below_set ?_ GE200.out | refine below_set ?_ GE201.out | refine below_set ?_ GE205.out) | exact HB.out))))
                    have n4_ := Aside0.mk (blk_below (rb_ BK200) hb)
                    have n5_ := Aside0.mk (blk_below (rb_ BK201) hb)
                    have n6_ := Aside0.mk (blk_below (g := gb205) (o := .cells #[.int .i64 (wrap64 (a0_0 + 1)), .slice Ao80 x206001_4.length co80, .slice Ao81 x206002_4.length co81] 24 (0, 0)) (rb_ BK205) hb)
                    have n7_ := Aside0.mk (below_step (by repeat (first | (with_reducible first | exact HB.out | apply below_alloc | apply pw_below_drewN | apply below_drew1 | refine below_set ?_ GE200.out | refine below_set ?_ GE201.out | refine below_set ?_ GE205.out) | exact HB.out)) hb)
                    clear HO_206001
                    clear HO_206002
                    clear HO225
                    clear BK200
                    clear BK201
                    clear BK205
                    clear HB
                    have HO_206001 := n0_
                    have HO_206002 := n1_
                    have HO225 := n2_
                    have HO231 := n3_
                    have BK200 := n4_
                    have BK201 := n5_
                    have BK205 := n6_
                    have HB := n7_
                    clear n0_ n1_ n2_ n3_ n4_ n5_ n6_ n7_
                    clear hb ho86
                    obtain ⟨Ao88, co88, eo88⟩ := Kd.R_slice HO225.out
                    (first | subst eo88 | (injection eo88 with f1_ f2_ f3_; have f4_ := f1_.symm; have f5_ := f3_.symm; clear f1_ f2_ f3_; subst f4_; subst f5_))
                    refine hK.out _ _ ⟨(blk_cell BK205.out 0).trans rfl, (blk_cell BK205.out 1).trans rfl, (blk_cell BK205.out 2).trans rfl⟩ (fun hHeld => ?_)
                    clear hK K
                    refine norm_ (a' := ?_) ?_ ?_
                    rotate_left
                    ·show Act.put _ (some 104) _ = _
                     (simp only [Act.put, List.setIfInBounds_toArray, List.set_cons_zero, List.set_cons_succ, i64_w, i32_w])
                     rfl
                    refine one_ (i := 4) (N := some 100) #[true, true, true, true, true, true, true, true, true, false, false, false, false, false] rfl rfl (one_of HT_.out (by kernel_rfl)) (by decide) (fun K hK => ?_)
                    refine Kd.R_append_rows_step (Kd.int .i64) (w0 := w) w.heap.size (by rfl) (.tmp 97) (.tmp 99) 22 3 (.int .i64 0) 8 rfl Try.underlying22 info3 rfl (by decide) (by omega) (.slice Ao80 x206001_4.length co80) x206001_4 y223 _ _ _ (fun k_ => some k_ ≠ (.slice Ao81 x206002_4.length co81 : Value).ownBlock ∧ some k_ ≠ (.slice Ao88 y223.length co88 : Value).ownBlock ∧ some k_ ≠ (v230 : Value).ownBlock) (fun _ => False) rfl rfl ?aO ?aR (fun _ _ h => h) (fun _ h => h.elim) ?aF ?aB ?aS ?aL ?_
                    (case aR => exact rcr_ HO225)
                    (case aB => exact (by repeat (first | (with_reducible first | exact HB.out | apply below_alloc | apply pw_below_drewN | apply below_drew1 | refine below_set ?_ GE200.out | refine below_set ?_ GE201.out | refine below_set ?_ GE205.out) | exact HB.out)))
                    (case aF => exact (fun k_ hk => ⟨Kd.fresh' (Kd.R_lt (rr_ HO_206002)) k_ hk, Kd.fresh' (Kd.R_lt (rr_ HO225)) k_ hk, Kd.fresh' (Kd.R_lt (rr_ HO231)) k_ hk⟩))
                    (case aO => exact (by (with_reducible repeat (first | apply Kd.R_alloc | apply Kd.R_drewN | apply Kd.R_drew)); exact Kd.R_mono HO_206001.out (fun _ hk => ⟨hk.1.1, ⟨hk.1.2, hk.2⟩⟩)))
                    (case aS => exact (below_size (by repeat (first | (with_reducible first | exact HB.out | apply below_alloc | apply pw_below_drewN | apply below_drew1 | refine below_set ?_ GE200.out | refine below_set ?_ GE201.out | refine below_set ?_ GE205.out) | exact HB.out))))
                    (case aL => have := LMc74.out; first | omega | (simp only [List.length_take] at *; omega))
                    intro v227 w87 ho hb hg hat
                    rw [← Ny226.out] at ho
                    have n0_ := Aside0.mk (Kd.R_after (ok := (fun k_ => some k_ ≠ (.slice Ao88 y223.length co88 : Value).ownBlock ∧ some k_ ≠ (v230 : Value).ownBlock)) (by (with_reducible repeat (first | apply Kd.R_alloc | apply Kd.R_drewN | apply Kd.R_drew)); exact Kd.R_mono HO_206002.out (fun _ hk => ⟨⟨hk.1.2, hk.2⟩, hk.1.1⟩)) hg hat)
                    have n1_ := Aside0.mk (blk_grown (g := gb200) (o := .cells #[.int .i64 a0_0, .slice A0_1 l0_1.length c0_1, .slice A0_2 l0_2.length c0_2] 24 (0, 0)) (rb_ BK200) hg (Kd.R_ne HO_206001.out BK200.out (by decide)))
                    have n2_ := Aside0.mk (blk_grown (g := gb201) (o := .cells #[.int .i64 x202000_1, .slice none 0 0, .slice none 0 0] 24 (0, 0)) (rb_ BK201) hg (Kd.R_ne HO_206001.out BK201.out (by decide)))
                    have n3_ := Aside0.mk (blk_grown (g := gb205) (o := .cells #[.int .i64 (wrap64 (a0_0 + 1)), .slice Ao80 x206001_4.length co80, .slice Ao81 x206002_4.length co81] 24 (0, 0)) (rb_ BK205) hg (Kd.R_ne HO_206001.out BK205.out (by decide)))
                    have n4_ := Aside0.mk (Kd.R_after (ok := (fun k_ => some k_ ≠ (.slice Ao81 x206002_4.length co81 : Value).ownBlock ∧ some k_ ≠ (v230 : Value).ownBlock)) (by (with_reducible repeat (first | apply Kd.R_alloc | apply Kd.R_drewN | apply Kd.R_drew)); exact Kd.R_mono HO225.out (fun _ hk => ⟨⟨hk.1.2, hk.2⟩, hk.1.1.2⟩)) hg hat)
                    have n5_ := Aside0.mk (Kd.R_after (ok := (fun k_ => some k_ ≠ (.slice Ao81 x206002_4.length co81 : Value).ownBlock ∧ some k_ ≠ (.slice Ao88 y223.length co88 : Value).ownBlock)) (by (with_reducible repeat (first | apply Kd.R_alloc | apply Kd.R_drewN | apply Kd.R_drew)); exact Kd.R_mono HO231.out (fun _ hk => ⟨⟨hk.1.2, hk.2⟩, hk.1.1.2⟩)) hg hat)
                    have n6_ := Aside0.mk (hb)
                    have n7_ := Aside0.mk (ho)
                    clear HO_206002
                    clear BK200
                    clear BK201
                    clear BK205
                    clear HO225
                    clear HO231
                    clear HB
                    clear HO_206001
                    have HO_206002 := n0_
                    have BK200 := n1_
                    have BK201 := n2_
                    have BK205 := n3_
                    have HO225 := n4_
                    have HO231 := n5_
                    have HB := n6_
                    have HO228 := n7_
                    clear n0_ n1_ n2_ n3_ n4_ n5_ n6_ n7_
                    clear ho hb hg hat
                    refine hK.out _ _ ⟨(blk_cell BK205.out 0).trans rfl, (blk_cell BK205.out 1).trans rfl, (blk_cell BK205.out 2).trans rfl⟩ (fun hHeld => ?_)
                    clear hK K
                    refine norm_ (a' := ?_) ?_ ?_
                    rotate_left
                    ·show Act.put _ (some 100) _ = _
                     (simp only [Act.put, List.setIfInBounds_toArray, List.set_cons_zero, List.set_cons_succ, i64_w, i32_w])
                     rfl
                    refine pure_ (i := 10) (N := some 106) (v := ?_) (a' := ?_) #[true, true, true, true, true, true, true, true, true, false, true, false, false, false] rfl rfl (any_of HT_.out (by kernel_rfl)) (fun _ _ _ h => h) (Or.inl ⟨by rfl, ?_⟩) ?_ ?_
                    rotate_left
                    ·intro w'
                     go_simp
                     with_reducible rfl
                    rotate_left
                    ·(simp only [Act.put, List.setIfInBounds_toArray, List.set_cons_zero, List.set_cons_succ, i64_w, i32_w])
                     rfl
                    exact norm_ (by simp only [putAll, Act.put, List.setIfInBounds_toArray, List.set_cons_zero, List.set_cons_succ]) (hCont (.slice Ao88 y223.length co88, v227, v230) _ ⟨hHeld, (by (with_reducible repeat (first | apply Kd.R_alloc | apply Kd.R_drewN | apply Kd.R_drew)); exact Kd.R_mono HO225.out (fun _ hk => ⟨hk.2, ⟨hk.1.2, hk.1.1⟩⟩)), (by (with_reducible repeat (first | apply Kd.R_alloc | apply Kd.R_drewN | apply Kd.R_drew)); exact Kd.R_mono HO228.out (fun _ hk => ⟨hk.2.1, ⟨hk.2.2, hk.1⟩⟩)), (by (with_reducible repeat (first | apply Kd.R_alloc | apply Kd.R_drewN | apply Kd.R_drew)); exact Kd.R_mono HO231.out (fun _ hk => ⟨hk.1.2, ⟨hk.2, hk.1.1⟩⟩)), (by (with_reducible repeat (first | apply Kd.R_alloc | apply Kd.R_drewN | apply Kd.R_drew)); exact Kd.R_mono HO_206002.out (fun _ hk => ⟨hk.1.1, ⟨hk.2, hk.1.2⟩⟩)), (rb_ BK200), (rb_ BK201), (rb_ BK205), (by repeat (first | (with_reducible first | exact HB.out | apply below_alloc | apply pw_below_drewN | apply below_drew1 | refine below_set ?_ GE200.out | refine below_set ?_ GE201.out | refine below_set ?_ GE205.out) | exact HB.out))⟩)
                  ·skip
                   refine Kd.R_lit_step (Kd.int .i64) _ 3 ?hg (N := 104) ?hd (xs := ([wrap64 ((rd l1 x8_4) * (rd l1 x8_4))] : List Int)) (inner := [.int .i64 (wrap64 ((rd l1 x8_4) * (rd l1 x8_4)))]) (ok := fun _ => True) (okp := fun _ => True) ?hr ?hp (fun _ hk => hk) trivial (Below.refl _ _) (Nat.le_refl _) (by simp) ?_; (case hd => rfl); (case hg => rfl); (case hr => first | (go_simp; done) | (go_simp; rfl)); (case hp => exact (Reps.one (show Kd.M (Kd.int .i64) _ _ _ (wrap64 ((rd l1 x8_4) * (rd l1 x8_4))) [.int .i64 (wrap64 ((rd l1 x8_4) * (rd l1 x8_4)))] from rfl) (Reps.none _ _)))
                   intro v230 w83 ho84 hb hg_ hnew_
                   clear hg_ hnew_
                   (first | rw [← Ny229.out] at ho84 | (simp only [Int.reduceToNat] at ho84; rw [← Ny229.out] at ho84))
                   have n0_ := Aside0.mk (Kd.R_elder' (rr_ HO_206001) (Kd.R_base ho84) hb)
                   have n1_ := Aside0.mk (Kd.R_elder' (rr_ HO_206002) (Kd.R_base ho84) hb)
                   have n2_ := Aside0.mk (Kd.R_lower (Kd.R_new' (Kd.R_new' ho84 (Kd.R_lt (rr_ HO_206001))) (Kd.R_lt (rr_ HO_206002))) (below_size (by repeat (first | (with_reducible first | exact HB.out | apply below_alloc | apply pw_below_drewN | apply below_drew1 | refine below_set ?_ GE200.out | refine below_set ?_ GE201.out | refine below_set ?_ GE205.out) | exact HB.out))))
                   have n3_ := Aside0.mk (blk_below (rb_ BK200) hb)
                   have n4_ := Aside0.mk (blk_below (rb_ BK201) hb)
                   have n5_ := Aside0.mk (blk_below (g := gb205) (o := .cells #[.int .i64 (wrap64 (a0_0 + 1)), .slice Ao80 x206001_4.length co80, .slice Ao81 x206002_4.length co81] 24 (0, 0)) (rb_ BK205) hb)
                   have n6_ := Aside0.mk (below_step (by repeat (first | (with_reducible first | exact HB.out | apply below_alloc | apply pw_below_drewN | apply below_drew1 | refine below_set ?_ GE200.out | refine below_set ?_ GE201.out | refine below_set ?_ GE205.out) | exact HB.out)) hb)
                   clear HO_206001
                   clear HO_206002
                   clear BK200
                   clear BK201
                   clear BK205
                   clear HB
                   have HO_206001 := n0_
                   have HO_206002 := n1_
                   have HO231 := n2_
                   have BK200 := n3_
                   have BK201 := n4_
                   have BK205 := n5_
                   have HB := n6_
                   clear n0_ n1_ n2_ n3_ n4_ n5_ n6_
                   clear hb ho84
                   refine hK.out _ _ ⟨(blk_cell BK205.out 0).trans rfl, (blk_cell BK205.out 1).trans rfl, (blk_cell BK205.out 2).trans rfl⟩ (fun hHeld => ?_)
                   clear hK K
                   refine norm_ (a' := ?_) ?_ ?_
                   rotate_left
                   ·show Act.put _ (some 104) _ = _
                    (simp only [Act.put, List.setIfInBounds_toArray, List.set_cons_zero, List.set_cons_succ, i64_w, i32_w])
                    rfl
                   refine one_ (i := 3) (N := some 99) #[true, true, true, true, false, true, true, true, true, false, false, false, false, false] rfl rfl (one_of HT_.out (by kernel_rfl)) (by decide) (fun K hK => ?_)
                   refine Kd.R_lit_step (Kd.int .i64) _ 3 ?hg (N := 99) ?hd (xs := ([rd l1 x8_4] : List Int)) (inner := [.int .i64 (rd l1 x8_4)]) (ok := fun _ => True) (okp := fun _ => True) ?hr ?hp (fun _ hk => hk) trivial (Below.refl _ _) (Nat.le_refl _) (by simp) ?_; (case hd => rfl); (case hg => rfl); (case hr => first | (go_simp; done) | (go_simp; rfl)); (case hp => exact (Reps.one (show Kd.M (Kd.int .i64) _ _ _ (rd l1 x8_4) [.int .i64 (rd l1 x8_4)] from rfl) (Reps.none _ _)))
                   intro v224 w85 ho86 hb hg_ hnew_
                   clear hg_ hnew_
                   (first | rw [← Ny223.out] at ho86 | (simp only [Int.reduceToNat] at ho86; rw [← Ny223.out] at ho86))
                   have n0_ := Aside0.mk (Kd.R_elder' (rr_ HO_206001) (Kd.R_base ho86) hb)
                   have n1_ := Aside0.mk (Kd.R_elder' (rr_ HO_206002) (Kd.R_base ho86) hb)
                   have n2_ := Aside0.mk (Kd.R_elder' (rr_ HO231) (Kd.R_base ho86) hb)
                   have n3_ := Aside0.mk (Kd.R_lower (Kd.R_new' (Kd.R_new' (Kd.R_new' ho86 (Kd.R_lt (rr_ HO_206001))) (Kd.R_lt (rr_ HO_206002))) (Kd.R_lt (rr_ HO231))) (below_size (by repeat (first | (with_reducible first | exact HB.out | apply below_alloc | apply pw_below_drewN | apply below_drew1 | refine below_set ?_ GE200.out | refine below_set ?_ GE201.out | refine below_set ?_ GE205.out) | exact HB.out))))
                   have n4_ := Aside0.mk (blk_below (rb_ BK200) hb)
                   have n5_ := Aside0.mk (blk_below (rb_ BK201) hb)
                   have n6_ := Aside0.mk (blk_below (g := gb205) (o := .cells #[.int .i64 (wrap64 (a0_0 + 1)), .slice Ao80 x206001_4.length co80, .slice Ao81 x206002_4.length co81] 24 (0, 0)) (rb_ BK205) hb)
                   have n7_ := Aside0.mk (below_step (by repeat (first | (with_reducible first | exact HB.out | apply below_alloc | apply pw_below_drewN | apply below_drew1 | refine below_set ?_ GE200.out | refine below_set ?_ GE201.out | refine below_set ?_ GE205.out) | exact HB.out)) hb)
                   clear HO_206001
                   clear HO_206002
                   clear HO231
                   clear BK200
                   clear BK201
                   clear BK205
                   clear HB
                   have HO_206001 := n0_
                   have HO_206002 := n1_
                   have HO231 := n2_
                   have HO225 := n3_
                   have BK200 := n4_
                   have BK201 := n5_
                   have BK205 := n6_
                   have HB := n7_
                   clear n0_ n1_ n2_ n3_ n4_ n5_ n6_ n7_
                   clear hb ho86
                   obtain ⟨Ao88, co88, eo88⟩ := Kd.R_slice HO225.out
                   (first | subst eo88 | (injection eo88 with f1_ f2_ f3_; have f4_ := f1_.symm; have f5_ := f3_.symm; clear f1_ f2_ f3_; subst f4_; subst f5_))
                   refine hK.out _ _ ⟨(blk_cell BK205.out 0).trans rfl, (blk_cell BK205.out 1).trans rfl, (blk_cell BK205.out 2).trans rfl⟩ (fun hHeld => ?_)
                   clear hK K
                   refine norm_ (a' := ?_) ?_ ?_
                   rotate_left
                   ·show Act.put _ (some 99) _ = _
                    (simp only [Act.put, List.setIfInBounds_toArray, List.set_cons_zero, List.set_cons_succ, i64_w, i32_w])
                    rfl
                   refine one_ (i := 4) (N := some 100) #[true, true, true, true, true, true, true, true, true, false, false, false, false, false] rfl rfl (one_of HT_.out (by kernel_rfl)) (by decide) (fun K hK => ?_)
                   refine Kd.R_append_rows_step (Kd.int .i64) (w0 := w) w.heap.size (by rfl) (.tmp 97) (.tmp 99) 22 3 (.int .i64 0) 8 rfl Try.underlying22 info3 rfl (by decide) (by omega) (.slice Ao80 x206001_4.length co80) x206001_4 y223 _ _ _ (fun k_ => some k_ ≠ (.slice Ao81 x206002_4.length co81 : Value).ownBlock ∧ some k_ ≠ (v230 : Value).ownBlock ∧ some k_ ≠ (.slice Ao88 y223.length co88 : Value).ownBlock) (fun _ => False) rfl rfl ?aO ?aR (fun _ _ h => h) (fun _ h => h.elim) ?aF ?aB ?aS ?aL ?_
                   (case aR => exact rcr_ HO225)
                   (case aB => exact (by repeat (first | (with_reducible first | exact HB.out | apply below_alloc | apply pw_below_drewN | apply below_drew1 | refine below_set ?_ GE200.out | refine below_set ?_ GE201.out | refine below_set ?_ GE205.out) | exact HB.out)))
                   (case aF => exact (fun k_ hk => ⟨Kd.fresh' (Kd.R_lt (rr_ HO_206002)) k_ hk, Kd.fresh' (Kd.R_lt (rr_ HO231)) k_ hk, Kd.fresh' (Kd.R_lt (rr_ HO225)) k_ hk⟩))
                   (case aO => exact (by (with_reducible repeat (first | apply Kd.R_alloc | apply Kd.R_drewN | apply Kd.R_drew)); exact Kd.R_mono HO_206001.out (fun _ hk => ⟨hk.1.1, ⟨hk.1.2, hk.2⟩⟩)))
                   (case aS => exact (below_size (by repeat (first | (with_reducible first | exact HB.out | apply below_alloc | apply pw_below_drewN | apply below_drew1 | refine below_set ?_ GE200.out | refine below_set ?_ GE201.out | refine below_set ?_ GE205.out) | exact HB.out))))
                   (case aL => have := LMc74.out; first | omega | (simp only [List.length_take] at *; omega))
                   intro v227 w87 ho hb hg hat
                   rw [← Ny226.out] at ho
                   have n0_ := Aside0.mk (Kd.R_after (ok := (fun k_ => some k_ ≠ (v230 : Value).ownBlock ∧ some k_ ≠ (.slice Ao88 y223.length co88 : Value).ownBlock)) (by (with_reducible repeat (first | apply Kd.R_alloc | apply Kd.R_drewN | apply Kd.R_drew)); exact Kd.R_mono HO_206002.out (fun _ hk => ⟨⟨hk.1.2, hk.2⟩, hk.1.1⟩)) hg hat)
                   have n1_ := Aside0.mk (blk_grown (g := gb200) (o := .cells #[.int .i64 a0_0, .slice A0_1 l0_1.length c0_1, .slice A0_2 l0_2.length c0_2] 24 (0, 0)) (rb_ BK200) hg (Kd.R_ne HO_206001.out BK200.out (by decide)))
                   have n2_ := Aside0.mk (blk_grown (g := gb201) (o := .cells #[.int .i64 x202000_1, .slice none 0 0, .slice none 0 0] 24 (0, 0)) (rb_ BK201) hg (Kd.R_ne HO_206001.out BK201.out (by decide)))
                   have n3_ := Aside0.mk (blk_grown (g := gb205) (o := .cells #[.int .i64 (wrap64 (a0_0 + 1)), .slice Ao80 x206001_4.length co80, .slice Ao81 x206002_4.length co81] 24 (0, 0)) (rb_ BK205) hg (Kd.R_ne HO_206001.out BK205.out (by decide)))
                   have n4_ := Aside0.mk (Kd.R_after (ok := (fun k_ => some k_ ≠ (.slice Ao81 x206002_4.length co81 : Value).ownBlock ∧ some k_ ≠ (.slice Ao88 y223.length co88 : Value).ownBlock)) (by (with_reducible repeat (first | apply Kd.R_alloc | apply Kd.R_drewN | apply Kd.R_drew)); exact Kd.R_mono HO231.out (fun _ hk => ⟨⟨hk.1.2, hk.2⟩, hk.1.1.2⟩)) hg hat)
                   have n5_ := Aside0.mk (Kd.R_after (ok := (fun k_ => some k_ ≠ (.slice Ao81 x206002_4.length co81 : Value).ownBlock ∧ some k_ ≠ (v230 : Value).ownBlock)) (by (with_reducible repeat (first | apply Kd.R_alloc | apply Kd.R_drewN | apply Kd.R_drew)); exact Kd.R_mono HO225.out (fun _ hk => ⟨⟨hk.1.2, hk.2⟩, hk.1.1.2⟩)) hg hat)
                   have n6_ := Aside0.mk (hb)
                   have n7_ := Aside0.mk (ho)
                   clear HO_206002
                   clear BK200
                   clear BK201
                   clear BK205
                   clear HO231
                   clear HO225
                   clear HB
                   clear HO_206001
                   have HO_206002 := n0_
                   have BK200 := n1_
                   have BK201 := n2_
                   have BK205 := n3_
                   have HO231 := n4_
                   have HO225 := n5_
                   have HB := n6_
                   have HO228 := n7_
                   clear n0_ n1_ n2_ n3_ n4_ n5_ n6_ n7_
                   clear ho hb hg hat
                   refine hK.out _ _ ⟨(blk_cell BK205.out 0).trans rfl, (blk_cell BK205.out 1).trans rfl, (blk_cell BK205.out 2).trans rfl⟩ (fun hHeld => ?_)
                   clear hK K
                   refine norm_ (a' := ?_) ?_ ?_
                   rotate_left
                   ·show Act.put _ (some 100) _ = _
                    (simp only [Act.put, List.setIfInBounds_toArray, List.set_cons_zero, List.set_cons_succ, i64_w, i32_w])
                    rfl
                   refine pure_ (i := 10) (N := some 106) (v := ?_) (a' := ?_) #[true, true, true, true, true, true, true, true, true, false, true, false, false, false] rfl rfl (any_of HT_.out (by kernel_rfl)) (fun _ _ _ h => h) (Or.inl ⟨by rfl, ?_⟩) ?_ ?_
                   rotate_left
                   ·intro w'
                    go_simp
                    with_reducible rfl
                   rotate_left
                   ·(simp only [Act.put, List.setIfInBounds_toArray, List.set_cons_zero, List.set_cons_succ, i64_w, i32_w])
                    rfl
                   exact norm_ (by simp only [putAll, Act.put, List.setIfInBounds_toArray, List.set_cons_zero, List.set_cons_succ]) (hCont (.slice Ao88 y223.length co88, v227, v230) _ ⟨hHeld, (by (with_reducible repeat (first | apply Kd.R_alloc | apply Kd.R_drewN | apply Kd.R_drew)); exact Kd.R_mono HO225.out (fun _ hk => ⟨hk.2, ⟨hk.1.2, hk.1.1⟩⟩)), (by (with_reducible repeat (first | apply Kd.R_alloc | apply Kd.R_drewN | apply Kd.R_drew)); exact Kd.R_mono HO228.out (fun _ hk => ⟨hk.2.2, ⟨hk.2.1, hk.1⟩⟩)), (by (with_reducible repeat (first | apply Kd.R_alloc | apply Kd.R_drewN | apply Kd.R_drew)); exact Kd.R_mono HO231.out (fun _ hk => ⟨hk.1.2, ⟨hk.2, hk.1.1⟩⟩)), (by (with_reducible repeat (first | apply Kd.R_alloc | apply Kd.R_drewN | apply Kd.R_drew)); exact Kd.R_mono HO_206002.out (fun _ hk => ⟨hk.1.2, ⟨hk.2, hk.1.1⟩⟩)), (rb_ BK200), (rb_ BK201), (rb_ BK205), (by repeat (first | (with_reducible first | exact HB.out | apply below_alloc | apply pw_below_drewN | apply below_drew1 | refine below_set ?_ GE200.out | refine below_set ?_ GE201.out | refine below_set ?_ GE205.out) | exact HB.out))⟩)
                 rintro ⟨v224, v227, v230⟩ w89 ⟨hS_, h0_, h1_, h2_, h3_, h4_, h5_, h6_, h7_⟩
                 have n0_ : Aside0 (Kd.R (Kd.int .i64) 3 w89 w.heap.size (fun k_ => some k_ ≠ (v227 : Value).ownBlock ∧ some k_ ≠ (v230 : Value).ownBlock ∧ some k_ ≠ (.slice Ao81 x206002_4.length co81 : Value).ownBlock) v224 y223) := ⟨h0_⟩
                 have n1_ : Aside0 (Kd.R (Kd.int .i64) 3 w89 w.heap.size (fun k_ => some k_ ≠ (v224 : Value).ownBlock ∧ some k_ ≠ (v230 : Value).ownBlock ∧ some k_ ≠ (.slice Ao81 x206002_4.length co81 : Value).ownBlock) v227 y226) := ⟨h1_⟩
                 have n2_ : Aside0 (Kd.R (Kd.int .i64) 3 w89 w.heap.size (fun k_ => some k_ ≠ (v224 : Value).ownBlock ∧ some k_ ≠ (v227 : Value).ownBlock ∧ some k_ ≠ (.slice Ao81 x206002_4.length co81 : Value).ownBlock) v230 y229) := ⟨h2_⟩
                 have n3_ : Aside0 (Kd.R (Kd.int .i64) 3 w89 w.heap.size (fun k_ => some k_ ≠ (v224 : Value).ownBlock ∧ some k_ ≠ (v227 : Value).ownBlock ∧ some k_ ≠ (v230 : Value).ownBlock) (.slice Ao81 x206002_4.length co81) x206002_4) := ⟨h3_⟩
                 have n4_ : Aside0 (w89.heap[gb200]? = some (.cells #[.int .i64 a0_0, .slice A0_1 l0_1.length c0_1, .slice A0_2 l0_2.length c0_2] 24 (0, 0))) := ⟨h4_⟩
                 have n5_ : Aside0 (w89.heap[gb201]? = some (.cells #[.int .i64 x202000_1, .slice none 0 0, .slice none 0 0] 24 (0, 0))) := ⟨h5_⟩
                 have n6_ : Aside0 (w89.heap[gb205]? = some (.cells #[.int .i64 (wrap64 (a0_0 + 1)), .slice Ao80 x206001_4.length co80, .slice Ao81 x206002_4.length co81] 24 (0, 0))) := ⟨h6_⟩
                 have n7_ : Aside0 (Below w.heap.size w w89) := ⟨h7_⟩
                 clear HO_206001
                 clear HO_206002
                 clear BK200
                 clear BK201
                 clear BK205
                 clear HB
                 clear h0_ h1_ h2_ h3_ h4_ h5_ h6_ h7_
                 have HO225 := n0_
                 have HO228 := n1_
                 have HO231 := n2_
                 have HO_206002 := n3_
                 have BK200 := n4_
                 have BK201 := n5_
                 have BK205 := n6_
                 have HB := n7_
                 clear n0_ n1_ n2_ n3_ n4_ n5_ n6_ n7_
                 have hHeld : w89.cell? ⟨gb205, 0, none⟩ = some (.int .i64 (wrap64 (a0_0 + 1))) ∧ w89.cell? ⟨gb205, 1, none⟩ = some (.slice Ao80 x206001_4.length co80) ∧ w89.cell? ⟨gb205, 2, none⟩ = some (.slice Ao81 x206002_4.length co81) := hS_
                 obtain ⟨Ao91, co91, eo91⟩ := Kd.R_slice HO231.out
                 (first | subst eo91 | (injection eo91 with f1_ f2_ f3_; have f4_ := f1_.symm; have f5_ := f3_.symm; clear f1_ f2_ f3_; subst f4_; subst f5_))
                 refine norm_ (a' := ?_) ?_ ?_
                 rotate_left
                 ·simp only [putAll, Act.put, List.setIfInBounds_toArray, List.set_cons_zero, List.set_cons_succ]
                  rfl
                 refine one_ (i := 9) (N := some 105) #[true, true, true, true, true, true, true, true, true, true, true, false, false, false] rfl rfl (one_of HT_.out (by kernel_rfl)) (by decide) (fun K hK => ?_)
                 refine Kd.R_append_rows_step (Kd.int .i64) (w0 := w) w.heap.size (by rfl) (.tmp 102) (.tmp 104) 22 3 (.int .i64 0) 8 rfl Try.underlying22 info3 rfl (by decide) (by omega) (.slice Ao81 x206002_4.length co81) x206002_4 y229 _ _ _ (fun k_ => some k_ ≠ (v224 : Value).ownBlock ∧ some k_ ≠ (v227 : Value).ownBlock ∧ some k_ ≠ (.slice Ao91 y229.length co91 : Value).ownBlock) (fun _ => False) rfl rfl ?aO ?aR (fun _ _ h => h) (fun _ h => h.elim) ?aF ?aB ?aS ?aL ?_
                 (case aR => exact rcr_ HO231)
                 (case aB => exact (by repeat (first | (with_reducible first | exact HB.out | apply below_alloc | apply pw_below_drewN | apply below_drew1 | refine below_set ?_ GE200.out | refine below_set ?_ GE201.out | refine below_set ?_ GE205.out) | exact HB.out)))
                 (case aF => exact (fun k_ hk => ⟨Kd.fresh' (Kd.R_lt (rr_ HO225)) k_ hk, Kd.fresh' (Kd.R_lt (rr_ HO228)) k_ hk, Kd.fresh' (Kd.R_lt (rr_ HO231)) k_ hk⟩))
                 (case aO => exact (rr_ HO_206002))
                 (case aS => exact (below_size (by repeat (first | (with_reducible first | exact HB.out | apply below_alloc | apply pw_below_drewN | apply below_drew1 | refine below_set ?_ GE200.out | refine below_set ?_ GE201.out | refine below_set ?_ GE205.out) | exact HB.out))))
                 (case aL => have := LMc75.out; first | omega | (simp only [List.length_take] at *; omega))
                 intro v233 w90 ho hb hg hat
                 rw [← Ny232.out] at ho
                 have n0_ := Aside0.mk (blk_grown (g := gb200) (o := .cells #[.int .i64 a0_0, .slice A0_1 l0_1.length c0_1, .slice A0_2 l0_2.length c0_2] 24 (0, 0)) (rb_ BK200) hg (Kd.R_ne HO_206002.out BK200.out (by decide)))
                 have n1_ := Aside0.mk (blk_grown (g := gb201) (o := .cells #[.int .i64 x202000_1, .slice none 0 0, .slice none 0 0] 24 (0, 0)) (rb_ BK201) hg (Kd.R_ne HO_206002.out BK201.out (by decide)))
                 have n2_ := Aside0.mk (blk_grown (g := gb205) (o := .cells #[.int .i64 (wrap64 (a0_0 + 1)), .slice Ao80 x206001_4.length co80, .slice Ao81 x206002_4.length co81] 24 (0, 0)) (rb_ BK205) hg (Kd.R_ne HO_206002.out BK205.out (by decide)))
                 have n3_ := Aside0.mk (Kd.R_after (ok := (fun k_ => some k_ ≠ (v227 : Value).ownBlock ∧ some k_ ≠ (.slice Ao91 y229.length co91 : Value).ownBlock)) (by (with_reducible repeat (first | apply Kd.R_alloc | apply Kd.R_drewN | apply Kd.R_drew)); exact Kd.R_mono HO225.out (fun _ hk => ⟨⟨hk.1, hk.2.1⟩, hk.2.2⟩)) hg hat)
                 have n4_ := Aside0.mk (Kd.R_after (ok := (fun k_ => some k_ ≠ (v224 : Value).ownBlock ∧ some k_ ≠ (.slice Ao91 y229.length co91 : Value).ownBlock)) (by (with_reducible repeat (first | apply Kd.R_alloc | apply Kd.R_drewN | apply Kd.R_drew)); exact Kd.R_mono HO228.out (fun _ hk => ⟨⟨hk.1, hk.2.1⟩, hk.2.2⟩)) hg hat)
                 have n5_ := Aside0.mk (Kd.R_after (ok := (fun k_ => some k_ ≠ (v224 : Value).ownBlock ∧ some k_ ≠ (v227 : Value).ownBlock)) (by (with_reducible repeat (first | apply Kd.R_alloc | apply Kd.R_drewN | apply Kd.R_drew)); exact Kd.R_mono HO231.out (fun _ hk => ⟨⟨hk.1, hk.2.1⟩, hk.2.2⟩)) hg hat)
                 have n6_ := Aside0.mk (hb)
                 have n7_ := Aside0.mk (ho)
                 clear BK200
                 clear BK201
                 clear BK205
                 clear HO225
                 clear HO228
                 clear HO231
                 clear HB
                 clear HO_206002
                 have BK200 := n0_
                 have BK201 := n1_
                 have BK205 := n2_
                 have HO225 := n3_
                 have HO228 := n4_
                 have HO231 := n5_
                 have HB := n6_
                 have HO234 := n7_
                 clear n0_ n1_ n2_ n3_ n4_ n5_ n6_ n7_
                 clear ho hb hg hat
                 obtain ⟨Ao92, co92, eo92⟩ := Kd.R_slice HO228.out
                 (first | subst eo92 | (injection eo92 with f1_ f2_ f3_; have f4_ := f1_.symm; have f5_ := f3_.symm; clear f1_ f2_ f3_; subst f4_; subst f5_))
                 obtain ⟨Ao94, co94, eo94⟩ := Kd.R_slice HO234.out
                 (first | subst eo94 | (injection eo94 with f1_ f2_ f3_; have f4_ := f1_.symm; have f5_ := f3_.symm; clear f1_ f2_ f3_; subst f4_; subst f5_))
                 refine hK.out _ _ ⟨(blk_cell BK205.out 0).trans rfl, (blk_cell BK205.out 1).trans rfl, (blk_cell BK205.out 2).trans rfl⟩ (fun hHeld => ?_)
                 clear hK K
                 refine norm_ (a' := ?_) ?_ ?_
                 rotate_left
                 ·show Act.put _ (some 105) _ = _
                  (simp only [Act.put, List.setIfInBounds_toArray, List.set_cons_zero, List.set_cons_succ, i64_w, i32_w])
                  rfl
                 refine last_ (i := 11) (N := none) #[true, true, true, true, true, true, true, true, true, true, true, true, false, false] rfl rfl (one_of HT_.out (by kernel_rfl)) (by decide) (fun K hK => ?_)
                 have hs93 : w90.cell? ⟨gb205, 1, none⟩ = some (.slice Ao80 x206001_4.length co80) := (blk_cell BK205.out 1).trans rfl
                 have hfs93 := blk_frozen BK205.out 1
                 have hns93_0 := NB200_205.out
                 have hns93_1 := NB201_205.out
                 have hms93_0 := NB205_200.out
                 have hms93_1 := NB205_201.out
                 refine skip_ (w1 := ?_) (by rfl) rfl ?_ ?_
                 rotate_left
                 ·go_simp
                  rfl
                 refine hK.out _ _ ?_
                 clear hK K
                 refine pure_ (i := 12) (N := some 107) (v := ?_) (a' := ?_) #[true, true, true, true, true, true, true, true, true, true, true, true, true, false] rfl rfl (any_of HT_.out (by kernel_rfl)) (fun _ _ _ h => h) (Or.inl ⟨by rfl, ?_⟩) ?_ ?_
                 rotate_left
                 ·intro w'
                  go_simp
                  with_reducible rfl
                 rotate_left
                 ·(simp only [Act.put, List.setIfInBounds_toArray, List.set_cons_zero, List.set_cons_succ, i64_w, i32_w])
                  rfl
                 refine last_ (i := 13) (N := none) #[true, true, true, true, true, true, true, true, true, true, true, true, true, true] rfl rfl (one_of HT_.out (by kernel_rfl)) (by decide) (fun K hK => ?_)
                 have hs95 : w90.cell? ⟨gb205, 2, none⟩ = some (.slice Ao81 x206002_4.length co81) := (blk_cell BK205.out 2).trans rfl
                 have hfs95 := blk_frozen BK205.out 2
                 have hns95_0 := NB200_205.out
                 have hns95_1 := NB201_205.out
                 have hms95_0 := NB205_200.out
                 have hms95_1 := NB205_201.out
                 refine skip_ (w1 := ?_) (by rfl) rfl ?_ ?_
                 rotate_left
                 ·go_simp
                  rfl
                 refine hK.out _ _ ?_
                 clear hK K
                 refine done_ (done_of HT_.out (by kernel_rfl)) ?_
                 try go_wp2
                 go_roundg k4
                 case measure => have := HK1.out; have := HJ12.out; have := HJ30.out; have := HK4.out; omega
                 case rel => exact ⟨(wrap64 (x8_4 + 1)), (y226), (y232), (.slice Ao92 y226.length co92), (.slice Ao94 y232.length co94), (by first | rfl | (simp; done) | (simp [*]; done) | (simp; omega)), H', ⟨by have := HK1.out; have := HJ12.out; have := HJ30.out; have := HK4.out; omega⟩, ⟨by (with_reducible repeat (first | apply Kd.R_alloc | apply Kd.R_drewN | apply Kd.R_drew)); exact Kd.R_mono (Kd.R_far (p := ⟨gb205, 2, none⟩) (Kd.R_far (p := ⟨gb205, 1, none⟩) (Kd.R_types HO228.out BK205.out (by decide)) (fun _ hk => hk.2) (.slice Ao92 y226.length co92)) (fun _ hk => hk.2) (.slice Ao94 y232.length co94)) (fun _ hk => hk.1.2)⟩, ⟨by (with_reducible repeat (first | apply Kd.R_alloc | apply Kd.R_drewN | apply Kd.R_drew)); exact Kd.R_mono (Kd.R_far (p := ⟨gb205, 2, none⟩) (Kd.R_far (p := ⟨gb205, 1, none⟩) (Kd.R_types HO234.out BK205.out (by decide)) (fun _ hk => hk.2) (.slice Ao92 y226.length co92)) (fun _ hk => hk.2) (.slice Ao94 y232.length co94)) (fun _ hk => hk.1.2.1)⟩, ⟨by (with_reducible repeat (first | refine blk_drewN ?_ _ | refine blk_drew ?_ | refine blk_alloc ?_ _)); refine blk_far ?_ NB200_205.out _; (with_reducible repeat (first | refine blk_drewN ?_ _ | refine blk_drew ?_ | refine blk_alloc ?_ _)); refine blk_far ?_ NB200_205.out _; (with_reducible repeat (first | refine blk_drewN ?_ _ | refine blk_drew ?_ | refine blk_alloc ?_ _)); exact BK200.out⟩, ⟨by (with_reducible repeat (first | refine blk_drewN ?_ _ | refine blk_drew ?_ | refine blk_alloc ?_ _)); refine blk_far ?_ NB201_205.out _; (with_reducible repeat (first | refine blk_drewN ?_ _ | refine blk_drew ?_ | refine blk_alloc ?_ _)); refine blk_far ?_ NB201_205.out _; (with_reducible repeat (first | refine blk_drewN ?_ _ | refine blk_drew ?_ | refine blk_alloc ?_ _)); exact BK201.out⟩, ⟨by (with_reducible repeat (first | refine blk_drewN ?_ _ | refine blk_drew ?_ | refine blk_alloc ?_ _)); refine blk_put (cs := #[.int .i64 (wrap64 (a0_0 + 1)), .slice Ao92 y226.length co92, .slice Ao81 x206002_4.length co81]) ?_ 2 _ rfl; (with_reducible repeat (first | refine blk_drewN ?_ _ | refine blk_drew ?_ | refine blk_alloc ?_ _)); refine blk_put (cs := #[.int .i64 (wrap64 (a0_0 + 1)), .slice Ao80 x206001_4.length co80, .slice Ao81 x206002_4.length co81]) ?_ 1 _ rfl; (with_reducible repeat (first | refine blk_drewN ?_ _ | refine blk_drew ?_ | refine blk_alloc ?_ _)); exact BK205.out⟩, ⟨by repeat (first | (with_reducible first | exact HB.out | apply below_alloc | apply pw_below_drewN | apply below_drew1 | refine below_set ?_ GE200.out | refine below_set ?_ GE201.out | refine below_set ?_ GE205.out) | exact HB.out)⟩⟩
                ·rw [if_neg c75] at H
                 exact absurd H (by simp)
               ·rw [if_neg c74] at H
                exact absurd H (by simp)
             ·rw [if_neg c47] at H
              exact absurd H (by simp)
            ·rw [if_neg c46] at H
             have c46b0 : decide (x8_4 < (l1.length : Int)) = false := decide_eq_false c46
             clear c46
             simp only [Option.some.injEq, Prod.mk.injEq] at H
             obtain ⟨rfl, rfl, rfl, rfl⟩ := H
             have hnb96 := NB205_200.out
             have hnc96 := NB200_205.out
             have hnb97 := NB205_201.out
             have hnc97 := NB201_205.out
             have hcz98_0 : wr.cell? ⟨gb205, 0, none⟩ = some (.int .i64 (wrap64 (a0_0 + 1))) := (blk_cell BK205.out 0).trans rfl
             have hcz98_1 : wr.cell? ⟨gb205, 1, none⟩ = some (u206001) := (blk_cell BK205.out 1).trans rfl
             have hcz98_2 : wr.cell? ⟨gb205, 2, none⟩ = some (u206002) := (blk_cell BK205.out 2).trans rfl
             have hfz98_0 := blk_frozen BK205.out 0
             have hfz98_1 := blk_frozen BK205.out 1
             have hfz98_2 := blk_frozen BK205.out 2
             have hnb99 := NB201_200.out
             have hnc99 := NB200_201.out
             have hcz100_0 : wr.cell? ⟨gb201, 0, none⟩ = some (.int .i64 x202000_1) := (blk_cell BK201.out 0).trans rfl
             have hcz100_1 : wr.cell? ⟨gb201, 1, none⟩ = some (.slice none 0 0) := (blk_cell BK201.out 1).trans rfl
             have hcz100_2 : wr.cell? ⟨gb201, 2, none⟩ = some (.slice none 0 0) := (blk_cell BK201.out 2).trans rfl
             have hfz100_0 := blk_frozen BK201.out 0
             have hfz100_1 := blk_frozen BK201.out 1
             have hfz100_2 := blk_frozen BK201.out 2
             obtain ⟨Ao101, co101, eo101⟩ := Kd.R_slice HO_206001.out
             subst eo101
             obtain ⟨Ao102, co102, eo102⟩ := Kd.R_slice HO_206002.out
             subst eo102
             go_wp2
             refine bodyPost_ret (results_ct rfl _ _ gb201 24 #[.int .i64 (wrap64 (a0_0 + 1)), .slice Ao101 x206001_4.length co101, .slice Ao102 x206002_4.length co102] (0, 0) _ rfl (by (with_reducible repeat (first | refine blk_drewN ?_ _ | refine blk_drew ?_ | refine blk_alloc ?_ _)); refine blk_put (cs := #[.int .i64 (wrap64 (a0_0 + 1)), .slice Ao101 x206001_4.length co101, .slice none 0 0]) ?_ 2 _ rfl; (with_reducible repeat (first | refine blk_drewN ?_ _ | refine blk_drew ?_ | refine blk_alloc ?_ _)); refine blk_put (cs := #[.int .i64 (wrap64 (a0_0 + 1)), .slice none 0 0, .slice none 0 0]) ?_ 1 _ rfl; (with_reducible repeat (first | refine blk_drewN ?_ _ | refine blk_drew ?_ | refine blk_alloc ?_ _)); refine blk_put (cs := #[.int .i64 x202000_1, .slice none 0 0, .slice none 0 0]) ?_ 0 _ rfl; (with_reducible repeat (first | refine blk_drewN ?_ _ | refine blk_drew ?_ | refine blk_alloc ?_ _)); exact BK201.out) Try.underlying24 rfl (by kernel_rfl)) rfl ?_
             exact ⟨_, _, by first | rfl | (simp [errW_none, errW_some] <;> rfl) | (simp [*, errW_none, errW_some] <;> rfl), by (with_reducible repeat (first | apply Kd.R_alloc | apply Kd.R_drewN | apply Kd.R_drew)); exact Kd.R_mono (Kd.R_far (p := ⟨gb201, 2, none⟩) (Kd.R_far (p := ⟨gb201, 1, none⟩) (Kd.R_far (p := ⟨gb201, 0, none⟩) (Kd.R_types HO_206001.out BK201.out (by decide)) (fun _ hk => hk.2) (.int .i64 (wrap64 (a0_0 + 1)))) (fun _ hk => hk.2) (.slice Ao101 x206001_4.length co101)) (fun _ hk => hk.2) (.slice Ao102 x206002_4.length co102)) (fun _ hk => hk.1), by (with_reducible repeat (first | apply Kd.R_alloc | apply Kd.R_drewN | apply Kd.R_drew)); exact Kd.R_mono (Kd.R_far (p := ⟨gb201, 2, none⟩) (Kd.R_far (p := ⟨gb201, 1, none⟩) (Kd.R_far (p := ⟨gb201, 0, none⟩) (Kd.R_types HO_206002.out BK201.out (by decide)) (fun _ hk => hk.2) (.int .i64 (wrap64 (a0_0 + 1)))) (fun _ hk => hk.2) (.slice Ao101 x206001_4.length co101)) (fun _ hk => hk.2) (.slice Ao102 x206002_4.length co102)) (fun _ hk => hk.1), by repeat (first | (with_reducible first | exact HB.out | apply below_alloc | apply pw_below_drewN | apply below_drew1 | refine below_set ?_ GE200.out | refine below_set ?_ GE201.out | refine below_set ?_ GE205.out) | exact HB.out)⟩

end Go.Proofs.Ytbohanoekboifaa.PG3
