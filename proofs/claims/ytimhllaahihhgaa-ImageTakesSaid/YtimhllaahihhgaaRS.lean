/- The reference's Take at bytes that are no image from their mark on. No condition but the hypotheses that each theorem states. -/
import Derived.Test.YtimhllaahihhgaaRL
namespace Go.Proofs.Ytimhllaahihhgaa.PA
open Go.RowKit Go.Proofs.YtimhllaahihhgaaW.PrintWords Go.Proofs.YtimhllaahihhgaaW.PrintLast Go.Proofs.YtimhllaahihhgaaW.PrintMore
set_option linter.unusedVariables false
set_option linter.unusedSimpArgs false
theorem mag0 : ((ByteArray.mk #[77, 83, 75, 49])[0]'(by decide)).toNat = 77 := rfl
theorem mag1 : ((ByteArray.mk #[77, 83, 75, 49])[1]'(by decide)).toNat = 83 := rfl
theorem mag2 : ((ByteArray.mk #[77, 83, 75, 49])[2]'(by decide)).toNat = 75 := rfl
theorem mag3 : ((ByteArray.mk #[77, 83, 75, 49])[3]'(by decide)).toNat = 49 := rfl
attribute [local go_sem] mag0 mag1 mag2 mag3
theorem at_u8z {w : World} {ad : Addr} {n : Nat} {l : List Int} (hC : Kd.C (Kd.int .u8) w (some ad) n l) (hi : 0 < n) (x : Int) (hx : rd l 0 = x) : w.cell? ad = some (.int .u8 x) := by
  obtain ⟨ad0, e0, hx0⟩ := Kd.at_int hC 0 (by omega) (by omega)
  cases e0
  subst hx
  exact cell_zero hx0
theorem at_u8 {w : World} {ad : Addr} {n : Nat} {l : List Int} (hC : Kd.C (Kd.int .u8) w (some ad) n l) (i : Nat) (h0 : 0 < i) (hi : i < n) (x : Int) (hx : rd l (i : Int) = x) : w.cell? ⟨ad.block, ad.off + i, none⟩ = some (.int .u8 x) := by
  obtain ⟨ad0, e0, hx0⟩ := Kd.at_int hC (i : Int) (by omega) (by omega)
  cases e0
  subst hx
  have h2 := cell_plain (by simp; omega) hx0
  simpa using h2
set_option maxHeartbeats 8000000 in
set_option maxRecDepth 100000 in
theorem refTake_S0 (A0 : Option Addr) (c0 : Nat) (l0 : List Int) (w : World) (hr0 : Kd.C (Kd.int .u8) w A0 l0.length l0) (hl : l0.length = 0) :
    Calls Try.prog 12 #[.slice A0 l0.length c0] w fun e w' => ∃ v0_ v1_ v2_ v3_ : Value, e = .returned (.tuple #[v0_, .agg #[.int .i64 0, .int .i64 0, .int .i64 0, .int .i64 0, v1_, v2_, v3_], .int .i64 3]) ∧
      Kd.R (Kd.int .u16) 32 w' w.heap.size (fun _ => True) v0_ [] ∧ Kd.R k26 26 w' w.heap.size (fun k_ => some k_ ≠ (v2_ : Value).ownBlock ∧ some k_ ≠ (v3_ : Value).ownBlock) v1_ [] ∧ Kd.R k26 26 w' w.heap.size (fun k_ => some k_ ≠ (v1_ : Value).ownBlock ∧ some k_ ≠ (v3_ : Value).ownBlock) v2_ [] ∧ Kd.R k26 26 w' w.heap.size (fun k_ => some k_ ≠ (v1_ : Value).ownBlock ∧ some k_ ≠ (v2_ : Value).ownBlock) v3_ [] ∧ Below w.heap.size w w' := by
  have hu36 := Try.underlying36
  have HZ := Aside0.mk (heap_alloc_new w (.cells #[.int .i64 0, .int .i64 0, .int .i64 0, .int .i64 0, .slice none 0 0, .slice none 0 0, .slice none 0 0] 36))
  have HB := Aside0.mk (below_alloc (Below.refl w.heap.size w) (.cells #[.int .i64 0, .int .i64 0, .int .i64 0, .int .i64 0, .slice none 0 0, .slice none 0 0, .slice none 0 0] 36))
  have e1 : (l0.length : Int) = 0 := by omega
  clear hr0
  go_enter Try.func12, Try.ntmps12
  go_wp2_with (first | ((with_reducible refine wp_loop_rounds 100 ?_); rw [rounds_succ]) | ((with_reducible rw [rounds_succ])))
  repeat (go_quiet (fail); try (go_wp2_with (first | ((with_reducible refine wp_loop_rounds 100 ?_); rw [rounds_succ]) | ((with_reducible rw [rounds_succ])))))
  refine bodyPost_ret (results_list (rs := [.tmp 2, .cell 3 36, .tmp 4]) rfl (by simp) (.tmp (.cell w.heap.size 36 #[.int .i64 0, .int .i64 0, .int .i64 0, .int .i64 0, .slice none 0 0, .slice none 0 0, .slice none 0 0] (0, 0) _ rfl HZ.out hu36 rfl (by kernel_rfl) (.tmp .nil)))) rfl ?_
  exact ⟨_, _, _, _, rfl, Kd.R_nil _ _ _ _ _, Kd.R_nil _ _ _ _ _, Kd.R_nil _ _ _ _ _, Kd.R_nil _ _ _ _ _, HB.out⟩
set_option maxHeartbeats 8000000 in
set_option maxRecDepth 100000 in
theorem refTake_M0 (A0 : Option Addr) (c0 : Nat) (l0 : List Int) (w : World) (hr0 : Kd.C (Kd.int .u8) w A0 l0.length l0) (hl : 0 < l0.length) (hm : rd l0 0 ≠ 77) :
    Calls Try.prog 12 #[.slice A0 l0.length c0] w fun e w' => ∃ v0_ v1_ v2_ v3_ : Value, e = .returned (.tuple #[v0_, .agg #[.int .i64 0, .int .i64 0, .int .i64 0, .int .i64 0, v1_, v2_, v3_], .int .i64 4]) ∧
      Kd.R (Kd.int .u16) 32 w' w.heap.size (fun _ => True) v0_ [] ∧ Kd.R k26 26 w' w.heap.size (fun k_ => some k_ ≠ (v2_ : Value).ownBlock ∧ some k_ ≠ (v3_ : Value).ownBlock) v1_ [] ∧ Kd.R k26 26 w' w.heap.size (fun k_ => some k_ ≠ (v1_ : Value).ownBlock ∧ some k_ ≠ (v3_ : Value).ownBlock) v2_ [] ∧ Kd.R k26 26 w' w.heap.size (fun k_ => some k_ ≠ (v1_ : Value).ownBlock ∧ some k_ ≠ (v2_ : Value).ownBlock) v3_ [] ∧ Below w.heap.size w w' := by
  have hu36 := Try.underlying36
  have HZ := Aside0.mk (heap_alloc_new w (.cells #[.int .i64 0, .int .i64 0, .int .i64 0, .int .i64 0, .slice none 0 0, .slice none 0 0, .slice none 0 0] 36))
  have HB := Aside0.mk (below_alloc (Below.refl w.heap.size w) (.cells #[.int .i64 0, .int .i64 0, .int .i64 0, .int .i64 0, .slice none 0 0, .slice none 0 0, .slice none 0 0] 36))
  obtain ⟨ad, rfl, _⟩ := hr0.2.2 (by omega)
  have hb0 := below_alloc (Below.refl w.heap.size w) (.cells #[.int .i64 0, .int .i64 0, .int .i64 0, .int .i64 0, .slice none 0 0, .slice none 0 0, .slice none 0 0] 36)
  have x00 := keepc_ (at_u8z hr0 (by omega) (rd l0 0) rfl) hb0
  have x0 : (w.alloc (.cells #[.int .i64 0, .int .i64 0, .int .i64 0, .int .i64 0, .slice none 0 0, .slice none 0 0, .slice none 0 0] 36)).cell? ad = some (.int .u8 (rd l0 0)) := x00
  clear x00
  clear hb0
  have q0 : ((0 : Int) < (l0.length : Int)) = True := eq_true (by omega)
  have r0 : ((l0.length : Int) ≤ 0) = False := eq_false (by omega)
  have s0 : (0 < l0.length) = True := eq_true (by omega)
  have t0 : (l0.length ≤ 0) = False := eq_false (by omega)
  have n1 : (l0 = []) = False := eq_false (fun h => by subst h; simp at hl)
  have m1 : (rd l0 0 = 77) = False := eq_false hm
  have m2 : decide (rd l0 0 = 77) = false := decide_eq_false hm
  have m3 : (rd l0 0 != 77) = true := by simpa using hm
  clear hr0
  go_enter Try.func12, Try.ntmps12
  go_wp2_with (first | ((with_reducible refine wp_loop_rounds 100 ?_); rw [rounds_succ]) | ((with_reducible rw [rounds_succ])))
  repeat (go_quiet (fail); try (go_wp2_with (first | ((with_reducible refine wp_loop_rounds 100 ?_); rw [rounds_succ]) | ((with_reducible rw [rounds_succ])))))
  refine bodyPost_ret (results_list (rs := [.tmp 2, .cell 3 36, .tmp 4]) rfl (by simp) (.tmp (.cell w.heap.size 36 #[.int .i64 0, .int .i64 0, .int .i64 0, .int .i64 0, .slice none 0 0, .slice none 0 0, .slice none 0 0] (0, 0) _ rfl (seven (blk_drewN HZ.out _) (.int .i64 0) (.int .i64 0) (.int .i64 0) (.int .i64 0) (.slice none 0 0) (.slice none 0 0) (.slice none 0 0)) hu36 rfl (by kernel_rfl) (.tmp .nil)))) rfl ?_
  exact ⟨_, _, _, _, rfl, Kd.R_nil _ _ _ _ _, Kd.R_nil _ _ _ _ _, Kd.R_nil _ _ _ _ _, Kd.R_nil _ _ _ _ _, (below_seven (pw_below_drewN HB.out _) (Nat.le_refl _) (.int .i64 0) (.int .i64 0) (.int .i64 0) (.int .i64 0) (.slice none 0 0) (.slice none 0 0) (.slice none 0 0))⟩
set_option maxHeartbeats 8000000 in
set_option maxRecDepth 100000 in
theorem refTake_S1 (A0 : Option Addr) (c0 : Nat) (l0 : List Int) (w : World) (hr0 : Kd.C (Kd.int .u8) w A0 l0.length l0) (hl : l0.length = 1) (h0 : rd l0 0 = 77) :
    Calls Try.prog 12 #[.slice A0 l0.length c0] w fun e w' => ∃ v0_ v1_ v2_ v3_ : Value, e = .returned (.tuple #[v0_, .agg #[.int .i64 0, .int .i64 0, .int .i64 0, .int .i64 0, v1_, v2_, v3_], .int .i64 3]) ∧
      Kd.R (Kd.int .u16) 32 w' w.heap.size (fun _ => True) v0_ [] ∧ Kd.R k26 26 w' w.heap.size (fun k_ => some k_ ≠ (v2_ : Value).ownBlock ∧ some k_ ≠ (v3_ : Value).ownBlock) v1_ [] ∧ Kd.R k26 26 w' w.heap.size (fun k_ => some k_ ≠ (v1_ : Value).ownBlock ∧ some k_ ≠ (v3_ : Value).ownBlock) v2_ [] ∧ Kd.R k26 26 w' w.heap.size (fun k_ => some k_ ≠ (v1_ : Value).ownBlock ∧ some k_ ≠ (v2_ : Value).ownBlock) v3_ [] ∧ Below w.heap.size w w' := by
  have hu36 := Try.underlying36
  have HZ := Aside0.mk (heap_alloc_new w (.cells #[.int .i64 0, .int .i64 0, .int .i64 0, .int .i64 0, .slice none 0 0, .slice none 0 0, .slice none 0 0] 36))
  have HB := Aside0.mk (below_alloc (Below.refl w.heap.size w) (.cells #[.int .i64 0, .int .i64 0, .int .i64 0, .int .i64 0, .slice none 0 0, .slice none 0 0, .slice none 0 0] 36))
  obtain ⟨ad, rfl, _⟩ := hr0.2.2 (by omega)
  have hb0 := below_alloc (Below.refl w.heap.size w) (.cells #[.int .i64 0, .int .i64 0, .int .i64 0, .int .i64 0, .slice none 0 0, .slice none 0 0, .slice none 0 0] 36)
  have x00 := keepc_ (at_u8z hr0 (by omega) 77 h0) hb0
  have x0 : (w.alloc (.cells #[.int .i64 0, .int .i64 0, .int .i64 0, .int .i64 0, .slice none 0 0, .slice none 0 0, .slice none 0 0] 36)).cell? ad = some (.int .u8 77) := x00
  clear x00
  clear hb0
  have q0 : ((0 : Int) < (l0.length : Int)) = True := eq_true (by omega)
  have r0 : ((l0.length : Int) ≤ 0) = False := eq_false (by omega)
  have s0 : (0 < l0.length) = True := eq_true (by omega)
  have t0 : (l0.length ≤ 0) = False := eq_false (by omega)
  have n1 : (l0 = []) = False := eq_false (fun h => by subst h; simp at hl)
  have e1 : (l0.length : Int) = 1 := by omega
  clear hr0
  go_enter Try.func12, Try.ntmps12
  go_wp2_with (first | ((with_reducible refine wp_loop_rounds 100 ?_); rw [rounds_succ]) | ((with_reducible rw [rounds_succ])))
  repeat (go_quiet (fail); try (go_wp2_with (first | ((with_reducible refine wp_loop_rounds 100 ?_); rw [rounds_succ]) | ((with_reducible rw [rounds_succ])))))
  refine bodyPost_ret (results_list (rs := [.tmp 2, .cell 3 36, .tmp 4]) rfl (by simp) (.tmp (.cell w.heap.size 36 #[.int .i64 0, .int .i64 0, .int .i64 0, .int .i64 0, .slice none 0 0, .slice none 0 0, .slice none 0 0] (0, 0) _ rfl (seven (blk_drewN HZ.out _) (.int .i64 0) (.int .i64 0) (.int .i64 0) (.int .i64 0) (.slice none 0 0) (.slice none 0 0) (.slice none 0 0)) hu36 rfl (by kernel_rfl) (.tmp .nil)))) rfl ?_
  exact ⟨_, _, _, _, rfl, Kd.R_nil _ _ _ _ _, Kd.R_nil _ _ _ _ _, Kd.R_nil _ _ _ _ _, Kd.R_nil _ _ _ _ _, (below_seven (pw_below_drewN HB.out _) (Nat.le_refl _) (.int .i64 0) (.int .i64 0) (.int .i64 0) (.int .i64 0) (.slice none 0 0) (.slice none 0 0) (.slice none 0 0))⟩
set_option maxHeartbeats 8000000 in
set_option maxRecDepth 100000 in
theorem refTake_M1 (A0 : Option Addr) (c0 : Nat) (l0 : List Int) (w : World) (hr0 : Kd.C (Kd.int .u8) w A0 l0.length l0) (hl : 1 < l0.length) (hm : rd l0 1 ≠ 83) (h0 : rd l0 0 = 77) :
    Calls Try.prog 12 #[.slice A0 l0.length c0] w fun e w' => ∃ v0_ v1_ v2_ v3_ : Value, e = .returned (.tuple #[v0_, .agg #[.int .i64 0, .int .i64 0, .int .i64 0, .int .i64 0, v1_, v2_, v3_], .int .i64 4]) ∧
      Kd.R (Kd.int .u16) 32 w' w.heap.size (fun _ => True) v0_ [] ∧ Kd.R k26 26 w' w.heap.size (fun k_ => some k_ ≠ (v2_ : Value).ownBlock ∧ some k_ ≠ (v3_ : Value).ownBlock) v1_ [] ∧ Kd.R k26 26 w' w.heap.size (fun k_ => some k_ ≠ (v1_ : Value).ownBlock ∧ some k_ ≠ (v3_ : Value).ownBlock) v2_ [] ∧ Kd.R k26 26 w' w.heap.size (fun k_ => some k_ ≠ (v1_ : Value).ownBlock ∧ some k_ ≠ (v2_ : Value).ownBlock) v3_ [] ∧ Below w.heap.size w w' := by
  have hu36 := Try.underlying36
  have HZ := Aside0.mk (heap_alloc_new w (.cells #[.int .i64 0, .int .i64 0, .int .i64 0, .int .i64 0, .slice none 0 0, .slice none 0 0, .slice none 0 0] 36))
  have HB := Aside0.mk (below_alloc (Below.refl w.heap.size w) (.cells #[.int .i64 0, .int .i64 0, .int .i64 0, .int .i64 0, .slice none 0 0, .slice none 0 0, .slice none 0 0] 36))
  obtain ⟨ad, rfl, _⟩ := hr0.2.2 (by omega)
  have hb0 := below_alloc (Below.refl w.heap.size w) (.cells #[.int .i64 0, .int .i64 0, .int .i64 0, .int .i64 0, .slice none 0 0, .slice none 0 0, .slice none 0 0] 36)
  have x00 := keepc_ (at_u8z hr0 (by omega) 77 h0) hb0
  have x0 : (w.alloc (.cells #[.int .i64 0, .int .i64 0, .int .i64 0, .int .i64 0, .slice none 0 0, .slice none 0 0, .slice none 0 0] 36)).cell? ad = some (.int .u8 77) := x00
  clear x00
  have x10 := keepc_ (at_u8 hr0 1 (by omega) (by omega) (rd l0 1) rfl) hb0
  have x1 : (w.alloc (.cells #[.int .i64 0, .int .i64 0, .int .i64 0, .int .i64 0, .slice none 0 0, .slice none 0 0, .slice none 0 0] 36)).cell? ⟨ad.block, ad.off + 1, none⟩ = some (.int .u8 (rd l0 1)) := x10
  clear x10
  clear hb0
  have q0 : ((0 : Int) < (l0.length : Int)) = True := eq_true (by omega)
  have r0 : ((l0.length : Int) ≤ 0) = False := eq_false (by omega)
  have s0 : (0 < l0.length) = True := eq_true (by omega)
  have t0 : (l0.length ≤ 0) = False := eq_false (by omega)
  have q1 : ((1 : Int) < (l0.length : Int)) = True := eq_true (by omega)
  have r1 : ((l0.length : Int) ≤ 1) = False := eq_false (by omega)
  have s1 : (1 < l0.length) = True := eq_true (by omega)
  have t1 : (l0.length ≤ 1) = False := eq_false (by omega)
  have n1 : (l0 = []) = False := eq_false (fun h => by subst h; simp at hl)
  have m1 : (rd l0 1 = 83) = False := eq_false hm
  have m2 : decide (rd l0 1 = 83) = false := decide_eq_false hm
  have m3 : (rd l0 1 != 83) = true := by simpa using hm
  clear hr0
  go_enter Try.func12, Try.ntmps12
  go_wp2_with (first | ((with_reducible refine wp_loop_rounds 100 ?_); rw [rounds_succ]) | ((with_reducible rw [rounds_succ])))
  repeat (go_quiet (fail); try (go_wp2_with (first | ((with_reducible refine wp_loop_rounds 100 ?_); rw [rounds_succ]) | ((with_reducible rw [rounds_succ])))))
  refine bodyPost_ret (results_list (rs := [.tmp 2, .cell 3 36, .tmp 4]) rfl (by simp) (.tmp (.cell w.heap.size 36 #[.int .i64 0, .int .i64 0, .int .i64 0, .int .i64 0, .slice none 0 0, .slice none 0 0, .slice none 0 0] (0, 0) _ rfl (seven (blk_drewN HZ.out _) (.int .i64 0) (.int .i64 0) (.int .i64 0) (.int .i64 0) (.slice none 0 0) (.slice none 0 0) (.slice none 0 0)) hu36 rfl (by kernel_rfl) (.tmp .nil)))) rfl ?_
  exact ⟨_, _, _, _, rfl, Kd.R_nil _ _ _ _ _, Kd.R_nil _ _ _ _ _, Kd.R_nil _ _ _ _ _, Kd.R_nil _ _ _ _ _, (below_seven (pw_below_drewN HB.out _) (Nat.le_refl _) (.int .i64 0) (.int .i64 0) (.int .i64 0) (.int .i64 0) (.slice none 0 0) (.slice none 0 0) (.slice none 0 0))⟩
set_option maxHeartbeats 8000000 in
set_option maxRecDepth 100000 in
theorem refTake_S2 (A0 : Option Addr) (c0 : Nat) (l0 : List Int) (w : World) (hr0 : Kd.C (Kd.int .u8) w A0 l0.length l0) (hl : l0.length = 2) (h0 : rd l0 0 = 77) (h1 : rd l0 1 = 83) :
    Calls Try.prog 12 #[.slice A0 l0.length c0] w fun e w' => ∃ v0_ v1_ v2_ v3_ : Value, e = .returned (.tuple #[v0_, .agg #[.int .i64 0, .int .i64 0, .int .i64 0, .int .i64 0, v1_, v2_, v3_], .int .i64 3]) ∧
      Kd.R (Kd.int .u16) 32 w' w.heap.size (fun _ => True) v0_ [] ∧ Kd.R k26 26 w' w.heap.size (fun k_ => some k_ ≠ (v2_ : Value).ownBlock ∧ some k_ ≠ (v3_ : Value).ownBlock) v1_ [] ∧ Kd.R k26 26 w' w.heap.size (fun k_ => some k_ ≠ (v1_ : Value).ownBlock ∧ some k_ ≠ (v3_ : Value).ownBlock) v2_ [] ∧ Kd.R k26 26 w' w.heap.size (fun k_ => some k_ ≠ (v1_ : Value).ownBlock ∧ some k_ ≠ (v2_ : Value).ownBlock) v3_ [] ∧ Below w.heap.size w w' := by
  have hu36 := Try.underlying36
  have HZ := Aside0.mk (heap_alloc_new w (.cells #[.int .i64 0, .int .i64 0, .int .i64 0, .int .i64 0, .slice none 0 0, .slice none 0 0, .slice none 0 0] 36))
  have HB := Aside0.mk (below_alloc (Below.refl w.heap.size w) (.cells #[.int .i64 0, .int .i64 0, .int .i64 0, .int .i64 0, .slice none 0 0, .slice none 0 0, .slice none 0 0] 36))
  obtain ⟨ad, rfl, _⟩ := hr0.2.2 (by omega)
  have hb0 := below_alloc (Below.refl w.heap.size w) (.cells #[.int .i64 0, .int .i64 0, .int .i64 0, .int .i64 0, .slice none 0 0, .slice none 0 0, .slice none 0 0] 36)
  have x00 := keepc_ (at_u8z hr0 (by omega) 77 h0) hb0
  have x0 : (w.alloc (.cells #[.int .i64 0, .int .i64 0, .int .i64 0, .int .i64 0, .slice none 0 0, .slice none 0 0, .slice none 0 0] 36)).cell? ad = some (.int .u8 77) := x00
  clear x00
  have x10 := keepc_ (at_u8 hr0 1 (by omega) (by omega) 83 h1) hb0
  have x1 : (w.alloc (.cells #[.int .i64 0, .int .i64 0, .int .i64 0, .int .i64 0, .slice none 0 0, .slice none 0 0, .slice none 0 0] 36)).cell? ⟨ad.block, ad.off + 1, none⟩ = some (.int .u8 83) := x10
  clear x10
  clear hb0
  have q0 : ((0 : Int) < (l0.length : Int)) = True := eq_true (by omega)
  have r0 : ((l0.length : Int) ≤ 0) = False := eq_false (by omega)
  have s0 : (0 < l0.length) = True := eq_true (by omega)
  have t0 : (l0.length ≤ 0) = False := eq_false (by omega)
  have q1 : ((1 : Int) < (l0.length : Int)) = True := eq_true (by omega)
  have r1 : ((l0.length : Int) ≤ 1) = False := eq_false (by omega)
  have s1 : (1 < l0.length) = True := eq_true (by omega)
  have t1 : (l0.length ≤ 1) = False := eq_false (by omega)
  have n1 : (l0 = []) = False := eq_false (fun h => by subst h; simp at hl)
  have e1 : (l0.length : Int) = 2 := by omega
  clear hr0
  go_enter Try.func12, Try.ntmps12
  go_wp2_with (first | ((with_reducible refine wp_loop_rounds 100 ?_); rw [rounds_succ]) | ((with_reducible rw [rounds_succ])))
  repeat (go_quiet (fail); try (go_wp2_with (first | ((with_reducible refine wp_loop_rounds 100 ?_); rw [rounds_succ]) | ((with_reducible rw [rounds_succ])))))
  refine bodyPost_ret (results_list (rs := [.tmp 2, .cell 3 36, .tmp 4]) rfl (by simp) (.tmp (.cell w.heap.size 36 #[.int .i64 0, .int .i64 0, .int .i64 0, .int .i64 0, .slice none 0 0, .slice none 0 0, .slice none 0 0] (0, 0) _ rfl (seven (blk_drewN HZ.out _) (.int .i64 0) (.int .i64 0) (.int .i64 0) (.int .i64 0) (.slice none 0 0) (.slice none 0 0) (.slice none 0 0)) hu36 rfl (by kernel_rfl) (.tmp .nil)))) rfl ?_
  exact ⟨_, _, _, _, rfl, Kd.R_nil _ _ _ _ _, Kd.R_nil _ _ _ _ _, Kd.R_nil _ _ _ _ _, Kd.R_nil _ _ _ _ _, (below_seven (pw_below_drewN HB.out _) (Nat.le_refl _) (.int .i64 0) (.int .i64 0) (.int .i64 0) (.int .i64 0) (.slice none 0 0) (.slice none 0 0) (.slice none 0 0))⟩
set_option maxHeartbeats 8000000 in
set_option maxRecDepth 100000 in
theorem refTake_M2 (A0 : Option Addr) (c0 : Nat) (l0 : List Int) (w : World) (hr0 : Kd.C (Kd.int .u8) w A0 l0.length l0) (hl : 2 < l0.length) (hm : rd l0 2 ≠ 75) (h0 : rd l0 0 = 77) (h1 : rd l0 1 = 83) :
    Calls Try.prog 12 #[.slice A0 l0.length c0] w fun e w' => ∃ v0_ v1_ v2_ v3_ : Value, e = .returned (.tuple #[v0_, .agg #[.int .i64 0, .int .i64 0, .int .i64 0, .int .i64 0, v1_, v2_, v3_], .int .i64 4]) ∧
      Kd.R (Kd.int .u16) 32 w' w.heap.size (fun _ => True) v0_ [] ∧ Kd.R k26 26 w' w.heap.size (fun k_ => some k_ ≠ (v2_ : Value).ownBlock ∧ some k_ ≠ (v3_ : Value).ownBlock) v1_ [] ∧ Kd.R k26 26 w' w.heap.size (fun k_ => some k_ ≠ (v1_ : Value).ownBlock ∧ some k_ ≠ (v3_ : Value).ownBlock) v2_ [] ∧ Kd.R k26 26 w' w.heap.size (fun k_ => some k_ ≠ (v1_ : Value).ownBlock ∧ some k_ ≠ (v2_ : Value).ownBlock) v3_ [] ∧ Below w.heap.size w w' := by
  have hu36 := Try.underlying36
  have HZ := Aside0.mk (heap_alloc_new w (.cells #[.int .i64 0, .int .i64 0, .int .i64 0, .int .i64 0, .slice none 0 0, .slice none 0 0, .slice none 0 0] 36))
  have HB := Aside0.mk (below_alloc (Below.refl w.heap.size w) (.cells #[.int .i64 0, .int .i64 0, .int .i64 0, .int .i64 0, .slice none 0 0, .slice none 0 0, .slice none 0 0] 36))
  obtain ⟨ad, rfl, _⟩ := hr0.2.2 (by omega)
  have hb0 := below_alloc (Below.refl w.heap.size w) (.cells #[.int .i64 0, .int .i64 0, .int .i64 0, .int .i64 0, .slice none 0 0, .slice none 0 0, .slice none 0 0] 36)
  have x00 := keepc_ (at_u8z hr0 (by omega) 77 h0) hb0
  have x0 : (w.alloc (.cells #[.int .i64 0, .int .i64 0, .int .i64 0, .int .i64 0, .slice none 0 0, .slice none 0 0, .slice none 0 0] 36)).cell? ad = some (.int .u8 77) := x00
  clear x00
  have x10 := keepc_ (at_u8 hr0 1 (by omega) (by omega) 83 h1) hb0
  have x1 : (w.alloc (.cells #[.int .i64 0, .int .i64 0, .int .i64 0, .int .i64 0, .slice none 0 0, .slice none 0 0, .slice none 0 0] 36)).cell? ⟨ad.block, ad.off + 1, none⟩ = some (.int .u8 83) := x10
  clear x10
  have x20 := keepc_ (at_u8 hr0 2 (by omega) (by omega) (rd l0 2) rfl) hb0
  have x2 : (w.alloc (.cells #[.int .i64 0, .int .i64 0, .int .i64 0, .int .i64 0, .slice none 0 0, .slice none 0 0, .slice none 0 0] 36)).cell? ⟨ad.block, ad.off + 2, none⟩ = some (.int .u8 (rd l0 2)) := x20
  clear x20
  clear hb0
  have q0 : ((0 : Int) < (l0.length : Int)) = True := eq_true (by omega)
  have r0 : ((l0.length : Int) ≤ 0) = False := eq_false (by omega)
  have s0 : (0 < l0.length) = True := eq_true (by omega)
  have t0 : (l0.length ≤ 0) = False := eq_false (by omega)
  have q1 : ((1 : Int) < (l0.length : Int)) = True := eq_true (by omega)
  have r1 : ((l0.length : Int) ≤ 1) = False := eq_false (by omega)
  have s1 : (1 < l0.length) = True := eq_true (by omega)
  have t1 : (l0.length ≤ 1) = False := eq_false (by omega)
  have q2 : ((2 : Int) < (l0.length : Int)) = True := eq_true (by omega)
  have r2 : ((l0.length : Int) ≤ 2) = False := eq_false (by omega)
  have s2 : (2 < l0.length) = True := eq_true (by omega)
  have t2 : (l0.length ≤ 2) = False := eq_false (by omega)
  have n1 : (l0 = []) = False := eq_false (fun h => by subst h; simp at hl)
  have m1 : (rd l0 2 = 75) = False := eq_false hm
  have m2 : decide (rd l0 2 = 75) = false := decide_eq_false hm
  have m3 : (rd l0 2 != 75) = true := by simpa using hm
  clear hr0
  go_enter Try.func12, Try.ntmps12
  go_wp2_with (first | ((with_reducible refine wp_loop_rounds 100 ?_); rw [rounds_succ]) | ((with_reducible rw [rounds_succ])))
  repeat (go_quiet (fail); try (go_wp2_with (first | ((with_reducible refine wp_loop_rounds 100 ?_); rw [rounds_succ]) | ((with_reducible rw [rounds_succ])))))
  refine bodyPost_ret (results_list (rs := [.tmp 2, .cell 3 36, .tmp 4]) rfl (by simp) (.tmp (.cell w.heap.size 36 #[.int .i64 0, .int .i64 0, .int .i64 0, .int .i64 0, .slice none 0 0, .slice none 0 0, .slice none 0 0] (0, 0) _ rfl (seven (blk_drewN HZ.out _) (.int .i64 0) (.int .i64 0) (.int .i64 0) (.int .i64 0) (.slice none 0 0) (.slice none 0 0) (.slice none 0 0)) hu36 rfl (by kernel_rfl) (.tmp .nil)))) rfl ?_
  exact ⟨_, _, _, _, rfl, Kd.R_nil _ _ _ _ _, Kd.R_nil _ _ _ _ _, Kd.R_nil _ _ _ _ _, Kd.R_nil _ _ _ _ _, (below_seven (pw_below_drewN HB.out _) (Nat.le_refl _) (.int .i64 0) (.int .i64 0) (.int .i64 0) (.int .i64 0) (.slice none 0 0) (.slice none 0 0) (.slice none 0 0))⟩
set_option maxHeartbeats 8000000 in
set_option maxRecDepth 100000 in
theorem refTake_S3 (A0 : Option Addr) (c0 : Nat) (l0 : List Int) (w : World) (hr0 : Kd.C (Kd.int .u8) w A0 l0.length l0) (hl : l0.length = 3) (h0 : rd l0 0 = 77) (h1 : rd l0 1 = 83) (h2 : rd l0 2 = 75) :
    Calls Try.prog 12 #[.slice A0 l0.length c0] w fun e w' => ∃ v0_ v1_ v2_ v3_ : Value, e = .returned (.tuple #[v0_, .agg #[.int .i64 0, .int .i64 0, .int .i64 0, .int .i64 0, v1_, v2_, v3_], .int .i64 3]) ∧
      Kd.R (Kd.int .u16) 32 w' w.heap.size (fun _ => True) v0_ [] ∧ Kd.R k26 26 w' w.heap.size (fun k_ => some k_ ≠ (v2_ : Value).ownBlock ∧ some k_ ≠ (v3_ : Value).ownBlock) v1_ [] ∧ Kd.R k26 26 w' w.heap.size (fun k_ => some k_ ≠ (v1_ : Value).ownBlock ∧ some k_ ≠ (v3_ : Value).ownBlock) v2_ [] ∧ Kd.R k26 26 w' w.heap.size (fun k_ => some k_ ≠ (v1_ : Value).ownBlock ∧ some k_ ≠ (v2_ : Value).ownBlock) v3_ [] ∧ Below w.heap.size w w' := by
  have hu36 := Try.underlying36
  have HZ := Aside0.mk (heap_alloc_new w (.cells #[.int .i64 0, .int .i64 0, .int .i64 0, .int .i64 0, .slice none 0 0, .slice none 0 0, .slice none 0 0] 36))
  have HB := Aside0.mk (below_alloc (Below.refl w.heap.size w) (.cells #[.int .i64 0, .int .i64 0, .int .i64 0, .int .i64 0, .slice none 0 0, .slice none 0 0, .slice none 0 0] 36))
  obtain ⟨ad, rfl, _⟩ := hr0.2.2 (by omega)
  have hb0 := below_alloc (Below.refl w.heap.size w) (.cells #[.int .i64 0, .int .i64 0, .int .i64 0, .int .i64 0, .slice none 0 0, .slice none 0 0, .slice none 0 0] 36)
  have x00 := keepc_ (at_u8z hr0 (by omega) 77 h0) hb0
  have x0 : (w.alloc (.cells #[.int .i64 0, .int .i64 0, .int .i64 0, .int .i64 0, .slice none 0 0, .slice none 0 0, .slice none 0 0] 36)).cell? ad = some (.int .u8 77) := x00
  clear x00
  have x10 := keepc_ (at_u8 hr0 1 (by omega) (by omega) 83 h1) hb0
  have x1 : (w.alloc (.cells #[.int .i64 0, .int .i64 0, .int .i64 0, .int .i64 0, .slice none 0 0, .slice none 0 0, .slice none 0 0] 36)).cell? ⟨ad.block, ad.off + 1, none⟩ = some (.int .u8 83) := x10
  clear x10
  have x20 := keepc_ (at_u8 hr0 2 (by omega) (by omega) 75 h2) hb0
  have x2 : (w.alloc (.cells #[.int .i64 0, .int .i64 0, .int .i64 0, .int .i64 0, .slice none 0 0, .slice none 0 0, .slice none 0 0] 36)).cell? ⟨ad.block, ad.off + 2, none⟩ = some (.int .u8 75) := x20
  clear x20
  clear hb0
  have q0 : ((0 : Int) < (l0.length : Int)) = True := eq_true (by omega)
  have r0 : ((l0.length : Int) ≤ 0) = False := eq_false (by omega)
  have s0 : (0 < l0.length) = True := eq_true (by omega)
  have t0 : (l0.length ≤ 0) = False := eq_false (by omega)
  have q1 : ((1 : Int) < (l0.length : Int)) = True := eq_true (by omega)
  have r1 : ((l0.length : Int) ≤ 1) = False := eq_false (by omega)
  have s1 : (1 < l0.length) = True := eq_true (by omega)
  have t1 : (l0.length ≤ 1) = False := eq_false (by omega)
  have q2 : ((2 : Int) < (l0.length : Int)) = True := eq_true (by omega)
  have r2 : ((l0.length : Int) ≤ 2) = False := eq_false (by omega)
  have s2 : (2 < l0.length) = True := eq_true (by omega)
  have t2 : (l0.length ≤ 2) = False := eq_false (by omega)
  have n1 : (l0 = []) = False := eq_false (fun h => by subst h; simp at hl)
  have e1 : (l0.length : Int) = 3 := by omega
  clear hr0
  go_enter Try.func12, Try.ntmps12
  go_wp2_with (first | ((with_reducible refine wp_loop_rounds 100 ?_); rw [rounds_succ]) | ((with_reducible rw [rounds_succ])))
  repeat (go_quiet (fail); try (go_wp2_with (first | ((with_reducible refine wp_loop_rounds 100 ?_); rw [rounds_succ]) | ((with_reducible rw [rounds_succ])))))
  refine bodyPost_ret (results_list (rs := [.tmp 2, .cell 3 36, .tmp 4]) rfl (by simp) (.tmp (.cell w.heap.size 36 #[.int .i64 0, .int .i64 0, .int .i64 0, .int .i64 0, .slice none 0 0, .slice none 0 0, .slice none 0 0] (0, 0) _ rfl (seven (blk_drewN HZ.out _) (.int .i64 0) (.int .i64 0) (.int .i64 0) (.int .i64 0) (.slice none 0 0) (.slice none 0 0) (.slice none 0 0)) hu36 rfl (by kernel_rfl) (.tmp .nil)))) rfl ?_
  exact ⟨_, _, _, _, rfl, Kd.R_nil _ _ _ _ _, Kd.R_nil _ _ _ _ _, Kd.R_nil _ _ _ _ _, Kd.R_nil _ _ _ _ _, (below_seven (pw_below_drewN HB.out _) (Nat.le_refl _) (.int .i64 0) (.int .i64 0) (.int .i64 0) (.int .i64 0) (.slice none 0 0) (.slice none 0 0) (.slice none 0 0))⟩
set_option maxHeartbeats 8000000 in
set_option maxRecDepth 100000 in
theorem refTake_M3 (A0 : Option Addr) (c0 : Nat) (l0 : List Int) (w : World) (hr0 : Kd.C (Kd.int .u8) w A0 l0.length l0) (hl : 3 < l0.length) (hm : rd l0 3 ≠ 49) (h0 : rd l0 0 = 77) (h1 : rd l0 1 = 83) (h2 : rd l0 2 = 75) :
    Calls Try.prog 12 #[.slice A0 l0.length c0] w fun e w' => ∃ v0_ v1_ v2_ v3_ : Value, e = .returned (.tuple #[v0_, .agg #[.int .i64 0, .int .i64 0, .int .i64 0, .int .i64 0, v1_, v2_, v3_], .int .i64 4]) ∧
      Kd.R (Kd.int .u16) 32 w' w.heap.size (fun _ => True) v0_ [] ∧ Kd.R k26 26 w' w.heap.size (fun k_ => some k_ ≠ (v2_ : Value).ownBlock ∧ some k_ ≠ (v3_ : Value).ownBlock) v1_ [] ∧ Kd.R k26 26 w' w.heap.size (fun k_ => some k_ ≠ (v1_ : Value).ownBlock ∧ some k_ ≠ (v3_ : Value).ownBlock) v2_ [] ∧ Kd.R k26 26 w' w.heap.size (fun k_ => some k_ ≠ (v1_ : Value).ownBlock ∧ some k_ ≠ (v2_ : Value).ownBlock) v3_ [] ∧ Below w.heap.size w w' := by
  have hu36 := Try.underlying36
  have HZ := Aside0.mk (heap_alloc_new w (.cells #[.int .i64 0, .int .i64 0, .int .i64 0, .int .i64 0, .slice none 0 0, .slice none 0 0, .slice none 0 0] 36))
  have HB := Aside0.mk (below_alloc (Below.refl w.heap.size w) (.cells #[.int .i64 0, .int .i64 0, .int .i64 0, .int .i64 0, .slice none 0 0, .slice none 0 0, .slice none 0 0] 36))
  obtain ⟨ad, rfl, _⟩ := hr0.2.2 (by omega)
  have hb0 := below_alloc (Below.refl w.heap.size w) (.cells #[.int .i64 0, .int .i64 0, .int .i64 0, .int .i64 0, .slice none 0 0, .slice none 0 0, .slice none 0 0] 36)
  have x00 := keepc_ (at_u8z hr0 (by omega) 77 h0) hb0
  have x0 : (w.alloc (.cells #[.int .i64 0, .int .i64 0, .int .i64 0, .int .i64 0, .slice none 0 0, .slice none 0 0, .slice none 0 0] 36)).cell? ad = some (.int .u8 77) := x00
  clear x00
  have x10 := keepc_ (at_u8 hr0 1 (by omega) (by omega) 83 h1) hb0
  have x1 : (w.alloc (.cells #[.int .i64 0, .int .i64 0, .int .i64 0, .int .i64 0, .slice none 0 0, .slice none 0 0, .slice none 0 0] 36)).cell? ⟨ad.block, ad.off + 1, none⟩ = some (.int .u8 83) := x10
  clear x10
  have x20 := keepc_ (at_u8 hr0 2 (by omega) (by omega) 75 h2) hb0
  have x2 : (w.alloc (.cells #[.int .i64 0, .int .i64 0, .int .i64 0, .int .i64 0, .slice none 0 0, .slice none 0 0, .slice none 0 0] 36)).cell? ⟨ad.block, ad.off + 2, none⟩ = some (.int .u8 75) := x20
  clear x20
  have x30 := keepc_ (at_u8 hr0 3 (by omega) (by omega) (rd l0 3) rfl) hb0
  have x3 : (w.alloc (.cells #[.int .i64 0, .int .i64 0, .int .i64 0, .int .i64 0, .slice none 0 0, .slice none 0 0, .slice none 0 0] 36)).cell? ⟨ad.block, ad.off + 3, none⟩ = some (.int .u8 (rd l0 3)) := x30
  clear x30
  clear hb0
  have q0 : ((0 : Int) < (l0.length : Int)) = True := eq_true (by omega)
  have r0 : ((l0.length : Int) ≤ 0) = False := eq_false (by omega)
  have s0 : (0 < l0.length) = True := eq_true (by omega)
  have t0 : (l0.length ≤ 0) = False := eq_false (by omega)
  have q1 : ((1 : Int) < (l0.length : Int)) = True := eq_true (by omega)
  have r1 : ((l0.length : Int) ≤ 1) = False := eq_false (by omega)
  have s1 : (1 < l0.length) = True := eq_true (by omega)
  have t1 : (l0.length ≤ 1) = False := eq_false (by omega)
  have q2 : ((2 : Int) < (l0.length : Int)) = True := eq_true (by omega)
  have r2 : ((l0.length : Int) ≤ 2) = False := eq_false (by omega)
  have s2 : (2 < l0.length) = True := eq_true (by omega)
  have t2 : (l0.length ≤ 2) = False := eq_false (by omega)
  have q3 : ((3 : Int) < (l0.length : Int)) = True := eq_true (by omega)
  have r3 : ((l0.length : Int) ≤ 3) = False := eq_false (by omega)
  have s3 : (3 < l0.length) = True := eq_true (by omega)
  have t3 : (l0.length ≤ 3) = False := eq_false (by omega)
  have n1 : (l0 = []) = False := eq_false (fun h => by subst h; simp at hl)
  have m1 : (rd l0 3 = 49) = False := eq_false hm
  have m2 : decide (rd l0 3 = 49) = false := decide_eq_false hm
  have m3 : (rd l0 3 != 49) = true := by simpa using hm
  clear hr0
  go_enter Try.func12, Try.ntmps12
  go_wp2_with (first | ((with_reducible refine wp_loop_rounds 100 ?_); rw [rounds_succ]) | ((with_reducible rw [rounds_succ])))
  repeat (go_quiet (fail); try (go_wp2_with (first | ((with_reducible refine wp_loop_rounds 100 ?_); rw [rounds_succ]) | ((with_reducible rw [rounds_succ])))))
  refine bodyPost_ret (results_list (rs := [.tmp 2, .cell 3 36, .tmp 4]) rfl (by simp) (.tmp (.cell w.heap.size 36 #[.int .i64 0, .int .i64 0, .int .i64 0, .int .i64 0, .slice none 0 0, .slice none 0 0, .slice none 0 0] (0, 0) _ rfl (seven (blk_drewN HZ.out _) (.int .i64 0) (.int .i64 0) (.int .i64 0) (.int .i64 0) (.slice none 0 0) (.slice none 0 0) (.slice none 0 0)) hu36 rfl (by kernel_rfl) (.tmp .nil)))) rfl ?_
  exact ⟨_, _, _, _, rfl, Kd.R_nil _ _ _ _ _, Kd.R_nil _ _ _ _ _, Kd.R_nil _ _ _ _ _, Kd.R_nil _ _ _ _ _, (below_seven (pw_below_drewN HB.out _) (Nat.le_refl _) (.int .i64 0) (.int .i64 0) (.int .i64 0) (.int .i64 0) (.slice none 0 0) (.slice none 0 0) (.slice none 0 0))⟩
end Go.Proofs.Ytimhllaahihhgaa.PA
