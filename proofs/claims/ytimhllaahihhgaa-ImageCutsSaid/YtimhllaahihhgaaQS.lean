/- image's reader: take, octet, number, cells: what the calls come to. No condition but the hypotheses that each theorem states. -/
import Derived.Test.YtimhllaahihhgaaQD
import Derived.Test.YtimhllaahihhgaaPAx4
import Derived.StillTailTactics
namespace Go.Proofs.Ytimhllaahihhgaa.PA
open Go.RowKit Go.Proofs.YtimhllaahihhgaaW.PrintWords Go.Proofs.YtimhllaahihhgaaW.PrintLast Go.Proofs.YtimhllaahihhgaaW.PrintMore
set_option linter.unusedVariables false
set_option linter.unusedSimpArgs false
set_option maxHeartbeats 60000000 in
set_option maxRecDepth 100000 in
theorem image_Take.calls_short (A0 : Option Addr) (c0 : Nat) (l0 : List Int) (cb : Bool) (w : World) (hr0 : Kd.C (Kd.int .u8) w A0 l0.length l0) (hc0 : l0.length ≤ c0)
    (hcmp : ((strOfNums (l0.take (min l0.length 4))).toList == ((⟨#[77, 83, 75, 49]⟩ : ByteArray).extract 0 (min l0.length 4)).toList) = cb) (hs : cb = true → l0.length < 4) : Calls Try.prog 11 #[.slice A0 l0.length c0] w fun e w' => ∃ v0_ v1_ v2_ v3_ : Value, e = .returned (.tuple #[v0_, .agg #[.int .i64 0, .int .i64 0, .int .i64 0, .int .i64 0, v1_, v2_, v3_], .int .i64 (if cb = true then 3 else 4)]) ∧
      Kd.R (Kd.int .u16) 32 w' w.heap.size (fun _ => True) v0_ [] ∧ Kd.R k26 26 w' w.heap.size (fun k_ => some k_ ≠ (v2_ : Value).ownBlock ∧ some k_ ≠ (v3_ : Value).ownBlock) v1_ [] ∧ Kd.R k26 26 w' w.heap.size (fun k_ => some k_ ≠ (v1_ : Value).ownBlock ∧ some k_ ≠ (v3_ : Value).ownBlock) v2_ [] ∧ Kd.R k26 26 w' w.heap.size (fun k_ => some k_ ≠ (v1_ : Value).ownBlock ∧ some k_ ≠ (v2_ : Value).ownBlock) v3_ [] ∧ Below w.heap.size w w' := by
  have hu36 := Try.underlying36
  obtain ⟨n, hn⟩ : ∃ n, n = min l0.length 4 := ⟨_, rfl⟩
  rw [← hn] at hcmp
  have hmin1 : (if (l0.length : Int) < 4 then (l0.length : Int) else 4) = (n : Int) := by subst hn; split <;> omega
  have hmin2 : min (l0.length : Int) 4 = (n : Int) := by subst hn; omega
  have hmin3 : (if (4 : Int) < (l0.length : Int) then 4 else (l0.length : Int)) = (n : Int) := by subst hn; split <;> omega
  have hn4 : n ≤ 4 := by omega
  have hnl : n ≤ l0.length := by omega
  have hC4 := Kd.C_take hr0 hnl
  rw [show (l0.take n).length = n by rw [List.length_take]; omega] at hC4
  obtain ⟨s, hs1⟩ : ∃ s, s = strOfNums (l0.take n) := ⟨_, rfl⟩
  have hcv : ∀ W, Below w.heap.size w W → (convert 29 9 (.slice A0 n c0)).run Try.prog W = .ok (.string s) W := fun W hb => by rw [hs1]; exact Kd.C_string (c := c0) Try.underlying29 Try.underlying5 Try.underlying9 (Kd.C_below hC4 hb)
  replace hcv := Aside0.mk hcv
  rw [← hs1] at hcmp
  have Q3 := Aside0.mk (show (n : Int) ≤ (c0 : Int) by omega)
  have Q4 := Aside0.mk hn4
  have Q5 := Aside0.mk hnl
  have Q6 := Aside0.mk (show cb = true → n < 4 from fun h => by have := hs h; omega)
  have HZ := Aside0.mk (heap_alloc_new w (.cells #[.int .i64 0, .int .i64 0, .int .i64 0, .int .i64 0, .slice none 0 0, .slice none 0 0, .slice none 0 0] 36))
  have HB := Aside0.mk (below_alloc (Below.refl w.heap.size w) (.cells #[.int .i64 0, .int .i64 0, .int .i64 0, .int .i64 0, .slice none 0 0, .slice none 0 0, .slice none 0 0] 36))
  replace hn := Aside0.mk hn
  clear hn4 hnl hC4 hs1 hr0 hc0 hs
  go_enter Try.func11, Try.ntmps11
  go_wp2_with fail
  have q3 : ((n : Int) ≤ (c0 : Int)) = True := eq_true Q3.out
  have q4 : (n ≤ c0) = True := eq_true (by have := Q3.out; omega)
  have q5 : ((n : Int) ≤ (l0.length : Int)) = True := eq_true (by have := Q5.out; omega)
  have q6 : (n ≤ l0.length) = True := eq_true Q5.out
  have q7 : (0 ≤ (n : Int)) = True := eq_true (by omega)
  have q8 : ((n : Int) ≤ 4) = True := eq_true (by have := Q4.out; omega)
  have q9 : (n ≤ 4) = True := eq_true Q4.out
  cases cb with
  | true =>
    have q10 : ((n : Int) < 4) = True := eq_true (by have := Q6.out rfl; omega)
    have q11 : (n < 4) = True := eq_true (Q6.out rfl)
    have q12 : decide ((n : Int) < 4) = true := decide_eq_true (by have := Q6.out rfl; omega)
    go_region_held3 (fun W => (convert 29 9 (.slice A0 n c0)).run Try.prog W = .ok (.string s) W) (exact hcv.out _ (below_alloc (Below.refl _ _) _).drew) (fail)
    go_wp2_with fail
    refine bodyPost_ret (results_list (rs := [.tmp 2, .cell 3 36, .tmp 4]) rfl (by simp) (.tmp (.cell w.heap.size 36 #[.int .i64 0, .int .i64 0, .int .i64 0, .int .i64 0, .slice none 0 0, .slice none 0 0, .slice none 0 0] (0, 0) _ rfl (blk_drew HZ.out) hu36 rfl (by kernel_rfl) (.tmp .nil)))) rfl ?_
    exact ⟨_, _, _, _, rfl, Kd.R_nil _ _ _ _ _, Kd.R_nil _ _ _ _ _, Kd.R_nil _ _ _ _ _, Kd.R_nil _ _ _ _ _, (by repeat (first | (with_reducible exact HB.out) | (with_reducible exact below_drew1 HB.out) | ((with_reducible refine below_set ?_ ?_); rotate_left; omega)))⟩
  | false =>
    go_region_held3 (fun W => (convert 29 9 (.slice A0 n c0)).run Try.prog W = .ok (.string s) W) (exact hcv.out _ (below_alloc (Below.refl _ _) _).drew) (fail)
    go_wp2_with fail
    refine bodyPost_ret (results_list (rs := [.tmp 2, .cell 3 36, .tmp 4]) rfl (by simp) (.tmp (.cell w.heap.size 36 #[.int .i64 0, .int .i64 0, .int .i64 0, .int .i64 0, .slice none 0 0, .slice none 0 0, .slice none 0 0] (0, 0) _ rfl (blk_drew HZ.out) hu36 rfl (by kernel_rfl) (.tmp .nil)))) rfl ?_
    exact ⟨_, _, _, _, rfl, Kd.R_nil _ _ _ _ _, Kd.R_nil _ _ _ _ _, Kd.R_nil _ _ _ _ _, Kd.R_nil _ _ _ _ _, (by repeat (first | (with_reducible exact HB.out) | (with_reducible exact below_drew1 HB.out) | ((with_reducible refine below_set ?_ ?_); rotate_left; omega)))⟩
end Go.Proofs.Ytimhllaahihhgaa.PA
