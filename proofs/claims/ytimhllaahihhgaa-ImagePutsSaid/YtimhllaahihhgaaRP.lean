/- The reference's Put: what the call comes to. No condition but the hypotheses that each theorem states. -/
import Derived.Test.YtimhllaahihhgaaVP
import Derived.Test.YtimhllaahihhgaaRK
import Derived.Test.YtimhllaahihhgaaQF
import Derived.Test.YtimhllaahihhgaaHL
namespace Go.Proofs.Ytimhllaahihhgaa.PA
open Go.RowKit Go.Proofs.YtimhllaahihhgaaW.PrintWords Go.Proofs.YtimhllaahihhgaaW.PrintLast Go.Proofs.YtimhllaahihhgaaW.PrintMore
set_option linter.unusedVariables false
set_option linter.unusedSimpArgs false
theorem four_eq (xs : List Int) (n : Int) (hl : xs.length < 140737488355300) : bautaref03_four.f 6 xs n = some (xs ++ F4 n) := by
  unfold bautaref03_four.f
  have w1 : wrap64 (0 + 1) = 1 := by unfold wrap64; decide
  have w2 : wrap64 (1 + 1) = 2 := by unfold wrap64; decide
  have w3 : wrap64 (2 + 1) = 3 := by unfold wrap64; decide
  have w4 : wrap64 (3 + 1) = 4 := by unfold wrap64; decide
  rw [bautaref03_four.l0, if_pos (by decide), if_pos (by omega), w1, bautaref03_four.l0, if_pos (by decide), if_pos (by simp only [List.length_append, List.length_cons, List.length_nil]; omega), w2, bautaref03_four.l0, if_pos (by decide), if_pos (by simp only [List.length_append, List.length_cons, List.length_nil]; omega), w3, bautaref03_four.l0, if_pos (by decide), if_pos (by simp only [List.length_append, List.length_cons, List.length_nil]; omega), w4, bautaref03_four.l0, if_neg (by decide)]
  unfold F4
  simp only [List.append_assoc, List.cons_append, List.nil_append]
theorem F4_eq {n : Int} (h0 : 0 ≤ n) (h1 : n < 4294967296) : F4 n = L4 n := by
  have e1 : Int.tdiv n 256 = n / 256 := Int.tdiv_eq_ediv_of_nonneg h0
  have e2 : wrap64 (n / 256) = n / 256 := by rw [wrap64_in' _ (by omega)]
  have e3 : Int.tdiv (n / 256) 256 = n / 65536 := by rw [Int.tdiv_eq_ediv_of_nonneg (by omega)]; omega
  have e4 : wrap64 (n / 65536) = n / 65536 := by rw [wrap64_in' _ (by omega)]
  have e5 : Int.tdiv (n / 65536) 256 = n / 16777216 := by rw [Int.tdiv_eq_ediv_of_nonneg (by omega)]; omega
  have e6 : wrap64 (n / 16777216) = n / 16777216 := by rw [wrap64_in' _ (by omega)]
  unfold F4 L4
  rw [e1, e2, e3, e4, e5, e6, Int.tmod_eq_emod_of_nonneg h0, Int.tmod_eq_emod_of_nonneg (show 0 ≤ n / 256 by omega), Int.tmod_eq_emod_of_nonneg (show 0 ≤ n / 65536 by omega), Int.tmod_eq_emod_of_nonneg (show 0 ≤ n / 16777216 by omega)]
  simp only [Int.emod_emod_of_dvd _ (Int.dvd_refl 256)]
theorem cellsB_same : ∀ (l : List S26) (xs r : List Int), (∀ c ∈ l, 0 ≤ c.f1 ∧ c.f1 ≤ 16000) → cellsB gI l xs = some r → cellsB (bautaref03_four.f 6) l xs = some r
  | [], xs, r, _, h => h
  | c :: t, xs, r, hc, h => by
    unfold cellsB at h ⊢
    split at h
    · rename_i hb
      rw [if_pos hb]
      rw [show gI (xs ++ [(c.f0.size : Int) % 256] ++ bytesOf c.f0) c.f1 = some (xs ++ [(c.f0.size : Int) % 256] ++ bytesOf c.f0 ++ L4 c.f1) from rfl, Option.bind_some] at h
      have h1 := hc c (by simp)
      rw [four_eq _ _ (by simp only [List.length_append, List.length_cons, List.length_nil, bytesOf_length]; omega), F4_eq h1.1 (by omega), Option.bind_some]
      exact cellsB_same t _ r (fun x hx => hc x (by simp [hx])) h
    · cases h
theorem listOK_cells {l : List S26} (h : listOK l = true) : ∀ c ∈ l, 0 ≤ c.f1 ∧ c.f1 ≤ 16000 := by
  intro c hc
  unfold listOK at h
  simp only [Bool.and_eq_true, Bool.not_eq_true', List.any_eq_false] at h
  have h2 := h.2 c hc
  unfold badCell at h2
  simp at h2
  omega
theorem list_same {l : List S26} {xs y : List Int} (hok : listOK l = true) (hl : xs.length < 140737488355000) (h : cellsB gI l (xs ++ [(l.length : Int) % 256]) = some y) : bautaref03_list.f 6 xs l = some y := by
  unfold bautaref03_list.f
  rw [if_pos hl]
  exact cellsB_same l _ y (listOK_cells hok) h
theorem canB_parts {a b c d : Int} {x y z : List S26} (h : canB a b c d x y z = true) : (0 ≤ a ∧ a < 4294967296) ∧ (0 ≤ b ∧ b < 4294967296) ∧ (0 ≤ c ∧ c < 4294967296) ∧ (0 ≤ d ∧ d < 4294967296) ∧ listOK x = true ∧ listOK y = true ∧ listOK z = true := by
  unfold canB numOK at h
  simp only [Bool.and_eq_true, decide_eq_true_eq] at h
  obtain ⟨h1, h2, h3, h4, h5, h6, h7, h8⟩ := h
  exact ⟨by omega, by omega, by omega, by omega, h5, h6, h7⟩
def bautaref03_Put.f (l0 : List Int) (a0 a1 a2 a3 : Int) (l4 l5 l6 : List S26) : Option (List Int × Int) := if l0.all (fun x => decide (0 ≤ x) && decide (x < 65536)) = true then image_Put.f l0 a0 a1 a2 a3 l4 l5 l6 else none
set_option maxHeartbeats 8000000 in
set_option maxRecDepth 100000 in
theorem refPut_no (A0 : Option Addr) (c0 : Nat) (l0 : List Int) (a0 a1 a2 a3 : Int) (A4 : Option Addr) (c4 : Nat) (l4 : List S26) (A5 : Option Addr) (c5 : Nat) (l5 : List S26) (A6 : Option Addr) (c6 : Nat) (l6 : List S26) (w : World)
    (hr0 : Kd.C (Kd.int .u16) w A0 l0.length l0) (hc0 : l0.length ≤ c0) (hr4 : Kd.C k26 w A4 l4.length l4) (hc4 : l4.length ≤ c4) (hr5 : Kd.C k26 w A5 l5.length l5) (hc5 : l5.length ≤ c5) (hr6 : Kd.C k26 w A6 l6.length l6) (hc6 : l6.length ≤ c6) (hcan : canB a0 a1 a2 a3 l4 l5 l6 = false) :
    Calls Try.prog 17 #[.slice A0 l0.length c0, .agg #[.int .i64 a0, .int .i64 a1, .int .i64 a2, .int .i64 a3, .slice A4 l4.length c4, .slice A5 l5.length c5, .slice A6 l6.length c6]] w fun e w' => ∃ v0_ : Value, e = .returned (.tuple #[v0_, .int .i64 1]) ∧ Kd.R (Kd.int .u8) 5 w' w.heap.size (fun _ => True) v0_ [] ∧ Below w.heap.size w w' := by
  have hu36 := Try.underlying36
  have HX := Aside0.mk hr0
  have HL4 := Aside0.mk hr4
  have HL5 := Aside0.mk hr5
  have HL6 := Aside0.mk hr6
  have HC0 := Aside0.mk hc0
  have HC4 := Aside0.mk hc4
  have HC5 := Aside0.mk hc5
  have HC6 := Aside0.mk hc6
  have hcb := Aside0.mk hcan
  clear hr0 hr4 hr5 hr6 hc0 hc4 hc5 hc6 hcan
  go_enter Try.func17, Try.ntmps17
  go_wp2_with (first | (go_at_call 19; (refine (bautaref03_Can.calls (l4.length + l5.length + l6.length + 1) a0 a1 a2 a3 A4 c4 l4 A5 c5 l5 A6 c6 l6 false _ (Kd.C_below HL4.out (below_alloc (Below.refl _ _) _)) HC4.out (Kd.C_below HL5.out (below_alloc (Below.refl _ _) _)) HC5.out (Kd.C_below HL6.out (below_alloc (Below.refl _ _) _)) HC6.out ((rcan_eq _ a0 a1 a2 a3 l4 l5 l6 ⟨by have := Kd.C_max HL4.out; omega, by omega⟩ ⟨by have := Kd.C_max HL5.out; omega, by omega⟩ ⟨by have := Kd.C_max HL6.out; omega, by omega⟩).trans (congrArg some hcb.out))).mono ?_; rintro e w1 ⟨rfl, hb⟩; have hm1 := blk_below (heap_alloc_new w (.cells #[.int .i64 a0, .int .i64 a1, .int .i64 a2, .int .i64 a3, .slice A4 l4.length c4, .slice A5 l5.length c5, .slice A6 l6.length c6] 36)) hb; have HM1 := Aside0.mk hm1; have HBw := Aside0.mk (below_then (below_alloc (Below.refl w.heap.size w) _) (by simp) hb); have hb_ := hb; clear hb hm1 hb_)))
  refine bodyPost_ret (results_list (rs := [.tmp 4, .tmp 5]) rfl (by simp) (.tmp (.tmp .nil))) rfl ?_
  exact ⟨_, rfl, Kd.R_nil _ _ _ _ _, HBw.out⟩
set_option maxHeartbeats 8000000 in
set_option maxRecDepth 100000 in
theorem refPut_long (A0 : Option Addr) (c0 : Nat) (l0 : List Int) (a0 a1 a2 a3 : Int) (A4 : Option Addr) (c4 : Nat) (l4 : List S26) (A5 : Option Addr) (c5 : Nat) (l5 : List S26) (A6 : Option Addr) (c6 : Nat) (l6 : List S26) (w : World)
    (hr0 : Kd.C (Kd.int .u16) w A0 l0.length l0) (hc0 : l0.length ≤ c0) (hr4 : Kd.C k26 w A4 l4.length l4) (hc4 : l4.length ≤ c4) (hr5 : Kd.C k26 w A5 l5.length l5) (hc5 : l5.length ≤ c5) (hr6 : Kd.C k26 w A6 l6.length l6) (hc6 : l6.length ≤ c6) (hcan : canB a0 a1 a2 a3 l4 l5 l6 = true) (hlen : 60000 < l0.length) :
    Calls Try.prog 17 #[.slice A0 l0.length c0, .agg #[.int .i64 a0, .int .i64 a1, .int .i64 a2, .int .i64 a3, .slice A4 l4.length c4, .slice A5 l5.length c5, .slice A6 l6.length c6]] w fun e w' => ∃ v0_ : Value, e = .returned (.tuple #[v0_, .int .i64 2]) ∧ Kd.R (Kd.int .u8) 5 w' w.heap.size (fun _ => True) v0_ [] ∧ Below w.heap.size w w' := by
  have hu36 := Try.underlying36
  have HX := Aside0.mk hr0
  have HL4 := Aside0.mk hr4
  have HL5 := Aside0.mk hr5
  have HL6 := Aside0.mk hr6
  have HC0 := Aside0.mk hc0
  have HC4 := Aside0.mk hc4
  have HC5 := Aside0.mk hc5
  have HC6 := Aside0.mk hc6
  have hcb := Aside0.mk hcan
  clear hr0 hr4 hr5 hr6 hc0 hc4 hc5 hc6 hcan
  have q1 : ((60000 : Int) < (l0.length : Int)) = True := eq_true (by omega)
  have q2 : decide ((60000 : Int) < (l0.length : Int)) = true := decide_eq_true (by omega)
  have q3 : (60000 < l0.length) = True := eq_true hlen
  clear hlen
  go_enter Try.func17, Try.ntmps17
  go_wp2_with (first | (go_at_call 19; (refine (bautaref03_Can.calls (l4.length + l5.length + l6.length + 1) a0 a1 a2 a3 A4 c4 l4 A5 c5 l5 A6 c6 l6 true _ (Kd.C_below HL4.out (below_alloc (Below.refl _ _) _)) HC4.out (Kd.C_below HL5.out (below_alloc (Below.refl _ _) _)) HC5.out (Kd.C_below HL6.out (below_alloc (Below.refl _ _) _)) HC6.out ((rcan_eq _ a0 a1 a2 a3 l4 l5 l6 ⟨by have := Kd.C_max HL4.out; omega, by omega⟩ ⟨by have := Kd.C_max HL5.out; omega, by omega⟩ ⟨by have := Kd.C_max HL6.out; omega, by omega⟩).trans (congrArg some hcb.out))).mono ?_; rintro e w1 ⟨rfl, hb⟩; have hm1 := blk_below (heap_alloc_new w (.cells #[.int .i64 a0, .int .i64 a1, .int .i64 a2, .int .i64 a3, .slice A4 l4.length c4, .slice A5 l5.length c5, .slice A6 l6.length c6] 36)) hb; have HM1 := Aside0.mk hm1; have HBw := Aside0.mk (below_then (below_alloc (Below.refl w.heap.size w) _) (by simp) hb); have hb_ := hb; clear hb hm1 hb_)))
  refine bodyPost_ret (results_list (rs := [.tmp 4, .tmp 5]) rfl (by simp) (.tmp (.tmp .nil))) rfl ?_
  exact ⟨_, rfl, Kd.R_nil _ _ _ _ _, HBw.out⟩
set_option maxHeartbeats 60000000 in
set_option maxRecDepth 100000 in
theorem refPut_main (A0 : Option Addr) (c0 : Nat) (l0 : List Int) (a0 a1 a2 a3 : Int) (A4 : Option Addr) (c4 : Nat) (l4 : List S26) (A5 : Option Addr) (c5 : Nat) (l5 : List S26) (A6 : Option Addr) (c6 : Nat) (l6 : List S26) (r : List Int) (w : World)
    (hr0 : Kd.C (Kd.int .u16) w A0 l0.length l0) (hc0 : l0.length ≤ c0) (hr4 : Kd.C k26 w A4 l4.length l4) (hc4 : l4.length ≤ c4) (hr5 : Kd.C k26 w A5 l5.length l5) (hc5 : l5.length ≤ c5) (hr6 : Kd.C k26 w A6 l6.length l6) (hc6 : l6.length ≤ c6) (hcan : canB a0 a1 a2 a3 l4 l5 l6 = true) (hlen : l0.length ≤ 60000)
    (hu : ∀ x ∈ l0, 0 ≤ x ∧ x < 65536)
    (hput : listsB gI [l4, l5, l6] (headB a0 a1 a2 a3 (l0.length : Int) ++ hbs l0) = some r) :
    Calls Try.prog 17 #[.slice A0 l0.length c0, .agg #[.int .i64 a0, .int .i64 a1, .int .i64 a2, .int .i64 a3, .slice A4 l4.length c4, .slice A5 l5.length c5, .slice A6 l6.length c6]] w fun e w' => ∃ v0_ : Value, e = .returned (.tuple #[v0_, .int .i64 0]) ∧ Kd.R (Kd.int .u8) 5 w' w.heap.size (fun _ => True) v0_ r ∧ Below w.heap.size w w' := by
  have hparts := canB_parts hcan
  obtain ⟨y1, y2, hy0, hy1, hy2, hy3⟩ : ∃ y1 y2, (headB a0 a1 a2 a3 (l0.length : Int) ++ hbs l0).length < 140737488355000 ∧ bautaref03_list.f 6 (headB a0 a1 a2 a3 (l0.length : Int) ++ hbs l0) l4 = some y1 ∧ bautaref03_list.f 6 y1 l5 = some y2 ∧ bautaref03_list.f 6 y2 l6 = some r := by
    rw [listsB] at hput
    split at hput
    case isFalse => cases hput
    rename_i b1
    obtain ⟨y1, g1, hput⟩ := Option.bind_eq_some_iff.mp hput
    rw [listsB] at hput
    split at hput
    case isFalse => cases hput
    rename_i b2
    obtain ⟨y2, g2, hput⟩ := Option.bind_eq_some_iff.mp hput
    rw [listsB] at hput
    split at hput
    case isFalse => cases hput
    rename_i b3
    obtain ⟨y3, g3, hput⟩ := Option.bind_eq_some_iff.mp hput
    rw [listsB] at hput
    cases hput
    exact ⟨y1, y2, b1, list_same hparts.2.2.2.2.1 b1 g1, list_same hparts.2.2.2.2.2.1 b2 g2, list_same hparts.2.2.2.2.2.2 b3 g3⟩
  have hF0 := Aside0.mk (F4_eq hparts.1.1 hparts.1.2)
  have hF1 := Aside0.mk (F4_eq hparts.2.1.1 hparts.2.1.2)
  have hF2 := Aside0.mk (F4_eq hparts.2.2.1.1 hparts.2.2.1.2)
  have hF3 := Aside0.mk (F4_eq hparts.2.2.2.1.1 hparts.2.2.2.1.2)
  have hF4 := Aside0.mk (F4_eq (n := (l0.length : Int)) (by omega) (by omega))
  replace hy0 := Aside0.mk hy0
  replace hy1 := Aside0.mk hy1
  replace hy2 := Aside0.mk hy2
  replace hy3 := Aside0.mk hy3
  have LM := Aside0.mk hlen
  replace hu := Aside0.mk hu
  have q1 : ((60000 : Int) < (l0.length : Int)) = False := eq_false (by omega)
  have q2 : decide ((60000 : Int) < (l0.length : Int)) = false := decide_eq_false (by omega)
  have q3 : (60000 < l0.length) = False := eq_false (by omega)
  clear hparts hput hlen
  have hu36 := Try.underlying36
  have HX := Aside0.mk hr0
  have HL4 := Aside0.mk hr4
  have HL5 := Aside0.mk hr5
  have HL6 := Aside0.mk hr6
  have HC0 := Aside0.mk hc0
  have HC4 := Aside0.mk hc4
  have HC5 := Aside0.mk hc5
  have HC6 := Aside0.mk hc6
  have hcb := Aside0.mk hcan
  clear hr0 hr4 hr5 hr6 hc0 hc4 hc5 hc6 hcan
  go_enter Try.func17, Try.ntmps17
  go_wp2_with (first | (go_at_call 19; (refine (bautaref03_Can.calls (l4.length + l5.length + l6.length + 1) a0 a1 a2 a3 A4 c4 l4 A5 c5 l5 A6 c6 l6 true _ (Kd.C_below HL4.out (below_alloc (Below.refl _ _) _)) HC4.out (Kd.C_below HL5.out (below_alloc (Below.refl _ _) _)) HC5.out (Kd.C_below HL6.out (below_alloc (Below.refl _ _) _)) HC6.out ((rcan_eq _ a0 a1 a2 a3 l4 l5 l6 ⟨by have := Kd.C_max HL4.out; omega, by omega⟩ ⟨by have := Kd.C_max HL5.out; omega, by omega⟩ ⟨by have := Kd.C_max HL6.out; omega, by omega⟩).trans (congrArg some hcb.out))).mono ?_; rintro e w1 ⟨rfl, hb⟩; have hm1 := blk_below (heap_alloc_new w (.cells #[.int .i64 a0, .int .i64 a1, .int .i64 a2, .int .i64 a3, .slice A4 l4.length c4, .slice A5 l5.length c5, .slice A6 l6.length c6] 36)) hb; have HM1 := Aside0.mk hm1; have HBw := Aside0.mk (below_then (below_alloc (Below.refl w.heap.size w) _) (by simp) hb); have hb_ := hb; clear hb hm1; have hz : ∀ W, Below w1.heap.size w1 W → W.cell? ⟨w.heap.size, 0, none⟩ = some (.int .i64 a0) ∧ W.cell? ⟨w.heap.size, 1, none⟩ = some (.int .i64 a1) ∧ W.cell? ⟨w.heap.size, 2, none⟩ = some (.int .i64 a2) ∧ W.cell? ⟨w.heap.size, 3, none⟩ = some (.int .i64 a3) ∧ W.cell? ⟨w.heap.size, 4, none⟩ = some (.slice A4 l4.length c4) ∧ W.cell? ⟨w.heap.size, 5, none⟩ = some (.slice A5 l5.length c5) ∧ W.cell? ⟨w.heap.size, 6, none⟩ = some (.slice A6 l6.length c6) := fun W hW => ⟨(cell_of_row _ _ 0 _ _ _ (blk_below HM1.out hW)).trans rfl, (cell_of_row _ _ 1 _ _ _ (blk_below HM1.out hW)).trans rfl, (cell_of_row _ _ 2 _ _ _ (blk_below HM1.out hW)).trans rfl, (cell_of_row _ _ 3 _ _ _ (blk_below HM1.out hW)).trans rfl, (cell_of_row _ _ 4 _ _ _ (blk_below HM1.out hW)).trans rfl, (cell_of_row _ _ 5 _ _ _ (blk_below HM1.out hW)).trans rfl, (cell_of_row _ _ 6 _ _ _ (blk_below HM1.out hW)).trans rfl⟩; have HZS := Aside0.mk (show ∀ W, Below w1.heap.size w1 W → W.cell? ⟨w.heap.size, 0, none⟩ = some (.int .i64 a0) ∧ W.cell? ⟨w.heap.size, 1, none⟩ = some (.int .i64 a1) ∧ W.cell? ⟨w.heap.size, 2, none⟩ = some (.int .i64 a2) ∧ W.cell? ⟨w.heap.size, 3, none⟩ = some (.int .i64 a3) from fun W hW => ⟨(hz W hW).1, (hz W hW).2.1, (hz W hW).2.2.1, (hz W hW).2.2.2.1⟩); have HZT := Aside0.mk (show ∀ W, Below w1.heap.size w1 W → W.cell? ⟨w.heap.size, 4, none⟩ = some (.slice A4 l4.length c4) ∧ W.cell? ⟨w.heap.size, 5, none⟩ = some (.slice A5 l5.length c5) ∧ W.cell? ⟨w.heap.size, 6, none⟩ = some (.slice A6 l6.length c6) from fun W hW => (hz W hW).2.2.2.2); have HZ := Aside0.mk hz; clear hz; have HQ4 := Aside0.mk (Kd.C_below (Kd.C_below HL4.out (below_alloc (Below.refl _ _) _)) hb_); have HQ5 := Aside0.mk (Kd.C_below (Kd.C_below HL5.out (below_alloc (Below.refl _ _) _)) hb_); have HQ6 := Aside0.mk (Kd.C_below (Kd.C_below HL6.out (below_alloc (Below.refl _ _) _)) hb_); clear hb_; obtain ⟨W2, hconv, h42, ho2, hsz2, hos, htape, hout⟩ := conv_mark ((w1.alloc (.cells #[.int .u8 77, .int .u8 83, .int .u8 75, .int .u8 49] 5)).drew) w1.heap.size _ _ _ _ (heap_alloc_new w1 (.cells #[.int .u8 77, .int .u8 83, .int .u8 75, .int .u8 49] 5)); have hcA := hconv _ rfl; have H42 := Aside0.mk h42; have HB2 := Aside0.mk (show Below w1.heap.size w1 W2 from ((below_alloc (Below.refl w1.heap.size w1) (.cells #[.int .u8 77, .int .u8 83, .int .u8 75, .int .u8 49] 5)).drew).trans ⟨hos, htape, hout, by omega, fun q hq => ho2 q (by omega)⟩); clear hconv h42 ho2 hsz2 hos htape hout)))
  go_region_held (fun W => W.cell? ⟨w.heap.size, 0, none⟩ = some (.int .i64 a0) ∧ W.cell? ⟨w.heap.size, 1, none⟩ = some (.int .i64 a1) ∧ W.cell? ⟨w.heap.size, 2, none⟩ = some (.int .i64 a2) ∧ W.cell? ⟨w.heap.size, 3, none⟩ = some (.int .i64 a3)) (((with_reducible refine HZS.out _ ?_); first | (with_reducible exact HB.out) | (with_reducible exact HB2.out) | (with_reducible exact (below_alloc (Below.refl w1.heap.size w1) _).drew) | (with_reducible exact (below_alloc (Below.refl w1.heap.size w1) _)) | (with_reducible exact (Below.refl w1.heap.size w1).drew) | (with_reducible exact (Below.refl w1.heap.size w1)))) (first | (go_at_call 33; ((with_reducible refine (four_mark.calls a0 w1.heap.size _ H42.out).mono ?_); rintro e w2 ⟨v1, rfl, ho, hb⟩; have HO := Aside0.mk (show Kd.R (Kd.int .u8) 5 w2 w1.heap.size (fun _ => True) v1 ([77, 83, 75, 49] ++ L4 a0) from (by rw [← hF0.out]; exact Kd.R_lower ho HB2.out.size)); have HB := Aside0.mk (below_then HB2.out HB2.out.size hb); clear ho hb)) | (go_at_call 33; ((with_reducible refine (bautaref03_four.calls 6 (fun _ => True) v1 ([77, 83, 75, 49] ++ L4 a0) a1 _ w1 _ HB.out HO.out (four_eq _ _ (by simp only [List.length_append, List.length_cons, List.length_nil, L4_len]; omega))).mono ?_); rintro e w3 ⟨v2, rfl, ho, hb, hk⟩; have ho_ := Aside0.mk (show Kd.R (Kd.int .u8) 5 w3 w1.heap.size (fun _ => True) v2 ([77, 83, 75, 49] ++ L4 a0 ++ L4 a1) from (by rw [← hF1.out]; exact Kd.R_mono ho (fun _ _ => trivial))); have hb_ := Aside0.mk hb; clear HO HB ho hb hk; have HO := ho_; have HB := hb_; clear ho_ hb_)) | (go_at_call 33; ((with_reducible refine (bautaref03_four.calls 6 (fun _ => True) v2 ([77, 83, 75, 49] ++ L4 a0 ++ L4 a1) a2 _ w1 _ HB.out HO.out (four_eq _ _ (by simp only [List.length_append, List.length_cons, List.length_nil, L4_len]; omega))).mono ?_); rintro e w4 ⟨v3, rfl, ho, hb, hk⟩; have ho_ := Aside0.mk (show Kd.R (Kd.int .u8) 5 w4 w1.heap.size (fun _ => True) v3 ([77, 83, 75, 49] ++ L4 a0 ++ L4 a1 ++ L4 a2) from (by rw [← hF2.out]; exact Kd.R_mono ho (fun _ _ => trivial))); have hb_ := Aside0.mk hb; clear HO HB ho hb hk; have HO := ho_; have HB := hb_; clear ho_ hb_)) | (go_at_call 33; ((with_reducible refine (bautaref03_four.calls 6 (fun _ => True) v3 ([77, 83, 75, 49] ++ L4 a0 ++ L4 a1 ++ L4 a2) a3 _ w1 _ HB.out HO.out (four_eq _ _ (by simp only [List.length_append, List.length_cons, List.length_nil, L4_len]; omega))).mono ?_); rintro e w5 ⟨v4, rfl, ho, hb, hk⟩; have ho_ := Aside0.mk (show Kd.R (Kd.int .u8) 5 w5 w1.heap.size (fun _ => True) v4 ([77, 83, 75, 49] ++ L4 a0 ++ L4 a1 ++ L4 a2 ++ L4 a3) from (by rw [← hF3.out]; exact Kd.R_mono ho (fun _ _ => trivial))); have hb_ := Aside0.mk hb; clear HO HB ho hb hk; have HO := ho_; have HB := hb_; clear ho_ hb_)) | (go_at_call 33; ((with_reducible refine (bautaref03_four.calls 6 (fun _ => True) v4 ([77, 83, 75, 49] ++ L4 a0 ++ L4 a1 ++ L4 a2 ++ L4 a3) (l0.length : Int) _ w1 _ HB.out HO.out (four_eq _ _ (by simp only [List.length_append, List.length_cons, List.length_nil, L4_len]; omega))).mono ?_); rintro e w6 ⟨v5, rfl, ho, hb, hk⟩; have ho_ := Aside0.mk (show Kd.R (Kd.int .u8) 5 w6 w1.heap.size (fun _ => True) v5 ([77, 83, 75, 49] ++ L4 a0 ++ L4 a1 ++ L4 a2 ++ L4 a3 ++ L4 (l0.length : Int)) from (by rw [← hF4.out]; exact Kd.R_mono ho (fun _ _ => trivial))); have hb_ := Aside0.mk hb; clear HO HB ho hb hk; have HO := ho_; have HB := hb_; clear ho_ hb_)))
  go_wp2_with fail
  go_loopg [6, 7] (l0.length + 1) (fun kq v6 v7 w' => ∃ i : Nat, v7 = .int .i64 (i : Int) ∧ Aside0 (i + kq = l0.length + 1 ∧ i ≤ l0.length) ∧ Aside0 (Kd.R (Kd.int .u8) 5 w' w1.heap.size (fun _ => True) v6 (headB a0 a1 a2 a3 (l0.length : Int) ++ hbs (l0.take i))) ∧ Aside0 (Below w1.heap.size w1 w'))
  case atStart => exact ⟨0, rfl, ⟨Nat.zero_add _, Nat.zero_le _⟩, ⟨by simpa [hbs, headB] using HO.out⟩, HB⟩
  case round =>
    clear HO HB
    obtain ⟨i, rfl, HK, HO, HB⟩ := hrel
    by_cases hi : i < l0.length
    · have r1 : ((i : Int) < (l0.length : Int)) = True := eq_true (by omega)
      have r2 : decide ((i : Int) < (l0.length : Int)) = true := decide_eq_true (by omega)
      have r3 : (0 ≤ (i : Int)) = True := eq_true (by omega)
      obtain ⟨ad, e, hx⟩ := Kd.at_int HX.out (i : Int) (Int.natCast_nonneg i) (by omega)
      subst e
      have HXW := Aside0.mk (show ∀ W, Below w1.heap.size w1 W → W.cell? (ad.add i) = some (.int .u16 (rd l0 (i : Int))) from fun W hW => keepc hx (below_then HBw.out HBw.out.size hW))
      have hxr : 0 ≤ rd l0 (i : Int) ∧ rd l0 (i : Int) < 65536 := by
        have h1 : rd l0 (i : Int) = l0[i] := by
          unfold rd
          rw [Int.toNat_natCast, List.getD_eq_getElem?_getD, List.getElem?_eq_getElem hi]
          rfl
        rw [h1]
        exact hu.out _ (List.getElem_mem hi)
      obtain ⟨x, hx2⟩ : ∃ x, x = rd l0 (i : Int) := ⟨_, rfl⟩
      rw [← hx2] at HXW hxr
      have HI := Aside0.mk hi
      have hlen := Aside0.mk (show (headB a0 a1 a2 a3 (l0.length : Int) ++ hbs (l0.take i)).length = 24 + 2 * i by rw [List.length_append, headB_len, hbs_len, List.length_take]; omega)
      have hnext := Aside0.mk (show headB a0 a1 a2 a3 (l0.length : Int) ++ hbs (l0.take (i + 1)) = headB a0 a1 a2 a3 (l0.length : Int) ++ hbs (l0.take i) ++ [x % 256, x / 256 % 256] by rw [hx2, hbs_take l0 i hi, List.append_assoc])
      obtain ⟨ys, hys⟩ : ∃ ys, ys = headB a0 a1 a2 a3 (l0.length : Int) ++ hbs (l0.take i) := ⟨_, rfl⟩
      rw [← hys] at HO hlen hnext
      obtain ⟨lo, hlo⟩ : ∃ lo, lo = x % 256 := ⟨_, rfl⟩
      obtain ⟨hh, hhh⟩ : ∃ hh, hh = x / 256 % 256 := ⟨_, rfl⟩
      rw [← hlo, ← hhh] at hnext
      have x0 : 0 ≤ x ∧ x < 65536 := hxr
      have f1 : Int.tmod x 256 = lo := by rw [Int.tmod_eq_emod_of_nonneg x0.1]; omega
      have f2 : lo % 256 = lo := by omega
      have f3 : Int.tdiv x 256 = hh := by rw [Int.tdiv_eq_ediv_of_nonneg x0.1]; omega
      have f4 : hh % 256 = hh := by omega
      have f5 : IntKind.u16.wrap lo = lo := by simp [IntKind.wrap, IntKind.bits, IntKind.signed]; omega
      have f6 : IntKind.u16.wrap hh = hh := by simp [IntKind.wrap, IntKind.bits, IntKind.signed]; omega
      have f9 : IntKind.u8.wrap lo = lo := by simp [IntKind.wrap, IntKind.bits, IntKind.signed]; omega
      have f10 : IntKind.u8.wrap hh = hh := by simp [IntKind.wrap, IntKind.bits, IntKind.signed]; omega
      have f7 : lo % 65536 = lo := by omega
      have f8 : hh % 65536 = hh := by omega
      clear hx hi hys hlo hhh x0 hxr hx2
      go_wp2_with fail
      go_region_held3 (fun W => W.cell? (ad.add i) = some (.int .u16 x)) (((with_reducible refine HXW.out _ ?_); repeat (first | (with_reducible first | exact HB.out | apply below_alloc | apply pw_below_drewN | apply below_drew1) | exact HB.out))) (first | ((refine Kd.R_append_rows_step (Kd.int .u8) (w0 := w1) w1.heap.size (by rfl) (.tmp 37) (.tmp 50) 29 5 (.int .u8 0) 1 rfl Try.underlying29 info5 rfl (by decide) (by omega) u6 ys [lo, hh] (some ⟨wr.heap.size, 0, none⟩) 2 2 (fun _ => True) (fun _ => False) rfl rfl ?aO ?aR (fun _ _ h => h) (fun _ h => h.elim) ?aF ?aB ?aS ?aL ?_; (case aO => exact (by (with_reducible repeat (first | apply Kd.R_alloc | apply Kd.R_drewN | apply Kd.R_drew)); exact HO.out)); (case aR => first | exact (Kd.R_reads' (Kd.R_of_own (own_lit wr wr.heap.size 5 .u8 [lo, hh] (Nat.le_refl _) (by simp)) (ok := fun _ => True) (fun _ _ => trivial))).2.2 | exact Kd.C_drew (Kd.R_reads' (Kd.R_of_own (own_lit wr wr.heap.size 5 .u8 [lo, hh] (Nat.le_refl _) (by simp)) (ok := fun _ => True) (fun _ _ => trivial))).2.2); (case aF => exact (fun _ _ => trivial)); (case aB => exact (by repeat (first | (with_reducible first | exact HB.out | apply below_alloc | apply pw_below_drewN | apply below_drew1) | exact HB.out))); (case aS => exact below_size (by repeat (first | (with_reducible first | exact HB.out | apply below_alloc | apply pw_below_drewN | apply below_drew1) | exact HB.out))); (case aL => have := hlen.out; have := LM.out; have := HI.out; (try simp only [List.length_cons, List.length_nil]); omega); intro v2 w20 ho hb hgr hat; have n0 := Aside0.mk ho; have n1 := Aside0.mk hb; clear ho hb hgr hat HO HB; have HO := n0; have HB := n1; clear n0 n1)))
      go_wp2_with fail
      go_roundg (gk - 1)
      case measure => have := HK.out; have := HI.out; omega
      case rel => exact ⟨i + 1, congrArg (Value.int .i64) (wrap64_in' _ (by have := HI.out; have := LM.out; omega)), ⟨by have := HK.out; have := HI.out; omega⟩, ⟨by rw [hnext.out]; exact HO.out⟩, HB⟩
    · have he : i = l0.length := by have := HK.out; omega
      have r1 : ((i : Int) < (l0.length : Int)) = False := eq_false (by omega)
      subst he
      replace HO := Aside0.mk (show Kd.R (Kd.int .u8) 5 wr w1.heap.size (fun _ => True) u6 (headB a0 a1 a2 a3 (l0.length : Int) ++ hbs l0) by rw [← List.take_length (l := l0)]; simpa using HO.out)
      go_wp2_with fail
      go_region_held3 (fun W => W.cell? ⟨w.heap.size, 4, none⟩ = some (.slice A4 l4.length c4) ∧ W.cell? ⟨w.heap.size, 5, none⟩ = some (.slice A5 l5.length c5) ∧ W.cell? ⟨w.heap.size, 6, none⟩ = some (.slice A6 l6.length c6)) (((with_reducible refine HZT.out _ ?_); repeat (first | (with_reducible first | exact HB.out | apply below_drew1) | exact HB.out))) (first | (go_at_call 34; ((with_reducible refine (bautaref03_list.calls 6 u6 (headB a0 a1 a2 a3 (l0.length : Int) ++ hbs l0) A4 c4 l4 _ w1 _ HB.out.drew (Kd.R_drew HO.out) HQ4.out HC4.out hy1.out).mono ?_); rintro e w34 ⟨z4, rfl, ho, hb⟩; have ho_ := Aside0.mk ho; have hb_ := Aside0.mk hb; clear HO HB ho hb; have HO := ho_; have HB := hb_; clear ho_ hb_)) | (go_at_call 34; ((with_reducible refine (bautaref03_list.calls 6 z4 y1 A5 c5 l5 _ w1 _ HB.out HO.out HQ5.out HC5.out hy2.out).mono ?_); rintro e w35 ⟨z5, rfl, ho, hb⟩; have ho_ := Aside0.mk ho; have hb_ := Aside0.mk hb; clear HO HB ho hb; have HO := ho_; have HB := hb_; clear ho_ hb_)) | (go_at_call 34; ((with_reducible refine (bautaref03_list.calls 6 z5 y2 A6 c6 l6 _ w1 _ HB.out HO.out HQ6.out HC6.out hy3.out).mono ?_); rintro e w36 ⟨z6, rfl, ho, hb⟩; have ho_ := Aside0.mk ho; have hb_ := Aside0.mk hb; clear HO HB ho hb; have HO := ho_; have HB := hb_; clear ho_ hb_)))
      go_wp2_with fail
      refine bodyPost_ret (results_list (rs := [.tmp 4, .tmp 5]) rfl (by simp) (.tmp (.tmp .nil))) rfl ?_
      exact ⟨_, rfl, Kd.R_lower HO.out HBw.out.size, below_then HBw.out HBw.out.size HB.out⟩
theorem bautaref03_Put.calls (A0 : Option Addr) (c0 : Nat) (l0 : List Int) (a0 a1 a2 a3 : Int) (A4 : Option Addr) (c4 : Nat) (l4 : List S26) (A5 : Option Addr) (c5 : Nat) (l5 : List S26) (A6 : Option Addr) (c6 : Nat) (l6 : List S26) (r1 : List Int) (r2 : Int) (w : World)
    (hr0 : Kd.C (Kd.int .u16) w A0 l0.length l0) (hc0 : l0.length ≤ c0) (hr4 : Kd.C k26 w A4 l4.length l4) (hc4 : l4.length ≤ c4) (hr5 : Kd.C k26 w A5 l5.length l5) (hc5 : l5.length ≤ c5) (hr6 : Kd.C k26 w A6 l6.length l6) (hc6 : l6.length ≤ c6)
    (h : bautaref03_Put.f l0 a0 a1 a2 a3 l4 l5 l6 = some (r1, r2)) :
    Calls Try.prog 17 #[.slice A0 l0.length c0, .agg #[.int .i64 a0, .int .i64 a1, .int .i64 a2, .int .i64 a3, .slice A4 l4.length c4, .slice A5 l5.length c5, .slice A6 l6.length c6]] w fun e w' => ∃ v0_ : Value, e = .returned (.tuple #[v0_, .int .i64 r2]) ∧ Kd.R (Kd.int .u8) 5 w' w.heap.size (fun _ => True) v0_ r1 ∧ Below w.heap.size w w' := by
  unfold bautaref03_Put.f at h
  split at h
  case isFalse => cases h
  rename_i hq
  have hu : ∀ x ∈ l0, 0 ≤ x ∧ x < 65536 := fun x hx => by have := List.all_eq_true.mp hq x hx; simpa using this
  unfold image_Put.f at h
  rw [show image_can.f a0 a1 a2 a3 l4 l5 l6 = some (canB a0 a1 a2 a3 l4 l5 l6) from rfl, Option.bind_some] at h
  cases hcb : canB a0 a1 a2 a3 l4 l5 l6 with
  | false =>
    rw [hcb, if_neg Bool.false_ne_true] at h
    cases h
    exact refPut_no A0 c0 l0 a0 a1 a2 a3 A4 c4 l4 A5 c5 l5 A6 c6 l6 w hr0 hc0 hr4 hc4 hr5 hc5 hr6 hc6 hcb
  | true =>
    rw [hcb, if_pos rfl] at h
    by_cases hl : (l0.length : Int) > 60000
    · rw [if_pos hl] at h
      cases h
      exact refPut_long A0 c0 l0 a0 a1 a2 a3 A4 c4 l4 A5 c5 l5 A6 c6 l6 w hr0 hc0 hr4 hc4 hr5 hc5 hr6 hc6 hcb (by omega)
    · rw [if_neg hl] at h
      obtain ⟨t, h1, h2⟩ := Option.bind_eq_some_iff.mp h
      cases h2
      unfold image_put.f at h1
      rw [if_pos (by omega)] at h1
      exact refPut_main A0 c0 l0 a0 a1 a2 a3 A4 c4 l4 A5 c5 l5 A6 c6 l6 _ w hr0 hc0 hr4 hc4 hr5 hc5 hr6 hc6 hcb (by omega) hu h1
end Go.Proofs.Ytimhllaahihhgaa.PA
