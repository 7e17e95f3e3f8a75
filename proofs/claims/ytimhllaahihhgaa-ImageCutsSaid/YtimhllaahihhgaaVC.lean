/- ImageCuts: what the law's function comes to. No condition but the hypotheses that each theorem states. -/
import Derived.Test.YtimhllaahihhgaaVP
import Derived.Test.YtimhllaahihhgaaQJ
import Derived.Test.YtimhllaahihhgaaPAx6
import Derived.Test.YtimhllaahihhgaaPAx7
namespace Go.Proofs.Ytimhllaahihhgaa.PA
open Go.RowKit Go.Proofs.YtimhllaahihhgaaW.PrintWords Go.Proofs.YtimhllaahihhgaaW.PrintLast Go.Proofs.YtimhllaahihhgaaW.PrintMore
set_option linter.unusedVariables false
set_option linter.unusedSimpArgs false
theorem info32c : (Try.prog.info? 32).map (fun i => (i.zero, i.size, i.bytes)) = some (some (.int .u16 0), 1, 2) := by kernel_rfl
theorem R_empty16 (W : World) : Kd.R (Kd.int .u16) 32 (W.alloc (.cells #[] 32)) W.heap.size (fun _ => True) (.slice (some ⟨W.heap.size, 0, none⟩) 0 0) [] :=
  ⟨fun _ _ => trivial, [], World.ownsRow_lit (base := W.heap.size) (e := 32) (size := (Kd.int .u16).sz) W #[] 0 (Nat.le_refl _) (by decide) rfl, Reps.none _ _⟩
theorem R_empty8 (W : World) : Kd.R (Kd.int .u8) 5 (W.alloc (.cells #[] 5)) W.heap.size (fun _ => True) (.slice (some ⟨W.heap.size, 0, none⟩) 0 0) [] :=
  ⟨fun _ _ => trivial, [], World.ownsRow_lit (base := W.heap.size) (e := 5) (size := (Kd.int .u8).sz) W #[] 0 (Nat.le_refl _) (by decide) rfl, Reps.none _ _⟩
theorem slice29h (ad : Addr) (len c m : Nat) (h1 : m ≤ c) (h0 : 0 < c) (W : World) : (Instr.sliceAt 29 (.slice (some ad) len c) none (some (.int .i64 (m : Int))) none).run Try.prog W = .ok (.slice (some ad) m c) W := by
  rw [run_sliceAt_slice _ _ _ _ _ _ Try.underlying29, run_slice_h _ _ _ _ _ Try.underlying29 _ _ (by omega) (by omega)]
  have hs : (sizeOf (Try.prog.elem 29)).run Try.prog W = .ok 1 W := rfl
  rw [hs]
  simp [Result.andThen, sliced, Addr.add]
set_option maxHeartbeats 8000000 in
set_option maxRecDepth 100000 in
theorem cuts_no (A0 : Option Addr) (c0 : Nat) (l0 : List Int) (a0 a1 a2 a3 : Int) (A4 : Option Addr) (c4 : Nat) (l4 : List S26) (A5 : Option Addr) (c5 : Nat) (l5 : List S26) (A6 : Option Addr) (c6 : Nat) (l6 : List S26) (q : Int) (k : Nat) (w : World)
    (hr0 : Kd.C (Kd.int .u16) w A0 l0.length l0) (hc0 : l0.length ≤ c0) (hr4 : Kd.C k26 w A4 l4.length l4) (hc4 : l4.length ≤ c4) (hr5 : Kd.C k26 w A5 l5.length l5) (hc5 : l5.length ≤ c5) (hr6 : Kd.C k26 w A6 l6.length l6) (hc6 : l6.length ≤ c6) (hfew : bautalaw03_few.f k a0 a1 a2 a3 l4 l5 l6 = some false) :
    Calls Try.prog 6 #[.slice A0 l0.length c0, .agg #[.int .i64 a0, .int .i64 a1, .int .i64 a2, .int .i64 a3, .slice A4 l4.length c4, .slice A5 l5.length c5, .slice A6 l6.length c6], .int .u16 q] w fun e w' => e = .returned (.bool true) ∧ Below w.heap.size w w' := by
  have hu36 := Try.underlying36
  have HX := Aside0.mk hr0
  have HL4 := Aside0.mk hr4
  have HL5 := Aside0.mk hr5
  have HL6 := Aside0.mk hr6
  have HC0 := Aside0.mk hc0
  have HC4 := Aside0.mk hc4
  have HC5 := Aside0.mk hc5
  have HC6 := Aside0.mk hc6
  replace hfew := Aside0.mk hfew
  clear hr0 hr4 hr5 hr6 hc0 hc4 hc5 hc6
  go_enter Try.func6, Try.ntmps6
  go_wp2_with (first | (go_at_call 16; ((with_reducible refine (bautalaw03_few.calls k a0 a1 a2 a3 A4 c4 l4 A5 c5 l5 A6 c6 l6 false _ (Kd.C_below HL4.out (below_alloc (Below.refl _ _) _)) HC4.out (Kd.C_below HL5.out (below_alloc (Below.refl _ _) _)) HC5.out (Kd.C_below HL6.out (below_alloc (Below.refl _ _) _)) HC6.out hfew.out).mono ?_); rintro e w1 ⟨rfl, hb⟩; have hm1 := blk_below (heap_alloc_new w (.cells #[.int .i64 a0, .int .i64 a1, .int .i64 a2, .int .i64 a3, .slice A4 l4.length c4, .slice A5 l5.length c5, .slice A6 l6.length c6] 36)) hb; have HM1 := Aside0.mk hm1; have HBw := Aside0.mk (below_then (below_alloc (Below.refl w.heap.size w) _) (by simp) hb); have HQ4 := Aside0.mk (Kd.C_below (Kd.C_below HL4.out (below_alloc (Below.refl _ _) _)) hb); have HQ5 := Aside0.mk (Kd.C_below (Kd.C_below HL5.out (below_alloc (Below.refl _ _) _)) hb); have HQ6 := Aside0.mk (Kd.C_below (Kd.C_below HL6.out (below_alloc (Below.refl _ _) _)) hb); have HQ0 := Aside0.mk (Kd.C_below (Kd.C_below HX.out (below_alloc (Below.refl _ _) _)) hb); clear hb hm1 hfew)) | (go_at_call 9; ((with_reducible refine (bautalaw03_lives.calls true _ rfl).mono ?_); rintro e wl ⟨rfl, hb⟩; have HBl := Aside0.mk (below_then HBw.out HBw.out.size hb); clear hb)))
  go_ret
  exact ⟨rfl, HBl.out⟩
set_option maxHeartbeats 8000000 in
set_option maxRecDepth 100000 in
theorem cuts_e1 (A0 : Option Addr) (c0 : Nat) (l0 : List Int) (a0 a1 a2 a3 : Int) (A4 : Option Addr) (c4 : Nat) (l4 : List S26) (A5 : Option Addr) (c5 : Nat) (l5 : List S26) (A6 : Option Addr) (c6 : Nat) (l6 : List S26) (q : Int) (k : Nat) (w : World)
    (hr0 : Kd.C (Kd.int .u16) w A0 l0.length l0) (hc0 : l0.length ≤ c0) (hr4 : Kd.C k26 w A4 l4.length l4) (hc4 : l4.length ≤ c4) (hr5 : Kd.C k26 w A5 l5.length l5) (hc5 : l5.length ≤ c5) (hr6 : Kd.C k26 w A6 l6.length l6) (hc6 : l6.length ≤ c6) (hfew : bautalaw03_few.f k a0 a1 a2 a3 l4 l5 l6 = some true) (hll : l0.length < 70368744177664) (hput : image_Put.f l0 a0 a1 a2 a3 l4 l5 l6 = some ([], 1)) :
    Calls Try.prog 6 #[.slice A0 l0.length c0, .agg #[.int .i64 a0, .int .i64 a1, .int .i64 a2, .int .i64 a3, .slice A4 l4.length c4, .slice A5 l5.length c5, .slice A6 l6.length c6], .int .u16 q] w fun e w' => e = .returned (.bool true) ∧ Below w.heap.size w w' := by
  have hu36 := Try.underlying36
  have HX := Aside0.mk hr0
  have HL4 := Aside0.mk hr4
  have HL5 := Aside0.mk hr5
  have HL6 := Aside0.mk hr6
  have HC0 := Aside0.mk hc0
  have HC4 := Aside0.mk hc4
  have HC5 := Aside0.mk hc5
  have HC6 := Aside0.mk hc6
  replace hfew := Aside0.mk hfew
  clear hr0 hr4 hr5 hr6 hc0 hc4 hc5 hc6
  have HLL := Aside0.mk hll
  replace hput := Aside0.mk hput
  clear hll
  go_enter Try.func6, Try.ntmps6
  go_wp2_with (first | (go_at_call 16; ((with_reducible refine (bautalaw03_few.calls k a0 a1 a2 a3 A4 c4 l4 A5 c5 l5 A6 c6 l6 true _ (Kd.C_below HL4.out (below_alloc (Below.refl _ _) _)) HC4.out (Kd.C_below HL5.out (below_alloc (Below.refl _ _) _)) HC5.out (Kd.C_below HL6.out (below_alloc (Below.refl _ _) _)) HC6.out hfew.out).mono ?_); rintro e w1 ⟨rfl, hb⟩; have hm1 := blk_below (heap_alloc_new w (.cells #[.int .i64 a0, .int .i64 a1, .int .i64 a2, .int .i64 a3, .slice A4 l4.length c4, .slice A5 l5.length c5, .slice A6 l6.length c6] 36)) hb; have HM1 := Aside0.mk hm1; have HBw := Aside0.mk (below_then (below_alloc (Below.refl w.heap.size w) _) (by simp) hb); have HQ4 := Aside0.mk (Kd.C_below (Kd.C_below HL4.out (below_alloc (Below.refl _ _) _)) hb); have HQ5 := Aside0.mk (Kd.C_below (Kd.C_below HL5.out (below_alloc (Below.refl _ _) _)) hb); have HQ6 := Aside0.mk (Kd.C_below (Kd.C_below HL6.out (below_alloc (Below.refl _ _) _)) hb); have HQ0 := Aside0.mk (Kd.C_below (Kd.C_below HX.out (below_alloc (Below.refl _ _) _)) hb); have hz : ∀ W, Below w1.heap.size w1 W → W.cell? ⟨w.heap.size, 0, none⟩ = some (.int .i64 a0) ∧ W.cell? ⟨w.heap.size, 1, none⟩ = some (.int .i64 a1) ∧ W.cell? ⟨w.heap.size, 2, none⟩ = some (.int .i64 a2) ∧ W.cell? ⟨w.heap.size, 3, none⟩ = some (.int .i64 a3) ∧ W.cell? ⟨w.heap.size, 4, none⟩ = some (.slice A4 l4.length c4) ∧ W.cell? ⟨w.heap.size, 5, none⟩ = some (.slice A5 l5.length c5) ∧ W.cell? ⟨w.heap.size, 6, none⟩ = some (.slice A6 l6.length c6) := fun W hW => ⟨(cell_of_row _ _ 0 _ _ _ (blk_below HM1.out hW)).trans rfl, (cell_of_row _ _ 1 _ _ _ (blk_below HM1.out hW)).trans rfl, (cell_of_row _ _ 2 _ _ _ (blk_below HM1.out hW)).trans rfl, (cell_of_row _ _ 3 _ _ _ (blk_below HM1.out hW)).trans rfl, (cell_of_row _ _ 4 _ _ _ (blk_below HM1.out hW)).trans rfl, (cell_of_row _ _ 5 _ _ _ (blk_below HM1.out hW)).trans rfl, (cell_of_row _ _ 6 _ _ _ (blk_below HM1.out hW)).trans rfl⟩; have HZ := Aside0.mk hz; clear hz; have HB := Aside0.mk (Below.refl w1.heap.size w1); clear hb hm1 hfew)))
  go_region_held3 (fun W => W.cell? ⟨w.heap.size, 0, none⟩ = some (.int .i64 a0) ∧ W.cell? ⟨w.heap.size, 1, none⟩ = some (.int .i64 a1) ∧ W.cell? ⟨w.heap.size, 2, none⟩ = some (.int .i64 a2) ∧ W.cell? ⟨w.heap.size, 3, none⟩ = some (.int .i64 a3) ∧ W.cell? ⟨w.heap.size, 4, none⟩ = some (.slice A4 l4.length c4) ∧ W.cell? ⟨w.heap.size, 5, none⟩ = some (.slice A5 l5.length c5) ∧ W.cell? ⟨w.heap.size, 6, none⟩ = some (.slice A6 l6.length c6)) (((with_reducible refine HZ.out _ ?_); repeat (first | (with_reducible first | exact HB.out | apply below_alloc | apply pw_below_drewN | apply below_drew1) | exact HB.out))) (first | (go_at_call 15; ((with_reducible refine (image_Put.calls Ao co l0 a0 a1 a2 a3 A4 c4 l4 A5 c5 l5 A6 c6 l6 [] 1 _ (Kd.R_reads' HO.out).2.2 (Kd.R_reads' HO.out).2.1 (Kd.C_below HQ4.out HB.out) HC4.out (Kd.C_below HQ5.out HB.out) HC5.out (Kd.C_below HQ6.out HB.out) HC6.out hput.out).mono ?_); rintro e w3 ⟨vb, rfl, ho, hb⟩; obtain ⟨Ab, cb, eo⟩ := Kd.R_slice ho; subst eo; have n0 := Aside0.mk ho; have n1 := Aside0.mk (below_then HB.out HB.out.size hb); clear ho hb HO HB; have HO := n0; have HB := n1; clear n0 n1)) | ((refine Kd.R_append_rows_step (Kd.int .u16) (w0 := w1) w1.heap.size (by rfl) (.tmp 17) (.tmp 18) 30 32 (.int .u16 0) 2 rfl Try.underlying30 info32c rfl (by decide) (by omega) (.slice (some ⟨w1.heap.size, 0, none⟩) 0 0) [] l0 A0 l0.length c0 (fun _ => True) (fun _ => False) rfl rfl ?aO ?aR (fun _ _ h => h) (fun _ h => h.elim) ?aF ?aB ?aS ?aL ?_; (case aO => (with_reducible repeat (first | apply Kd.R_drewN | apply Kd.R_drew)); exact R_empty16 w1); (case aR => exact Kd.C_below HQ0.out (by repeat (first | (with_reducible first | exact HB.out | apply below_alloc | apply pw_below_drewN | apply below_drew1) | exact HB.out))); (case aF => exact (fun _ _ => trivial)); (case aB => repeat (first | (with_reducible first | exact HB.out | apply below_alloc | apply pw_below_drewN | apply below_drew1) | exact HB.out)); (case aS => exact below_size (by repeat (first | (with_reducible first | exact HB.out | apply below_alloc | apply pw_below_drewN | apply below_drew1) | exact HB.out))); (case aL => have := HLL.out; (try simp only [List.length_nil]); omega); intro v2 w2 ho hb hgr hat; rw [List.nil_append] at ho; obtain ⟨Ao, co, eo⟩ := Kd.R_slice ho; subst eo; have n0 := Aside0.mk ho; have n1 := Aside0.mk hb; clear ho hb hgr hat HB; have HO := n0; have HB := n1; clear n0 n1)))
  go_wp2_with (first | (go_at_call 9; ((with_reducible refine (bautalaw03_lives.calls true _ rfl).mono ?_); rintro e wl ⟨rfl, hb⟩; have HBl := Aside0.mk (below_then HB.out HB.out.size hb); clear hb)))
  go_ret
  exact ⟨rfl, below_then HBw.out HBw.out.size HBl.out⟩
set_option maxHeartbeats 8000000 in
set_option maxRecDepth 100000 in
theorem cuts_e2 (A0 : Option Addr) (c0 : Nat) (l0 : List Int) (a0 a1 a2 a3 : Int) (A4 : Option Addr) (c4 : Nat) (l4 : List S26) (A5 : Option Addr) (c5 : Nat) (l5 : List S26) (A6 : Option Addr) (c6 : Nat) (l6 : List S26) (q : Int) (k : Nat) (w : World)
    (hr0 : Kd.C (Kd.int .u16) w A0 l0.length l0) (hc0 : l0.length ≤ c0) (hr4 : Kd.C k26 w A4 l4.length l4) (hc4 : l4.length ≤ c4) (hr5 : Kd.C k26 w A5 l5.length l5) (hc5 : l5.length ≤ c5) (hr6 : Kd.C k26 w A6 l6.length l6) (hc6 : l6.length ≤ c6) (hfew : bautalaw03_few.f k a0 a1 a2 a3 l4 l5 l6 = some true) (hll : l0.length < 70368744177664) (hput : image_Put.f l0 a0 a1 a2 a3 l4 l5 l6 = some ([], 2)) :
    Calls Try.prog 6 #[.slice A0 l0.length c0, .agg #[.int .i64 a0, .int .i64 a1, .int .i64 a2, .int .i64 a3, .slice A4 l4.length c4, .slice A5 l5.length c5, .slice A6 l6.length c6], .int .u16 q] w fun e w' => e = .returned (.bool true) ∧ Below w.heap.size w w' := by
  have hu36 := Try.underlying36
  have HX := Aside0.mk hr0
  have HL4 := Aside0.mk hr4
  have HL5 := Aside0.mk hr5
  have HL6 := Aside0.mk hr6
  have HC0 := Aside0.mk hc0
  have HC4 := Aside0.mk hc4
  have HC5 := Aside0.mk hc5
  have HC6 := Aside0.mk hc6
  replace hfew := Aside0.mk hfew
  clear hr0 hr4 hr5 hr6 hc0 hc4 hc5 hc6
  have HLL := Aside0.mk hll
  replace hput := Aside0.mk hput
  clear hll
  go_enter Try.func6, Try.ntmps6
  go_wp2_with (first | (go_at_call 16; ((with_reducible refine (bautalaw03_few.calls k a0 a1 a2 a3 A4 c4 l4 A5 c5 l5 A6 c6 l6 true _ (Kd.C_below HL4.out (below_alloc (Below.refl _ _) _)) HC4.out (Kd.C_below HL5.out (below_alloc (Below.refl _ _) _)) HC5.out (Kd.C_below HL6.out (below_alloc (Below.refl _ _) _)) HC6.out hfew.out).mono ?_); rintro e w1 ⟨rfl, hb⟩; have hm1 := blk_below (heap_alloc_new w (.cells #[.int .i64 a0, .int .i64 a1, .int .i64 a2, .int .i64 a3, .slice A4 l4.length c4, .slice A5 l5.length c5, .slice A6 l6.length c6] 36)) hb; have HM1 := Aside0.mk hm1; have HBw := Aside0.mk (below_then (below_alloc (Below.refl w.heap.size w) _) (by simp) hb); have HQ4 := Aside0.mk (Kd.C_below (Kd.C_below HL4.out (below_alloc (Below.refl _ _) _)) hb); have HQ5 := Aside0.mk (Kd.C_below (Kd.C_below HL5.out (below_alloc (Below.refl _ _) _)) hb); have HQ6 := Aside0.mk (Kd.C_below (Kd.C_below HL6.out (below_alloc (Below.refl _ _) _)) hb); have HQ0 := Aside0.mk (Kd.C_below (Kd.C_below HX.out (below_alloc (Below.refl _ _) _)) hb); have hz : ∀ W, Below w1.heap.size w1 W → W.cell? ⟨w.heap.size, 0, none⟩ = some (.int .i64 a0) ∧ W.cell? ⟨w.heap.size, 1, none⟩ = some (.int .i64 a1) ∧ W.cell? ⟨w.heap.size, 2, none⟩ = some (.int .i64 a2) ∧ W.cell? ⟨w.heap.size, 3, none⟩ = some (.int .i64 a3) ∧ W.cell? ⟨w.heap.size, 4, none⟩ = some (.slice A4 l4.length c4) ∧ W.cell? ⟨w.heap.size, 5, none⟩ = some (.slice A5 l5.length c5) ∧ W.cell? ⟨w.heap.size, 6, none⟩ = some (.slice A6 l6.length c6) := fun W hW => ⟨(cell_of_row _ _ 0 _ _ _ (blk_below HM1.out hW)).trans rfl, (cell_of_row _ _ 1 _ _ _ (blk_below HM1.out hW)).trans rfl, (cell_of_row _ _ 2 _ _ _ (blk_below HM1.out hW)).trans rfl, (cell_of_row _ _ 3 _ _ _ (blk_below HM1.out hW)).trans rfl, (cell_of_row _ _ 4 _ _ _ (blk_below HM1.out hW)).trans rfl, (cell_of_row _ _ 5 _ _ _ (blk_below HM1.out hW)).trans rfl, (cell_of_row _ _ 6 _ _ _ (blk_below HM1.out hW)).trans rfl⟩; have HZ := Aside0.mk hz; clear hz; have HB := Aside0.mk (Below.refl w1.heap.size w1); clear hb hm1 hfew)))
  go_region_held3 (fun W => W.cell? ⟨w.heap.size, 0, none⟩ = some (.int .i64 a0) ∧ W.cell? ⟨w.heap.size, 1, none⟩ = some (.int .i64 a1) ∧ W.cell? ⟨w.heap.size, 2, none⟩ = some (.int .i64 a2) ∧ W.cell? ⟨w.heap.size, 3, none⟩ = some (.int .i64 a3) ∧ W.cell? ⟨w.heap.size, 4, none⟩ = some (.slice A4 l4.length c4) ∧ W.cell? ⟨w.heap.size, 5, none⟩ = some (.slice A5 l5.length c5) ∧ W.cell? ⟨w.heap.size, 6, none⟩ = some (.slice A6 l6.length c6)) (((with_reducible refine HZ.out _ ?_); repeat (first | (with_reducible first | exact HB.out | apply below_alloc | apply pw_below_drewN | apply below_drew1) | exact HB.out))) (first | (go_at_call 15; ((with_reducible refine (image_Put.calls Ao co l0 a0 a1 a2 a3 A4 c4 l4 A5 c5 l5 A6 c6 l6 [] 2 _ (Kd.R_reads' HO.out).2.2 (Kd.R_reads' HO.out).2.1 (Kd.C_below HQ4.out HB.out) HC4.out (Kd.C_below HQ5.out HB.out) HC5.out (Kd.C_below HQ6.out HB.out) HC6.out hput.out).mono ?_); rintro e w3 ⟨vb, rfl, ho, hb⟩; obtain ⟨Ab, cb, eo⟩ := Kd.R_slice ho; subst eo; have n0 := Aside0.mk ho; have n1 := Aside0.mk (below_then HB.out HB.out.size hb); clear ho hb HO HB; have HO := n0; have HB := n1; clear n0 n1)) | ((refine Kd.R_append_rows_step (Kd.int .u16) (w0 := w1) w1.heap.size (by rfl) (.tmp 17) (.tmp 18) 30 32 (.int .u16 0) 2 rfl Try.underlying30 info32c rfl (by decide) (by omega) (.slice (some ⟨w1.heap.size, 0, none⟩) 0 0) [] l0 A0 l0.length c0 (fun _ => True) (fun _ => False) rfl rfl ?aO ?aR (fun _ _ h => h) (fun _ h => h.elim) ?aF ?aB ?aS ?aL ?_; (case aO => (with_reducible repeat (first | apply Kd.R_drewN | apply Kd.R_drew)); exact R_empty16 w1); (case aR => exact Kd.C_below HQ0.out (by repeat (first | (with_reducible first | exact HB.out | apply below_alloc | apply pw_below_drewN | apply below_drew1) | exact HB.out))); (case aF => exact (fun _ _ => trivial)); (case aB => repeat (first | (with_reducible first | exact HB.out | apply below_alloc | apply pw_below_drewN | apply below_drew1) | exact HB.out)); (case aS => exact below_size (by repeat (first | (with_reducible first | exact HB.out | apply below_alloc | apply pw_below_drewN | apply below_drew1) | exact HB.out))); (case aL => have := HLL.out; (try simp only [List.length_nil]); omega); intro v2 w2 ho hb hgr hat; rw [List.nil_append] at ho; obtain ⟨Ao, co, eo⟩ := Kd.R_slice ho; subst eo; have n0 := Aside0.mk ho; have n1 := Aside0.mk hb; clear ho hb hgr hat HB; have HO := n0; have HB := n1; clear n0 n1)))
  go_wp2_with (first | (go_at_call 9; ((with_reducible refine (bautalaw03_lives.calls true _ rfl).mono ?_); rintro e wl ⟨rfl, hb⟩; have HBl := Aside0.mk (below_then HB.out HB.out.size hb); clear hb)))
  go_ret
  exact ⟨rfl, below_then HBw.out HBw.out.size HBl.out⟩
set_option maxHeartbeats 8000000 in
set_option maxRecDepth 100000 in
theorem cuts_main (A0 : Option Addr) (c0 : Nat) (l0 : List Int) (a0 a1 a2 a3 : Int) (A4 : Option Addr) (c4 : Nat) (l4 : List S26) (A5 : Option Addr) (c5 : Nat) (l5 : List S26) (A6 : Option Addr) (c6 : Nat) (l6 : List S26) (q : Int) (k : Nat) (w : World)
    (hr0 : Kd.C (Kd.int .u16) w A0 l0.length l0) (hc0 : l0.length ≤ c0) (hr4 : Kd.C k26 w A4 l4.length l4) (hc4 : l4.length ≤ c4) (hr5 : Kd.C k26 w A5 l5.length l5) (hc5 : l5.length ≤ c5) (hr6 : Kd.C k26 w A6 l6.length l6) (hc6 : l6.length ≤ c6) (B : List Int) (m : Nat) (hq : 0 ≤ q ∧ q < 65536) (hm : Int.tmod q (B.length : Int) = (m : Int)) (hmB : m < B.length) (hBL : B.length < 70368744177664) (hfew : bautalaw03_few.f k a0 a1 a2 a3 l4 l5 l6 = some true) (hll : l0.length < 70368744177664) (hput : image_Put.f l0 a0 a1 a2 a3 l4 l5 l6 = some (B, 0)) (htake : image_Take.f (B.take m) = some ([], 0, 0, 0, 0, [], [], [], 3)) :
    Calls Try.prog 6 #[.slice A0 l0.length c0, .agg #[.int .i64 a0, .int .i64 a1, .int .i64 a2, .int .i64 a3, .slice A4 l4.length c4, .slice A5 l5.length c5, .slice A6 l6.length c6], .int .u16 q] w fun e w' => e = .returned (.bool true) ∧ Below w.heap.size w w' := by
  have hu36 := Try.underlying36
  have HX := Aside0.mk hr0
  have HL4 := Aside0.mk hr4
  have HL5 := Aside0.mk hr5
  have HL6 := Aside0.mk hr6
  have HC0 := Aside0.mk hc0
  have HC4 := Aside0.mk hc4
  have HC5 := Aside0.mk hc5
  have HC6 := Aside0.mk hc6
  replace hfew := Aside0.mk hfew
  clear hr0 hr4 hr5 hr6 hc0 hc4 hc5 hc6
  obtain ⟨T, hT⟩ : ∃ T, T = B.take m := ⟨_, rfl⟩
  rw [← hT] at htake
  have HTL := Aside0.mk (show T.length = m by rw [hT, List.length_take]; omega)
  replace hT := Aside0.mk hT
  have HLL := Aside0.mk hll
  have HBL := Aside0.mk hBL
  have HMB := Aside0.mk hmB
  replace hput := Aside0.mk hput
  replace htake := Aside0.mk htake
  have g1 : ((B.length : Int) = 0) = False := eq_false (by omega)
  have g2 : decide ((B.length : Int) = 0) = false := decide_eq_false (by omega)
  have g3 : ((B.length : Int) == 0) = false := by rw [beq_eq_false_iff_ne]; omega
  have g4 : (B = []) = False := eq_false (fun h => by subst h; simp at hmB)
  have g5 : (B.length = 0) = False := eq_false (by omega)
  have g6 : IntKind.i64.wrap q = q := (i64_w _).trans (by unfold wrap64; omega)
  have g7 : wrap64 q = q := by unfold wrap64; omega
  have g8 : IntKind.i64.wrap (m : Int) = (m : Int) := (i64_w _).trans (by unfold wrap64; omega)
  have g9 : wrap64 (m : Int) = (m : Int) := by unfold wrap64; omega
  clear hll hBL hmB hq
  go_enter Try.func6, Try.ntmps6
  go_wp2_with (first | (go_at_call 16; ((with_reducible refine (bautalaw03_few.calls k a0 a1 a2 a3 A4 c4 l4 A5 c5 l5 A6 c6 l6 true _ (Kd.C_below HL4.out (below_alloc (Below.refl _ _) _)) HC4.out (Kd.C_below HL5.out (below_alloc (Below.refl _ _) _)) HC5.out (Kd.C_below HL6.out (below_alloc (Below.refl _ _) _)) HC6.out hfew.out).mono ?_); rintro e w1 ⟨rfl, hb⟩; have hm1 := blk_below (heap_alloc_new w (.cells #[.int .i64 a0, .int .i64 a1, .int .i64 a2, .int .i64 a3, .slice A4 l4.length c4, .slice A5 l5.length c5, .slice A6 l6.length c6] 36)) hb; have HM1 := Aside0.mk hm1; have HBw := Aside0.mk (below_then (below_alloc (Below.refl w.heap.size w) _) (by simp) hb); have HQ4 := Aside0.mk (Kd.C_below (Kd.C_below HL4.out (below_alloc (Below.refl _ _) _)) hb); have HQ5 := Aside0.mk (Kd.C_below (Kd.C_below HL5.out (below_alloc (Below.refl _ _) _)) hb); have HQ6 := Aside0.mk (Kd.C_below (Kd.C_below HL6.out (below_alloc (Below.refl _ _) _)) hb); have HQ0 := Aside0.mk (Kd.C_below (Kd.C_below HX.out (below_alloc (Below.refl _ _) _)) hb); have hz : ∀ W, Below w1.heap.size w1 W → W.cell? ⟨w.heap.size, 0, none⟩ = some (.int .i64 a0) ∧ W.cell? ⟨w.heap.size, 1, none⟩ = some (.int .i64 a1) ∧ W.cell? ⟨w.heap.size, 2, none⟩ = some (.int .i64 a2) ∧ W.cell? ⟨w.heap.size, 3, none⟩ = some (.int .i64 a3) ∧ W.cell? ⟨w.heap.size, 4, none⟩ = some (.slice A4 l4.length c4) ∧ W.cell? ⟨w.heap.size, 5, none⟩ = some (.slice A5 l5.length c5) ∧ W.cell? ⟨w.heap.size, 6, none⟩ = some (.slice A6 l6.length c6) := fun W hW => ⟨(cell_of_row _ _ 0 _ _ _ (blk_below HM1.out hW)).trans rfl, (cell_of_row _ _ 1 _ _ _ (blk_below HM1.out hW)).trans rfl, (cell_of_row _ _ 2 _ _ _ (blk_below HM1.out hW)).trans rfl, (cell_of_row _ _ 3 _ _ _ (blk_below HM1.out hW)).trans rfl, (cell_of_row _ _ 4 _ _ _ (blk_below HM1.out hW)).trans rfl, (cell_of_row _ _ 5 _ _ _ (blk_below HM1.out hW)).trans rfl, (cell_of_row _ _ 6 _ _ _ (blk_below HM1.out hW)).trans rfl⟩; have HZ := Aside0.mk hz; clear hz; have HB := Aside0.mk (Below.refl w1.heap.size w1); clear hb hm1 hfew)))
  go_region_held3 (fun W => W.cell? ⟨w.heap.size, 0, none⟩ = some (.int .i64 a0) ∧ W.cell? ⟨w.heap.size, 1, none⟩ = some (.int .i64 a1) ∧ W.cell? ⟨w.heap.size, 2, none⟩ = some (.int .i64 a2) ∧ W.cell? ⟨w.heap.size, 3, none⟩ = some (.int .i64 a3) ∧ W.cell? ⟨w.heap.size, 4, none⟩ = some (.slice A4 l4.length c4) ∧ W.cell? ⟨w.heap.size, 5, none⟩ = some (.slice A5 l5.length c5) ∧ W.cell? ⟨w.heap.size, 6, none⟩ = some (.slice A6 l6.length c6)) (((with_reducible refine HZ.out _ ?_); repeat (first | (with_reducible first | exact HB.out | apply below_alloc | apply pw_below_drewN | apply below_drew1) | exact HB.out))) (first | (go_at_call 15; ((with_reducible refine (image_Put.calls Ao co l0 a0 a1 a2 a3 A4 c4 l4 A5 c5 l5 A6 c6 l6 B 0 _ (Kd.R_reads' HO.out).2.2 (Kd.R_reads' HO.out).2.1 (Kd.C_below HQ4.out HB.out) HC4.out (Kd.C_below HQ5.out HB.out) HC5.out (Kd.C_below HQ6.out HB.out) HC6.out hput.out).mono ?_); rintro e w3 ⟨vb, rfl, ho, hb⟩; obtain ⟨Ab, cb, eo⟩ := Kd.R_slice ho; subst eo; have n0 := Aside0.mk ho; have n1 := Aside0.mk (below_then HB.out HB.out.size hb); clear ho hb HO HB; have HO := n0; have HB := n1; clear n0 n1)) | ((refine Kd.R_append_rows_step (Kd.int .u16) (w0 := w1) w1.heap.size (by rfl) (.tmp 17) (.tmp 18) 30 32 (.int .u16 0) 2 rfl Try.underlying30 info32c rfl (by decide) (by omega) (.slice (some ⟨w1.heap.size, 0, none⟩) 0 0) [] l0 A0 l0.length c0 (fun _ => True) (fun _ => False) rfl rfl ?aO ?aR (fun _ _ h => h) (fun _ h => h.elim) ?aF ?aB ?aS ?aL ?_; (case aO => (with_reducible repeat (first | apply Kd.R_drewN | apply Kd.R_drew)); exact R_empty16 w1); (case aR => exact Kd.C_below HQ0.out (by repeat (first | (with_reducible first | exact HB.out | apply below_alloc | apply pw_below_drewN | apply below_drew1) | exact HB.out))); (case aF => exact (fun _ _ => trivial)); (case aB => repeat (first | (with_reducible first | exact HB.out | apply below_alloc | apply pw_below_drewN | apply below_drew1) | exact HB.out)); (case aS => exact below_size (by repeat (first | (with_reducible first | exact HB.out | apply below_alloc | apply pw_below_drewN | apply below_drew1) | exact HB.out))); (case aL => have := HLL.out; (try simp only [List.length_nil]); omega); intro v2 w2 ho hb hgr hat; rw [List.nil_append] at ho; obtain ⟨Ao, co, eo⟩ := Kd.R_slice ho; subst eo; have n0 := Aside0.mk ho; have n1 := Aside0.mk hb; clear ho hb hgr hat HB; have HO := n0; have HB := n1; clear n0 n1)))
  obtain ⟨ad, eA, _⟩ := (Kd.R_reads' HO.out).2.2.2.2 (by have := HMB.out; omega)
  subst eA
  have HT := Aside0.mk (show Kd.C (Kd.int .u8) w3 (some ad) m T from by
    rw [hT.out]
    have h := Kd.C_take (Kd.R_reads' HO.out).2.2 (Nat.le_of_lt HMB.out)
    rw [show (B.take m).length = m by rw [List.length_take]; have := HMB.out; omega] at h
    exact h)
  have hcb := (Kd.R_reads' HO.out).2.1
  have hsl : ∀ W, (Instr.sliceAt 29 (.slice (some ad) B.length cb) none (some (.int .i64 (m : Int))) none).run Try.prog W = .ok (.slice (some ad) m cb) W := fun W => slice29h ad B.length cb m (by have := HMB.out; omega) (by have := HMB.out; omega) W
  clear hcb
  go_wp2_with (first | (go_at_call 11; ((with_reducible refine (image_Take.calls At ct T [] 0 0 0 0 [] [] [] 3 _ (Kd.R_reads' HO.out).2.2 (Kd.R_reads' HO.out).2.1 htake.out).mono ?_); rintro e w5 ⟨x0, x1, x2, x3, rfl, h0, h1, h2, h3, hb⟩; obtain ⟨X0, d0, eo⟩ := Kd.R_slice h0; subst eo; obtain ⟨X1, d1, eo⟩ := Kd.R_slice h1; subst eo; obtain ⟨X2, d2, eo⟩ := Kd.R_slice h2; subst eo; obtain ⟨X3, d3, eo⟩ := Kd.R_slice h3; subst eo; have H1 := Aside0.mk (Kd.R_reads' h1).2; have H2 := Aside0.mk (Kd.R_reads' h2).2; have H3 := Aside0.mk (Kd.R_reads' h3).2; have n1 := Aside0.mk (below_then HB.out HB.out.size hb); clear h0 h1 h2 h3 hb HB; have HB := n1; clear n1)) | (go_at_call 14; ((refine (bautaref03_Same.calls 2 0 0 0 0 X1 d1 [] X2 d2 [] X3 d3 [] 0 0 0 0 none 0 [] none 0 [] none 0 [] true _ (Kd.C_below H1.out.2 (below_alloc (Below.refl _ _) _)) H1.out.1 (Kd.C_below H2.out.2 (below_alloc (Below.refl _ _) _)) H2.out.1 (Kd.C_below H3.out.2 (below_alloc (Below.refl _ _) _)) H3.out.1 (Kd.C_nil _ _) (Nat.le_refl _) (Kd.C_nil _ _) (Nat.le_refl _) (Kd.C_nil _ _) (Nat.le_refl _) rfl).mono ?_); rintro e w6 ⟨rfl, hb⟩; have n1 := Aside0.mk (below_then (below_alloc HB.out _) (below_size (below_alloc HB.out _)) hb); clear HB hb; have HB := n1; clear n1)) | (go_at_call 9; ((with_reducible refine (bautalaw03_lives.calls true _ rfl).mono ?_); rintro e wl ⟨rfl, hb⟩; have HBl := Aside0.mk (below_then HB.out HB.out.size hb); clear hb)) | ((with_reducible refine gate_builtin (b := .append) (xs := #[.tmp 37, .tmp 44]) rfl ?_); at_builtin; (refine Kd.R_append_rows (Kd.int .u8) (w0 := w1) w1.heap.size rfl (.tmp 37) (.tmp 44) 29 5 (.int .u8 0) 1 rfl Try.underlying29 info5 rfl (by decide) (by omega) (.slice (some ⟨w3.heap.size, 0, none⟩) 0 0) [] T (some ad) m cb (fun _ => True) (fun _ => False) rfl rfl ?aO ?aR (fun _ _ h => h) (fun _ h => h.elim) ?aF ?aB ?aS ?aL ?_; (case aO => exact Kd.R_lower (R_empty8 w3) HB.out.size); (case aR => exact Kd.C_alloc HT.out _); (case aF => exact (fun _ _ => trivial)); (case aB => exact below_alloc HB.out _); (case aS => exact below_size (below_alloc HB.out _)); (case aL => have h1 := HBL.out; have h2 := HMB.out; have h3 := HTL.out; (try simp only [List.length_nil, List.length_take]); (try unfold wrap64); omega); intro v4 w4 ho hb hgr hat; rw [List.nil_append] at ho; obtain ⟨At, ct, eo⟩ := Kd.R_slice ho; subst eo; have n0 := Aside0.mk ho; have n1 := Aside0.mk hb; clear ho hb hgr hat HB HO; have HO := n0; have HB := n1; clear n0 n1)))
  go_ret
  exact ⟨rfl, below_then HBw.out HBw.out.size HBl.out⟩
end Go.Proofs.Ytimhllaahihhgaa.PA
