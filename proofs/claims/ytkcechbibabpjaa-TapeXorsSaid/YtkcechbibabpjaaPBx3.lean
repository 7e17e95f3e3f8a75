/- Written by this session's own program (wip/tools/pr.sh) for this claim: functions of the Go program as plain Lean functions, and that the calls come to what these say; in a Law text: the given statement. Conditions: none but the hypotheses that each theorem states. -/
import Derived.Test.YtkcechbibabpjaaPBx0
import Derived.Test.YtkcechbibabpjaaPBx1
import Derived.Test.YtkcechbibabpjaaPBx2
namespace Go.Proofs.Ytkcechbibabpjaa.PB
open Go.RowKit Go.Proofs.YtkcechbibabpjaaW.PrintWords Go.Proofs.YtkcechbibabpjaaW.PrintLast Go.Proofs.YtkcechbibabpjaaW.PrintMore
attribute [local go_sem] max2_int min2_int max_two min_two max_three min_three max_four min_four   -- for this text's walks alone
set_option linter.unusedVariables false
set_option linter.unusedSimpArgs false

/-! ### bautaref38_Quarter: function 9 -/
def bautaref38_Quarter.f (k : Nat) (a0_0 : Int) (a0_1 : Int) (a0_2 : Int) (a0_3 : Int) : Option (Int × Int × Int × Int) := (bautaref01_Rot.f k (Go.bits .xor .u32 a0_3 ((a0_0 + a0_1) % 4294967296)) 16).bind fun t170 => ((bautaref01_Rot.f k (Go.bits .xor .u32 a0_1 ((a0_2 + t170) % 4294967296)) 12).bind fun t171 => ((bautaref01_Rot.f k (Go.bits .xor .u32 t170 ((((a0_0 + a0_1) % 4294967296) + t171) % 4294967296)) 8).bind fun t172 => ((bautaref01_Rot.f k (Go.bits .xor .u32 t171 ((((a0_2 + t170) % 4294967296) + t172) % 4294967296)) 7).bind fun t173 => (some (((((a0_0 + a0_1) % 4294967296) + t171) % 4294967296), t173, ((((a0_2 + t170) % 4294967296) + t172) % 4294967296), t172)))))
theorem bautaref38_Quarter.mono : ∀ a0 a1 a2 a3 k, LeO (bautaref38_Quarter.f k a0 a1 a2 a3) (bautaref38_Quarter.f (k + 1) a0 a1 a2 a3) := by
  intro a0 a1 a2 a3 k
  unfold bautaref38_Quarter.f
  repeat' first
      | (with_reducible exact bautaref01_Rot.mono _ _ _)
      | (with_reducible exact LeO.refl _)
      | (with_reducible exact LeO.none _)
      | (with_reducible refine LeO.ite ?_ ?_)
      | (with_reducible refine LeO.bind ?_ (fun _ => ?_))
      | exact bautaref01_Rot.mono _ _ _
      | exact LeO.none _
      | refine LeO.ite ?_ ?_
      | refine LeO.bind ?_ (fun _ => ?_)
set_option maxHeartbeats 8000000 in
set_option maxRecDepth 100000 in
theorem bautaref38_Quarter.calls (k : Nat) (a0_0 : Int) (a0_1 : Int) (a0_2 : Int) (a0_3 : Int) (r1 : Int) (r2 : Int) (r3 : Int) (r4 : Int) (w : World) (h : bautaref38_Quarter.f k a0_0 a0_1 a0_2 a0_3 = some (r1, r2, r3, r4)) :
    Calls Try.prog 9 #[.agg #[.int .u32 a0_0, .int .u32 a0_1, .int .u32 a0_2, .int .u32 a0_3]] w fun e w' => e = .returned (.agg #[.int .u32 r1, .int .u32 r2, .int .u32 r3, .int .u32 r4]) ∧ Below w.heap.size w w' := by
  have hu23 := Try.underlying23
  have HB := Aside0.mk (Below.refl w.heap.size w)
  have H : ((bautaref01_Rot.f k (Go.bits .xor .u32 a0_3 ((a0_0 + a0_1) % 4294967296)) 16).bind fun t170 => ((bautaref01_Rot.f k (Go.bits .xor .u32 a0_1 ((a0_2 + t170) % 4294967296)) 12).bind fun t171 => ((bautaref01_Rot.f k (Go.bits .xor .u32 t170 ((((a0_0 + a0_1) % 4294967296) + t171) % 4294967296)) 8).bind fun t172 => ((bautaref01_Rot.f k (Go.bits .xor .u32 t171 ((((a0_2 + t170) % 4294967296) + t172) % 4294967296)) 7).bind fun t173 => (some (((((a0_0 + a0_1) % 4294967296) + t171) % 4294967296), t173, ((((a0_2 + t170) % 4294967296) + t172) % 4294967296), t172)))))) = some (r1, r2, r3, r4) := h
  clear h
  obtain ⟨ji2, hji2⟩ : ∃ j_ : Int, ((a0_0 + a0_1) % 4294967296) = j_ := ⟨_, rfl⟩
  replace H : ((bautaref01_Rot.f k (Go.bits .xor .u32 a0_3 (ji2)) 16).bind fun t170 => ((bautaref01_Rot.f k (Go.bits .xor .u32 a0_1 ((a0_2 + t170) % 4294967296)) 12).bind fun t171 => ((bautaref01_Rot.f k (Go.bits .xor .u32 t170 (((ji2) + t171) % 4294967296)) 8).bind fun t172 => ((bautaref01_Rot.f k (Go.bits .xor .u32 t171 ((((a0_2 + t170) % 4294967296) + t172) % 4294967296)) 7).bind fun t173 => (some ((((ji2) + t171) % 4294967296), t173, ((((a0_2 + t170) % 4294967296) + t172) % 4294967296), t172)))))) = some (r1, r2, r3, r4) := by first | (rw [hji2] at H; exact H) | (simp only [hji2] at H ⊢; exact H)
  replace H := Option.bind_eq_some_iff.mp H
  obtain ⟨t170, A30, H⟩ := H
  replace H : ((bautaref01_Rot.f k (Go.bits .xor .u32 a0_1 ((a0_2 + t170) % 4294967296)) 12).bind fun t171 => ((bautaref01_Rot.f k (Go.bits .xor .u32 t170 (((ji2) + t171) % 4294967296)) 8).bind fun t172 => ((bautaref01_Rot.f k (Go.bits .xor .u32 t171 ((((a0_2 + t170) % 4294967296) + t172) % 4294967296)) 7).bind fun t173 => (some ((((ji2) + t171) % 4294967296), t173, ((((a0_2 + t170) % 4294967296) + t172) % 4294967296), t172))))) = some (r1, r2, r3, r4) := H
  have A3 := Aside0.mk A30
  clear A30
  obtain ⟨ji4, hji4⟩ : ∃ j_ : Int, ((a0_2 + t170) % 4294967296) = j_ := ⟨_, rfl⟩
  replace H : ((bautaref01_Rot.f k (Go.bits .xor .u32 a0_1 (ji4)) 12).bind fun t171 => ((bautaref01_Rot.f k (Go.bits .xor .u32 t170 (((ji2) + t171) % 4294967296)) 8).bind fun t172 => ((bautaref01_Rot.f k (Go.bits .xor .u32 t171 (((ji4) + t172) % 4294967296)) 7).bind fun t173 => (some ((((ji2) + t171) % 4294967296), t173, (((ji4) + t172) % 4294967296), t172))))) = some (r1, r2, r3, r4) := by first | (rw [hji4] at H; exact H) | (simp only [hji4] at H ⊢; exact H)
  (try rw [hji4] at A3)
  replace H := Option.bind_eq_some_iff.mp H
  obtain ⟨t171, A50, H⟩ := H
  replace H : ((bautaref01_Rot.f k (Go.bits .xor .u32 t170 (((ji2) + t171) % 4294967296)) 8).bind fun t172 => ((bautaref01_Rot.f k (Go.bits .xor .u32 t171 (((ji4) + t172) % 4294967296)) 7).bind fun t173 => (some ((((ji2) + t171) % 4294967296), t173, (((ji4) + t172) % 4294967296), t172)))) = some (r1, r2, r3, r4) := H
  have A5 := Aside0.mk A50
  clear A50
  obtain ⟨ji6, hji6⟩ : ∃ j_ : Int, (((ji2) + t171) % 4294967296) = j_ := ⟨_, rfl⟩
  replace H : ((bautaref01_Rot.f k (Go.bits .xor .u32 t170 (ji6)) 8).bind fun t172 => ((bautaref01_Rot.f k (Go.bits .xor .u32 t171 (((ji4) + t172) % 4294967296)) 7).bind fun t173 => (some ((ji6), t173, (((ji4) + t172) % 4294967296), t172)))) = some (r1, r2, r3, r4) := by first | (rw [hji6] at H; exact H) | (simp only [hji6] at H ⊢; exact H)
  (try rw [hji6] at A3)
  (try rw [hji6] at A5)
  replace H := Option.bind_eq_some_iff.mp H
  obtain ⟨t172, A70, H⟩ := H
  replace H : ((bautaref01_Rot.f k (Go.bits .xor .u32 t171 (((ji4) + t172) % 4294967296)) 7).bind fun t173 => (some ((ji6), t173, (((ji4) + t172) % 4294967296), t172))) = some (r1, r2, r3, r4) := H
  have A7 := Aside0.mk A70
  clear A70
  obtain ⟨ji8, hji8⟩ : ∃ j_ : Int, (((ji4) + t172) % 4294967296) = j_ := ⟨_, rfl⟩
  replace H : ((bautaref01_Rot.f k (Go.bits .xor .u32 t171 (ji8)) 7).bind fun t173 => (some ((ji6), t173, (ji8), t172))) = some (r1, r2, r3, r4) := by first | (rw [hji8] at H; exact H) | (simp only [hji8] at H ⊢; exact H)
  (try rw [hji8] at A3)
  (try rw [hji8] at A5)
  (try rw [hji8] at A7)
  replace H := Option.bind_eq_some_iff.mp H
  obtain ⟨t173, A90, H⟩ := H
  replace H : (some ((ji6), t173, (ji8), t172)) = some (r1, r2, r3, r4) := H
  have A9 := Aside0.mk A90
  clear A90
  simp only [Option.some.injEq, Prod.mk.injEq] at H
  obtain ⟨rfl, rfl, rfl, rfl⟩ := H
  go_enter Try.func9, Try.ntmps9
  go_wp2_with (first | ((with_reducible refine wp_loop_rounds 100 ?_); rw [rounds_succ]) | ((with_reducible rw [rounds_succ])) | ((with_reducible refine gate_dst (N := 1) rfl ?_); refine box_event ?hg (N := 1) ?hd (cs := #[.int .u32 a0_0, .int .u32 a0_1, .int .u32 a0_2, .int .u32 a0_3]) (t := 23) ?hr ?_; (case hd => rfl); (case hg => rfl); (case hr => first | (go_simp; done) | (go_simp; rfl)); intro gb168 hg w10 hbox hb; have n0_ := Aside0.mk (below_step (by repeat (first | (with_reducible first | exact HB.out | apply below_alloc | apply pw_below_drewN | apply below_drew1) | exact HB.out)) hb); have n1_ := Aside0.mk (hbox); have n2_ := Aside0.mk ((by rw [hg]; exact (below_size (by repeat (first | (with_reducible first | exact HB.out | apply below_alloc | apply pw_below_drewN | apply below_drew1) | exact HB.out))) : w.heap.size ≤ gb168)); have n3_ := Aside0.mk ((by rw [hg]; exact (below_size (by repeat (first | (with_reducible first | exact HB.out | apply below_alloc | apply pw_below_drewN | apply below_drew1) | exact HB.out))) : w.heap.size ≤ gb168)); clear HB; have HB := n0_; have BK168 := n1_; have GW168 := n2_; have GE168 := n3_; clear n0_ n1_ n2_ n3_; clear hb hbox hg) | ((with_reducible refine gate_dst (N := 2) rfl ?_); refine box_event ?hg (N := 2) ?hd (cs := #[.int .u32 0, .int .u32 0, .int .u32 0, .int .u32 0]) (t := 23) ?hr ?_; (case hd => rfl); (case hg => rfl); (case hr => first | (go_simp; done) | (go_simp; rfl)); intro gb169 hg w11 hbox hb; have n0_ := Aside0.mk (blk_below (g := gb168) (o := .cells #[.int .u32 a0_0, .int .u32 a0_1, .int .u32 a0_2, .int .u32 a0_3] 23 (0, 0)) (by (with_reducible repeat (first | refine blk_drewN ?_ _ | refine blk_drew ?_ | refine blk_alloc ?_ _)); exact BK168.out) hb); have n1_ := Aside0.mk (below_step (by repeat (first | (with_reducible first | exact HB.out | apply below_alloc | apply pw_below_drewN | apply below_drew1 | refine below_set ?_ GE168.out) | exact HB.out)) hb); have n2_ := Aside0.mk (hbox); have n3_ := Aside0.mk ((by rw [hg]; exact (below_size (by repeat (first | (with_reducible first | exact HB.out | apply below_alloc | apply pw_below_drewN | apply below_drew1 | refine below_set ?_ GE168.out) | exact HB.out))) : w.heap.size ≤ gb169)); have n4_ := Aside0.mk ((by rw [hg]; exact (below_size (by repeat (first | (with_reducible first | exact HB.out | apply below_alloc | apply pw_below_drewN | apply below_drew1 | refine below_set ?_ GE168.out) | exact HB.out))) : w.heap.size ≤ gb169)); have n5_ := Aside0.mk ((by rw [hg]; exact Nat.ne_of_lt (blk_lt (g := gb168) (o := .cells #[.int .u32 a0_0, .int .u32 a0_1, .int .u32 a0_2, .int .u32 a0_3] 23 (0, 0)) (by (with_reducible repeat (first | refine blk_drewN ?_ _ | refine blk_drew ?_ | refine blk_alloc ?_ _)); exact BK168.out)) : gb168 ≠ gb169)); have n6_ := Aside0.mk ((by rw [hg]; exact Nat.ne_of_gt (blk_lt (g := gb168) (o := .cells #[.int .u32 a0_0, .int .u32 a0_1, .int .u32 a0_2, .int .u32 a0_3] 23 (0, 0)) (by (with_reducible repeat (first | refine blk_drewN ?_ _ | refine blk_drew ?_ | refine blk_alloc ?_ _)); exact BK168.out)) : gb169 ≠ gb168)); clear BK168; clear HB; have BK168 := n0_; have HB := n1_; have BK169 := n2_; have GW169 := n3_; have GE169 := n4_; have NB168_169 := n5_; have NB169_168 := n6_; clear n0_ n1_ n2_ n3_ n4_ n5_ n6_; clear hb hbox hg; have hnb12 := NB168_169.out; have hnc12 := NB169_168.out; have hcz13_0 : w11.cell? ⟨gb168, 0, none⟩ = some (.int .u32 a0_0) := (blk_cell BK168.out 0).trans rfl; have hcz13_1 : w11.cell? ⟨gb168, 1, none⟩ = some (.int .u32 a0_1) := (blk_cell BK168.out 1).trans rfl; have hcz13_2 : w11.cell? ⟨gb168, 2, none⟩ = some (.int .u32 a0_2) := (blk_cell BK168.out 2).trans rfl; have hcz13_3 : w11.cell? ⟨gb168, 3, none⟩ = some (.int .u32 a0_3) := (blk_cell BK168.out 3).trans rfl; have hfz13_0 := blk_frozen BK168.out 0; have hfz13_1 := blk_frozen BK168.out 1; have hfz13_2 := blk_frozen BK168.out 2; have hfz13_3 := blk_frozen BK168.out 3) | ((with_reducible refine gate_callee (f := 20) rfl ?_); refine goesL_ (some 14) rfl rfl Try.func20 (by kernel_rfl) rfl #[.int .u32 (Go.bits .xor .u32 a0_3 (ji2)), .int .u32 16] rfl (by (try simp only [List.map_toArray, List.map_cons, List.map_nil]); first | done | (simp only [hji2]; rfl) | rfl | (simp only [List.length_drop, List.length_take]; rfl)) ?_; (with_reducible refine (bautaref01_Rot.calls k (Go.bits .xor .u32 a0_3 (ji2)) 16 t170 _ A3.out).mono ?_); rintro e w14 ⟨rfl, hb⟩; refine ⟨_, rfl, ?_⟩; have n0_ := Aside0.mk (blk_below (g := gb168) (o := .cells #[.int .u32 (ji2), .int .u32 a0_1, .int .u32 a0_2, .int .u32 a0_3] 23 (0, 0)) (by (with_reducible repeat (first | refine blk_drewN ?_ _ | refine blk_drew ?_ | refine blk_alloc ?_ _)); refine blk_put (cs := #[.int .u32 a0_0, .int .u32 a0_1, .int .u32 a0_2, .int .u32 a0_3]) ?_ 0 _ rfl; (with_reducible repeat (first | refine blk_drewN ?_ _ | refine blk_drew ?_ | refine blk_alloc ?_ _)); exact BK168.out) hb); have n1_ := Aside0.mk (blk_below (g := gb169) (o := .cells #[.int .u32 0, .int .u32 0, .int .u32 0, .int .u32 0] 23 (0, 0)) (by (with_reducible repeat (first | refine blk_drewN ?_ _ | refine blk_drew ?_ | refine blk_alloc ?_ _)); refine blk_far ?_ NB169_168.out _; (with_reducible repeat (first | refine blk_drewN ?_ _ | refine blk_drew ?_ | refine blk_alloc ?_ _)); exact BK169.out) hb); have n2_ := Aside0.mk (below_step (by repeat (first | (with_reducible first | exact HB.out | apply below_alloc | apply pw_below_drewN | apply below_drew1 | refine below_set ?_ GE168.out | refine below_set ?_ GE169.out) | exact HB.out)) hb); clear BK168; clear BK169; clear HB; have BK168 := n0_; have BK169 := n1_; have HB := n2_; clear n0_ n1_ n2_; (try clear hb); (try clear hb2); (try clear hk); (try clear hi); have hcz15_0 : w14.cell? ⟨gb168, 0, none⟩ = some (.int .u32 (ji2)) := (blk_cell BK168.out 0).trans rfl; have hcz15_1 : w14.cell? ⟨gb168, 1, none⟩ = some (.int .u32 a0_1) := (blk_cell BK168.out 1).trans rfl; have hcz15_2 : w14.cell? ⟨gb168, 2, none⟩ = some (.int .u32 a0_2) := (blk_cell BK168.out 2).trans rfl; have hcz15_3 : w14.cell? ⟨gb168, 3, none⟩ = some (.int .u32 a0_3) := (blk_cell BK168.out 3).trans rfl; have hfz15_0 := blk_frozen BK168.out 0; have hfz15_1 := blk_frozen BK168.out 1; have hfz15_2 := blk_frozen BK168.out 2; have hfz15_3 := blk_frozen BK168.out 3) | ((with_reducible refine gate_callee (f := 20) rfl ?_); refine goesL_ (some 27) rfl rfl Try.func20 (by kernel_rfl) rfl #[.int .u32 (Go.bits .xor .u32 a0_1 (ji4)), .int .u32 12] rfl (by (try simp only [List.map_toArray, List.map_cons, List.map_nil]); first | done | (simp only [hji4]; rfl) | rfl | (simp only [List.length_drop, List.length_take]; rfl)) ?_; (with_reducible refine (bautaref01_Rot.calls k (Go.bits .xor .u32 a0_1 (ji4)) 12 t171 _ A5.out).mono ?_); rintro e w16 ⟨rfl, hb⟩; refine ⟨_, rfl, ?_⟩; have n0_ := Aside0.mk (blk_below (g := gb168) (o := .cells #[.int .u32 (ji2), .int .u32 a0_1, .int .u32 (ji4), .int .u32 t170] 23 (0, 0)) (by (with_reducible repeat (first | refine blk_drewN ?_ _ | refine blk_drew ?_ | refine blk_alloc ?_ _)); refine blk_put (cs := #[.int .u32 (ji2), .int .u32 a0_1, .int .u32 a0_2, .int .u32 t170]) ?_ 2 _ rfl; (with_reducible repeat (first | refine blk_drewN ?_ _ | refine blk_drew ?_ | refine blk_alloc ?_ _)); refine blk_put (cs := #[.int .u32 (ji2), .int .u32 a0_1, .int .u32 a0_2, .int .u32 a0_3]) ?_ 3 _ rfl; (with_reducible repeat (first | refine blk_drewN ?_ _ | refine blk_drew ?_ | refine blk_alloc ?_ _)); exact BK168.out) hb); have n1_ := Aside0.mk (blk_below (g := gb169) (o := .cells #[.int .u32 0, .int .u32 0, .int .u32 0, .int .u32 0] 23 (0, 0)) (by (with_reducible repeat (first | refine blk_drewN ?_ _ | refine blk_drew ?_ | refine blk_alloc ?_ _)); refine blk_far ?_ NB169_168.out _; (with_reducible repeat (first | refine blk_drewN ?_ _ | refine blk_drew ?_ | refine blk_alloc ?_ _)); refine blk_far ?_ NB169_168.out _; (with_reducible repeat (first | refine blk_drewN ?_ _ | refine blk_drew ?_ | refine blk_alloc ?_ _)); exact BK169.out) hb); have n2_ := Aside0.mk (below_step (by repeat (first | (with_reducible first | exact HB.out | apply below_alloc | apply pw_below_drewN | apply below_drew1 | refine below_set ?_ GE168.out | refine below_set ?_ GE169.out) | exact HB.out)) hb); clear BK168; clear BK169; clear HB; have BK168 := n0_; have BK169 := n1_; have HB := n2_; clear n0_ n1_ n2_; (try clear hb); (try clear hb2); (try clear hk); (try clear hi); have hcz17_0 : w16.cell? ⟨gb168, 0, none⟩ = some (.int .u32 (ji2)) := (blk_cell BK168.out 0).trans rfl; have hcz17_1 : w16.cell? ⟨gb168, 1, none⟩ = some (.int .u32 a0_1) := (blk_cell BK168.out 1).trans rfl; have hcz17_2 : w16.cell? ⟨gb168, 2, none⟩ = some (.int .u32 (ji4)) := (blk_cell BK168.out 2).trans rfl; have hcz17_3 : w16.cell? ⟨gb168, 3, none⟩ = some (.int .u32 t170) := (blk_cell BK168.out 3).trans rfl; have hfz17_0 := blk_frozen BK168.out 0; have hfz17_1 := blk_frozen BK168.out 1; have hfz17_2 := blk_frozen BK168.out 2; have hfz17_3 := blk_frozen BK168.out 3) | ((with_reducible refine gate_callee (f := 20) rfl ?_); refine goesL_ (some 40) rfl rfl Try.func20 (by kernel_rfl) rfl #[.int .u32 (Go.bits .xor .u32 t170 (ji6)), .int .u32 8] rfl (by (try simp only [List.map_toArray, List.map_cons, List.map_nil]); first | done | (simp only [hji6]; rfl) | rfl | (simp only [List.length_drop, List.length_take]; rfl)) ?_; (with_reducible refine (bautaref01_Rot.calls k (Go.bits .xor .u32 t170 (ji6)) 8 t172 _ A7.out).mono ?_); rintro e w18 ⟨rfl, hb⟩; refine ⟨_, rfl, ?_⟩; have n0_ := Aside0.mk (blk_below (g := gb168) (o := .cells #[.int .u32 (ji6), .int .u32 t171, .int .u32 (ji4), .int .u32 t170] 23 (0, 0)) (by (with_reducible repeat (first | refine blk_drewN ?_ _ | refine blk_drew ?_ | refine blk_alloc ?_ _)); refine blk_put (cs := #[.int .u32 (ji2), .int .u32 t171, .int .u32 (ji4), .int .u32 t170]) ?_ 0 _ rfl; (with_reducible repeat (first | refine blk_drewN ?_ _ | refine blk_drew ?_ | refine blk_alloc ?_ _)); refine blk_put (cs := #[.int .u32 (ji2), .int .u32 a0_1, .int .u32 (ji4), .int .u32 t170]) ?_ 1 _ rfl; (with_reducible repeat (first | refine blk_drewN ?_ _ | refine blk_drew ?_ | refine blk_alloc ?_ _)); exact BK168.out) hb); have n1_ := Aside0.mk (blk_below (g := gb169) (o := .cells #[.int .u32 0, .int .u32 0, .int .u32 0, .int .u32 0] 23 (0, 0)) (by (with_reducible repeat (first | refine blk_drewN ?_ _ | refine blk_drew ?_ | refine blk_alloc ?_ _)); refine blk_far ?_ NB169_168.out _; (with_reducible repeat (first | refine blk_drewN ?_ _ | refine blk_drew ?_ | refine blk_alloc ?_ _)); refine blk_far ?_ NB169_168.out _; (with_reducible repeat (first | refine blk_drewN ?_ _ | refine blk_drew ?_ | refine blk_alloc ?_ _)); exact BK169.out) hb); have n2_ := Aside0.mk (below_step (by repeat (first | (with_reducible first | exact HB.out | apply below_alloc | apply pw_below_drewN | apply below_drew1 | refine below_set ?_ GE168.out | refine below_set ?_ GE169.out) | exact HB.out)) hb); clear BK168; clear BK169; clear HB; have BK168 := n0_; have BK169 := n1_; have HB := n2_; clear n0_ n1_ n2_; (try clear hb); (try clear hb2); (try clear hk); (try clear hi); have hcz19_0 : w18.cell? ⟨gb168, 0, none⟩ = some (.int .u32 (ji6)) := (blk_cell BK168.out 0).trans rfl; have hcz19_1 : w18.cell? ⟨gb168, 1, none⟩ = some (.int .u32 t171) := (blk_cell BK168.out 1).trans rfl; have hcz19_2 : w18.cell? ⟨gb168, 2, none⟩ = some (.int .u32 (ji4)) := (blk_cell BK168.out 2).trans rfl; have hcz19_3 : w18.cell? ⟨gb168, 3, none⟩ = some (.int .u32 t170) := (blk_cell BK168.out 3).trans rfl; have hfz19_0 := blk_frozen BK168.out 0; have hfz19_1 := blk_frozen BK168.out 1; have hfz19_2 := blk_frozen BK168.out 2; have hfz19_3 := blk_frozen BK168.out 3) | ((with_reducible refine gate_callee (f := 20) rfl ?_); refine goesL_ (some 53) rfl rfl Try.func20 (by kernel_rfl) rfl #[.int .u32 (Go.bits .xor .u32 t171 (ji8)), .int .u32 7] rfl (by (try simp only [List.map_toArray, List.map_cons, List.map_nil]); first | done | (simp only [hji8]; rfl) | rfl | (simp only [List.length_drop, List.length_take]; rfl)) ?_; (with_reducible refine (bautaref01_Rot.calls k (Go.bits .xor .u32 t171 (ji8)) 7 t173 _ A9.out).mono ?_); rintro e w20 ⟨rfl, hb⟩; refine ⟨_, rfl, ?_⟩; have n0_ := Aside0.mk (blk_below (g := gb168) (o := .cells #[.int .u32 (ji6), .int .u32 t171, .int .u32 (ji8), .int .u32 t172] 23 (0, 0)) (by (with_reducible repeat (first | refine blk_drewN ?_ _ | refine blk_drew ?_ | refine blk_alloc ?_ _)); refine blk_put (cs := #[.int .u32 (ji6), .int .u32 t171, .int .u32 (ji4), .int .u32 t172]) ?_ 2 _ rfl; (with_reducible repeat (first | refine blk_drewN ?_ _ | refine blk_drew ?_ | refine blk_alloc ?_ _)); refine blk_put (cs := #[.int .u32 (ji6), .int .u32 t171, .int .u32 (ji4), .int .u32 t170]) ?_ 3 _ rfl; (with_reducible repeat (first | refine blk_drewN ?_ _ | refine blk_drew ?_ | refine blk_alloc ?_ _)); exact BK168.out) hb); have n1_ := Aside0.mk (blk_below (g := gb169) (o := .cells #[.int .u32 0, .int .u32 0, .int .u32 0, .int .u32 0] 23 (0, 0)) (by (with_reducible repeat (first | refine blk_drewN ?_ _ | refine blk_drew ?_ | refine blk_alloc ?_ _)); refine blk_far ?_ NB169_168.out _; (with_reducible repeat (first | refine blk_drewN ?_ _ | refine blk_drew ?_ | refine blk_alloc ?_ _)); refine blk_far ?_ NB169_168.out _; (with_reducible repeat (first | refine blk_drewN ?_ _ | refine blk_drew ?_ | refine blk_alloc ?_ _)); exact BK169.out) hb); have n2_ := Aside0.mk (below_step (by repeat (first | (with_reducible first | exact HB.out | apply below_alloc | apply pw_below_drewN | apply below_drew1 | refine below_set ?_ GE168.out | refine below_set ?_ GE169.out) | exact HB.out)) hb); clear BK168; clear BK169; clear HB; have BK168 := n0_; have BK169 := n1_; have HB := n2_; clear n0_ n1_ n2_; (try clear hb); (try clear hb2); (try clear hk); (try clear hi); have hcz21_0 : w20.cell? ⟨gb168, 0, none⟩ = some (.int .u32 (ji6)) := (blk_cell BK168.out 0).trans rfl; have hcz21_1 : w20.cell? ⟨gb168, 1, none⟩ = some (.int .u32 t171) := (blk_cell BK168.out 1).trans rfl; have hcz21_2 : w20.cell? ⟨gb168, 2, none⟩ = some (.int .u32 (ji8)) := (blk_cell BK168.out 2).trans rfl; have hcz21_3 : w20.cell? ⟨gb168, 3, none⟩ = some (.int .u32 t172) := (blk_cell BK168.out 3).trans rfl; have hfz21_0 := blk_frozen BK168.out 0; have hfz21_1 := blk_frozen BK168.out 1; have hfz21_2 := blk_frozen BK168.out 2; have hfz21_3 := blk_frozen BK168.out 3; have hcz22_0 : w20.cell? ⟨gb169, 0, none⟩ = some (.int .u32 0) := (blk_cell BK169.out 0).trans rfl; have hcz22_1 : w20.cell? ⟨gb169, 1, none⟩ = some (.int .u32 0) := (blk_cell BK169.out 1).trans rfl; have hcz22_2 : w20.cell? ⟨gb169, 2, none⟩ = some (.int .u32 0) := (blk_cell BK169.out 2).trans rfl; have hcz22_3 : w20.cell? ⟨gb169, 3, none⟩ = some (.int .u32 0) := (blk_cell BK169.out 3).trans rfl; have hfz22_0 := blk_frozen BK169.out 0; have hfz22_1 := blk_frozen BK169.out 1; have hfz22_2 := blk_frozen BK169.out 2; have hfz22_3 := blk_frozen BK169.out 3))
  refine bodyPost_ret (results_cell_row rfl _ _ gb169 23 #[.int .u32 (ji6), .int .u32 t173, .int .u32 (ji8), .int .u32 t172] (0, 0) _ rfl (by (with_reducible repeat (first | refine blk_drewN ?_ _ | refine blk_drew ?_ | refine blk_alloc ?_ _)); refine blk_put (cs := #[.int .u32 (ji6), .int .u32 t173, .int .u32 (ji8), .int .u32 0]) ?_ 3 _ rfl; (with_reducible repeat (first | refine blk_drewN ?_ _ | refine blk_drew ?_ | refine blk_alloc ?_ _)); refine blk_put (cs := #[.int .u32 (ji6), .int .u32 t173, .int .u32 0, .int .u32 0]) ?_ 2 _ rfl; (with_reducible repeat (first | refine blk_drewN ?_ _ | refine blk_drew ?_ | refine blk_alloc ?_ _)); refine blk_put (cs := #[.int .u32 (ji6), .int .u32 0, .int .u32 0, .int .u32 0]) ?_ 1 _ rfl; (with_reducible repeat (first | refine blk_drewN ?_ _ | refine blk_drew ?_ | refine blk_alloc ?_ _)); refine blk_put (cs := #[.int .u32 0, .int .u32 0, .int .u32 0, .int .u32 0]) ?_ 0 _ rfl; (with_reducible repeat (first | refine blk_drewN ?_ _ | refine blk_drew ?_ | refine blk_alloc ?_ _)); refine blk_far ?_ NB169_168.out _; (with_reducible repeat (first | refine blk_drewN ?_ _ | refine blk_drew ?_ | refine blk_alloc ?_ _)); exact BK169.out) Try.underlying23 rfl (by kernel_rfl)) rfl ?_
  exact ⟨by first | rfl | (simp [errW_none, errW_some] <;> rfl) | (simp only [← hji2, ← hji4, ← hji6, ← hji8]; first | rfl | (simp [errW_none, errW_some] <;> rfl)) | (simp [*, errW_none, errW_some] <;> rfl), by repeat (first | (with_reducible first | exact HB.out | apply below_alloc | apply pw_below_drewN | apply below_drew1 | refine below_set ?_ GE168.out | refine below_set ?_ GE169.out) | exact HB.out)⟩

/-! ### bautaref38_four: function 24 -/
theorem keep4 {w W : World} {b1 b2 b3 b4 : Addr} {v1 v2 v3 v4 : Value} (h1 : w.cell? b1 = some v1) (h2 : w.cell? b2 = some v2) (h3 : w.cell? b3 = some v3) (h4 : w.cell? b4 = some v4) (hb : Below w.heap.size w W) :
    W.cell? b1 = some v1 ∧ W.cell? b2 = some v2 ∧ W.cell? b3 = some v3 ∧ W.cell? b4 = some v4 := ⟨pw_cell_below hb h1, pw_cell_below hb h2, pw_cell_below hb h3, pw_cell_below hb h4⟩
theorem keepS {p go : Nat} (hne : p ≠ go) {W : World} {v0 v1 v2 v3 u : Value} {i : Nat} (h : W.cell? ⟨p, 0, none⟩ = some v0 ∧ W.cell? ⟨p, 1, none⟩ = some v1 ∧ W.cell? ⟨p, 2, none⟩ = some v2 ∧ W.cell? ⟨p, 3, none⟩ = some v3) :
    (W.setCell ⟨go, i, none⟩ u).cell? ⟨p, 0, none⟩ = some v0 ∧ (W.setCell ⟨go, i, none⟩ u).cell? ⟨p, 1, none⟩ = some v1 ∧ (W.setCell ⟨go, i, none⟩ u).cell? ⟨p, 2, none⟩ = some v2 ∧ (W.setCell ⟨go, i, none⟩ u).cell? ⟨p, 3, none⟩ = some v3 := by
  have hq : ∀ q, (⟨go, i, none⟩ : Addr) ≠ ⟨p, q, none⟩ := fun q hq => hne (by injection hq with h1; exact h1.symm)
  refine ⟨?_, ?_, ?_, ?_⟩
  · rw [World.cell?_setCell_other _ _ _ _ (hq 0)]; exact h.1
  · rw [World.cell?_setCell_other _ _ _ _ (hq 1)]; exact h.2.1
  · rw [World.cell?_setCell_other _ _ _ _ (hq 2)]; exact h.2.2.1
  · rw [World.cell?_setCell_other _ _ _ _ (hq 3)]; exact h.2.2.2
/-- Four words of sixteen, mixed by the document. -/
def bautaref38_four.f (k : Nat) (l0 : List Int) (a1 a2 a3 a4 : Int) : Option (List Int) :=
  if 0 ≤ a1 ∧ a1 < (l0.length : Int) ∧ 0 ≤ a2 ∧ a2 < (l0.length : Int) ∧ 0 ≤ a3 ∧ a3 < (l0.length : Int) ∧ 0 ≤ a4 ∧ a4 < (l0.length : Int) ∧ l0.length < 1000 ∧ a1 ≠ a2 ∧ a1 ≠ a3 ∧ a1 ≠ a4 ∧ a2 ≠ a3 ∧ a2 ≠ a4 ∧ a3 ≠ a4 then
    (bautaref38_Quarter.f k (rd l0 a1) (rd l0 a2) (rd l0 a3) (rd l0 a4)).map fun r => (((l0.set a1.toNat r.1).set a2.toNat r.2.1).set a3.toNat r.2.2.1).set a4.toNat r.2.2.2
  else none
set_option maxHeartbeats 8000000 in
set_option maxRecDepth 100000 in
theorem bautaref38_four.calls (k : Nat) (A0 : Option Addr) (c0 : Nat) (l0 : List Int) (a1 a2 a3 a4 : Int) (r : List Int) (w : World) (hr0 : Kd.C (Kd.int .u32) w A0 l0.length l0) (hc0 : l0.length ≤ c0) (h : bautaref38_four.f k l0 a1 a2 a3 a4 = some r) :
    Calls Try.prog 24 #[.slice A0 l0.length c0, .int .i64 a1, .int .i64 a2, .int .i64 a3, .int .i64 a4] w fun e w' => ∃ v0_ : Value, e = .returned (v0_) ∧ Kd.R (Kd.int .u32) 22 w' w.heap.size (fun _ => True) v0_ r ∧ Below w.heap.size w w' := by
  have hu23 := Try.underlying23
  have hu32 := Try.underlying32
  unfold bautaref38_four.f at h
  split at h
  · rename_i hb
    obtain ⟨b1, b2, b3, b4, b5, b6, b7, b8, b9, d1, d2, d3, d4, d5, d6⟩ := hb
    have t0 : a1.toNat ≠ a2.toNat := by omega
    have s0 := t0.symm
    have t1 : a1.toNat ≠ a3.toNat := by omega
    have s1 := t1.symm
    have t2 : a1.toNat ≠ a4.toNat := by omega
    have s2 := t2.symm
    have t3 : a2.toNat ≠ a3.toNat := by omega
    have s3 := t3.symm
    have t4 : a2.toNat ≠ a4.toNat := by omega
    have s4 := t4.symm
    have t5 : a3.toNat ≠ a4.toNat := by omega
    have s5 := t5.symm
    clear d1 d2 d3 d4 d5 d6
    have B1 := Aside0.mk b1
    have B2 := Aside0.mk b2
    have B3 := Aside0.mk b3
    have B4 := Aside0.mk b4
    have B5 := Aside0.mk b5
    have B6 := Aside0.mk b6
    have B7 := Aside0.mk b7
    have B8 := Aside0.mk b8
    obtain ⟨⟨r0, r1, r2, r3⟩, hq, rfl⟩ := Option.map_eq_some_iff.1 h
    replace hq := Aside0.mk hq
    have HR0 := Aside0.mk hr0
    have HC0 := Aside0.mk hc0
    obtain ⟨ad, e1, hx1⟩ := Kd.at_int hr0 a1 b1 b2
    obtain ⟨_, e2, hx2⟩ := Kd.at_int hr0 a2 b3 b4
    obtain ⟨_, e3, hx3⟩ := Kd.at_int hr0 a3 b5 b6
    obtain ⟨_, e4, hx4⟩ := Kd.at_int hr0 a4 b7 b8
    subst e1
    cases e2
    cases e3
    cases e4
    clear hr0 hc0 h
    replace b1 := eq_true b1
    replace b2 := eq_true b2
    replace b3 := eq_true b3
    replace b4 := eq_true b4
    replace b5 := eq_true b5
    replace b6 := eq_true b6
    replace b7 := eq_true b7
    replace b8 := eq_true b8
    replace b9 := Aside0.mk b9
    replace hx1 := Aside0.mk hx1
    replace hx2 := Aside0.mk hx2
    replace hx3 := Aside0.mk hx3
    replace hx4 := Aside0.mk hx4
    go_enter Try.func24, Try.ntmps24
    go_upto_region 1 with fail
    go_cut [11] (fun v11 w' => ∃ p : Nat, v11 = .pointer (some ⟨p, 0, none⟩) ∧ Aside0 (w'.heap[p]? = some (.cells #[.int .u32 r0, .int .u32 r1, .int .u32 r2, .int .u32 r3] 23 (0, 0))) ∧ Aside0 (w.heap.size ≤ p) ∧ Aside0 (Below w.heap.size w w'))
    case first =>
      go_region_held3 (fun W => W.cell? (ad.add a1.toNat) = some (.int .u32 (rd l0 a1)) ∧ W.cell? (ad.add a2.toNat) = some (.int .u32 (rd l0 a2)) ∧ W.cell? (ad.add a3.toNat) = some (.int .u32 (rd l0 a3)) ∧ W.cell? (ad.add a4.toNat) = some (.int .u32 (rd l0 a4))) (exact keep4 hx1.out hx2.out hx3.out hx4.out (by (repeat (first | exact hb1.out | exact Below.refl _ _ | apply below_alloc | refine Below.drew ?_ | refine Below.setCell (p := ⟨w.heap.size, _, none⟩) ?_ (Nat.le_refl w.heap.size) _)))) (first | (go_at_call 9; refine (bautaref38_Quarter.calls k _ _ _ _ r0 r1 r2 r3 _ hq.out).mono ?_; rintro e w2 ⟨rfl, hb⟩; have hb1 := Aside0.mk (below_then (B := w.heap.size) (w := w) (by (repeat (first | exact Below.refl _ _ | apply below_alloc | refine Below.drew ?_))) (by simp) hb); (try (have hcz0 : w2.cell? ⟨w.heap.size, 0, none⟩ = some (.int .u32 0) := pw_cell_below hb ((cell_of_row _ _ 0 _ _ _ (heap_alloc_new w (.cells #[.int .u32 0, .int .u32 0, .int .u32 0, .int .u32 0] 23))).trans rfl); have hfz0 : w2.frozen? ⟨w.heap.size, 0, none⟩ = false := (hb.frozen (by simp)).trans (frozen_of_row _ _ 0 _ _ (heap_alloc_new w (.cells #[.int .u32 0, .int .u32 0, .int .u32 0, .int .u32 0] 23))); have hcz1 : w2.cell? ⟨w.heap.size, 1, none⟩ = some (.int .u32 0) := pw_cell_below hb ((cell_of_row _ _ 1 _ _ _ (heap_alloc_new w (.cells #[.int .u32 0, .int .u32 0, .int .u32 0, .int .u32 0] 23))).trans rfl); have hfz1 : w2.frozen? ⟨w.heap.size, 1, none⟩ = false := (hb.frozen (by simp)).trans (frozen_of_row _ _ 1 _ _ (heap_alloc_new w (.cells #[.int .u32 0, .int .u32 0, .int .u32 0, .int .u32 0] 23))); have hcz2 : w2.cell? ⟨w.heap.size, 2, none⟩ = some (.int .u32 0) := pw_cell_below hb ((cell_of_row _ _ 2 _ _ _ (heap_alloc_new w (.cells #[.int .u32 0, .int .u32 0, .int .u32 0, .int .u32 0] 23))).trans rfl); have hfz2 : w2.frozen? ⟨w.heap.size, 2, none⟩ = false := (hb.frozen (by simp)).trans (frozen_of_row _ _ 2 _ _ (heap_alloc_new w (.cells #[.int .u32 0, .int .u32 0, .int .u32 0, .int .u32 0] 23))); have hcz3 : w2.cell? ⟨w.heap.size, 3, none⟩ = some (.int .u32 0) := pw_cell_below hb ((cell_of_row _ _ 3 _ _ _ (heap_alloc_new w (.cells #[.int .u32 0, .int .u32 0, .int .u32 0, .int .u32 0] 23))).trans rfl); have hfz3 : w2.frozen? ⟨w.heap.size, 3, none⟩ = false := (hb.frozen (by simp)).trans (frozen_of_row _ _ 3 _ _ (heap_alloc_new w (.cells #[.int .u32 0, .int .u32 0, .int .u32 0, .int .u32 0] 23))))); replace hb := Aside0.mk hb))
      · go_wp2_with fail
        go_meet
        case rel => exact ⟨_, rfl, ⟨heap_alloc_new _ _⟩, ⟨hb1.out.size⟩, ⟨below_alloc hb1.out _⟩⟩
      · go_wp2_with fail
        go_meet
        case rel =>
          have hh : w2.heap[w.heap.size]? = some (.cells #[.int .u32 0, .int .u32 0, .int .u32 0, .int .u32 0] 23 (0, 0)) := (hb.out.block w.heap.size (by simp)).trans (heap_alloc_new w _)
          have h0 := heap_setCell_same w2 w.heap.size 0 _ 23 (.int .u32 r0) hh
          have h1 := heap_setCell_same _ w.heap.size 1 _ 23 (.int .u32 r1) h0
          have h2 := heap_setCell_same _ w.heap.size 2 _ 23 (.int .u32 r2) h1
          have h3 := heap_setCell_same _ w.heap.size 3 _ 23 (.int .u32 r3) h2
          exact ⟨_, rfl, ⟨h3⟩, ⟨Nat.le_refl _⟩, ⟨by (repeat (first | exact hb1.out | exact Below.refl _ _ | apply below_alloc | refine Below.drew ?_ | refine Below.setCell (p := ⟨w.heap.size, _, none⟩) ?_ (Nat.le_refl w.heap.size) _))⟩⟩
    case rest =>
      obtain ⟨p, rfl, HP, HL, HB⟩ := hcut
      have hpz := Aside0.mk (blk_lt' HP.out)
      have HRc := Aside0.mk (Kd.C_below HR0.out HB.out)
      have HBc := Aside0.mk (Below.refl wc.heap.size wc)
      go_wp2_with (first | ((with_reducible refine gate_dst (N := 31) rfl ?_); refine Kd.R_lit (Kd.int .u32) _ 22 ?hg (N := 31) ?hd (xs := ([] : List Int)) (inner := []) (ok := fun _ => True) (okp := fun _ => True) ?hr ?hp (fun _ hk => hk) trivial (Below.refl _ _) (Nat.le_refl _) (by simp) ?_; (case hd => rfl); (case hg => rfl); (case hr => first | (go_simp; done) | (go_simp; rfl)); (case hp => exact (Reps.none _ _)); intro v103 w6 ho7 hb hg_ hnew_; clear hg_ hnew_; have n0_ := Aside0.mk (Kd.R_lower ho7 (below_size HBc.out)); have n1_ := Aside0.mk (below_step HBc.out hb); clear HBc; have HO := n0_; have HBc := n1_; clear n0_ n1_; clear hb ho7) | ((with_reducible refine gate_builtin (b := .append) (xs := #[.tmp 31, .tmp 32]) rfl ?_); at_builtin; refine Kd.R_append_rows (Kd.int .u32) (w0 := wc) wc.heap.size rfl (.tmp 31) (.tmp 32) 32 22 (.int .u32 0) 4 rfl Try.underlying32 info22 rfl (by decide) (by omega) v103 [] l0 _ _ _ (fun _ => True) (fun _ => False) rfl rfl ?aO ?aR (fun _ _ h => h) (fun _ h => h.elim) ?aF ?aB ?aS ?aL ?_; (case aR => exact (Kd.C_below HRc.out HBc.out)); (case aB => exact HBc.out); (case aF => exact (fun _ _ => trivial)); (case aO => exact HO.out); (case aS => exact below_size HBc.out); (case aL => have := b9.out; simp only [List.length_nil]; omega); intro v106 w8 ho hb hg hat; have n0_ := Aside0.mk hb; have n1_ := Aside0.mk ho; clear HBc HO; have HBc := n0_; have HO := n1_; clear n0_ n1_; clear ho hb hg hat))
      have HO2 : Kd.R (Kd.int .u32) 22 w8 wc.heap.size (fun _ => True) v106 l0 := HO.out
      obtain ⟨go1, co1, eo1, gb1, gl1, cl1, HG1⟩ := Kd.R_form HO2 (by have := B1.out; have := B2.out; omega)
      subst eo1
      have hpg : p ≠ go1 := by have := hpz.out; omega
      have gx1 := Kd.R_celln (d := (0 : Int)) HO2 a1 B1.out B2.out
      have gx2 := Kd.R_celln (d := (0 : Int)) HO2 a2 B3.out B4.out
      have gx3 := Kd.R_celln (d := (0 : Int)) HO2 a3 B5.out B6.out
      have gx4 := Kd.R_celln (d := (0 : Int)) HO2 a4 B7.out B8.out
      have go_1 : w8.cell? ⟨go1, a1.toNat, none⟩ = some (.int .u32 (rd l0 a1)) := gx1.1
      have go_2 : w8.cell? ⟨go1, a2.toNat, none⟩ = some (.int .u32 (rd l0 a2)) := gx2.1
      have go_3 : w8.cell? ⟨go1, a3.toNat, none⟩ = some (.int .u32 (rd l0 a3)) := gx3.1
      have go_4 : w8.cell? ⟨go1, a4.toNat, none⟩ = some (.int .u32 (rd l0 a4)) := gx4.1
      have gf1 := gx1.2
      have gf2 := gx2.2
      have gf3 := gx3.2
      have gf4 := gx4.2
      have hp8 := row_below HBc.out hpz.out HP.out
      have cz0 := Aside0.mk ((cell_of_row w8 p 0 _ _ _ hp8).trans rfl)
      have cz1 := Aside0.mk ((cell_of_row w8 p 1 _ _ _ hp8).trans rfl)
      have cz2 := Aside0.mk ((cell_of_row w8 p 2 _ _ _ hp8).trans rfl)
      have cz3 := Aside0.mk ((cell_of_row w8 p 3 _ _ _ hp8).trans rfl)
      replace HO2 := Aside0.mk HO2
      replace gb1 := Aside0.mk gb1
      replace hpg := Aside0.mk hpg
      clear gl1 HG1 HO gx1 gx2 gx3 gx4 hp8
      go_region_held3 (fun W => W.cell? ⟨p, 0, none⟩ = some (.int .u32 r0) ∧ W.cell? ⟨p, 1, none⟩ = some (.int .u32 r1) ∧ W.cell? ⟨p, 2, none⟩ = some (.int .u32 r2) ∧ W.cell? ⟨p, 3, none⟩ = some (.int .u32 r3)) (first | exact ⟨cz0.out, cz1.out, cz2.out, cz3.out⟩ | (refine keepS hpg.out ?_; assumption)) (fail)
      go_wp2_with fail
      go_ret
      refine ⟨_, rfl, ?_, ?_⟩
      · have q1 := (Kd.R_putg HO2.out a1 r0).1
        have q2 := (Kd.R_putg q1 a2 r1).1
        have q3 := (Kd.R_putg q2 a3 r2).1
        have q4 := (Kd.R_putg q3 a4 r3).1
        exact Kd.R_drew (Kd.R_lower q4 HB.out.size)
      · have hbw : Below w.heap.size w w8 := below_then HB.out HB.out.size HBc.out
        have hg : w.heap.size ≤ go1 := Nat.le_trans HB.out.size gb1.out
        exact ((((hbw.setCell (p := ⟨go1, _, none⟩) hg _).setCell (p := ⟨go1, _, none⟩) hg _).setCell (p := ⟨go1, _, none⟩) hg _).setCell (p := ⟨go1, _, none⟩) hg _).drew
  · cases h
theorem bautaref38_four.mono : ∀ a0 a1 a2 a3 a4 k, LeO (bautaref38_four.f k a0 a1 a2 a3 a4) (bautaref38_four.f (k + 1) a0 a1 a2 a3 a4) := by
  intro a0 a1 a2 a3 a4 k
  unfold bautaref38_four.f
  exact LeO.ite (LeO.map _ (bautaref38_Quarter.mono _ _ _ _ k)) (LeO.refl _)

/-! ### bautaref38_Block: function 14 -/
def twiceR (k : Nat) (xs : List Int) : Option (List Int) :=
  (bautaref38_four.f k xs 0 4 8 12).bind fun x1 =>
  (bautaref38_four.f k x1 1 5 9 13).bind fun x2 =>
  (bautaref38_four.f k x2 2 6 10 14).bind fun x3 =>
  (bautaref38_four.f k x3 3 7 11 15).bind fun x4 =>
  (bautaref38_four.f k x4 0 5 10 15).bind fun x5 =>
  (bautaref38_four.f k x5 1 6 11 12).bind fun x6 =>
  (bautaref38_four.f k x6 2 7 8 13).bind fun x7 =>
  bautaref38_four.f k x7 3 4 9 14
def roundsR (k : Nat) : Nat → List Int → Option (List Int)
  | 0, xs => some xs
  | n + 1, xs => (twiceR k xs).bind (roundsR k n)
def bautaref38_Block.f (k : Nat) (a0_0 a0_1 a0_2 a0_3 a0_4 a0_5 a0_6 a0_7 a1 a2_0 a2_1 a2_2 : Int) : Option (List Int) :=
  (roundsR k 10 (startL a0_0 a0_1 a0_2 a0_3 a0_4 a0_5 a0_6 a0_7 a1 a2_0 a2_1 a2_2)).bind fun m => if m.length = 16 then some (sums m (startL a0_0 a0_1 a0_2 a0_3 a0_4 a0_5 a0_6 a0_7 a1 a2_0 a2_1 a2_2)) else none
theorem four_length {k : Nat} {xs ys : List Int} {a b c d : Int} (h : bautaref38_four.f k xs a b c d = some ys) : ys.length = xs.length := by
  unfold bautaref38_four.f at h
  split at h
  · obtain ⟨r, _, rfl⟩ := Option.map_eq_some_iff.1 h
    simp
  · cases h
theorem start_take (a0_0 a0_1 a0_2 a0_3 a0_4 a0_5 a0_6 a0_7 a1 a2_0 a2_1 a2_2 : Int) (i : Nat) (hi : i < 8) : (startL a0_0 a0_1 a0_2 a0_3 a0_4 a0_5 a0_6 a0_7 a1 a2_0 a2_1 a2_2).take (4 + i) ++ [rd [a0_0, a0_1, a0_2, a0_3, a0_4, a0_5, a0_6, a0_7] (i : Int)] = (startL a0_0 a0_1 a0_2 a0_3 a0_4 a0_5 a0_6 a0_7 a1 a2_0 a2_1 a2_2).take (4 + (i + 1)) := by
  have : i = 0 ∨ i = 1 ∨ i = 2 ∨ i = 3 ∨ i = 4 ∨ i = 5 ∨ i = 6 ∨ i = 7 := by omega
  rcases this with rfl | rfl | rfl | rfl | rfl | rfl | rfl | rfl <;> rfl
theorem sums_take (m s : List Int) (hm : m.length = 16) (hs : s.length = 16) (i : Nat) (hi : i < 16) : (sums m s).take i ++ [(rd m (i : Int) + rd s (i : Int)) % 4294967296] = (sums m s).take (i + 1) := by
  obtain ⟨y0, y1, y2, y3, y4, y5, y6, y7, y8, y9, y10, y11, y12, y13, y14, y15, rfl⟩ := list16 m hm
  obtain ⟨s0, s1, s2, s3, s4, s5, s6, s7, s8, s9, s10, s11, s12, s13, s14, s15, rfl⟩ := list16 s hs
  have : i = 0 ∨ i = 1 ∨ i = 2 ∨ i = 3 ∨ i = 4 ∨ i = 5 ∨ i = 6 ∨ i = 7 ∨ i = 8 ∨ i = 9 ∨ i = 10 ∨ i = 11 ∨ i = 12 ∨ i = 13 ∨ i = 14 ∨ i = 15 := by omega
  rcases this with rfl | rfl | rfl | rfl | rfl | rfl | rfl | rfl | rfl | rfl | rfl | rfl | rfl | rfl | rfl | rfl <;> rfl
theorem sums_take' (m s : List Int) (hm : m.length = 16) (hs : s.length = 16) (i : Nat) (hi : i < 16) : (sums m s).take i ++ [IntKind.u32.wrap (rd m (i : Int) + rd s (i : Int))] = (sums m s).take (i + 1) := by
  rw [← sums_take m s hm hs i hi]
  simp [IntKind.wrap, IntKind.signed, IntKind.bits]
theorem keep2 {w W : World} {b1 b2 : Addr} {v1 v2 : Value} (h1 : w.cell? b1 = some v1) (h2 : w.cell? b2 = some v2) (hb : Below w.heap.size w W) :
    W.cell? b1 = some v1 ∧ W.cell? b2 = some v2 := ⟨pw_cell_below hb h1, pw_cell_below hb h2⟩
set_option maxHeartbeats 8000000 in
set_option maxRecDepth 100000 in
theorem bautaref38_Block.calls (k : Nat) (a0_0 a0_1 a0_2 a0_3 a0_4 a0_5 a0_6 a0_7 a1 a2_0 a2_1 a2_2 : Int) (r : List Int) (w : World) (h : bautaref38_Block.f k a0_0 a0_1 a0_2 a0_3 a0_4 a0_5 a0_6 a0_7 a1 a2_0 a2_1 a2_2 = some r) :
    Calls Try.prog 14 #[.agg #[.int .u32 a0_0, .int .u32 a0_1, .int .u32 a0_2, .int .u32 a0_3, .int .u32 a0_4, .int .u32 a0_5, .int .u32 a0_6, .int .u32 a0_7], .int .u32 a1, .agg #[.int .u32 a2_0, .int .u32 a2_1, .int .u32 a2_2]] w fun e w' => ∃ v0_ : Value, e = .returned (v0_) ∧ Kd.R (Kd.int .u32) 22 w' w.heap.size (fun _ => True) v0_ r ∧ Below w.heap.size w w' := by
  have hu27 := Try.underlying27
  have hu28 := Try.underlying28
  have hu32 := Try.underlying32
  obtain ⟨m, hm, h⟩ := Option.bind_eq_some_iff.1 h
  split at h
  · rename_i hml
    obtain rfl := Option.some.inj h
    have HM := Aside0.mk hm
    have HML := Aside0.mk hml
    clear h hm hml
    go_enter Try.func14, Try.ntmps14
    go_wp2_with fail
    obtain ⟨W, hW⟩ : ∃ W, W = ((w.alloc (Obj.cells #[.int .u32 a0_0, .int .u32 a0_1, .int .u32 a0_2, .int .u32 a0_3, .int .u32 a0_4, .int .u32 a0_5, .int .u32 a0_6, .int .u32 a0_7] 27)).alloc (Obj.cells #[.int .u32 a2_0, .int .u32 a2_1, .int .u32 a2_2] 28)).alloc (Obj.cells #[.int .u32 1634760805, .int .u32 857760878, .int .u32 2036477234, .int .u32 1797285236] 22) := ⟨_, rfl⟩
    rw [← hW]
    have hB : Below w.heap.size w W := by rw [hW]; exact below_alloc (below_alloc (below_alloc (Below.refl _ _) _) _) _
    have hk : W.heap[w.heap.size]? = some (Obj.cells (nums .u32 [a0_0, a0_1, a0_2, a0_3, a0_4, a0_5, a0_6, a0_7]).toArray 27 (0, 0)) := by
      rw [hW, heap_alloc_old _ _ (by simp +arith), heap_alloc_old _ _ (by simp +arith)]; exact heap_alloc_new _ _
    have hn : W.heap[w.heap.size + 1]? = some (Obj.cells #[.int .u32 a2_0, .int .u32 a2_1, .int .u32 a2_2] 28) := by
      rw [hW, heap_alloc_old _ _ (by simp +arith)]; exact (congrArg _ (by simp)).trans (heap_alloc_new _ _)
    have hR : Kd.R (Kd.int .u32) 22 W (w.heap.size + 1 + 1) (fun _ => True) (.slice (some ⟨w.heap.size + 1 + 1, 0, none⟩) 4 4) [1634760805, 857760878, 2036477234, 1797285236] := by
      have h := own_lit ((w.alloc (Obj.cells #[.int .u32 a0_0, .int .u32 a0_1, .int .u32 a0_2, .int .u32 a0_3, .int .u32 a0_4, .int .u32 a0_5, .int .u32 a0_6, .int .u32 a0_7] 27)).alloc (Obj.cells #[.int .u32 a2_0, .int .u32 a2_1, .int .u32 a2_2] 28)) (w.heap.size + 1 + 1) 22 .u32 [1634760805, 857760878, 2036477234, 1797285236] (by simp) (by simp)
      rw [hW]
      have e : ((w.alloc (Obj.cells #[.int .u32 a0_0, .int .u32 a0_1, .int .u32 a0_2, .int .u32 a0_3, .int .u32 a0_4, .int .u32 a0_5, .int .u32 a0_6, .int .u32 a0_7] 27)).alloc (Obj.cells #[.int .u32 a2_0, .int .u32 a2_1, .int .u32 a2_2] 28)).heap.size = w.heap.size + 1 + 1 := by simp
      rw [e] at h
      exact Kd.R_of_own h (fun _ _ => trivial)
    have hz : W.heap.size = w.heap.size + 1 + 1 + 1 := by rw [hW]; simp
    obtain ⟨g, hg⟩ : ∃ g, g = w.heap.size := ⟨_, rfl⟩
    rw [← hg] at hB hk hn hR hz ⊢
    obtain ⟨g2, hg2⟩ : ∃ g2, g2 = g + 1 + 1 := ⟨_, rfl⟩
    rw [← hg2] at hR ⊢
    replace hg := Aside0.mk hg
    replace hg2 := Aside0.mk hg2
    replace hB := Aside0.mk hB
    replace hk := Aside0.mk hk
    replace hn := Aside0.mk hn
    replace hR := Aside0.mk hR
    replace hz := Aside0.mk hz
    have HBW := Aside0.mk (Below.refl g2 W)
    clear hW
    obtain ⟨st, hst⟩ : ∃ st, st = startL a0_0 a0_1 a0_2 a0_3 a0_4 a0_5 a0_6 a0_7 a1 a2_0 a2_1 a2_2 := ⟨_, rfl⟩
    have hsl : st.length = 16 := by rw [hst]; rfl
    have hst4 : [1634760805, 857760878, 2036477234, 1797285236] = st.take (4 + 0) := by rw [hst]; rfl
    have hstt : ∀ i, i < 8 → st.take (4 + i) ++ [rd [a0_0, a0_1, a0_2, a0_3, a0_4, a0_5, a0_6, a0_7] (i : Int)] = st.take (4 + (i + 1)) := fun i hi => by rw [hst]; exact start_take a0_0 a0_1 a0_2 a0_3 a0_4 a0_5 a0_6 a0_7 a1 a2_0 a2_1 a2_2 i hi
    have hst12 : st.take 12 ++ [a1, a2_0, a2_1, a2_2] = st := by rw [hst]; rfl
    rw [hst4] at hR
    have HM2 := HM.out
    rw [← hst] at HM2
    clear HM
    have HM := Aside0.mk HM2
    clear HM2 hst4
    replace hst := Aside0.mk hst
    replace hsl := Aside0.mk hsl
    replace hstt := Aside0.mk hstt
    replace hst12 := Aside0.mk hst12
    go_loopg [7, 8] 8 (fun kq v7 v8 w' => ∃ (i : Nat), v8 = .int .i64 (i : Int) ∧ Aside0 (i + kq = 8) ∧ Aside0 (Kd.R (Kd.int .u32) 22 w' g2 (fun _ => True) v7 (st.take (4 + i))) ∧ Aside0 (Below g2 W w'))
    case atStart => exact ⟨0, rfl, ⟨rfl⟩, hR, HBW⟩
    case round =>
      clear hR HBW
      obtain ⟨i, rfl, HN, HO, HB⟩ := hrel
      cases gk with
      | succ k1 =>
        have q1 : ((i : Int) < 8) = True := eq_true (by have := HN.out; omega)
        have q2 : decide ((i : Int) < 8) = true := decide_eq_true (by have := HN.out; omega)
        have hi8 : i < 8 := by have := HN.out; omega
        have hc := row_rd (row_below HB.out (by have := hg2.out; omega) hk.out) i hi8
        have hw1 := Aside0.mk (show wrap64 ((i : Int) + 1) = ((i + 1 : Nat) : Int) by unfold wrap64; omega)
        have hz2 : g2 ≤ wr.heap.size := Nat.le_trans (by have := hz.out; have := hg2.out; omega) HB.out.size
        replace hi8 := Aside0.mk hi8
        replace hz2 := Aside0.mk hz2
        go_wp2_with (first | ((with_reducible refine gate_builtin (b := .append) (xs := #[.tmp 18, .tmp 22]) rfl ?_); at_builtin; refine Kd.R_append (Kd.int .u32) (w0 := W) g2 rfl (.tmp 18) (.tmp 22) 32 22 (.int .u32 0) 4 rfl Try.underlying32 info22 rfl (by decide) (by omega) u7 (st.take (4 + i)) (rd [a0_0, a0_1, a0_2, a0_3, a0_4, a0_5, a0_6, a0_7] (i : Int)) [.int .u32 (rd [a0_0, a0_1, a0_2, a0_3, a0_4, a0_5, a0_6, a0_7] (i : Int))] (fun _ => True) (fun _ => False) rfl rfl ?aP (fun _ hk => hk.elim) ?aF ?aO ?aB ?aS ?aL ?_; (case aP => exact rfl); (case aB => exact HB.out); (case aF => exact (fun _ _ => trivial)); (case aO => exact HO.out); (case aS => exact hz2.out); (case aL => have := hsl.out; simp only [List.length_take]; omega); intro v9 w9 ho hb hgr hat; rw [hstt.out i hi8.out] at ho; have n0_ := Aside0.mk hb; have n1_ := Aside0.mk ho; clear HB HO; have HB := n0_; have HO := n1_; clear n0_ n1_ ho hb hgr hat))
        go_roundg k1
        case measure => omega
        case rel => exact ⟨i + 1, congrArg (Value.int .i64) hw1.out, ⟨by have := HN.out; omega⟩, HO, HB⟩
      | zero =>
        obtain rfl : i = 8 := by have := HN.out; omega
        have hn2 := row_below HB.out (by have := hg2.out; omega) hn.out
        have hc0 : wr.cell? ⟨g + 1, 0, none⟩ = some (.int .u32 a2_0) := (cell_of_row wr (g + 1) 0 _ _ _ hn2).trans rfl
        have hc1 : wr.cell? ⟨g + 1, 1, none⟩ = some (.int .u32 a2_1) := (cell_of_row wr (g + 1) 1 _ _ _ hn2).trans rfl
        have hc2 : wr.cell? ⟨g + 1, 2, none⟩ = some (.int .u32 a2_2) := (cell_of_row wr (g + 1) 2 _ _ _ hn2).trans rfl
        have hz2 : g2 ≤ wr.heap.size := Nat.le_trans (by have := hz.out; have := hg2.out; omega) HB.out.size
        replace hz2 := Aside0.mk hz2
        clear hn2 HN
        go_wp2_with (first | ((with_reducible refine gate_builtin (b := .append) (xs := #[.tmp 24, .tmp 32]) rfl ?_); at_builtin; refine Kd.R_append_rows (Kd.int .u32) (w0 := W) g2 rfl (.tmp 24) (.tmp 32) 32 22 (.int .u32 0) 4 rfl Try.underlying32 info22 rfl (by decide) (by omega) u7 (st.take 12) [a1, a2_0, a2_1, a2_2] (some ⟨wr.heap.size, 0, none⟩) 4 4 (fun _ => True) (fun _ => False) rfl rfl ?aO ?aR (fun _ _ h => h) (fun _ h => h.elim) ?aF ?aB ?aS ?aL ?_; (case aR => exact (Kd.R_reads' (Kd.R_of_own (own_lit wr g2 22 .u32 [a1, a2_0, a2_1, a2_2] hz2.out (by simp)) (ok := fun _ => True) (fun _ _ => trivial))).2.2); (case aB => exact HB.out.alloc hz2.out _); (case aF => exact (fun _ _ => trivial)); (case aO => exact Kd.R_alloc HO.out _); (case aS => exact Nat.le_trans hz2.out (by simp)); (case aL => have := hsl.out; simp only [List.length_take]; omega); intro v9 w9 ho hb hgr hat; rw [hst12.out] at ho; have n0_ := Aside0.mk hb; have n1_ := Aside0.mk ho; clear HB HO; have HB := n0_; have HS := n1_; clear n0_ n1_ ho hb hgr hat))
        have hz3 : g2 ≤ W.heap.size := by have := hz.out; have := hg2.out; omega
        replace hz3 := Aside0.mk hz3
        clear hz2 hc0 hc1 hc2
        go_loopg [9, 10] 10 (fun kq v9' v10 w' => ∃ (n : Nat) (xs : List Int), v10 = .int .i64 (n : Int) ∧ Aside0 (n + kq = 10) ∧ Aside0 (roundsR k kq xs = some m) ∧ Aside0 (Kd.R (Kd.int .u32) 22 w' g2 (fun _ => True) v9' xs) ∧ Aside0 (Kd.R (Kd.int .u32) 22 w' g2 (fun _ => True) v9 st) ∧ Aside0 (Below g2 W w'))
        case atStart => exact ⟨0, st, rfl, ⟨rfl⟩, HM, HS, HS, HB⟩
        case round =>
          clear HM HS HB
          obtain ⟨n, x0, rfl, HN, HA, HO, HS, HB⟩ := hrel
          cases gk with
          | succ k1 =>
            have q1 : ((n : Int) < 10) = True := eq_true (by have := HN.out; omega)
            have q2 : decide ((n : Int) < 10) = true := decide_eq_true (by have := HN.out; omega)
            have hw1 := Aside0.mk (show wrap64 ((n : Int) + 1) = ((n + 1 : Nat) : Int) by have := HN.out; unfold wrap64; omega)
            obtain ⟨x8, hx8, HA'⟩ := Option.bind_eq_some_iff.mp HA.out
            clear HA
            replace HA' := Aside0.mk HA'
            unfold twiceR at hx8
            obtain ⟨x1, A0, hx8⟩ := Option.bind_eq_some_iff.mp hx8
            obtain ⟨x2, A1, hx8⟩ := Option.bind_eq_some_iff.mp hx8
            obtain ⟨x3, A2, hx8⟩ := Option.bind_eq_some_iff.mp hx8
            obtain ⟨x4, A3, hx8⟩ := Option.bind_eq_some_iff.mp hx8
            obtain ⟨x5, A4, hx8⟩ := Option.bind_eq_some_iff.mp hx8
            obtain ⟨x6, A5, hx8⟩ := Option.bind_eq_some_iff.mp hx8
            obtain ⟨x7, A6, hx8⟩ := Option.bind_eq_some_iff.mp hx8
            have A7 := hx8
            clear hx8
            replace A0 := Aside0.mk A0
            replace A1 := Aside0.mk A1
            replace A2 := Aside0.mk A2
            replace A3 := Aside0.mk A3
            replace A4 := Aside0.mk A4
            replace A5 := Aside0.mk A5
            replace A6 := Aside0.mk A6
            replace A7 := Aside0.mk A7
            obtain ⟨A_, c_, e_, l_, C_⟩ := Kd.R_reads HO.out
            subst e_
            have HC0 := Aside0.mk C_
            have HL0 := Aside0.mk l_
            clear l_ C_
            go_wp2_with (first | (go_at_call 24; refine (bautaref38_four.calls k _ _ _ _ _ _ _ x1 _ ?hr ?hc ?hq).mono ?_; (case hq => with_reducible exact A0.out); (case hr => exact HC0.out); (case hc => exact HL0.out); rintro e w7 ⟨v7, rfl, ho, hbq⟩; have n1 := Aside0.mk (HB.out.trans (hbq.mono (Nat.le_trans hz3.out HB.out.size))); have n2 := Aside0.mk (Kd.R_below HS.out hbq); obtain ⟨A_0, c_0, e_0, l_0, C_0⟩ := Kd.R_reads ho; subst e_0; have HC1 := Aside0.mk C_0; have HL1 := Aside0.mk l_0; have n3 := Aside0.mk (Kd.R_lower ho (Nat.le_trans hz3.out HB.out.size)); clear HB HS HO; have HB := n1; have HS := n2; have HO := n3; clear n1 n2 n3 ho hbq l_0 C_0) | (go_at_call 24; refine (bautaref38_four.calls k _ _ _ _ _ _ _ x2 _ ?hr ?hc ?hq).mono ?_; (case hq => with_reducible exact A1.out); (case hr => exact HC1.out); (case hc => exact HL1.out); rintro e w7 ⟨v7, rfl, ho, hbq⟩; have n1 := Aside0.mk (HB.out.trans (hbq.mono (Nat.le_trans hz3.out HB.out.size))); have n2 := Aside0.mk (Kd.R_below HS.out hbq); obtain ⟨A_1, c_1, e_1, l_1, C_1⟩ := Kd.R_reads ho; subst e_1; have HC2 := Aside0.mk C_1; have HL2 := Aside0.mk l_1; have n3 := Aside0.mk (Kd.R_lower ho (Nat.le_trans hz3.out HB.out.size)); clear HB HS HO; have HB := n1; have HS := n2; have HO := n3; clear n1 n2 n3 ho hbq l_1 C_1) | (go_at_call 24; refine (bautaref38_four.calls k _ _ _ _ _ _ _ x3 _ ?hr ?hc ?hq).mono ?_; (case hq => with_reducible exact A2.out); (case hr => exact HC2.out); (case hc => exact HL2.out); rintro e w7 ⟨v7, rfl, ho, hbq⟩; have n1 := Aside0.mk (HB.out.trans (hbq.mono (Nat.le_trans hz3.out HB.out.size))); have n2 := Aside0.mk (Kd.R_below HS.out hbq); obtain ⟨A_2, c_2, e_2, l_2, C_2⟩ := Kd.R_reads ho; subst e_2; have HC3 := Aside0.mk C_2; have HL3 := Aside0.mk l_2; have n3 := Aside0.mk (Kd.R_lower ho (Nat.le_trans hz3.out HB.out.size)); clear HB HS HO; have HB := n1; have HS := n2; have HO := n3; clear n1 n2 n3 ho hbq l_2 C_2) | (go_at_call 24; refine (bautaref38_four.calls k _ _ _ _ _ _ _ x4 _ ?hr ?hc ?hq).mono ?_; (case hq => with_reducible exact A3.out); (case hr => exact HC3.out); (case hc => exact HL3.out); rintro e w7 ⟨v7, rfl, ho, hbq⟩; have n1 := Aside0.mk (HB.out.trans (hbq.mono (Nat.le_trans hz3.out HB.out.size))); have n2 := Aside0.mk (Kd.R_below HS.out hbq); obtain ⟨A_3, c_3, e_3, l_3, C_3⟩ := Kd.R_reads ho; subst e_3; have HC4 := Aside0.mk C_3; have HL4 := Aside0.mk l_3; have n3 := Aside0.mk (Kd.R_lower ho (Nat.le_trans hz3.out HB.out.size)); clear HB HS HO; have HB := n1; have HS := n2; have HO := n3; clear n1 n2 n3 ho hbq l_3 C_3) | (go_at_call 24; refine (bautaref38_four.calls k _ _ _ _ _ _ _ x5 _ ?hr ?hc ?hq).mono ?_; (case hq => with_reducible exact A4.out); (case hr => exact HC4.out); (case hc => exact HL4.out); rintro e w7 ⟨v7, rfl, ho, hbq⟩; have n1 := Aside0.mk (HB.out.trans (hbq.mono (Nat.le_trans hz3.out HB.out.size))); have n2 := Aside0.mk (Kd.R_below HS.out hbq); obtain ⟨A_4, c_4, e_4, l_4, C_4⟩ := Kd.R_reads ho; subst e_4; have HC5 := Aside0.mk C_4; have HL5 := Aside0.mk l_4; have n3 := Aside0.mk (Kd.R_lower ho (Nat.le_trans hz3.out HB.out.size)); clear HB HS HO; have HB := n1; have HS := n2; have HO := n3; clear n1 n2 n3 ho hbq l_4 C_4) | (go_at_call 24; refine (bautaref38_four.calls k _ _ _ _ _ _ _ x6 _ ?hr ?hc ?hq).mono ?_; (case hq => with_reducible exact A5.out); (case hr => exact HC5.out); (case hc => exact HL5.out); rintro e w7 ⟨v7, rfl, ho, hbq⟩; have n1 := Aside0.mk (HB.out.trans (hbq.mono (Nat.le_trans hz3.out HB.out.size))); have n2 := Aside0.mk (Kd.R_below HS.out hbq); obtain ⟨A_5, c_5, e_5, l_5, C_5⟩ := Kd.R_reads ho; subst e_5; have HC6 := Aside0.mk C_5; have HL6 := Aside0.mk l_5; have n3 := Aside0.mk (Kd.R_lower ho (Nat.le_trans hz3.out HB.out.size)); clear HB HS HO; have HB := n1; have HS := n2; have HO := n3; clear n1 n2 n3 ho hbq l_5 C_5) | (go_at_call 24; refine (bautaref38_four.calls k _ _ _ _ _ _ _ x7 _ ?hr ?hc ?hq).mono ?_; (case hq => with_reducible exact A6.out); (case hr => exact HC6.out); (case hc => exact HL6.out); rintro e w7 ⟨v7, rfl, ho, hbq⟩; have n1 := Aside0.mk (HB.out.trans (hbq.mono (Nat.le_trans hz3.out HB.out.size))); have n2 := Aside0.mk (Kd.R_below HS.out hbq); obtain ⟨A_6, c_6, e_6, l_6, C_6⟩ := Kd.R_reads ho; subst e_6; have HC7 := Aside0.mk C_6; have HL7 := Aside0.mk l_6; have n3 := Aside0.mk (Kd.R_lower ho (Nat.le_trans hz3.out HB.out.size)); clear HB HS HO; have HB := n1; have HS := n2; have HO := n3; clear n1 n2 n3 ho hbq l_6 C_6) | (go_at_call 24; refine (bautaref38_four.calls k _ _ _ _ _ _ _ x8 _ ?hr ?hc ?hq).mono ?_; (case hq => with_reducible exact A7.out); (case hr => exact HC7.out); (case hc => exact HL7.out); rintro e w7 ⟨v7, rfl, ho, hbq⟩; have n1 := Aside0.mk (HB.out.trans (hbq.mono (Nat.le_trans hz3.out HB.out.size))); have n2 := Aside0.mk (Kd.R_below HS.out hbq); obtain ⟨A_7, c_7, e_7, l_7, C_7⟩ := Kd.R_reads ho; subst e_7; have HC8 := Aside0.mk C_7; have HL8 := Aside0.mk l_7; have n3 := Aside0.mk (Kd.R_lower ho (Nat.le_trans hz3.out HB.out.size)); clear HB HS HO; have HB := n1; have HS := n2; have HO := n3; clear n1 n2 n3 ho hbq l_7 C_7))
            go_roundg k1
            case measure => omega
            case rel => exact ⟨n + 1, x8, congrArg (Value.int .i64) hw1.out, ⟨by have := HN.out; omega⟩, HA', HO, HS, HB⟩
          | zero =>
            obtain rfl : x0 = m := Option.some.inj HA.out
            obtain rfl : n = 10 := by have := HN.out; omega
            clear HA HN
            obtain ⟨A9, c9, e9, l9, C9⟩ := Kd.R_reads HO.out
            subst e9
            obtain ⟨A7, c7, e7, l7, C7⟩ := Kd.R_reads HS.out
            subst e7
            obtain ⟨wq, hwq⟩ : ∃ wq, wq = wr := ⟨_, rfl⟩
            have HBq : Below wq.heap.size wq wr := by rw [hwq]; exact Below.refl _ _
            have HBw := HB.out
            rw [← hwq] at C9 C7 HBw
            replace C9 := Aside0.mk C9
            replace C7 := Aside0.mk C7
            replace HBq := Aside0.mk HBq
            clear l9 l7 HO HS HB hwq
            have HB := Aside0.mk HBw
            clear HBw
            have hsums := Aside0.mk (sums_take' x0 st HML.out hsl.out)
            have hsuml : (sums x0 st).take 16 = sums x0 st := List.take_of_length_le (by unfold sums; rw [List.length_zipWith, HML.out, hsl.out]; decide)
            replace hsuml := Aside0.mk hsuml
            go_wp2_with (first | ((with_reducible refine gate_dst (N := 49) rfl ?_); refine Kd.R_lit (Kd.int .u32) wq.heap.size 22 ?hg (N := 49) ?hd (xs := ([] : List Int)) (inner := []) (ok := fun _ => True) (okp := fun _ => True) ?hr ?hp (fun _ hk => hk) trivial HBq.out (below_size HBq.out) (by simp) ?_; (case hd => rfl); (case hg => rfl); (case hr => first | (go_simp; done) | (go_simp; rfl)); (case hp => exact (Reps.none _ _)); intro v49 w6 ho7 hb hg_ hnew_; clear hg_ hnew_; have n0_ := Aside0.mk ho7; have n1_ := Aside0.mk hb; clear HBq; have HO := n0_; have HBq := n1_; clear n0_ n1_; clear hb ho7))
            go_loopg [11, 12] 16 (fun kq v11 v12 w' => ∃ (i : Nat), v12 = .int .i64 (i : Int) ∧ Aside0 (i + kq = 16) ∧ Aside0 (Kd.R (Kd.int .u32) 22 w' wq.heap.size (fun _ => True) v11 ((sums x0 st).take i)) ∧ Aside0 (Below wq.heap.size wq w'))
            case atStart => exact ⟨0, rfl, ⟨rfl⟩, HO, HBq⟩
            case round =>
              clear HO HBq
              obtain ⟨i, rfl, HN, HO, HBq⟩ := hrel
              cases gk with
              | succ k1 =>
                have q1 : ((i : Int) < 16) = True := eq_true (by have := HN.out; omega)
                have q2 : decide ((i : Int) < 16) = true := decide_eq_true (by have := HN.out; omega)
                have hi16 : i < 16 := by have := HN.out; omega
                have p9 : (i : Int) < (x0.length : Int) := by have := HML.out; omega
                have p7 : (i : Int) < (st.length : Int) := by have := hsl.out; omega
                obtain ⟨ad9, e9, hx9⟩ := Kd.at_int C9.out (i : Int) (Int.natCast_nonneg i) p9
                obtain ⟨ad7, e7, hx7⟩ := Kd.at_int C7.out (i : Int) (Int.natCast_nonneg i) p7
                cases e9
                cases e7
                replace p9 := eq_true p9
                replace p7 := eq_true p7
                have hw1 := Aside0.mk (show wrap64 ((i : Int) + 1) = ((i + 1 : Nat) : Int) by unfold wrap64; omega)
                replace hi16 := Aside0.mk hi16
                replace hx9 := Aside0.mk hx9
                replace hx7 := Aside0.mk hx7
                go_wp2_with fail
                go_region_held3 (fun W' => W'.cell? (ad9.add i) = some (.int .u32 (rd x0 (i : Int))) ∧ W'.cell? (ad7.add i) = some (.int .u32 (rd st (i : Int)))) (exact keep2 hx9.out hx7.out (by repeat (first | exact HBq.out | apply below_alloc | refine Below.drew ?_))) (first | (refine Kd.R_append_rows_step (Kd.int .u32) (w0 := wq) wq.heap.size (by rfl) (.tmp 54) (.tmp 64) 32 22 (.int .u32 0) 4 rfl Try.underlying32 info22 rfl (by decide) (by omega) u11 ((sums x0 st).take i) [IntKind.u32.wrap (rd x0 (i : Int) + rd st (i : Int))] (some ⟨wr.heap.size, 0, none⟩) 1 1 (fun _ => True) (fun _ => False) rfl rfl ?aO ?aR (fun _ _ h => h) (fun _ h => h.elim) ?aF ?aB ?aS ?aL ?_; (case aR => exact Kd.C_drew (Kd.R_reads' (Kd.R_of_own (own_lit wr wr.heap.size 22 .u32 [IntKind.u32.wrap (rd x0 (i : Int) + rd st (i : Int))] (Nat.le_refl _) (by simp)) (ok := fun _ => True) (fun _ _ => trivial))).2.2); (case aF => exact (fun _ _ => trivial)); (case aO => exact Kd.R_drew (Kd.R_alloc HO.out _)); (case aB => exact (below_alloc HBq.out _).drew); (case aS => exact Nat.le_trans (below_size HBq.out) (by simp)); (case aL => have := hi16.out; simp only [List.length_take]; omega); intro v9 w9 ho hb hgr hat; rw [hsums.out i hi16.out] at ho; have n0_ := Aside0.mk hb; have n1_ := Aside0.mk ho; clear HBq HO; have HBq := n0_; have HO := n1_; clear n0_ n1_ ho hb hgr hat))
                go_wp2_with fail
                go_roundg k1
                case measure => omega
                case rel => exact ⟨i + 1, congrArg (Value.int .i64) hw1.out, ⟨by have := HN.out; omega⟩, HO, HBq⟩
              | zero =>
                obtain rfl : i = 16 := by have := HN.out; omega
                go_wp2_with fail
                go_ret
                refine ⟨_, rfl, ?_, ?_⟩
                · have ho := HO.out
                  rw [hsuml.out, hst.out] at ho
                  exact Kd.R_lower ho (by rw [← hg.out]; exact Nat.le_trans (by have := hg2.out; omega) (Nat.le_trans hz3.out HB.out.size))
                · rw [← hg.out]
                  exact (hB.out.trans (HB.out.mono (by have := hg2.out; omega))).trans (HBq.out.mono (Nat.le_trans (by have := hg2.out; omega) (Nat.le_trans hz3.out HB.out.size)))
  · cases h
theorem twiceR_mono (k : Nat) (xs : List Int) : LeO (twiceR k xs) (twiceR (k + 1) xs) := by
  unfold twiceR
  refine LeO.bind (bautaref38_four.mono _ _ _ _ _ k) fun _ => ?_
  refine LeO.bind (bautaref38_four.mono _ _ _ _ _ k) fun _ => ?_
  refine LeO.bind (bautaref38_four.mono _ _ _ _ _ k) fun _ => ?_
  refine LeO.bind (bautaref38_four.mono _ _ _ _ _ k) fun _ => ?_
  refine LeO.bind (bautaref38_four.mono _ _ _ _ _ k) fun _ => ?_
  refine LeO.bind (bautaref38_four.mono _ _ _ _ _ k) fun _ => ?_
  refine LeO.bind (bautaref38_four.mono _ _ _ _ _ k) fun _ => ?_
  exact bautaref38_four.mono _ _ _ _ _ k
theorem roundsR_mono (k : Nat) : ∀ (n : Nat) (xs : List Int), LeO (roundsR k n xs) (roundsR (k + 1) n xs)
  | 0, _ => LeO.refl _
  | n + 1, xs => LeO.bind (twiceR_mono k xs) fun y => roundsR_mono k n y
theorem bautaref38_Block.mono : ∀ a0 a1 a2 a3 a4 a5 a6 a7 a8 a9 a10 a11 k, LeO (bautaref38_Block.f k a0 a1 a2 a3 a4 a5 a6 a7 a8 a9 a10 a11) (bautaref38_Block.f (k + 1) a0 a1 a2 a3 a4 a5 a6 a7 a8 a9 a10 a11) := by
  intro a0 a1 a2 a3 a4 a5 a6 a7 a8 a9 a10 a11 k
  unfold bautaref38_Block.f
  exact LeO.bind (roundsR_mono k 10 _) fun _ => LeO.refl _

-- NOT PRINTED: function 4 (bautalaw38_TapeBlocks)

/-! ### tape_words: function 25 -/
/-- A counter, as the machine has it. -/
def cnt32 (a1 : Int) (n : Nat) : Int := wrap64 (a1 + wrap64 ((n : Int) / 16)) % 4294967296
def tape_words.l0 : Nat → Int → Int → Int → List Int → Option (List Int)
  | 0, _, _, _, _ => none
  | k + 1, a0, a1, a2, x => if (x.length : Int) < a2 then (if x.length < 35184372088800 then ((tape_block.f (a0 % 4294967296) (a0 / 4294967296 % 4294967296) 0 0 0 0 0 0 (cnt32 a1 x.length) 0 0 0).bind fun t => tape_words.l0 k a0 a1 a2 (x ++ [t.1, t.2.1, t.2.2.1, t.2.2.2.1, t.2.2.2.2.1, t.2.2.2.2.2.1, t.2.2.2.2.2.2.1, t.2.2.2.2.2.2.2.1, t.2.2.2.2.2.2.2.2.1, t.2.2.2.2.2.2.2.2.2.1, t.2.2.2.2.2.2.2.2.2.2.1, t.2.2.2.2.2.2.2.2.2.2.2.1, t.2.2.2.2.2.2.2.2.2.2.2.2.1, t.2.2.2.2.2.2.2.2.2.2.2.2.2.1, t.2.2.2.2.2.2.2.2.2.2.2.2.2.2.1, t.2.2.2.2.2.2.2.2.2.2.2.2.2.2.2])) else none) else if 0 ≤ a2 then some (x.take a2.toNat) else none
def tape_words.f (k : Nat) (a0 : Int) (a1 : Int) (a2 : Int) : Option (List Int) := tape_words.l0 k a0 a1 a2 []
theorem tape_words.mono_l : ∀ k, ∀ y0 y1 y2 y3, LeO (tape_words.l0 k y0 y1 y2 y3) (tape_words.l0 (k + 1) y0 y1 y2 y3)
  | 0 => fun _ _ _ _ r h => by simp [tape_words.l0] at h
  | k + 1 => by
    have ih0 := tape_words.mono_l k
    intro y0 y1 y2 y3
    unfold tape_words.l0
    exact LeO.ite (LeO.ite (LeO.bind (LeO.refl _) (fun _ => ih0 _ _ _ _)) (LeO.refl _)) (LeO.refl _)
theorem tape_words.mono : ∀ a0 a1 a2 k, LeO (tape_words.f k a0 a1 a2) (tape_words.f (k + 1) a0 a1 a2) := fun _ _ _ k => tape_words.mono_l k _ _ _ _
set_option maxHeartbeats 8000000 in
set_option maxRecDepth 100000 in
theorem tape_words.calls (k : Nat) (a0 : Int) (a1 : Int) (a2 : Int) (r : List Int) (w : World) (h : tape_words.f k a0 a1 a2 = some r) :
    Calls Try.prog 25 #[.int .u64 a0, .int .i64 a1, .int .i64 a2] w fun e w' => ∃ v0_ : Value, e = .returned (v0_) ∧ Kd.R (Kd.int .u32) 22 w' w.heap.size (fun _ => True) v0_ r ∧ Below w.heap.size w w' := by
  have hu27 := Try.underlying27
  have hu48 := Try.underlying48
  have hu28 := Try.underlying28
  have hu32 := Try.underlying32
  have H' := Aside0.mk (show tape_words.l0 k a0 a1 a2 [] = some r from h)
  clear h
  go_enter Try.func25, Try.ntmps25
  go_wp2_with fail
  obtain ⟨W, hW⟩ : ∃ W, W = w.alloc (Obj.cells #[.int .u32 (a0 % 4294967296), .int .u32 (a0 / 4294967296 % 4294967296), .int .u32 0, .int .u32 0, .int .u32 0, .int .u32 0, .int .u32 0, .int .u32 0] 27) := ⟨_, rfl⟩
  rw [← hW]
  have hB : Below w.heap.size w W := by rw [hW]; exact below_alloc (Below.refl _ _) _
  have hk : W.heap[w.heap.size]? = some (Obj.cells #[.int .u32 (a0 % 4294967296), .int .u32 (a0 / 4294967296 % 4294967296), .int .u32 0, .int .u32 0, .int .u32 0, .int .u32 0, .int .u32 0, .int .u32 0] 27) := by rw [hW]; exact heap_alloc_new _ _
  have hz : W.heap.size = w.heap.size + 1 := by rw [hW]; simp
  obtain ⟨g, hg⟩ : ∃ g, g = w.heap.size := ⟨_, rfl⟩
  rw [← hg] at hB hk hz ⊢
  replace hg := Aside0.mk hg
  replace hB := Aside0.mk hB
  replace hk := Aside0.mk hk
  replace hz := Aside0.mk hz
  have HBW := Aside0.mk (Below.refl (g + 1) W)
  clear hW
  go_loopg [8] k (fun kq v8 w' => ∃ (x : List Int), Aside0 (tape_words.l0 kq a0 a1 a2 x = some r) ∧ Aside0 (kq ≤ k) ∧ Aside0 (Kd.R (Kd.int .u32) 22 w' (g + 1) (fun _ => True) v8 x) ∧ Aside0 (Below (g + 1) W w'))
  case atStart => exact ⟨[], H', ⟨Nat.le_refl _⟩, ⟨Kd.R_nil _ _ _ _ _⟩, HBW⟩
  case round =>
    clear H' HBW
    obtain ⟨x, HA, HK, HO, HB⟩ := hrel
    cases gk with
    | zero => exact absurd HA.out (by simp [tape_words.l0])
    | succ k1 =>
      have H := HA.out
      clear HA
      simp only [tape_words.l0] at H
      obtain ⟨A8, c8, e8, l8, C8⟩ := Kd.R_reads HO.out
      subst e8
      have hk2 := row_below HB.out (by omega) hk.out
      have hc0 : wr.cell? ⟨g, 0, none⟩ = some (.int .u32 (a0 % 4294967296)) := (cell_of_row wr g 0 _ _ _ hk2).trans rfl
      have hc1 : wr.cell? ⟨g, 1, none⟩ = some (.int .u32 (a0 / 4294967296 % 4294967296)) := (cell_of_row wr g 1 _ _ _ hk2).trans rfl
      have hc2 : wr.cell? ⟨g, 2, none⟩ = some (.int .u32 (0)) := (cell_of_row wr g 2 _ _ _ hk2).trans rfl
      have hc3 : wr.cell? ⟨g, 3, none⟩ = some (.int .u32 (0)) := (cell_of_row wr g 3 _ _ _ hk2).trans rfl
      have hc4 : wr.cell? ⟨g, 4, none⟩ = some (.int .u32 (0)) := (cell_of_row wr g 4 _ _ _ hk2).trans rfl
      have hc5 : wr.cell? ⟨g, 5, none⟩ = some (.int .u32 (0)) := (cell_of_row wr g 5 _ _ _ hk2).trans rfl
      have hc6 : wr.cell? ⟨g, 6, none⟩ = some (.int .u32 (0)) := (cell_of_row wr g 6 _ _ _ hk2).trans rfl
      have hc7 : wr.cell? ⟨g, 7, none⟩ = some (.int .u32 (0)) := (cell_of_row wr g 7 _ _ _ hk2).trans rfl
      have hz2 := Aside0.mk (Nat.le_trans (Nat.le_of_eq hz.out.symm) HB.out.size)
      replace hk2 := Aside0.mk hk2
      replace l8 := Aside0.mk l8
      replace C8 := Aside0.mk C8
      by_cases c1 : (x.length : Int) < a2
      · rw [if_pos c1] at H
        by_cases c2 : x.length < 35184372088800
        · rw [if_pos c2] at H
          obtain ⟨⟨r0, r1, r2, r3, r4, r5, r6, r7, r8, r9, r10, r11, r12, r13, r14, r15⟩, ha, H⟩ := Option.bind_eq_some_iff.mp H
          replace ha := Aside0.mk ha
          have H' := Aside0.mk H
          clear H
          replace c2 := Aside0.mk c2
          have c1b := decide_eq_true c1
          clear c1
          go_wp2_with (first | (go_at_call 23; refine (tape_block.calls _ _ _ _ _ _ _ _ _ _ _ _ r0 r1 r2 r3 r4 r5 r6 r7 r8 r9 r10 r11 r12 r13 r14 r15 _ ha.out).mono ?_; rintro e w7 ⟨rfl, hb⟩; have n1 := Aside0.mk (Kd.R_below HO.out hb); have n2 := Aside0.mk (HB.out.trans (hb.mono hz2.out)); have n3 := Aside0.mk (Nat.le_trans hz2.out hb.size); clear HB HO hz2 hb hc0 hc1 hc2 hc3 hc4 hc5 hc6 hc7; have HB := n2; have HO := n1; have hz2 := n3; clear n1 n2 n3) | ((with_reducible refine gate_builtin (b := .append) (xs := #[.tmp 29, .tmp 30]) rfl ?_); at_builtin; refine Kd.R_append_rows (Kd.int .u32) (w0 := W) (g + 1) rfl (.tmp 29) (.tmp 30) 32 22 (.int .u32 0) 4 rfl Try.underlying32 info22 rfl (by decide) (by omega) (.slice A8 x.length c8) x [r0, r1, r2, r3, r4, r5, r6, r7, r8, r9, r10, r11, r12, r13, r14, r15] (some ⟨w7.heap.size, 0, none⟩) 16 16 (fun _ => True) (fun _ => False) rfl rfl ?aO ?aR (fun _ _ h => h) (fun _ h => h.elim) ?aF ?aB ?aS ?aL ?_; (case aR => exact (Kd.R_reads' (Kd.R_of_own (own_lit w7 w7.heap.size 48 .u32 [r0, r1, r2, r3, r4, r5, r6, r7, r8, r9, r10, r11, r12, r13, r14, r15] (Nat.le_refl _) (by simp)) (ok := fun _ => True) (fun _ _ => trivial))).2.2); (case aB => exact HB.out.alloc hz2.out _); (case aF => exact (fun _ _ => trivial)); (case aO => exact Kd.R_alloc HO.out _); (case aS => exact Nat.le_trans hz2.out (by simp)); (case aL => have := c2.out; omega); intro v9 w9 ho hb hgr hat; have n0_ := Aside0.mk hb; have n1_ := Aside0.mk ho; clear HB HO; have HB := n0_; have HO := n1_; clear n0_ n1_ ho hb hgr hat))
          go_roundg k1
          case measure => have := HK.out; omega
          case rel => exact ⟨_, H', ⟨by have := HK.out; omega⟩, HO, HB⟩
        · rw [if_neg c2] at H
          cases H
      · rw [if_neg c1] at H
        split at H
        · rename_i c3
          obtain rfl := Option.some.inj H
          clear H
          have c1b := decide_eq_false c1
          have q3 := eq_true c3
          obtain ⟨m, rfl⟩ := Int.eq_ofNat_of_zero_le c3
          have hm : m ≤ x.length := by omega
          have q4 : ((m : Int) ≤ (c8 : Int)) = True := eq_true (by have := l8.out; omega)
          have q5 : (m ≤ c8) = True := eq_true (by have := l8.out; omega)
          have q6 : (x.length < m) = False := eq_false (by omega)
          replace hm := Aside0.mk hm
          clear c1 c3
          go_wp2_with fail
          go_ret
          refine ⟨_, rfl, ?_, ?_⟩
          · exact Kd.R_lower (Kd.R_take HO.out hm.out) (by rw [← hg.out]; omega)
          · rw [← hg.out]
            exact hB.out.trans (HB.out.mono (by omega))
        · cases H

/-! ### tape_Words: function 15 -/
def tape_Words.f (k : Nat) (a0 : Int) (a1 : Int) : Option (List Int) := (tape_words.f k a0 0 (mn (mx a1 0) 1048576)).bind fun t193 => (some t193)
theorem tape_Words.mono : ∀ a0 a1 k, LeO (tape_Words.f k a0 a1) (tape_Words.f (k + 1) a0 a1) := by
  intro a0 a1 k
  unfold tape_Words.f
  repeat' first
      | (with_reducible exact tape_words.mono _ _ _ _)
      | (with_reducible exact LeO.refl _)
      | (with_reducible exact LeO.none _)
      | (with_reducible refine LeO.ite ?_ ?_)
      | (with_reducible refine LeO.bind ?_ (fun _ => ?_))
      | exact tape_words.mono _ _ _ _
      | exact LeO.none _
      | refine LeO.ite ?_ ?_
      | refine LeO.bind ?_ (fun _ => ?_)
set_option maxHeartbeats 8000000 in
set_option maxRecDepth 100000 in
theorem tape_Words.calls (k : Nat) (a0 : Int) (a1 : Int) (r : List Int) (w : World) (h : tape_Words.f k a0 a1 = some r) :
    Calls Try.prog 15 #[.int .u64 a0, .int .i64 a1] w fun e w' => ∃ v0_ : Value, e = .returned (v0_) ∧ Kd.R (Kd.int .u32) 22 w' w.heap.size (fun _ => True) v0_ r ∧ Below w.heap.size w w' := by
  have HB := Aside0.mk (Below.refl w.heap.size w)
  have H : ((tape_words.f k a0 0 (mn (mx a1 0) 1048576)).bind fun t193 => (some t193)) = some r := h
  clear h
  obtain ⟨ji3, hji3⟩ : ∃ j_ : Int, (mx a1 0) = j_ := ⟨_, rfl⟩
  replace H : ((tape_words.f k a0 0 (mn (ji3) 1048576)).bind fun t193 => (some t193)) = some r := by first | (rw [hji3] at H; exact H) | (simp only [hji3] at H ⊢; exact H)
  (try (have hji3l : 0 ≤ ji3 := by (rw [← hji3]; unfold mx; (repeat' split) <;> omega)))
  (try (have hji3m : 0 ≤ ji3 := by omega))
  have hji3_ : (if a1 < 0 then 0 else a1) = ji3 := hji3
  obtain ⟨ji4, hji4⟩ : ∃ j_ : Int, (mn (ji3) 1048576) = j_ := ⟨_, rfl⟩
  replace H : ((tape_words.f k a0 0 (ji4)).bind fun t193 => (some t193)) = some r := by first | (rw [hji4] at H; exact H) | (simp only [hji4] at H ⊢; exact H)
  have hji4_ : (if 1048576 < (ji3) then 1048576 else (ji3)) = ji4 := hji4
  replace H := Option.bind_eq_some_iff.mp H
  obtain ⟨t193, A50, H⟩ := H
  replace H : (some t193) = some r := H
  have A5 := Aside0.mk A50
  clear A50
  obtain rfl := Option.some.inj H
  go_enter Try.func15, Try.ntmps15
  go_wp2_with (first | ((with_reducible refine gate_callee (f := 25) rfl ?_); refine goesL_ (some 9) rfl rfl Try.func25 (by kernel_rfl) rfl #[.int .u64 a0, .int .i64 0, .int .i64 ji4] rfl (by (try simp only [List.map_toArray, List.map_cons, List.map_nil]); first | done | (simp only [hji4]; rfl) | rfl | (simp only [List.length_drop, List.length_take]; rfl)) ?_; (with_reducible refine (tape_words.calls k a0 0 ji4 t193 _ A5.out).mono ?_); rintro e w6 ⟨v194, rfl, ho0, hb⟩; refine ⟨_, rfl, ?_⟩; have n0_ := Aside0.mk (Kd.R_lower ho0 (below_size (by repeat (first | (with_reducible first | exact HB.out | apply below_alloc | apply pw_below_drewN | apply below_drew1) | exact HB.out)))); have n1_ := Aside0.mk (below_step (by repeat (first | (with_reducible first | exact HB.out | apply below_alloc | apply pw_below_drewN | apply below_drew1) | exact HB.out)) hb); clear HB; have HO195 := n0_; have HB := n1_; clear n0_ n1_; (try clear hb); (try clear hb2); (try clear hk); (try clear hi); (try clear ho0)))
  go_ret
  exact ⟨_, by first | rfl | (simp [errW_none, errW_some] <;> rfl) | (simp only [← hji3, ← hji4]; first | rfl | (simp [errW_none, errW_some] <;> rfl)) | (simp [*, errW_none, errW_some] <;> rfl), by (with_reducible repeat (first | apply Kd.R_alloc | apply Kd.R_drewN | apply Kd.R_drew)); exact HO195.out, by repeat (first | (with_reducible first | exact HB.out | apply below_alloc | apply pw_below_drewN | apply below_drew1) | exact HB.out)⟩

end Go.Proofs.Ytkcechbibabpjaa.PB
