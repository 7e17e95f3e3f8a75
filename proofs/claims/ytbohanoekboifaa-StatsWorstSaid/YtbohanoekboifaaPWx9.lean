/- Written by this session's own program (wip/tools/pr.sh) for this claim: functions of the Go program as plain Lean functions, and that the calls come to what these say; in a Law text: the given statement. Conditions: none but the hypotheses that each theorem states. -/
import Derived.Test.YtbohanoekboifaaAb
import Derived.Test.YtbohanoekboifaaPWx0
import Derived.Test.YtbohanoekboifaaPWx1
import Derived.Test.YtbohanoekboifaaPWx4
import Derived.Test.YtbohanoekboifaaPWx5
import Derived.Test.YtbohanoekboifaaPWx8
namespace Go.Proofs.Ytbohanoekboifaa.PW
open Go.RowKit Go.Proofs.YtbohanoekboifaaW.PrintWords Go.Proofs.YtbohanoekboifaaW.PrintLast Go.Proofs.YtbohanoekboifaaW.PrintMore Go.Proofs.Ytbohanoekboifaa.Ab
attribute [local go_sem] max2_int min2_int max_two min_two max_three min_three max_four min_four   -- for this text's walks alone
set_option linter.unusedVariables false
set_option linter.unusedSimpArgs false


/-! ### bautalaw39_StatsWorst: function 6 -/
def bautalaw39_StatsWorst.f (k : Nat) (a0_0 : Int) (l0_1 : List Int) (l0_2 : List Int) (a1_0 : Int) (l1_1 : List Int) (l1_2 : List Int) : Option (Bool) := (bautalaw39_small.f a0_0 l0_1 l0_2).bind fun bt225 => ((bautalaw39_small.f a1_0 l1_1 l1_2).bind fun bt232 => ((bautalaw39_own.f bt225.1 bt225.2.1 bt225.2.2).bind fun bt239 => ((bautalaw39_own.f bt232.1 bt232.2.1 bt232.2.2).bind fun bt246 => ((stats_Worst.f k bt239.1 bt239.2.1 bt239.2.2 bt246.1 bt246.2.1 bt246.2.2).bind fun bt253 => ((bautaref39_Worst.f k bt225.1 bt225.2.1 bt225.2.2 bt232.1 bt232.2.1 bt232.2.2).bind fun bt255 => (if bt253.1 = bt255.1 then (if (bt253.2 == bt255.2) = true then ((bautalaw39_lives.f k).bind fun t257 => (some t257)) else (some false)) else (some false)))))))
theorem bautalaw39_StatsWorst.mono : ∀ a0 a1 a2 a3 a4 a5 k, LeO (bautalaw39_StatsWorst.f k a0 a1 a2 a3 a4 a5) (bautalaw39_StatsWorst.f (k + 1) a0 a1 a2 a3 a4 a5) := by
  intro a0 a1 a2 a3 a4 a5 k
  unfold bautalaw39_StatsWorst.f
  repeat' first
      | (with_reducible exact bautalaw39_lives.mono _)
      | (with_reducible exact bautaref39_Worst.mono _ _ _ _ _ _ _)
      | (with_reducible exact stats_Worst.mono _ _ _ _ _ _ _)
      | (with_reducible exact LeO.refl _)
      | (with_reducible exact LeO.none _)
      | (with_reducible refine LeO.ite ?_ ?_)
      | (with_reducible refine LeO.bind ?_ (fun _ => ?_))
      | exact bautalaw39_lives.mono _
      | exact bautaref39_Worst.mono _ _ _ _ _ _ _
      | exact stats_Worst.mono _ _ _ _ _ _ _
      | exact LeO.none _
      | refine LeO.ite ?_ ?_
      | refine LeO.bind ?_ (fun _ => ?_)
def bautalaw39_StatsWorst.T2 : Bool × List (List Nat × List Nat) := (true, [([], []), ([0], [0]), ([], []), ([2, 1], [2]), ([1, 3, 3], [1, 3]), ([4], [4]), ([5], [5]), ([5], [5]), ([6, 4, 0, 1, 2, 3, 4, 5, 6], [6]), ([7, 8, 0, 1, 2, 3, 4, 5, 6, 7, 8], [7])])
def bautalaw39_StatsWorst.B2 : List Nat := [0, 1, 0, 7, 15, 31, 63, 63, 127, 511]
theorem bautalaw39_StatsWorst.tab2 : rtab .any (opsOf Try.f6 2) = bautalaw39_StatsWorst.T2 := by kernel_rfl
theorem bautalaw39_StatsWorst.bits2 : waitsOk bautalaw39_StatsWorst.T2.2 bautalaw39_StatsWorst.B2 = true := by kernel_rfl
set_option maxHeartbeats 8000000 in
set_option maxRecDepth 100000 in
theorem bautalaw39_StatsWorst.calls (k : Nat) (a0_0 : Int) (A0_1 : Option Addr) (c0_1 : Nat) (l0_1 : List Int) (A0_2 : Option Addr) (c0_2 : Nat) (l0_2 : List Int) (a1_0 : Int) (A1_1 : Option Addr) (c1_1 : Nat) (l1_1 : List Int) (A1_2 : Option Addr) (c1_2 : Nat) (l1_2 : List Int) (r : Bool) (w : World) (hr0_1 : Kd.C (Kd.int .i64) w A0_1 l0_1.length l0_1) (hc0_1 : l0_1.length ≤ c0_1) (hr0_2 : Kd.C (Kd.int .i64) w A0_2 l0_2.length l0_2) (hc0_2 : l0_2.length ≤ c0_2) (hr1_1 : Kd.C (Kd.int .i64) w A1_1 l1_1.length l1_1) (hc1_1 : l1_1.length ≤ c1_1) (hr1_2 : Kd.C (Kd.int .i64) w A1_2 l1_2.length l1_2) (hc1_2 : l1_2.length ≤ c1_2) (h : bautalaw39_StatsWorst.f k a0_0 l0_1 l0_2 a1_0 l1_1 l1_2 = some r) :
    Calls Try.prog 6 #[.agg #[.int .i64 a0_0, .slice A0_1 l0_1.length c0_1, .slice A0_2 l0_2.length c0_2], .agg #[.int .i64 a1_0, .slice A1_1 l1_1.length c1_1, .slice A1_2 l1_2.length c1_2]] w fun e w' => e = .returned (.bool r) ∧ Below w.heap.size w w' := by
  have hu24 := Try.underlying24
  have HR0_1 := Aside0.mk hr0_1
  have HC0_1 := Aside0.mk hc0_1
  clear hr0_1 hc0_1
  have HR0_2 := Aside0.mk hr0_2
  have HC0_2 := Aside0.mk hc0_2
  clear hr0_2 hc0_2
  have HR1_1 := Aside0.mk hr1_1
  have HC1_1 := Aside0.mk hc1_1
  clear hr1_1 hc1_1
  have HR1_2 := Aside0.mk hr1_2
  have HC1_2 := Aside0.mk hc1_2
  clear hr1_2 hc1_2
  have HB := Aside0.mk (Below.refl w.heap.size w)
  have H : ((bautalaw39_small.f a0_0 l0_1 l0_2).bind fun bt225 => ((bautalaw39_small.f a1_0 l1_1 l1_2).bind fun bt232 => ((bautalaw39_own.f bt225.1 bt225.2.1 bt225.2.2).bind fun bt239 => ((bautalaw39_own.f bt232.1 bt232.2.1 bt232.2.2).bind fun bt246 => ((stats_Worst.f k bt239.1 bt239.2.1 bt239.2.2 bt246.1 bt246.2.1 bt246.2.2).bind fun bt253 => ((bautaref39_Worst.f k bt225.1 bt225.2.1 bt225.2.2 bt232.1 bt232.2.1 bt232.2.2).bind fun bt255 => (if bt253.1 = bt255.1 then (if (bt253.2 == bt255.2) = true then ((bautalaw39_lives.f k).bind fun t257 => (some t257)) else (some false)) else (some false)))))))) = some r := h
  clear h
  replace H := Option.bind_eq_some_iff.mp H
  obtain ⟨⟨t225, t226, t229⟩, A30, H⟩ := H
  replace H : ((bautalaw39_small.f a1_0 l1_1 l1_2).bind fun bt232 => ((bautalaw39_own.f t225 t226 t229).bind fun bt239 => ((bautalaw39_own.f bt232.1 bt232.2.1 bt232.2.2).bind fun bt246 => ((stats_Worst.f k bt239.1 bt239.2.1 bt239.2.2 bt246.1 bt246.2.1 bt246.2.2).bind fun bt253 => ((bautaref39_Worst.f k t225 t226 t229 bt232.1 bt232.2.1 bt232.2.2).bind fun bt255 => (if bt253.1 = bt255.1 then (if (bt253.2 == bt255.2) = true then ((bautalaw39_lives.f k).bind fun t257 => (some t257)) else (some false)) else (some false))))))) = some r := H
  have A3 := Aside0.mk A30
  clear A30
  replace H := Option.bind_eq_some_iff.mp H
  obtain ⟨⟨t232, t233, t236⟩, A40, H⟩ := H
  replace H : ((bautalaw39_own.f t225 t226 t229).bind fun bt239 => ((bautalaw39_own.f t232 t233 t236).bind fun bt246 => ((stats_Worst.f k bt239.1 bt239.2.1 bt239.2.2 bt246.1 bt246.2.1 bt246.2.2).bind fun bt253 => ((bautaref39_Worst.f k t225 t226 t229 t232 t233 t236).bind fun bt255 => (if bt253.1 = bt255.1 then (if (bt253.2 == bt255.2) = true then ((bautalaw39_lives.f k).bind fun t257 => (some t257)) else (some false)) else (some false)))))) = some r := H
  have A4 := Aside0.mk A40
  clear A40
  replace H := Option.bind_eq_some_iff.mp H
  obtain ⟨⟨t239, t240, t243⟩, A50, H⟩ := H
  replace H : ((bautalaw39_own.f t232 t233 t236).bind fun bt246 => ((stats_Worst.f k t239 t240 t243 bt246.1 bt246.2.1 bt246.2.2).bind fun bt253 => ((bautaref39_Worst.f k t225 t226 t229 t232 t233 t236).bind fun bt255 => (if bt253.1 = bt255.1 then (if (bt253.2 == bt255.2) = true then ((bautalaw39_lives.f k).bind fun t257 => (some t257)) else (some false)) else (some false))))) = some r := H
  have A5 := Aside0.mk A50
  clear A50
  replace H := Option.bind_eq_some_iff.mp H
  obtain ⟨⟨t246, t247, t250⟩, A60, H⟩ := H
  replace H : ((stats_Worst.f k t239 t240 t243 t246 t247 t250).bind fun bt253 => ((bautaref39_Worst.f k t225 t226 t229 t232 t233 t236).bind fun bt255 => (if bt253.1 = bt255.1 then (if (bt253.2 == bt255.2) = true then ((bautalaw39_lives.f k).bind fun t257 => (some t257)) else (some false)) else (some false)))) = some r := H
  have A6 := Aside0.mk A60
  clear A60
  replace H := Option.bind_eq_some_iff.mp H
  obtain ⟨⟨t253, t254⟩, A70, H⟩ := H
  replace H : ((bautaref39_Worst.f k t225 t226 t229 t232 t233 t236).bind fun bt255 => (if t253 = bt255.1 then (if (t254 == bt255.2) = true then ((bautalaw39_lives.f k).bind fun t257 => (some t257)) else (some false)) else (some false))) = some r := H
  have A7 := Aside0.mk A70
  clear A70
  replace H := Option.bind_eq_some_iff.mp H
  obtain ⟨⟨t255, t256⟩, A80, H⟩ := H
  replace H : (if t253 = t255 then (if (t254 == t256) = true then ((bautalaw39_lives.f k).bind fun t257 => (some t257)) else (some false)) else (some false)) = some r := H
  have A8 := Aside0.mk A80
  clear A80
  by_cases c9 : t253 = t255
  · rw [if_pos c9] at H
    have c9b0 : (t253 == t255) = true := beq_iff_eq.mpr c9
    have c9b1 : (t253 != t255) = false := bne_eq_false_iff_eq.mpr c9
    clear c9
    by_cases c10 : (t254 == t256) = true
    · rw [if_pos c10] at H
      have c10b0 : (t254 == t256) = true := c10
      (try (have c10b1 : decide (t254 = t256) = true := by simpa using c10))
      (try (have c10b2 : (t254 == t256) = true := by simpa using c10))
      clear c10
      replace H := Option.bind_eq_some_iff.mp H
      obtain ⟨t257, A110, H⟩ := H
      replace H : (some t257) = some r := H
      have A11 := Aside0.mk A110
      clear A110
      obtain rfl := Option.some.inj H
      go_enter Try.func6, Try.ntmps6
      try go_wp2_with (first | ((with_reducible refine gate_dst (N := 2) rfl ?_); refine box_event ?hg (N := 2) ?hd (cs := #[.int .i64 a0_0, .slice A0_1 l0_1.length c0_1, .slice A0_2 l0_2.length c0_2]) (t := 24) ?hr ?_; (case hd => rfl); (case hg => rfl); (case hr => first | (go_simp; done) | (go_simp; rfl)); intro gb223 hg wz_ hbox hb; have n0_ := Aside0.mk (below_step (rl_ HB) hb); have n1_ := Aside0.mk (hbox); have n2_ := Aside0.mk ((by rw [hg]; exact (below_size (rl_ HB)) : w.heap.size ≤ gb223)); have n3_ := Aside0.mk ((by rw [hg]; exact (below_size (rl_ HB)) : w.heap.size ≤ gb223)); clear HB; have HB := n0_; have BK223 := n1_; have GW223 := n2_; have GE223 := n3_; clear n0_ n1_ n2_ n3_; clear hb hbox hg) | ((with_reducible refine gate_dst (N := 3) rfl ?_); refine box_event ?hg (N := 3) ?hd (cs := #[.int .i64 a1_0, .slice A1_1 l1_1.length c1_1, .slice A1_2 l1_2.length c1_2]) (t := 24) ?hr ?_; (case hd => rfl); (case hg => rfl); (case hr => first | (go_simp; done) | (go_simp; rfl)); intro gb224 hg w13 hbox hb; have n0_ := Aside0.mk (blk_below (rb_ BK223) hb); have n1_ := Aside0.mk (below_step (by (repeat (first | (with_reducible first | exact HB.out | apply below_alloc | apply pw_below_drewN | apply below_drew1 | refine below_set ?_ GE223.out) | exact HB.out))) hb); have n2_ := Aside0.mk (hbox); have n3_ := Aside0.mk ((by rw [hg]; exact (below_size (by (repeat (first | (with_reducible first | exact HB.out | apply below_alloc | apply pw_below_drewN | apply below_drew1 | refine below_set ?_ GE223.out) | exact HB.out)))) : w.heap.size ≤ gb224)); have n4_ := Aside0.mk ((by rw [hg]; exact (below_size (by (repeat (first | (with_reducible first | exact HB.out | apply below_alloc | apply pw_below_drewN | apply below_drew1 | refine below_set ?_ GE223.out) | exact HB.out)))) : w.heap.size ≤ gb224)); have n5_ := Aside0.mk ((by rw [hg]; exact Nat.ne_of_lt (blk_lt (rb_ BK223)) : gb223 ≠ gb224)); have n6_ := Aside0.mk ((by rw [hg]; exact Nat.ne_of_gt (blk_lt (rb_ BK223)) : gb224 ≠ gb223)); clear BK223; clear HB; have BK223 := n0_; have HB := n1_; have BK224 := n2_; have GW224 := n3_; have GE224 := n4_; have NB223_224 := n5_; have NB224_223 := n6_; clear n0_ n1_ n2_ n3_ n4_ n5_ n6_; clear hb hbox hg))
      have n0_ := Aside0.mk (blk_drew BK223.out)
      have n1_ := Aside0.mk (blk_drew BK224.out)
      have n2_ := Aside0.mk (below_drew1 HB.out)
      clear BK223
      clear BK224
      clear HB
      have BK223 := n0_
      have BK224 := n1_
      have HB := n2_
      clear n0_ n1_ n2_
      refine start_ (n := 6) (S := fun w' => w'.cell? ⟨gb223, 0, none⟩ = some (.int .i64 a0_0) ∧ w'.cell? ⟨gb223, 1, none⟩ = some (.slice A0_1 l0_1.length c0_1) ∧ w'.cell? ⟨gb223, 2, none⟩ = some (.slice A0_2 l0_2.length c0_2) ∧ w'.cell? ⟨gb224, 0, none⟩ = some (.int .i64 a1_0) ∧ w'.cell? ⟨gb224, 1, none⟩ = some (.slice A1_1 l1_1.length c1_1) ∧ w'.cell? ⟨gb224, 2, none⟩ = some (.slice A1_2 l1_2.length c1_2)) (ds := [4, 5]) #[false, false, false, false, false, false] (by kernel_rfl) rfl rfl ⟨(blk_cell BK223.out 0).trans rfl, (blk_cell BK223.out 1).trans rfl, (blk_cell BK223.out 2).trans rfl, (blk_cell BK224.out 0).trans rfl, (blk_cell BK224.out 1).trans rfl, (blk_cell BK224.out 2).trans rfl⟩ (fun hHeld => ?_)
      generalize w13.drew = w14 at BK223 BK224 HB hHeld ⊢
      refine take_ (i := 0) (N := some 9) (v := ?_) (a' := ?_) #[true, false, false, false, false, false] rfl rfl (by kernel_rfl) (fun _ _ _ h => h) (Or.inl ⟨by rfl, ?_⟩) hHeld ?_ ?_
      rotate_left
      · rintro w' ⟨s0, s1, s2, s3, s4, s5⟩
        go_simp
        with_reducible rfl
      rotate_left
      · (simp only [Act.put, List.setIfInBounds_toArray, List.set_cons_zero, List.set_cons_succ, i64_w, i32_w])
        rfl
      refine take_ (i := 2) (N := some 11) (v := ?_) (a' := ?_) #[true, false, true, false, false, false] rfl rfl (by kernel_rfl) (fun _ _ _ h => h) (Or.inl ⟨by rfl, ?_⟩) hHeld ?_ ?_
      rotate_left
      · rintro w' ⟨s0, s1, s2, s3, s4, s5⟩
        go_simp
        with_reducible rfl
      rotate_left
      · (simp only [Act.put, List.setIfInBounds_toArray, List.set_cons_zero, List.set_cons_succ, i64_w, i32_w])
        rfl
      refine one_ (i := 1) (N := some 10) #[true, true, true, false, false, false] rfl rfl (by kernel_rfl) (by decide) (fun K hK => ?_)
      refine goes_ Try.func7 (by kernel_rfl) rfl #[.agg #[.int .i64 a0_0, .slice A0_1 l0_1.length c0_1, .slice A0_2 l0_2.length c0_2]] (by rfl) rfl rfl (by (try simp only [List.map_toArray, List.map_cons, List.map_nil]); first | done | rfl | (simp only [List.length_drop, List.length_take]; done) | (simp only [List.length_drop, List.length_take]; rfl)) ?_
      with_reducible refine (bautalaw39_small.calls a0_0 _ _ l0_1 _ _ l0_2 t225 t226 t229 _ ?side1 ?side2 ?side3 ?side4 A3.out).mono ?_
      (case side1 => repeat (first | exact (Kd.C_below HR0_1.out HB.out) | (with_reducible refine Kd.C_alloc ?_ _) | (with_reducible refine Kd.C_drewN ?_ _) | (with_reducible refine Kd.C_drew ?_)))
      (case side2 => exact HC0_1.out)
      (case side3 => repeat (first | exact (Kd.C_below HR0_2.out HB.out) | (with_reducible refine Kd.C_alloc ?_ _) | (with_reducible refine Kd.C_drewN ?_ _) | (with_reducible refine Kd.C_drew ?_)))
      (case side4 => exact HC0_2.out)
      rintro e w15 ⟨v227, v230, rfl, ho0, ho1, hb⟩
      refine ⟨_, rfl, ?_⟩
      have n0_ := Aside0.mk (Kd.R_lower ho0 (below_size (by repeat (first | (with_reducible first | exact HB.out | apply below_alloc | apply pw_below_drewN | apply below_drew1 | refine below_set ?_ GE223.out | refine below_set ?_ GE224.out) | exact HB.out))))
      have n1_ := Aside0.mk (Kd.R_lower ho1 (below_size (by repeat (first | (with_reducible first | exact HB.out | apply below_alloc | apply pw_below_drewN | apply below_drew1 | refine below_set ?_ GE223.out | refine below_set ?_ GE224.out) | exact HB.out))))
      have n2_ := Aside0.mk (blk_below (rb_ BK223) hb)
      have n3_ := Aside0.mk (blk_below (rb_ BK224) hb)
      have n4_ := Aside0.mk (below_step (by repeat (first | (with_reducible first | exact HB.out | apply below_alloc | apply pw_below_drewN | apply below_drew1 | refine below_set ?_ GE223.out | refine below_set ?_ GE224.out) | exact HB.out)) hb)
      clear BK223
      clear BK224
      clear HB
      have HO228 := n0_
      have HO231 := n1_
      have BK223 := n2_
      have BK224 := n3_
      have HB := n4_
      clear n0_ n1_ n2_ n3_ n4_
      (try clear hb)
      (try clear hb2)
      (try clear hk)
      (try clear hi)
      (try clear ho0)
      (try clear ho1)
      refine hK.out _ _ ⟨(blk_cell BK223.out 0).trans rfl, (blk_cell BK223.out 1).trans rfl, (blk_cell BK223.out 2).trans rfl, (blk_cell BK224.out 0).trans rfl, (blk_cell BK224.out 1).trans rfl, (blk_cell BK224.out 2).trans rfl⟩ (fun hHeld => ?_)
      clear hK K
      refine norm_ (a' := ?_) ?_ ?_
      rotate_left
      · show Act.put _ (some 10) _ = _
        (simp only [Act.put, List.setIfInBounds_toArray, List.set_cons_zero, List.set_cons_succ, i64_w, i32_w])
        rfl
      refine one_ (i := 3) (N := some 12) #[true, true, true, true, false, false] rfl rfl (by kernel_rfl) (by decide) (fun K hK => ?_)
      refine goes_ Try.func7 (by kernel_rfl) rfl #[.agg #[.int .i64 a1_0, .slice A1_1 l1_1.length c1_1, .slice A1_2 l1_2.length c1_2]] (by rfl) rfl rfl (by (try simp only [List.map_toArray, List.map_cons, List.map_nil]); first | done | rfl | (simp only [List.length_drop, List.length_take]; done) | (simp only [List.length_drop, List.length_take]; rfl)) ?_
      with_reducible refine (bautalaw39_small.calls a1_0 _ _ l1_1 _ _ l1_2 t232 t233 t236 _ ?side1 ?side2 ?side3 ?side4 A4.out).mono ?_
      (case side1 => repeat (first | exact (Kd.C_below HR1_1.out HB.out) | (with_reducible refine Kd.C_alloc ?_ _) | (with_reducible refine Kd.C_drewN ?_ _) | (with_reducible refine Kd.C_drew ?_)))
      (case side2 => exact HC1_1.out)
      (case side3 => repeat (first | exact (Kd.C_below HR1_2.out HB.out) | (with_reducible refine Kd.C_alloc ?_ _) | (with_reducible refine Kd.C_drewN ?_ _) | (with_reducible refine Kd.C_drew ?_)))
      (case side4 => exact HC1_2.out)
      rintro e w16 ⟨v234, v237, rfl, ho0, ho1, hb⟩
      refine ⟨_, rfl, ?_⟩
      have n0_ := Aside0.mk (Kd.R_mono (Kd.R_told (Kd.R_told (Kd.R_old (rr_ HO228) hb) (Kd.R_base ho0)) (Kd.R_base ho1)) (fun _ h_ => h_.1))
      have n1_ := Aside0.mk (Kd.R_mono (Kd.R_told (Kd.R_told (Kd.R_old (rr_ HO231) hb) (Kd.R_base ho0)) (Kd.R_base ho1)) (fun _ h_ => h_.1))
      have n2_ := Aside0.mk (Kd.R_lower (Kd.R_new' (Kd.R_new' ho0 (Kd.R_lt (rr_ HO228))) (Kd.R_lt (rr_ HO231))) (below_size (by repeat (first | (with_reducible first | exact HB.out | apply below_alloc | apply pw_below_drewN | apply below_drew1 | refine below_set ?_ GE223.out | refine below_set ?_ GE224.out) | exact HB.out))))
      have n3_ := Aside0.mk (Kd.R_lower (Kd.R_new' (Kd.R_new' ho1 (Kd.R_lt (rr_ HO228))) (Kd.R_lt (rr_ HO231))) (below_size (by repeat (first | (with_reducible first | exact HB.out | apply below_alloc | apply pw_below_drewN | apply below_drew1 | refine below_set ?_ GE223.out | refine below_set ?_ GE224.out) | exact HB.out))))
      have n4_ := Aside0.mk (blk_below (rb_ BK223) hb)
      have n5_ := Aside0.mk (blk_below (rb_ BK224) hb)
      have n6_ := Aside0.mk (below_step (by repeat (first | (with_reducible first | exact HB.out | apply below_alloc | apply pw_below_drewN | apply below_drew1 | refine below_set ?_ GE223.out | refine below_set ?_ GE224.out) | exact HB.out)) hb)
      clear HO228
      clear HO231
      clear BK223
      clear BK224
      clear HB
      have HO228 := n0_
      have HO231 := n1_
      have HO235 := n2_
      have HO238 := n3_
      have BK223 := n4_
      have BK224 := n5_
      have HB := n6_
      clear n0_ n1_ n2_ n3_ n4_ n5_ n6_
      (try clear hb)
      (try clear hb2)
      (try clear hk)
      (try clear hi)
      (try clear ho0)
      (try clear ho1)
      obtain ⟨Ao18, co18, eo18⟩ := Kd.R_slice HO228.out
      (first | subst eo18 | (injection eo18 with f1_ f2_ f3_; have f4_ := f1_.symm; have f5_ := f3_.symm; clear f1_ f2_ f3_; subst f4_; subst f5_))
      obtain ⟨Ao20, co20, eo20⟩ := Kd.R_slice HO231.out
      (first | subst eo20 | (injection eo20 with f1_ f2_ f3_; have f4_ := f1_.symm; have f5_ := f3_.symm; clear f1_ f2_ f3_; subst f4_; subst f5_))
      obtain ⟨Ao23, co23, eo23⟩ := Kd.R_slice HO235.out
      (first | subst eo23 | (injection eo23 with f1_ f2_ f3_; have f4_ := f1_.symm; have f5_ := f3_.symm; clear f1_ f2_ f3_; subst f4_; subst f5_))
      obtain ⟨Ao25, co25, eo25⟩ := Kd.R_slice HO238.out
      (first | subst eo25 | (injection eo25 with f1_ f2_ f3_; have f4_ := f1_.symm; have f5_ := f3_.symm; clear f1_ f2_ f3_; subst f4_; subst f5_))
      refine hK.out _ _ ⟨(blk_cell BK223.out 0).trans rfl, (blk_cell BK223.out 1).trans rfl, (blk_cell BK223.out 2).trans rfl, (blk_cell BK224.out 0).trans rfl, (blk_cell BK224.out 1).trans rfl, (blk_cell BK224.out 2).trans rfl⟩ (fun hHeld => ?_)
      clear hK K
      refine norm_ (a' := ?_) ?_ ?_
      rotate_left
      · show Act.put _ (some 12) _ = _
        (simp only [Act.put, List.setIfInBounds_toArray, List.set_cons_zero, List.set_cons_succ, i64_w, i32_w])
        rfl
      refine last_ (i := 4) (N := none) #[true, true, true, true, true, false] rfl rfl (by kernel_rfl) (by decide) (fun K hK => ?_)
      have hs17 : w16.cell? ⟨gb223, 0, none⟩ = some (.int .i64 a0_0) := (blk_cell BK223.out 0).trans rfl
      have hfs17 := blk_frozen BK223.out 0
      have hns17_1 := NB224_223.out
      have hms17_1 := NB223_224.out
      have hs19 : w16.cell? ⟨gb223, 1, none⟩ = some (.slice A0_1 l0_1.length c0_1) := (blk_cell BK223.out 1).trans rfl
      have hfs19 := blk_frozen BK223.out 1
      have hns19_1 := NB224_223.out
      have hms19_1 := NB223_224.out
      have hs21 : w16.cell? ⟨gb223, 2, none⟩ = some (.slice A0_2 l0_2.length c0_2) := (blk_cell BK223.out 2).trans rfl
      have hfs21 := blk_frozen BK223.out 2
      have hns21_1 := NB224_223.out
      have hms21_1 := NB223_224.out
      refine skip_ (w1 := ?_) (by rfl) rfl ?_ ?_
      rotate_left
      · go_simp
        rfl
      refine hK.out _ _ ?_
      clear hK K
      refine last_ (i := 5) (N := none) #[true, true, true, true, true, true] rfl rfl (by kernel_rfl) (by decide) (fun K hK => ?_)
      have hs22 : w16.cell? ⟨gb224, 0, none⟩ = some (.int .i64 a1_0) := (blk_cell BK224.out 0).trans rfl
      have hfs22 := blk_frozen BK224.out 0
      have hns22_0 := NB223_224.out
      have hms22_0 := NB224_223.out
      have hs24 : w16.cell? ⟨gb224, 1, none⟩ = some (.slice A1_1 l1_1.length c1_1) := (blk_cell BK224.out 1).trans rfl
      have hfs24 := blk_frozen BK224.out 1
      have hns24_0 := NB223_224.out
      have hms24_0 := NB224_223.out
      have hs26 : w16.cell? ⟨gb224, 2, none⟩ = some (.slice A1_2 l1_2.length c1_2) := (blk_cell BK224.out 2).trans rfl
      have hfs26 := blk_frozen BK224.out 2
      have hns26_0 := NB223_224.out
      have hms26_0 := NB224_223.out
      refine skip_ (w1 := ?_) (by rfl) rfl ?_ ?_
      rotate_left
      · go_simp
        rfl
      refine hK.out _ _ ?_
      clear hK K
      refine done_ (by kernel_rfl) ?_
      try go_wp2
      have n0_ : Aside0 (Kd.R (Kd.int .i64) 3 ((((((w16.setCell ⟨gb223, 0, none⟩ (.int .i64 t225)).setCell ⟨gb223, 1, none⟩ (.slice Ao18 t226.length co18)).setCell ⟨gb223, 2, none⟩ (.slice Ao20 t229.length co20)).setCell ⟨gb224, 0, none⟩ (.int .i64 t232)).setCell ⟨gb224, 1, none⟩ (.slice Ao23 t233.length co23)).setCell ⟨gb224, 2, none⟩ (.slice Ao25 t236.length co25)) w.heap.size (fun k_ => some k_ ≠ (.slice Ao20 t229.length co20 : Value).ownBlock ∧ some k_ ≠ (.slice Ao23 t233.length co23 : Value).ownBlock ∧ some k_ ≠ (.slice Ao25 t236.length co25 : Value).ownBlock) (.slice Ao18 t226.length co18) t226) := ⟨by (with_reducible repeat (first | apply Kd.R_alloc | apply Kd.R_drewN | apply Kd.R_drew)); exact Kd.R_mono (Kd.R_far (p := ⟨gb224, 2, none⟩) (Kd.R_far (p := ⟨gb224, 1, none⟩) (Kd.R_far (p := ⟨gb224, 0, none⟩) (Kd.R_far (p := ⟨gb223, 2, none⟩) (Kd.R_far (p := ⟨gb223, 1, none⟩) (Kd.R_far (p := ⟨gb223, 0, none⟩) (Kd.R_types (Kd.R_types HO228.out BK223.out (by decide)) BK224.out (by decide)) (fun _ hk => hk.1.2) (.int .i64 t225)) (fun _ hk => hk.1.2) (.slice Ao18 t226.length co18)) (fun _ hk => hk.1.2) (.slice Ao20 t229.length co20)) (fun _ hk => hk.2) (.int .i64 t232)) (fun _ hk => hk.2) (.slice Ao23 t233.length co23)) (fun _ hk => hk.2) (.slice Ao25 t236.length co25)) (fun _ hk => ⟨hk.1.1.1.1, ⟨hk.1.1.1.2, hk.1.1.2⟩⟩)⟩
      have n1_ : Aside0 (Kd.R (Kd.int .i64) 3 ((((((w16.setCell ⟨gb223, 0, none⟩ (.int .i64 t225)).setCell ⟨gb223, 1, none⟩ (.slice Ao18 t226.length co18)).setCell ⟨gb223, 2, none⟩ (.slice Ao20 t229.length co20)).setCell ⟨gb224, 0, none⟩ (.int .i64 t232)).setCell ⟨gb224, 1, none⟩ (.slice Ao23 t233.length co23)).setCell ⟨gb224, 2, none⟩ (.slice Ao25 t236.length co25)) w.heap.size (fun k_ => some k_ ≠ (.slice Ao18 t226.length co18 : Value).ownBlock ∧ some k_ ≠ (.slice Ao23 t233.length co23 : Value).ownBlock ∧ some k_ ≠ (.slice Ao25 t236.length co25 : Value).ownBlock) (.slice Ao20 t229.length co20) t229) := ⟨by (with_reducible repeat (first | apply Kd.R_alloc | apply Kd.R_drewN | apply Kd.R_drew)); exact Kd.R_mono (Kd.R_far (p := ⟨gb224, 2, none⟩) (Kd.R_far (p := ⟨gb224, 1, none⟩) (Kd.R_far (p := ⟨gb224, 0, none⟩) (Kd.R_far (p := ⟨gb223, 2, none⟩) (Kd.R_far (p := ⟨gb223, 1, none⟩) (Kd.R_far (p := ⟨gb223, 0, none⟩) (Kd.R_types (Kd.R_types HO231.out BK223.out (by decide)) BK224.out (by decide)) (fun _ hk => hk.1.2) (.int .i64 t225)) (fun _ hk => hk.1.2) (.slice Ao18 t226.length co18)) (fun _ hk => hk.1.2) (.slice Ao20 t229.length co20)) (fun _ hk => hk.2) (.int .i64 t232)) (fun _ hk => hk.2) (.slice Ao23 t233.length co23)) (fun _ hk => hk.2) (.slice Ao25 t236.length co25)) (fun _ hk => ⟨hk.1.1.1.1, ⟨hk.1.1.1.2, hk.1.1.2⟩⟩)⟩
      have n2_ : Aside0 (Kd.R (Kd.int .i64) 3 ((((((w16.setCell ⟨gb223, 0, none⟩ (.int .i64 t225)).setCell ⟨gb223, 1, none⟩ (.slice Ao18 t226.length co18)).setCell ⟨gb223, 2, none⟩ (.slice Ao20 t229.length co20)).setCell ⟨gb224, 0, none⟩ (.int .i64 t232)).setCell ⟨gb224, 1, none⟩ (.slice Ao23 t233.length co23)).setCell ⟨gb224, 2, none⟩ (.slice Ao25 t236.length co25)) w.heap.size (fun k_ => some k_ ≠ (.slice Ao18 t226.length co18 : Value).ownBlock ∧ some k_ ≠ (.slice Ao20 t229.length co20 : Value).ownBlock ∧ some k_ ≠ (.slice Ao25 t236.length co25 : Value).ownBlock) (.slice Ao23 t233.length co23) t233) := ⟨by (with_reducible repeat (first | apply Kd.R_alloc | apply Kd.R_drewN | apply Kd.R_drew)); exact Kd.R_mono (Kd.R_far (p := ⟨gb224, 2, none⟩) (Kd.R_far (p := ⟨gb224, 1, none⟩) (Kd.R_far (p := ⟨gb224, 0, none⟩) (Kd.R_far (p := ⟨gb223, 2, none⟩) (Kd.R_far (p := ⟨gb223, 1, none⟩) (Kd.R_far (p := ⟨gb223, 0, none⟩) (Kd.R_types (Kd.R_types HO235.out BK223.out (by decide)) BK224.out (by decide)) (fun _ hk => hk.1.2) (.int .i64 t225)) (fun _ hk => hk.1.2) (.slice Ao18 t226.length co18)) (fun _ hk => hk.1.2) (.slice Ao20 t229.length co20)) (fun _ hk => hk.2) (.int .i64 t232)) (fun _ hk => hk.2) (.slice Ao23 t233.length co23)) (fun _ hk => hk.2) (.slice Ao25 t236.length co25)) (fun _ hk => ⟨hk.1.1.1.2, ⟨hk.1.1.2, hk.1.1.1.1⟩⟩)⟩
      have n3_ : Aside0 (Kd.R (Kd.int .i64) 3 ((((((w16.setCell ⟨gb223, 0, none⟩ (.int .i64 t225)).setCell ⟨gb223, 1, none⟩ (.slice Ao18 t226.length co18)).setCell ⟨gb223, 2, none⟩ (.slice Ao20 t229.length co20)).setCell ⟨gb224, 0, none⟩ (.int .i64 t232)).setCell ⟨gb224, 1, none⟩ (.slice Ao23 t233.length co23)).setCell ⟨gb224, 2, none⟩ (.slice Ao25 t236.length co25)) w.heap.size (fun k_ => some k_ ≠ (.slice Ao18 t226.length co18 : Value).ownBlock ∧ some k_ ≠ (.slice Ao20 t229.length co20 : Value).ownBlock ∧ some k_ ≠ (.slice Ao23 t233.length co23 : Value).ownBlock) (.slice Ao25 t236.length co25) t236) := ⟨by (with_reducible repeat (first | apply Kd.R_alloc | apply Kd.R_drewN | apply Kd.R_drew)); exact Kd.R_mono (Kd.R_far (p := ⟨gb224, 2, none⟩) (Kd.R_far (p := ⟨gb224, 1, none⟩) (Kd.R_far (p := ⟨gb224, 0, none⟩) (Kd.R_far (p := ⟨gb223, 2, none⟩) (Kd.R_far (p := ⟨gb223, 1, none⟩) (Kd.R_far (p := ⟨gb223, 0, none⟩) (Kd.R_types (Kd.R_types HO238.out BK223.out (by decide)) BK224.out (by decide)) (fun _ hk => hk.1.2) (.int .i64 t225)) (fun _ hk => hk.1.2) (.slice Ao18 t226.length co18)) (fun _ hk => hk.1.2) (.slice Ao20 t229.length co20)) (fun _ hk => hk.2) (.int .i64 t232)) (fun _ hk => hk.2) (.slice Ao23 t233.length co23)) (fun _ hk => hk.2) (.slice Ao25 t236.length co25)) (fun _ hk => ⟨hk.1.1.1.2, ⟨hk.1.1.2, hk.1.1.1.1⟩⟩)⟩
      have n4_ : Aside0 (((((((w16.setCell ⟨gb223, 0, none⟩ (.int .i64 t225)).setCell ⟨gb223, 1, none⟩ (.slice Ao18 t226.length co18)).setCell ⟨gb223, 2, none⟩ (.slice Ao20 t229.length co20)).setCell ⟨gb224, 0, none⟩ (.int .i64 t232)).setCell ⟨gb224, 1, none⟩ (.slice Ao23 t233.length co23)).setCell ⟨gb224, 2, none⟩ (.slice Ao25 t236.length co25)).heap[gb223]? = some (.cells #[.int .i64 t225, .slice Ao18 t226.length co18, .slice Ao20 t229.length co20] 24 (0, 0))) := ⟨by (with_reducible repeat (first | refine blk_drewN ?_ _ | refine blk_drew ?_ | refine blk_alloc ?_ _)); refine blk_far ?_ NB223_224.out _; (with_reducible repeat (first | refine blk_drewN ?_ _ | refine blk_drew ?_ | refine blk_alloc ?_ _)); refine blk_far ?_ NB223_224.out _; (with_reducible repeat (first | refine blk_drewN ?_ _ | refine blk_drew ?_ | refine blk_alloc ?_ _)); refine blk_far ?_ NB223_224.out _; (with_reducible repeat (first | refine blk_drewN ?_ _ | refine blk_drew ?_ | refine blk_alloc ?_ _)); refine blk_put (cs := #[.int .i64 t225, .slice Ao18 t226.length co18, .slice A0_2 l0_2.length c0_2]) ?_ 2 _ rfl; (with_reducible repeat (first | refine blk_drewN ?_ _ | refine blk_drew ?_ | refine blk_alloc ?_ _)); refine blk_put (cs := #[.int .i64 t225, .slice A0_1 l0_1.length c0_1, .slice A0_2 l0_2.length c0_2]) ?_ 1 _ rfl; (with_reducible repeat (first | refine blk_drewN ?_ _ | refine blk_drew ?_ | refine blk_alloc ?_ _)); refine blk_put (cs := #[.int .i64 a0_0, .slice A0_1 l0_1.length c0_1, .slice A0_2 l0_2.length c0_2]) ?_ 0 _ rfl; (with_reducible repeat (first | refine blk_drewN ?_ _ | refine blk_drew ?_ | refine blk_alloc ?_ _)); exact BK223.out⟩
      have n5_ : Aside0 (((((((w16.setCell ⟨gb223, 0, none⟩ (.int .i64 t225)).setCell ⟨gb223, 1, none⟩ (.slice Ao18 t226.length co18)).setCell ⟨gb223, 2, none⟩ (.slice Ao20 t229.length co20)).setCell ⟨gb224, 0, none⟩ (.int .i64 t232)).setCell ⟨gb224, 1, none⟩ (.slice Ao23 t233.length co23)).setCell ⟨gb224, 2, none⟩ (.slice Ao25 t236.length co25)).heap[gb224]? = some (.cells #[.int .i64 t232, .slice Ao23 t233.length co23, .slice Ao25 t236.length co25] 24 (0, 0))) := ⟨by (with_reducible repeat (first | refine blk_drewN ?_ _ | refine blk_drew ?_ | refine blk_alloc ?_ _)); refine blk_put (cs := #[.int .i64 t232, .slice Ao23 t233.length co23, .slice A1_2 l1_2.length c1_2]) ?_ 2 _ rfl; (with_reducible repeat (first | refine blk_drewN ?_ _ | refine blk_drew ?_ | refine blk_alloc ?_ _)); refine blk_put (cs := #[.int .i64 t232, .slice A1_1 l1_1.length c1_1, .slice A1_2 l1_2.length c1_2]) ?_ 1 _ rfl; (with_reducible repeat (first | refine blk_drewN ?_ _ | refine blk_drew ?_ | refine blk_alloc ?_ _)); refine blk_put (cs := #[.int .i64 a1_0, .slice A1_1 l1_1.length c1_1, .slice A1_2 l1_2.length c1_2]) ?_ 0 _ rfl; (with_reducible repeat (first | refine blk_drewN ?_ _ | refine blk_drew ?_ | refine blk_alloc ?_ _)); refine blk_far ?_ NB224_223.out _; (with_reducible repeat (first | refine blk_drewN ?_ _ | refine blk_drew ?_ | refine blk_alloc ?_ _)); refine blk_far ?_ NB224_223.out _; (with_reducible repeat (first | refine blk_drewN ?_ _ | refine blk_drew ?_ | refine blk_alloc ?_ _)); refine blk_far ?_ NB224_223.out _; (with_reducible repeat (first | refine blk_drewN ?_ _ | refine blk_drew ?_ | refine blk_alloc ?_ _)); exact BK224.out⟩
      have n6_ : Aside0 (Below w.heap.size w ((((((w16.setCell ⟨gb223, 0, none⟩ (.int .i64 t225)).setCell ⟨gb223, 1, none⟩ (.slice Ao18 t226.length co18)).setCell ⟨gb223, 2, none⟩ (.slice Ao20 t229.length co20)).setCell ⟨gb224, 0, none⟩ (.int .i64 t232)).setCell ⟨gb224, 1, none⟩ (.slice Ao23 t233.length co23)).setCell ⟨gb224, 2, none⟩ (.slice Ao25 t236.length co25))) := ⟨by repeat (first | (with_reducible first | exact HB.out | apply below_alloc | apply pw_below_drewN | apply below_drew1 | refine below_set ?_ GE223.out | refine below_set ?_ GE224.out) | exact HB.out)⟩
      (try clear HO228)
      (try clear HO231)
      (try clear HO235)
      (try clear HO238)
      (try clear BK223)
      (try clear BK224)
      (try clear HB)
      generalize ((((((w16.setCell ⟨gb223, 0, none⟩ (.int .i64 t225)).setCell ⟨gb223, 1, none⟩ (.slice Ao18 t226.length co18)).setCell ⟨gb223, 2, none⟩ (.slice Ao20 t229.length co20)).setCell ⟨gb224, 0, none⟩ (.int .i64 t232)).setCell ⟨gb224, 1, none⟩ (.slice Ao23 t233.length co23)).setCell ⟨gb224, 2, none⟩ (.slice Ao25 t236.length co25)) = w27 at n0_ n1_ n2_ n3_ n4_ n5_ n6_ ⊢
      have HO228 := n0_
      have HO231 := n1_
      have HO235 := n2_
      have HO238 := n3_
      have BK223 := n4_
      have BK224 := n5_
      have HB := n6_
      clear n0_ n1_ n2_ n3_ n4_ n5_ n6_
      have n0_ := Aside0.mk (Kd.R_drew HO228.out)
      have n1_ := Aside0.mk (Kd.R_drew HO231.out)
      have n2_ := Aside0.mk (Kd.R_drew HO235.out)
      have n3_ := Aside0.mk (Kd.R_drew HO238.out)
      have n4_ := Aside0.mk (blk_drew BK223.out)
      have n5_ := Aside0.mk (blk_drew BK224.out)
      have n6_ := Aside0.mk (below_drew1 HB.out)
      clear HO228
      clear HO231
      clear HO235
      clear HO238
      clear BK223
      clear BK224
      clear HB
      have HO228 := n0_
      have HO231 := n1_
      have HO235 := n2_
      have HO238 := n3_
      have BK223 := n4_
      have BK224 := n5_
      have HB := n6_
      clear n0_ n1_ n2_ n3_ n4_ n5_ n6_
      refine start_ (n := 10) (S := fun w' => w'.cell? ⟨gb223, 0, none⟩ = some (.int .i64 t225) ∧ w'.cell? ⟨gb223, 1, none⟩ = some (.slice Ao18 t226.length co18) ∧ w'.cell? ⟨gb223, 2, none⟩ = some (.slice Ao20 t229.length co20) ∧ w'.cell? ⟨gb224, 0, none⟩ = some (.int .i64 t232) ∧ w'.cell? ⟨gb224, 1, none⟩ = some (.slice Ao23 t233.length co23) ∧ w'.cell? ⟨gb224, 2, none⟩ = some (.slice Ao25 t236.length co25)) (ds := []) #[false, false, false, false, false, false, false, false, false, false] (by kernel_rfl) rfl rfl ⟨(blk_cell BK223.out 0).trans rfl, (blk_cell BK223.out 1).trans rfl, (blk_cell BK223.out 2).trans rfl, (blk_cell BK224.out 0).trans rfl, (blk_cell BK224.out 1).trans rfl, (blk_cell BK224.out 2).trans rfl⟩ (fun hHeld => ?_); refine with_tabW bautalaw39_StatsWorst.tab2 bautalaw39_StatsWorst.bits2 (fun HT_ HW_ => ?_)
      generalize w27.drew = w28 at HO228 HO231 HO235 HO238 BK223 BK224 HB hHeld ⊢
      refine take_ (i := 0) (N := some 14) (v := ?_) (a' := ?_) #[true, false, false, false, false, false, false, false, false, false] rfl rfl (take_ofW HT_.out HW_.out (by kernel_rfl)) (fun _ _ _ h => h) (Or.inl ⟨by rfl, ?_⟩) hHeld ?_ ?_
      rotate_left
      · rintro w' ⟨s0, s1, s2, s3, s4, s5⟩
        go_simp
        with_reducible rfl
      rotate_left
      · (simp only [Act.put, List.setIfInBounds_toArray, List.set_cons_zero, List.set_cons_succ, i64_w, i32_w])
        rfl
      refine take_ (i := 2) (N := some 16) (v := ?_) (a' := ?_) #[true, false, true, false, false, false, false, false, false, false] rfl rfl (take_ofW HT_.out HW_.out (by kernel_rfl)) (fun _ _ _ h => h) (Or.inl ⟨by rfl, ?_⟩) hHeld ?_ ?_
      rotate_left
      · rintro w' ⟨s0, s1, s2, s3, s4, s5⟩
        go_simp
        with_reducible rfl
      rotate_left
      · (simp only [Act.put, List.setIfInBounds_toArray, List.set_cons_zero, List.set_cons_succ, i64_w, i32_w])
        rfl
      refine one_ (i := 1) (N := some 15) #[true, true, true, false, false, false, false, false, false, false] rfl rfl (one_of HT_.out (by kernel_rfl)) (by decide) (fun K hK => ?_)
      refine goes_ Try.func9 (by kernel_rfl) rfl #[.agg #[.int .i64 t225, .slice Ao18 t226.length co18, .slice Ao20 t229.length co20]] (by rfl) rfl rfl (by (try simp only [List.map_toArray, List.map_cons, List.map_nil]); first | done | rfl | (simp only [List.length_drop, List.length_take]; done) | (simp only [List.length_drop, List.length_take]; rfl)) ?_
      with_reducible refine (bautalaw39_own.calls t225 _ _ t226 _ _ t229 t239 t240 t243 _ ?side1 ?side2 ?side3 ?side4 A5.out).mono ?_
      (case side1 => repeat (first | exact (Kd.R_reads' HO228.out).2.2 | (with_reducible refine Kd.C_alloc ?_ _) | (with_reducible refine Kd.C_drewN ?_ _) | (with_reducible refine Kd.C_drew ?_)))
      (case side2 => exact (Kd.R_reads' HO228.out).2.1)
      (case side3 => repeat (first | exact (Kd.R_reads' HO231.out).2.2 | (with_reducible refine Kd.C_alloc ?_ _) | (with_reducible refine Kd.C_drewN ?_ _) | (with_reducible refine Kd.C_drew ?_)))
      (case side4 => exact (Kd.R_reads' HO231.out).2.1)
      rintro e w29 ⟨v241, v244, rfl, ho0, ho1, hb⟩
      refine ⟨_, rfl, ?_⟩
      have n0_ := Aside0.mk (Kd.R_mono (Kd.R_told (Kd.R_told (Kd.R_old (rr_ HO228) hb) (Kd.R_base ho0)) (Kd.R_base ho1)) (fun _ h_ => h_.1))
      have n1_ := Aside0.mk (Kd.R_mono (Kd.R_told (Kd.R_told (Kd.R_old (rr_ HO231) hb) (Kd.R_base ho0)) (Kd.R_base ho1)) (fun _ h_ => h_.1))
      have n2_ := Aside0.mk (Kd.R_mono (Kd.R_told (Kd.R_told (Kd.R_old (rr_ HO235) hb) (Kd.R_base ho0)) (Kd.R_base ho1)) (fun _ h_ => h_.1))
      have n3_ := Aside0.mk (Kd.R_mono (Kd.R_told (Kd.R_told (Kd.R_old (rr_ HO238) hb) (Kd.R_base ho0)) (Kd.R_base ho1)) (fun _ h_ => h_.1))
      have n4_ := Aside0.mk (Kd.R_lower (Kd.R_new' (Kd.R_new' (Kd.R_new' (Kd.R_new' ho0 (Kd.R_lt (rr_ HO228))) (Kd.R_lt (rr_ HO231))) (Kd.R_lt (rr_ HO235))) (Kd.R_lt (rr_ HO238))) (below_size (by repeat (first | (with_reducible first | exact HB.out | apply below_alloc | apply pw_below_drewN | apply below_drew1 | refine below_set ?_ GE223.out | refine below_set ?_ GE224.out) | exact HB.out))))
      have n5_ := Aside0.mk (Kd.R_lower (Kd.R_new' (Kd.R_new' (Kd.R_new' (Kd.R_new' ho1 (Kd.R_lt (rr_ HO228))) (Kd.R_lt (rr_ HO231))) (Kd.R_lt (rr_ HO235))) (Kd.R_lt (rr_ HO238))) (below_size (by repeat (first | (with_reducible first | exact HB.out | apply below_alloc | apply pw_below_drewN | apply below_drew1 | refine below_set ?_ GE223.out | refine below_set ?_ GE224.out) | exact HB.out))))
      have n6_ := Aside0.mk (blk_below (rb_ BK223) hb)
      have n7_ := Aside0.mk (blk_below (rb_ BK224) hb)
      have n8_ := Aside0.mk (below_step (by repeat (first | (with_reducible first | exact HB.out | apply below_alloc | apply pw_below_drewN | apply below_drew1 | refine below_set ?_ GE223.out | refine below_set ?_ GE224.out) | exact HB.out)) hb)
      clear HO228
      clear HO231
      clear HO235
      clear HO238
      clear BK223
      clear BK224
      clear HB
      have HO228 := n0_
      have HO231 := n1_
      have HO235 := n2_
      have HO238 := n3_
      have HO242 := n4_
      have HO245 := n5_
      have BK223 := n6_
      have BK224 := n7_
      have HB := n8_
      clear n0_ n1_ n2_ n3_ n4_ n5_ n6_ n7_ n8_
      (try clear hb)
      (try clear hb2)
      (try clear hk)
      (try clear hi)
      (try clear ho0)
      (try clear ho1)
      refine hK.out _ _ ⟨(blk_cell BK223.out 0).trans rfl, (blk_cell BK223.out 1).trans rfl, (blk_cell BK223.out 2).trans rfl, (blk_cell BK224.out 0).trans rfl, (blk_cell BK224.out 1).trans rfl, (blk_cell BK224.out 2).trans rfl⟩ (fun hHeld => ?_)
      clear hK K
      refine norm_ (a' := ?_) ?_ ?_
      rotate_left
      · show Act.put _ (some 15) _ = _
        (simp only [Act.put, List.setIfInBounds_toArray, List.set_cons_zero, List.set_cons_succ, i64_w, i32_w])
        rfl
      refine one_ (i := 3) (N := some 17) #[true, true, true, true, false, false, false, false, false, false] rfl rfl (one_of HT_.out (by kernel_rfl)) (by decide) (fun K hK => ?_)
      refine goes_ Try.func9 (by kernel_rfl) rfl #[.agg #[.int .i64 t232, .slice Ao23 t233.length co23, .slice Ao25 t236.length co25]] (by rfl) rfl rfl (by (try simp only [List.map_toArray, List.map_cons, List.map_nil]); first | done | rfl | (simp only [List.length_drop, List.length_take]; done) | (simp only [List.length_drop, List.length_take]; rfl)) ?_
      with_reducible refine (bautalaw39_own.calls t232 _ _ t233 _ _ t236 t246 t247 t250 _ ?side1 ?side2 ?side3 ?side4 A6.out).mono ?_
      (case side1 => repeat (first | exact (Kd.R_reads' HO235.out).2.2 | (with_reducible refine Kd.C_alloc ?_ _) | (with_reducible refine Kd.C_drewN ?_ _) | (with_reducible refine Kd.C_drew ?_)))
      (case side2 => exact (Kd.R_reads' HO235.out).2.1)
      (case side3 => repeat (first | exact (Kd.R_reads' HO238.out).2.2 | (with_reducible refine Kd.C_alloc ?_ _) | (with_reducible refine Kd.C_drewN ?_ _) | (with_reducible refine Kd.C_drew ?_)))
      (case side4 => exact (Kd.R_reads' HO238.out).2.1)
      rintro e w30 ⟨v248, v251, rfl, ho0, ho1, hb⟩
      refine ⟨_, rfl, ?_⟩
      have n0_ := Aside0.mk (Kd.R_mono (Kd.R_told (Kd.R_told (Kd.R_old (rr_ HO228) hb) (Kd.R_base ho0)) (Kd.R_base ho1)) (fun _ h_ => h_.1))
      have n1_ := Aside0.mk (Kd.R_mono (Kd.R_told (Kd.R_told (Kd.R_old (rr_ HO231) hb) (Kd.R_base ho0)) (Kd.R_base ho1)) (fun _ h_ => h_.1))
      have n2_ := Aside0.mk (Kd.R_mono (Kd.R_told (Kd.R_told (Kd.R_old (rr_ HO235) hb) (Kd.R_base ho0)) (Kd.R_base ho1)) (fun _ h_ => h_.1))
      have n3_ := Aside0.mk (Kd.R_mono (Kd.R_told (Kd.R_told (Kd.R_old (rr_ HO238) hb) (Kd.R_base ho0)) (Kd.R_base ho1)) (fun _ h_ => h_.1))
      have n4_ := Aside0.mk (Kd.R_mono (Kd.R_told (Kd.R_told (Kd.R_old (rr_ HO242) hb) (Kd.R_base ho0)) (Kd.R_base ho1)) (fun _ h_ => h_.1))
      have n5_ := Aside0.mk (Kd.R_mono (Kd.R_told (Kd.R_told (Kd.R_old (rr_ HO245) hb) (Kd.R_base ho0)) (Kd.R_base ho1)) (fun _ h_ => h_.1))
      have n6_ := Aside0.mk (Kd.R_lower (Kd.R_new' (Kd.R_new' (Kd.R_new' (Kd.R_new' (Kd.R_new' (Kd.R_new' ho0 (Kd.R_lt (rr_ HO228))) (Kd.R_lt (rr_ HO231))) (Kd.R_lt (rr_ HO235))) (Kd.R_lt (rr_ HO238))) (Kd.R_lt (rr_ HO242))) (Kd.R_lt (rr_ HO245))) (below_size (by repeat (first | (with_reducible first | exact HB.out | apply below_alloc | apply pw_below_drewN | apply below_drew1 | refine below_set ?_ GE223.out | refine below_set ?_ GE224.out) | exact HB.out))))
      have n7_ := Aside0.mk (Kd.R_lower (Kd.R_new' (Kd.R_new' (Kd.R_new' (Kd.R_new' (Kd.R_new' (Kd.R_new' ho1 (Kd.R_lt (rr_ HO228))) (Kd.R_lt (rr_ HO231))) (Kd.R_lt (rr_ HO235))) (Kd.R_lt (rr_ HO238))) (Kd.R_lt (rr_ HO242))) (Kd.R_lt (rr_ HO245))) (below_size (by repeat (first | (with_reducible first | exact HB.out | apply below_alloc | apply pw_below_drewN | apply below_drew1 | refine below_set ?_ GE223.out | refine below_set ?_ GE224.out) | exact HB.out))))
      have n8_ := Aside0.mk (blk_below (rb_ BK223) hb)
      have n9_ := Aside0.mk (blk_below (rb_ BK224) hb)
      have n10_ := Aside0.mk (below_step (by repeat (first | (with_reducible first | exact HB.out | apply below_alloc | apply pw_below_drewN | apply below_drew1 | refine below_set ?_ GE223.out | refine below_set ?_ GE224.out) | exact HB.out)) hb)
      clear HO228
      clear HO231
      clear HO235
      clear HO238
      clear HO242
      clear HO245
      clear BK223
      clear BK224
      clear HB
      have HO228 := n0_
      have HO231 := n1_
      have HO235 := n2_
      have HO238 := n3_
      have HO242 := n4_
      have HO245 := n5_
      have HO249 := n6_
      have HO252 := n7_
      have BK223 := n8_
      have BK224 := n9_
      have HB := n10_
      clear n0_ n1_ n2_ n3_ n4_ n5_ n6_ n7_ n8_ n9_ n10_
      (try clear hb)
      (try clear hb2)
      (try clear hk)
      (try clear hi)
      (try clear ho0)
      (try clear ho1)
      obtain ⟨Ao31, co31, eo31⟩ := Kd.R_slice HO242.out
      (first | subst eo31 | (injection eo31 with f1_ f2_ f3_; have f4_ := f1_.symm; have f5_ := f3_.symm; clear f1_ f2_ f3_; subst f4_; subst f5_))
      obtain ⟨Ao32, co32, eo32⟩ := Kd.R_slice HO245.out
      (first | subst eo32 | (injection eo32 with f1_ f2_ f3_; have f4_ := f1_.symm; have f5_ := f3_.symm; clear f1_ f2_ f3_; subst f4_; subst f5_))
      obtain ⟨Ao33, co33, eo33⟩ := Kd.R_slice HO249.out
      (first | subst eo33 | (injection eo33 with f1_ f2_ f3_; have f4_ := f1_.symm; have f5_ := f3_.symm; clear f1_ f2_ f3_; subst f4_; subst f5_))
      obtain ⟨Ao34, co34, eo34⟩ := Kd.R_slice HO252.out
      (first | subst eo34 | (injection eo34 with f1_ f2_ f3_; have f4_ := f1_.symm; have f5_ := f3_.symm; clear f1_ f2_ f3_; subst f4_; subst f5_))
      refine hK.out _ _ ⟨(blk_cell BK223.out 0).trans rfl, (blk_cell BK223.out 1).trans rfl, (blk_cell BK223.out 2).trans rfl, (blk_cell BK224.out 0).trans rfl, (blk_cell BK224.out 1).trans rfl, (blk_cell BK224.out 2).trans rfl⟩ (fun hHeld => ?_)
      clear hK K
      refine norm_ (a' := ?_) ?_ ?_
      rotate_left
      · show Act.put _ (some 17) _ = _
        (simp only [Act.put, List.setIfInBounds_toArray, List.set_cons_zero, List.set_cons_succ, i64_w, i32_w])
        rfl
      refine one_ (i := 4) (N := some 18) #[true, true, true, true, true, false, false, false, false, false] rfl rfl (one_of HT_.out (by kernel_rfl)) (by decide) (fun K hK => ?_)
      refine goes_ Try.func19 (by kernel_rfl) rfl #[.agg #[.int .i64 t239, .slice Ao31 t240.length co31, .slice Ao32 t243.length co32], .agg #[.int .i64 t246, .slice Ao33 t247.length co33, .slice Ao34 t250.length co34]] (by rfl) rfl rfl (by (try simp only [List.map_toArray, List.map_cons, List.map_nil]); first | done | rfl | (simp only [List.length_drop, List.length_take]; done) | (simp only [List.length_drop, List.length_take]; rfl)) ?_
      with_reducible refine (stats_Worst.calls k t239 _ _ t240 _ _ t243 t246 _ _ t247 _ _ t250 t253 t254 _ ?side1 ?side2 ?side3 ?side4 ?side5 ?side6 ?side7 ?side8 A7.out).mono ?_
      (case side1 => repeat (first | exact (Kd.R_reads' HO242.out).2.2 | (with_reducible refine Kd.C_alloc ?_ _) | (with_reducible refine Kd.C_drewN ?_ _) | (with_reducible refine Kd.C_drew ?_)))
      (case side2 => exact (Kd.R_reads' HO242.out).2.1)
      (case side3 => repeat (first | exact (Kd.R_reads' HO245.out).2.2 | (with_reducible refine Kd.C_alloc ?_ _) | (with_reducible refine Kd.C_drewN ?_ _) | (with_reducible refine Kd.C_drew ?_)))
      (case side4 => exact (Kd.R_reads' HO245.out).2.1)
      (case side5 => repeat (first | exact (Kd.R_reads' HO249.out).2.2 | (with_reducible refine Kd.C_alloc ?_ _) | (with_reducible refine Kd.C_drewN ?_ _) | (with_reducible refine Kd.C_drew ?_)))
      (case side6 => exact (Kd.R_reads' HO249.out).2.1)
      (case side7 => repeat (first | exact (Kd.R_reads' HO252.out).2.2 | (with_reducible refine Kd.C_alloc ?_ _) | (with_reducible refine Kd.C_drewN ?_ _) | (with_reducible refine Kd.C_drew ?_)))
      (case side8 => exact (Kd.R_reads' HO252.out).2.1)
      rintro e w35 ⟨rfl, hb⟩
      refine ⟨_, rfl, ?_⟩
      have n0_ := Aside0.mk (Kd.R_below (rr_ HO228) hb)
      have n1_ := Aside0.mk (Kd.R_below (rr_ HO231) hb)
      have n2_ := Aside0.mk (Kd.R_below (rr_ HO235) hb)
      have n3_ := Aside0.mk (Kd.R_below (rr_ HO238) hb)
      have n4_ := Aside0.mk (Kd.R_below (rr_ HO242) hb)
      have n5_ := Aside0.mk (Kd.R_below (rr_ HO245) hb)
      have n6_ := Aside0.mk (Kd.R_below (rr_ HO249) hb)
      have n7_ := Aside0.mk (Kd.R_below (rr_ HO252) hb)
      have n8_ := Aside0.mk (blk_below (rb_ BK223) hb)
      have n9_ := Aside0.mk (blk_below (rb_ BK224) hb)
      have n10_ := Aside0.mk (below_step (by repeat (first | (with_reducible first | exact HB.out | apply below_alloc | apply pw_below_drewN | apply below_drew1 | refine below_set ?_ GE223.out | refine below_set ?_ GE224.out) | exact HB.out)) hb)
      clear HO228
      clear HO231
      clear HO235
      clear HO238
      clear HO242
      clear HO245
      clear HO249
      clear HO252
      clear BK223
      clear BK224
      clear HB
      have HO228 := n0_
      have HO231 := n1_
      have HO235 := n2_
      have HO238 := n3_
      have HO242 := n4_
      have HO245 := n5_
      have HO249 := n6_
      have HO252 := n7_
      have BK223 := n8_
      have BK224 := n9_
      have HB := n10_
      clear n0_ n1_ n2_ n3_ n4_ n5_ n6_ n7_ n8_ n9_ n10_
      (try clear hb)
      (try clear hb2)
      (try clear hk)
      (try clear hi)
      refine hK.out _ _ ⟨(blk_cell BK223.out 0).trans rfl, (blk_cell BK223.out 1).trans rfl, (blk_cell BK223.out 2).trans rfl, (blk_cell BK224.out 0).trans rfl, (blk_cell BK224.out 1).trans rfl, (blk_cell BK224.out 2).trans rfl⟩ (fun hHeld => ?_)
      clear hK K
      refine norm_ (a' := ?_) ?_ ?_
      rotate_left
      · show Act.put _ (some 18) _ = _
        (simp only [Act.put, List.setIfInBounds_toArray, List.set_cons_zero, List.set_cons_succ, i64_w, i32_w])
        rfl
      refine pure_ (i := 5) (N := some 13) (v := ?_) (a' := ?_) #[true, true, true, true, true, true, false, false, false, false] rfl rfl (any_of HT_.out (by kernel_rfl)) (fun _ _ _ h => h) (Or.inl ⟨by rfl, ?_⟩) ?_ ?_
      rotate_left
      · intro w'
        go_simp
        with_reducible rfl
      rotate_left
      · (simp only [Act.put, List.setIfInBounds_toArray, List.set_cons_zero, List.set_cons_succ, i64_w, i32_w])
        rfl
      refine pure_ (i := 6) (N := some 19) (v := ?_) (a' := ?_) #[true, true, true, true, true, true, true, false, false, false] rfl rfl (any_of HT_.out (by kernel_rfl)) (fun _ _ _ h => h) (Or.inl ⟨by rfl, ?_⟩) ?_ ?_
      rotate_left
      · intro w'
        go_simp
        with_reducible rfl
      rotate_left
      · (simp only [Act.put, List.setIfInBounds_toArray, List.set_cons_zero, List.set_cons_succ, i64_w, i32_w])
        rfl
      refine pure_ (i := 7) (N := some 20) (v := ?_) (a' := ?_) #[true, true, true, true, true, true, true, true, false, false] rfl rfl (any_of HT_.out (by kernel_rfl)) (fun _ _ _ h => h) (Or.inl ⟨by rfl, ?_⟩) ?_ ?_
      rotate_left
      · intro w'
        go_simp
        with_reducible rfl
      rotate_left
      · (simp only [Act.put, List.setIfInBounds_toArray, List.set_cons_zero, List.set_cons_succ, i64_w, i32_w])
        rfl
      refine pure_ (i := 8) (N := some 5) (v := ?_) (a' := ?_) #[true, true, true, true, true, true, true, true, true, false] rfl rfl (any_of HT_.out (by kernel_rfl)) (fun _ _ _ h => h) (Or.inl ⟨by rfl, ?_⟩) ?_ ?_
      rotate_left
      · intro w'
        go_simp
        with_reducible rfl
      rotate_left
      · (simp only [Act.put, List.setIfInBounds_toArray, List.set_cons_zero, List.set_cons_succ, i64_w, i32_w])
        rfl
      refine pure_ (i := 9) (N := some 6) (v := ?_) (a' := ?_) #[true, true, true, true, true, true, true, true, true, true] rfl rfl (any_of HT_.out (by kernel_rfl)) (fun _ _ _ h => h) (Or.inl ⟨by rfl, ?_⟩) ?_ ?_
      rotate_left
      · intro w'
        go_simp
        with_reducible rfl
      rotate_left
      · (simp only [Act.put, List.setIfInBounds_toArray, List.set_cons_zero, List.set_cons_succ, i64_w, i32_w])
        rfl
      refine done_ (done_of HT_.out (by kernel_rfl)) ?_
      have hnb36 := NB223_224.out
      have hnc36 := NB224_223.out
      have hcz37_0 : w35.cell? ⟨gb223, 0, none⟩ = some (.int .i64 t225) := (blk_cell BK223.out 0).trans rfl
      have hcz37_1 : w35.cell? ⟨gb223, 1, none⟩ = some (.slice Ao18 t226.length co18) := (blk_cell BK223.out 1).trans rfl
      have hcz37_2 : w35.cell? ⟨gb223, 2, none⟩ = some (.slice Ao20 t229.length co20) := (blk_cell BK223.out 2).trans rfl
      have hfz37_0 := blk_frozen BK223.out 0
      have hfz37_1 := blk_frozen BK223.out 1
      have hfz37_2 := blk_frozen BK223.out 2
      have hcz38_0 : w35.cell? ⟨gb224, 0, none⟩ = some (.int .i64 t232) := (blk_cell BK224.out 0).trans rfl
      have hcz38_1 : w35.cell? ⟨gb224, 1, none⟩ = some (.slice Ao23 t233.length co23) := (blk_cell BK224.out 1).trans rfl
      have hcz38_2 : w35.cell? ⟨gb224, 2, none⟩ = some (.slice Ao25 t236.length co25) := (blk_cell BK224.out 2).trans rfl
      have hfz38_0 := blk_frozen BK224.out 0
      have hfz38_1 := blk_frozen BK224.out 1
      have hfz38_2 := blk_frozen BK224.out 2
      try go_wp2_with (first | ((with_reducible refine gate_callee (f := 20) rfl ?_); refine goesL_ (some 24) rfl rfl Try.func20 (by kernel_rfl) rfl #[.agg #[.int .i64 t225, .slice Ao18 t226.length co18, .slice Ao20 t229.length co20], .agg #[.int .i64 t232, .slice Ao23 t233.length co23, .slice Ao25 t236.length co25]] rfl (by (try simp only [List.map_toArray, List.map_cons, List.map_nil]); first | done | rfl | (simp only [List.length_drop, List.length_take]; done) | (simp only [List.length_drop, List.length_take]; rfl)) ?_; (with_reducible refine (bautaref39_Worst.calls k t225 _ _ t226 _ _ t229 t232 _ _ t233 _ _ t236 t255 t256 _ ?side1 ?side2 ?side3 ?side4 ?side5 ?side6 ?side7 ?side8 A8.out).mono ?_); (case side1 => repeat (first | exact (Kd.R_reads' HO228.out).2.2 | (with_reducible refine Kd.C_alloc ?_ _) | (with_reducible refine Kd.C_drewN ?_ _) | (with_reducible refine Kd.C_drew ?_))); (case side2 => exact (Kd.R_reads' HO228.out).2.1); (case side3 => repeat (first | exact (Kd.R_reads' HO231.out).2.2 | (with_reducible refine Kd.C_alloc ?_ _) | (with_reducible refine Kd.C_drewN ?_ _) | (with_reducible refine Kd.C_drew ?_))); (case side4 => exact (Kd.R_reads' HO231.out).2.1); (case side5 => repeat (first | exact (Kd.R_reads' HO235.out).2.2 | (with_reducible refine Kd.C_alloc ?_ _) | (with_reducible refine Kd.C_drewN ?_ _) | (with_reducible refine Kd.C_drew ?_))); (case side6 => exact (Kd.R_reads' HO235.out).2.1); (case side7 => repeat (first | exact (Kd.R_reads' HO238.out).2.2 | (with_reducible refine Kd.C_alloc ?_ _) | (with_reducible refine Kd.C_drewN ?_ _) | (with_reducible refine Kd.C_drew ?_))); (case side8 => exact (Kd.R_reads' HO238.out).2.1); rintro e wz_ ⟨rfl, hb⟩; refine ⟨_, rfl, ?_⟩; have n0_ := Aside0.mk (Kd.R_below (rr_ HO228) hb); have n1_ := Aside0.mk (Kd.R_below (rr_ HO231) hb); have n2_ := Aside0.mk (Kd.R_below (rr_ HO235) hb); have n3_ := Aside0.mk (Kd.R_below (rr_ HO238) hb); have n4_ := Aside0.mk (Kd.R_below (rr_ HO242) hb); have n5_ := Aside0.mk (Kd.R_below (rr_ HO245) hb); have n6_ := Aside0.mk (Kd.R_below (rr_ HO249) hb); have n7_ := Aside0.mk (Kd.R_below (rr_ HO252) hb); have n8_ := Aside0.mk (blk_below (rb_ BK223) hb); have n9_ := Aside0.mk (blk_below (rb_ BK224) hb); have n10_ := Aside0.mk (below_step (by repeat (first | (with_reducible first | exact HB.out | apply below_alloc | apply pw_below_drewN | apply below_drew1 | refine below_set ?_ GE223.out | refine below_set ?_ GE224.out) | exact HB.out)) hb); clear HO228; clear HO231; clear HO235; clear HO238; clear HO242; clear HO245; clear HO249; clear HO252; clear BK223; clear BK224; clear HB; have HO228 := n0_; have HO231 := n1_; have HO235 := n2_; have HO238 := n3_; have HO242 := n4_; have HO245 := n5_; have HO249 := n6_; have HO252 := n7_; have BK223 := n8_; have BK224 := n9_; have HB := n10_; clear n0_ n1_ n2_ n3_ n4_ n5_ n6_ n7_ n8_ n9_ n10_; (try clear hb); (try clear hb2); (try clear hk); (try clear hi)) | (go_at_call 10; (with_reducible refine (bautalaw39_lives.calls k  t257 _ A11.out).mono ?_); rintro e wz_ ⟨rfl, hb⟩; have n0_ := Aside0.mk (Kd.R_below (rr_ HO228) hb); have n1_ := Aside0.mk (Kd.R_below (rr_ HO231) hb); have n2_ := Aside0.mk (Kd.R_below (rr_ HO235) hb); have n3_ := Aside0.mk (Kd.R_below (rr_ HO238) hb); have n4_ := Aside0.mk (Kd.R_below (rr_ HO242) hb); have n5_ := Aside0.mk (Kd.R_below (rr_ HO245) hb); have n6_ := Aside0.mk (Kd.R_below (rr_ HO249) hb); have n7_ := Aside0.mk (Kd.R_below (rr_ HO252) hb); have n8_ := Aside0.mk (blk_below (rb_ BK223) hb); have n9_ := Aside0.mk (blk_below (rb_ BK224) hb); have n10_ := Aside0.mk (below_step (by repeat (first | (with_reducible first | exact HB.out | apply below_alloc | apply pw_below_drewN | apply below_drew1 | refine below_set ?_ GE223.out | refine below_set ?_ GE224.out) | exact HB.out)) hb); clear HO228; clear HO231; clear HO235; clear HO238; clear HO242; clear HO245; clear HO249; clear HO252; clear BK223; clear BK224; clear HB; have HO228 := n0_; have HO231 := n1_; have HO235 := n2_; have HO238 := n3_; have HO242 := n4_; have HO245 := n5_; have HO249 := n6_; have HO252 := n7_; have BK223 := n8_; have BK224 := n9_; have HB := n10_; clear n0_ n1_ n2_ n3_ n4_ n5_ n6_ n7_ n8_ n9_ n10_; (try clear hb); (try clear hb2); (try clear hk); (try clear hi)))
      go_ret
      exact ⟨by first | rfl | (simp [errW_none, errW_some] <;> rfl) | (simp [*, errW_none, errW_some] <;> rfl), by repeat (first | (with_reducible first | exact HB.out | apply below_alloc | apply pw_below_drewN | apply below_drew1 | refine below_set ?_ GE223.out | refine below_set ?_ GE224.out) | exact HB.out)⟩
    · rw [if_neg c10] at H
      have c10b0 : (t254 == t256) = false := by simpa using c10
      (try (have c10b1 : decide (t254 = t256) = false := by simpa using c10))
      (try (have c10b2 : (t254 == t256) = false := by simpa using c10))
      (try (have c10b3 : ¬ (t254 = t256) := by simpa using c10))
      clear c10
      obtain rfl := Option.some.inj H
      go_enter Try.func6, Try.ntmps6
      try go_wp2_with (first | ((with_reducible refine gate_dst (N := 2) rfl ?_); refine box_event ?hg (N := 2) ?hd (cs := #[.int .i64 a0_0, .slice A0_1 l0_1.length c0_1, .slice A0_2 l0_2.length c0_2]) (t := 24) ?hr ?_; (case hd => rfl); (case hg => rfl); (case hr => first | (go_simp; done) | (go_simp; rfl)); intro gb223 hg wz_ hbox hb; have n0_ := Aside0.mk (below_step (rl_ HB) hb); have n1_ := Aside0.mk (hbox); have n2_ := Aside0.mk ((by rw [hg]; exact (below_size (rl_ HB)) : w.heap.size ≤ gb223)); have n3_ := Aside0.mk ((by rw [hg]; exact (below_size (rl_ HB)) : w.heap.size ≤ gb223)); clear HB; have HB := n0_; have BK223 := n1_; have GW223 := n2_; have GE223 := n3_; clear n0_ n1_ n2_ n3_; clear hb hbox hg) | ((with_reducible refine gate_dst (N := 3) rfl ?_); refine box_event ?hg (N := 3) ?hd (cs := #[.int .i64 a1_0, .slice A1_1 l1_1.length c1_1, .slice A1_2 l1_2.length c1_2]) (t := 24) ?hr ?_; (case hd => rfl); (case hg => rfl); (case hr => first | (go_simp; done) | (go_simp; rfl)); intro gb224 hg w42 hbox hb; have n0_ := Aside0.mk (blk_below (rb_ BK223) hb); have n1_ := Aside0.mk (below_step (by (repeat (first | (with_reducible first | exact HB.out | apply below_alloc | apply pw_below_drewN | apply below_drew1 | refine below_set ?_ GE223.out) | exact HB.out))) hb); have n2_ := Aside0.mk (hbox); have n3_ := Aside0.mk ((by rw [hg]; exact (below_size (by (repeat (first | (with_reducible first | exact HB.out | apply below_alloc | apply pw_below_drewN | apply below_drew1 | refine below_set ?_ GE223.out) | exact HB.out)))) : w.heap.size ≤ gb224)); have n4_ := Aside0.mk ((by rw [hg]; exact (below_size (by (repeat (first | (with_reducible first | exact HB.out | apply below_alloc | apply pw_below_drewN | apply below_drew1 | refine below_set ?_ GE223.out) | exact HB.out)))) : w.heap.size ≤ gb224)); have n5_ := Aside0.mk ((by rw [hg]; exact Nat.ne_of_lt (blk_lt (rb_ BK223)) : gb223 ≠ gb224)); have n6_ := Aside0.mk ((by rw [hg]; exact Nat.ne_of_gt (blk_lt (rb_ BK223)) : gb224 ≠ gb223)); clear BK223; clear HB; have BK223 := n0_; have HB := n1_; have BK224 := n2_; have GW224 := n3_; have GE224 := n4_; have NB223_224 := n5_; have NB224_223 := n6_; clear n0_ n1_ n2_ n3_ n4_ n5_ n6_; clear hb hbox hg))
      have n0_ := Aside0.mk (blk_drew BK223.out)
      have n1_ := Aside0.mk (blk_drew BK224.out)
      have n2_ := Aside0.mk (below_drew1 HB.out)
      clear BK223
      clear BK224
      clear HB
      have BK223 := n0_
      have BK224 := n1_
      have HB := n2_
      clear n0_ n1_ n2_
      refine start_ (n := 6) (S := fun w' => w'.cell? ⟨gb223, 0, none⟩ = some (.int .i64 a0_0) ∧ w'.cell? ⟨gb223, 1, none⟩ = some (.slice A0_1 l0_1.length c0_1) ∧ w'.cell? ⟨gb223, 2, none⟩ = some (.slice A0_2 l0_2.length c0_2) ∧ w'.cell? ⟨gb224, 0, none⟩ = some (.int .i64 a1_0) ∧ w'.cell? ⟨gb224, 1, none⟩ = some (.slice A1_1 l1_1.length c1_1) ∧ w'.cell? ⟨gb224, 2, none⟩ = some (.slice A1_2 l1_2.length c1_2)) (ds := [4, 5]) #[false, false, false, false, false, false] (by kernel_rfl) rfl rfl ⟨(blk_cell BK223.out 0).trans rfl, (blk_cell BK223.out 1).trans rfl, (blk_cell BK223.out 2).trans rfl, (blk_cell BK224.out 0).trans rfl, (blk_cell BK224.out 1).trans rfl, (blk_cell BK224.out 2).trans rfl⟩ (fun hHeld => ?_)
      generalize w42.drew = w43 at BK223 BK224 HB hHeld ⊢
      refine take_ (i := 0) (N := some 9) (v := ?_) (a' := ?_) #[true, false, false, false, false, false] rfl rfl (by kernel_rfl) (fun _ _ _ h => h) (Or.inl ⟨by rfl, ?_⟩) hHeld ?_ ?_
      rotate_left
      · rintro w' ⟨s0, s1, s2, s3, s4, s5⟩
        go_simp
        with_reducible rfl
      rotate_left
      · (simp only [Act.put, List.setIfInBounds_toArray, List.set_cons_zero, List.set_cons_succ, i64_w, i32_w])
        rfl
      refine take_ (i := 2) (N := some 11) (v := ?_) (a' := ?_) #[true, false, true, false, false, false] rfl rfl (by kernel_rfl) (fun _ _ _ h => h) (Or.inl ⟨by rfl, ?_⟩) hHeld ?_ ?_
      rotate_left
      · rintro w' ⟨s0, s1, s2, s3, s4, s5⟩
        go_simp
        with_reducible rfl
      rotate_left
      · (simp only [Act.put, List.setIfInBounds_toArray, List.set_cons_zero, List.set_cons_succ, i64_w, i32_w])
        rfl
      refine one_ (i := 1) (N := some 10) #[true, true, true, false, false, false] rfl rfl (by kernel_rfl) (by decide) (fun K hK => ?_)
      refine goes_ Try.func7 (by kernel_rfl) rfl #[.agg #[.int .i64 a0_0, .slice A0_1 l0_1.length c0_1, .slice A0_2 l0_2.length c0_2]] (by rfl) rfl rfl (by (try simp only [List.map_toArray, List.map_cons, List.map_nil]); first | done | rfl | (simp only [List.length_drop, List.length_take]; done) | (simp only [List.length_drop, List.length_take]; rfl)) ?_
      with_reducible refine (bautalaw39_small.calls a0_0 _ _ l0_1 _ _ l0_2 t225 t226 t229 _ ?side1 ?side2 ?side3 ?side4 A3.out).mono ?_
      (case side1 => repeat (first | exact (Kd.C_below HR0_1.out HB.out) | (with_reducible refine Kd.C_alloc ?_ _) | (with_reducible refine Kd.C_drewN ?_ _) | (with_reducible refine Kd.C_drew ?_)))
      (case side2 => exact HC0_1.out)
      (case side3 => repeat (first | exact (Kd.C_below HR0_2.out HB.out) | (with_reducible refine Kd.C_alloc ?_ _) | (with_reducible refine Kd.C_drewN ?_ _) | (with_reducible refine Kd.C_drew ?_)))
      (case side4 => exact HC0_2.out)
      rintro e w44 ⟨v227, v230, rfl, ho0, ho1, hb⟩
      refine ⟨_, rfl, ?_⟩
      have n0_ := Aside0.mk (Kd.R_lower ho0 (below_size (by repeat (first | (with_reducible first | exact HB.out | apply below_alloc | apply pw_below_drewN | apply below_drew1 | refine below_set ?_ GE223.out | refine below_set ?_ GE224.out) | exact HB.out))))
      have n1_ := Aside0.mk (Kd.R_lower ho1 (below_size (by repeat (first | (with_reducible first | exact HB.out | apply below_alloc | apply pw_below_drewN | apply below_drew1 | refine below_set ?_ GE223.out | refine below_set ?_ GE224.out) | exact HB.out))))
      have n2_ := Aside0.mk (blk_below (rb_ BK223) hb)
      have n3_ := Aside0.mk (blk_below (rb_ BK224) hb)
      have n4_ := Aside0.mk (below_step (by repeat (first | (with_reducible first | exact HB.out | apply below_alloc | apply pw_below_drewN | apply below_drew1 | refine below_set ?_ GE223.out | refine below_set ?_ GE224.out) | exact HB.out)) hb)
      clear BK223
      clear BK224
      clear HB
      have HO228 := n0_
      have HO231 := n1_
      have BK223 := n2_
      have BK224 := n3_
      have HB := n4_
      clear n0_ n1_ n2_ n3_ n4_
      (try clear hb)
      (try clear hb2)
      (try clear hk)
      (try clear hi)
      (try clear ho0)
      (try clear ho1)
      refine hK.out _ _ ⟨(blk_cell BK223.out 0).trans rfl, (blk_cell BK223.out 1).trans rfl, (blk_cell BK223.out 2).trans rfl, (blk_cell BK224.out 0).trans rfl, (blk_cell BK224.out 1).trans rfl, (blk_cell BK224.out 2).trans rfl⟩ (fun hHeld => ?_)
      clear hK K
      refine norm_ (a' := ?_) ?_ ?_
      rotate_left
      · show Act.put _ (some 10) _ = _
        (simp only [Act.put, List.setIfInBounds_toArray, List.set_cons_zero, List.set_cons_succ, i64_w, i32_w])
        rfl
      refine one_ (i := 3) (N := some 12) #[true, true, true, true, false, false] rfl rfl (by kernel_rfl) (by decide) (fun K hK => ?_)
      refine goes_ Try.func7 (by kernel_rfl) rfl #[.agg #[.int .i64 a1_0, .slice A1_1 l1_1.length c1_1, .slice A1_2 l1_2.length c1_2]] (by rfl) rfl rfl (by (try simp only [List.map_toArray, List.map_cons, List.map_nil]); first | done | rfl | (simp only [List.length_drop, List.length_take]; done) | (simp only [List.length_drop, List.length_take]; rfl)) ?_
      with_reducible refine (bautalaw39_small.calls a1_0 _ _ l1_1 _ _ l1_2 t232 t233 t236 _ ?side1 ?side2 ?side3 ?side4 A4.out).mono ?_
      (case side1 => repeat (first | exact (Kd.C_below HR1_1.out HB.out) | (with_reducible refine Kd.C_alloc ?_ _) | (with_reducible refine Kd.C_drewN ?_ _) | (with_reducible refine Kd.C_drew ?_)))
      (case side2 => exact HC1_1.out)
      (case side3 => repeat (first | exact (Kd.C_below HR1_2.out HB.out) | (with_reducible refine Kd.C_alloc ?_ _) | (with_reducible refine Kd.C_drewN ?_ _) | (with_reducible refine Kd.C_drew ?_)))
      (case side4 => exact HC1_2.out)
      rintro e w45 ⟨v234, v237, rfl, ho0, ho1, hb⟩
      refine ⟨_, rfl, ?_⟩
      have n0_ := Aside0.mk (Kd.R_mono (Kd.R_told (Kd.R_told (Kd.R_old (rr_ HO228) hb) (Kd.R_base ho0)) (Kd.R_base ho1)) (fun _ h_ => h_.1))
      have n1_ := Aside0.mk (Kd.R_mono (Kd.R_told (Kd.R_told (Kd.R_old (rr_ HO231) hb) (Kd.R_base ho0)) (Kd.R_base ho1)) (fun _ h_ => h_.1))
      have n2_ := Aside0.mk (Kd.R_lower (Kd.R_new' (Kd.R_new' ho0 (Kd.R_lt (rr_ HO228))) (Kd.R_lt (rr_ HO231))) (below_size (by repeat (first | (with_reducible first | exact HB.out | apply below_alloc | apply pw_below_drewN | apply below_drew1 | refine below_set ?_ GE223.out | refine below_set ?_ GE224.out) | exact HB.out))))
      have n3_ := Aside0.mk (Kd.R_lower (Kd.R_new' (Kd.R_new' ho1 (Kd.R_lt (rr_ HO228))) (Kd.R_lt (rr_ HO231))) (below_size (by repeat (first | (with_reducible first | exact HB.out | apply below_alloc | apply pw_below_drewN | apply below_drew1 | refine below_set ?_ GE223.out | refine below_set ?_ GE224.out) | exact HB.out))))
      have n4_ := Aside0.mk (blk_below (rb_ BK223) hb)
      have n5_ := Aside0.mk (blk_below (rb_ BK224) hb)
      have n6_ := Aside0.mk (below_step (by repeat (first | (with_reducible first | exact HB.out | apply below_alloc | apply pw_below_drewN | apply below_drew1 | refine below_set ?_ GE223.out | refine below_set ?_ GE224.out) | exact HB.out)) hb)
      clear HO228
      clear HO231
      clear BK223
      clear BK224
      clear HB
      have HO228 := n0_
      have HO231 := n1_
      have HO235 := n2_
      have HO238 := n3_
      have BK223 := n4_
      have BK224 := n5_
      have HB := n6_
      clear n0_ n1_ n2_ n3_ n4_ n5_ n6_
      (try clear hb)
      (try clear hb2)
      (try clear hk)
      (try clear hi)
      (try clear ho0)
      (try clear ho1)
      obtain ⟨Ao47, co47, eo47⟩ := Kd.R_slice HO228.out
      (first | subst eo47 | (injection eo47 with f1_ f2_ f3_; have f4_ := f1_.symm; have f5_ := f3_.symm; clear f1_ f2_ f3_; subst f4_; subst f5_))
      obtain ⟨Ao49, co49, eo49⟩ := Kd.R_slice HO231.out
      (first | subst eo49 | (injection eo49 with f1_ f2_ f3_; have f4_ := f1_.symm; have f5_ := f3_.symm; clear f1_ f2_ f3_; subst f4_; subst f5_))
      obtain ⟨Ao52, co52, eo52⟩ := Kd.R_slice HO235.out
      (first | subst eo52 | (injection eo52 with f1_ f2_ f3_; have f4_ := f1_.symm; have f5_ := f3_.symm; clear f1_ f2_ f3_; subst f4_; subst f5_))
      obtain ⟨Ao54, co54, eo54⟩ := Kd.R_slice HO238.out
      (first | subst eo54 | (injection eo54 with f1_ f2_ f3_; have f4_ := f1_.symm; have f5_ := f3_.symm; clear f1_ f2_ f3_; subst f4_; subst f5_))
      refine hK.out _ _ ⟨(blk_cell BK223.out 0).trans rfl, (blk_cell BK223.out 1).trans rfl, (blk_cell BK223.out 2).trans rfl, (blk_cell BK224.out 0).trans rfl, (blk_cell BK224.out 1).trans rfl, (blk_cell BK224.out 2).trans rfl⟩ (fun hHeld => ?_)
      clear hK K
      refine norm_ (a' := ?_) ?_ ?_
      rotate_left
      · show Act.put _ (some 12) _ = _
        (simp only [Act.put, List.setIfInBounds_toArray, List.set_cons_zero, List.set_cons_succ, i64_w, i32_w])
        rfl
      refine last_ (i := 4) (N := none) #[true, true, true, true, true, false] rfl rfl (by kernel_rfl) (by decide) (fun K hK => ?_)
      have hs46 : w45.cell? ⟨gb223, 0, none⟩ = some (.int .i64 a0_0) := (blk_cell BK223.out 0).trans rfl
      have hfs46 := blk_frozen BK223.out 0
      have hns46_1 := NB224_223.out
      have hms46_1 := NB223_224.out
      have hs48 : w45.cell? ⟨gb223, 1, none⟩ = some (.slice A0_1 l0_1.length c0_1) := (blk_cell BK223.out 1).trans rfl
      have hfs48 := blk_frozen BK223.out 1
      have hns48_1 := NB224_223.out
      have hms48_1 := NB223_224.out
      have hs50 : w45.cell? ⟨gb223, 2, none⟩ = some (.slice A0_2 l0_2.length c0_2) := (blk_cell BK223.out 2).trans rfl
      have hfs50 := blk_frozen BK223.out 2
      have hns50_1 := NB224_223.out
      have hms50_1 := NB223_224.out
      refine skip_ (w1 := ?_) (by rfl) rfl ?_ ?_
      rotate_left
      · go_simp
        rfl
      refine hK.out _ _ ?_
      clear hK K
      refine last_ (i := 5) (N := none) #[true, true, true, true, true, true] rfl rfl (by kernel_rfl) (by decide) (fun K hK => ?_)
      have hs51 : w45.cell? ⟨gb224, 0, none⟩ = some (.int .i64 a1_0) := (blk_cell BK224.out 0).trans rfl
      have hfs51 := blk_frozen BK224.out 0
      have hns51_0 := NB223_224.out
      have hms51_0 := NB224_223.out
      have hs53 : w45.cell? ⟨gb224, 1, none⟩ = some (.slice A1_1 l1_1.length c1_1) := (blk_cell BK224.out 1).trans rfl
      have hfs53 := blk_frozen BK224.out 1
      have hns53_0 := NB223_224.out
      have hms53_0 := NB224_223.out
      have hs55 : w45.cell? ⟨gb224, 2, none⟩ = some (.slice A1_2 l1_2.length c1_2) := (blk_cell BK224.out 2).trans rfl
      have hfs55 := blk_frozen BK224.out 2
      have hns55_0 := NB223_224.out
      have hms55_0 := NB224_223.out
      refine skip_ (w1 := ?_) (by rfl) rfl ?_ ?_
      rotate_left
      · go_simp
        rfl
      refine hK.out _ _ ?_
      clear hK K
      refine done_ (by kernel_rfl) ?_
      try go_wp2
      have n0_ : Aside0 (Kd.R (Kd.int .i64) 3 ((((((w45.setCell ⟨gb223, 0, none⟩ (.int .i64 t225)).setCell ⟨gb223, 1, none⟩ (.slice Ao47 t226.length co47)).setCell ⟨gb223, 2, none⟩ (.slice Ao49 t229.length co49)).setCell ⟨gb224, 0, none⟩ (.int .i64 t232)).setCell ⟨gb224, 1, none⟩ (.slice Ao52 t233.length co52)).setCell ⟨gb224, 2, none⟩ (.slice Ao54 t236.length co54)) w.heap.size (fun k_ => some k_ ≠ (.slice Ao49 t229.length co49 : Value).ownBlock ∧ some k_ ≠ (.slice Ao52 t233.length co52 : Value).ownBlock ∧ some k_ ≠ (.slice Ao54 t236.length co54 : Value).ownBlock) (.slice Ao47 t226.length co47) t226) := ⟨by (with_reducible repeat (first | apply Kd.R_alloc | apply Kd.R_drewN | apply Kd.R_drew)); exact Kd.R_mono (Kd.R_far (p := ⟨gb224, 2, none⟩) (Kd.R_far (p := ⟨gb224, 1, none⟩) (Kd.R_far (p := ⟨gb224, 0, none⟩) (Kd.R_far (p := ⟨gb223, 2, none⟩) (Kd.R_far (p := ⟨gb223, 1, none⟩) (Kd.R_far (p := ⟨gb223, 0, none⟩) (Kd.R_types (Kd.R_types HO228.out BK223.out (by decide)) BK224.out (by decide)) (fun _ hk => hk.1.2) (.int .i64 t225)) (fun _ hk => hk.1.2) (.slice Ao47 t226.length co47)) (fun _ hk => hk.1.2) (.slice Ao49 t229.length co49)) (fun _ hk => hk.2) (.int .i64 t232)) (fun _ hk => hk.2) (.slice Ao52 t233.length co52)) (fun _ hk => hk.2) (.slice Ao54 t236.length co54)) (fun _ hk => ⟨hk.1.1.1.1, ⟨hk.1.1.1.2, hk.1.1.2⟩⟩)⟩
      have n1_ : Aside0 (Kd.R (Kd.int .i64) 3 ((((((w45.setCell ⟨gb223, 0, none⟩ (.int .i64 t225)).setCell ⟨gb223, 1, none⟩ (.slice Ao47 t226.length co47)).setCell ⟨gb223, 2, none⟩ (.slice Ao49 t229.length co49)).setCell ⟨gb224, 0, none⟩ (.int .i64 t232)).setCell ⟨gb224, 1, none⟩ (.slice Ao52 t233.length co52)).setCell ⟨gb224, 2, none⟩ (.slice Ao54 t236.length co54)) w.heap.size (fun k_ => some k_ ≠ (.slice Ao47 t226.length co47 : Value).ownBlock ∧ some k_ ≠ (.slice Ao52 t233.length co52 : Value).ownBlock ∧ some k_ ≠ (.slice Ao54 t236.length co54 : Value).ownBlock) (.slice Ao49 t229.length co49) t229) := ⟨by (with_reducible repeat (first | apply Kd.R_alloc | apply Kd.R_drewN | apply Kd.R_drew)); exact Kd.R_mono (Kd.R_far (p := ⟨gb224, 2, none⟩) (Kd.R_far (p := ⟨gb224, 1, none⟩) (Kd.R_far (p := ⟨gb224, 0, none⟩) (Kd.R_far (p := ⟨gb223, 2, none⟩) (Kd.R_far (p := ⟨gb223, 1, none⟩) (Kd.R_far (p := ⟨gb223, 0, none⟩) (Kd.R_types (Kd.R_types HO231.out BK223.out (by decide)) BK224.out (by decide)) (fun _ hk => hk.1.2) (.int .i64 t225)) (fun _ hk => hk.1.2) (.slice Ao47 t226.length co47)) (fun _ hk => hk.1.2) (.slice Ao49 t229.length co49)) (fun _ hk => hk.2) (.int .i64 t232)) (fun _ hk => hk.2) (.slice Ao52 t233.length co52)) (fun _ hk => hk.2) (.slice Ao54 t236.length co54)) (fun _ hk => ⟨hk.1.1.1.1, ⟨hk.1.1.1.2, hk.1.1.2⟩⟩)⟩
      have n2_ : Aside0 (Kd.R (Kd.int .i64) 3 ((((((w45.setCell ⟨gb223, 0, none⟩ (.int .i64 t225)).setCell ⟨gb223, 1, none⟩ (.slice Ao47 t226.length co47)).setCell ⟨gb223, 2, none⟩ (.slice Ao49 t229.length co49)).setCell ⟨gb224, 0, none⟩ (.int .i64 t232)).setCell ⟨gb224, 1, none⟩ (.slice Ao52 t233.length co52)).setCell ⟨gb224, 2, none⟩ (.slice Ao54 t236.length co54)) w.heap.size (fun k_ => some k_ ≠ (.slice Ao47 t226.length co47 : Value).ownBlock ∧ some k_ ≠ (.slice Ao49 t229.length co49 : Value).ownBlock ∧ some k_ ≠ (.slice Ao54 t236.length co54 : Value).ownBlock) (.slice Ao52 t233.length co52) t233) := ⟨by (with_reducible repeat (first | apply Kd.R_alloc | apply Kd.R_drewN | apply Kd.R_drew)); exact Kd.R_mono (Kd.R_far (p := ⟨gb224, 2, none⟩) (Kd.R_far (p := ⟨gb224, 1, none⟩) (Kd.R_far (p := ⟨gb224, 0, none⟩) (Kd.R_far (p := ⟨gb223, 2, none⟩) (Kd.R_far (p := ⟨gb223, 1, none⟩) (Kd.R_far (p := ⟨gb223, 0, none⟩) (Kd.R_types (Kd.R_types HO235.out BK223.out (by decide)) BK224.out (by decide)) (fun _ hk => hk.1.2) (.int .i64 t225)) (fun _ hk => hk.1.2) (.slice Ao47 t226.length co47)) (fun _ hk => hk.1.2) (.slice Ao49 t229.length co49)) (fun _ hk => hk.2) (.int .i64 t232)) (fun _ hk => hk.2) (.slice Ao52 t233.length co52)) (fun _ hk => hk.2) (.slice Ao54 t236.length co54)) (fun _ hk => ⟨hk.1.1.1.2, ⟨hk.1.1.2, hk.1.1.1.1⟩⟩)⟩
      have n3_ : Aside0 (Kd.R (Kd.int .i64) 3 ((((((w45.setCell ⟨gb223, 0, none⟩ (.int .i64 t225)).setCell ⟨gb223, 1, none⟩ (.slice Ao47 t226.length co47)).setCell ⟨gb223, 2, none⟩ (.slice Ao49 t229.length co49)).setCell ⟨gb224, 0, none⟩ (.int .i64 t232)).setCell ⟨gb224, 1, none⟩ (.slice Ao52 t233.length co52)).setCell ⟨gb224, 2, none⟩ (.slice Ao54 t236.length co54)) w.heap.size (fun k_ => some k_ ≠ (.slice Ao47 t226.length co47 : Value).ownBlock ∧ some k_ ≠ (.slice Ao49 t229.length co49 : Value).ownBlock ∧ some k_ ≠ (.slice Ao52 t233.length co52 : Value).ownBlock) (.slice Ao54 t236.length co54) t236) := ⟨by (with_reducible repeat (first | apply Kd.R_alloc | apply Kd.R_drewN | apply Kd.R_drew)); exact Kd.R_mono (Kd.R_far (p := ⟨gb224, 2, none⟩) (Kd.R_far (p := ⟨gb224, 1, none⟩) (Kd.R_far (p := ⟨gb224, 0, none⟩) (Kd.R_far (p := ⟨gb223, 2, none⟩) (Kd.R_far (p := ⟨gb223, 1, none⟩) (Kd.R_far (p := ⟨gb223, 0, none⟩) (Kd.R_types (Kd.R_types HO238.out BK223.out (by decide)) BK224.out (by decide)) (fun _ hk => hk.1.2) (.int .i64 t225)) (fun _ hk => hk.1.2) (.slice Ao47 t226.length co47)) (fun _ hk => hk.1.2) (.slice Ao49 t229.length co49)) (fun _ hk => hk.2) (.int .i64 t232)) (fun _ hk => hk.2) (.slice Ao52 t233.length co52)) (fun _ hk => hk.2) (.slice Ao54 t236.length co54)) (fun _ hk => ⟨hk.1.1.1.2, ⟨hk.1.1.2, hk.1.1.1.1⟩⟩)⟩
      have n4_ : Aside0 (((((((w45.setCell ⟨gb223, 0, none⟩ (.int .i64 t225)).setCell ⟨gb223, 1, none⟩ (.slice Ao47 t226.length co47)).setCell ⟨gb223, 2, none⟩ (.slice Ao49 t229.length co49)).setCell ⟨gb224, 0, none⟩ (.int .i64 t232)).setCell ⟨gb224, 1, none⟩ (.slice Ao52 t233.length co52)).setCell ⟨gb224, 2, none⟩ (.slice Ao54 t236.length co54)).heap[gb223]? = some (.cells #[.int .i64 t225, .slice Ao47 t226.length co47, .slice Ao49 t229.length co49] 24 (0, 0))) := ⟨by (with_reducible repeat (first | refine blk_drewN ?_ _ | refine blk_drew ?_ | refine blk_alloc ?_ _)); refine blk_far ?_ NB223_224.out _; (with_reducible repeat (first | refine blk_drewN ?_ _ | refine blk_drew ?_ | refine blk_alloc ?_ _)); refine blk_far ?_ NB223_224.out _; (with_reducible repeat (first | refine blk_drewN ?_ _ | refine blk_drew ?_ | refine blk_alloc ?_ _)); refine blk_far ?_ NB223_224.out _; (with_reducible repeat (first | refine blk_drewN ?_ _ | refine blk_drew ?_ | refine blk_alloc ?_ _)); refine blk_put (cs := #[.int .i64 t225, .slice Ao47 t226.length co47, .slice A0_2 l0_2.length c0_2]) ?_ 2 _ rfl; (with_reducible repeat (first | refine blk_drewN ?_ _ | refine blk_drew ?_ | refine blk_alloc ?_ _)); refine blk_put (cs := #[.int .i64 t225, .slice A0_1 l0_1.length c0_1, .slice A0_2 l0_2.length c0_2]) ?_ 1 _ rfl; (with_reducible repeat (first | refine blk_drewN ?_ _ | refine blk_drew ?_ | refine blk_alloc ?_ _)); refine blk_put (cs := #[.int .i64 a0_0, .slice A0_1 l0_1.length c0_1, .slice A0_2 l0_2.length c0_2]) ?_ 0 _ rfl; (with_reducible repeat (first | refine blk_drewN ?_ _ | refine blk_drew ?_ | refine blk_alloc ?_ _)); exact BK223.out⟩
      have n5_ : Aside0 (((((((w45.setCell ⟨gb223, 0, none⟩ (.int .i64 t225)).setCell ⟨gb223, 1, none⟩ (.slice Ao47 t226.length co47)).setCell ⟨gb223, 2, none⟩ (.slice Ao49 t229.length co49)).setCell ⟨gb224, 0, none⟩ (.int .i64 t232)).setCell ⟨gb224, 1, none⟩ (.slice Ao52 t233.length co52)).setCell ⟨gb224, 2, none⟩ (.slice Ao54 t236.length co54)).heap[gb224]? = some (.cells #[.int .i64 t232, .slice Ao52 t233.length co52, .slice Ao54 t236.length co54] 24 (0, 0))) := ⟨by (with_reducible repeat (first | refine blk_drewN ?_ _ | refine blk_drew ?_ | refine blk_alloc ?_ _)); refine blk_put (cs := #[.int .i64 t232, .slice Ao52 t233.length co52, .slice A1_2 l1_2.length c1_2]) ?_ 2 _ rfl; (with_reducible repeat (first | refine blk_drewN ?_ _ | refine blk_drew ?_ | refine blk_alloc ?_ _)); refine blk_put (cs := #[.int .i64 t232, .slice A1_1 l1_1.length c1_1, .slice A1_2 l1_2.length c1_2]) ?_ 1 _ rfl; (with_reducible repeat (first | refine blk_drewN ?_ _ | refine blk_drew ?_ | refine blk_alloc ?_ _)); refine blk_put (cs := #[.int .i64 a1_0, .slice A1_1 l1_1.length c1_1, .slice A1_2 l1_2.length c1_2]) ?_ 0 _ rfl; (with_reducible repeat (first | refine blk_drewN ?_ _ | refine blk_drew ?_ | refine blk_alloc ?_ _)); refine blk_far ?_ NB224_223.out _; (with_reducible repeat (first | refine blk_drewN ?_ _ | refine blk_drew ?_ | refine blk_alloc ?_ _)); refine blk_far ?_ NB224_223.out _; (with_reducible repeat (first | refine blk_drewN ?_ _ | refine blk_drew ?_ | refine blk_alloc ?_ _)); refine blk_far ?_ NB224_223.out _; (with_reducible repeat (first | refine blk_drewN ?_ _ | refine blk_drew ?_ | refine blk_alloc ?_ _)); exact BK224.out⟩
      have n6_ : Aside0 (Below w.heap.size w ((((((w45.setCell ⟨gb223, 0, none⟩ (.int .i64 t225)).setCell ⟨gb223, 1, none⟩ (.slice Ao47 t226.length co47)).setCell ⟨gb223, 2, none⟩ (.slice Ao49 t229.length co49)).setCell ⟨gb224, 0, none⟩ (.int .i64 t232)).setCell ⟨gb224, 1, none⟩ (.slice Ao52 t233.length co52)).setCell ⟨gb224, 2, none⟩ (.slice Ao54 t236.length co54))) := ⟨by repeat (first | (with_reducible first | exact HB.out | apply below_alloc | apply pw_below_drewN | apply below_drew1 | refine below_set ?_ GE223.out | refine below_set ?_ GE224.out) | exact HB.out)⟩
      (try clear HO228)
      (try clear HO231)
      (try clear HO235)
      (try clear HO238)
      (try clear BK223)
      (try clear BK224)
      (try clear HB)
      generalize ((((((w45.setCell ⟨gb223, 0, none⟩ (.int .i64 t225)).setCell ⟨gb223, 1, none⟩ (.slice Ao47 t226.length co47)).setCell ⟨gb223, 2, none⟩ (.slice Ao49 t229.length co49)).setCell ⟨gb224, 0, none⟩ (.int .i64 t232)).setCell ⟨gb224, 1, none⟩ (.slice Ao52 t233.length co52)).setCell ⟨gb224, 2, none⟩ (.slice Ao54 t236.length co54)) = w56 at n0_ n1_ n2_ n3_ n4_ n5_ n6_ ⊢
      have HO228 := n0_
      have HO231 := n1_
      have HO235 := n2_
      have HO238 := n3_
      have BK223 := n4_
      have BK224 := n5_
      have HB := n6_
      clear n0_ n1_ n2_ n3_ n4_ n5_ n6_
      have n0_ := Aside0.mk (Kd.R_drew HO228.out)
      have n1_ := Aside0.mk (Kd.R_drew HO231.out)
      have n2_ := Aside0.mk (Kd.R_drew HO235.out)
      have n3_ := Aside0.mk (Kd.R_drew HO238.out)
      have n4_ := Aside0.mk (blk_drew BK223.out)
      have n5_ := Aside0.mk (blk_drew BK224.out)
      have n6_ := Aside0.mk (below_drew1 HB.out)
      clear HO228
      clear HO231
      clear HO235
      clear HO238
      clear BK223
      clear BK224
      clear HB
      have HO228 := n0_
      have HO231 := n1_
      have HO235 := n2_
      have HO238 := n3_
      have BK223 := n4_
      have BK224 := n5_
      have HB := n6_
      clear n0_ n1_ n2_ n3_ n4_ n5_ n6_
      refine start_ (n := 10) (S := fun w' => w'.cell? ⟨gb223, 0, none⟩ = some (.int .i64 t225) ∧ w'.cell? ⟨gb223, 1, none⟩ = some (.slice Ao47 t226.length co47) ∧ w'.cell? ⟨gb223, 2, none⟩ = some (.slice Ao49 t229.length co49) ∧ w'.cell? ⟨gb224, 0, none⟩ = some (.int .i64 t232) ∧ w'.cell? ⟨gb224, 1, none⟩ = some (.slice Ao52 t233.length co52) ∧ w'.cell? ⟨gb224, 2, none⟩ = some (.slice Ao54 t236.length co54)) (ds := []) #[false, false, false, false, false, false, false, false, false, false] (by kernel_rfl) rfl rfl ⟨(blk_cell BK223.out 0).trans rfl, (blk_cell BK223.out 1).trans rfl, (blk_cell BK223.out 2).trans rfl, (blk_cell BK224.out 0).trans rfl, (blk_cell BK224.out 1).trans rfl, (blk_cell BK224.out 2).trans rfl⟩ (fun hHeld => ?_); refine with_tabW bautalaw39_StatsWorst.tab2 bautalaw39_StatsWorst.bits2 (fun HT_ HW_ => ?_)
      generalize w56.drew = w57 at HO228 HO231 HO235 HO238 BK223 BK224 HB hHeld ⊢
      refine take_ (i := 0) (N := some 14) (v := ?_) (a' := ?_) #[true, false, false, false, false, false, false, false, false, false] rfl rfl (take_ofW HT_.out HW_.out (by kernel_rfl)) (fun _ _ _ h => h) (Or.inl ⟨by rfl, ?_⟩) hHeld ?_ ?_
      rotate_left
      · rintro w' ⟨s0, s1, s2, s3, s4, s5⟩
        go_simp
        with_reducible rfl
      rotate_left
      · (simp only [Act.put, List.setIfInBounds_toArray, List.set_cons_zero, List.set_cons_succ, i64_w, i32_w])
        rfl
      refine take_ (i := 2) (N := some 16) (v := ?_) (a' := ?_) #[true, false, true, false, false, false, false, false, false, false] rfl rfl (take_ofW HT_.out HW_.out (by kernel_rfl)) (fun _ _ _ h => h) (Or.inl ⟨by rfl, ?_⟩) hHeld ?_ ?_
      rotate_left
      · rintro w' ⟨s0, s1, s2, s3, s4, s5⟩
        go_simp
        with_reducible rfl
      rotate_left
      · (simp only [Act.put, List.setIfInBounds_toArray, List.set_cons_zero, List.set_cons_succ, i64_w, i32_w])
        rfl
      refine one_ (i := 1) (N := some 15) #[true, true, true, false, false, false, false, false, false, false] rfl rfl (one_of HT_.out (by kernel_rfl)) (by decide) (fun K hK => ?_)
      refine goes_ Try.func9 (by kernel_rfl) rfl #[.agg #[.int .i64 t225, .slice Ao47 t226.length co47, .slice Ao49 t229.length co49]] (by rfl) rfl rfl (by (try simp only [List.map_toArray, List.map_cons, List.map_nil]); first | done | rfl | (simp only [List.length_drop, List.length_take]; done) | (simp only [List.length_drop, List.length_take]; rfl)) ?_
      with_reducible refine (bautalaw39_own.calls t225 _ _ t226 _ _ t229 t239 t240 t243 _ ?side1 ?side2 ?side3 ?side4 A5.out).mono ?_
      (case side1 => repeat (first | exact (Kd.R_reads' HO228.out).2.2 | (with_reducible refine Kd.C_alloc ?_ _) | (with_reducible refine Kd.C_drewN ?_ _) | (with_reducible refine Kd.C_drew ?_)))
      (case side2 => exact (Kd.R_reads' HO228.out).2.1)
      (case side3 => repeat (first | exact (Kd.R_reads' HO231.out).2.2 | (with_reducible refine Kd.C_alloc ?_ _) | (with_reducible refine Kd.C_drewN ?_ _) | (with_reducible refine Kd.C_drew ?_)))
      (case side4 => exact (Kd.R_reads' HO231.out).2.1)
      rintro e w58 ⟨v241, v244, rfl, ho0, ho1, hb⟩
      refine ⟨_, rfl, ?_⟩
      have n0_ := Aside0.mk (Kd.R_mono (Kd.R_told (Kd.R_told (Kd.R_old (rr_ HO228) hb) (Kd.R_base ho0)) (Kd.R_base ho1)) (fun _ h_ => h_.1))
      have n1_ := Aside0.mk (Kd.R_mono (Kd.R_told (Kd.R_told (Kd.R_old (rr_ HO231) hb) (Kd.R_base ho0)) (Kd.R_base ho1)) (fun _ h_ => h_.1))
      have n2_ := Aside0.mk (Kd.R_mono (Kd.R_told (Kd.R_told (Kd.R_old (rr_ HO235) hb) (Kd.R_base ho0)) (Kd.R_base ho1)) (fun _ h_ => h_.1))
      have n3_ := Aside0.mk (Kd.R_mono (Kd.R_told (Kd.R_told (Kd.R_old (rr_ HO238) hb) (Kd.R_base ho0)) (Kd.R_base ho1)) (fun _ h_ => h_.1))
      have n4_ := Aside0.mk (Kd.R_lower (Kd.R_new' (Kd.R_new' (Kd.R_new' (Kd.R_new' ho0 (Kd.R_lt (rr_ HO228))) (Kd.R_lt (rr_ HO231))) (Kd.R_lt (rr_ HO235))) (Kd.R_lt (rr_ HO238))) (below_size (by repeat (first | (with_reducible first | exact HB.out | apply below_alloc | apply pw_below_drewN | apply below_drew1 | refine below_set ?_ GE223.out | refine below_set ?_ GE224.out) | exact HB.out))))
      have n5_ := Aside0.mk (Kd.R_lower (Kd.R_new' (Kd.R_new' (Kd.R_new' (Kd.R_new' ho1 (Kd.R_lt (rr_ HO228))) (Kd.R_lt (rr_ HO231))) (Kd.R_lt (rr_ HO235))) (Kd.R_lt (rr_ HO238))) (below_size (by repeat (first | (with_reducible first | exact HB.out | apply below_alloc | apply pw_below_drewN | apply below_drew1 | refine below_set ?_ GE223.out | refine below_set ?_ GE224.out) | exact HB.out))))
      have n6_ := Aside0.mk (blk_below (rb_ BK223) hb)
      have n7_ := Aside0.mk (blk_below (rb_ BK224) hb)
      have n8_ := Aside0.mk (below_step (by repeat (first | (with_reducible first | exact HB.out | apply below_alloc | apply pw_below_drewN | apply below_drew1 | refine below_set ?_ GE223.out | refine below_set ?_ GE224.out) | exact HB.out)) hb)
      clear HO228
      clear HO231
      clear HO235
      clear HO238
      clear BK223
      clear BK224
      clear HB
      have HO228 := n0_
      have HO231 := n1_
      have HO235 := n2_
      have HO238 := n3_
      have HO242 := n4_
      have HO245 := n5_
      have BK223 := n6_
      have BK224 := n7_
      have HB := n8_
      clear n0_ n1_ n2_ n3_ n4_ n5_ n6_ n7_ n8_
      (try clear hb)
      (try clear hb2)
      (try clear hk)
      (try clear hi)
      (try clear ho0)
      (try clear ho1)
      refine hK.out _ _ ⟨(blk_cell BK223.out 0).trans rfl, (blk_cell BK223.out 1).trans rfl, (blk_cell BK223.out 2).trans rfl, (blk_cell BK224.out 0).trans rfl, (blk_cell BK224.out 1).trans rfl, (blk_cell BK224.out 2).trans rfl⟩ (fun hHeld => ?_)
      clear hK K
      refine norm_ (a' := ?_) ?_ ?_
      rotate_left
      · show Act.put _ (some 15) _ = _
        (simp only [Act.put, List.setIfInBounds_toArray, List.set_cons_zero, List.set_cons_succ, i64_w, i32_w])
        rfl
      refine one_ (i := 3) (N := some 17) #[true, true, true, true, false, false, false, false, false, false] rfl rfl (one_of HT_.out (by kernel_rfl)) (by decide) (fun K hK => ?_)
      refine goes_ Try.func9 (by kernel_rfl) rfl #[.agg #[.int .i64 t232, .slice Ao52 t233.length co52, .slice Ao54 t236.length co54]] (by rfl) rfl rfl (by (try simp only [List.map_toArray, List.map_cons, List.map_nil]); first | done | rfl | (simp only [List.length_drop, List.length_take]; done) | (simp only [List.length_drop, List.length_take]; rfl)) ?_
      with_reducible refine (bautalaw39_own.calls t232 _ _ t233 _ _ t236 t246 t247 t250 _ ?side1 ?side2 ?side3 ?side4 A6.out).mono ?_
      (case side1 => repeat (first | exact (Kd.R_reads' HO235.out).2.2 | (with_reducible refine Kd.C_alloc ?_ _) | (with_reducible refine Kd.C_drewN ?_ _) | (with_reducible refine Kd.C_drew ?_)))
      (case side2 => exact (Kd.R_reads' HO235.out).2.1)
      (case side3 => repeat (first | exact (Kd.R_reads' HO238.out).2.2 | (with_reducible refine Kd.C_alloc ?_ _) | (with_reducible refine Kd.C_drewN ?_ _) | (with_reducible refine Kd.C_drew ?_)))
      (case side4 => exact (Kd.R_reads' HO238.out).2.1)
      rintro e w59 ⟨v248, v251, rfl, ho0, ho1, hb⟩
      refine ⟨_, rfl, ?_⟩
      have n0_ := Aside0.mk (Kd.R_mono (Kd.R_told (Kd.R_told (Kd.R_old (rr_ HO228) hb) (Kd.R_base ho0)) (Kd.R_base ho1)) (fun _ h_ => h_.1))
      have n1_ := Aside0.mk (Kd.R_mono (Kd.R_told (Kd.R_told (Kd.R_old (rr_ HO231) hb) (Kd.R_base ho0)) (Kd.R_base ho1)) (fun _ h_ => h_.1))
      have n2_ := Aside0.mk (Kd.R_mono (Kd.R_told (Kd.R_told (Kd.R_old (rr_ HO235) hb) (Kd.R_base ho0)) (Kd.R_base ho1)) (fun _ h_ => h_.1))
      have n3_ := Aside0.mk (Kd.R_mono (Kd.R_told (Kd.R_told (Kd.R_old (rr_ HO238) hb) (Kd.R_base ho0)) (Kd.R_base ho1)) (fun _ h_ => h_.1))
      have n4_ := Aside0.mk (Kd.R_mono (Kd.R_told (Kd.R_told (Kd.R_old (rr_ HO242) hb) (Kd.R_base ho0)) (Kd.R_base ho1)) (fun _ h_ => h_.1))
      have n5_ := Aside0.mk (Kd.R_mono (Kd.R_told (Kd.R_told (Kd.R_old (rr_ HO245) hb) (Kd.R_base ho0)) (Kd.R_base ho1)) (fun _ h_ => h_.1))
      have n6_ := Aside0.mk (Kd.R_lower (Kd.R_new' (Kd.R_new' (Kd.R_new' (Kd.R_new' (Kd.R_new' (Kd.R_new' ho0 (Kd.R_lt (rr_ HO228))) (Kd.R_lt (rr_ HO231))) (Kd.R_lt (rr_ HO235))) (Kd.R_lt (rr_ HO238))) (Kd.R_lt (rr_ HO242))) (Kd.R_lt (rr_ HO245))) (below_size (by repeat (first | (with_reducible first | exact HB.out | apply below_alloc | apply pw_below_drewN | apply below_drew1 | refine below_set ?_ GE223.out | refine below_set ?_ GE224.out) | exact HB.out))))
      have n7_ := Aside0.mk (Kd.R_lower (Kd.R_new' (Kd.R_new' (Kd.R_new' (Kd.R_new' (Kd.R_new' (Kd.R_new' ho1 (Kd.R_lt (rr_ HO228))) (Kd.R_lt (rr_ HO231))) (Kd.R_lt (rr_ HO235))) (Kd.R_lt (rr_ HO238))) (Kd.R_lt (rr_ HO242))) (Kd.R_lt (rr_ HO245))) (below_size (by repeat (first | (with_reducible first | exact HB.out | apply below_alloc | apply pw_below_drewN | apply below_drew1 | refine below_set ?_ GE223.out | refine below_set ?_ GE224.out) | exact HB.out))))
      have n8_ := Aside0.mk (blk_below (rb_ BK223) hb)
      have n9_ := Aside0.mk (blk_below (rb_ BK224) hb)
      have n10_ := Aside0.mk (below_step (by repeat (first | (with_reducible first | exact HB.out | apply below_alloc | apply pw_below_drewN | apply below_drew1 | refine below_set ?_ GE223.out | refine below_set ?_ GE224.out) | exact HB.out)) hb)
      clear HO228
      clear HO231
      clear HO235
      clear HO238
      clear HO242
      clear HO245
      clear BK223
      clear BK224
      clear HB
      have HO228 := n0_
      have HO231 := n1_
      have HO235 := n2_
      have HO238 := n3_
      have HO242 := n4_
      have HO245 := n5_
      have HO249 := n6_
      have HO252 := n7_
      have BK223 := n8_
      have BK224 := n9_
      have HB := n10_
      clear n0_ n1_ n2_ n3_ n4_ n5_ n6_ n7_ n8_ n9_ n10_
      (try clear hb)
      (try clear hb2)
      (try clear hk)
      (try clear hi)
      (try clear ho0)
      (try clear ho1)
      obtain ⟨Ao60, co60, eo60⟩ := Kd.R_slice HO242.out
      (first | subst eo60 | (injection eo60 with f1_ f2_ f3_; have f4_ := f1_.symm; have f5_ := f3_.symm; clear f1_ f2_ f3_; subst f4_; subst f5_))
      obtain ⟨Ao61, co61, eo61⟩ := Kd.R_slice HO245.out
      (first | subst eo61 | (injection eo61 with f1_ f2_ f3_; have f4_ := f1_.symm; have f5_ := f3_.symm; clear f1_ f2_ f3_; subst f4_; subst f5_))
      obtain ⟨Ao62, co62, eo62⟩ := Kd.R_slice HO249.out
      (first | subst eo62 | (injection eo62 with f1_ f2_ f3_; have f4_ := f1_.symm; have f5_ := f3_.symm; clear f1_ f2_ f3_; subst f4_; subst f5_))
      obtain ⟨Ao63, co63, eo63⟩ := Kd.R_slice HO252.out
      (first | subst eo63 | (injection eo63 with f1_ f2_ f3_; have f4_ := f1_.symm; have f5_ := f3_.symm; clear f1_ f2_ f3_; subst f4_; subst f5_))
      refine hK.out _ _ ⟨(blk_cell BK223.out 0).trans rfl, (blk_cell BK223.out 1).trans rfl, (blk_cell BK223.out 2).trans rfl, (blk_cell BK224.out 0).trans rfl, (blk_cell BK224.out 1).trans rfl, (blk_cell BK224.out 2).trans rfl⟩ (fun hHeld => ?_)
      clear hK K
      refine norm_ (a' := ?_) ?_ ?_
      rotate_left
      · show Act.put _ (some 17) _ = _
        (simp only [Act.put, List.setIfInBounds_toArray, List.set_cons_zero, List.set_cons_succ, i64_w, i32_w])
        rfl
      refine one_ (i := 4) (N := some 18) #[true, true, true, true, true, false, false, false, false, false] rfl rfl (one_of HT_.out (by kernel_rfl)) (by decide) (fun K hK => ?_)
      refine goes_ Try.func19 (by kernel_rfl) rfl #[.agg #[.int .i64 t239, .slice Ao60 t240.length co60, .slice Ao61 t243.length co61], .agg #[.int .i64 t246, .slice Ao62 t247.length co62, .slice Ao63 t250.length co63]] (by rfl) rfl rfl (by (try simp only [List.map_toArray, List.map_cons, List.map_nil]); first | done | rfl | (simp only [List.length_drop, List.length_take]; done) | (simp only [List.length_drop, List.length_take]; rfl)) ?_
      with_reducible refine (stats_Worst.calls k t239 _ _ t240 _ _ t243 t246 _ _ t247 _ _ t250 t253 t254 _ ?side1 ?side2 ?side3 ?side4 ?side5 ?side6 ?side7 ?side8 A7.out).mono ?_
      (case side1 => repeat (first | exact (Kd.R_reads' HO242.out).2.2 | (with_reducible refine Kd.C_alloc ?_ _) | (with_reducible refine Kd.C_drewN ?_ _) | (with_reducible refine Kd.C_drew ?_)))
      (case side2 => exact (Kd.R_reads' HO242.out).2.1)
      (case side3 => repeat (first | exact (Kd.R_reads' HO245.out).2.2 | (with_reducible refine Kd.C_alloc ?_ _) | (with_reducible refine Kd.C_drewN ?_ _) | (with_reducible refine Kd.C_drew ?_)))
      (case side4 => exact (Kd.R_reads' HO245.out).2.1)
      (case side5 => repeat (first | exact (Kd.R_reads' HO249.out).2.2 | (with_reducible refine Kd.C_alloc ?_ _) | (with_reducible refine Kd.C_drewN ?_ _) | (with_reducible refine Kd.C_drew ?_)))
      (case side6 => exact (Kd.R_reads' HO249.out).2.1)
      (case side7 => repeat (first | exact (Kd.R_reads' HO252.out).2.2 | (with_reducible refine Kd.C_alloc ?_ _) | (with_reducible refine Kd.C_drewN ?_ _) | (with_reducible refine Kd.C_drew ?_)))
      (case side8 => exact (Kd.R_reads' HO252.out).2.1)
      rintro e w64 ⟨rfl, hb⟩
      refine ⟨_, rfl, ?_⟩
      have n0_ := Aside0.mk (Kd.R_below (rr_ HO228) hb)
      have n1_ := Aside0.mk (Kd.R_below (rr_ HO231) hb)
      have n2_ := Aside0.mk (Kd.R_below (rr_ HO235) hb)
      have n3_ := Aside0.mk (Kd.R_below (rr_ HO238) hb)
      have n4_ := Aside0.mk (Kd.R_below (rr_ HO242) hb)
      have n5_ := Aside0.mk (Kd.R_below (rr_ HO245) hb)
      have n6_ := Aside0.mk (Kd.R_below (rr_ HO249) hb)
      have n7_ := Aside0.mk (Kd.R_below (rr_ HO252) hb)
      have n8_ := Aside0.mk (blk_below (rb_ BK223) hb)
      have n9_ := Aside0.mk (blk_below (rb_ BK224) hb)
      have n10_ := Aside0.mk (below_step (by repeat (first | (with_reducible first | exact HB.out | apply below_alloc | apply pw_below_drewN | apply below_drew1 | refine below_set ?_ GE223.out | refine below_set ?_ GE224.out) | exact HB.out)) hb)
      clear HO228
      clear HO231
      clear HO235
      clear HO238
      clear HO242
      clear HO245
      clear HO249
      clear HO252
      clear BK223
      clear BK224
      clear HB
      have HO228 := n0_
      have HO231 := n1_
      have HO235 := n2_
      have HO238 := n3_
      have HO242 := n4_
      have HO245 := n5_
      have HO249 := n6_
      have HO252 := n7_
      have BK223 := n8_
      have BK224 := n9_
      have HB := n10_
      clear n0_ n1_ n2_ n3_ n4_ n5_ n6_ n7_ n8_ n9_ n10_
      (try clear hb)
      (try clear hb2)
      (try clear hk)
      (try clear hi)
      refine hK.out _ _ ⟨(blk_cell BK223.out 0).trans rfl, (blk_cell BK223.out 1).trans rfl, (blk_cell BK223.out 2).trans rfl, (blk_cell BK224.out 0).trans rfl, (blk_cell BK224.out 1).trans rfl, (blk_cell BK224.out 2).trans rfl⟩ (fun hHeld => ?_)
      clear hK K
      refine norm_ (a' := ?_) ?_ ?_
      rotate_left
      · show Act.put _ (some 18) _ = _
        (simp only [Act.put, List.setIfInBounds_toArray, List.set_cons_zero, List.set_cons_succ, i64_w, i32_w])
        rfl
      refine pure_ (i := 5) (N := some 13) (v := ?_) (a' := ?_) #[true, true, true, true, true, true, false, false, false, false] rfl rfl (any_of HT_.out (by kernel_rfl)) (fun _ _ _ h => h) (Or.inl ⟨by rfl, ?_⟩) ?_ ?_
      rotate_left
      · intro w'
        go_simp
        with_reducible rfl
      rotate_left
      · (simp only [Act.put, List.setIfInBounds_toArray, List.set_cons_zero, List.set_cons_succ, i64_w, i32_w])
        rfl
      refine pure_ (i := 6) (N := some 19) (v := ?_) (a' := ?_) #[true, true, true, true, true, true, true, false, false, false] rfl rfl (any_of HT_.out (by kernel_rfl)) (fun _ _ _ h => h) (Or.inl ⟨by rfl, ?_⟩) ?_ ?_
      rotate_left
      · intro w'
        go_simp
        with_reducible rfl
      rotate_left
      · (simp only [Act.put, List.setIfInBounds_toArray, List.set_cons_zero, List.set_cons_succ, i64_w, i32_w])
        rfl
      refine pure_ (i := 7) (N := some 20) (v := ?_) (a' := ?_) #[true, true, true, true, true, true, true, true, false, false] rfl rfl (any_of HT_.out (by kernel_rfl)) (fun _ _ _ h => h) (Or.inl ⟨by rfl, ?_⟩) ?_ ?_
      rotate_left
      · intro w'
        go_simp
        with_reducible rfl
      rotate_left
      · (simp only [Act.put, List.setIfInBounds_toArray, List.set_cons_zero, List.set_cons_succ, i64_w, i32_w])
        rfl
      refine pure_ (i := 8) (N := some 5) (v := ?_) (a' := ?_) #[true, true, true, true, true, true, true, true, true, false] rfl rfl (any_of HT_.out (by kernel_rfl)) (fun _ _ _ h => h) (Or.inl ⟨by rfl, ?_⟩) ?_ ?_
      rotate_left
      · intro w'
        go_simp
        with_reducible rfl
      rotate_left
      · (simp only [Act.put, List.setIfInBounds_toArray, List.set_cons_zero, List.set_cons_succ, i64_w, i32_w])
        rfl
      refine pure_ (i := 9) (N := some 6) (v := ?_) (a' := ?_) #[true, true, true, true, true, true, true, true, true, true] rfl rfl (any_of HT_.out (by kernel_rfl)) (fun _ _ _ h => h) (Or.inl ⟨by rfl, ?_⟩) ?_ ?_
      rotate_left
      · intro w'
        go_simp
        with_reducible rfl
      rotate_left
      · (simp only [Act.put, List.setIfInBounds_toArray, List.set_cons_zero, List.set_cons_succ, i64_w, i32_w])
        rfl
      refine done_ (done_of HT_.out (by kernel_rfl)) ?_
      have hnb65 := NB223_224.out
      have hnc65 := NB224_223.out
      have hcz66_0 : w64.cell? ⟨gb223, 0, none⟩ = some (.int .i64 t225) := (blk_cell BK223.out 0).trans rfl
      have hcz66_1 : w64.cell? ⟨gb223, 1, none⟩ = some (.slice Ao47 t226.length co47) := (blk_cell BK223.out 1).trans rfl
      have hcz66_2 : w64.cell? ⟨gb223, 2, none⟩ = some (.slice Ao49 t229.length co49) := (blk_cell BK223.out 2).trans rfl
      have hfz66_0 := blk_frozen BK223.out 0
      have hfz66_1 := blk_frozen BK223.out 1
      have hfz66_2 := blk_frozen BK223.out 2
      have hcz67_0 : w64.cell? ⟨gb224, 0, none⟩ = some (.int .i64 t232) := (blk_cell BK224.out 0).trans rfl
      have hcz67_1 : w64.cell? ⟨gb224, 1, none⟩ = some (.slice Ao52 t233.length co52) := (blk_cell BK224.out 1).trans rfl
      have hcz67_2 : w64.cell? ⟨gb224, 2, none⟩ = some (.slice Ao54 t236.length co54) := (blk_cell BK224.out 2).trans rfl
      have hfz67_0 := blk_frozen BK224.out 0
      have hfz67_1 := blk_frozen BK224.out 1
      have hfz67_2 := blk_frozen BK224.out 2
      try go_wp2_with (first | ((with_reducible refine gate_callee (f := 20) rfl ?_); refine goesL_ (some 24) rfl rfl Try.func20 (by kernel_rfl) rfl #[.agg #[.int .i64 t225, .slice Ao47 t226.length co47, .slice Ao49 t229.length co49], .agg #[.int .i64 t232, .slice Ao52 t233.length co52, .slice Ao54 t236.length co54]] rfl (by (try simp only [List.map_toArray, List.map_cons, List.map_nil]); first | done | rfl | (simp only [List.length_drop, List.length_take]; done) | (simp only [List.length_drop, List.length_take]; rfl)) ?_; (with_reducible refine (bautaref39_Worst.calls k t225 _ _ t226 _ _ t229 t232 _ _ t233 _ _ t236 t255 t256 _ ?side1 ?side2 ?side3 ?side4 ?side5 ?side6 ?side7 ?side8 A8.out).mono ?_); (case side1 => repeat (first | exact (Kd.R_reads' HO228.out).2.2 | (with_reducible refine Kd.C_alloc ?_ _) | (with_reducible refine Kd.C_drewN ?_ _) | (with_reducible refine Kd.C_drew ?_))); (case side2 => exact (Kd.R_reads' HO228.out).2.1); (case side3 => repeat (first | exact (Kd.R_reads' HO231.out).2.2 | (with_reducible refine Kd.C_alloc ?_ _) | (with_reducible refine Kd.C_drewN ?_ _) | (with_reducible refine Kd.C_drew ?_))); (case side4 => exact (Kd.R_reads' HO231.out).2.1); (case side5 => repeat (first | exact (Kd.R_reads' HO235.out).2.2 | (with_reducible refine Kd.C_alloc ?_ _) | (with_reducible refine Kd.C_drewN ?_ _) | (with_reducible refine Kd.C_drew ?_))); (case side6 => exact (Kd.R_reads' HO235.out).2.1); (case side7 => repeat (first | exact (Kd.R_reads' HO238.out).2.2 | (with_reducible refine Kd.C_alloc ?_ _) | (with_reducible refine Kd.C_drewN ?_ _) | (with_reducible refine Kd.C_drew ?_))); (case side8 => exact (Kd.R_reads' HO238.out).2.1); rintro e wz_ ⟨rfl, hb⟩; refine ⟨_, rfl, ?_⟩; have n0_ := Aside0.mk (Kd.R_below (rr_ HO228) hb); have n1_ := Aside0.mk (Kd.R_below (rr_ HO231) hb); have n2_ := Aside0.mk (Kd.R_below (rr_ HO235) hb); have n3_ := Aside0.mk (Kd.R_below (rr_ HO238) hb); have n4_ := Aside0.mk (Kd.R_below (rr_ HO242) hb); have n5_ := Aside0.mk (Kd.R_below (rr_ HO245) hb); have n6_ := Aside0.mk (Kd.R_below (rr_ HO249) hb); have n7_ := Aside0.mk (Kd.R_below (rr_ HO252) hb); have n8_ := Aside0.mk (blk_below (rb_ BK223) hb); have n9_ := Aside0.mk (blk_below (rb_ BK224) hb); have n10_ := Aside0.mk (below_step (by repeat (first | (with_reducible first | exact HB.out | apply below_alloc | apply pw_below_drewN | apply below_drew1 | refine below_set ?_ GE223.out | refine below_set ?_ GE224.out) | exact HB.out)) hb); clear HO228; clear HO231; clear HO235; clear HO238; clear HO242; clear HO245; clear HO249; clear HO252; clear BK223; clear BK224; clear HB; have HO228 := n0_; have HO231 := n1_; have HO235 := n2_; have HO238 := n3_; have HO242 := n4_; have HO245 := n5_; have HO249 := n6_; have HO252 := n7_; have BK223 := n8_; have BK224 := n9_; have HB := n10_; clear n0_ n1_ n2_ n3_ n4_ n5_ n6_ n7_ n8_ n9_ n10_; (try clear hb); (try clear hb2); (try clear hk); (try clear hi)))
      go_ret
      exact ⟨by first | rfl | (simp [errW_none, errW_some] <;> rfl) | (simp [*, errW_none, errW_some] <;> rfl), by repeat (first | (with_reducible first | exact HB.out | apply below_alloc | apply pw_below_drewN | apply below_drew1 | refine below_set ?_ GE223.out | refine below_set ?_ GE224.out) | exact HB.out)⟩
  · rw [if_neg c9] at H
    have c9b0 : (t253 == t255) = false := beq_eq_false_iff_ne.mpr c9
    have c9b1 : (t253 != t255) = true := bne_iff_ne.mpr c9
    obtain rfl := Option.some.inj H
    go_enter Try.func6, Try.ntmps6
    try go_wp2_with (first | ((with_reducible refine gate_dst (N := 2) rfl ?_); refine box_event ?hg (N := 2) ?hd (cs := #[.int .i64 a0_0, .slice A0_1 l0_1.length c0_1, .slice A0_2 l0_2.length c0_2]) (t := 24) ?hr ?_; (case hd => rfl); (case hg => rfl); (case hr => first | (go_simp; done) | (go_simp; rfl)); intro gb223 hg wz_ hbox hb; have n0_ := Aside0.mk (below_step (rl_ HB) hb); have n1_ := Aside0.mk (hbox); have n2_ := Aside0.mk ((by rw [hg]; exact (below_size (rl_ HB)) : w.heap.size ≤ gb223)); have n3_ := Aside0.mk ((by rw [hg]; exact (below_size (rl_ HB)) : w.heap.size ≤ gb223)); clear HB; have HB := n0_; have BK223 := n1_; have GW223 := n2_; have GE223 := n3_; clear n0_ n1_ n2_ n3_; clear hb hbox hg) | ((with_reducible refine gate_dst (N := 3) rfl ?_); refine box_event ?hg (N := 3) ?hd (cs := #[.int .i64 a1_0, .slice A1_1 l1_1.length c1_1, .slice A1_2 l1_2.length c1_2]) (t := 24) ?hr ?_; (case hd => rfl); (case hg => rfl); (case hr => first | (go_simp; done) | (go_simp; rfl)); intro gb224 hg w70 hbox hb; have n0_ := Aside0.mk (blk_below (rb_ BK223) hb); have n1_ := Aside0.mk (below_step (by (repeat (first | (with_reducible first | exact HB.out | apply below_alloc | apply pw_below_drewN | apply below_drew1 | refine below_set ?_ GE223.out) | exact HB.out))) hb); have n2_ := Aside0.mk (hbox); have n3_ := Aside0.mk ((by rw [hg]; exact (below_size (by (repeat (first | (with_reducible first | exact HB.out | apply below_alloc | apply pw_below_drewN | apply below_drew1 | refine below_set ?_ GE223.out) | exact HB.out)))) : w.heap.size ≤ gb224)); have n4_ := Aside0.mk ((by rw [hg]; exact (below_size (by (repeat (first | (with_reducible first | exact HB.out | apply below_alloc | apply pw_below_drewN | apply below_drew1 | refine below_set ?_ GE223.out) | exact HB.out)))) : w.heap.size ≤ gb224)); have n5_ := Aside0.mk ((by rw [hg]; exact Nat.ne_of_lt (blk_lt (rb_ BK223)) : gb223 ≠ gb224)); have n6_ := Aside0.mk ((by rw [hg]; exact Nat.ne_of_gt (blk_lt (rb_ BK223)) : gb224 ≠ gb223)); clear BK223; clear HB; have BK223 := n0_; have HB := n1_; have BK224 := n2_; have GW224 := n3_; have GE224 := n4_; have NB223_224 := n5_; have NB224_223 := n6_; clear n0_ n1_ n2_ n3_ n4_ n5_ n6_; clear hb hbox hg))
    have n0_ := Aside0.mk (blk_drew BK223.out)
    have n1_ := Aside0.mk (blk_drew BK224.out)
    have n2_ := Aside0.mk (below_drew1 HB.out)
    clear BK223
    clear BK224
    clear HB
    have BK223 := n0_
    have BK224 := n1_
    have HB := n2_
    clear n0_ n1_ n2_
    refine start_ (n := 6) (S := fun w' => w'.cell? ⟨gb223, 0, none⟩ = some (.int .i64 a0_0) ∧ w'.cell? ⟨gb223, 1, none⟩ = some (.slice A0_1 l0_1.length c0_1) ∧ w'.cell? ⟨gb223, 2, none⟩ = some (.slice A0_2 l0_2.length c0_2) ∧ w'.cell? ⟨gb224, 0, none⟩ = some (.int .i64 a1_0) ∧ w'.cell? ⟨gb224, 1, none⟩ = some (.slice A1_1 l1_1.length c1_1) ∧ w'.cell? ⟨gb224, 2, none⟩ = some (.slice A1_2 l1_2.length c1_2)) (ds := [4, 5]) #[false, false, false, false, false, false] (by kernel_rfl) rfl rfl ⟨(blk_cell BK223.out 0).trans rfl, (blk_cell BK223.out 1).trans rfl, (blk_cell BK223.out 2).trans rfl, (blk_cell BK224.out 0).trans rfl, (blk_cell BK224.out 1).trans rfl, (blk_cell BK224.out 2).trans rfl⟩ (fun hHeld => ?_)
    generalize w70.drew = w71 at BK223 BK224 HB hHeld ⊢
    refine take_ (i := 0) (N := some 9) (v := ?_) (a' := ?_) #[true, false, false, false, false, false] rfl rfl (by kernel_rfl) (fun _ _ _ h => h) (Or.inl ⟨by rfl, ?_⟩) hHeld ?_ ?_
    rotate_left
    · rintro w' ⟨s0, s1, s2, s3, s4, s5⟩
      go_simp
      with_reducible rfl
    rotate_left
    · (simp only [Act.put, List.setIfInBounds_toArray, List.set_cons_zero, List.set_cons_succ, i64_w, i32_w])
      rfl
    refine take_ (i := 2) (N := some 11) (v := ?_) (a' := ?_) #[true, false, true, false, false, false] rfl rfl (by kernel_rfl) (fun _ _ _ h => h) (Or.inl ⟨by rfl, ?_⟩) hHeld ?_ ?_
    rotate_left
    · rintro w' ⟨s0, s1, s2, s3, s4, s5⟩
      go_simp
      with_reducible rfl
    rotate_left
    · (simp only [Act.put, List.setIfInBounds_toArray, List.set_cons_zero, List.set_cons_succ, i64_w, i32_w])
      rfl
    refine one_ (i := 1) (N := some 10) #[true, true, true, false, false, false] rfl rfl (by kernel_rfl) (by decide) (fun K hK => ?_)
    refine goes_ Try.func7 (by kernel_rfl) rfl #[.agg #[.int .i64 a0_0, .slice A0_1 l0_1.length c0_1, .slice A0_2 l0_2.length c0_2]] (by rfl) rfl rfl (by (try simp only [List.map_toArray, List.map_cons, List.map_nil]); first | done | rfl | (simp only [List.length_drop, List.length_take]; done) | (simp only [List.length_drop, List.length_take]; rfl)) ?_
    with_reducible refine (bautalaw39_small.calls a0_0 _ _ l0_1 _ _ l0_2 t225 t226 t229 _ ?side1 ?side2 ?side3 ?side4 A3.out).mono ?_
    (case side1 => repeat (first | exact (Kd.C_below HR0_1.out HB.out) | (with_reducible refine Kd.C_alloc ?_ _) | (with_reducible refine Kd.C_drewN ?_ _) | (with_reducible refine Kd.C_drew ?_)))
    (case side2 => exact HC0_1.out)
    (case side3 => repeat (first | exact (Kd.C_below HR0_2.out HB.out) | (with_reducible refine Kd.C_alloc ?_ _) | (with_reducible refine Kd.C_drewN ?_ _) | (with_reducible refine Kd.C_drew ?_)))
    (case side4 => exact HC0_2.out)
    rintro e w72 ⟨v227, v230, rfl, ho0, ho1, hb⟩
    refine ⟨_, rfl, ?_⟩
    have n0_ := Aside0.mk (Kd.R_lower ho0 (below_size (by repeat (first | (with_reducible first | exact HB.out | apply below_alloc | apply pw_below_drewN | apply below_drew1 | refine below_set ?_ GE223.out | refine below_set ?_ GE224.out) | exact HB.out))))
    have n1_ := Aside0.mk (Kd.R_lower ho1 (below_size (by repeat (first | (with_reducible first | exact HB.out | apply below_alloc | apply pw_below_drewN | apply below_drew1 | refine below_set ?_ GE223.out | refine below_set ?_ GE224.out) | exact HB.out))))
    have n2_ := Aside0.mk (blk_below (rb_ BK223) hb)
    have n3_ := Aside0.mk (blk_below (rb_ BK224) hb)
    have n4_ := Aside0.mk (below_step (by repeat (first | (with_reducible first | exact HB.out | apply below_alloc | apply pw_below_drewN | apply below_drew1 | refine below_set ?_ GE223.out | refine below_set ?_ GE224.out) | exact HB.out)) hb)
    clear BK223
    clear BK224
    clear HB
    have HO228 := n0_
    have HO231 := n1_
    have BK223 := n2_
    have BK224 := n3_
    have HB := n4_
    clear n0_ n1_ n2_ n3_ n4_
    (try clear hb)
    (try clear hb2)
    (try clear hk)
    (try clear hi)
    (try clear ho0)
    (try clear ho1)
    refine hK.out _ _ ⟨(blk_cell BK223.out 0).trans rfl, (blk_cell BK223.out 1).trans rfl, (blk_cell BK223.out 2).trans rfl, (blk_cell BK224.out 0).trans rfl, (blk_cell BK224.out 1).trans rfl, (blk_cell BK224.out 2).trans rfl⟩ (fun hHeld => ?_)
    clear hK K
    refine norm_ (a' := ?_) ?_ ?_
    rotate_left
    · show Act.put _ (some 10) _ = _
      (simp only [Act.put, List.setIfInBounds_toArray, List.set_cons_zero, List.set_cons_succ, i64_w, i32_w])
      rfl
    refine one_ (i := 3) (N := some 12) #[true, true, true, true, false, false] rfl rfl (by kernel_rfl) (by decide) (fun K hK => ?_)
    refine goes_ Try.func7 (by kernel_rfl) rfl #[.agg #[.int .i64 a1_0, .slice A1_1 l1_1.length c1_1, .slice A1_2 l1_2.length c1_2]] (by rfl) rfl rfl (by (try simp only [List.map_toArray, List.map_cons, List.map_nil]); first | done | rfl | (simp only [List.length_drop, List.length_take]; done) | (simp only [List.length_drop, List.length_take]; rfl)) ?_
    with_reducible refine (bautalaw39_small.calls a1_0 _ _ l1_1 _ _ l1_2 t232 t233 t236 _ ?side1 ?side2 ?side3 ?side4 A4.out).mono ?_
    (case side1 => repeat (first | exact (Kd.C_below HR1_1.out HB.out) | (with_reducible refine Kd.C_alloc ?_ _) | (with_reducible refine Kd.C_drewN ?_ _) | (with_reducible refine Kd.C_drew ?_)))
    (case side2 => exact HC1_1.out)
    (case side3 => repeat (first | exact (Kd.C_below HR1_2.out HB.out) | (with_reducible refine Kd.C_alloc ?_ _) | (with_reducible refine Kd.C_drewN ?_ _) | (with_reducible refine Kd.C_drew ?_)))
    (case side4 => exact HC1_2.out)
    rintro e w73 ⟨v234, v237, rfl, ho0, ho1, hb⟩
    refine ⟨_, rfl, ?_⟩
    have n0_ := Aside0.mk (Kd.R_mono (Kd.R_told (Kd.R_told (Kd.R_old (rr_ HO228) hb) (Kd.R_base ho0)) (Kd.R_base ho1)) (fun _ h_ => h_.1))
    have n1_ := Aside0.mk (Kd.R_mono (Kd.R_told (Kd.R_told (Kd.R_old (rr_ HO231) hb) (Kd.R_base ho0)) (Kd.R_base ho1)) (fun _ h_ => h_.1))
    have n2_ := Aside0.mk (Kd.R_lower (Kd.R_new' (Kd.R_new' ho0 (Kd.R_lt (rr_ HO228))) (Kd.R_lt (rr_ HO231))) (below_size (by repeat (first | (with_reducible first | exact HB.out | apply below_alloc | apply pw_below_drewN | apply below_drew1 | refine below_set ?_ GE223.out | refine below_set ?_ GE224.out) | exact HB.out))))
    have n3_ := Aside0.mk (Kd.R_lower (Kd.R_new' (Kd.R_new' ho1 (Kd.R_lt (rr_ HO228))) (Kd.R_lt (rr_ HO231))) (below_size (by repeat (first | (with_reducible first | exact HB.out | apply below_alloc | apply pw_below_drewN | apply below_drew1 | refine below_set ?_ GE223.out | refine below_set ?_ GE224.out) | exact HB.out))))
    have n4_ := Aside0.mk (blk_below (rb_ BK223) hb)
    have n5_ := Aside0.mk (blk_below (rb_ BK224) hb)
    have n6_ := Aside0.mk (below_step (by repeat (first | (with_reducible first | exact HB.out | apply below_alloc | apply pw_below_drewN | apply below_drew1 | refine below_set ?_ GE223.out | refine below_set ?_ GE224.out) | exact HB.out)) hb)
    clear HO228
    clear HO231
    clear BK223
    clear BK224
    clear HB
    have HO228 := n0_
    have HO231 := n1_
    have HO235 := n2_
    have HO238 := n3_
    have BK223 := n4_
    have BK224 := n5_
    have HB := n6_
    clear n0_ n1_ n2_ n3_ n4_ n5_ n6_
    (try clear hb)
    (try clear hb2)
    (try clear hk)
    (try clear hi)
    (try clear ho0)
    (try clear ho1)
    obtain ⟨Ao75, co75, eo75⟩ := Kd.R_slice HO228.out
    (first | subst eo75 | (injection eo75 with f1_ f2_ f3_; have f4_ := f1_.symm; have f5_ := f3_.symm; clear f1_ f2_ f3_; subst f4_; subst f5_))
    obtain ⟨Ao77, co77, eo77⟩ := Kd.R_slice HO231.out
    (first | subst eo77 | (injection eo77 with f1_ f2_ f3_; have f4_ := f1_.symm; have f5_ := f3_.symm; clear f1_ f2_ f3_; subst f4_; subst f5_))
    obtain ⟨Ao80, co80, eo80⟩ := Kd.R_slice HO235.out
    (first | subst eo80 | (injection eo80 with f1_ f2_ f3_; have f4_ := f1_.symm; have f5_ := f3_.symm; clear f1_ f2_ f3_; subst f4_; subst f5_))
    obtain ⟨Ao82, co82, eo82⟩ := Kd.R_slice HO238.out
    (first | subst eo82 | (injection eo82 with f1_ f2_ f3_; have f4_ := f1_.symm; have f5_ := f3_.symm; clear f1_ f2_ f3_; subst f4_; subst f5_))
    refine hK.out _ _ ⟨(blk_cell BK223.out 0).trans rfl, (blk_cell BK223.out 1).trans rfl, (blk_cell BK223.out 2).trans rfl, (blk_cell BK224.out 0).trans rfl, (blk_cell BK224.out 1).trans rfl, (blk_cell BK224.out 2).trans rfl⟩ (fun hHeld => ?_)
    clear hK K
    refine norm_ (a' := ?_) ?_ ?_
    rotate_left
    · show Act.put _ (some 12) _ = _
      (simp only [Act.put, List.setIfInBounds_toArray, List.set_cons_zero, List.set_cons_succ, i64_w, i32_w])
      rfl
    refine last_ (i := 4) (N := none) #[true, true, true, true, true, false] rfl rfl (by kernel_rfl) (by decide) (fun K hK => ?_)
    have hs74 : w73.cell? ⟨gb223, 0, none⟩ = some (.int .i64 a0_0) := (blk_cell BK223.out 0).trans rfl
    have hfs74 := blk_frozen BK223.out 0
    have hns74_1 := NB224_223.out
    have hms74_1 := NB223_224.out
    have hs76 : w73.cell? ⟨gb223, 1, none⟩ = some (.slice A0_1 l0_1.length c0_1) := (blk_cell BK223.out 1).trans rfl
    have hfs76 := blk_frozen BK223.out 1
    have hns76_1 := NB224_223.out
    have hms76_1 := NB223_224.out
    have hs78 : w73.cell? ⟨gb223, 2, none⟩ = some (.slice A0_2 l0_2.length c0_2) := (blk_cell BK223.out 2).trans rfl
    have hfs78 := blk_frozen BK223.out 2
    have hns78_1 := NB224_223.out
    have hms78_1 := NB223_224.out
    refine skip_ (w1 := ?_) (by rfl) rfl ?_ ?_
    rotate_left
    · go_simp
      rfl
    refine hK.out _ _ ?_
    clear hK K
    refine last_ (i := 5) (N := none) #[true, true, true, true, true, true] rfl rfl (by kernel_rfl) (by decide) (fun K hK => ?_)
    have hs79 : w73.cell? ⟨gb224, 0, none⟩ = some (.int .i64 a1_0) := (blk_cell BK224.out 0).trans rfl
    have hfs79 := blk_frozen BK224.out 0
    have hns79_0 := NB223_224.out
    have hms79_0 := NB224_223.out
    have hs81 : w73.cell? ⟨gb224, 1, none⟩ = some (.slice A1_1 l1_1.length c1_1) := (blk_cell BK224.out 1).trans rfl
    have hfs81 := blk_frozen BK224.out 1
    have hns81_0 := NB223_224.out
    have hms81_0 := NB224_223.out
    have hs83 : w73.cell? ⟨gb224, 2, none⟩ = some (.slice A1_2 l1_2.length c1_2) := (blk_cell BK224.out 2).trans rfl
    have hfs83 := blk_frozen BK224.out 2
    have hns83_0 := NB223_224.out
    have hms83_0 := NB224_223.out
    refine skip_ (w1 := ?_) (by rfl) rfl ?_ ?_
    rotate_left
    · go_simp
      rfl
    refine hK.out _ _ ?_
    clear hK K
    refine done_ (by kernel_rfl) ?_
    try go_wp2
    have n0_ : Aside0 (Kd.R (Kd.int .i64) 3 ((((((w73.setCell ⟨gb223, 0, none⟩ (.int .i64 t225)).setCell ⟨gb223, 1, none⟩ (.slice Ao75 t226.length co75)).setCell ⟨gb223, 2, none⟩ (.slice Ao77 t229.length co77)).setCell ⟨gb224, 0, none⟩ (.int .i64 t232)).setCell ⟨gb224, 1, none⟩ (.slice Ao80 t233.length co80)).setCell ⟨gb224, 2, none⟩ (.slice Ao82 t236.length co82)) w.heap.size (fun k_ => some k_ ≠ (.slice Ao77 t229.length co77 : Value).ownBlock ∧ some k_ ≠ (.slice Ao80 t233.length co80 : Value).ownBlock ∧ some k_ ≠ (.slice Ao82 t236.length co82 : Value).ownBlock) (.slice Ao75 t226.length co75) t226) := ⟨by (with_reducible repeat (first | apply Kd.R_alloc | apply Kd.R_drewN | apply Kd.R_drew)); exact Kd.R_mono (Kd.R_far (p := ⟨gb224, 2, none⟩) (Kd.R_far (p := ⟨gb224, 1, none⟩) (Kd.R_far (p := ⟨gb224, 0, none⟩) (Kd.R_far (p := ⟨gb223, 2, none⟩) (Kd.R_far (p := ⟨gb223, 1, none⟩) (Kd.R_far (p := ⟨gb223, 0, none⟩) (Kd.R_types (Kd.R_types HO228.out BK223.out (by decide)) BK224.out (by decide)) (fun _ hk => hk.1.2) (.int .i64 t225)) (fun _ hk => hk.1.2) (.slice Ao75 t226.length co75)) (fun _ hk => hk.1.2) (.slice Ao77 t229.length co77)) (fun _ hk => hk.2) (.int .i64 t232)) (fun _ hk => hk.2) (.slice Ao80 t233.length co80)) (fun _ hk => hk.2) (.slice Ao82 t236.length co82)) (fun _ hk => ⟨hk.1.1.1.1, ⟨hk.1.1.1.2, hk.1.1.2⟩⟩)⟩
    have n1_ : Aside0 (Kd.R (Kd.int .i64) 3 ((((((w73.setCell ⟨gb223, 0, none⟩ (.int .i64 t225)).setCell ⟨gb223, 1, none⟩ (.slice Ao75 t226.length co75)).setCell ⟨gb223, 2, none⟩ (.slice Ao77 t229.length co77)).setCell ⟨gb224, 0, none⟩ (.int .i64 t232)).setCell ⟨gb224, 1, none⟩ (.slice Ao80 t233.length co80)).setCell ⟨gb224, 2, none⟩ (.slice Ao82 t236.length co82)) w.heap.size (fun k_ => some k_ ≠ (.slice Ao75 t226.length co75 : Value).ownBlock ∧ some k_ ≠ (.slice Ao80 t233.length co80 : Value).ownBlock ∧ some k_ ≠ (.slice Ao82 t236.length co82 : Value).ownBlock) (.slice Ao77 t229.length co77) t229) := ⟨by (with_reducible repeat (first | apply Kd.R_alloc | apply Kd.R_drewN | apply Kd.R_drew)); exact Kd.R_mono (Kd.R_far (p := ⟨gb224, 2, none⟩) (Kd.R_far (p := ⟨gb224, 1, none⟩) (Kd.R_far (p := ⟨gb224, 0, none⟩) (Kd.R_far (p := ⟨gb223, 2, none⟩) (Kd.R_far (p := ⟨gb223, 1, none⟩) (Kd.R_far (p := ⟨gb223, 0, none⟩) (Kd.R_types (Kd.R_types HO231.out BK223.out (by decide)) BK224.out (by decide)) (fun _ hk => hk.1.2) (.int .i64 t225)) (fun _ hk => hk.1.2) (.slice Ao75 t226.length co75)) (fun _ hk => hk.1.2) (.slice Ao77 t229.length co77)) (fun _ hk => hk.2) (.int .i64 t232)) (fun _ hk => hk.2) (.slice Ao80 t233.length co80)) (fun _ hk => hk.2) (.slice Ao82 t236.length co82)) (fun _ hk => ⟨hk.1.1.1.1, ⟨hk.1.1.1.2, hk.1.1.2⟩⟩)⟩
    have n2_ : Aside0 (Kd.R (Kd.int .i64) 3 ((((((w73.setCell ⟨gb223, 0, none⟩ (.int .i64 t225)).setCell ⟨gb223, 1, none⟩ (.slice Ao75 t226.length co75)).setCell ⟨gb223, 2, none⟩ (.slice Ao77 t229.length co77)).setCell ⟨gb224, 0, none⟩ (.int .i64 t232)).setCell ⟨gb224, 1, none⟩ (.slice Ao80 t233.length co80)).setCell ⟨gb224, 2, none⟩ (.slice Ao82 t236.length co82)) w.heap.size (fun k_ => some k_ ≠ (.slice Ao75 t226.length co75 : Value).ownBlock ∧ some k_ ≠ (.slice Ao77 t229.length co77 : Value).ownBlock ∧ some k_ ≠ (.slice Ao82 t236.length co82 : Value).ownBlock) (.slice Ao80 t233.length co80) t233) := ⟨by (with_reducible repeat (first | apply Kd.R_alloc | apply Kd.R_drewN | apply Kd.R_drew)); exact Kd.R_mono (Kd.R_far (p := ⟨gb224, 2, none⟩) (Kd.R_far (p := ⟨gb224, 1, none⟩) (Kd.R_far (p := ⟨gb224, 0, none⟩) (Kd.R_far (p := ⟨gb223, 2, none⟩) (Kd.R_far (p := ⟨gb223, 1, none⟩) (Kd.R_far (p := ⟨gb223, 0, none⟩) (Kd.R_types (Kd.R_types HO235.out BK223.out (by decide)) BK224.out (by decide)) (fun _ hk => hk.1.2) (.int .i64 t225)) (fun _ hk => hk.1.2) (.slice Ao75 t226.length co75)) (fun _ hk => hk.1.2) (.slice Ao77 t229.length co77)) (fun _ hk => hk.2) (.int .i64 t232)) (fun _ hk => hk.2) (.slice Ao80 t233.length co80)) (fun _ hk => hk.2) (.slice Ao82 t236.length co82)) (fun _ hk => ⟨hk.1.1.1.2, ⟨hk.1.1.2, hk.1.1.1.1⟩⟩)⟩
    have n3_ : Aside0 (Kd.R (Kd.int .i64) 3 ((((((w73.setCell ⟨gb223, 0, none⟩ (.int .i64 t225)).setCell ⟨gb223, 1, none⟩ (.slice Ao75 t226.length co75)).setCell ⟨gb223, 2, none⟩ (.slice Ao77 t229.length co77)).setCell ⟨gb224, 0, none⟩ (.int .i64 t232)).setCell ⟨gb224, 1, none⟩ (.slice Ao80 t233.length co80)).setCell ⟨gb224, 2, none⟩ (.slice Ao82 t236.length co82)) w.heap.size (fun k_ => some k_ ≠ (.slice Ao75 t226.length co75 : Value).ownBlock ∧ some k_ ≠ (.slice Ao77 t229.length co77 : Value).ownBlock ∧ some k_ ≠ (.slice Ao80 t233.length co80 : Value).ownBlock) (.slice Ao82 t236.length co82) t236) := ⟨by (with_reducible repeat (first | apply Kd.R_alloc | apply Kd.R_drewN | apply Kd.R_drew)); exact Kd.R_mono (Kd.R_far (p := ⟨gb224, 2, none⟩) (Kd.R_far (p := ⟨gb224, 1, none⟩) (Kd.R_far (p := ⟨gb224, 0, none⟩) (Kd.R_far (p := ⟨gb223, 2, none⟩) (Kd.R_far (p := ⟨gb223, 1, none⟩) (Kd.R_far (p := ⟨gb223, 0, none⟩) (Kd.R_types (Kd.R_types HO238.out BK223.out (by decide)) BK224.out (by decide)) (fun _ hk => hk.1.2) (.int .i64 t225)) (fun _ hk => hk.1.2) (.slice Ao75 t226.length co75)) (fun _ hk => hk.1.2) (.slice Ao77 t229.length co77)) (fun _ hk => hk.2) (.int .i64 t232)) (fun _ hk => hk.2) (.slice Ao80 t233.length co80)) (fun _ hk => hk.2) (.slice Ao82 t236.length co82)) (fun _ hk => ⟨hk.1.1.1.2, ⟨hk.1.1.2, hk.1.1.1.1⟩⟩)⟩
    have n4_ : Aside0 (((((((w73.setCell ⟨gb223, 0, none⟩ (.int .i64 t225)).setCell ⟨gb223, 1, none⟩ (.slice Ao75 t226.length co75)).setCell ⟨gb223, 2, none⟩ (.slice Ao77 t229.length co77)).setCell ⟨gb224, 0, none⟩ (.int .i64 t232)).setCell ⟨gb224, 1, none⟩ (.slice Ao80 t233.length co80)).setCell ⟨gb224, 2, none⟩ (.slice Ao82 t236.length co82)).heap[gb223]? = some (.cells #[.int .i64 t225, .slice Ao75 t226.length co75, .slice Ao77 t229.length co77] 24 (0, 0))) := ⟨by (with_reducible repeat (first | refine blk_drewN ?_ _ | refine blk_drew ?_ | refine blk_alloc ?_ _)); refine blk_far ?_ NB223_224.out _; (with_reducible repeat (first | refine blk_drewN ?_ _ | refine blk_drew ?_ | refine blk_alloc ?_ _)); refine blk_far ?_ NB223_224.out _; (with_reducible repeat (first | refine blk_drewN ?_ _ | refine blk_drew ?_ | refine blk_alloc ?_ _)); refine blk_far ?_ NB223_224.out _; (with_reducible repeat (first | refine blk_drewN ?_ _ | refine blk_drew ?_ | refine blk_alloc ?_ _)); refine blk_put (cs := #[.int .i64 t225, .slice Ao75 t226.length co75, .slice A0_2 l0_2.length c0_2]) ?_ 2 _ rfl; (with_reducible repeat (first | refine blk_drewN ?_ _ | refine blk_drew ?_ | refine blk_alloc ?_ _)); refine blk_put (cs := #[.int .i64 t225, .slice A0_1 l0_1.length c0_1, .slice A0_2 l0_2.length c0_2]) ?_ 1 _ rfl; (with_reducible repeat (first | refine blk_drewN ?_ _ | refine blk_drew ?_ | refine blk_alloc ?_ _)); refine blk_put (cs := #[.int .i64 a0_0, .slice A0_1 l0_1.length c0_1, .slice A0_2 l0_2.length c0_2]) ?_ 0 _ rfl; (with_reducible repeat (first | refine blk_drewN ?_ _ | refine blk_drew ?_ | refine blk_alloc ?_ _)); exact BK223.out⟩
    have n5_ : Aside0 (((((((w73.setCell ⟨gb223, 0, none⟩ (.int .i64 t225)).setCell ⟨gb223, 1, none⟩ (.slice Ao75 t226.length co75)).setCell ⟨gb223, 2, none⟩ (.slice Ao77 t229.length co77)).setCell ⟨gb224, 0, none⟩ (.int .i64 t232)).setCell ⟨gb224, 1, none⟩ (.slice Ao80 t233.length co80)).setCell ⟨gb224, 2, none⟩ (.slice Ao82 t236.length co82)).heap[gb224]? = some (.cells #[.int .i64 t232, .slice Ao80 t233.length co80, .slice Ao82 t236.length co82] 24 (0, 0))) := ⟨by (with_reducible repeat (first | refine blk_drewN ?_ _ | refine blk_drew ?_ | refine blk_alloc ?_ _)); refine blk_put (cs := #[.int .i64 t232, .slice Ao80 t233.length co80, .slice A1_2 l1_2.length c1_2]) ?_ 2 _ rfl; (with_reducible repeat (first | refine blk_drewN ?_ _ | refine blk_drew ?_ | refine blk_alloc ?_ _)); refine blk_put (cs := #[.int .i64 t232, .slice A1_1 l1_1.length c1_1, .slice A1_2 l1_2.length c1_2]) ?_ 1 _ rfl; (with_reducible repeat (first | refine blk_drewN ?_ _ | refine blk_drew ?_ | refine blk_alloc ?_ _)); refine blk_put (cs := #[.int .i64 a1_0, .slice A1_1 l1_1.length c1_1, .slice A1_2 l1_2.length c1_2]) ?_ 0 _ rfl; (with_reducible repeat (first | refine blk_drewN ?_ _ | refine blk_drew ?_ | refine blk_alloc ?_ _)); refine blk_far ?_ NB224_223.out _; (with_reducible repeat (first | refine blk_drewN ?_ _ | refine blk_drew ?_ | refine blk_alloc ?_ _)); refine blk_far ?_ NB224_223.out _; (with_reducible repeat (first | refine blk_drewN ?_ _ | refine blk_drew ?_ | refine blk_alloc ?_ _)); refine blk_far ?_ NB224_223.out _; (with_reducible repeat (first | refine blk_drewN ?_ _ | refine blk_drew ?_ | refine blk_alloc ?_ _)); exact BK224.out⟩
    have n6_ : Aside0 (Below w.heap.size w ((((((w73.setCell ⟨gb223, 0, none⟩ (.int .i64 t225)).setCell ⟨gb223, 1, none⟩ (.slice Ao75 t226.length co75)).setCell ⟨gb223, 2, none⟩ (.slice Ao77 t229.length co77)).setCell ⟨gb224, 0, none⟩ (.int .i64 t232)).setCell ⟨gb224, 1, none⟩ (.slice Ao80 t233.length co80)).setCell ⟨gb224, 2, none⟩ (.slice Ao82 t236.length co82))) := ⟨by repeat (first | (with_reducible first | exact HB.out | apply below_alloc | apply pw_below_drewN | apply below_drew1 | refine below_set ?_ GE223.out | refine below_set ?_ GE224.out) | exact HB.out)⟩
    (try clear HO228)
    (try clear HO231)
    (try clear HO235)
    (try clear HO238)
    (try clear BK223)
    (try clear BK224)
    (try clear HB)
    generalize ((((((w73.setCell ⟨gb223, 0, none⟩ (.int .i64 t225)).setCell ⟨gb223, 1, none⟩ (.slice Ao75 t226.length co75)).setCell ⟨gb223, 2, none⟩ (.slice Ao77 t229.length co77)).setCell ⟨gb224, 0, none⟩ (.int .i64 t232)).setCell ⟨gb224, 1, none⟩ (.slice Ao80 t233.length co80)).setCell ⟨gb224, 2, none⟩ (.slice Ao82 t236.length co82)) = w84 at n0_ n1_ n2_ n3_ n4_ n5_ n6_ ⊢
    have HO228 := n0_
    have HO231 := n1_
    have HO235 := n2_
    have HO238 := n3_
    have BK223 := n4_
    have BK224 := n5_
    have HB := n6_
    clear n0_ n1_ n2_ n3_ n4_ n5_ n6_
    have n0_ := Aside0.mk (Kd.R_drew HO228.out)
    have n1_ := Aside0.mk (Kd.R_drew HO231.out)
    have n2_ := Aside0.mk (Kd.R_drew HO235.out)
    have n3_ := Aside0.mk (Kd.R_drew HO238.out)
    have n4_ := Aside0.mk (blk_drew BK223.out)
    have n5_ := Aside0.mk (blk_drew BK224.out)
    have n6_ := Aside0.mk (below_drew1 HB.out)
    clear HO228
    clear HO231
    clear HO235
    clear HO238
    clear BK223
    clear BK224
    clear HB
    have HO228 := n0_
    have HO231 := n1_
    have HO235 := n2_
    have HO238 := n3_
    have BK223 := n4_
    have BK224 := n5_
    have HB := n6_
    clear n0_ n1_ n2_ n3_ n4_ n5_ n6_
    refine start_ (n := 10) (S := fun w' => w'.cell? ⟨gb223, 0, none⟩ = some (.int .i64 t225) ∧ w'.cell? ⟨gb223, 1, none⟩ = some (.slice Ao75 t226.length co75) ∧ w'.cell? ⟨gb223, 2, none⟩ = some (.slice Ao77 t229.length co77) ∧ w'.cell? ⟨gb224, 0, none⟩ = some (.int .i64 t232) ∧ w'.cell? ⟨gb224, 1, none⟩ = some (.slice Ao80 t233.length co80) ∧ w'.cell? ⟨gb224, 2, none⟩ = some (.slice Ao82 t236.length co82)) (ds := []) #[false, false, false, false, false, false, false, false, false, false] (by kernel_rfl) rfl rfl ⟨(blk_cell BK223.out 0).trans rfl, (blk_cell BK223.out 1).trans rfl, (blk_cell BK223.out 2).trans rfl, (blk_cell BK224.out 0).trans rfl, (blk_cell BK224.out 1).trans rfl, (blk_cell BK224.out 2).trans rfl⟩ (fun hHeld => ?_); refine with_tabW bautalaw39_StatsWorst.tab2 bautalaw39_StatsWorst.bits2 (fun HT_ HW_ => ?_)
    generalize w84.drew = w85 at HO228 HO231 HO235 HO238 BK223 BK224 HB hHeld ⊢
    refine take_ (i := 0) (N := some 14) (v := ?_) (a' := ?_) #[true, false, false, false, false, false, false, false, false, false] rfl rfl (take_ofW HT_.out HW_.out (by kernel_rfl)) (fun _ _ _ h => h) (Or.inl ⟨by rfl, ?_⟩) hHeld ?_ ?_
    rotate_left
    · rintro w' ⟨s0, s1, s2, s3, s4, s5⟩
      go_simp
      with_reducible rfl
    rotate_left
    · (simp only [Act.put, List.setIfInBounds_toArray, List.set_cons_zero, List.set_cons_succ, i64_w, i32_w])
      rfl
    refine take_ (i := 2) (N := some 16) (v := ?_) (a' := ?_) #[true, false, true, false, false, false, false, false, false, false] rfl rfl (take_ofW HT_.out HW_.out (by kernel_rfl)) (fun _ _ _ h => h) (Or.inl ⟨by rfl, ?_⟩) hHeld ?_ ?_
    rotate_left
    · rintro w' ⟨s0, s1, s2, s3, s4, s5⟩
      go_simp
      with_reducible rfl
    rotate_left
    · (simp only [Act.put, List.setIfInBounds_toArray, List.set_cons_zero, List.set_cons_succ, i64_w, i32_w])
      rfl
    refine one_ (i := 1) (N := some 15) #[true, true, true, false, false, false, false, false, false, false] rfl rfl (one_of HT_.out (by kernel_rfl)) (by decide) (fun K hK => ?_)
    refine goes_ Try.func9 (by kernel_rfl) rfl #[.agg #[.int .i64 t225, .slice Ao75 t226.length co75, .slice Ao77 t229.length co77]] (by rfl) rfl rfl (by (try simp only [List.map_toArray, List.map_cons, List.map_nil]); first | done | rfl | (simp only [List.length_drop, List.length_take]; done) | (simp only [List.length_drop, List.length_take]; rfl)) ?_
    with_reducible refine (bautalaw39_own.calls t225 _ _ t226 _ _ t229 t239 t240 t243 _ ?side1 ?side2 ?side3 ?side4 A5.out).mono ?_
    (case side1 => repeat (first | exact (Kd.R_reads' HO228.out).2.2 | (with_reducible refine Kd.C_alloc ?_ _) | (with_reducible refine Kd.C_drewN ?_ _) | (with_reducible refine Kd.C_drew ?_)))
    (case side2 => exact (Kd.R_reads' HO228.out).2.1)
    (case side3 => repeat (first | exact (Kd.R_reads' HO231.out).2.2 | (with_reducible refine Kd.C_alloc ?_ _) | (with_reducible refine Kd.C_drewN ?_ _) | (with_reducible refine Kd.C_drew ?_)))
    (case side4 => exact (Kd.R_reads' HO231.out).2.1)
    rintro e w86 ⟨v241, v244, rfl, ho0, ho1, hb⟩
    refine ⟨_, rfl, ?_⟩
    have n0_ := Aside0.mk (Kd.R_mono (Kd.R_told (Kd.R_told (Kd.R_old (rr_ HO228) hb) (Kd.R_base ho0)) (Kd.R_base ho1)) (fun _ h_ => h_.1))
    have n1_ := Aside0.mk (Kd.R_mono (Kd.R_told (Kd.R_told (Kd.R_old (rr_ HO231) hb) (Kd.R_base ho0)) (Kd.R_base ho1)) (fun _ h_ => h_.1))
    have n2_ := Aside0.mk (Kd.R_mono (Kd.R_told (Kd.R_told (Kd.R_old (rr_ HO235) hb) (Kd.R_base ho0)) (Kd.R_base ho1)) (fun _ h_ => h_.1))
    have n3_ := Aside0.mk (Kd.R_mono (Kd.R_told (Kd.R_told (Kd.R_old (rr_ HO238) hb) (Kd.R_base ho0)) (Kd.R_base ho1)) (fun _ h_ => h_.1))
    have n4_ := Aside0.mk (Kd.R_lower (Kd.R_new' (Kd.R_new' (Kd.R_new' (Kd.R_new' ho0 (Kd.R_lt (rr_ HO228))) (Kd.R_lt (rr_ HO231))) (Kd.R_lt (rr_ HO235))) (Kd.R_lt (rr_ HO238))) (below_size (by repeat (first | (with_reducible first | exact HB.out | apply below_alloc | apply pw_below_drewN | apply below_drew1 | refine below_set ?_ GE223.out | refine below_set ?_ GE224.out) | exact HB.out))))
    have n5_ := Aside0.mk (Kd.R_lower (Kd.R_new' (Kd.R_new' (Kd.R_new' (Kd.R_new' ho1 (Kd.R_lt (rr_ HO228))) (Kd.R_lt (rr_ HO231))) (Kd.R_lt (rr_ HO235))) (Kd.R_lt (rr_ HO238))) (below_size (by repeat (first | (with_reducible first | exact HB.out | apply below_alloc | apply pw_below_drewN | apply below_drew1 | refine below_set ?_ GE223.out | refine below_set ?_ GE224.out) | exact HB.out))))
    have n6_ := Aside0.mk (blk_below (rb_ BK223) hb)
    have n7_ := Aside0.mk (blk_below (rb_ BK224) hb)
    have n8_ := Aside0.mk (below_step (by repeat (first | (with_reducible first | exact HB.out | apply below_alloc | apply pw_below_drewN | apply below_drew1 | refine below_set ?_ GE223.out | refine below_set ?_ GE224.out) | exact HB.out)) hb)
    clear HO228
    clear HO231
    clear HO235
    clear HO238
    clear BK223
    clear BK224
    clear HB
    have HO228 := n0_
    have HO231 := n1_
    have HO235 := n2_
    have HO238 := n3_
    have HO242 := n4_
    have HO245 := n5_
    have BK223 := n6_
    have BK224 := n7_
    have HB := n8_
    clear n0_ n1_ n2_ n3_ n4_ n5_ n6_ n7_ n8_
    (try clear hb)
    (try clear hb2)
    (try clear hk)
    (try clear hi)
    (try clear ho0)
    (try clear ho1)
    refine hK.out _ _ ⟨(blk_cell BK223.out 0).trans rfl, (blk_cell BK223.out 1).trans rfl, (blk_cell BK223.out 2).trans rfl, (blk_cell BK224.out 0).trans rfl, (blk_cell BK224.out 1).trans rfl, (blk_cell BK224.out 2).trans rfl⟩ (fun hHeld => ?_)
    clear hK K
    refine norm_ (a' := ?_) ?_ ?_
    rotate_left
    · show Act.put _ (some 15) _ = _
      (simp only [Act.put, List.setIfInBounds_toArray, List.set_cons_zero, List.set_cons_succ, i64_w, i32_w])
      rfl
    refine one_ (i := 3) (N := some 17) #[true, true, true, true, false, false, false, false, false, false] rfl rfl (one_of HT_.out (by kernel_rfl)) (by decide) (fun K hK => ?_)
    refine goes_ Try.func9 (by kernel_rfl) rfl #[.agg #[.int .i64 t232, .slice Ao80 t233.length co80, .slice Ao82 t236.length co82]] (by rfl) rfl rfl (by (try simp only [List.map_toArray, List.map_cons, List.map_nil]); first | done | rfl | (simp only [List.length_drop, List.length_take]; done) | (simp only [List.length_drop, List.length_take]; rfl)) ?_
    with_reducible refine (bautalaw39_own.calls t232 _ _ t233 _ _ t236 t246 t247 t250 _ ?side1 ?side2 ?side3 ?side4 A6.out).mono ?_
    (case side1 => repeat (first | exact (Kd.R_reads' HO235.out).2.2 | (with_reducible refine Kd.C_alloc ?_ _) | (with_reducible refine Kd.C_drewN ?_ _) | (with_reducible refine Kd.C_drew ?_)))
    (case side2 => exact (Kd.R_reads' HO235.out).2.1)
    (case side3 => repeat (first | exact (Kd.R_reads' HO238.out).2.2 | (with_reducible refine Kd.C_alloc ?_ _) | (with_reducible refine Kd.C_drewN ?_ _) | (with_reducible refine Kd.C_drew ?_)))
    (case side4 => exact (Kd.R_reads' HO238.out).2.1)
    rintro e w87 ⟨v248, v251, rfl, ho0, ho1, hb⟩
    refine ⟨_, rfl, ?_⟩
    have n0_ := Aside0.mk (Kd.R_mono (Kd.R_told (Kd.R_told (Kd.R_old (rr_ HO228) hb) (Kd.R_base ho0)) (Kd.R_base ho1)) (fun _ h_ => h_.1))
    have n1_ := Aside0.mk (Kd.R_mono (Kd.R_told (Kd.R_told (Kd.R_old (rr_ HO231) hb) (Kd.R_base ho0)) (Kd.R_base ho1)) (fun _ h_ => h_.1))
    have n2_ := Aside0.mk (Kd.R_mono (Kd.R_told (Kd.R_told (Kd.R_old (rr_ HO235) hb) (Kd.R_base ho0)) (Kd.R_base ho1)) (fun _ h_ => h_.1))
    have n3_ := Aside0.mk (Kd.R_mono (Kd.R_told (Kd.R_told (Kd.R_old (rr_ HO238) hb) (Kd.R_base ho0)) (Kd.R_base ho1)) (fun _ h_ => h_.1))
    have n4_ := Aside0.mk (Kd.R_mono (Kd.R_told (Kd.R_told (Kd.R_old (rr_ HO242) hb) (Kd.R_base ho0)) (Kd.R_base ho1)) (fun _ h_ => h_.1))
    have n5_ := Aside0.mk (Kd.R_mono (Kd.R_told (Kd.R_told (Kd.R_old (rr_ HO245) hb) (Kd.R_base ho0)) (Kd.R_base ho1)) (fun _ h_ => h_.1))
    have n6_ := Aside0.mk (Kd.R_lower (Kd.R_new' (Kd.R_new' (Kd.R_new' (Kd.R_new' (Kd.R_new' (Kd.R_new' ho0 (Kd.R_lt (rr_ HO228))) (Kd.R_lt (rr_ HO231))) (Kd.R_lt (rr_ HO235))) (Kd.R_lt (rr_ HO238))) (Kd.R_lt (rr_ HO242))) (Kd.R_lt (rr_ HO245))) (below_size (by repeat (first | (with_reducible first | exact HB.out | apply below_alloc | apply pw_below_drewN | apply below_drew1 | refine below_set ?_ GE223.out | refine below_set ?_ GE224.out) | exact HB.out))))
    have n7_ := Aside0.mk (Kd.R_lower (Kd.R_new' (Kd.R_new' (Kd.R_new' (Kd.R_new' (Kd.R_new' (Kd.R_new' ho1 (Kd.R_lt (rr_ HO228))) (Kd.R_lt (rr_ HO231))) (Kd.R_lt (rr_ HO235))) (Kd.R_lt (rr_ HO238))) (Kd.R_lt (rr_ HO242))) (Kd.R_lt (rr_ HO245))) (below_size (by repeat (first | (with_reducible first | exact HB.out | apply below_alloc | apply pw_below_drewN | apply below_drew1 | refine below_set ?_ GE223.out | refine below_set ?_ GE224.out) | exact HB.out))))
    have n8_ := Aside0.mk (blk_below (rb_ BK223) hb)
    have n9_ := Aside0.mk (blk_below (rb_ BK224) hb)
    have n10_ := Aside0.mk (below_step (by repeat (first | (with_reducible first | exact HB.out | apply below_alloc | apply pw_below_drewN | apply below_drew1 | refine below_set ?_ GE223.out | refine below_set ?_ GE224.out) | exact HB.out)) hb)
    clear HO228
    clear HO231
    clear HO235
    clear HO238
    clear HO242
    clear HO245
    clear BK223
    clear BK224
    clear HB
    have HO228 := n0_
    have HO231 := n1_
    have HO235 := n2_
    have HO238 := n3_
    have HO242 := n4_
    have HO245 := n5_
    have HO249 := n6_
    have HO252 := n7_
    have BK223 := n8_
    have BK224 := n9_
    have HB := n10_
    clear n0_ n1_ n2_ n3_ n4_ n5_ n6_ n7_ n8_ n9_ n10_
    (try clear hb)
    (try clear hb2)
    (try clear hk)
    (try clear hi)
    (try clear ho0)
    (try clear ho1)
    obtain ⟨Ao88, co88, eo88⟩ := Kd.R_slice HO242.out
    (first | subst eo88 | (injection eo88 with f1_ f2_ f3_; have f4_ := f1_.symm; have f5_ := f3_.symm; clear f1_ f2_ f3_; subst f4_; subst f5_))
    obtain ⟨Ao89, co89, eo89⟩ := Kd.R_slice HO245.out
    (first | subst eo89 | (injection eo89 with f1_ f2_ f3_; have f4_ := f1_.symm; have f5_ := f3_.symm; clear f1_ f2_ f3_; subst f4_; subst f5_))
    obtain ⟨Ao90, co90, eo90⟩ := Kd.R_slice HO249.out
    (first | subst eo90 | (injection eo90 with f1_ f2_ f3_; have f4_ := f1_.symm; have f5_ := f3_.symm; clear f1_ f2_ f3_; subst f4_; subst f5_))
    obtain ⟨Ao91, co91, eo91⟩ := Kd.R_slice HO252.out
    (first | subst eo91 | (injection eo91 with f1_ f2_ f3_; have f4_ := f1_.symm; have f5_ := f3_.symm; clear f1_ f2_ f3_; subst f4_; subst f5_))
    refine hK.out _ _ ⟨(blk_cell BK223.out 0).trans rfl, (blk_cell BK223.out 1).trans rfl, (blk_cell BK223.out 2).trans rfl, (blk_cell BK224.out 0).trans rfl, (blk_cell BK224.out 1).trans rfl, (blk_cell BK224.out 2).trans rfl⟩ (fun hHeld => ?_)
    clear hK K
    refine norm_ (a' := ?_) ?_ ?_
    rotate_left
    · show Act.put _ (some 17) _ = _
      (simp only [Act.put, List.setIfInBounds_toArray, List.set_cons_zero, List.set_cons_succ, i64_w, i32_w])
      rfl
    refine one_ (i := 4) (N := some 18) #[true, true, true, true, true, false, false, false, false, false] rfl rfl (one_of HT_.out (by kernel_rfl)) (by decide) (fun K hK => ?_)
    refine goes_ Try.func19 (by kernel_rfl) rfl #[.agg #[.int .i64 t239, .slice Ao88 t240.length co88, .slice Ao89 t243.length co89], .agg #[.int .i64 t246, .slice Ao90 t247.length co90, .slice Ao91 t250.length co91]] (by rfl) rfl rfl (by (try simp only [List.map_toArray, List.map_cons, List.map_nil]); first | done | rfl | (simp only [List.length_drop, List.length_take]; done) | (simp only [List.length_drop, List.length_take]; rfl)) ?_
    with_reducible refine (stats_Worst.calls k t239 _ _ t240 _ _ t243 t246 _ _ t247 _ _ t250 t253 t254 _ ?side1 ?side2 ?side3 ?side4 ?side5 ?side6 ?side7 ?side8 A7.out).mono ?_
    (case side1 => repeat (first | exact (Kd.R_reads' HO242.out).2.2 | (with_reducible refine Kd.C_alloc ?_ _) | (with_reducible refine Kd.C_drewN ?_ _) | (with_reducible refine Kd.C_drew ?_)))
    (case side2 => exact (Kd.R_reads' HO242.out).2.1)
    (case side3 => repeat (first | exact (Kd.R_reads' HO245.out).2.2 | (with_reducible refine Kd.C_alloc ?_ _) | (with_reducible refine Kd.C_drewN ?_ _) | (with_reducible refine Kd.C_drew ?_)))
    (case side4 => exact (Kd.R_reads' HO245.out).2.1)
    (case side5 => repeat (first | exact (Kd.R_reads' HO249.out).2.2 | (with_reducible refine Kd.C_alloc ?_ _) | (with_reducible refine Kd.C_drewN ?_ _) | (with_reducible refine Kd.C_drew ?_)))
    (case side6 => exact (Kd.R_reads' HO249.out).2.1)
    (case side7 => repeat (first | exact (Kd.R_reads' HO252.out).2.2 | (with_reducible refine Kd.C_alloc ?_ _) | (with_reducible refine Kd.C_drewN ?_ _) | (with_reducible refine Kd.C_drew ?_)))
    (case side8 => exact (Kd.R_reads' HO252.out).2.1)
    rintro e w92 ⟨rfl, hb⟩
    refine ⟨_, rfl, ?_⟩
    have n0_ := Aside0.mk (Kd.R_below (rr_ HO228) hb)
    have n1_ := Aside0.mk (Kd.R_below (rr_ HO231) hb)
    have n2_ := Aside0.mk (Kd.R_below (rr_ HO235) hb)
    have n3_ := Aside0.mk (Kd.R_below (rr_ HO238) hb)
    have n4_ := Aside0.mk (Kd.R_below (rr_ HO242) hb)
    have n5_ := Aside0.mk (Kd.R_below (rr_ HO245) hb)
    have n6_ := Aside0.mk (Kd.R_below (rr_ HO249) hb)
    have n7_ := Aside0.mk (Kd.R_below (rr_ HO252) hb)
    have n8_ := Aside0.mk (blk_below (rb_ BK223) hb)
    have n9_ := Aside0.mk (blk_below (rb_ BK224) hb)
    have n10_ := Aside0.mk (below_step (by repeat (first | (with_reducible first | exact HB.out | apply below_alloc | apply pw_below_drewN | apply below_drew1 | refine below_set ?_ GE223.out | refine below_set ?_ GE224.out) | exact HB.out)) hb)
    clear HO228
    clear HO231
    clear HO235
    clear HO238
    clear HO242
    clear HO245
    clear HO249
    clear HO252
    clear BK223
    clear BK224
    clear HB
    have HO228 := n0_
    have HO231 := n1_
    have HO235 := n2_
    have HO238 := n3_
    have HO242 := n4_
    have HO245 := n5_
    have HO249 := n6_
    have HO252 := n7_
    have BK223 := n8_
    have BK224 := n9_
    have HB := n10_
    clear n0_ n1_ n2_ n3_ n4_ n5_ n6_ n7_ n8_ n9_ n10_
    (try clear hb)
    (try clear hb2)
    (try clear hk)
    (try clear hi)
    refine hK.out _ _ ⟨(blk_cell BK223.out 0).trans rfl, (blk_cell BK223.out 1).trans rfl, (blk_cell BK223.out 2).trans rfl, (blk_cell BK224.out 0).trans rfl, (blk_cell BK224.out 1).trans rfl, (blk_cell BK224.out 2).trans rfl⟩ (fun hHeld => ?_)
    clear hK K
    refine norm_ (a' := ?_) ?_ ?_
    rotate_left
    · show Act.put _ (some 18) _ = _
      (simp only [Act.put, List.setIfInBounds_toArray, List.set_cons_zero, List.set_cons_succ, i64_w, i32_w])
      rfl
    refine pure_ (i := 5) (N := some 13) (v := ?_) (a' := ?_) #[true, true, true, true, true, true, false, false, false, false] rfl rfl (any_of HT_.out (by kernel_rfl)) (fun _ _ _ h => h) (Or.inl ⟨by rfl, ?_⟩) ?_ ?_
    rotate_left
    · intro w'
      go_simp
      with_reducible rfl
    rotate_left
    · (simp only [Act.put, List.setIfInBounds_toArray, List.set_cons_zero, List.set_cons_succ, i64_w, i32_w])
      rfl
    refine pure_ (i := 6) (N := some 19) (v := ?_) (a' := ?_) #[true, true, true, true, true, true, true, false, false, false] rfl rfl (any_of HT_.out (by kernel_rfl)) (fun _ _ _ h => h) (Or.inl ⟨by rfl, ?_⟩) ?_ ?_
    rotate_left
    · intro w'
      go_simp
      with_reducible rfl
    rotate_left
    · (simp only [Act.put, List.setIfInBounds_toArray, List.set_cons_zero, List.set_cons_succ, i64_w, i32_w])
      rfl
    refine pure_ (i := 7) (N := some 20) (v := ?_) (a' := ?_) #[true, true, true, true, true, true, true, true, false, false] rfl rfl (any_of HT_.out (by kernel_rfl)) (fun _ _ _ h => h) (Or.inl ⟨by rfl, ?_⟩) ?_ ?_
    rotate_left
    · intro w'
      go_simp
      with_reducible rfl
    rotate_left
    · (simp only [Act.put, List.setIfInBounds_toArray, List.set_cons_zero, List.set_cons_succ, i64_w, i32_w])
      rfl
    refine pure_ (i := 8) (N := some 5) (v := ?_) (a' := ?_) #[true, true, true, true, true, true, true, true, true, false] rfl rfl (any_of HT_.out (by kernel_rfl)) (fun _ _ _ h => h) (Or.inl ⟨by rfl, ?_⟩) ?_ ?_
    rotate_left
    · intro w'
      go_simp
      with_reducible rfl
    rotate_left
    · (simp only [Act.put, List.setIfInBounds_toArray, List.set_cons_zero, List.set_cons_succ, i64_w, i32_w])
      rfl
    refine pure_ (i := 9) (N := some 6) (v := ?_) (a' := ?_) #[true, true, true, true, true, true, true, true, true, true] rfl rfl (any_of HT_.out (by kernel_rfl)) (fun _ _ _ h => h) (Or.inl ⟨by rfl, ?_⟩) ?_ ?_
    rotate_left
    · intro w'
      go_simp
      with_reducible rfl
    rotate_left
    · (simp only [Act.put, List.setIfInBounds_toArray, List.set_cons_zero, List.set_cons_succ, i64_w, i32_w])
      rfl
    refine done_ (done_of HT_.out (by kernel_rfl)) ?_
    have hnb93 := NB223_224.out
    have hnc93 := NB224_223.out
    have hcz94_0 : w92.cell? ⟨gb223, 0, none⟩ = some (.int .i64 t225) := (blk_cell BK223.out 0).trans rfl
    have hcz94_1 : w92.cell? ⟨gb223, 1, none⟩ = some (.slice Ao75 t226.length co75) := (blk_cell BK223.out 1).trans rfl
    have hcz94_2 : w92.cell? ⟨gb223, 2, none⟩ = some (.slice Ao77 t229.length co77) := (blk_cell BK223.out 2).trans rfl
    have hfz94_0 := blk_frozen BK223.out 0
    have hfz94_1 := blk_frozen BK223.out 1
    have hfz94_2 := blk_frozen BK223.out 2
    have hcz95_0 : w92.cell? ⟨gb224, 0, none⟩ = some (.int .i64 t232) := (blk_cell BK224.out 0).trans rfl
    have hcz95_1 : w92.cell? ⟨gb224, 1, none⟩ = some (.slice Ao80 t233.length co80) := (blk_cell BK224.out 1).trans rfl
    have hcz95_2 : w92.cell? ⟨gb224, 2, none⟩ = some (.slice Ao82 t236.length co82) := (blk_cell BK224.out 2).trans rfl
    have hfz95_0 := blk_frozen BK224.out 0
    have hfz95_1 := blk_frozen BK224.out 1
    have hfz95_2 := blk_frozen BK224.out 2
    try go_wp2_with (first | ((with_reducible refine gate_callee (f := 20) rfl ?_); refine goesL_ (some 24) rfl rfl Try.func20 (by kernel_rfl) rfl #[.agg #[.int .i64 t225, .slice Ao75 t226.length co75, .slice Ao77 t229.length co77], .agg #[.int .i64 t232, .slice Ao80 t233.length co80, .slice Ao82 t236.length co82]] rfl (by (try simp only [List.map_toArray, List.map_cons, List.map_nil]); first | done | rfl | (simp only [List.length_drop, List.length_take]; done) | (simp only [List.length_drop, List.length_take]; rfl)) ?_; (with_reducible refine (bautaref39_Worst.calls k t225 _ _ t226 _ _ t229 t232 _ _ t233 _ _ t236 t255 t256 _ ?side1 ?side2 ?side3 ?side4 ?side5 ?side6 ?side7 ?side8 A8.out).mono ?_); (case side1 => repeat (first | exact (Kd.R_reads' HO228.out).2.2 | (with_reducible refine Kd.C_alloc ?_ _) | (with_reducible refine Kd.C_drewN ?_ _) | (with_reducible refine Kd.C_drew ?_))); (case side2 => exact (Kd.R_reads' HO228.out).2.1); (case side3 => repeat (first | exact (Kd.R_reads' HO231.out).2.2 | (with_reducible refine Kd.C_alloc ?_ _) | (with_reducible refine Kd.C_drewN ?_ _) | (with_reducible refine Kd.C_drew ?_))); (case side4 => exact (Kd.R_reads' HO231.out).2.1); (case side5 => repeat (first | exact (Kd.R_reads' HO235.out).2.2 | (with_reducible refine Kd.C_alloc ?_ _) | (with_reducible refine Kd.C_drewN ?_ _) | (with_reducible refine Kd.C_drew ?_))); (case side6 => exact (Kd.R_reads' HO235.out).2.1); (case side7 => repeat (first | exact (Kd.R_reads' HO238.out).2.2 | (with_reducible refine Kd.C_alloc ?_ _) | (with_reducible refine Kd.C_drewN ?_ _) | (with_reducible refine Kd.C_drew ?_))); (case side8 => exact (Kd.R_reads' HO238.out).2.1); rintro e wz_ ⟨rfl, hb⟩; refine ⟨_, rfl, ?_⟩; have n0_ := Aside0.mk (Kd.R_below (rr_ HO228) hb); have n1_ := Aside0.mk (Kd.R_below (rr_ HO231) hb); have n2_ := Aside0.mk (Kd.R_below (rr_ HO235) hb); have n3_ := Aside0.mk (Kd.R_below (rr_ HO238) hb); have n4_ := Aside0.mk (Kd.R_below (rr_ HO242) hb); have n5_ := Aside0.mk (Kd.R_below (rr_ HO245) hb); have n6_ := Aside0.mk (Kd.R_below (rr_ HO249) hb); have n7_ := Aside0.mk (Kd.R_below (rr_ HO252) hb); have n8_ := Aside0.mk (blk_below (rb_ BK223) hb); have n9_ := Aside0.mk (blk_below (rb_ BK224) hb); have n10_ := Aside0.mk (below_step (by repeat (first | (with_reducible first | exact HB.out | apply below_alloc | apply pw_below_drewN | apply below_drew1 | refine below_set ?_ GE223.out | refine below_set ?_ GE224.out) | exact HB.out)) hb); clear HO228; clear HO231; clear HO235; clear HO238; clear HO242; clear HO245; clear HO249; clear HO252; clear BK223; clear BK224; clear HB; have HO228 := n0_; have HO231 := n1_; have HO235 := n2_; have HO238 := n3_; have HO242 := n4_; have HO245 := n5_; have HO249 := n6_; have HO252 := n7_; have BK223 := n8_; have BK224 := n9_; have HB := n10_; clear n0_ n1_ n2_ n3_ n4_ n5_ n6_ n7_ n8_ n9_ n10_; (try clear hb); (try clear hb2); (try clear hk); (try clear hi)))
    go_ret
    exact ⟨by first | rfl | (simp [errW_none, errW_some] <;> rfl) | (simp [*, errW_none, errW_some] <;> rfl), by repeat (first | (with_reducible first | exact HB.out | apply below_alloc | apply pw_below_drewN | apply below_drew1 | refine below_set ?_ GE223.out | refine below_set ?_ GE224.out) | exact HB.out)⟩

end Go.Proofs.Ytbohanoekboifaa.PW
