/- Written by this session's own program (wip/tools/pr.sh) for this claim: functions of the Go program as plain Lean functions, and that the calls come to what these say; in a Law text: the given statement. Conditions: none but the hypotheses that each theorem states. -/
import Derived.Test.YtkcechbibabpjaaAb
import Derived.Test.YtkcechbibabpjaaPAx0
import Derived.Test.YtkcechbibabpjaaPAx1
import Derived.Test.YtkcechbibabpjaaPAx2
namespace Go.Proofs.Ytkcechbibabpjaa.PA
open Go.RowKit Go.Proofs.YtkcechbibabpjaaW.PrintWords Go.Proofs.YtkcechbibabpjaaW.PrintLast Go.Proofs.YtkcechbibabpjaaW.PrintMore Go.Proofs.Ytkcechbibabpjaa.Ab
attribute [local go_sem] max2_int min2_int max_two min_two max_three min_three max_four min_four   -- for this text's walks alone
set_option linter.unusedVariables false
set_option linter.unusedSimpArgs false


/-! ### bautalaw38_TapeQuarters: function 3 -/
def bautalaw38_TapeQuarters.f (k : Nat) (a0_0 : Int) (a0_1 : Int) (a0_2 : Int) (a0_3 : Int) : Option (Bool) := (tape_Quarter.f a0_0 a0_1 a0_2 a0_3).bind fun bt163 => ((bautaref38_Quarter.f k a0_0 a0_1 a0_2 a0_3).bind fun bt168 => (if bt163.1 = bt168.1 then (if bt163.2.1 = bt168.2.1 then (if bt163.2.2.1 = bt168.2.2.1 then (if bt163.2.2.2 = bt168.2.2.2 then ((tape_Back.f bt163.1 bt163.2.1 bt163.2.2.1 bt163.2.2.2).bind fun bt172 => (if bt172.1 = a0_0 then (if bt172.2.1 = a0_1 then (if bt172.2.2.1 = a0_2 then (if bt172.2.2.2 = a0_3 then ((tape_Back.f a0_0 a0_1 a0_2 a0_3).bind fun bt176 => ((tape_Quarter.f bt176.1 bt176.2.1 bt176.2.2.1 bt176.2.2.2).bind fun bt180 => (if bt180.1 = a0_0 then (if bt180.2.1 = a0_1 then (if bt180.2.2.1 = a0_2 then (if bt180.2.2.2 = a0_3 then ((bautalaw38_lives.f).bind fun t184 => (some t184)) else (some false)) else (some false)) else (some false)) else (some false)))) else (some false)) else (some false)) else (some false)) else (some false))) else (some false)) else (some false)) else (some false)) else (some false)))
theorem bautalaw38_TapeQuarters.mono : ∀ a0 a1 a2 a3 k, LeO (bautalaw38_TapeQuarters.f k a0 a1 a2 a3) (bautalaw38_TapeQuarters.f (k + 1) a0 a1 a2 a3) := by
  intro a0 a1 a2 a3 k
  unfold bautalaw38_TapeQuarters.f
  repeat' first
      | (with_reducible exact bautaref38_Quarter.mono _ _ _ _ _)
      | (with_reducible exact LeO.refl _)
      | (with_reducible exact LeO.none _)
      | (with_reducible refine LeO.ite ?_ ?_)
      | (with_reducible refine LeO.bind ?_ (fun _ => ?_))
      | exact bautaref38_Quarter.mono _ _ _ _ _
      | exact LeO.none _
      | refine LeO.ite ?_ ?_
      | refine LeO.bind ?_ (fun _ => ?_)
def bautalaw38_TapeQuarters.T2 : Bool × List (List Nat × List Nat) := (true, [([], []), ([], []), ([1], [1]), ([0, 2], [0, 2]), ([3, 2], [3]), ([4], [4]), ([5, 4, 4], [4, 5]), ([4], [4]), ([6, 7, 4], [4, 6, 7]), ([4, 8], [4, 8]), ([9, 6], [9]), ([10], [10]), ([11, 10, 10], [10, 11]), ([12, 12, 10], [10, 12]), ([10], [10]), ([13, 14, 10], [10, 13, 14]), ([10, 15], [10, 15]), ([16, 13], [16]), ([17, 17], [17]), ([17, 18], [17, 18]), ([19, 18, 0, 1, 2, 3, 4, 5, 6, 7, 8, 9, 10, 11, 12, 13, 14, 15, 16, 17, 18, 19], [19])])
def bautalaw38_TapeQuarters.B2 : List Nat := [0, 0, 2, 7, 15, 31, 63, 31, 255, 511, 1023, 2047, 4095, 8191, 2047, 32767, 65535, 131071, 262143, 524287, 1048575]
theorem bautalaw38_TapeQuarters.tab2 : rtab .any (opsOf Try.f3 2) = bautalaw38_TapeQuarters.T2 := by kernel_rfl
theorem bautalaw38_TapeQuarters.bits2 : waitsOk bautalaw38_TapeQuarters.T2.2 bautalaw38_TapeQuarters.B2 = true := by kernel_rfl
set_option maxHeartbeats 8000000 in
set_option maxRecDepth 100000 in
theorem bautalaw38_TapeQuarters.calls (k : Nat) (a0_0 : Int) (a0_1 : Int) (a0_2 : Int) (a0_3 : Int) (r : Bool) (w : World) (h : bautalaw38_TapeQuarters.f k a0_0 a0_1 a0_2 a0_3 = some r) (hrt : r = true) :
    Calls Try.prog 3 #[.agg #[.int .u32 a0_0, .int .u32 a0_1, .int .u32 a0_2, .int .u32 a0_3]] w fun e w' => e = .returned (.bool r) ∧ Below w.heap.size w w' := by
  have hu23 := Try.underlying23
  have HB := Aside0.mk (Below.refl w.heap.size w)
  have H : ((tape_Quarter.f a0_0 a0_1 a0_2 a0_3).bind fun bt163 => ((bautaref38_Quarter.f k a0_0 a0_1 a0_2 a0_3).bind fun bt168 => (if bt163.1 = bt168.1 then (if bt163.2.1 = bt168.2.1 then (if bt163.2.2.1 = bt168.2.2.1 then (if bt163.2.2.2 = bt168.2.2.2 then ((tape_Back.f bt163.1 bt163.2.1 bt163.2.2.1 bt163.2.2.2).bind fun bt172 => (if bt172.1 = a0_0 then (if bt172.2.1 = a0_1 then (if bt172.2.2.1 = a0_2 then (if bt172.2.2.2 = a0_3 then ((tape_Back.f a0_0 a0_1 a0_2 a0_3).bind fun bt176 => ((tape_Quarter.f bt176.1 bt176.2.1 bt176.2.2.1 bt176.2.2.2).bind fun bt180 => (if bt180.1 = a0_0 then (if bt180.2.1 = a0_1 then (if bt180.2.2.1 = a0_2 then (if bt180.2.2.2 = a0_3 then ((bautalaw38_lives.f).bind fun t184 => (some t184)) else (some false)) else (some false)) else (some false)) else (some false)))) else (some false)) else (some false)) else (some false)) else (some false))) else (some false)) else (some false)) else (some false)) else (some false)))) = some r := h
  clear h
  replace H := Option.bind_eq_some_iff.mp H
  obtain ⟨⟨t163, t164, t165, t166⟩, A20, H⟩ := H
  replace H : ((bautaref38_Quarter.f k a0_0 a0_1 a0_2 a0_3).bind fun bt168 => (if t163 = bt168.1 then (if t164 = bt168.2.1 then (if t165 = bt168.2.2.1 then (if t166 = bt168.2.2.2 then ((tape_Back.f t163 t164 t165 t166).bind fun bt172 => (if bt172.1 = a0_0 then (if bt172.2.1 = a0_1 then (if bt172.2.2.1 = a0_2 then (if bt172.2.2.2 = a0_3 then ((tape_Back.f a0_0 a0_1 a0_2 a0_3).bind fun bt176 => ((tape_Quarter.f bt176.1 bt176.2.1 bt176.2.2.1 bt176.2.2.2).bind fun bt180 => (if bt180.1 = a0_0 then (if bt180.2.1 = a0_1 then (if bt180.2.2.1 = a0_2 then (if bt180.2.2.2 = a0_3 then ((bautalaw38_lives.f).bind fun t184 => (some t184)) else (some false)) else (some false)) else (some false)) else (some false)))) else (some false)) else (some false)) else (some false)) else (some false))) else (some false)) else (some false)) else (some false)) else (some false))) = some r := H
  have A2 := Aside0.mk A20
  clear A20
  replace H := Option.bind_eq_some_iff.mp H
  obtain ⟨⟨t168, t169, t170, t171⟩, A30, H⟩ := H
  replace H : (if t163 = t168 then (if t164 = t169 then (if t165 = t170 then (if t166 = t171 then ((tape_Back.f t163 t164 t165 t166).bind fun bt172 => (if bt172.1 = a0_0 then (if bt172.2.1 = a0_1 then (if bt172.2.2.1 = a0_2 then (if bt172.2.2.2 = a0_3 then ((tape_Back.f a0_0 a0_1 a0_2 a0_3).bind fun bt176 => ((tape_Quarter.f bt176.1 bt176.2.1 bt176.2.2.1 bt176.2.2.2).bind fun bt180 => (if bt180.1 = a0_0 then (if bt180.2.1 = a0_1 then (if bt180.2.2.1 = a0_2 then (if bt180.2.2.2 = a0_3 then ((bautalaw38_lives.f).bind fun t184 => (some t184)) else (some false)) else (some false)) else (some false)) else (some false)))) else (some false)) else (some false)) else (some false)) else (some false))) else (some false)) else (some false)) else (some false)) else (some false)) = some r := H
  have A3 := Aside0.mk A30
  clear A30
  by_cases c4 : t163 = t168
  · rw [if_pos c4] at H
    have c4b0 : (t163 == t168) = true := beq_iff_eq.mpr c4
    have c4b1 : (t163 != t168) = false := bne_eq_false_iff_eq.mpr c4
    clear c4
    by_cases c5 : t164 = t169
    · rw [if_pos c5] at H
      have c5b0 : (t164 == t169) = true := beq_iff_eq.mpr c5
      have c5b1 : (t164 != t169) = false := bne_eq_false_iff_eq.mpr c5
      clear c5
      by_cases c6 : t165 = t170
      · rw [if_pos c6] at H
        have c6b0 : (t165 == t170) = true := beq_iff_eq.mpr c6
        have c6b1 : (t165 != t170) = false := bne_eq_false_iff_eq.mpr c6
        clear c6
        by_cases c7 : t166 = t171
        · rw [if_pos c7] at H
          have c7b0 : (t166 == t171) = true := beq_iff_eq.mpr c7
          have c7b1 : (t166 != t171) = false := bne_eq_false_iff_eq.mpr c7
          clear c7
          replace H := Option.bind_eq_some_iff.mp H
          obtain ⟨⟨t172, t173, t174, t175⟩, A80, H⟩ := H
          replace H : (if t172 = a0_0 then (if t173 = a0_1 then (if t174 = a0_2 then (if t175 = a0_3 then ((tape_Back.f a0_0 a0_1 a0_2 a0_3).bind fun bt176 => ((tape_Quarter.f bt176.1 bt176.2.1 bt176.2.2.1 bt176.2.2.2).bind fun bt180 => (if bt180.1 = a0_0 then (if bt180.2.1 = a0_1 then (if bt180.2.2.1 = a0_2 then (if bt180.2.2.2 = a0_3 then ((bautalaw38_lives.f).bind fun t184 => (some t184)) else (some false)) else (some false)) else (some false)) else (some false)))) else (some false)) else (some false)) else (some false)) else (some false)) = some r := H
          have A8 := Aside0.mk A80
          clear A80
          by_cases c9 : t172 = a0_0
          · rw [if_pos c9] at H
            have c9b0 : (t172 == a0_0) = true := beq_iff_eq.mpr c9
            have c9b1 : (t172 != a0_0) = false := bne_eq_false_iff_eq.mpr c9
            clear c9
            by_cases c10 : t173 = a0_1
            · rw [if_pos c10] at H
              have c10b0 : (t173 == a0_1) = true := beq_iff_eq.mpr c10
              have c10b1 : (t173 != a0_1) = false := bne_eq_false_iff_eq.mpr c10
              clear c10
              by_cases c11 : t174 = a0_2
              · rw [if_pos c11] at H
                have c11b0 : (t174 == a0_2) = true := beq_iff_eq.mpr c11
                have c11b1 : (t174 != a0_2) = false := bne_eq_false_iff_eq.mpr c11
                clear c11
                by_cases c12 : t175 = a0_3
                · rw [if_pos c12] at H
                  have c12b0 : (t175 == a0_3) = true := beq_iff_eq.mpr c12
                  have c12b1 : (t175 != a0_3) = false := bne_eq_false_iff_eq.mpr c12
                  clear c12
                  replace H := Option.bind_eq_some_iff.mp H
                  obtain ⟨⟨t176, t177, t178, t179⟩, A130, H⟩ := H
                  replace H : ((tape_Quarter.f t176 t177 t178 t179).bind fun bt180 => (if bt180.1 = a0_0 then (if bt180.2.1 = a0_1 then (if bt180.2.2.1 = a0_2 then (if bt180.2.2.2 = a0_3 then ((bautalaw38_lives.f).bind fun t184 => (some t184)) else (some false)) else (some false)) else (some false)) else (some false))) = some r := H
                  have A13 := Aside0.mk A130
                  clear A130
                  replace H := Option.bind_eq_some_iff.mp H
                  obtain ⟨⟨t180, t181, t182, t183⟩, A140, H⟩ := H
                  replace H : (if t180 = a0_0 then (if t181 = a0_1 then (if t182 = a0_2 then (if t183 = a0_3 then ((bautalaw38_lives.f).bind fun t184 => (some t184)) else (some false)) else (some false)) else (some false)) else (some false)) = some r := H
                  have A14 := Aside0.mk A140
                  clear A140
                  by_cases c15 : t180 = a0_0
                  · rw [if_pos c15] at H
                    have c15b0 : (t180 == a0_0) = true := beq_iff_eq.mpr c15
                    have c15b1 : (t180 != a0_0) = false := bne_eq_false_iff_eq.mpr c15
                    clear c15
                    by_cases c16 : t181 = a0_1
                    · rw [if_pos c16] at H
                      have c16b0 : (t181 == a0_1) = true := beq_iff_eq.mpr c16
                      have c16b1 : (t181 != a0_1) = false := bne_eq_false_iff_eq.mpr c16
                      clear c16
                      by_cases c17 : t182 = a0_2
                      · rw [if_pos c17] at H
                        have c17b0 : (t182 == a0_2) = true := beq_iff_eq.mpr c17
                        have c17b1 : (t182 != a0_2) = false := bne_eq_false_iff_eq.mpr c17
                        clear c17
                        by_cases c18 : t183 = a0_3
                        · rw [if_pos c18] at H
                          have c18b0 : (t183 == a0_3) = true := beq_iff_eq.mpr c18
                          have c18b1 : (t183 != a0_3) = false := bne_eq_false_iff_eq.mpr c18
                          clear c18
                          replace H := Option.bind_eq_some_iff.mp H
                          obtain ⟨t184, A190, H⟩ := H
                          replace H : (some t184) = some r := H
                          have A19 := Aside0.mk A190
                          clear A190
                          obtain rfl := Option.some.inj H
                          go_enter Try.func3, Try.ntmps3
                          try go_wp2_with (first | ((with_reducible refine gate_dst (N := 1) rfl ?_); refine box_event ?hg (N := 1) ?hd (cs := #[.int .u32 a0_0, .int .u32 a0_1, .int .u32 a0_2, .int .u32 a0_3]) (t := 23) ?hr ?_; (case hd => rfl); (case hg => rfl); (case hr => first | (go_simp; done) | (go_simp; rfl)); intro gb162 hg wz_ hbox hb; have n0_ := Aside0.mk (below_step (rl_ HB) hb); have n1_ := Aside0.mk (hbox); have n2_ := Aside0.mk ((by rw [hg]; exact (below_size (rl_ HB)) : w.heap.size ≤ gb162)); have n3_ := Aside0.mk ((by rw [hg]; exact (below_size (rl_ HB)) : w.heap.size ≤ gb162)); clear HB; have HB := n0_; have BK162 := n1_; have GW162 := n2_; have GE162 := n3_; clear n0_ n1_ n2_ n3_; clear hb hbox hg; have hcz_0 : wz_.cell? ⟨gb162, 0, none⟩ = some (.int .u32 a0_0) := (blk_cell BK162.out 0).trans rfl; have hcz_1 : wz_.cell? ⟨gb162, 1, none⟩ = some (.int .u32 a0_1) := (blk_cell BK162.out 1).trans rfl; have hcz_2 : wz_.cell? ⟨gb162, 2, none⟩ = some (.int .u32 a0_2) := (blk_cell BK162.out 2).trans rfl; have hcz_3 : wz_.cell? ⟨gb162, 3, none⟩ = some (.int .u32 a0_3) := (blk_cell BK162.out 3).trans rfl; have hfz_0 := blk_frozen BK162.out 0; have hfz_1 := blk_frozen BK162.out 1; have hfz_2 := blk_frozen BK162.out 2; have hfz_3 := blk_frozen BK162.out 3) | ((with_reducible refine gate_callee (f := 8) rfl ?_); refine goesL_ (some 5) rfl rfl Try.func8 (by kernel_rfl) rfl #[.agg #[.int .u32 a0_0, .int .u32 a0_1, .int .u32 a0_2, .int .u32 a0_3]] rfl (by (try simp only [List.map_toArray, List.map_cons, List.map_nil]); first | done | rfl | (simp only [List.length_drop, List.length_take]; rfl)) ?_; (with_reducible refine (tape_Quarter.calls a0_0 a0_1 a0_2 a0_3 t163 t164 t165 t166 _ A2.out).mono ?_); rintro e wz_ ⟨rfl, hb⟩; refine ⟨_, rfl, ?_⟩; have n0_ := Aside0.mk (blk_below (rb_ BK162) hb); have n1_ := Aside0.mk (below_step (by repeat (first | (with_reducible first | exact HB.out | apply below_alloc | apply pw_below_drewN | apply below_drew1 | refine below_set ?_ GE162.out) | exact HB.out)) hb); clear BK162; clear HB; have BK162 := n0_; have HB := n1_; clear n0_ n1_; (try clear hb); (try clear hb2); (try clear hk); (try clear hi)) | ((with_reducible refine gate_dst (N := 3) rfl ?_); refine box_event ?hg (N := 3) ?hd (cs := #[.int .u32 0, .int .u32 0, .int .u32 0, .int .u32 0]) (t := 23) ?hr ?_; (case hd => rfl); (case hg => rfl); (case hr => first | (go_simp; done) | (go_simp; rfl)); intro gb167 hg w23 hbox hb; have n0_ := Aside0.mk (blk_below (rb_ BK162) hb); have n1_ := Aside0.mk (below_step (by (repeat (first | (with_reducible first | exact HB.out | apply below_alloc | apply pw_below_drewN | apply below_drew1 | refine below_set ?_ GE162.out) | exact HB.out))) hb); have n2_ := Aside0.mk (hbox); have n3_ := Aside0.mk ((by rw [hg]; exact (below_size (by (repeat (first | (with_reducible first | exact HB.out | apply below_alloc | apply pw_below_drewN | apply below_drew1 | refine below_set ?_ GE162.out) | exact HB.out)))) : w.heap.size ≤ gb167)); have n4_ := Aside0.mk ((by rw [hg]; exact (below_size (by (repeat (first | (with_reducible first | exact HB.out | apply below_alloc | apply pw_below_drewN | apply below_drew1 | refine below_set ?_ GE162.out) | exact HB.out)))) : w.heap.size ≤ gb167)); have n5_ := Aside0.mk ((by rw [hg]; exact Nat.ne_of_lt (blk_lt (rb_ BK162)) : gb162 ≠ gb167)); have n6_ := Aside0.mk ((by rw [hg]; exact Nat.ne_of_gt (blk_lt (rb_ BK162)) : gb167 ≠ gb162)); clear BK162; clear HB; have BK162 := n0_; have HB := n1_; have BK167 := n2_; have GW167 := n3_; have GE167 := n4_; have NB162_167 := n5_; have NB167_162 := n6_; clear n0_ n1_ n2_ n3_ n4_ n5_ n6_; clear hb hbox hg; have hnb := NB167_162.out; have hnc := NB162_167.out; have hcz_0 : w23.cell? ⟨gb167, 0, none⟩ = some (.int .u32 0) := (blk_cell BK167.out 0).trans rfl; have hcz_1 : w23.cell? ⟨gb167, 1, none⟩ = some (.int .u32 0) := (blk_cell BK167.out 1).trans rfl; have hcz_2 : w23.cell? ⟨gb167, 2, none⟩ = some (.int .u32 0) := (blk_cell BK167.out 2).trans rfl; have hcz_3 : w23.cell? ⟨gb167, 3, none⟩ = some (.int .u32 0) := (blk_cell BK167.out 3).trans rfl; have hfz_0 := blk_frozen BK167.out 0; have hfz_1 := blk_frozen BK167.out 1; have hfz_2 := blk_frozen BK167.out 2; have hfz_3 := blk_frozen BK167.out 3))
                          have n0_ : Aside0 (((((w23.setCell ⟨gb167, 0, none⟩ (.int .u32 t163)).setCell ⟨gb167, 1, none⟩ (.int .u32 t164)).setCell ⟨gb167, 2, none⟩ (.int .u32 t165)).setCell ⟨gb167, 3, none⟩ (.int .u32 t166)).heap[gb162]? = some (.cells #[.int .u32 a0_0, .int .u32 a0_1, .int .u32 a0_2, .int .u32 a0_3] 23 (0, 0))) := ⟨by (with_reducible repeat (first | refine blk_drewN ?_ _ | refine blk_drew ?_ | refine blk_alloc ?_ _)); refine blk_far ?_ NB162_167.out _; (with_reducible repeat (first | refine blk_drewN ?_ _ | refine blk_drew ?_ | refine blk_alloc ?_ _)); refine blk_far ?_ NB162_167.out _; (with_reducible repeat (first | refine blk_drewN ?_ _ | refine blk_drew ?_ | refine blk_alloc ?_ _)); refine blk_far ?_ NB162_167.out _; (with_reducible repeat (first | refine blk_drewN ?_ _ | refine blk_drew ?_ | refine blk_alloc ?_ _)); refine blk_far ?_ NB162_167.out _; (with_reducible repeat (first | refine blk_drewN ?_ _ | refine blk_drew ?_ | refine blk_alloc ?_ _)); exact BK162.out⟩
                          have n1_ : Aside0 (((((w23.setCell ⟨gb167, 0, none⟩ (.int .u32 t163)).setCell ⟨gb167, 1, none⟩ (.int .u32 t164)).setCell ⟨gb167, 2, none⟩ (.int .u32 t165)).setCell ⟨gb167, 3, none⟩ (.int .u32 t166)).heap[gb167]? = some (.cells #[.int .u32 t163, .int .u32 t164, .int .u32 t165, .int .u32 t166] 23 (0, 0))) := ⟨by (with_reducible repeat (first | refine blk_drewN ?_ _ | refine blk_drew ?_ | refine blk_alloc ?_ _)); refine blk_put (cs := #[.int .u32 t163, .int .u32 t164, .int .u32 t165, .int .u32 0]) ?_ 3 _ rfl; (with_reducible repeat (first | refine blk_drewN ?_ _ | refine blk_drew ?_ | refine blk_alloc ?_ _)); refine blk_put (cs := #[.int .u32 t163, .int .u32 t164, .int .u32 0, .int .u32 0]) ?_ 2 _ rfl; (with_reducible repeat (first | refine blk_drewN ?_ _ | refine blk_drew ?_ | refine blk_alloc ?_ _)); refine blk_put (cs := #[.int .u32 t163, .int .u32 0, .int .u32 0, .int .u32 0]) ?_ 1 _ rfl; (with_reducible repeat (first | refine blk_drewN ?_ _ | refine blk_drew ?_ | refine blk_alloc ?_ _)); refine blk_put (cs := #[.int .u32 0, .int .u32 0, .int .u32 0, .int .u32 0]) ?_ 0 _ rfl; (with_reducible repeat (first | refine blk_drewN ?_ _ | refine blk_drew ?_ | refine blk_alloc ?_ _)); exact BK167.out⟩
                          have n2_ : Aside0 (Below w.heap.size w ((((w23.setCell ⟨gb167, 0, none⟩ (.int .u32 t163)).setCell ⟨gb167, 1, none⟩ (.int .u32 t164)).setCell ⟨gb167, 2, none⟩ (.int .u32 t165)).setCell ⟨gb167, 3, none⟩ (.int .u32 t166))) := ⟨by repeat (first | (with_reducible first | exact HB.out | apply below_alloc | apply pw_below_drewN | apply below_drew1 | refine below_set ?_ GE162.out | refine below_set ?_ GE167.out) | exact HB.out)⟩
                          (try clear BK162)
                          (try clear BK167)
                          (try clear HB)
                          generalize ((((w23.setCell ⟨gb167, 0, none⟩ (.int .u32 t163)).setCell ⟨gb167, 1, none⟩ (.int .u32 t164)).setCell ⟨gb167, 2, none⟩ (.int .u32 t165)).setCell ⟨gb167, 3, none⟩ (.int .u32 t166)) = w26 at n0_ n1_ n2_ ⊢
                          have BK162 := n0_
                          have BK167 := n1_
                          have HB := n2_
                          clear n0_ n1_ n2_
                          have n0_ := Aside0.mk (blk_drew BK162.out)
                          have n1_ := Aside0.mk (blk_drew BK167.out)
                          have n2_ := Aside0.mk (below_drew1 HB.out)
                          clear BK162
                          clear BK167
                          clear HB
                          have BK162 := n0_
                          have BK167 := n1_
                          have HB := n2_
                          clear n0_ n1_ n2_
                          refine start_ (n := 21) (S := fun w' => w'.cell? ⟨gb167, 0, none⟩ = some (.int .u32 t163) ∧ w'.cell? ⟨gb167, 1, none⟩ = some (.int .u32 t164) ∧ w'.cell? ⟨gb167, 2, none⟩ = some (.int .u32 t165) ∧ w'.cell? ⟨gb167, 3, none⟩ = some (.int .u32 t166) ∧ w'.cell? ⟨gb162, 0, none⟩ = some (.int .u32 a0_0) ∧ w'.cell? ⟨gb162, 1, none⟩ = some (.int .u32 a0_1) ∧ w'.cell? ⟨gb162, 2, none⟩ = some (.int .u32 a0_2) ∧ w'.cell? ⟨gb162, 3, none⟩ = some (.int .u32 a0_3)) (ds := []) #[false, false, false, false, false, false, false, false, false, false, false, false, false, false, false, false, false, false, false, false, false] (by kernel_rfl) rfl rfl ⟨(blk_cell BK167.out 0).trans rfl, (blk_cell BK167.out 1).trans rfl, (blk_cell BK167.out 2).trans rfl, (blk_cell BK167.out 3).trans rfl, (blk_cell BK162.out 0).trans rfl, (blk_cell BK162.out 1).trans rfl, (blk_cell BK162.out 2).trans rfl, (blk_cell BK162.out 3).trans rfl⟩ (fun hHeld => ?_); refine with_tabW bautalaw38_TapeQuarters.tab2 bautalaw38_TapeQuarters.bits2 (fun HT_ HW_ => ?_)
                          generalize w26.drew = w27 at BK162 BK167 HB hHeld ⊢
                          refine take_ (i := 0) (N := some 6) (v := ?_) (a' := ?_) #[true, false, false, false, false, false, false, false, false, false, false, false, false, false, false, false, false, false, false, false, false] rfl rfl (take_ofW HT_.out HW_.out (by kernel_rfl)) (fun _ _ _ h => h) (Or.inl ⟨by rfl, ?_⟩) hHeld ?_ ?_
                          rotate_left
                          · rintro w' ⟨s0, s1, s2, s3, s4, s5, s6, s7⟩
                            go_simp
                            with_reducible rfl
                          rotate_left
                          · (simp only [Act.put, List.setIfInBounds_toArray, List.set_cons_zero, List.set_cons_succ, i64_w, i32_w])
                            rfl
                          refine take_ (i := 1) (N := some 7) (v := ?_) (a' := ?_) #[true, true, false, false, false, false, false, false, false, false, false, false, false, false, false, false, false, false, false, false, false] rfl rfl (take_ofW HT_.out HW_.out (by kernel_rfl)) (fun _ _ _ h => h) (Or.inl ⟨by rfl, ?_⟩) hHeld ?_ ?_
                          rotate_left
                          · rintro w' ⟨s0, s1, s2, s3, s4, s5, s6, s7⟩
                            go_simp
                            with_reducible rfl
                          rotate_left
                          · (simp only [Act.put, List.setIfInBounds_toArray, List.set_cons_zero, List.set_cons_succ, i64_w, i32_w])
                            rfl
                          refine one_ (i := 2) (N := some 8) #[true, true, true, false, false, false, false, false, false, false, false, false, false, false, false, false, false, false, false, false, false] rfl rfl (one_of HT_.out (by kernel_rfl)) (by decide) (fun K hK => ?_)
                          refine goes_ Try.func9 (by kernel_rfl) rfl #[.agg #[.int .u32 a0_0, .int .u32 a0_1, .int .u32 a0_2, .int .u32 a0_3]] (by rfl) rfl rfl (by (try simp only [List.map_toArray, List.map_cons, List.map_nil]); first | done | rfl | (simp only [List.length_drop, List.length_take]; rfl)) ?_
                          with_reducible refine (bautaref38_Quarter.calls k a0_0 a0_1 a0_2 a0_3 t168 t169 t170 t171 _ A3.out).mono ?_
                          rintro e w28 ⟨rfl, hb⟩
                          refine ⟨_, rfl, ?_⟩
                          have n0_ := Aside0.mk (blk_below (rb_ BK162) hb)
                          have n1_ := Aside0.mk (blk_below (rb_ BK167) hb)
                          have n2_ := Aside0.mk (below_step (by repeat (first | (with_reducible first | exact HB.out | apply below_alloc | apply pw_below_drewN | apply below_drew1 | refine below_set ?_ GE162.out | refine below_set ?_ GE167.out) | exact HB.out)) hb)
                          clear BK162
                          clear BK167
                          clear HB
                          have BK162 := n0_
                          have BK167 := n1_
                          have HB := n2_
                          clear n0_ n1_ n2_
                          (try clear hb)
                          (try clear hb2)
                          (try clear hk)
                          (try clear hi)
                          refine hK.out _ _ ⟨(blk_cell BK167.out 0).trans rfl, (blk_cell BK167.out 1).trans rfl, (blk_cell BK167.out 2).trans rfl, (blk_cell BK167.out 3).trans rfl, (blk_cell BK162.out 0).trans rfl, (blk_cell BK162.out 1).trans rfl, (blk_cell BK162.out 2).trans rfl, (blk_cell BK162.out 3).trans rfl⟩ (fun hHeld => ?_)
                          clear hK K
                          refine norm_ (a' := ?_) ?_ ?_
                          rotate_left
                          · show Act.put _ (some 8) _ = _
                            (simp only [Act.put, List.setIfInBounds_toArray, List.set_cons_zero, List.set_cons_succ, i64_w, i32_w])
                            rfl
                          refine pure_ (i := 3) (N := some 9) (v := ?_) (a' := ?_) #[true, true, true, true, false, false, false, false, false, false, false, false, false, false, false, false, false, false, false, false, false] rfl rfl (any_of HT_.out (by kernel_rfl)) (fun _ _ _ h => h) (Or.inl ⟨by rfl, ?_⟩) ?_ ?_
                          rotate_left
                          · intro w'
                            go_simp
                            with_reducible rfl
                          rotate_left
                          · (simp only [Act.put, List.setIfInBounds_toArray, List.set_cons_zero, List.set_cons_succ, i64_w, i32_w])
                            rfl
                          refine pure_ (i := 4) (N := some 10) (v := ?_) (a' := ?_) #[true, true, true, true, true, false, false, false, false, false, false, false, false, false, false, false, false, false, false, false, false] rfl rfl (any_of HT_.out (by kernel_rfl)) (fun _ _ _ h => h) (Or.inl ⟨by rfl, ?_⟩) ?_ ?_
                          rotate_left
                          · intro w'
                            go_simp
                            with_reducible rfl
                          rotate_left
                          · (simp only [Act.put, List.setIfInBounds_toArray, List.set_cons_zero, List.set_cons_succ, i64_w, i32_w])
                            rfl
                          refine take_ (i := 5) (N := some 11) (v := ?_) (a' := ?_) #[true, true, true, true, true, true, false, false, false, false, false, false, false, false, false, false, false, false, false, false, false] rfl rfl (take_ofW HT_.out HW_.out (by kernel_rfl)) (fun _ _ _ h => h) (Or.inl ⟨by rfl, ?_⟩) hHeld ?_ ?_
                          rotate_left
                          · rintro w' ⟨s0, s1, s2, s3, s4, s5, s6, s7⟩
                            go_simp
                            with_reducible rfl
                          rotate_left
                          · (simp only [Act.put, List.setIfInBounds_toArray, List.set_cons_zero, List.set_cons_succ, i64_w, i32_w])
                            rfl
                          refine take_ (i := 7) (N := some 13) (v := ?_) (a' := ?_) #[true, true, true, true, true, true, false, true, false, false, false, false, false, false, false, false, false, false, false, false, false] rfl rfl (take_ofW HT_.out HW_.out (by kernel_rfl)) (fun _ _ _ h => h) (Or.inl ⟨by rfl, ?_⟩) hHeld ?_ ?_
                          rotate_left
                          · rintro w' ⟨s0, s1, s2, s3, s4, s5, s6, s7⟩
                            go_simp
                            with_reducible rfl
                          rotate_left
                          · (simp only [Act.put, List.setIfInBounds_toArray, List.set_cons_zero, List.set_cons_succ, i64_w, i32_w])
                            rfl
                          refine one_ (i := 6) (N := some 12) #[true, true, true, true, true, true, true, true, false, false, false, false, false, false, false, false, false, false, false, false, false] rfl rfl (one_of HT_.out (by kernel_rfl)) (by decide) (fun K hK => ?_)
                          refine goes_ Try.func10 (by kernel_rfl) rfl #[.agg #[.int .u32 t163, .int .u32 t164, .int .u32 t165, .int .u32 t166]] (by rfl) rfl rfl (by (try simp only [List.map_toArray, List.map_cons, List.map_nil]); first | done | rfl | (simp only [List.length_drop, List.length_take]; rfl)) ?_
                          with_reducible refine (tape_Back.calls t163 t164 t165 t166 t172 t173 t174 t175 _ A8.out).mono ?_
                          rintro e w29 ⟨rfl, hb⟩
                          refine ⟨_, rfl, ?_⟩
                          have n0_ := Aside0.mk (blk_below (rb_ BK162) hb)
                          have n1_ := Aside0.mk (blk_below (rb_ BK167) hb)
                          have n2_ := Aside0.mk (below_step (by repeat (first | (with_reducible first | exact HB.out | apply below_alloc | apply pw_below_drewN | apply below_drew1 | refine below_set ?_ GE162.out | refine below_set ?_ GE167.out) | exact HB.out)) hb)
                          clear BK162
                          clear BK167
                          clear HB
                          have BK162 := n0_
                          have BK167 := n1_
                          have HB := n2_
                          clear n0_ n1_ n2_
                          (try clear hb)
                          (try clear hb2)
                          (try clear hk)
                          (try clear hi)
                          refine hK.out _ _ ⟨(blk_cell BK167.out 0).trans rfl, (blk_cell BK167.out 1).trans rfl, (blk_cell BK167.out 2).trans rfl, (blk_cell BK167.out 3).trans rfl, (blk_cell BK162.out 0).trans rfl, (blk_cell BK162.out 1).trans rfl, (blk_cell BK162.out 2).trans rfl, (blk_cell BK162.out 3).trans rfl⟩ (fun hHeld => ?_)
                          clear hK K
                          refine norm_ (a' := ?_) ?_ ?_
                          rotate_left
                          · show Act.put _ (some 12) _ = _
                            (simp only [Act.put, List.setIfInBounds_toArray, List.set_cons_zero, List.set_cons_succ, i64_w, i32_w])
                            rfl
                          refine pure_ (i := 8) (N := some 14) (v := ?_) (a' := ?_) #[true, true, true, true, true, true, true, true, true, false, false, false, false, false, false, false, false, false, false, false, false] rfl rfl (any_of HT_.out (by kernel_rfl)) (fun _ _ _ h => h) (Or.inl ⟨by rfl, ?_⟩) ?_ ?_
                          rotate_left
                          · intro w'
                            go_simp
                            with_reducible rfl
                          rotate_left
                          · (simp only [Act.put, List.setIfInBounds_toArray, List.set_cons_zero, List.set_cons_succ, i64_w, i32_w])
                            rfl
                          refine pure_ (i := 9) (N := some 15) (v := ?_) (a' := ?_) #[true, true, true, true, true, true, true, true, true, true, false, false, false, false, false, false, false, false, false, false, false] rfl rfl (any_of HT_.out (by kernel_rfl)) (fun _ _ _ h => h) (Or.inl ⟨by rfl, ?_⟩) ?_ ?_
                          rotate_left
                          · intro w'
                            go_simp
                            with_reducible rfl
                          rotate_left
                          · (simp only [Act.put, List.setIfInBounds_toArray, List.set_cons_zero, List.set_cons_succ, i64_w, i32_w])
                            rfl
                          refine pure_ (i := 10) (N := some 16) (v := ?_) (a' := ?_) #[true, true, true, true, true, true, true, true, true, true, true, false, false, false, false, false, false, false, false, false, false] rfl rfl (any_of HT_.out (by kernel_rfl)) (fun _ _ _ h => h) (Or.inl ⟨by rfl, ?_⟩) ?_ ?_
                          rotate_left
                          · intro w'
                            go_simp
                            with_reducible rfl
                          rotate_left
                          · (simp only [Act.put, List.setIfInBounds_toArray, List.set_cons_zero, List.set_cons_succ, i64_w, i32_w])
                            rfl
                          refine take_ (i := 11) (N := some 17) (v := ?_) (a' := ?_) #[true, true, true, true, true, true, true, true, true, true, true, true, false, false, false, false, false, false, false, false, false] rfl rfl (take_ofW HT_.out HW_.out (by kernel_rfl)) (fun _ _ _ h => h) (Or.inl ⟨by rfl, ?_⟩) hHeld ?_ ?_
                          rotate_left
                          · rintro w' ⟨s0, s1, s2, s3, s4, s5, s6, s7⟩
                            go_simp
                            with_reducible rfl
                          rotate_left
                          · (simp only [Act.put, List.setIfInBounds_toArray, List.set_cons_zero, List.set_cons_succ, i64_w, i32_w])
                            rfl
                          refine take_ (i := 14) (N := some 20) (v := ?_) (a' := ?_) #[true, true, true, true, true, true, true, true, true, true, true, true, false, false, true, false, false, false, false, false, false] rfl rfl (take_ofW HT_.out HW_.out (by kernel_rfl)) (fun _ _ _ h => h) (Or.inl ⟨by rfl, ?_⟩) hHeld ?_ ?_
                          rotate_left
                          · rintro w' ⟨s0, s1, s2, s3, s4, s5, s6, s7⟩
                            go_simp
                            with_reducible rfl
                          rotate_left
                          · (simp only [Act.put, List.setIfInBounds_toArray, List.set_cons_zero, List.set_cons_succ, i64_w, i32_w])
                            rfl
                          refine one_ (i := 12) (N := some 18) #[true, true, true, true, true, true, true, true, true, true, true, true, true, false, true, false, false, false, false, false, false] rfl rfl (one_of HT_.out (by kernel_rfl)) (by decide) (fun K hK => ?_)
                          refine goes_ Try.func10 (by kernel_rfl) rfl #[.agg #[.int .u32 a0_0, .int .u32 a0_1, .int .u32 a0_2, .int .u32 a0_3]] (by rfl) rfl rfl (by (try simp only [List.map_toArray, List.map_cons, List.map_nil]); first | done | rfl | (simp only [List.length_drop, List.length_take]; rfl)) ?_
                          with_reducible refine (tape_Back.calls a0_0 a0_1 a0_2 a0_3 t176 t177 t178 t179 _ A13.out).mono ?_
                          rintro e w30 ⟨rfl, hb⟩
                          refine ⟨_, rfl, ?_⟩
                          have n0_ := Aside0.mk (blk_below (rb_ BK162) hb)
                          have n1_ := Aside0.mk (blk_below (rb_ BK167) hb)
                          have n2_ := Aside0.mk (below_step (by repeat (first | (with_reducible first | exact HB.out | apply below_alloc | apply pw_below_drewN | apply below_drew1 | refine below_set ?_ GE162.out | refine below_set ?_ GE167.out) | exact HB.out)) hb)
                          clear BK162
                          clear BK167
                          clear HB
                          have BK162 := n0_
                          have BK167 := n1_
                          have HB := n2_
                          clear n0_ n1_ n2_
                          (try clear hb)
                          (try clear hb2)
                          (try clear hk)
                          (try clear hi)
                          refine hK.out _ _ ⟨(blk_cell BK167.out 0).trans rfl, (blk_cell BK167.out 1).trans rfl, (blk_cell BK167.out 2).trans rfl, (blk_cell BK167.out 3).trans rfl, (blk_cell BK162.out 0).trans rfl, (blk_cell BK162.out 1).trans rfl, (blk_cell BK162.out 2).trans rfl, (blk_cell BK162.out 3).trans rfl⟩ (fun hHeld => ?_)
                          clear hK K
                          refine norm_ (a' := ?_) ?_ ?_
                          rotate_left
                          · show Act.put _ (some 18) _ = _
                            (simp only [Act.put, List.setIfInBounds_toArray, List.set_cons_zero, List.set_cons_succ, i64_w, i32_w])
                            rfl
                          refine one_ (i := 13) (N := some 19) #[true, true, true, true, true, true, true, true, true, true, true, true, true, true, true, false, false, false, false, false, false] rfl rfl (one_of HT_.out (by kernel_rfl)) (by decide) (fun K hK => ?_)
                          refine goes_ Try.func8 (by kernel_rfl) rfl #[.agg #[.int .u32 t176, .int .u32 t177, .int .u32 t178, .int .u32 t179]] (by rfl) rfl rfl (by (try simp only [List.map_toArray, List.map_cons, List.map_nil]); first | done | rfl | (simp only [List.length_drop, List.length_take]; rfl)) ?_
                          with_reducible refine (tape_Quarter.calls t176 t177 t178 t179 t180 t181 t182 t183 _ A14.out).mono ?_
                          rintro e w31 ⟨rfl, hb⟩
                          refine ⟨_, rfl, ?_⟩
                          have n0_ := Aside0.mk (blk_below (rb_ BK162) hb)
                          have n1_ := Aside0.mk (blk_below (rb_ BK167) hb)
                          have n2_ := Aside0.mk (below_step (by repeat (first | (with_reducible first | exact HB.out | apply below_alloc | apply pw_below_drewN | apply below_drew1 | refine below_set ?_ GE162.out | refine below_set ?_ GE167.out) | exact HB.out)) hb)
                          clear BK162
                          clear BK167
                          clear HB
                          have BK162 := n0_
                          have BK167 := n1_
                          have HB := n2_
                          clear n0_ n1_ n2_
                          (try clear hb)
                          (try clear hb2)
                          (try clear hk)
                          (try clear hi)
                          refine hK.out _ _ ⟨(blk_cell BK167.out 0).trans rfl, (blk_cell BK167.out 1).trans rfl, (blk_cell BK167.out 2).trans rfl, (blk_cell BK167.out 3).trans rfl, (blk_cell BK162.out 0).trans rfl, (blk_cell BK162.out 1).trans rfl, (blk_cell BK162.out 2).trans rfl, (blk_cell BK162.out 3).trans rfl⟩ (fun hHeld => ?_)
                          clear hK K
                          refine norm_ (a' := ?_) ?_ ?_
                          rotate_left
                          · show Act.put _ (some 19) _ = _
                            (simp only [Act.put, List.setIfInBounds_toArray, List.set_cons_zero, List.set_cons_succ, i64_w, i32_w])
                            rfl
                          refine pure_ (i := 15) (N := some 21) (v := ?_) (a' := ?_) #[true, true, true, true, true, true, true, true, true, true, true, true, true, true, true, true, false, false, false, false, false] rfl rfl (any_of HT_.out (by kernel_rfl)) (fun _ _ _ h => h) (Or.inl ⟨by rfl, ?_⟩) ?_ ?_
                          rotate_left
                          · intro w'
                            go_simp
                            with_reducible rfl
                          rotate_left
                          · (simp only [Act.put, List.setIfInBounds_toArray, List.set_cons_zero, List.set_cons_succ, i64_w, i32_w])
                            rfl
                          refine pure_ (i := 16) (N := some 22) (v := ?_) (a' := ?_) #[true, true, true, true, true, true, true, true, true, true, true, true, true, true, true, true, true, false, false, false, false] rfl rfl (any_of HT_.out (by kernel_rfl)) (fun _ _ _ h => h) (Or.inl ⟨by rfl, ?_⟩) ?_ ?_
                          rotate_left
                          · intro w'
                            go_simp
                            with_reducible rfl
                          rotate_left
                          · (simp only [Act.put, List.setIfInBounds_toArray, List.set_cons_zero, List.set_cons_succ, i64_w, i32_w])
                            rfl
                          refine pure_ (i := 17) (N := some 23) (v := ?_) (a' := ?_) #[true, true, true, true, true, true, true, true, true, true, true, true, true, true, true, true, true, true, false, false, false] rfl rfl (any_of HT_.out (by kernel_rfl)) (fun _ _ _ h => h) (Or.inl ⟨by rfl, ?_⟩) ?_ ?_
                          rotate_left
                          · intro w'
                            go_simp
                            with_reducible rfl
                          rotate_left
                          · (simp only [Act.put, List.setIfInBounds_toArray, List.set_cons_zero, List.set_cons_succ, i64_w, i32_w])
                            rfl
                          refine one_ (i := 18) (N := some 24) #[true, true, true, true, true, true, true, true, true, true, true, true, true, true, true, true, true, true, true, false, false] rfl rfl (one_of HT_.out (by kernel_rfl)) (by decide) (fun K hK => ?_)
                          refine goes_ Try.func11 (by kernel_rfl) rfl #[] (by rfl) rfl rfl (by (try simp only [List.map_toArray, List.map_cons, List.map_nil]); first | done | rfl | (simp only [List.length_drop, List.length_take]; rfl)) ?_
                          with_reducible refine (bautalaw38_lives.calls  t184 _ A19.out).mono ?_
                          rintro e w32 ⟨rfl, hb⟩
                          refine ⟨_, rfl, ?_⟩
                          have n0_ := Aside0.mk (blk_below (rb_ BK162) hb)
                          have n1_ := Aside0.mk (blk_below (rb_ BK167) hb)
                          have n2_ := Aside0.mk (below_step (by repeat (first | (with_reducible first | exact HB.out | apply below_alloc | apply pw_below_drewN | apply below_drew1 | refine below_set ?_ GE162.out | refine below_set ?_ GE167.out) | exact HB.out)) hb)
                          clear BK162
                          clear BK167
                          clear HB
                          have BK162 := n0_
                          have BK167 := n1_
                          have HB := n2_
                          clear n0_ n1_ n2_
                          (try clear hb)
                          (try clear hb2)
                          (try clear hk)
                          (try clear hi)
                          refine hK.out _ _ ⟨(blk_cell BK167.out 0).trans rfl, (blk_cell BK167.out 1).trans rfl, (blk_cell BK167.out 2).trans rfl, (blk_cell BK167.out 3).trans rfl, (blk_cell BK162.out 0).trans rfl, (blk_cell BK162.out 1).trans rfl, (blk_cell BK162.out 2).trans rfl, (blk_cell BK162.out 3).trans rfl⟩ (fun hHeld => ?_)
                          clear hK K
                          refine norm_ (a' := ?_) ?_ ?_
                          rotate_left
                          · show Act.put _ (some 24) _ = _
                            (simp only [Act.put, List.setIfInBounds_toArray, List.set_cons_zero, List.set_cons_succ, i64_w, i32_w])
                            rfl
                          refine pure_ (i := 19) (N := some 25) (v := ?_) (a' := ?_) #[true, true, true, true, true, true, true, true, true, true, true, true, true, true, true, true, true, true, true, true, false] rfl rfl (any_of HT_.out (by kernel_rfl)) (fun _ _ _ h => h) (Or.inl ⟨by rfl, ?_⟩) ?_ ?_
                          rotate_left
                          · intro w'
                            go_simp
                            with_reducible rfl
                          rotate_left
                          · (simp only [Act.put, List.setIfInBounds_toArray, List.set_cons_zero, List.set_cons_succ, i64_w, i32_w])
                            rfl
                          refine pure_ (i := 20) (N := some 2) (v := ?_) (a' := ?_) #[true, true, true, true, true, true, true, true, true, true, true, true, true, true, true, true, true, true, true, true, true] rfl rfl (any_of HT_.out (by kernel_rfl)) (fun _ _ _ h => h) (Or.inl ⟨by rfl, ?_⟩) ?_ ?_
                          rotate_left
                          · intro w'
                            go_simp
                            with_reducible rfl
                          rotate_left
                          · (simp only [Act.put, List.setIfInBounds_toArray, List.set_cons_zero, List.set_cons_succ, i64_w, i32_w])
                            rfl
                          refine done_ (done_of HT_.out (by kernel_rfl)) ?_
                          try go_wp2
                          go_ret
                          exact ⟨by first | rfl | (simp [errW_none, errW_some] <;> rfl) | (simp [*, errW_none, errW_some] <;> rfl), by repeat (first | (with_reducible first | exact HB.out | apply below_alloc | apply pw_below_drewN | apply below_drew1 | refine below_set ?_ GE162.out | refine below_set ?_ GE167.out) | exact HB.out)⟩
                        · rw [if_neg c18] at H
                          have c18b0 : (t183 == a0_3) = false := beq_eq_false_iff_ne.mpr c18
                          have c18b1 : (t183 != a0_3) = true := bne_iff_ne.mpr c18
                          subst hrt
                          exact absurd H (by simp)
                      · rw [if_neg c17] at H
                        have c17b0 : (t182 == a0_2) = false := beq_eq_false_iff_ne.mpr c17
                        have c17b1 : (t182 != a0_2) = true := bne_iff_ne.mpr c17
                        subst hrt
                        exact absurd H (by simp)
                    · rw [if_neg c16] at H
                      have c16b0 : (t181 == a0_1) = false := beq_eq_false_iff_ne.mpr c16
                      have c16b1 : (t181 != a0_1) = true := bne_iff_ne.mpr c16
                      subst hrt
                      exact absurd H (by simp)
                  · rw [if_neg c15] at H
                    have c15b0 : (t180 == a0_0) = false := beq_eq_false_iff_ne.mpr c15
                    have c15b1 : (t180 != a0_0) = true := bne_iff_ne.mpr c15
                    subst hrt
                    exact absurd H (by simp)
                · rw [if_neg c12] at H
                  have c12b0 : (t175 == a0_3) = false := beq_eq_false_iff_ne.mpr c12
                  have c12b1 : (t175 != a0_3) = true := bne_iff_ne.mpr c12
                  subst hrt
                  exact absurd H (by simp)
              · rw [if_neg c11] at H
                have c11b0 : (t174 == a0_2) = false := beq_eq_false_iff_ne.mpr c11
                have c11b1 : (t174 != a0_2) = true := bne_iff_ne.mpr c11
                subst hrt
                exact absurd H (by simp)
            · rw [if_neg c10] at H
              have c10b0 : (t173 == a0_1) = false := beq_eq_false_iff_ne.mpr c10
              have c10b1 : (t173 != a0_1) = true := bne_iff_ne.mpr c10
              subst hrt
              exact absurd H (by simp)
          · rw [if_neg c9] at H
            have c9b0 : (t172 == a0_0) = false := beq_eq_false_iff_ne.mpr c9
            have c9b1 : (t172 != a0_0) = true := bne_iff_ne.mpr c9
            subst hrt
            exact absurd H (by simp)
        · rw [if_neg c7] at H
          have c7b0 : (t166 == t171) = false := beq_eq_false_iff_ne.mpr c7
          have c7b1 : (t166 != t171) = true := bne_iff_ne.mpr c7
          subst hrt
          exact absurd H (by simp)
      · rw [if_neg c6] at H
        have c6b0 : (t165 == t170) = false := beq_eq_false_iff_ne.mpr c6
        have c6b1 : (t165 != t170) = true := bne_iff_ne.mpr c6
        subst hrt
        exact absurd H (by simp)
    · rw [if_neg c5] at H
      have c5b0 : (t164 == t169) = false := beq_eq_false_iff_ne.mpr c5
      have c5b1 : (t164 != t169) = true := bne_iff_ne.mpr c5
      subst hrt
      exact absurd H (by simp)
  · rw [if_neg c4] at H
    have c4b0 : (t163 == t168) = false := beq_eq_false_iff_ne.mpr c4
    have c4b1 : (t163 != t168) = true := bne_iff_ne.mpr c4
    subst hrt
    exact absurd H (by simp)
/-- THE ONE PURE STATEMENT of bautalaw38_TapeQuarters: yours. -/
def bautalaw38_TapeQuarters.Pure : Prop := ∀ (a0_0 : Int) (a0_1 : Int) (a0_2 : Int) (a0_3 : Int), (Lit.int .u32 a0_0).wf = true → (Lit.int .u32 a0_1).wf = true → (Lit.int .u32 a0_2).wf = true → (Lit.int .u32 a0_3).wf = true → ∃ k, bautalaw38_TapeQuarters.f k a0_0 a0_1 a0_2 a0_3 = some true
theorem bautalaw38_TapeQuarters.walk (P : bautalaw38_TapeQuarters.Pure) (a0_0 : Int) (a0_1 : Int) (a0_2 : Int) (a0_3 : Int) (w : World) (w0_0 : (Lit.int .u32 a0_0).wf = true) (w0_1 : (Lit.int .u32 a0_1).wf = true) (w0_2 : (Lit.int .u32 a0_2).wf = true) (w0_3 : (Lit.int .u32 a0_3).wf = true) :
    Calls Try.prog 3 #[.agg #[.int .u32 a0_0, .int .u32 a0_1, .int .u32 a0_2, .int .u32 a0_3]] w fun e w' => e = .returned (.bool true) ∧ Below w.heap.size w w' := by
  obtain ⟨k, h⟩ := P a0_0 a0_1 a0_2 a0_3 w0_0 w0_1 w0_2 w0_3
  refine (bautalaw38_TapeQuarters.calls k a0_0 a0_1 a0_2 a0_3 true w h rfl).mono ?_
  rintro e w' ⟨rfl, hd⟩
  exact ⟨rfl, hd⟩

end Go.Proofs.Ytkcechbibabpjaa.PA
