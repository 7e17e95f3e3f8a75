/- TapeBlocks: each block's words are the document's: the law's walk. No condition but the hypotheses that the theorem states. -/
import Derived.Test.YtkcechbibabpjaaPBx3
import Derived.Deep.RegionHeld3
namespace Go.Proofs.Ytkcechbibabpjaa.PB
open Go.RowKit Go.Proofs.YtkcechbibabpjaaW.PrintWords Go.Proofs.YtkcechbibabpjaaW.PrintLast Go.Proofs.YtkcechbibabpjaaW.PrintMore
set_option linter.unusedVariables false
set_option linter.unusedSimpArgs false
theorem cells11 {W : World} {g g1 : Nat} {a0_0 a0_1 a0_2 a0_3 a0_4 a0_5 a0_6 a0_7 a2_0 a2_1 a2_2 : Int} (hk : W.heap[g]? = some (Obj.cells #[.int .u32 a0_0, .int .u32 a0_1, .int .u32 a0_2, .int .u32 a0_3, .int .u32 a0_4, .int .u32 a0_5, .int .u32 a0_6, .int .u32 a0_7] 27)) (hn : W.heap[g1]? = some (Obj.cells #[.int .u32 a2_0, .int .u32 a2_1, .int .u32 a2_2] 28)) :
    W.cell? ⟨g, 0, none⟩ = some (.int .u32 a0_0) ∧ W.cell? ⟨g, 1, none⟩ = some (.int .u32 a0_1) ∧ W.cell? ⟨g, 2, none⟩ = some (.int .u32 a0_2) ∧ W.cell? ⟨g, 3, none⟩ = some (.int .u32 a0_3) ∧ W.cell? ⟨g, 4, none⟩ = some (.int .u32 a0_4) ∧ W.cell? ⟨g, 5, none⟩ = some (.int .u32 a0_5) ∧ W.cell? ⟨g, 6, none⟩ = some (.int .u32 a0_6) ∧ W.cell? ⟨g, 7, none⟩ = some (.int .u32 a0_7) ∧ W.cell? ⟨g1, 0, none⟩ = some (.int .u32 a2_0) ∧ W.cell? ⟨g1, 1, none⟩ = some (.int .u32 a2_1) ∧ W.cell? ⟨g1, 2, none⟩ = some (.int .u32 a2_2) :=
  ⟨(cell_of_row W g 0 _ _ _ hk).trans rfl, (cell_of_row W g 1 _ _ _ hk).trans rfl, (cell_of_row W g 2 _ _ _ hk).trans rfl, (cell_of_row W g 3 _ _ _ hk).trans rfl, (cell_of_row W g 4 _ _ _ hk).trans rfl, (cell_of_row W g 5 _ _ _ hk).trans rfl, (cell_of_row W g 6 _ _ _ hk).trans rfl, (cell_of_row W g 7 _ _ _ hk).trans rfl, (cell_of_row W g1 0 _ _ _ hn).trans rfl, (cell_of_row W g1 1 _ _ _ hn).trans rfl, (cell_of_row W g1 2 _ _ _ hn).trans rfl⟩
set_option maxHeartbeats 8000000 in
set_option maxRecDepth 100000 in
theorem tapeBlocks_calls (k : Nat) (a0_0 a0_1 a0_2 a0_3 a0_4 a0_5 a0_6 a0_7 a1 a2_0 a2_1 a2_2 : Int) (r1 r2 r3 r4 r5 r6 r7 r8 r9 r10 r11 r12 r13 r14 r15 r16 : Int) (l : List Int) (w : World)
    (hA : tape_Block.f a0_0 a0_1 a0_2 a0_3 a0_4 a0_5 a0_6 a0_7 a1 a2_0 a2_1 a2_2 = some (r1, r2, r3, r4, r5, r6, r7, r8, r9, r10, r11, r12, r13, r14, r15, r16)) (hB : bautaref38_Block.f k a0_0 a0_1 a0_2 a0_3 a0_4 a0_5 a0_6 a0_7 a1 a2_0 a2_1 a2_2 = some l) (hC : bautaref05_Same.f k [r1, r2, r3, r4, r5, r6, r7, r8, r9, r10, r11, r12, r13, r14, r15, r16] l = some true) (hL : bautalaw38_lives.f = some true) :
    Calls Try.prog 4 #[.agg #[.int .u32 a0_0, .int .u32 a0_1, .int .u32 a0_2, .int .u32 a0_3, .int .u32 a0_4, .int .u32 a0_5, .int .u32 a0_6, .int .u32 a0_7], .int .u32 a1, .agg #[.int .u32 a2_0, .int .u32 a2_1, .int .u32 a2_2]] w fun e w' => e = .returned (.bool true) ∧ Below w.heap.size w w' := by
  have hu27 := Try.underlying27
  have hu28 := Try.underlying28
  have hu29 := Try.underlying29
  have hu32 := Try.underlying32
  have HA := Aside0.mk hA
  have HC := Aside0.mk hC
  have HBk := Aside0.mk hB
  have HLv := Aside0.mk hL
  clear hA hB hC hL
  go_enter Try.func4, Try.ntmps4
  go_wp2_with (go_at_call 12; refine (tape_Block.calls  _ _ _ _ _ _ _ _ _ _ _ _ r1 r2 r3 r4 r5 r6 r7 r8 r9 r10 r11 r12 r13 r14 r15 r16 _ HA.out).mono ?_; rintro e w7 ⟨rfl, hb⟩; replace hb := Aside0.mk hb)
  obtain ⟨W, hW⟩ : ∃ W, W = w7.alloc (Obj.cells #[.int .u32 r1, .int .u32 r2, .int .u32 r3, .int .u32 r4, .int .u32 r5, .int .u32 r6, .int .u32 r7, .int .u32 r8, .int .u32 r9, .int .u32 r10, .int .u32 r11, .int .u32 r12, .int .u32 r13, .int .u32 r14, .int .u32 r15, .int .u32 r16] 29) := ⟨_, rfl⟩
  rw [← hW]
  have h0 : ((w.alloc (Obj.cells #[.int .u32 a0_0, .int .u32 a0_1, .int .u32 a0_2, .int .u32 a0_3, .int .u32 a0_4, .int .u32 a0_5, .int .u32 a0_6, .int .u32 a0_7] 27)).alloc (Obj.cells #[.int .u32 a2_0, .int .u32 a2_1, .int .u32 a2_2] 28)).heap.size = w.heap.size + 1 + 1 := by simp
  have hb2 := hb.out
  rw [h0] at hb2
  have hB0 : Below w.heap.size w w7 := (below_alloc (below_alloc (Below.refl _ _) _) _).trans (hb2.mono (by omega))
  have hk7 : w7.heap[w.heap.size]? = some (Obj.cells #[.int .u32 a0_0, .int .u32 a0_1, .int .u32 a0_2, .int .u32 a0_3, .int .u32 a0_4, .int .u32 a0_5, .int .u32 a0_6, .int .u32 a0_7] 27) := by
    rw [hb2.block _ (by omega), heap_alloc_old _ _ (by simp)]; exact heap_alloc_new _ _
  have hn7 : w7.heap[w.heap.size + 1]? = some (Obj.cells #[.int .u32 a2_0, .int .u32 a2_1, .int .u32 a2_2] 28) := by
    rw [hb2.block _ (by omega)]; exact (congrArg _ (by simp)).trans (heap_alloc_new _ _)
  have hk : W.heap[w.heap.size]? = some (Obj.cells #[.int .u32 a0_0, .int .u32 a0_1, .int .u32 a0_2, .int .u32 a0_3, .int .u32 a0_4, .int .u32 a0_5, .int .u32 a0_6, .int .u32 a0_7] 27) := by rw [hW, heap_alloc_old _ _ (blk_lt' hk7)]; exact hk7
  have hn : W.heap[w.heap.size + 1]? = some (Obj.cells #[.int .u32 a2_0, .int .u32 a2_1, .int .u32 a2_2] 28) := by rw [hW, heap_alloc_old _ _ (blk_lt' hn7)]; exact hn7
  have hcb : Kd.C (Kd.int .u32) W (some ⟨w7.heap.size, 0, none⟩) 16 [r1, r2, r3, r4, r5, r6, r7, r8, r9, r10, r11, r12, r13, r14, r15, r16] := by
    rw [hW]
    exact (Kd.R_reads' (Kd.R_of_own (own_lit w7 w7.heap.size 29 .u32 [r1, r2, r3, r4, r5, r6, r7, r8, r9, r10, r11, r12, r13, r14, r15, r16] (Nat.le_refl _) (by simp)) (ok := fun _ => True) (fun _ _ => trivial))).2.2
  have hBW : Below w.heap.size w W := by rw [hW]; exact below_alloc hB0 _
  obtain ⟨gb, hgb⟩ : ∃ gb, gb = w7.heap.size := ⟨_, rfl⟩
  rw [← hgb] at hcb ⊢
  obtain ⟨g, hg⟩ : ∃ g, g = w.heap.size := ⟨_, rfl⟩
  rw [← hg] at hk hn hBW ⊢
  obtain ⟨g1, hg1⟩ : ∃ g1, g1 = g + 1 := ⟨_, rfl⟩
  rw [← hg1] at hn ⊢
  clear hW h0 hb2 hB0 hk7 hn7 hb hgb hg1
  replace hk := Aside0.mk hk
  replace hn := Aside0.mk hn
  replace hcb := Aside0.mk hcb
  replace hBW := Aside0.mk hBW
  replace hg := Aside0.mk hg
  have HB := Aside0.mk (Below.refl W.heap.size W).drew
  have hkz := Aside0.mk (blk_lt' hk.out)
  have hnz := Aside0.mk (blk_lt' hn.out)
  go_region_held3 (fun W' => W'.cell? ⟨g, 0, none⟩ = some (.int .u32 a0_0) ∧ W'.cell? ⟨g, 1, none⟩ = some (.int .u32 a0_1) ∧ W'.cell? ⟨g, 2, none⟩ = some (.int .u32 a0_2) ∧ W'.cell? ⟨g, 3, none⟩ = some (.int .u32 a0_3) ∧ W'.cell? ⟨g, 4, none⟩ = some (.int .u32 a0_4) ∧ W'.cell? ⟨g, 5, none⟩ = some (.int .u32 a0_5) ∧ W'.cell? ⟨g, 6, none⟩ = some (.int .u32 a0_6) ∧ W'.cell? ⟨g, 7, none⟩ = some (.int .u32 a0_7) ∧ W'.cell? ⟨g1, 0, none⟩ = some (.int .u32 a2_0) ∧ W'.cell? ⟨g1, 1, none⟩ = some (.int .u32 a2_1) ∧ W'.cell? ⟨g1, 2, none⟩ = some (.int .u32 a2_2)) (exact cells11 (row_below HB.out hkz.out hk.out) (row_below HB.out hnz.out hn.out)) (first | (go_at_call 14; refine (bautaref38_Block.calls k _ _ _ _ _ _ _ _ _ _ _ _ l _ HBk.out).mono ?_; rintro e w8 ⟨v0, rfl, ho, hb⟩; have n1 := Aside0.mk (below_then HB.out HB.out.size hb); obtain ⟨A_, c_, e_, l_, C_⟩ := Kd.R_reads ho; subst e_; have HC1 := Aside0.mk C_; have HL1 := Aside0.mk l_; clear HB l_ C_ ho hb; have HB := n1; clear n1) | (go_at_call 13; refine (bautaref05_Same.calls k _ _ [r1, r2, r3, r4, r5, r6, r7, r8, r9, r10, r11, r12, r13, r14, r15, r16] _ _ l true _ ?s1 ?s2 ?s3 ?s4 HC.out).mono ?_; (case s1 => exact Kd.C_below hcb.out HB.out); (case s2 => exact Nat.le_refl 16); (case s3 => exact HC1.out); (case s4 => exact HL1.out); rintro e w9 ⟨rfl, hd⟩; have n1 := Aside0.mk (below_then HB.out HB.out.size hd.below); clear HB hd; have HB := n1; clear n1) | (go_at_call 11; refine (bautalaw38_lives.calls true _ HLv.out).mono ?_; rintro e w10 ⟨rfl, hb⟩; have n1 := Aside0.mk (below_then HB.out HB.out.size hb); clear HB hb; have HB := n1; clear n1))
  go_wp2_with fail
  go_ret
  exact ⟨rfl, by rw [← hg.out]; exact hBW.out.trans (HB.out.mono (Nat.le_of_lt hkz.out))⟩
end Go.Proofs.Ytkcechbibabpjaa.PB
