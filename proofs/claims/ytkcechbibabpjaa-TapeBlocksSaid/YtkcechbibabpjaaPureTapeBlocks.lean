/- TapeBlocks: each block's words are the document's. No condition. -/
import Derived.Test.YtkcechbibabpjaaPureTapeS
import Derived.Test.YtkcechbibabpjaaTB
namespace Go.Proofs.Ytkcechbibabpjaa.Pure
set_option linter.unusedVariables false
open Go.RowKit Go.Proofs.Ytkcechbibabpjaa.B Go.Proofs.Ytkcechbibabpjaa.BW Go.Proofs.Ytkcechbibabpjaa.PB Go.Proofs.YtkcechbibabpjaaW.PrintWords Go.Proofs.YtkcechbibabpjaaW.PrintLast Go.Proofs.YtkcechbibabpjaaW.PrintMore
theorem wfu {x : Int} (h : (Lit.int .u32 x).wf = true) : ∃ a : Nat, x = (a : Int) ∧ a < 4294967296 := wf_u32 h
theorem TapeBlocks_walk (a0_0 a0_1 a0_2 a0_3 a0_4 a0_5 a0_6 a0_7 a1 a2_0 a2_1 a2_2 : Int) (w : World)
    (w0_0 : (Lit.int .u32 a0_0).wf = true) (w0_1 : (Lit.int .u32 a0_1).wf = true) (w0_2 : (Lit.int .u32 a0_2).wf = true) (w0_3 : (Lit.int .u32 a0_3).wf = true) (w0_4 : (Lit.int .u32 a0_4).wf = true) (w0_5 : (Lit.int .u32 a0_5).wf = true) (w0_6 : (Lit.int .u32 a0_6).wf = true) (w0_7 : (Lit.int .u32 a0_7).wf = true) (w1 : (Lit.int .u32 a1).wf = true) (w2_0 : (Lit.int .u32 a2_0).wf = true) (w2_1 : (Lit.int .u32 a2_1).wf = true) (w2_2 : (Lit.int .u32 a2_2).wf = true) :
    Calls Try.prog 4 #[.agg #[.int .u32 a0_0, .int .u32 a0_1, .int .u32 a0_2, .int .u32 a0_3, .int .u32 a0_4, .int .u32 a0_5, .int .u32 a0_6, .int .u32 a0_7], .int .u32 a1, .agg #[.int .u32 a2_0, .int .u32 a2_1, .int .u32 a2_2]] w fun e w' => e = .returned (.bool true) ∧ Below w.heap.size w w' := by
  obtain ⟨b0, rfl, h0⟩ := wfu w0_0
  obtain ⟨b1, rfl, h1⟩ := wfu w0_1
  obtain ⟨b2, rfl, h2⟩ := wfu w0_2
  obtain ⟨b3, rfl, h3⟩ := wfu w0_3
  obtain ⟨b4, rfl, h4⟩ := wfu w0_4
  obtain ⟨b5, rfl, h5⟩ := wfu w0_5
  obtain ⟨b6, rfl, h6⟩ := wfu w0_6
  obtain ⟨b7, rfl, h7⟩ := wfu w0_7
  obtain ⟨c, rfl, hc⟩ := wfu w1
  obtain ⟨n0, rfl, hn0⟩ := wfu w2_0
  obtain ⟨n1, rfl, hn1⟩ := wfu w2_1
  obtain ⟨n2, rfl, hn2⟩ := wfu w2_2
  obtain ⟨k, hk⟩ : ∃ k : Nat, 110 ≤ k := ⟨110, Nat.le_refl _⟩
  obtain ⟨zs, hz, hl, _, hA, hB⟩ := block_both k hk b0 b1 b2 b3 b4 b5 b6 b7 c n0 n1 n2 h0 h1 h2 h3 h4 h5 h6 h7 hc hn0 hn1 hn2
  refine tapeBlocks_calls k _ _ _ _ _ _ _ _ _ _ _ _ (rd zs 0) (rd zs 1) (rd zs 2) (rd zs 3) (rd zs 4) (rd zs 5) (rd zs 6) (rd zs 7) (rd zs 8) (rd zs 9) (rd zs 10) (rd zs 11) (rd zs 12) (rd zs 13) (rd zs 14) (rd zs 15) zs w ?_ hB ?_ lives_f
  · unfold tape_Block.f
    rw [hA]
    rfl
  · rw [list_rd zs hl]
    exact same_f k zs (by omega) (by omega)
end Go.Proofs.Ytkcechbibabpjaa.Pure
