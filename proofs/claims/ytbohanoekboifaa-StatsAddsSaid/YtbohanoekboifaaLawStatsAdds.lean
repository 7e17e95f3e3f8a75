/- Written by this session's own program (wip/tools/adds_row.py) for this claim: the given statement. No condition. -/
import Derived.Test.YtbohanoekboifaaRows
import Derived.Test.YtbohanoekboifaaTA
import Derived.Test.YtbohanoekboifaaPureStatsAdds
import Derived.Test.YtbohanoekboifaaMoments
import Derived.Test.YtbohanoekboifaaLeakArg
import Derived.Test.YtbohanoekboifaaWSized
import Derived.WalkKit
import Derived.ProofKit
import Derived.OpenShut
import Derived.ShutString
import Derived.ChangeOld
import Derived.Below
import Derived.SizedLaws
namespace Go.Proofs.Ytbohanoekboifaa.statsAdds
open Go.ChangeShapes Go.WideShapes Go.ChangeAt Go.RowKit Go.Proofs.YtbohanoekboifaaW.PrintWords Go.Proofs.YtbohanoekboifaaW.PrintLast
open Go.ChangeMaps (open_string shut_string)
set_option linter.unusedVariables false
theorem own : ownKnob Try.prog.godebug = none := by kernel_rfl
theorem laidOut : laidOutB Try.prog = true := by kernel_rfl
theorem lk_of {x : PG3.S42} (h : (Lit.int .u32 x.f4).wf = true) : Pure.Lk x := by
  simp [Lit.wf, IntKind.min, IntKind.max, IntKind.bits, IntKind.signed] at h
  unfold Pure.Lk
  omega
theorem walk (a : Int) (A1 : Option Addr) (n1 c1 : Nat) (z1 : List Int) (A2 : Option Addr) (n2 c2 : Nat) (z2 : List Int) (A3 : Option Addr) (n3 c3 : Nat) (z3 : List Int) (A4 : Option Addr) (c4 : Nat) (y : List PG3.S42) (w : World) (h1 : Arg.IsRow .i64 w A1 n1 c1 z1) (h2 : Arg.IsRow .i64 w A2 n2 c2 z2) (h3 : Arg.IsRow .i64 w A3 n3 c3 z3) (hn3 : n3 * 8 ≤ 140737488351232) (h4 : Kd.C PG3.k42 w A4 y.length y) (hc4 : y.length ≤ c4) (hy : ∀ c ∈ y, (Lit.int .u32 c.f4).wf = true) :
    Calls Try.prog 5 #[.agg #[.int .i64 a, .slice A1 n1 c1, .slice A2 n2 c2], .slice A3 n3 c3, .slice A4 y.length c4] w fun e w' => e = .returned (.bool true) ∧ Below w.heap.size w w' := by
  obtain ⟨l1, rfl, hr1, hm1, hw1, hc1⟩ := ReadsInt.ofRowC h1
  obtain ⟨l2, rfl, hr2, hm2, hw2, hc2⟩ := ReadsInt.ofRowC h2
  obtain ⟨x, rfl, hr3, hm3, hw3, hc3⟩ := ReadsInt.ofRowC h3
  have hx : Kd.C (Kd.int .i64) w A3 x.length x := Kd.C_of_reads (d := (0 : Int)) (h1 := fun _ => rfl) hr3
  obtain ⟨x', hx', hcut1, hxl, hc3'⟩ : ∃ x' : List Int, Kd.C (Kd.int .i64) w A3 x'.length x' ∧ ((x.length = x'.length ∧ x.length ≤ 100) ∨ (x.length = x'.length ∧ 4000 < x.length) ∨ (100 < x.length ∧ x.length ≤ 4000 ∧ x'.length = 100)) ∧ x'.length ≤ x.length ∧ x'.length ≤ c3 := by
    by_cases c : 100 < x.length ∧ x.length ≤ 4000
    · have hl : (x.take 100).length = 100 := by rw [List.length_take]; omega
      exact ⟨x.take 100, Kd.C_take hx (by omega), .inr (.inr ⟨c.1, c.2, hl⟩), by omega, by omega⟩
    · exact ⟨x, hx, by by_cases c1 : x.length ≤ 100 <;> omega, Nat.le_refl _, hc3⟩
  obtain ⟨y', hy', hcut2, hyl, hc4', hyw⟩ : ∃ y' : List PG3.S42, Kd.C PG3.k42 w A4 y'.length y' ∧ ((y.length = y'.length ∧ y.length ≤ 100) ∨ (100 < y.length ∧ y'.length = 100)) ∧ y'.length ≤ 100 ∧ y'.length ≤ c4 ∧ (∀ c ∈ y', Pure.Lk c) := by
    by_cases c : 100 < y.length
    · have hl : (y.take 100).length = 100 := by rw [List.length_take]; omega
      exact ⟨y.take 100, Kd.C_take h4 (by omega), .inr ⟨c, hl⟩, by omega, by omega, fun z hz => lk_of (hy z (List.mem_of_mem_take hz))⟩
    · exact ⟨y, h4, .inl ⟨rfl, by omega⟩, by omega, hc4, fun z hz => lk_of (hy z hz)⟩
  obtain ⟨k, h⟩ := Pure.StatsAdds a l1 l2 x' y' (by omega) hyl hyw
  refine (PG3.bautalaw39_StatsAdds_le.calls k a _ _ l1 _ _ l2 _ _ x' _ _ y' true w (Kd.C_of_reads (d := (0 : Int)) (h1 := fun _ => rfl) hr1) hc1 (Kd.C_of_reads (d := (0 : Int)) (h1 := fun _ => rfl) hr2) hc2 hx' hc3' hy' hc4' x.length y.length hc3 hc4 hcut1 hcut2 h rfl).mono ?_
  rintro e w' ⟨rfl, hd⟩
  exact ⟨rfl, hd⟩
set_option maxRecDepth 100000 in
theorem lifted (os : Os) (started : os.Started) (H : Type) (enc : TypeId × Value → H) :
    ReturnsInHanded {} Try.checked os 5 .any (Rows.statsAddsSpec.pre6 enc Try.prog Try.f5 Rows.statsAddsRow.domain false) (Rows.statsAddsSpec.post enc Try.prog Try.f5 false true false false) := by
  refine returnsInHanded_of_change_sized (C := Try.checked) own started (by kernel_rfl) Try.func5
    (ChangeSpec.witness6 (enc := enc) (C := Try.checked) false ⟨#[], #[.agg #[.int .i64 0, .slice none 0 0, .slice none 0 0], .slice none 0 0, .slice none 0 0], []⟩ 8 (by kernel_rfl) (by kernel_rfl) (by kernel_rfl) (by kernel_rfl)) ?_
  intro W base args ds gs before hval0 hW hcnd hsz0 _
  have hsz : (DataW.weightsEach Try.prog (Try.f5.params.toList ++ Rows.statsAddsSpec.plain.varTypes Try.prog) (ds ++ gs)).all (· ≤ reachBytes) = true := hsz0
  have hval : ∀ (j : Nat) t v, Try.f5.params[j]? = some t → args[j]? = some v → Value.okWide Try.prog W .any base t v := hval0
  have hW' := hW
  obtain ⟨p, q, hA0, hV, rfl, hfz, hnd⟩ := hW
  have hA : DataW.TrodAll enc Try.prog W 0 (fun _ => true) true Try.f5.params.toList args.toList ds p := hA0
  rw [Try.params5] at hA hval hsz
  obtain ⟨v0, vs0, d0, ds0, p0, q0, hargs, rfl, rfl, h0, r0⟩ := trodAll_cons hA
  obtain ⟨v1, vs1, d1, ds1, p1, q1, rfl, rfl, rfl, h1, r1⟩ := trodAll_cons r0
  obtain ⟨v2, vs2, d2, ds2, p2, q2, rfl, rfl, rfl, h2, r2⟩ := trodAll_cons r1
  obtain ⟨rfl, rfl, rfl⟩ := trodAll_nil r2
  obtain rfl : args = #[v0, v1, v2] := by cases args; simp_all
  obtain ⟨rfl, rfl⟩ := trodVars_none hV
  have k0 := h0
  have lt0 : ∀ x ∈ p0, x.block < W.heap.size := by obtain ⟨m, hm⟩ := k0; exact DataW.trod_lt m _ _ _ hm
  obtain ⟨a, A1, n01, c01, z01, A2, n02, c02, z02, rfl, _, w01, w02⟩ := Arg.open_moments Try.underlying24 ⟨rfl, rfl⟩ ⟨rfl, rfl⟩ ⟨rfl, rfl⟩ Try.underlying22 Try.underlying3 (by kernel_rfl) (by kernel_rfl) (by kernel_rfl) (hval 0 24 v0 rfl rfl) h0
  obtain ⟨a1, len1, cap1, rfl⟩ := okWide_slice Try.underlying22 (hval 1 22 v1 rfl rfl)
  have k1 := h1
  have lt1 : ∀ x ∈ p1, x.block < W.heap.size := by obtain ⟨m, hm⟩ := k1; exact DataW.trod_lt m _ _ _ hm
  obtain ⟨z1, w1⟩ : ∃ zs, Arg.IsRow .i64 W a1 len1 cap1 zs := by
    obtain ⟨fuel, hf⟩ := h1
    rcases open_ints Try.underlying22 Try.underlying3 (by kernel_rfl) hf with ⟨hcs, _⟩ | ⟨x, l, c, zs, hcs, _, hl, hm, hz, _, hcell, hwz⟩
    · simp [Value.cells] at hcs
      obtain ⟨rfl, rfl, rfl⟩ := hcs
      exact ⟨[], .inl ⟨rfl, rfl, rfl, rfl⟩⟩
    · simp [Value.cells] at hcs
      obtain ⟨rfl, rfl, rfl⟩ := hcs
      exact ⟨zs, .inr ⟨_, rfl, hl, hm, by simpa using hz, hcell, hwz⟩⟩
  have y1 : len1 * 8 ≤ 140737488351232 := sized_ints hsz (j := 1) (t := 22) rfl rfl Try.underlying22 Try.underlying3 (by kernel_rfl) (by kernel_rfl) h1
  obtain ⟨a2, len2, cap2, rfl⟩ := okWide_slice Try.underlying33 (hval 2 33 v2 rfl rfl)
  have k2 := h2
  have lt2 : ∀ x ∈ p2, x.block < W.heap.size := by obtain ⟨m, hm⟩ := k2; exact DataW.trod_lt m _ _ _ hm
  obtain ⟨l2, rfl, hc2, hC2, hw2⟩ := LeakArg.open_leaks h2
  clear hA0 hval0 hsz0 hsz
  refine (walk a A1 n01 c01 z01 A2 n02 c02 z02 a1 len1 cap1 z1 a2 cap2 l2 W w01 w02 w1 y1 hC2 hc2 hw2).mono fun e W' ⟨he, bel⟩ => ?_
  subst he
  exact ⟨_, rfl, _, _, _, [], _, [], hW', trodAll_mk1 (shut_bool Try.underlying4 _), (trodAll_cons_mk (Below.trod laidOut (by kernel_rfl) (of_decide_eq_true (by kernel_rfl)) k0 bel lt0) (trodAll_cons_mk (Below.trod laidOut (by kernel_rfl) (of_decide_eq_true (by kernel_rfl)) k1 bel lt1) (trodAll_cons_mk (Below.trod laidOut (by kernel_rfl) (of_decide_eq_true (by kernel_rfl)) k2 bel lt2) trodAll_mk0))), rfl, bel.frame _, fun h => by cases h⟩
theorem over : Rows.statsAddsRow.holds Try.pinned (OpenSpec.ofChange Rows.statsAddsSpec) :=
  OpenClaim.holds_of_wide 5 Try.f5 rfl rfl rfl rfl rfl rfl rfl ⟨rfl, rfl, rfl, rfl, rfl⟩ rfl rfl rfl rfl rfl (by kernel_rfl) Try.func5 (by kernel_rfl)
    (of_decide_eq_true (by kernel_rfl)) (by unfold Func.isWrapper; first | (rw [if_pos (by decide +kernel)]; kernel_rfl) | (rw [if_neg (by decide +kernel)]; exact ⟨rfl, rfl⟩))
    (fun os started H enc _ => lifted os started H enc)
theorem proved : Rows.StatsAddsSaid := over
#print axioms proved
end Go.Proofs.Ytbohanoekboifaa.statsAdds
namespace Go.Proofs.Ytbohanoekboifaa
/-- The row, under a short name, for the claim. -/
theorem statsAdds_holds : Rows.StatsAddsSaid := statsAdds.proved
end Go.Proofs.Ytbohanoekboifaa
