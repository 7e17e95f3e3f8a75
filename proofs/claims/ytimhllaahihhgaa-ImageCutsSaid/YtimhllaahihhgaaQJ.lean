/- image.Take: what the call comes to, for any bytes. No condition but the hypotheses that each theorem states. -/
import Derived.Test.YtimhllaahihhgaaQK
import Derived.Test.YtimhllaahihhgaaQS
namespace Go.Proofs.Ytimhllaahihhgaa.PA
open Go.RowKit Go.Proofs.YtimhllaahihhgaaW.PrintWords Go.Proofs.YtimhllaahihhgaaW.PrintLast Go.Proofs.YtimhllaahihhgaaW.PrintMore
set_option linter.unusedVariables false
set_option linter.unusedSimpArgs false
def image_Take.f (l0 : List Int) : Option TakeR := if l0.all (fun x => decide (0 ≤ x) && decide (x < 256)) = true then some (takeI l0) else none
theorem bytes_of_all {l : List Int} (h : l.all (fun x => decide (0 ≤ x) && decide (x < 256)) = true) : Bytes l := fun x hx => by
  have := List.all_eq_true.mp h x hx
  simpa using this
theorem image_Take.calls (A0 : Option Addr) (c0 : Nat) (l0 : List Int) (r1 : List Int) (r2 r3 r4 r5 : Int) (r6 r7 r8 : List S26) (r9 : Int) (w : World) (hr0 : Kd.C (Kd.int .u8) w A0 l0.length l0) (hc0 : l0.length ≤ c0) (h : image_Take.f l0 = some (r1, r2, r3, r4, r5, r6, r7, r8, r9)) :
    Calls Try.prog 11 #[.slice A0 l0.length c0] w fun e w' => ∃ v0_ v1_ v2_ v3_ : Value, e = .returned (.tuple #[v0_, .agg #[.int .i64 r2, .int .i64 r3, .int .i64 r4, .int .i64 r5, v1_, v2_, v3_], .int .i64 r9]) ∧
      Kd.R (Kd.int .u16) 32 w' w.heap.size (fun _ => True) v0_ r1 ∧ Kd.R k26 26 w' w.heap.size (fun k_ => some k_ ≠ (v2_ : Value).ownBlock ∧ some k_ ≠ (v3_ : Value).ownBlock) v1_ r6 ∧ Kd.R k26 26 w' w.heap.size (fun k_ => some k_ ≠ (v1_ : Value).ownBlock ∧ some k_ ≠ (v3_ : Value).ownBlock) v2_ r7 ∧ Kd.R k26 26 w' w.heap.size (fun k_ => some k_ ≠ (v1_ : Value).ownBlock ∧ some k_ ≠ (v2_ : Value).ownBlock) v3_ r8 ∧ Below w.heap.size w w' := by
  unfold image_Take.f at h
  by_cases hb : l0.all (fun x => decide (0 ≤ x) && decide (x < 256)) = true
  · rw [if_pos hb] at h
    have hR := Option.some.inj h
    unfold takeI at hR
    cases hcb : ((strOfNums (l0.take (min l0.length 4))).toList == ((⟨#[77, 83, 75, 49]⟩ : ByteArray).extract 0 (min l0.length 4)).toList) with
    | false =>
      rw [hcb, if_neg Bool.false_ne_true] at hR
      have h2 := image_Take.calls_short A0 c0 l0 false w hr0 hc0 hcb (fun h => absurd h Bool.false_ne_true)
      simp only [errI, Prod.mk.injEq] at hR
      obtain ⟨rfl, rfl, rfl, rfl, rfl, rfl, rfl, rfl, rfl⟩ := hR
      exact h2
    | true =>
      rw [hcb, if_pos rfl] at hR
      by_cases h4 : l0.length < 4
      · rw [if_pos h4] at hR
        have h2 := image_Take.calls_short A0 c0 l0 true w hr0 hc0 hcb (fun _ => h4)
        simp only [errI, Prod.mk.injEq] at hR
        obtain ⟨rfl, rfl, rfl, rfl, rfl, rfl, rfl, rfl, rfl⟩ := hR
        exact h2
      · rw [if_neg h4] at hR
        obtain ⟨ad, rfl, _⟩ := hr0.2.2 (by omega)
        rw [show min l0.length 4 = 4 by omega] at hcb
        exact image_Take.calls_tail ad c0 l0 _ w hr0 hc0 (by omega) (bytes_of_all hb) hcb hR
  · rw [if_neg hb] at h
    cases h
end Go.Proofs.Ytimhllaahihhgaa.PA
