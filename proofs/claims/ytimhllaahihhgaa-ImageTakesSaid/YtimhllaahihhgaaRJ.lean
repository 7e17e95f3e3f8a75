/- The reference's Take: what the call comes to, for any bytes. No condition but the hypotheses that each theorem states. -/
import Derived.Test.YtimhllaahihhgaaRU
import Derived.Test.YtimhllaahihhgaaRT
namespace Go.Proofs.Ytimhllaahihhgaa.PA
open Go.RowKit Go.Proofs.YtimhllaahihhgaaW.PrintWords Go.Proofs.YtimhllaahihhgaaW.PrintLast Go.Proofs.YtimhllaahihhgaaW.PrintMore
set_option linter.unusedVariables false
set_option linter.unusedSimpArgs false
def bautaref03_Take.f (l0 : List Int) : Option TakeR := if l0.all (fun x => decide (0 ≤ x) && decide (x < 256)) = true ∧ l0.length < 4611686018427387904 then some (takeI l0) else none
theorem bytes_of_all' {l : List Int} (h : l.all (fun x => decide (0 ≤ x) && decide (x < 256)) = true) : Bytes l := fun x hx => by
  have := List.all_eq_true.mp h x hx
  simpa using this
theorem bautaref03_Take.calls (A0 : Option Addr) (c0 : Nat) (l0 : List Int) (r1 : List Int) (r2 r3 r4 r5 : Int) (r6 r7 r8 : List S26) (r9 : Int) (w : World) (hr0 : Kd.C (Kd.int .u8) w A0 l0.length l0) (hc0 : l0.length ≤ c0) (h : bautaref03_Take.f l0 = some (r1, r2, r3, r4, r5, r6, r7, r8, r9)) :
    Calls Try.prog 12 #[.slice A0 l0.length c0] w fun e w' => ∃ v0_ v1_ v2_ v3_ : Value, e = .returned (.tuple #[v0_, .agg #[.int .i64 r2, .int .i64 r3, .int .i64 r4, .int .i64 r5, v1_, v2_, v3_], .int .i64 r9]) ∧
      Kd.R (Kd.int .u16) 32 w' w.heap.size (fun _ => True) v0_ r1 ∧ Kd.R k26 26 w' w.heap.size (fun k_ => some k_ ≠ (v2_ : Value).ownBlock ∧ some k_ ≠ (v3_ : Value).ownBlock) v1_ r6 ∧ Kd.R k26 26 w' w.heap.size (fun k_ => some k_ ≠ (v1_ : Value).ownBlock ∧ some k_ ≠ (v3_ : Value).ownBlock) v2_ r7 ∧ Kd.R k26 26 w' w.heap.size (fun k_ => some k_ ≠ (v1_ : Value).ownBlock ∧ some k_ ≠ (v2_ : Value).ownBlock) v3_ r8 ∧ Below w.heap.size w w' := by
  unfold bautaref03_Take.f at h
  split at h
  · rename_i hb
    have hB := bytes_of_all' hb.1
    have hR := Option.some.inj h
    clear h
    have fin3 : takeI l0 = errI 3 → (r1, r2, r3, r4, r5, r6, r7, r8, r9) = errI 3 := fun e => hR.symm.trans e
    have fin4 : takeI l0 = errI 4 → (r1, r2, r3, r4, r5, r6, r7, r8, r9) = errI 4 := fun e => hR.symm.trans e
    by_cases l1 : l0.length = 0
    · have e := fin3 (take_short l0 0 (by omega) l1 (fun j hj => by omega))
      cases e
      exact refTake_S0 A0 c0 l0 w hr0 l1
    by_cases h0 : rd l0 0 = 77
    case neg =>
      have e := fin4 (take_mark l0 hB 0 (by omega) (by omega) h0)
      cases e
      exact refTake_M0 A0 c0 l0 w hr0 (by omega) h0
    by_cases l2 : l0.length = 1
    · have e := fin3 (take_short l0 1 (by omega) l2 (fun j hj => by obtain rfl : j = 0 := by omega
                                                                    exact h0))
      cases e
      exact refTake_S1 A0 c0 l0 w hr0 l2 h0
    by_cases h1 : rd l0 1 = 83
    case neg =>
      have e := fin4 (take_mark l0 hB 1 (by omega) (by omega) h1)
      cases e
      exact refTake_M1 A0 c0 l0 w hr0 (by omega) h1 h0
    by_cases l3 : l0.length = 2
    · have e := fin3 (take_short l0 2 (by omega) l3 (fun j hj => by
        rcases (show j = 0 ∨ j = 1 by omega) with rfl | rfl
        · exact h0
        · exact h1))
      cases e
      exact refTake_S2 A0 c0 l0 w hr0 l3 h0 h1
    by_cases h2 : rd l0 2 = 75
    case neg =>
      have e := fin4 (take_mark l0 hB 2 (by omega) (by omega) h2)
      cases e
      exact refTake_M2 A0 c0 l0 w hr0 (by omega) h2 h0 h1
    by_cases l4 : l0.length = 3
    · have e := fin3 (take_short l0 3 (by omega) l4 (fun j hj => by
        rcases (show j = 0 ∨ j = 1 ∨ j = 2 by omega) with rfl | rfl | rfl
        · exact h0
        · exact h1
        · exact h2))
      cases e
      exact refTake_S3 A0 c0 l0 w hr0 l4 h0 h1 h2
    by_cases h3 : rd l0 3 = 49
    case neg =>
      have e := fin4 (take_mark l0 hB 3 (by omega) (by omega) h3)
      cases e
      exact refTake_M3 A0 c0 l0 w hr0 (by omega) h3 h0 h1 h2
    have e := take_long l0 (by omega) (fun j hj => by
        rcases (show j = 0 ∨ j = 1 ∨ j = 2 ∨ j = 3 by omega) with rfl | rfl | rfl | rfl
        · exact h0
        · exact h1
        · exact h2
        · exact h3)
    obtain ⟨ad, rfl, _⟩ := hr0.2.2 (by omega)
    have h9 := refTake_main ad c0 l0 (r1, r2, r3, r4, r5, r6, r7, r8, r9) w hr0 hc0 (by omega) hB hb.2 h0 h1 h2 h3 (by rw [tail_same _ (hB.drop 4), ← e, hR])
    exact h9
  · cases h
end Go.Proofs.Ytimhllaahihhgaa.PA
