/- BddFull: what the call comes to. No condition but the hypotheses that each theorem states. -/
import Derived.Test.YtialbhkamlfccaaDD
namespace Go.Proofs.Ytialbhkamlfccaa.PA
open Go.RowKit Go.Proofs.YtialbhkamlfccaaW.PrintWords Go.Proofs.YtialbhkamlfccaaW.PrintLast Go.Proofs.YtialbhkamlfccaaW.PrintMore Go.Proofs.Ytialbhkamlfccaa.Mp Go.Proofs.Ytialbhkamlfccaa.Dia
set_option linter.unusedVariables false
set_option linter.unusedSimpArgs false
theorem base_len (vars : Nat) : [(⟨vars, 0, 0⟩ : Nd), ⟨vars, 1, 1⟩].length = 2 := rfl
theorem count_tab {vars : Nat} {ns : List Nd} {m : Nat} (h : Inv vars ns) (hm : m < ns.length) : cnt vars ns m * 2 ^ top ns m = ((tab vars (sem ns m)).filter id).length := (table_cnt h hm tab_is).symm
theorem tab_small {vars : Nat} (hv : vars ≤ 5) (F : (Nat → Bool) → Bool) : (tab vars F).length ≤ 32 := by
  rw [tab_length]
  have := Nat.pow_le_pow_right (show 0 < 2 by decide) hv
  omega
set_option maxHeartbeats 8000000 in
set_option maxRecDepth 100000 in
theorem bautalaw36_BddFull.calls (a0 : Nat) (A1 : Option Addr) (c1 : Nat) (l : List AcT) (w : World) (ha : a0 < 256) (hC : Kd.C k58 w A1 l.length l) :
    Calls Try.prog 5 #[.int .u8 (a0 : Int), .slice A1 l.length c1] w fun e w' => e = .returned (.bool true) ∧ Below w.heap.size w w' := by
  have HC := Aside0.mk hC
  have HA := Aside0.mk ha
  have hs1 : wrap64 (2 + (a0 : Int)) = ((a0 + 2 : Nat) : Int) := by unfold wrap64; omega
  have hs2 : IntKind.i64.wrap (2 + (a0 : Int)) = ((a0 + 2 : Nat) : Int) := by rw [IntKind.wrap_i64]; omega
  have hs3 : (a0 : Int) % 18446744073709551616 = (a0 : Int) := by omega
  have hs4 : IntKind.i64.wrap (a0 : Int) = (a0 : Int) := by rw [IntKind.wrap_i64]; omega
  clear hC ha
  go_enter Try.func5, Try.ntmps5
  go_upto_region 3 with (first | (go_at_call 7; (refine (bdd_New.calls 5 (a0 + 2) w (by omega) (by have := HA.out; omega)).mono ?_); rintro e w1 ⟨g, rfl, hb, hbl⟩; have HS := Aside0.mk hb.typed; have HB := Aside0.mk hbl; clear hb hbl))
  obtain ⟨ns0, hns0⟩ : ∃ ns : List Nd, ns = [⟨5, 0, 0⟩, ⟨5, 1, 1⟩] := ⟨_, rfl⟩
  rw [← hns0] at HS
  clear hns0
  go_upto_region 8 with (first | (go_at_call 8; (refine (made.calls g 5 (a0 + 2) 0 false ns0 A1 c1 l w _ HB.out HS.out HC.out (by omega) (by have := pp_le (show 5 ≤ 5 by omega); omega)).mono ?_); rintro e w2 ⟨v9, v10, v11, v12, ids, ns', full', rfl, HM, HI⟩))
  clear HS HB
  go_wp2_with fail
  obtain ⟨A9, c9, e9, hl9, _⟩ := Kd.R_reads HM.out.n
  rw [List.length_map] at e9
  subst e9
  clear hl9
  go_loopg [10] (ids.length + 1) (fun kq v10_ w' => ∃ i : Nat, v10_ = .int .i64 (i : Int) ∧ Aside0 (i + kq = ids.length + 1 ∧ i ≤ ids.length) ∧ Aside0 (Ms w w' g 5 (a0 + 2) full' ns' (0 + 40 * pp 5) (.slice A9 ids.length c9) v10 v11 v12 ids))
  case atStart => exact ⟨0, rfl, ⟨Nat.zero_add _, Nat.zero_le _⟩, HM⟩
  case round =>
    clear HM
    obtain ⟨i, rfl, HK, HM⟩ := hrel
    by_cases hi : i < ids.length
    · obtain ⟨m, ad9, c9', ad10, c10, A, cc, hm, e9, e10, hlc, hcell⟩ := HM.out.at_ hi
      obtain ⟨rfl, rfl⟩ : A9 = some ad9 ∧ c9 = c9' := by injection e9 with a b c; exact ⟨a, c⟩
      subst e10
      have hc0 := hcell wr (Kept.refl _ _)
      have z9 := hc0.1
      have q1 : ((i : Int) < (ids.length : Int)) = True := eq_true (by omega)
      have q2 : (0 ≤ (i : Int)) = True := eq_true (by omega)
      have q3 : (i < ids.length) = True := eq_true hi
      have hct := count_tab HM.out.s.inv hm
      have hcl := tab_small (show 5 ≤ 5 by omega) (sem ns' m)
      obtain ⟨q, hq⟩ : ∃ q, q = ((tab 5 (sem ns' m)).filter id).length := ⟨_, rfl⟩
      have hqle : q ≤ 32 := by rw [hq]; exact Nat.le_trans (List.length_filter_le _ _) hcl
      rw [← hq] at hct
      have hf := Count_f (s := tab 5 (sem ns' m)) (by omega)
      rw [← hq] at hf
      have hw1 := Aside0.mk (show wrap64 ((i : Int) + 1) = ((i + 1 : Nat) : Int) by have := HK.out; have := HI.out; unfold wrap64; omega)
      have hs5 : IntKind.u64.wrap (q : Int) = (q : Int) := by rw [IntKind.wrap_u64]; omega
      have hs6 : (q : Int) % 18446744073709551616 = (q : Int) := by omega
      have HCELL := Aside0.mk hcell
      have HF := Aside0.mk hf
      have HCT := Aside0.mk hct
      have HMM := Aside0.mk (And.intro hm hlc)
      have HII := Aside0.mk hi
      clear hc0 hct hcl hq hqle hf hcell hm hlc hi e9
      go_upto_region 12 with (first | (go_at_call 14; (with_reducible refine (bdd_Count.calls m g 5 (a0 + 2) _ _ full' ns' w _ (Ms.bs HM.out) HMM.out.1 (by omega)).mono ?_); rintro e w3 ⟨rfl, hb3⟩; rw [HCT.out]; have n1 := Aside0.mk (HM.out.below hb3); have n2 := Aside0.mk (HCELL.out _ (Kept.of_below hb3 _)); clear HM HCELL hb3; have HM := n1; have HCELL := n2; clear n1 n2))
      have z10 := HCELL.out.2.1
      go_wp2_with (first | (go_at_call 17; (with_reducible refine (bautaref36_Count.calls _ _ _ _ _ _ HCELL.out.2.2 HMM.out.2 HF.out).mono ?_); rintro e w4 ⟨rfl, hd⟩; have n1 := Aside0.mk (HM.out.below hd.below); clear HM hd; have HM := n1; clear n1))
      go_roundg (gk - 1)
      case measure => have := HK.out; have := HII.out; omega
      case rel => exact ⟨i + 1, congrArg (Value.int .i64) hw1.out, ⟨by have := HK.out; have := HII.out; omega⟩, HM⟩
    · have q1 : ((i : Int) < (ids.length : Int)) = False := eq_false (by omega)
      clear hi
      go_wp2_with (first | (go_at_call 13; refine (lives.calls _).mono ?_; rintro e w5 ⟨rfl, hb5⟩; have HB5 := Aside0.mk (below_then HM.out.b HM.out.b.size hb5); clear hb5))
      go_ret
      exact ⟨rfl, HB5.out⟩
end Go.Proofs.Ytialbhkamlfccaa.PA
