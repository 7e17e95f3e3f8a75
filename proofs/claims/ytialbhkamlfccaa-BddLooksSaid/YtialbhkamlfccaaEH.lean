/- BddLooks: what the call comes to. No condition but the hypotheses that each theorem states. -/
import Derived.Test.YtialbhkamlfccaaEA
import Derived.Test.YtialbhkamlfccaaED
import Derived.Test.YtialbhkamlfccaaEE
import Derived.Test.YtialbhkamlfccaaEG
import Derived.Test.YtialbhkamlfccaaPure6
import Derived.Deep.RegionHeld3
namespace Go.Proofs.Ytialbhkamlfccaa.PA
open Go.RowKit Go.Proofs.YtialbhkamlfccaaW.PrintWords Go.Proofs.YtialbhkamlfccaaW.PrintLast Go.Proofs.YtialbhkamlfccaaW.PrintMore Go.Proofs.Ytialbhkamlfccaa.Mp Go.Proofs.Ytialbhkamlfccaa.Dia
set_option linter.unusedVariables false
set_option linter.unusedSimpArgs false
/-- The first value, of the set and of the reference. -/
theorem Any_all {vars : Nat} {ns : List Nd} (h : Inv vars ns) (hv : vars ≤ 40) {m : Nat} (hm : m < ns.length) : ∃ (xs : List Bool) (bq : Bool) (k : Nat), bautaref36_Any.f k (vars : Int) (tab vars (sem ns m)) = some (xs, bq) ∧ xs.length ≤ 40 ∧ ∀ (g most : Nat) (ok : Nat → Prop) (nb : Nat) (full : Bool) (w0 w : World), BS w0 w ok g vars most full ns nb → Calls Try.prog 15 #[.pointer (some ⟨g, 0, none⟩), .int .i64 (m : Int)] w fun e w' => ∃ v : Value, e = .returned (.tuple #[v, .bool bq]) ∧ Kd.R Kd.bool 4 w' w.heap.size (fun _ => True) v xs ∧ Below w.heap.size w w' := by
  by_cases h0 : m = 0
  · subst h0
    exact ⟨[], false, _, Any_zero hv, by simp, fun g most ok nb full w0 w hb => (Any_none g vars most ok nb full ns w0 w hb).mono (by rintro e w' ⟨rfl, e2⟩; rw [e2]; exact ⟨_, rfl, Kd.R_nil _ _ _ _ _, Below.refl _ _⟩)⟩
  · obtain ⟨k, hk⟩ := Any_node h hv (show 1 ≤ m by omega) hm
    exact ⟨_, true, k, hk, by simp; omega, fun g most ok nb full w0 w hb => bdd_Any.calls m g vars most ok nb full ns w0 w hb (by omega) hm⟩
set_option maxHeartbeats 8000000 in
set_option maxRecDepth 100000 in
theorem bautalaw36_BddLooks.calls (a0 : Nat) (A1 : Option Addr) (c1 : Nat) (l : List AcT) (w : World) (ha : a0 < 256) (hC : Kd.C k58 w A1 l.length l) :
    Calls Try.prog 4 #[.int .u8 (a0 : Int), .slice A1 l.length c1] w fun e w' => e = .returned (.bool true) ∧ Below w.heap.size w w' := by
  obtain ⟨n, hn⟩ : ∃ n, n = a0 % 6 := ⟨_, rfl⟩
  have HC := Aside0.mk hC
  have HN := Aside0.mk (show n ≤ 5 by omega)
  have hm1 : (a0 : Int) % 6 = (n : Int) := by omega
  have hm2 : Int.tmod (a0 : Int) 6 = (n : Int) := by rw [Int.tmod_eq_emod_of_nonneg (by omega)]; omega
  have hm3 : IntKind.i64.wrap (n : Int) = (n : Int) := by rw [IntKind.wrap_i64]; omega
  have hm4 : IntKind.u8.wrap (n : Int) = (n : Int) := by rw [IntKind.wrap_u8]; omega
  clear hC ha hn
  go_enter Try.func4, Try.ntmps4
  go_upto_region 3 with (first | (go_at_call 7; (refine (bdd_New.calls n 100000 _ (by have := HN.out; omega) (by omega)).mono ?_); rintro e w1 ⟨g, rfl, hb, hbl⟩))
  obtain ⟨ns0, hns0⟩ : ∃ ns : List Nd, ns = [⟨n, 0, 0⟩, ⟨n, 1, 1⟩] := ⟨_, rfl⟩
  have HL0 := Aside0.mk (show ns0.length = 2 by rw [hns0]; rfl)
  rw [← hns0] at hb
  have HS := Aside0.mk hb.typed
  have HB := Aside0.mk hbl
  clear hns0 hb hbl hm1 hm2 hm3 hm4
  go_upto_region 6 with (first | (go_at_call 8; (refine (made.calls g n 100000 0 false ns0 A1 c1 l w _ HB.out HS.out HC.out HN.out (by have := pp_le HN.out; omega)).mono ?_); rintro e w2 ⟨v9, v10, v11, v12, ids, ns, full', rfl, HM, HI⟩))
  clear HS HB
  obtain ⟨ad9, c9, ad10, c10, _, _, _, _, _, _, _, _, _, e9, e10, _⟩ := HM.out.at3 (ra := 0) (rb := 0) (rc := 0) (by have := HI.out; omega) (by have := HI.out; omega) (by have := HI.out; omega)
  subst e9 e10
  go_wp2_with fail
  go_loopg [10] (ids.length + 1) (fun kq v10_ w' => ∃ i : Nat, v10_ = .int .i64 (i : Int) ∧ Aside0 (i + kq = ids.length + 1 ∧ i ≤ ids.length) ∧ Aside0 (Ms w w' g n 100000 full' ns (0 + 40 * pp n) (.slice (some ad9) ids.length c9) (.slice (some ad10) ids.length c10) v11 v12 ids))
  case atStart => exact ⟨0, rfl, ⟨Nat.zero_add _, Nat.zero_le _⟩, HM⟩
  case round =>
    clear HM
    obtain ⟨i, rfl, HK, HM⟩ := hrel
    by_cases hi : i < ids.length
    · obtain ⟨X, hX⟩ : ∃ X, X = wr := ⟨_, rfl⟩
      subst hX
      obtain ⟨m, ad9', c9', ad10', c10', A, cc, hm, e9, e10, hlc, hcell⟩ := HM.out.at_ hi
      obtain ⟨rfl, rfl⟩ : ad9 = ad9' ∧ c9 = c9' := by injection e9 with a b c; exact ⟨by injection a, c⟩
      obtain ⟨rfl, rfl⟩ : ad10 = ad10' ∧ c10 = c10' := by injection e10 with a b c; exact ⟨by injection a, c⟩
      have hinv := HM.out.s.inv
      have hct := count_tab hinv hm
      have htl := tab_length n (sem ns m)
      have hcl := tab_small HN.out (sem ns m)
      obtain ⟨xs, bq, kk', hkf, hxl, hany⟩ := Any_all hinv (by have := HN.out; omega) hm
      obtain ⟨z, hz⟩ : ∃ z, z = sizeT n [tab n (sem ns m)] := ⟨_, rfl⟩
      have HSZ : Aside0 (∀ sl : List Nat, sl.Nodup → (∀ j, j ∈ sl ↔ 2 ≤ j ∧ Dia.Reach ns m j) → sl.length = z) := ⟨fun sl h1 h2 => by rw [hz]; exact (size_eq hinv hm h1 h2).symm⟩
      obtain ⟨q, hq⟩ : ∃ q, q = ((tab n (sem ns m)).filter id).length := ⟨_, rfl⟩
      have hqle : q ≤ 32 := by rw [hq]; exact Nat.le_trans (List.length_filter_le _ _) hcl
      have hcf := Count_f (s := tab n (sem ns m)) (by omega)
      rw [← hq] at hct hcf
      obtain ⟨t, ht⟩ : ∃ t, t = tab n (sem ns m) := ⟨_, rfl⟩
      rw [← ht] at hkf hlc htl hcf hcl hz
      have hcell2 : ∀ W', Kept X W' (setB w X) → X.heap.size ≤ X.heap.size ∧ W'.cell? (ad9.add i) = some (.int .i64 (m : Int)) ∧ W'.cell? (ad10.add i) = some (.slice A t.length cc) ∧ Kd.bool.C W' A t.length t := fun W' hk => ⟨Nat.le_refl _, by rw [ht]; exact hcell W' hk⟩
      have hsf := Same_f (s := xs) (t := xs) (by omega)
      rw [decide_eq_true (rfl : xs = xs)] at hsf
      have q1 : ((i : Int) < (ids.length : Int)) = True := eq_true (by omega)
      have q2 : (0 ≤ (i : Int)) = True := eq_true (by omega)
      have q3 : (i < ids.length) = True := eq_true hi
      have z9 := (hcell2 X (Kept.refl _ _)).2.1
      have HCELL := Aside0.mk hcell2
      have HF := Aside0.mk hcf
      have HCT := Aside0.mk hct
      have HKF := Aside0.mk hkf
      have HANY := Aside0.mk hany
      have HSF := Aside0.mk hsf
      have HZ := Aside0.mk hz
      have HTL := Aside0.mk (And.intro htl hcl)
      have HMM := Aside0.mk (And.intro hm hlc)
      have HII := Aside0.mk hi
      have HKW := Aside0.mk (Kept.refl X (setB w X))
      have hw1 := Aside0.mk (show wrap64 ((i : Int) + 1) = ((i + 1 : Nat) : Int) by have := HK.out; have := HI.out; unfold wrap64; omega)
      have hs5 : IntKind.u64.wrap (q : Int) = (q : Int) := by rw [IntKind.wrap_u64]; omega
      have hs6 : (q : Int) % 18446744073709551616 = (q : Int) := by omega
      clear hm e9 e10 hlc hcell hinv hct htl hcl hkf hxl hany hz hq hqle hcf ht hcell2 hsf hi
      go_upto_region 14 with (first | (go_at_call 14; (with_reducible refine (bdd_Count.calls m g n 100000 _ _ full' ns w _ (Ms.bs HM.out) HMM.out.1 (by have := HN.out; omega)).mono ?_); rintro e w3 ⟨rfl, hb3⟩; rw [HCT.out]; have n0 := Aside0.mk (HM.out.below hb3); have n1 := Aside0.mk (HKW.out.below hb3); clear HM HKW  hb3; have HM := n0; have HKW := n1; clear n0 n1 ; have za := (HCELL.out _ HKW.out).2.1; have za0 := (HCELL.out _ HKW.out).2.2.1) | (go_at_call 15; (with_reducible refine (HANY.out g 100000 _ _ full' w _ (Ms.bs HM.out)).mono ?_); rintro e w4 ⟨v13, rfl, hr4, hb4⟩; obtain ⟨A13, c13, e13⟩ := Kd.R_slice hr4; subst e13; have HR13 := Aside0.mk hr4; clear hr4; have n0 := Aside0.mk (HM.out.below hb4); have n1 := Aside0.mk (HKW.out.below hb4); clear HM HKW  hb4; have HM := n0; have HKW := n1; clear n0 n1 ; have zb := (HCELL.out _ HKW.out).2.1; have zb0 := (HCELL.out _ HKW.out).2.2.1) | (go_at_call 16; (with_reducible refine (bautaref36_Any.calls _ _ _ _ _ _ _ _ (HCELL.out _ HKW.out).2.2.2 HMM.out.2 HKF.out).mono ?_); rintro e w5 ⟨v15, rfl, hr5, hb5⟩; obtain ⟨A15, c15, e15⟩ := Kd.R_slice hr5; subst e15; have HR15 := Aside0.mk hr5; clear hr5; have n0 := Aside0.mk (HM.out.below hb5); have n1 := Aside0.mk (HKW.out.below hb5); have n2 := Aside0.mk (Kd.R_below HR13.out hb5); clear HM HKW HR13 hb5; have HM := n0; have HKW := n1; have HR13 := n2; clear n0 n1 n2; have zc := (HCELL.out _ HKW.out).2.1; have zc0 := (HCELL.out _ HKW.out).2.2.1))
      have n0 := Aside0.mk (HM.out.below (Below.refl _ _).drew)
      have n1 := Aside0.mk (HKW.out.below (Below.refl _ _).drew)
      have n2 := Aside0.mk (Kd.R_below HR13.out (Below.refl _ _).drew)
      have n3 := Aside0.mk (Kd.R_below HR15.out (Below.refl _ _).drew)
      clear HM HKW HR13 HR15
      have HM := n0
      have HKW := n1
      have HR13 := n2
      have HR15 := n3
      clear n0 n1 n2 n3
      go_region_held3 (fun W => W.cell? (ad9.add i) = some (.int .i64 (m : Int)) ∧ W.cell? (ad10.add i) = some (.slice A t.length cc)) (exact ⟨(HCELL.out _ HKW.out).2.1, (HCELL.out _ HKW.out).2.2.1⟩) (first | (go_at_call 17; (with_reducible refine (bautaref36_Count.calls _ _ _ _ _ _ (HCELL.out _ HKW.out).2.2.2 HMM.out.2 HF.out).mono ?_); rintro e w6 ⟨rfl, hd⟩; have hb6 := hd.below; clear hd; have n0 := Aside0.mk (HM.out.below hb6); have n1 := Aside0.mk (HKW.out.below hb6); have n2 := Aside0.mk (Kd.R_below HR13.out hb6); have n3 := Aside0.mk (Kd.R_below HR15.out hb6); clear HM HKW HR13 HR15 hb6; have HM := n0; have HKW := n1; have HR13 := n2; have HR15 := n3; clear n0 n1 n2 n3) | (go_at_call 10; (with_reducible refine (bautaref36_Same.calls _ _ _ _ _ _ _ _ _ (Kd.R_reads' HR13.out).2.2 (Kd.R_reads' HR13.out).2.1 (Kd.R_reads' HR15.out).2.2 (Kd.R_reads' HR15.out).2.1 HSF.out).mono ?_); rintro e w6 ⟨rfl, hd⟩; have hb6 := hd.below; clear hd; have n0 := Aside0.mk (HM.out.below hb6); have n1 := Aside0.mk (HKW.out.below hb6); have n2 := Aside0.mk (Kd.R_below HR13.out hb6); have n3 := Aside0.mk (Kd.R_below HR15.out hb6); clear HM HKW HR13 HR15 hb6; have HM := n0; have HKW := n1; have HR13 := n2; have HR15 := n3; clear n0 n1 n2 n3) | (go_at_call 18; (with_reducible refine (bdd_Size.calls m g n 100000 _ _ full' ns w _ (Ms.bs HM.out) HMM.out.1).mono ?_); rintro e w6 ⟨⟨sl, rfl, hsl⟩, hb6⟩; rw [HSZ.out sl hsl.out.1 hsl.out.2]; clear hsl; have n0 := Aside0.mk (HM.out.below hb6); have n1 := Aside0.mk (HKW.out.below hb6); have n2 := Aside0.mk (Kd.R_below HR13.out hb6); have n3 := Aside0.mk (Kd.R_below HR15.out hb6); clear HM HKW HR13 HR15 hb6; have HM := n0; have HKW := n1; have HR13 := n2; have HR15 := n3; clear n0 n1 n2 n3) | (go_at_call 19; (with_reducible refine (ref_Size.calls A cc t n _ (HCELL.out _ HKW.out).2.2.2 HMM.out.2 HTL.out.1 HN.out).mono ?_); rintro e w6 ⟨rfl, hb6⟩; rw [← HZ.out]; have n0 := Aside0.mk (HM.out.below hb6); have n1 := Aside0.mk (HKW.out.below hb6); have n2 := Aside0.mk (Kd.R_below HR13.out hb6); have n3 := Aside0.mk (Kd.R_below HR15.out hb6); clear HM HKW HR13 HR15 hb6; have HM := n0; have HKW := n1; have HR13 := n2; have HR15 := n3; clear n0 n1 n2 n3))
      go_wp2_with fail
      go_roundg (ids.length - i)
      case measure => have := HK.out; have := HII.out; omega
      case rel => exact ⟨i + 1, congrArg (Value.int .i64) hw1.out, ⟨by have := HK.out; have := HII.out; omega⟩, HM⟩
    · have q1 : ((i : Int) < (ids.length : Int)) = False := eq_false (by omega)
      clear hi
      go_wp2_with (first | (go_at_call 13; refine (lives.calls _).mono ?_; rintro e w5 ⟨rfl, hb5⟩; have HB5 := Aside0.mk (below_then HM.out.b HM.out.b.size hb5); clear hb5))
      go_ret
      exact ⟨rfl, HB5.out⟩
end Go.Proofs.Ytialbhkamlfccaa.PA
