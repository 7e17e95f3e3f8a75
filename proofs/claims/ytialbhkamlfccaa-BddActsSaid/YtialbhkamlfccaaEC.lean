/- BddActs: what the call comes to. No condition but the hypotheses that each theorem states. -/
import Derived.Test.YtialbhkamlfccaaEA
import Derived.Deep.RegionHeld3
namespace Go.Proofs.Ytialbhkamlfccaa.PA
open Go.RowKit Go.Proofs.YtialbhkamlfccaaW.PrintWords Go.Proofs.YtialbhkamlfccaaW.PrintLast Go.Proofs.YtialbhkamlfccaaW.PrintMore Go.Proofs.Ytialbhkamlfccaa.Mp Go.Proofs.Ytialbhkamlfccaa.Dia
set_option linter.unusedVariables false
set_option linter.unusedSimpArgs false
theorem tab_same {vars : Nat} {ns : List Nd} {p q : Nat} (h : Inv vars ns) (hp : p < ns.length) (hq : q < ns.length) : p = q ↔ tab vars (sem ns p) = tab vars (sem ns q) := table_same h hp hq tab_is tab_is
theorem eval_bits {vars x m : Nat} {ns : List Nd} (h : Inv vars ns) (hm : m < ns.length) : sem ns m (val ((List.range vars).map (fun y => bitAt vars x y))) = sem ns m (bitAt vars x) := by
  refine sem_free h m hm _ _ (fun v _ h2 => ?_)
  unfold val
  rw [List.getD_eq_getElem?_getD, List.getElem?_map, List.getElem?_range h2]
  rfl
set_option maxHeartbeats 8000000 in
set_option maxRecDepth 100000 in
theorem bautalaw36_BddActs.calls (a0 : Nat) (A1 : Option Addr) (c1 : Nat) (l : List AcT) (w : World) (ha : a0 < 256) (hC : Kd.C k58 w A1 l.length l) :
    Calls Try.prog 3 #[.int .u8 (a0 : Int), .slice A1 l.length c1] w fun e w' => e = .returned (.bool true) ∧ Below w.heap.size w w' := by
  obtain ⟨n, hn⟩ : ∃ n, n = a0 % 6 := ⟨_, rfl⟩
  have HC := Aside0.mk hC
  have HN := Aside0.mk (show n ≤ 5 by omega)
  have hm1 : (a0 : Int) % 6 = (n : Int) := by omega
  have hm2 : Int.tmod (a0 : Int) 6 = (n : Int) := by rw [Int.tmod_eq_emod_of_nonneg (by omega)]; omega
  have hm3 : IntKind.i64.wrap (n : Int) = (n : Int) := by rw [IntKind.wrap_i64]; omega
  have hm4 : IntKind.u8.wrap (n : Int) = (n : Int) := by rw [IntKind.wrap_u8]; omega
  clear hC ha hn
  go_enter Try.func3, Try.ntmps3
  go_upto_region 3 with (first | (go_at_call 7; (refine (bdd_New.calls n 100000 _ (by have := HN.out; omega) (by omega)).mono ?_); rintro e w1 ⟨g, rfl, hb, hbl⟩))
  obtain ⟨ns0, hns0⟩ : ∃ ns : List Nd, ns = [⟨n, 0, 0⟩, ⟨n, 1, 1⟩] := ⟨_, rfl⟩
  have HL0 := Aside0.mk (show ns0.length = 2 by rw [hns0]; rfl)
  rw [← hns0] at hb
  have HS := Aside0.mk hb.typed
  have HB := Aside0.mk hbl
  clear hns0 hb hbl hm1 hm2 hm3 hm4
  go_upto_region 6 with (first | (go_at_call 8; (refine (made.calls g n 100000 0 false ns0 A1 c1 l w _ HB.out HS.out HC.out HN.out (by have := pp_le HN.out; omega)).mono ?_); rintro e w2 ⟨v9, v10, v11, v12, ids, ns, full', rfl, HM, HI⟩))
  have hnf : full' = false := by
    rcases HI.out.2.2.2 with h | h
    · exact h
    · have := HI.out.2.2.1; have := HL0.out; have := pp_le HN.out; omega
  subst hnf
  clear HS HB
  obtain ⟨ad9, c9, ad10, c10, _, _, _, _, _, _, _, _, _, e9, e10, _⟩ := HM.out.at3 (ra := 0) (rb := 0) (rc := 0) (by have := HI.out; omega) (by have := HI.out; omega) (by have := HI.out; omega)
  subst e9 e10
  go_wp2_with (first | (go_at_call 9; (with_reducible refine (bdd_Full.calls g n 100000 _ _ false ns w _ (Ms.bs HM.out)).mono ?_); rintro e w5 ⟨rfl, e5⟩; have e6 := e5.symm; subst e6; clear e5))
  go_loopg [10] (ids.length + 1) (fun kq v10_ w' => ∃ i : Nat, v10_ = .int .i64 (i : Int) ∧ Aside0 (i + kq = ids.length + 1 ∧ i ≤ ids.length) ∧ Aside0 (Ms w w' g n 100000 false ns (0 + 40 * pp n) (.slice (some ad9) ids.length c9) (.slice (some ad10) ids.length c10) v11 v12 ids))
  case atStart => exact ⟨0, rfl, ⟨Nat.zero_add _, Nat.zero_le _⟩, HM⟩
  case round =>
    clear HM
    obtain ⟨i, rfl, HK, HM⟩ := hrel
    by_cases hi : i < ids.length
    · have q1 : ((i : Int) < (ids.length : Int)) = True := eq_true (by omega)
      have q2 : (0 ≤ (i : Int)) = True := eq_true (by omega)
      have q3 : (i < ids.length) = True := eq_true hi
      have hw1 := Aside0.mk (show wrap64 ((i : Int) + 1) = ((i + 1 : Nat) : Int) by have := HK.out; have := HI.out; unfold wrap64; omega)
      have HII := Aside0.mk hi
      clear hi
      go_wp2_with fail
      go_loopg [11] (i + 1) (fun kq v11_ w' => ∃ k : Nat, v11_ = .int .i64 (k : Int) ∧ Aside0 (k + kq = i + 1 ∧ k ≤ i) ∧ Aside0 (Ms w w' g n 100000 false ns (0 + 40 * pp n) (.slice (some ad9) ids.length c9) (.slice (some ad10) ids.length c10) v11 v12 ids))
      case atStart => exact ⟨0, rfl, ⟨Nat.zero_add _, Nat.zero_le _⟩, HM⟩
      case round =>
        clear HM
        obtain ⟨k, rfl, HKK, HM⟩ := hrel
        by_cases hk : k < i
        · have r1 : ((k : Int) < (i : Int)) = True := eq_true (by omega)
          have r2 : (0 ≤ (k : Int)) = True := eq_true (by omega)
          have r3 : (k < i) = True := eq_true hk
          have r4 : ((k : Int) < (ids.length : Int)) = True := eq_true (by have := HII.out; omega)
          have r5 : (k < ids.length) = True := eq_true (by have := HII.out; omega)
          have hw2 := Aside0.mk (show wrap64 ((k : Int) + 1) = ((k + 1 : Nat) : Int) by have := HK.out; have := HI.out; unfold wrap64; omega)
          have HKI := Aside0.mk hk
          have n0 := Aside0.mk (HM.out.below (Below.refl _ _).drew)
          clear HM hk
          have HM := n0
          clear n0
          obtain ⟨ad9', c9', ad10', c10', ma, Aa, ca, mb, Ab, cb, mc, Ac, cc, e9, e10, hm, hle, hcell⟩ := HM.out.at3 (ra := i) (rb := k) (rc := k) HII.out (by have := HII.out; have := HKI.out; omega) (by have := HII.out; have := HKI.out; omega)
          obtain ⟨rfl, rfl⟩ : ad9 = ad9' ∧ c9 = c9' := by injection e9 with a b c; exact ⟨by injection a, c⟩
          obtain ⟨rfl, rfl⟩ : ad10 = ad10' ∧ c10 = c10' := by injection e10 with a b c; exact ⟨by injection a, c⟩
          have hts := tab_same HM.out.s.inv hm.1 hm.2.1
          obtain ⟨bq, hbq⟩ : ∃ b, b = decide (tab n (sem ns ma) = tab n (sem ns mb)) := ⟨_, rfl⟩
          have hsf := Same_f (s := tab n (sem ns ma)) (t := tab n (sem ns mb)) (by have := tab_small HN.out (sem ns ma); omega)
          rw [← hbq] at hsf
          have s0 : decide (ma = mb) = bq := by rw [hbq]; exact decide_eq_decide.mpr hts
          have s1 : ((ma : Int) == (mb : Int)) = bq := by rw [← s0]; by_cases h : ma = mb <;> simp [h]; omega
          have s2 : decide ((ma : Int) = (mb : Int)) = bq := by rw [← s0]; exact decide_eq_decide.mpr (by omega)
          have s3 : (ma == mb) = bq := by rw [← s0]; by_cases h : ma = mb <;> simp [h]
          have HSF := Aside0.mk hsf
          have HCELL := Aside0.mk hcell
          have HLE := Aside0.mk hle
          have HKW := Aside0.mk (Kept.refl wr.drew (setB w wr.drew))
          clear e9 e10 hm hle hcell hts hbq hsf
          go_wp2_with fail
          go_region_held3 (fun W => W.cell? (ad9.add i) = some (.int .i64 (ma : Int)) ∧ W.cell? (ad9.add k) = some (.int .i64 (mb : Int)) ∧ W.cell? (ad10.add i) = some (.slice Aa (tab n (sem ns ma)).length ca) ∧ W.cell? (ad10.add k) = some (.slice Ab (tab n (sem ns mb)).length cb)) (exact ⟨(HCELL.out _ HKW.out).1.1, (HCELL.out _ HKW.out).1.2.1, (HCELL.out _ HKW.out).1.2.2.2.1, (HCELL.out _ HKW.out).1.2.2.2.2.1⟩) (first | (go_at_call 10; (with_reducible refine (bautaref36_Same.calls _ _ _ _ _ _ _ _ _ (HCELL.out _ HKW.out).2.1 HLE.out.1 (HCELL.out _ HKW.out).2.2.1 HLE.out.2.1 HSF.out).mono ?_); rintro e w6 ⟨rfl, hd⟩; have n0 := Aside0.mk (HM.out.below hd.below); have n1 := Aside0.mk (HKW.out.below hd.below); clear HM HKW hd; have HM := n0; have HKW := n1; clear n0 n1))
          go_wp2_with fail
          go_roundg (i - k)
          case measure => have := HKK.out; have := HKI.out; omega
          case rel => exact ⟨k + 1, congrArg (Value.int .i64) hw2.out, ⟨by have := HKK.out; have := HKI.out; omega⟩, HM⟩
        · have r1 : ((k : Int) < (i : Int)) = False := eq_false (by omega)
          have r3 : (k < i) = False := eq_false hk
          clear hk
          go_wp2_with fail
          go_loopg [12] (2 ^ n + 1) (fun kq v12_ w' => ∃ x : Nat, v12_ = .int .i64 (x : Int) ∧ Aside0 (x + kq = 2 ^ n + 1 ∧ x ≤ 2 ^ n) ∧ Aside0 (Ms w w' g n 100000 false ns (0 + 40 * pp n) (.slice (some ad9) ids.length c9) (.slice (some ad10) ids.length c10) v11 v12 ids))
          case atStart => exact ⟨0, rfl, ⟨Nat.zero_add _, Nat.zero_le _⟩, HM⟩
          case round =>
            clear HM HKK
            obtain ⟨x, rfl, HKX, HM⟩ := hrel
            obtain ⟨X, hX⟩ : ∃ X, X = wr := ⟨_, rfl⟩
            subst hX
            obtain ⟨ad9', c9', ad10', c10', ma, Aa, ca, mb, Ab, cb, mc, Ac, cc, e9, e10, hm, hle, hcell⟩ := HM.out.at3 (ra := i) (rb := i) (rc := i) HII.out HII.out HII.out
            obtain ⟨rfl, rfl⟩ : ad9 = ad9' ∧ c9 = c9' := by injection e9 with a b c; exact ⟨by injection a, c⟩
            obtain ⟨rfl, rfl⟩ : ad10 = ad10' ∧ c10 = c10' := by injection e10 with a b c; exact ⟨by injection a, c⟩
            have z10 := (hcell X (Kept.refl _ _)).1.2.2.2.1
            have HCELL := Aside0.mk hcell
            have HMM := Aside0.mk (And.intro hm.1 hle.1)
            have htl := tab_length n (sem ns ma)
            clear e9 e10 hm hle hcell
            have hpn := Nat.pow_le_pow_right (show 0 < 2 by decide) HN.out
            have HPN := Aside0.mk hpn
            by_cases hx : x < 2 ^ n
            · have t1 : ((x : Int) < ((tab n (sem ns ma)).length : Int)) = True := eq_true (by rw [htl]; omega)
              have t2 : (0 ≤ (x : Int)) = True := eq_true (by omega)
              have t3 : (x < (tab n (sem ns ma)).length) = True := eq_true (by rw [htl]; exact hx)
              have hw3 := Aside0.mk (show wrap64 ((x : Int) + 1) = ((x + 1 : Nat) : Int) by have := HKX.out; unfold wrap64; omega)
              have HXX := Aside0.mk hx
              have HTL := Aside0.mk htl
              clear hx htl hpn
              go_wp2_with fail
              go_loopg [13, 14] (n + 1) (fun kq v13 v14 w' => ∃ v : Nat, v14 = .int .i64 (v : Int) ∧ Aside0 (v + kq = n + 1 ∧ v ≤ n) ∧ Aside0 (Kd.R Kd.bool 4 w' X.heap.size (fun _ => True) v13 ((List.range v).map (fun y => bitAt n x y))) ∧ Aside0 (Below X.heap.size X w'))
              case atStart => exact ⟨0, rfl, ⟨Nat.zero_add _, Nat.zero_le _⟩, ⟨Kd.R_of_own (World.ownsRow_lit (base := X.heap.size) (e := 4) (size := 1) X #[] 0 (Nat.le_refl _) (by decide) rfl) (fun _ _ => trivial)⟩, ⟨below_alloc (Below.refl _ _) _⟩⟩
              case round =>
                obtain ⟨v, rfl, HKV, HIN0, HBV⟩ := hrel
                obtain ⟨xs, hxs⟩ : ∃ xs, xs = (List.range v).map (fun y => bitAt n x y) := ⟨_, rfl⟩
                have HXL := Aside0.mk (show xs.length = v by rw [hxs, List.length_map, List.length_range])
                have HIN : Aside0 (Kd.R Kd.bool 4 wr X.heap.size (fun _ => True) u13 xs) := ⟨by rw [hxs]; exact HIN0.out⟩
                have HXS := Aside0.mk hxs
                clear HIN0 hxs
                obtain ⟨A13, c13, e13⟩ := Kd.R_slice HIN.out
                subst e13
                by_cases hv : v < n
                · have y1 : ((v : Int) < (n : Int)) = True := eq_true (by omega)
                  have hw4 := Aside0.mk (show wrap64 ((v : Int) + 1) = ((v + 1 : Nat) : Int) by have := HKV.out; have := HN.out; unfold wrap64; omega)
                  have y2 : ((x : Int) < ((tab n (fun y => y v)).length : Int)) = True := eq_true (by rw [tab_length]; have := HXX.out; omega)
                  have y3 : (x < (tab n (fun y => y v)).length) = True := eq_true (by rw [tab_length]; exact HXX.out)
                  have HVN := Aside0.mk hv
                  clear hv
                  go_wp2_with (first | (go_at_call 11; (with_reducible refine (bautaref36_Var.calls (2 ^ n + n + 2) (n : Int) (v : Int) (tab n (fun y => y v)) _ (Var_f (by have := HN.out; omega) HVN.out)).mono ?_); rintro e w7 ⟨v86, rfl, hr7, hb7⟩; obtain ⟨A86, c86, e86⟩ := Kd.R_slice hr7; subst e86; obtain ⟨ad86, ead, hcb⟩ := Kd.at_bool (Kd.R_reads' hr7).2.2 (x : Int) (by omega) (by rw [tab_length]; have := HXX.out; omega); subst ead; have z86 : w7.cell? (ad86.add x) = some (.bool (bitAt n x v)) := (by rw [tab_rd HXX.out] at hcb; exact hcb); have n0 := Aside0.mk (Kd.R_below HIN.out hb7); have n1 := Aside0.mk (below_then HBV.out HBV.out.size hb7); clear HIN HBV hr7 hb7 hcb; have HIN := n0; have HBV := n1; clear n0 n1) | ((with_reducible refine gate_builtin (b := .append) (xs := #[.tmp 83, .tmp 90]) rfl ?_); at_builtin; refine Kd.R_append Kd.bool (w0 := X) X.heap.size rfl (.tmp 83) (.tmp 90) 31 4 (.bool false) 1 rfl Try.underlying31 info4 rfl (by decide) (by omega) (.slice A13 xs.length c13) xs (bitAt n x v) [.bool (bitAt n x v)] (fun _ => True) (fun _ => False) rfl rfl ?aP (fun _ hk => hk.elim) (fun _ _ => trivial) ?aO ?aB ?aS ?aL ?_; (case aP => exact rfl); (case aO => exact HIN.out); (case aB => exact HBV.out); (case aS => exact HBV.out.size); (case aL => have := HVN.out; have := HN.out; have := HXL.out; omega); intro v8 w8 ho1 hb1 hg1 hat1; have n0 := Aside0.mk ho1; have n1 := Aside0.mk hb1; clear HIN HBV ho1 hb1 hg1 hat1; have HIN := n0; have HBV := n1; clear n0 n1))
                  go_roundg (n - v)
                  case measure => have := HKV.out; have := HVN.out; omega
                  case rel => exact ⟨v + 1, congrArg (Value.int .i64) hw4.out, ⟨by have := HKV.out; have := HVN.out; omega⟩, ⟨by rw [take_succ_map, ← HXS.out]; exact HIN.out⟩, HBV⟩
                · have y1 : ((v : Int) < (n : Int)) = False := eq_false (by omega)
                  have hvn : v = n := by have := HKV.out; omega
                  have HIN2 : Aside0 (Kd.R Kd.bool 4 wr X.heap.size (fun _ => True) (.slice A13 xs.length c13) xs) := HIN
                  have hev : sem ns ma (val xs) = sem ns ma (bitAt n x) := by rw [HXS.out, hvn]; exact eval_bits HM.out.s.inv HMM.out.1
                  have HEV := Aside0.mk hev
                  have HKW := Aside0.mk (Kept.of_below HBV.out (setB w X))
                  have HMW := Aside0.mk (HM.out.below HBV.out)
                  have z9 := (HCELL.out _ HKW.out).1.1
                  obtain ⟨bb, hbb⟩ : ∃ b, b = sem ns ma (bitAt n x) := ⟨_, rfl⟩
                  rw [← hbb] at hev
                  have hzz : ∀ W, Kept X W (setB w X) → W.cell? (ad10.add i) = some (.slice Aa (tab n (sem ns ma)).length ca) ∧ ∃ ada, Aa = some ada ∧ W.cell? (ada.add x) = some (.bool bb) := by
                    intro W hW
                    have h1 := HCELL.out W hW
                    obtain ⟨ada, ea, hca⟩ := Kd.at_bool h1.2.1 (x : Int) (by omega) (by rw [HTL.out]; have := HXX.out; omega)
                    rw [tab_rd HXX.out, ← hbb] at hca
                    exact ⟨h1.1.2.2.2.1, ada, ea, hca⟩
                  obtain ⟨ada, ea, _⟩ := (hzz _ HKW.out).2
                  have HZZ : Aside0 (∀ W, Kept X W (setB w X) → W.cell? (ad10.add i) = some (.slice (some ada) (tab n (sem ns ma)).length ca) ∧ W.cell? (ada.add x) = some (.bool bb)) := ⟨fun W hW => by
                    obtain ⟨h1, ada2, e2, h2⟩ := hzz W hW
                    obtain rfl : ada = ada2 := by rw [ea] at e2; injection e2
                    exact ⟨by rw [← ea]; exact h1, h2⟩⟩
                  have HEV2 := Aside0.mk hev
                  clear hev hbb hzz HEV hvn
                  go_wp2_with (first | (go_at_call 12; (with_reducible refine (bdd_Eval.calls ma _ _ xs g n 100000 _ _ false ns w _ (Ms.bs HMW.out) HMM.out.1 (Kd.R_reads' HIN2.out).2.2 (Kd.R_reads' HIN2.out).2.1).mono ?_); rintro e w8 ⟨rfl, hb8⟩; rw [HEV2.out]; have hk8 := HKW.out.below hb8; have zz1 := (HZZ.out _ hk8).1; have zz2 := (HZZ.out _ hk8).2; have n0 := Aside0.mk (HMW.out.below hb8); clear HMW hb8 hk8; have HMW := n0; clear n0))
                  go_roundg (2 ^ n - x)
                  case measure => have := HKX.out; have := HXX.out; omega
                  case rel => exact ⟨x + 1, congrArg (Value.int .i64) hw3.out, ⟨by have := HKX.out; have := HXX.out; omega⟩, HMW⟩
            · have t1 : ((x : Int) < ((tab n (sem ns ma)).length : Int)) = False := eq_false (by rw [htl]; omega)
              have t3 : (x < (tab n (sem ns ma)).length) = False := eq_false (by rw [htl]; exact hx)
              clear hx htl hpn
              go_wp2_with fail
              go_roundg (ids.length - i)
              case measure => have := HK.out; have := HII.out; omega
              case rel => exact ⟨i + 1, congrArg (Value.int .i64) hw1.out, ⟨by have := HK.out; have := HII.out; omega⟩, HM⟩
    · have q1 : ((i : Int) < (ids.length : Int)) = False := eq_false (by omega)
      clear hi
      go_wp2_with (first | (go_at_call 13; refine (lives.calls _).mono ?_; rintro e w5 ⟨rfl, hb5⟩; have HB5 := Aside0.mk (below_then HM.out.b HM.out.b.size hb5); clear hb5))
      go_ret
      exact ⟨rfl, HB5.out⟩
end Go.Proofs.Ytialbhkamlfccaa.PA
