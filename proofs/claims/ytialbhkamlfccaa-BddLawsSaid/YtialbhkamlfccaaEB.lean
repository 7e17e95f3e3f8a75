/- BddLaws: what the call comes to. No condition but the hypotheses that each theorem states. -/
import Derived.Test.YtialbhkamlfccaaDD
import Derived.Deep.RegionHeld3
namespace Go.Proofs.Ytialbhkamlfccaa.PA
open Go.RowKit Go.Proofs.YtialbhkamlfccaaW.PrintWords Go.Proofs.YtialbhkamlfccaaW.PrintLast Go.Proofs.YtialbhkamlfccaaW.PrintMore Go.Proofs.Ytialbhkamlfccaa.Mp Go.Proofs.Ytialbhkamlfccaa.Dia
set_option linter.unusedVariables false
set_option linter.unusedSimpArgs false
/-- A number and the function that it is. -/
def Has (ns : List Nd) (m : Nat) (F : (Nat → Bool) → Bool) : Prop := m < ns.length ∧ ∀ x, sem ns m x = F x
/-- The set after so many calls. -/
def Sv (w W : World) (g vars L : Nat) (ns : List Nd) : Prop := Ev w W g vars 100000 false ns (10000 + 100 * L) ∧ ns.length ≤ 3000 + 100 * L ∧ vars ≤ 5
theorem kk_le {vars : Nat} (h : vars ≤ 5) : kk vars ≤ 31 := by
  unfold kk
  have := Nat.pow_le_pow_right (show 0 < 2 by decide) h
  omega
/-- What a call of the set comes to where there is room. -/
def Lo (w : World) (g vars L : Nat) (ns : List Nd) (F : (Nat → Bool) → Bool) (e : Ending) (w' : World) : Prop :=
  ∃ (m : Nat) (ns2 : List Nd), e = .returned (.int .i64 (m : Int)) ∧ Aside0 (Sv w w' g vars (L + 1) ns2) ∧ Aside0 (Has ns2 m F) ∧ Aside0 (∀ q G, Has ns q G → Has ns2 q G)
section
variable {w W W' : World} {g vars L nb K v a b c : Nat} {ns : List Nd} {F A B C : (Nat → Bool) → Bool} {e : Ending}
theorem Sv.bs (h : Sv w W g vars L ns) : BS w W (fun k => w.heap.size ≤ k) g vars 100000 false ns (10000 + 100 * L) := h.1.1
theorem Sv.inv (h : Sv w W g vars L ns) : Inv vars ns := h.1.1.inv
theorem Sv.one (h : Sv w W g vars L ns) : Has ns 1 (fun _ => true) := ⟨h.inv.len, fun x => sem_one x⟩
theorem Sv.zero (h : Sv w W g vars L ns) : Has ns 0 (fun _ => false) := ⟨by have := h.inv.len; omega, fun x => sem_zero x⟩
theorem Sv.same {p q : Nat} (h : Sv w W g vars L ns) (hp : Has ns p A) (hq : Has ns q B) (he : ∀ x, A x = B x) : p = q := canon' h.inv hp.1 hq.1 (fun x => by rw [hp.2 x, hq.2 x, he x])
theorem Sv.res (h : Sv w W g vars L ns) (hr : Res w W (fun k => w.heap.size ≤ k) g vars 100000 false ns nb K v F e W') (hn : nb ≤ 10000 + 100 * (L + 1)) (hK : K ≤ 62) (hL : L ≤ 100) (hF : ∀ x, F x = A x) : Lo w g vars L ns A e W' := by
  obtain ⟨m, dd, he, hm⟩ := h.1.next hr (by have := h.2.1; omega)
  obtain ⟨h1, h2, h3, h4⟩ := hm.out
  refine ⟨m, ns ++ dd, he, ⟨⟨h4.1.mono (fun k hk => hk) hn, h4.2⟩, by have := h.2.1; omega, h.2.2⟩, ⟨h1, fun x => by rw [h2 x, hF x]⟩, ⟨fun q G hq => ⟨by rw [List.length_append]; have := hq.1; omega, fun x => by rw [sem_pre h.inv dd hq.1 x]; exact hq.2 x⟩⟩⟩
theorem Lo_Not (h : Sv w W g vars L ns) (hL : L ≤ 100) (ha : Has ns a A) : Calls Try.prog 21 #[.pointer (some ⟨g, 0, none⟩), .int .i64 (a : Int)] W (Lo w g vars L ns (fun x => !A x)) :=
  (bdd_Not.calls a g vars 100000 _ _ false ns w W h.bs ha.1 (by have := kk_le h.2.2; omega)).mono (fun e w' hr => h.res hr (by have := kk_le h.2.2; omega) (by have := kk_le h.2.2; omega) hL (fun x => by rw [ha.2 x]))
theorem Lo_And (h : Sv w W g vars L ns) (hL : L ≤ 100) (ha : Has ns a A) (hb : Has ns b B) : Calls Try.prog 23 #[.pointer (some ⟨g, 0, none⟩), .int .i64 (a : Int), .int .i64 (b : Int)] W (Lo w g vars L ns (fun x => A x && B x)) :=
  (bdd_And.calls a b g vars 100000 _ _ false ns w W h.bs ⟨ha.1, hb.1⟩ (by have := kk_le h.2.2; omega)).mono (fun e w' hr => h.res hr (by have := kk_le h.2.2; omega) (by have := kk_le h.2.2; omega) hL (fun x => by rw [ha.2 x, hb.2 x]))
theorem Lo_Or (h : Sv w W g vars L ns) (hL : L ≤ 100) (ha : Has ns a A) (hb : Has ns b B) : Calls Try.prog 24 #[.pointer (some ⟨g, 0, none⟩), .int .i64 (a : Int), .int .i64 (b : Int)] W (Lo w g vars L ns (fun x => A x || B x)) :=
  (bdd_Or.calls a b g vars 100000 _ _ false ns w W h.bs ⟨ha.1, hb.1⟩ (by have := kk_le h.2.2; omega)).mono (fun e w' hr => h.res hr (by have := kk_le h.2.2; omega) (by have := kk_le h.2.2; omega) hL (fun x => by rw [ha.2 x, hb.2 x]))
theorem Lo_Xor (h : Sv w W g vars L ns) (hL : L ≤ 100) (ha : Has ns a A) (hb : Has ns b B) : Calls Try.prog 25 #[.pointer (some ⟨g, 0, none⟩), .int .i64 (a : Int), .int .i64 (b : Int)] W (Lo w g vars L ns (fun x => if A x then !B x else B x)) :=
  (bdd_Xor.calls a b g vars 100000 _ _ false ns w W h.bs ⟨ha.1, hb.1⟩ (by have := kk_le h.2.2; omega)).mono (fun e w' hr => h.res hr (by have := kk_le h.2.2; omega) (by have := kk_le h.2.2; omega) hL (fun x => by rw [ha.2 x, hb.2 x]))
theorem Lo_Ite (h : Sv w W g vars L ns) (hL : L ≤ 100) (ha : Has ns a A) (hb : Has ns b B) (hc : Has ns c C) : Calls Try.prog 22 #[.pointer (some ⟨g, 0, none⟩), .int .i64 (a : Int), .int .i64 (b : Int), .int .i64 (c : Int)] W (Lo w g vars L ns (fun x => if A x then B x else C x)) :=
  (bdd_Ite.calls a b c g vars 100000 _ _ false ns w W h.bs ⟨ha.1, hb.1, hc.1⟩ (by have := kk_le h.2.2; omega)).mono (fun e w' hr => h.res hr (by have := kk_le h.2.2; omega) (by have := kk_le h.2.2; omega) hL (fun x => by rw [ha.2 x, hb.2 x, hc.2 x]))
theorem Lo_Ite10 (h : Sv w W g vars L ns) (hL : L ≤ 100) (ha : Has ns a A) : Calls Try.prog 22 #[.pointer (some ⟨g, 0, none⟩), .int .i64 (a : Int), .int .i64 1, .int .i64 0] W (Lo w g vars L ns (fun x => if A x then true else false)) := Lo_Ite h hL ha h.one h.zero
end
set_option maxHeartbeats 8000000 in
set_option maxRecDepth 100000 in
theorem bautalaw36_BddLaws.calls (a0 : Nat) (A1 : Option Addr) (c1 : Nat) (l : List AcT) (x0 x1 x2 : Int) (w : World) (ha : a0 < 256) (hC : Kd.C k58 w A1 l.length l) :
    Calls Try.prog 6 #[.int .u8 (a0 : Int), .slice A1 l.length c1, .agg #[.int .i64 x0, .int .i64 x1, .int .i64 x2]] w fun e w' => e = .returned (.bool true) ∧ Below w.heap.size w w' := by
  obtain ⟨n, hn⟩ : ∃ n, n = a0 % 6 := ⟨_, rfl⟩
  have HC := Aside0.mk hC
  have HN := Aside0.mk (show n ≤ 5 by omega)
  have hm1 : (a0 : Int) % 6 = (n : Int) := by omega
  have hm2 : Int.tmod (a0 : Int) 6 = (n : Int) := by rw [Int.tmod_eq_emod_of_nonneg (by omega)]; omega
  have hm3 : IntKind.i64.wrap (n : Int) = (n : Int) := by rw [IntKind.wrap_i64]; omega
  have hm4 : IntKind.u8.wrap (n : Int) = (n : Int) := by rw [IntKind.wrap_u8]; omega
  clear hC ha hn
  go_enter Try.func6, Try.ntmps6
  go_upto_region 3 with (first | (go_at_call 7; (refine (bdd_New.calls n 100000 _ (by have := HN.out; omega) (by omega)).mono ?_); rintro e w1 ⟨g, rfl, hb, hbl⟩))
  obtain ⟨Wb, hWb⟩ : ∃ Wb, Wb = w.alloc (.cells #[.int .i64 x0, .int .i64 x1, .int .i64 x2] 44) := ⟨_, rfl⟩
  rw [← hWb] at hb hbl
  have HBX := Aside0.mk (show Wb.heap[w.heap.size]? = some (.cells #[.int .i64 x0, .int .i64 x1, .int .i64 x2] 44 (0, 0)) by rw [hWb]; exact heap_alloc_new w _)
  have HBW := Aside0.mk (show Below w.heap.size w Wb by rw [hWb]; exact below_alloc (Below.refl _ _) _)
  have HCW := Aside0.mk (Kd.C_below HC.out HBW.out)
  obtain ⟨ns0, hns0⟩ : ∃ ns : List Nd, ns = [⟨n, 0, 0⟩, ⟨n, 1, 1⟩] := ⟨_, rfl⟩
  have HL0 := Aside0.mk (show ns0.length = 2 by rw [hns0]; rfl)
  rw [← hns0] at hb
  have HS := Aside0.mk hb.typed
  have HB := Aside0.mk hbl
  clear hWb hns0 hb hbl hm1 hm2 hm3 hm4
  go_upto_region 6 with (first | (go_at_call 8; (refine (made.calls g n 100000 0 false ns0 A1 c1 l Wb _ HB.out HS.out HCW.out HN.out (by have := pp_le HN.out; omega)).mono ?_); rintro e w2 ⟨v9, v10, v11, v12, ids, ns, full', rfl, HM, HI⟩))
  have hnf : full' = false := by
    rcases HI.out.2.2.2 with h | h
    · exact h
    · have := HI.out.2.2.1; have := HL0.out; have := pp_le HN.out; omega
  subst hnf
  clear HS HB
  obtain ⟨ra, hra, fa⟩ := At_f x0 (n := ids.length) (by have := HI.out; omega) (by have := HI.out; omega)
  obtain ⟨rb, hrb, fb⟩ := At_f x1 (n := ids.length) (by have := HI.out; omega) (by have := HI.out; omega)
  obtain ⟨rc, hrc, fc⟩ := At_f x2 (n := ids.length) (by have := HI.out; omega) (by have := HI.out; omega)
  obtain ⟨ad9, c9, ad10, c10, ma, Aa, ca, mb, Ab, cb, mc, Ac, cc, e9, e10, hm, _, hcell⟩ := HM.out.at3 hra hrb hrc
  subst e9 e10
  have q1 : ((ids.length : Int) < 2) = False := eq_false (by have := HI.out; omega)
  have p1 : ((ra : Int) < (ids.length : Int)) = True := eq_true (by omega)
  have p2 : ((rb : Int) < (ids.length : Int)) = True := eq_true (by omega)
  have p3 : ((rc : Int) < (ids.length : Int)) = True := eq_true (by omega)
  have p4 : (0 ≤ (ra : Int)) = True := eq_true (by omega)
  have p5 : (0 ≤ (rb : Int)) = True := eq_true (by omega)
  have p6 : (0 ≤ (rc : Int)) = True := eq_true (by omega)
  have p7 : (ra < ids.length) = True := eq_true hra
  have p8 : (rb < ids.length) = True := eq_true hrb
  have p9 : (rc < ids.length) = True := eq_true hrc
  have FA := Aside0.mk fa
  have FB := Aside0.mk fb
  have FC := Aside0.mk fc
  have HCELL := Aside0.mk hcell
  have HK := Aside0.mk ((Kept.refl w2 (setB Wb w2)).drew)
  have HMM := Aside0.mk hm
  have HBX2 := Aside0.mk (blk_drew (blk_below HBX.out HM.out.b))
  clear fa fb fc hra hrb hrc hcell hm
  have HMd := Aside0.mk (HM.out.below (Below.refl _ _).drew)
  clear HM
  have HM := HMd
  clear HMd
  go_wp2_with fail
  go_region_held3 (fun W => W.cell? ⟨w.heap.size, 0, none⟩ = some (.int .i64 x0) ∧ W.cell? ⟨w.heap.size, 1, none⟩ = some (.int .i64 x1) ∧ W.cell? ⟨w.heap.size, 2, none⟩ = some (.int .i64 x2) ∧ W.cell? (ad9.add ra) = some (.int .i64 (ma : Int)) ∧ W.cell? (ad9.add rb) = some (.int .i64 (mb : Int)) ∧ W.cell? (ad9.add rc) = some (.int .i64 (mc : Int))) (exact ⟨(cells3 HBX2.out).1, (cells3 HBX2.out).2.1, (cells3 HBX2.out).2.2, (HCELL.out _ HK.out).1.1, (HCELL.out _ HK.out).1.2.1, (HCELL.out _ HK.out).1.2.2.1⟩) (first | (go_at_call 20; (with_reducible refine (bautalaw36_at.calls _ _ _ _ FA.out).mono ?_); rintro e w3 ⟨rfl, hd⟩; have n0 := Aside0.mk (HK.out.below hd.below); have n1 := Aside0.mk (blk_below HBX2.out hd.below); have n2 := Aside0.mk (HM.out.below hd.below); clear HK HBX2 HM hd; have HK := n0; have HBX2 := n1; have HM := n2; clear n0 n1 n2) | (go_at_call 20; (with_reducible refine (bautalaw36_at.calls _ _ _ _ FB.out).mono ?_); rintro e w3 ⟨rfl, hd⟩; have n0 := Aside0.mk (HK.out.below hd.below); have n1 := Aside0.mk (blk_below HBX2.out hd.below); have n2 := Aside0.mk (HM.out.below hd.below); clear HK HBX2 HM hd; have HK := n0; have HBX2 := n1; have HM := n2; clear n0 n1 n2) | (go_at_call 20; (with_reducible refine (bautalaw36_at.calls _ _ _ _ FC.out).mono ?_); rintro e w3 ⟨rfl, hd⟩; have n0 := Aside0.mk (HK.out.below hd.below); have n1 := Aside0.mk (blk_below HBX2.out hd.below); have n2 := Aside0.mk (HM.out.below hd.below); clear HK HBX2 HM hd; have HK := n0; have HBX2 := n1; have HM := n2; clear n0 n1 n2))
  obtain ⟨A, hA⟩ : ∃ A, A = sem ns ma := ⟨_, rfl⟩
  obtain ⟨B, hB⟩ : ∃ B, B = sem ns mb := ⟨_, rfl⟩
  obtain ⟨C, hC⟩ : ∃ C, C = sem ns mc := ⟨_, rfl⟩
  have Ha : Aside0 (Has ns ma A) := ⟨HMM.out.1, fun x => by rw [hA]⟩
  have Hb : Aside0 (Has ns mb B) := ⟨HMM.out.2.1, fun x => by rw [hB]⟩
  have Hc : Aside0 (Has ns mc C) := ⟨HMM.out.2.2, fun x => by rw [hC]⟩
  have S0 : Aside0 (Sv Wb w3 g n 0 ns) := ⟨⟨HM.out.s.mono (fun k hk => hk.1) (by have := pp_le HN.out; omega), HM.out.b⟩, by have := HI.out.2.2.1; have := HL0.out; have := pp_le HN.out; omega, HN.out⟩
  clear hA hB hC HM HK HBX2 HBX HCELL HI HL0 FA FB FC HMM HC HCW p1 p2 p3 p4 p5 p6 p7 p8 p9 q1
  go_wp2_with (first | (go_at_call 21; (with_reducible refine (Lo_Not S0.out (by decide) Ha.out).mono ?_); rintro e w1 ⟨t1, ns1, rfl, S1, T1, P1⟩) | (go_at_call 21; (with_reducible refine (Lo_Not S1.out (by decide) T1.out).mono ?_); rintro e w2 ⟨t2, ns2, rfl, S2, T2, P2⟩; have ee : ma = t2 := (S2.out.same T2.out (P2.out _ _ (P1.out _ _ Ha.out)) (fun x => by (try dsimp only); generalize A x = p; generalize B x = q; generalize C x = r; revert p q r; decide)).symm; subst ee) | (go_at_call 22; (with_reducible refine (Lo_Ite10 S2.out (by decide) (P2.out _ _ (P1.out _ _ Ha.out))).mono ?_); rintro e w3 ⟨t3, ns3, rfl, S3, T3, P3⟩; have ee : ma = t3 := (S3.out.same T3.out (P3.out _ _ (P2.out _ _ (P1.out _ _ Ha.out))) (fun x => by (try dsimp only); generalize A x = p; generalize B x = q; generalize C x = r; revert p q r; decide)).symm; subst ee) | (go_at_call 23; (with_reducible refine (Lo_And S3.out (by decide) (P3.out _ _ (P2.out _ _ (P1.out _ _ Ha.out))) (P3.out _ _ (P2.out _ _ (P1.out _ _ Hb.out)))).mono ?_); rintro e w4 ⟨t4, ns4, rfl, S4, T4, P4⟩) | (go_at_call 23; (with_reducible refine (Lo_And S4.out (by decide) (P4.out _ _ (P3.out _ _ (P2.out _ _ (P1.out _ _ Hb.out)))) (P4.out _ _ (P3.out _ _ (P2.out _ _ (P1.out _ _ Ha.out))))).mono ?_); rintro e w5 ⟨t5, ns5, rfl, S5, T5, P5⟩; have ee : t4 = t5 := (S5.out.same T5.out (P5.out _ _ T4.out) (fun x => by (try dsimp only); generalize A x = p; generalize B x = q; generalize C x = r; revert p q r; decide)).symm; subst ee) | (go_at_call 24; (with_reducible refine (Lo_Or S5.out (by decide) (P5.out _ _ (P4.out _ _ (P3.out _ _ (P2.out _ _ (P1.out _ _ Ha.out))))) (P5.out _ _ (P4.out _ _ (P3.out _ _ (P2.out _ _ (P1.out _ _ Hb.out)))))).mono ?_); rintro e w6 ⟨t6, ns6, rfl, S6, T6, P6⟩) | (go_at_call 21; (with_reducible refine (Lo_Not S6.out (by decide) (P6.out _ _ (P5.out _ _ (P4.out _ _ (P3.out _ _ (P2.out _ _ (P1.out _ _ Ha.out))))))).mono ?_); rintro e w7 ⟨t7, ns7, rfl, S7, T7, P7⟩) | (go_at_call 21; (with_reducible refine (Lo_Not S7.out (by decide) (P7.out _ _ (P6.out _ _ (P5.out _ _ (P4.out _ _ (P3.out _ _ (P2.out _ _ (P1.out _ _ Hb.out)))))))).mono ?_); rintro e w8 ⟨t8, ns8, rfl, S8, T8, P8⟩) | (go_at_call 23; (with_reducible refine (Lo_And S8.out (by decide) (P8.out _ _ T7.out) T8.out).mono ?_); rintro e w9 ⟨t9, ns9, rfl, S9, T9, P9⟩) | (go_at_call 21; (with_reducible refine (Lo_Not S9.out (by decide) T9.out).mono ?_); rintro e w10 ⟨t10, ns10, rfl, S10, T10, P10⟩; have ee : t6 = t10 := (S10.out.same T10.out (P10.out _ _ (P9.out _ _ (P8.out _ _ (P7.out _ _ T6.out)))) (fun x => by (try dsimp only); generalize A x = p; generalize B x = q; generalize C x = r; revert p q r; decide)).symm; subst ee) | (go_at_call 25; (with_reducible refine (Lo_Xor S10.out (by decide) (P10.out _ _ (P9.out _ _ (P8.out _ _ (P7.out _ _ (P6.out _ _ (P5.out _ _ (P4.out _ _ (P3.out _ _ (P2.out _ _ (P1.out _ _ Ha.out)))))))))) (P10.out _ _ (P9.out _ _ (P8.out _ _ (P7.out _ _ (P6.out _ _ (P5.out _ _ (P4.out _ _ (P3.out _ _ (P2.out _ _ (P1.out _ _ Hb.out))))))))))).mono ?_); rintro e w11 ⟨t11, ns11, rfl, S11, T11, P11⟩) | (go_at_call 25; (with_reducible refine (Lo_Xor S11.out (by decide) T11.out (P11.out _ _ (P10.out _ _ (P9.out _ _ (P8.out _ _ (P7.out _ _ (P6.out _ _ (P5.out _ _ (P4.out _ _ (P3.out _ _ (P2.out _ _ (P1.out _ _ Hb.out)))))))))))).mono ?_); rintro e w12 ⟨t12, ns12, rfl, S12, T12, P12⟩; have ee : ma = t12 := (S12.out.same T12.out (P12.out _ _ (P11.out _ _ (P10.out _ _ (P9.out _ _ (P8.out _ _ (P7.out _ _ (P6.out _ _ (P5.out _ _ (P4.out _ _ (P3.out _ _ (P2.out _ _ (P1.out _ _ Ha.out)))))))))))) (fun x => by (try dsimp only); generalize A x = p; generalize B x = q; generalize C x = r; revert p q r; decide)).symm; subst ee) | (go_at_call 24; (with_reducible refine (Lo_Or S12.out (by decide) (P12.out _ _ (P11.out _ _ (P10.out _ _ (P9.out _ _ (P8.out _ _ (P7.out _ _ (P6.out _ _ (P5.out _ _ (P4.out _ _ (P3.out _ _ (P2.out _ _ (P1.out _ _ Hb.out)))))))))))) (P12.out _ _ (P11.out _ _ (P10.out _ _ (P9.out _ _ (P8.out _ _ (P7.out _ _ (P6.out _ _ (P5.out _ _ (P4.out _ _ (P3.out _ _ (P2.out _ _ (P1.out _ _ Hc.out))))))))))))).mono ?_); rintro e w13 ⟨t13, ns13, rfl, S13, T13, P13⟩) | (go_at_call 23; (with_reducible refine (Lo_And S13.out (by decide) (P13.out _ _ (P12.out _ _ (P11.out _ _ (P10.out _ _ (P9.out _ _ (P8.out _ _ (P7.out _ _ (P6.out _ _ (P5.out _ _ (P4.out _ _ (P3.out _ _ (P2.out _ _ (P1.out _ _ Ha.out))))))))))))) T13.out).mono ?_); rintro e w14 ⟨t14, ns14, rfl, S14, T14, P14⟩) | (go_at_call 23; (with_reducible refine (Lo_And S14.out (by decide) (P14.out _ _ (P13.out _ _ (P12.out _ _ (P11.out _ _ (P10.out _ _ (P9.out _ _ (P8.out _ _ (P7.out _ _ (P6.out _ _ (P5.out _ _ (P4.out _ _ (P3.out _ _ (P2.out _ _ (P1.out _ _ Ha.out)))))))))))))) (P14.out _ _ (P13.out _ _ (P12.out _ _ (P11.out _ _ (P10.out _ _ (P9.out _ _ (P8.out _ _ (P7.out _ _ (P6.out _ _ (P5.out _ _ (P4.out _ _ (P3.out _ _ (P2.out _ _ (P1.out _ _ Hb.out))))))))))))))).mono ?_); rintro e w15 ⟨t15, ns15, rfl, S15, T15, P15⟩) | (go_at_call 23; (with_reducible refine (Lo_And S15.out (by decide) (P15.out _ _ (P14.out _ _ (P13.out _ _ (P12.out _ _ (P11.out _ _ (P10.out _ _ (P9.out _ _ (P8.out _ _ (P7.out _ _ (P6.out _ _ (P5.out _ _ (P4.out _ _ (P3.out _ _ (P2.out _ _ (P1.out _ _ Ha.out))))))))))))))) (P15.out _ _ (P14.out _ _ (P13.out _ _ (P12.out _ _ (P11.out _ _ (P10.out _ _ (P9.out _ _ (P8.out _ _ (P7.out _ _ (P6.out _ _ (P5.out _ _ (P4.out _ _ (P3.out _ _ (P2.out _ _ (P1.out _ _ Hc.out)))))))))))))))).mono ?_); rintro e w16 ⟨t16, ns16, rfl, S16, T16, P16⟩) | (go_at_call 24; (with_reducible refine (Lo_Or S16.out (by decide) (P16.out _ _ T15.out) T16.out).mono ?_); rintro e w17 ⟨t17, ns17, rfl, S17, T17, P17⟩; have ee : t14 = t17 := (S17.out.same T17.out (P17.out _ _ (P16.out _ _ (P15.out _ _ T14.out))) (fun x => by (try dsimp only); generalize A x = p; generalize B x = q; generalize C x = r; revert p q r; decide)).symm; subst ee) | (go_at_call 22; (with_reducible refine (Lo_Ite S17.out (by decide) (P17.out _ _ (P16.out _ _ (P15.out _ _ (P14.out _ _ (P13.out _ _ (P12.out _ _ (P11.out _ _ (P10.out _ _ (P9.out _ _ (P8.out _ _ (P7.out _ _ (P6.out _ _ (P5.out _ _ (P4.out _ _ (P3.out _ _ (P2.out _ _ (P1.out _ _ Ha.out))))))))))))))))) (P17.out _ _ (P16.out _ _ (P15.out _ _ (P14.out _ _ (P13.out _ _ (P12.out _ _ (P11.out _ _ (P10.out _ _ (P9.out _ _ (P8.out _ _ (P7.out _ _ (P6.out _ _ (P5.out _ _ (P4.out _ _ (P3.out _ _ (P2.out _ _ (P1.out _ _ Hb.out))))))))))))))))) (P17.out _ _ (P16.out _ _ (P15.out _ _ (P14.out _ _ (P13.out _ _ (P12.out _ _ (P11.out _ _ (P10.out _ _ (P9.out _ _ (P8.out _ _ (P7.out _ _ (P6.out _ _ (P5.out _ _ (P4.out _ _ (P3.out _ _ (P2.out _ _ (P1.out _ _ Hc.out)))))))))))))))))).mono ?_); rintro e w18 ⟨t18, ns18, rfl, S18, T18, P18⟩) | (go_at_call 23; (with_reducible refine (Lo_And S18.out (by decide) (P18.out _ _ (P17.out _ _ (P16.out _ _ (P15.out _ _ (P14.out _ _ (P13.out _ _ (P12.out _ _ (P11.out _ _ (P10.out _ _ (P9.out _ _ (P8.out _ _ (P7.out _ _ (P6.out _ _ (P5.out _ _ (P4.out _ _ (P3.out _ _ (P2.out _ _ (P1.out _ _ Ha.out)))))))))))))))))) (P18.out _ _ (P17.out _ _ (P16.out _ _ (P15.out _ _ (P14.out _ _ (P13.out _ _ (P12.out _ _ (P11.out _ _ (P10.out _ _ (P9.out _ _ (P8.out _ _ (P7.out _ _ (P6.out _ _ (P5.out _ _ (P4.out _ _ (P3.out _ _ (P2.out _ _ (P1.out _ _ Hb.out))))))))))))))))))).mono ?_); rintro e w19 ⟨t19, ns19, rfl, S19, T19, P19⟩) | (go_at_call 21; (with_reducible refine (Lo_Not S19.out (by decide) (P19.out _ _ (P18.out _ _ (P17.out _ _ (P16.out _ _ (P15.out _ _ (P14.out _ _ (P13.out _ _ (P12.out _ _ (P11.out _ _ (P10.out _ _ (P9.out _ _ (P8.out _ _ (P7.out _ _ (P6.out _ _ (P5.out _ _ (P4.out _ _ (P3.out _ _ (P2.out _ _ (P1.out _ _ Ha.out)))))))))))))))))))).mono ?_); rintro e w20 ⟨t20, ns20, rfl, S20, T20, P20⟩) | (go_at_call 23; (with_reducible refine (Lo_And S20.out (by decide) T20.out (P20.out _ _ (P19.out _ _ (P18.out _ _ (P17.out _ _ (P16.out _ _ (P15.out _ _ (P14.out _ _ (P13.out _ _ (P12.out _ _ (P11.out _ _ (P10.out _ _ (P9.out _ _ (P8.out _ _ (P7.out _ _ (P6.out _ _ (P5.out _ _ (P4.out _ _ (P3.out _ _ (P2.out _ _ (P1.out _ _ Hc.out))))))))))))))))))))).mono ?_); rintro e w21 ⟨t21, ns21, rfl, S21, T21, P21⟩) | (go_at_call 24; (with_reducible refine (Lo_Or S21.out (by decide) (P21.out _ _ (P20.out _ _ T19.out)) T21.out).mono ?_); rintro e w22 ⟨t22, ns22, rfl, S22, T22, P22⟩; have ee : t18 = t22 := (S22.out.same T22.out (P22.out _ _ (P21.out _ _ (P20.out _ _ (P19.out _ _ T18.out)))) (fun x => by (try dsimp only); generalize A x = p; generalize B x = q; generalize C x = r; revert p q r; decide)).symm; subst ee) | (go_at_call 13; refine (lives.calls _).mono ?_; rintro e w99 ⟨rfl, hb5⟩; have HB5 := Aside0.mk (below_then HBW.out HBW.out.size (below_then S22.out.1.2 S22.out.1.2.size hb5)); clear hb5))
  go_ret
  exact ⟨rfl, HB5.out⟩
end Go.Proofs.Ytialbhkamlfccaa.PA
