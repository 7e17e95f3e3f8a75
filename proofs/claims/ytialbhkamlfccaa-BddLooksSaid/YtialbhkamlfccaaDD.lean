/- made: what the call comes to. No condition but the hypotheses that each theorem states. -/
import Derived.Test.YtialbhkamlfccaaM7
import Derived.Deep.RegionHeld3
namespace Go.Proofs.Ytialbhkamlfccaa.PA
open Go.RowKit Go.Proofs.YtialbhkamlfccaaW.PrintWords Go.Proofs.YtialbhkamlfccaaW.PrintLast Go.Proofs.YtialbhkamlfccaaW.PrintMore Go.Proofs.Ytialbhkamlfccaa.Mp Go.Proofs.Ytialbhkamlfccaa.Dia
set_option linter.unusedVariables false
set_option linter.unusedSimpArgs false
set_option maxHeartbeats 40000000 in
set_option maxRecDepth 100000 in
theorem made.calls (g vars most nb : Nat) (full : Bool) (ns : List Nd) (A2 : Option Addr) (c2 : Nat) (l : List AcT) (w0 w : World) (hb : Below w0.heap.size w0 w) (h : BS w0 w (setB w0 w) g vars most full ns nb) (hC : Kd.C k58 w0 A2 l.length l) (hv : vars ≤ 5) (hnb : nb + 40 * pp vars ≤ 1000000000) :
    Calls Try.prog 8 #[.pointer (some ⟨g, 0, none⟩), .int .i64 (vars : Int), .slice A2 l.length c2] w (Mdo w0 g vars most full ns nb) := by
  have HB := Aside0.mk hb
  have HS := Aside0.mk h
  have HC := Aside0.mk hC
  have HV := Aside0.mk (And.intro hv hnb)
  clear hb h hC hv hnb
  go_enter Try.func8, Try.ntmps8
  go_upto_region 2 with (first | (go_at_call 26; (with_reducible refine (bdd_Const.calls g false _).mono ?_); rintro e w1 ⟨rfl, e1⟩; have e2 := e1.symm; subst e2; clear e1) | (go_at_call 26; (with_reducible refine (bdd_Const.calls g true _).mono ?_); rintro e w1 ⟨rfl, e1⟩; have e2 := e1.symm; subst e2; clear e1) | (go_at_call 27; (with_reducible refine (bautaref36_Const.calls (2 ^ vars + vars + 2) (vars : Int) false (tab vars (fun _ => false)) _ (Const_f (by have := HV.out; omega) false)).mono ?_); rintro e w1 ⟨v11, rfl, hr1, hb1⟩; obtain ⟨A11, c11, e11⟩ := Kd.R_slice hr1; subst e11) | (go_at_call 27; (with_reducible refine (bautaref36_Const.calls (2 ^ vars + vars + 2) (vars : Int) true (tab vars (fun _ => true)) _ (Const_f (by have := HV.out; omega) true)).mono ?_); rintro e w2 ⟨v12, rfl, hr2, hb2⟩; obtain ⟨A12, c12, e12⟩ := Kd.R_slice hr2; subst e12))
  have HM := Aside0.mk ((Ms.start HB.out HS.out hb1 hr1 hb2 hr2).below (Below.refl _ _).drew)
  have HBX := Aside0.mk (show (w2.alloc (.cells #[.slice A11 (tab vars (fun _ => false)).length c11, .slice A12 (tab vars (fun _ => true)).length c12] 31)).drew.heap[w2.heap.size]? = some (.cells #[.slice A11 (tab vars (fun _ => false)).length c11, .slice A12 (tab vars (fun _ => true)).length c12] 31 (0, 0)) from blk_drew (heap_alloc_new w2 _))
  clear hb1 hr1 hb2 hr2
  go_region_held3 (fun W => W.cell? ⟨w2.heap.size, 0, none⟩ = some (.slice A11 (tab vars (fun _ => false)).length c11) ∧ W.cell? ⟨w2.heap.size, 1, none⟩ = some (.slice A12 (tab vars (fun _ => true)).length c12)) (exact cells2 HBX.out) (fail)
  clear HBX
  obtain ⟨W, hW⟩ : ∃ W, W = (w2.alloc (.cells #[.slice A11 (tab vars (fun _ => false)).length c11, .slice A12 (tab vars (fun _ => true)).length c12] 31)).drew := ⟨_, rfl⟩
  rw [← hW] at HM ⊢
  clear hW
  clear HS HB
  go_wp2_with fail
  go_loopg [9, 10, 13] 41 (fun kq v9 v10 v13 w' => ∃ (i : Nat) (ids : List Nat) (ns' : List Nd), v13 = .int .i64 (i : Int) ∧ Aside0 (i + kq = 41 ∧ i ≤ l.length ∧ i ≤ 40 ∧ ids.length ≤ i + 2 ∧ 2 ≤ ids.length ∧ ns'.length ≤ ns.length + i * pp vars) ∧ Aside0 (Ms w0 w' g vars most full ns' (nb + i * pp vars) v9 v10 (.slice A11 (tab vars (fun _ => false)).length c11) (.slice A12 (tab vars (fun _ => true)).length c12) ids))
  case atStart => exact ⟨0, [0, 1], ns, rfl, ⟨rfl, Nat.zero_le _, by decide, by decide, by decide, by omega⟩, ⟨by rw [Nat.zero_mul, Nat.add_zero]; exact HM.out⟩⟩
  case round =>
    clear HM
    obtain ⟨i, ids, ns', rfl, HK, HM⟩ := hrel
    by_cases hi : i < l.length ∧ i < 40
    · obtain ⟨ad, eA, x0, x1, x2, x3⟩ := at_Ac (Kd.C_below HC.out HM.out.b) i hi.1 hi.1
      subst eA
      generalize l[i] = x at x0 x1 x2 x3
      obtain ⟨kd, xa, xb, xc⟩ := x
      obtain ⟨ra, hra, fa⟩ := At_f xa (n := ids.length) (by have := HK.out; omega) (by have := HK.out; omega)
      obtain ⟨rb, hrb, fb⟩ := At_f xb (n := ids.length) (by have := HK.out; omega) (by have := HK.out; omega)
      obtain ⟨rc, hrc, fc⟩ := At_f xc (n := ids.length) (by have := HK.out; omega) (by have := HK.out; omega)
      have HAT := HM.out.at3 hra hrb hrc
      obtain ⟨ad9, c9, ad10, c10, _, _, _, _, _, _, _, _, _, e9, e10, _⟩ := HAT
      subst e9 e10
      have FA := Aside0.mk fa
      have FB := Aside0.mk fb
      have FC := Aside0.mk fc
      have HR := Aside0.mk (And.intro hra (And.intro hrb hrc))
      have q6 : decide ((i : Int) < (l.length : Int)) = true := decide_eq_true (by omega)
      have q7 : decide ((i : Int) < 40) = true := decide_eq_true (by omega)
      have q8 : ((i : Int) < (l.length : Int)) = True := eq_true (by omega)
      have q9 : ((i : Int) < 40) = True := eq_true (by omega)
      have q10 : (0 ≤ (i : Int)) = True := eq_true (by omega)
      have q11 : (i < l.length) = True := eq_true hi.1
      have u58 := Try.underlying58
      have HI := Aside0.mk hi
      clear fa fb fc hra hrb hrc hi
      go_wp2_with fail
      have n0 := Aside0.mk (HM.out.below (below_alloc (Below.refl _ _) (.cells #[.int .i64 kd, .int .i64 xa, .int .i64 xb, .int .i64 xc] 58)).drew)
      have HBX := Aside0.mk (show (wr.alloc (.cells #[.int .i64 kd, .int .i64 xa, .int .i64 xb, .int .i64 xc] 58)).drew.heap[wr.heap.size]? = some (.cells #[.int .i64 kd, .int .i64 xa, .int .i64 xb, .int .i64 xc] 58) from blk_drew (heap_alloc_new wr _))
      clear HM x0 x1 x2 x3
      have HM := n0
      clear n0
      go_region_held3 (fun W => W.cell? ⟨wr.heap.size, 1, none⟩ = some (.int .i64 xa) ∧ W.cell? ⟨wr.heap.size, 2, none⟩ = some (.int .i64 xb) ∧ W.cell? ⟨wr.heap.size, 3, none⟩ = some (.int .i64 xc)) (exact (cells4 HBX.out).2) (first | (go_at_call 20; (with_reducible refine (bautalaw36_at.calls _ _ _ _ FA.out).mono ?_); rintro e w1 ⟨rfl, hd⟩; have n0 := Aside0.mk (HM.out.below hd.below); have n1 := Aside0.mk (blk_below HBX.out hd.below); clear HM HBX hd; have HM := n0; have HBX := n1; clear n0 n1) | (go_at_call 20; (with_reducible refine (bautalaw36_at.calls _ _ _ _ FB.out).mono ?_); rintro e w1 ⟨rfl, hd⟩; have n0 := Aside0.mk (HM.out.below hd.below); have n1 := Aside0.mk (blk_below HBX.out hd.below); clear HM HBX hd; have HM := n0; have HBX := n1; clear n0 n1) | (go_at_call 20; (with_reducible refine (bautalaw36_at.calls _ _ _ _ FC.out).mono ?_); rintro e w1 ⟨rfl, hd⟩; have n0 := Aside0.mk (HM.out.below hd.below); have n1 := Aside0.mk (blk_below HBX.out hd.below); clear HM HBX hd; have HM := n0; have HBX := n1; clear n0 n1))
      obtain ⟨X, hX⟩ : ∃ X, X = w1.alloc (.cells #[] 4) := ⟨_, rfl⟩
      have HM' : Aside0 (Ms w0 X g vars most full ns' (nb + i * pp vars) (.slice (some ad9) ids.length c9) (.slice (some ad10) ids.length c10) (.slice A11 (tab vars (fun _ => false)).length c11) (.slice A12 (tab vars (fun _ => true)).length c12) ids) := ⟨by rw [hX]; exact HM.out.below (below_alloc (Below.refl _ _) _)⟩
      have HBX' : Aside0 (X.heap[wr.heap.size]? = some (.cells #[.int .i64 kd, .int .i64 xa, .int .i64 xb, .int .i64 xc] 58)) := ⟨by rw [hX]; exact blk_alloc HBX.out _⟩
      clear HM HBX
      have HM := HM'
      have HBX := HBX'
      clear HM' HBX' FA FB FC
      have zk : X.cell? ⟨wr.heap.size, 0, none⟩ = some (.int .i64 kd) := (cells4 HBX.out).1
      rw [hX] at zk
      go_upto_block 2 with fail
      rw [← hX]
      clear hX zk
      have hw1 := Aside0.mk (show wrap64 ((i : Int) + 1) = ((i + 1 : Nat) : Int) by have := HK.out; unfold wrap64; omega)
      have hpm : nb + i * pp vars + pp vars = nb + (i + 1) * pp vars := by rw [Nat.add_mul, Nat.one_mul]; omega
      have HPM := Aside0.mk hpm
      clear hpm q6 q7 q8 q9 q10 q11
      by_cases hout : kd = 0 ∧ (xa < 0 ∨ (vars : Int) ≤ xa)
      · as_aux_lemma =>
        obtain ⟨rfl, hxa⟩ := hout
        have HXA := Aside0.mk hxa
        have zx1 : X.cell? ⟨wr.heap.size, 1, none⟩ = some (.int .i64 xa) := (cells4 HBX.out).2.1
        by_cases hneg : xa < 0
        · have r1 : decide (xa < 0) = true := decide_eq_true hneg
          clear hxa
          go_wp2_with (first | (go_at_call 28; (with_reducible refine (Var_out xa g vars most _ _ full ns' w0 _ (Ms.bs HM.out) HXA.out).mono ?_); rintro e w3 ⟨rfl, e3⟩; have e4 := e3.symm; subst e4; clear e3))
          go_roundg (gk - 1)
          case measure => have := HK.out; have := HI.out; omega
          case rel => exact ⟨i + 1, ids, ns', congrArg (Value.int .i64) hw1.out, ⟨by have := HK.out; have := HI.out; have := Nat.add_mul i 1 (pp vars); omega⟩, ⟨HM.out.mono (by have := HPM.out; omega)⟩⟩
        · have r1 : decide (xa < 0) = false := decide_eq_false hneg
          have r2 : (vars : Int) ≤ xa := by omega
          have r3 : ((vars : Int) ≤ xa) = True := eq_true r2
          have r4 : decide ((vars : Int) ≤ xa) = true := decide_eq_true r2
          clear hxa
          go_wp2_with (first | (go_at_call 28; (with_reducible refine (Var_out xa g vars most _ _ full ns' w0 _ (Ms.bs HM.out) HXA.out).mono ?_); rintro e w3 ⟨rfl, e3⟩; have e4 := e3.symm; subst e4; clear e3))
          go_roundg (gk - 1)
          case measure => have := HK.out; have := HI.out; omega
          case rel => exact ⟨i + 1, ids, ns', congrArg (Value.int .i64) hw1.out, ⟨by have := HK.out; have := HI.out; have := Nat.add_mul i 1 (pp vars); omega⟩, ⟨HM.out.mono (by have := HPM.out; omega)⟩⟩
      · go_cut [18, 19] (fun v18 v19 w' => Aside0 (Fin w0 w' g vars most full ns' (nb + i * pp vars + pp vars) (pp vars) (.slice (some ad9) ids.length c9) (.slice (some ad10) ids.length c10) (.slice A11 (tab vars (fun _ => false)).length c11) (.slice A12 (tab vars (fun _ => true)).length c12) ids v18 v19))
        case first =>
          have HNB1 := Aside0.mk (room1 HV.out.2 HI.out.2)
          have HNB2 := Aside0.mk (room2 HV.out.2 HI.out.2)
          have HV40 := Aside0.mk (show vars ≤ 40 by have := HV.out; omega)
          have p1 : ((ra : Int) < (ids.length : Int)) = True := eq_true (by have := HR.out; omega)
          have p2 : ((rb : Int) < (ids.length : Int)) = True := eq_true (by have := HR.out; omega)
          have p3 : ((rc : Int) < (ids.length : Int)) = True := eq_true (by have := HR.out; omega)
          have p4 : (0 ≤ (ra : Int)) = True := eq_true (by omega)
          have p5 : (0 ≤ (rb : Int)) = True := eq_true (by omega)
          have p6 : (0 ≤ (rc : Int)) = True := eq_true (by omega)
          have p7 : (ra < ids.length) = True := eq_true HR.out.1
          have p8 : (rb < ids.length) = True := eq_true HR.out.2.1
          have p9 : (rc < ids.length) = True := eq_true HR.out.2.2
          by_cases hk0 : kd = 0
          · as_aux_lemma =>
            subst hk0
            obtain ⟨ai, rfl⟩ : ∃ ai : Nat, xa = ai := ⟨xa.toNat, by omega⟩
            have HAI := Aside0.mk (show ai < vars by omega)
            have zx1 : X.cell? ⟨wr.heap.size, 1, none⟩ = some (.int .i64 (ai : Int)) := (cells4 HBX.out).2.1
            have r0 : decide ((ai : Int) < 0) = false := decide_eq_false (by omega)
            have r1 : ((ai : Int) < 0) = False := eq_false (by omega)
            have r2 : ((vars : Int) ≤ (ai : Int)) = False := eq_false (by have := HAI.out; omega)
            have r3 : (vars ≤ ai) = False := eq_false (by have := HAI.out; omega)
            have HK := Aside0.mk (Kept.refl X (setB w0 X))
            clear hout
            go_wp2_with (first | (go_at_call 28; (with_reducible refine Calls.mono (bdd_Var.calls ai g vars most _ _ full ns' w0 _ (Ms.bs HM.out) HAI.out) ?_); intro e w3 hr; have hk := hr.kept; obtain ⟨val, rfl, hp⟩ := HM.out.op hr; have HP := hp; have hbx := blk_set58 HBX.out (by decide) hk; have zy := (cells4 hbx).2.1; have n1 := Aside0.mk hk; clear HK hr hk hp hbx; have HK := n1; clear n1) | (go_at_call 11; (with_reducible refine (bautaref36_Var.calls (2 ^ vars + vars + 2) (vars : Int) (ai : Int) (tab vars (fun y => y ai)) _ (Var_f HV40.out HAI.out)).mono ?_); rintro e w4 ⟨v19, rfl, hr3, hb3⟩; have n1 := Aside0.mk (Kd.R_lower hr3 (Nat.le_trans HM.out.b.size HK.out.1)); have n2 := Aside0.mk (HP.out.below hb3); clear hr3 hb3 HP; have HR3 := n1; have HP := n2; clear n1 n2))
            go_meet
            case rel => exact ⟨HP.out.fin HR3.out (fun x => rfl) (by unfold pp; omega) (by omega)⟩
          · clear hout
            by_cases hk1 : kd = 1
            · as_aux_lemma =>
              subst hk1
              have n0 := Aside0.mk (HM.out.below (Below.refl _ _).drew)
              clear HM
              have HM := n0
              clear n0
              obtain ⟨ad9', c9', ad10', c10', ma, Aa, ca, mb, Ab, cb, mc, Ac, cc, e9, e10, hm, hle, hcell⟩ := HM.out.at3 HR.out.1 HR.out.2.1 HR.out.2.2
              obtain ⟨rfl, rfl⟩ : ad9 = ad9' ∧ c9 = c9' := by injection e9 with a b c; exact ⟨by injection a, c⟩
              obtain ⟨rfl, rfl⟩ : ad10 = ad10' ∧ c10 = c10' := by injection e10 with a b c; exact ⟨by injection a, c⟩
              have HCON := Aside0.mk HM.out.consts
              have HCELL := Aside0.mk hcell
              have HMM := Aside0.mk hm
              have HLE := Aside0.mk hle
              have HK := Aside0.mk (Kept.refl X.drew (setB w0 X.drew))
              clear e9 e10 hm hle hcell
              go_wp2_with fail
              go_region_held3 (fun W => W.cell? (ad9.add ra) = some (.int .i64 (ma : Int)) ∧ W.cell? (ad10.add ra) = some (.slice Aa (tab vars (sem ns' ma)).length ca)) (exact ⟨(HCELL.out _ HK.out).1.1, (HCELL.out _ HK.out).1.2.2.2.1⟩) (first | (go_at_call 21; (with_reducible refine Calls.mono (bdd_Not.calls ma g vars most _ _ full ns' w0 _ (Ms.bs HM.out) HMM.out.1 HNB1.out) ?_); intro e w3 hr; have hk := hr.kept; obtain ⟨val, rfl, hp⟩ := HM.out.op hr; have HP := hp; have n1 := Aside0.mk hk; clear HK hr hk hp; have HK := n1; clear n1) | (go_at_call 29; (with_reducible refine (bautaref36_Ite.calls (2 ^ vars + 1) _ _ (tab vars (sem ns' ma)) _ _ (tab vars (fun _ => false)) _ _ (tab vars (fun _ => true)) _ _ ?r0 ?c0 ?r1 ?c1 ?r2 ?c2 (Ite_f HV40.out (sem ns' ma) (fun _ => false) (fun _ => true))).mono ?_); (case r0 => exact (HCELL.out _ HK.out).2.1); (case c0 => exact HLE.out.1); (case r1 => exact (HCON.out.2.2 _ HK.out).1); (case c1 => exact HCON.out.1); (case r2 => exact (HCON.out.2.2 _ HK.out).2); (case c2 => exact HCON.out.2.1); rintro e w4 ⟨v19, rfl, hr3, hb3⟩; obtain ⟨G, hG⟩ : ∃ G : (Nat → Bool) → Bool, G = fun y => if (sem ns' ma) y then (fun _ => false) y else (fun _ => true) y := ⟨_, rfl⟩; have hr4 : Kd.R Kd.bool 4 w4 _ (fun _ => True) v19 (tab vars G) := (by rw [hG]; exact hr3); have HG : Aside0 (∀ y, G y = if (sem ns' ma) y then (fun _ => false) y else (fun _ => true) y) := ⟨fun y => congrFun hG y⟩; clear hr3 hG; obtain ⟨A19, c19, e19⟩ := Kd.R_slice hr4; subst e19; have n1 := Aside0.mk (Kd.R_lower hr4 (Nat.le_trans HM.out.b.size HK.out.1)); have n2 := Aside0.mk (HP.out.below hb3); have n3 := Aside0.mk (HK.out.below hb3); clear hr4 hb3 HP HK; have HR3 := n1; have HP := n2; have HK := n3; clear n1 n2 n3))
              go_wp2_with fail
              go_meet
              case rel => exact ⟨HP.out.fin HR3.out (fun x => by rw [HG.out x]; cases sem ns' ma x <;> rfl) (by unfold pp; omega) (by unfold pp; omega)⟩
            · by_cases hk2 : kd = 2
              · as_aux_lemma =>
                subst hk2
                have n0 := Aside0.mk (HM.out.below (Below.refl _ _).drew)
                clear HM
                have HM := n0
                clear n0
                obtain ⟨ad9', c9', ad10', c10', ma, Aa, ca, mb, Ab, cb, mc, Ac, cc, e9, e10, hm, hle, hcell⟩ := HM.out.at3 HR.out.1 HR.out.2.1 HR.out.2.2
                obtain ⟨rfl, rfl⟩ : ad9 = ad9' ∧ c9 = c9' := by injection e9 with a b c; exact ⟨by injection a, c⟩
                obtain ⟨rfl, rfl⟩ : ad10 = ad10' ∧ c10 = c10' := by injection e10 with a b c; exact ⟨by injection a, c⟩
                have HCON := Aside0.mk HM.out.consts
                have HCELL := Aside0.mk hcell
                have HMM := Aside0.mk hm
                have HLE := Aside0.mk hle
                have HK := Aside0.mk (Kept.refl X.drew (setB w0 X.drew))
                clear e9 e10 hm hle hcell
                go_wp2_with fail
                go_region_held3 (fun W => W.cell? (ad9.add ra) = some (.int .i64 (ma : Int)) ∧ W.cell? (ad9.add rb) = some (.int .i64 (mb : Int)) ∧ W.cell? (ad10.add ra) = some (.slice Aa (tab vars (sem ns' ma)).length ca) ∧ W.cell? (ad10.add rb) = some (.slice Ab (tab vars (sem ns' mb)).length cb)) (exact ⟨(HCELL.out _ HK.out).1.1, (HCELL.out _ HK.out).1.2.1, (HCELL.out _ HK.out).1.2.2.2.1, (HCELL.out _ HK.out).1.2.2.2.2.1⟩) (first | (go_at_call 23; (with_reducible refine Calls.mono (bdd_And.calls ma mb g vars most _ _ full ns' w0 _ (Ms.bs HM.out) ⟨HMM.out.1, HMM.out.2.1⟩ HNB1.out) ?_); intro e w3 hr; have hk := hr.kept; obtain ⟨val, rfl, hp⟩ := HM.out.op hr; have HP := hp; have n1 := Aside0.mk hk; clear HK hr hk hp; have HK := n1; clear n1) | (go_at_call 29; (with_reducible refine (bautaref36_Ite.calls (2 ^ vars + 1) _ _ (tab vars (sem ns' ma)) _ _ (tab vars (sem ns' mb)) _ _ (tab vars (fun _ => false)) _ _ ?r0 ?c0 ?r1 ?c1 ?r2 ?c2 (Ite_f HV40.out (sem ns' ma) (sem ns' mb) (fun _ => false))).mono ?_); (case r0 => exact (HCELL.out _ HK.out).2.1); (case c0 => exact HLE.out.1); (case r1 => exact (HCELL.out _ HK.out).2.2.1); (case c1 => exact HLE.out.2.1); (case r2 => exact (HCON.out.2.2 _ HK.out).1); (case c2 => exact HCON.out.1); rintro e w4 ⟨v19, rfl, hr3, hb3⟩; obtain ⟨G, hG⟩ : ∃ G : (Nat → Bool) → Bool, G = fun y => if (sem ns' ma) y then (sem ns' mb) y else (fun _ => false) y := ⟨_, rfl⟩; have hr4 : Kd.R Kd.bool 4 w4 _ (fun _ => True) v19 (tab vars G) := (by rw [hG]; exact hr3); have HG : Aside0 (∀ y, G y = if (sem ns' ma) y then (sem ns' mb) y else (fun _ => false) y) := ⟨fun y => congrFun hG y⟩; clear hr3 hG; obtain ⟨A19, c19, e19⟩ := Kd.R_slice hr4; subst e19; have n1 := Aside0.mk (Kd.R_lower hr4 (Nat.le_trans HM.out.b.size HK.out.1)); have n2 := Aside0.mk (HP.out.below hb3); have n3 := Aside0.mk (HK.out.below hb3); clear hr4 hb3 HP HK; have HR3 := n1; have HP := n2; have HK := n3; clear n1 n2 n3))
                go_wp2_with fail
                go_meet
                case rel => exact ⟨HP.out.fin HR3.out (fun x => by rw [HG.out x]; cases sem ns' ma x <;> cases sem ns' mb x <;> rfl) (by unfold pp; omega) (by unfold pp; omega)⟩
              · by_cases hk3 : kd = 3
                · as_aux_lemma =>
                  subst hk3
                  have n0 := Aside0.mk (HM.out.below (Below.refl _ _).drew)
                  clear HM
                  have HM := n0
                  clear n0
                  obtain ⟨ad9', c9', ad10', c10', ma, Aa, ca, mb, Ab, cb, mc, Ac, cc, e9, e10, hm, hle, hcell⟩ := HM.out.at3 HR.out.1 HR.out.2.1 HR.out.2.2
                  obtain ⟨rfl, rfl⟩ : ad9 = ad9' ∧ c9 = c9' := by injection e9 with a b c; exact ⟨by injection a, c⟩
                  obtain ⟨rfl, rfl⟩ : ad10 = ad10' ∧ c10 = c10' := by injection e10 with a b c; exact ⟨by injection a, c⟩
                  have HCON := Aside0.mk HM.out.consts
                  have HCELL := Aside0.mk hcell
                  have HMM := Aside0.mk hm
                  have HLE := Aside0.mk hle
                  have HK := Aside0.mk (Kept.refl X.drew (setB w0 X.drew))
                  clear e9 e10 hm hle hcell
                  go_wp2_with fail
                  go_region_held3 (fun W => W.cell? (ad9.add ra) = some (.int .i64 (ma : Int)) ∧ W.cell? (ad9.add rb) = some (.int .i64 (mb : Int)) ∧ W.cell? (ad10.add ra) = some (.slice Aa (tab vars (sem ns' ma)).length ca) ∧ W.cell? (ad10.add rb) = some (.slice Ab (tab vars (sem ns' mb)).length cb)) (exact ⟨(HCELL.out _ HK.out).1.1, (HCELL.out _ HK.out).1.2.1, (HCELL.out _ HK.out).1.2.2.2.1, (HCELL.out _ HK.out).1.2.2.2.2.1⟩) (first | (go_at_call 24; (with_reducible refine Calls.mono (bdd_Or.calls ma mb g vars most _ _ full ns' w0 _ (Ms.bs HM.out) ⟨HMM.out.1, HMM.out.2.1⟩ HNB1.out) ?_); intro e w3 hr; have hk := hr.kept; obtain ⟨val, rfl, hp⟩ := HM.out.op hr; have HP := hp; have n1 := Aside0.mk hk; clear HK hr hk hp; have HK := n1; clear n1) | (go_at_call 29; (with_reducible refine (bautaref36_Ite.calls (2 ^ vars + 1) _ _ (tab vars (sem ns' ma)) _ _ (tab vars (fun _ => true)) _ _ (tab vars (sem ns' mb)) _ _ ?r0 ?c0 ?r1 ?c1 ?r2 ?c2 (Ite_f HV40.out (sem ns' ma) (fun _ => true) (sem ns' mb))).mono ?_); (case r0 => exact (HCELL.out _ HK.out).2.1); (case c0 => exact HLE.out.1); (case r1 => exact (HCON.out.2.2 _ HK.out).2); (case c1 => exact HCON.out.2.1); (case r2 => exact (HCELL.out _ HK.out).2.2.1); (case c2 => exact HLE.out.2.1); rintro e w4 ⟨v19, rfl, hr3, hb3⟩; obtain ⟨G, hG⟩ : ∃ G : (Nat → Bool) → Bool, G = fun y => if (sem ns' ma) y then (fun _ => true) y else (sem ns' mb) y := ⟨_, rfl⟩; have hr4 : Kd.R Kd.bool 4 w4 _ (fun _ => True) v19 (tab vars G) := (by rw [hG]; exact hr3); have HG : Aside0 (∀ y, G y = if (sem ns' ma) y then (fun _ => true) y else (sem ns' mb) y) := ⟨fun y => congrFun hG y⟩; clear hr3 hG; obtain ⟨A19, c19, e19⟩ := Kd.R_slice hr4; subst e19; have n1 := Aside0.mk (Kd.R_lower hr4 (Nat.le_trans HM.out.b.size HK.out.1)); have n2 := Aside0.mk (HP.out.below hb3); have n3 := Aside0.mk (HK.out.below hb3); clear hr4 hb3 HP HK; have HR3 := n1; have HP := n2; have HK := n3; clear n1 n2 n3))
                  go_wp2_with fail
                  go_meet
                  case rel => exact ⟨HP.out.fin HR3.out (fun x => by rw [HG.out x]; cases sem ns' ma x <;> cases sem ns' mb x <;> rfl) (by unfold pp; omega) (by unfold pp; omega)⟩
                · by_cases hk4 : kd = 4
                  · as_aux_lemma =>
                    subst hk4
                    have n0 := Aside0.mk (HM.out.below (Below.refl _ _).drew)
                    clear HM
                    have HM := n0
                    clear n0
                    obtain ⟨ad9', c9', ad10', c10', ma, Aa, ca, mb, Ab, cb, mc, Ac, cc, e9, e10, hm, hle, hcell⟩ := HM.out.at3 HR.out.1 HR.out.2.1 HR.out.2.2
                    obtain ⟨rfl, rfl⟩ : ad9 = ad9' ∧ c9 = c9' := by injection e9 with a b c; exact ⟨by injection a, c⟩
                    obtain ⟨rfl, rfl⟩ : ad10 = ad10' ∧ c10 = c10' := by injection e10 with a b c; exact ⟨by injection a, c⟩
                    have HCON := Aside0.mk HM.out.consts
                    have HCELL := Aside0.mk hcell
                    have HMM := Aside0.mk hm
                    have HLE := Aside0.mk hle
                    have HK := Aside0.mk (Kept.refl X.drew (setB w0 X.drew))
                    clear e9 e10 hm hle hcell
                    go_wp2_with fail
                    go_region_held3 (fun W => W.cell? (ad9.add ra) = some (.int .i64 (ma : Int)) ∧ W.cell? (ad9.add rb) = some (.int .i64 (mb : Int)) ∧ W.cell? (ad10.add ra) = some (.slice Aa (tab vars (sem ns' ma)).length ca) ∧ W.cell? (ad10.add rb) = some (.slice Ab (tab vars (sem ns' mb)).length cb)) (exact ⟨(HCELL.out _ HK.out).1.1, (HCELL.out _ HK.out).1.2.1, (HCELL.out _ HK.out).1.2.2.2.1, (HCELL.out _ HK.out).1.2.2.2.2.1⟩) (first | (go_at_call 25; (with_reducible refine Calls.mono (bdd_Xor.calls ma mb g vars most _ _ full ns' w0 _ (Ms.bs HM.out) ⟨HMM.out.1, HMM.out.2.1⟩ HNB2.out) ?_); intro e w3 hr; have hk := hr.kept; obtain ⟨val, rfl, hp⟩ := HM.out.op hr; have HP := hp; have n1 := Aside0.mk hk; clear HK hr hk hp; have HK := n1; clear n1) | (go_at_call 29; (with_reducible refine (bautaref36_Ite.calls (2 ^ vars + 1) _ _ (tab vars (sem ns' mb)) _ _ (tab vars (fun _ => false)) _ _ (tab vars (fun _ => true)) _ _ ?r0 ?c0 ?r1 ?c1 ?r2 ?c2 (Ite_f HV40.out (sem ns' mb) (fun _ => false) (fun _ => true))).mono ?_); (case r0 => exact (HCELL.out _ HK.out).2.2.1); (case c0 => exact HLE.out.2.1); (case r1 => exact (HCON.out.2.2 _ HK.out).1); (case c1 => exact HCON.out.1); (case r2 => exact (HCON.out.2.2 _ HK.out).2); (case c2 => exact HCON.out.2.1); rintro e w4 ⟨v19, rfl, hr3, hb3⟩; obtain ⟨GI, hG⟩ : ∃ G : (Nat → Bool) → Bool, G = fun y => if (sem ns' mb) y then (fun _ => false) y else (fun _ => true) y := ⟨_, rfl⟩; have hr4 : Kd.R Kd.bool 4 w4 _ (fun _ => True) v19 (tab vars GI) := (by rw [hG]; exact hr3); have HGI : Aside0 (∀ y, GI y = if (sem ns' mb) y then (fun _ => false) y else (fun _ => true) y) := ⟨fun y => congrFun hG y⟩; clear hr3 hG; obtain ⟨A19, c19, e19⟩ := Kd.R_slice hr4; subst e19; have n1 := Aside0.mk (Kd.R_lower hr4 (Nat.le_trans HM.out.b.size HK.out.1)); have n2 := Aside0.mk (HP.out.below hb3); have n3 := Aside0.mk (HK.out.below hb3); clear hr4 hb3 HP HK; have HR3 := n1; have HP := n2; have HK := n3; clear n1 n2 n3) | (go_at_call 29; (with_reducible refine (bautaref36_Ite.calls (2 ^ vars + 1) _ _ (tab vars (sem ns' ma)) _ _ (tab vars (GI)) _ _ (tab vars (sem ns' mb)) _ _ ?r0 ?c0 ?r1 ?c1 ?r2 ?c2 (Ite_f HV40.out (sem ns' ma) (GI) (sem ns' mb))).mono ?_); (case r0 => exact (HCELL.out _ HK.out).2.1); (case c0 => exact HLE.out.1); (case r1 => exact (Kd.R_reads' HR3.out).2.2); (case c1 => exact (Kd.R_reads' HR3.out).2.1); (case r2 => exact (HCELL.out _ HK.out).2.2.1); (case c2 => exact HLE.out.2.1); rintro e w4 ⟨v19, rfl, hr3, hb3⟩; obtain ⟨G, hG⟩ : ∃ G : (Nat → Bool) → Bool, G = fun y => if (sem ns' ma) y then (GI) y else (sem ns' mb) y := ⟨_, rfl⟩; have hr4 : Kd.R Kd.bool 4 w4 _ (fun _ => True) v19 (tab vars G) := (by rw [hG]; exact hr3); have HG : Aside0 (∀ y, G y = if (sem ns' ma) y then (GI) y else (sem ns' mb) y) := ⟨fun y => congrFun hG y⟩; clear hr3 hG; obtain ⟨A19, c19, e19⟩ := Kd.R_slice hr4; subst e19; have n1 := Aside0.mk (Kd.R_lower hr4 (Nat.le_trans HM.out.b.size HK.out.1)); have n2 := Aside0.mk (HP.out.below hb3); have n3 := Aside0.mk (HK.out.below hb3); clear hr4 hb3 HP HK; have HR3 := n1; have HP := n2; have HK := n3; clear n1 n2 n3))
                    go_wp2_with fail
                    go_meet
                    case rel => exact ⟨HP.out.fin HR3.out (fun x => by rw [HG.out x]; rw [HGI.out x]; cases sem ns' ma x <;> cases sem ns' mb x <;> rfl) (by unfold pp; omega) (by unfold pp; omega)⟩
                  · as_aux_lemma =>
                    have s0 : (kd == 0) = false := by rw [beq_eq_false_iff_ne]; exact hk0
                    have s1 : (kd == 1) = false := by rw [beq_eq_false_iff_ne]; exact hk1
                    have s2 : (kd == 2) = false := by rw [beq_eq_false_iff_ne]; exact hk2
                    have s3 : (kd == 3) = false := by rw [beq_eq_false_iff_ne]; exact hk3
                    have s4 : (kd == 4) = false := by rw [beq_eq_false_iff_ne]; exact hk4
                    have d0 : (kd = 0) = False := eq_false hk0
                    have d1 : (kd = 1) = False := eq_false hk1
                    have d2 : (kd = 2) = False := eq_false hk2
                    have d3 : (kd = 3) = False := eq_false hk3
                    have d4 : (kd = 4) = False := eq_false hk4
                    clear hk0 hk1 hk2 hk3 hk4
                    have n0 := Aside0.mk (HM.out.below (Below.refl _ _).drew)
                    clear HM
                    have HM := n0
                    clear n0
                    obtain ⟨ad9', c9', ad10', c10', ma, Aa, ca, mb, Ab, cb, mc, Ac, cc, e9, e10, hm, hle, hcell⟩ := HM.out.at3 HR.out.1 HR.out.2.1 HR.out.2.2
                    obtain ⟨rfl, rfl⟩ : ad9 = ad9' ∧ c9 = c9' := by injection e9 with a b c; exact ⟨by injection a, c⟩
                    obtain ⟨rfl, rfl⟩ : ad10 = ad10' ∧ c10 = c10' := by injection e10 with a b c; exact ⟨by injection a, c⟩
                    have HCON := Aside0.mk HM.out.consts
                    have HCELL := Aside0.mk hcell
                    have HMM := Aside0.mk hm
                    have HLE := Aside0.mk hle
                    have HK := Aside0.mk (Kept.refl X.drew (setB w0 X.drew))
                    clear e9 e10 hm hle hcell
                    go_wp2_with fail
                    go_region_held3 (fun W => W.cell? (ad9.add ra) = some (.int .i64 (ma : Int)) ∧ W.cell? (ad9.add rb) = some (.int .i64 (mb : Int)) ∧ W.cell? (ad9.add rc) = some (.int .i64 (mc : Int)) ∧ W.cell? (ad10.add ra) = some (.slice Aa (tab vars (sem ns' ma)).length ca) ∧ W.cell? (ad10.add rb) = some (.slice Ab (tab vars (sem ns' mb)).length cb) ∧ W.cell? (ad10.add rc) = some (.slice Ac (tab vars (sem ns' mc)).length cc)) (exact ⟨(HCELL.out _ HK.out).1.1, (HCELL.out _ HK.out).1.2.1, (HCELL.out _ HK.out).1.2.2.1, (HCELL.out _ HK.out).1.2.2.2.1, (HCELL.out _ HK.out).1.2.2.2.2.1, (HCELL.out _ HK.out).1.2.2.2.2.2⟩) (first | (go_at_call 22; (with_reducible refine Calls.mono (bdd_Ite.calls ma mb mc g vars most _ _ full ns' w0 _ (Ms.bs HM.out) HMM.out HNB1.out) ?_); intro e w3 hr; have hk := hr.kept; obtain ⟨val, rfl, hp⟩ := HM.out.op hr; have HP := hp; have n1 := Aside0.mk hk; clear HK hr hk hp; have HK := n1; clear n1) | (go_at_call 29; (with_reducible refine (bautaref36_Ite.calls (2 ^ vars + 1) _ _ (tab vars (sem ns' ma)) _ _ (tab vars (sem ns' mb)) _ _ (tab vars (sem ns' mc)) _ _ ?r0 ?c0 ?r1 ?c1 ?r2 ?c2 (Ite_f HV40.out (sem ns' ma) (sem ns' mb) (sem ns' mc))).mono ?_); (case r0 => exact (HCELL.out _ HK.out).2.1); (case c0 => exact HLE.out.1); (case r1 => exact (HCELL.out _ HK.out).2.2.1); (case c1 => exact HLE.out.2.1); (case r2 => exact (HCELL.out _ HK.out).2.2.2); (case c2 => exact HLE.out.2.2); rintro e w4 ⟨v19, rfl, hr3, hb3⟩; obtain ⟨G, hG⟩ : ∃ G : (Nat → Bool) → Bool, G = fun y => if (sem ns' ma) y then (sem ns' mb) y else (sem ns' mc) y := ⟨_, rfl⟩; have hr4 : Kd.R Kd.bool 4 w4 _ (fun _ => True) v19 (tab vars G) := (by rw [hG]; exact hr3); have HG : Aside0 (∀ y, G y = if (sem ns' ma) y then (sem ns' mb) y else (sem ns' mc) y) := ⟨fun y => congrFun hG y⟩; clear hr3 hG; obtain ⟨A19, c19, e19⟩ := Kd.R_slice hr4; subst e19; have n1 := Aside0.mk (Kd.R_lower hr4 (Nat.le_trans HM.out.b.size HK.out.1)); have n2 := Aside0.mk (HP.out.below hb3); have n3 := Aside0.mk (HK.out.below hb3); clear hr4 hb3 HP HK; have HR3 := n1; have HP := n2; have HK := n3; clear n1 n2 n3))
                    go_wp2_with fail
                    go_meet
                    case rel => exact ⟨HP.out.fin HR3.out (fun x => by rw [HG.out x]; skip) (by unfold pp; omega) (by unfold pp; omega)⟩

        case rest =>
          obtain ⟨dd, hdl, hc⟩ := hcut.out
          clear hcut HM HBX
          rcases hc with ⟨m, rfl, hm, hr, hM⟩ | ⟨rfl, hm, hM⟩
          · as_aux_lemma =>
            obtain ⟨A19, c19, e19⟩ := Kd.R_slice hr
            subst e19
            have HM := Aside0.mk hM
            have HR19 := Aside0.mk hr
            have HMM := Aside0.mk (And.intro hm hdl)
            have q0 : ((m : Int) < 0) = False := eq_false (by omega)
            clear hr hM hm hdl
            go_wp2_with (first | ((with_reducible refine gate_builtin (b := .append) (xs := #[.tmp 211, .tmp 213]) rfl ?_); at_builtin; refine Kd.R_append (Kd.int .i64) (w0 := w0) w0.heap.size rfl (.tmp 211) (.tmp 213) 25 3 (.int .i64 0) 8 rfl Try.underlying25 info3 rfl (by decide) (by omega) (.slice (some ad9) ids.length c9) (ids.map (fun i : Nat => (i : Int))) (m : Int) [.int .i64 (m : Int)] (fun _ => True) (fun _ => False) rfl rfl ?aP (fun _ hk => hk.elim) (fun _ _ => trivial) ?aO ?aB ?aS ?aL ?_; (case aP => exact rfl); (case aO => exact HM.out.n); (case aB => exact HM.out.b); (case aS => exact HM.out.b.size); (case aL => have := HK.out; rw [List.length_map]; omega); intro v1 w5 ho1 hb1 hg1 hat1; obtain ⟨A1, k1, e1⟩ := Kd.R_slice ho1; subst e1; have N1 := Aside0.mk ho1; have B1 := Aside0.mk hb1; have S1 := Aside0.mk (HM.out.app9 HR19.out hg1); clear ho1 hb1 hg1 hat1) | ((with_reducible refine gate_builtin (b := .append) (xs := #[.tmp 215, .tmp 217]) rfl ?_); at_builtin; refine Kd.R_append (Kd.slice 4 Kd.bool) (w0 := w0) w0.heap.size rfl (.tmp 215) (.tmp 217) 26 31 (.slice none 0 0) 24 rfl Try.underlying26 info31 rfl (by decide) (by omega) (.slice (some ad10) ids.length c10) (ids.map (fun i => tab vars (sem (ns' ++ dd) i))) (tab vars (sem (ns' ++ dd) m)) [.slice A19 (tab vars (sem (ns' ++ dd) m)).length c19] (fun _ => True) (fun k => True ∧ some k ≠ (Value.slice (some ad10) ids.length c10).ownBlock) rfl rfl ?bP (fun _ hk => hk) (fun _ _ => trivial) ?bO ?bB ?bS ?bL ?_; (case bP => exact ⟨_, rfl, Kd.R_apart' S1.out.2.2.2.2 (Kd.R_typed S1.out.2.1) (by decide)⟩); (case bO => exact S1.out.2.1); (case bB => exact B1.out); (case bS => exact B1.out.size); (case bL => have := HK.out; rw [List.length_map]; omega); intro v2 w6 ho2 hb2 hg2 hat2; have HMN := Aside0.mk (Ms.more HM.out.l HMM.out.1 S1.out N1.out hb2 ho2 hg2); clear ho2 hb2 hg2 hat2))
            go_roundg (gk - 1)
            case measure => have := HK.out; have := HI.out; omega
            case rel => exact ⟨i + 1, ids ++ [m], ns' ++ dd, congrArg (Value.int .i64) hw1.out, ⟨by have := HK.out; have := HI.out; have := HMM.out.2; have := Nat.add_mul i 1 (pp vars); rw [List.length_append, List.length_singleton]; omega⟩, ⟨by have h := HMN.out; rw [HPM.out, List.length_append, List.length_map, List.length_singleton] at h; exact h⟩⟩
          · as_aux_lemma =>
            have HM := Aside0.mk hM
            have HMM := Aside0.mk (And.intro hm hdl)
            clear hM hm hdl
            go_wp2_with (first | (go_at_call 9; (with_reducible refine (bdd_Full.calls g vars most _ _ true (ns' ++ dd) w0 _ (Ms.bs HM.out)).mono ?_); rintro e w5 ⟨rfl, e5⟩; have e6 := e5.symm; subst e6; clear e5))
            go_ret3
            exact ⟨_, _, _, _, ids, ns' ++ dd, true, rfl, ⟨HM.out.mono (by have := HK.out; have := HI.out; have := HPM.out; have := Nat.mul_le_mul_right (pp vars) (show i + 1 ≤ 40 by omega); omega)⟩, ⟨HK.out.2.2.2.2.1, by have := HK.out; omega, by have := HK.out; have := HI.out; have := HMM.out.2; have := HPM.out; have := Nat.mul_le_mul_right (pp vars) (show i + 1 ≤ 40 by omega); omega, .inr HMM.out.1⟩⟩


    · have HI := Aside0.mk hi
      have hfin : Aside0 (Ms w0 wr g vars most full ns' (nb + 40 * pp vars) u9 u10 (.slice A11 (tab vars (fun _ => false)).length c11) (.slice A12 (tab vars (fun _ => true)).length c12) ids) := ⟨HM.out.mono (by have := HK.out; have := Nat.mul_le_mul_right (pp vars) HK.out.2.2.1; omega)⟩
      by_cases h40 : i < l.length
      · have q6 : decide ((i : Int) < (l.length : Int)) = true := decide_eq_true (by omega)
        have q7 : decide ((i : Int) < 40) = false := decide_eq_false (by omega)
        have q8 : ((i : Int) < (l.length : Int)) = True := eq_true (by omega)
        have q9 : ((i : Int) < 40) = False := eq_false (by omega)
        clear hi h40
        go_wp2_with fail
        go_ret3
        exact ⟨u9, u10, _, _, ids, ns', full, rfl, hfin, ⟨HK.out.2.2.2.2.1, by have := HK.out; omega, by have := HK.out; have := Nat.mul_le_mul_right (pp vars) HK.out.2.2.1; omega, .inl rfl⟩⟩
      · have q6 : decide ((i : Int) < (l.length : Int)) = false := decide_eq_false (by omega)
        have q8 : ((i : Int) < (l.length : Int)) = False := eq_false (by omega)
        clear hi h40
        go_wp2_with fail
        go_ret3
        exact ⟨u9, u10, _, _, ids, ns', full, rfl, hfin, ⟨HK.out.2.2.2.2.1, by have := HK.out; omega, by have := HK.out; have := Nat.mul_le_mul_right (pp vars) HK.out.2.2.1; omega, .inl rfl⟩⟩
end Go.Proofs.Ytialbhkamlfccaa.PA
