/- The reference's reader of cells: what its list comes to. No condition but the hypotheses that each theorem states. -/
import Derived.Test.YtimhllaahihhgaaRN
namespace Go.Proofs.Ytimhllaahihhgaa.PA
open Go.RowKit Go.Proofs.YtimhllaahihhgaaW.PrintWords Go.Proofs.YtimhllaahihhgaaW.PrintLast Go.Proofs.YtimhllaahihhgaaW.PrintMore
set_option linter.unusedVariables false
set_option linter.unusedSimpArgs false
/-- So many cells, read as the reference reads them. -/
def cellsP : Nat → List S26 → List Int → Bool → List S26 × List Int × Bool
  | 0, out, bs, sh => (out, bs, sh)
  | n + 1, out, bs, sh =>
    if sh = true then (out, bs, sh) else
    if (takeB (octN bs sh) (takeB 1 bs sh).2.1 (takeB 1 bs sh).2.2).2.2 = true then (out, (takeB 1 bs sh).2.1, true) else
    cellsP n (out ++ [⟨strOfNums (takeB (octN bs sh) (takeB 1 bs sh).2.1 (takeB 1 bs sh).2.2).1, num4 (takeB 4 (takeB (octN bs sh) (takeB 1 bs sh).2.1 (takeB 1 bs sh).2.2).2.1 false).1⟩])
      (takeB 4 (takeB (octN bs sh) (takeB 1 bs sh).2.1 (takeB 1 bs sh).2.2).2.1 false).2.1
      (takeB 4 (takeB (octN bs sh) (takeB 1 bs sh).2.1 (takeB 1 bs sh).2.2).2.1 false).2.2
def listP (bs : List Int) (sh : Bool) : List S26 × List Int × Bool := cellsP (octN bs sh) [] (takeB 1 bs sh).2.1 (takeB 1 bs sh).2.2
theorem cellsP_short (n : Nat) (out : List S26) (bs : List Int) : cellsP n out bs true = (out, bs, true) := by cases n <;> simp [cellsP]
theorem octN_numV {bs : List Int} {sh : Bool} (h : Bytes bs) : numV 1 (takeB 1 bs sh).1 = (octN bs sh : Int) ∧ octN bs sh < 256 := by
  have h1 := rd_bytes (takeB_bytes (n := 1) (sh := sh) h).1 0
  unfold octN numV
  rw [if_pos rfl]
  omega
theorem R_kept1.calls (n : Nat) (g : Nat) (B bs : List Int) (sh : Bool) (w0 w : World) (hI : RS w0 w g B bs sh) (hBe : Below w0.heap.size w0 w) (hB : Bytes B) (hl : B.length < 4611686018427387904) (hn : n = 1 ∨ n = 2 ∨ n = 4)
    {D : List Int} {b1 : List Int} {s1 : Bool} (e : takeB n bs sh = (D, b1, s1)) :
    Calls Try.prog 29 #[.pointer (some ⟨g, 0, none⟩), .int .i64 (n : Int)] w fun e w' => e = .returned (.int .i64 (numV n D)) ∧ RS w0 w' g B b1 s1 ∧ Kept w w' (fun k => k = g) ∧ Below w0.heap.size w0 w' := by
  refine (R_num.calls n g B bs sh w0 w hI hBe hB hl hn).mono ?_
  rintro e' w1 ⟨rfl, h1, h2, h3⟩
  rw [e] at h1 ⊢
  exact ⟨rfl, h1, (Kept.refl w _).of_keep h3 (.inl rfl), h2⟩
theorem RS.bytes {w0 w : World} {g : Nat} {B bs : List Int} {sh : Bool} (h : RS w0 w g B bs sh) (hB : Bytes B) : Bytes bs := by obtain ⟨a, _, rfl, _⟩ := h; exact hB.drop a
theorem RS.grown' {w0 W W1 : World} {N base g e : Nat} {B bs : List Int} {sh : Bool} {v : Value} {xs : List S26} (h : RS w0 W g B bs sh) (ho : Kd.R k26 e W base (fun k => N ≤ k) v xs) (hg : W.grownBy W1 v.ownBlock) (hb : g < N) : RS w0 W1 g B bs sh :=
  h.grown hg (fun e => by have := ho.1 g e.symm; omega)
theorem Kept_grown' {w W W1 : World} {N base e g : Nat} {v : Value} {xs : List S26} (h : Kept w W (fun k => k = g)) (ho : Kd.R k26 e W base (fun k => w.heap.size ≤ k) v xs) (hg : W.grownBy W1 v.ownBlock) : Kept w W1 (fun k => k = g) := Kept_grown (N := N) h ho hg
theorem slice29 (A : Option Addr) (len c lo m : Nat) (h1 : lo ≤ m) (h2 : m ≤ c) (W : World) : (Instr.sliceAt 29 (.slice A len c) (some (.int .i64 (lo : Int))) (some (.int .i64 (m : Int))) none).run Try.prog W = .ok (.slice (if c = lo then A else A.map (·.add (lo * 1))) (m - lo) (c - lo)) W := by
  rw [run_sliceAt_slice _ _ _ _ _ _ Try.underlying29, run_slice_lh _ _ _ _ _ Try.underlying29 _ _ _ _ (by omega) (by omega) (by omega)]
  have hs : (sizeOf (Try.prog.elem 29)).run Try.prog W = .ok 1 W := rfl
  rw [hs]
  simp [Result.andThen, sliced]
theorem R26_drewN {W : World} {base : Nat} {ok : Nat → Prop} {v : Value} {xs : List S26} (h : Kd.R k26 26 W base ok v xs) (n : Nat) : Kd.R k26 26 (W.drewN n) base ok v xs := h
theorem R_empty26 (W : World) : Kd.R k26 26 (W.alloc (.cells #[] 26)) W.heap.size (fun k => W.heap.size ≤ k) (.slice (some ⟨W.heap.size, 0, none⟩) 0 0) [] :=
  ⟨fun k hk => by have : W.heap.size = k := (by simpa [Value.ownBlock] using hk); omega, [], World.ownsRow_lit (base := W.heap.size) (e := 26) (size := k26.sz) W #[] 0 (Nat.le_refl _) (by decide) rfl, Reps.none _ _⟩
set_option maxHeartbeats 8000000 in
set_option maxRecDepth 100000 in
theorem R_list.calls (g : Nat) (B bs : List Int) (sh : Bool) (w0 w : World) (hI : RS w0 w g B bs sh) (hBe : Below w0.heap.size w0 w) (hg : w0.heap.size ≤ g) (hB : Bytes B) (hl : B.length < 4611686018427387904) :
    Calls Try.prog 30 #[.pointer (some ⟨g, 0, none⟩)] w fun e w' => ∃ v, e = .returned v ∧ Kd.R k26 26 w' w0.heap.size (fun k => w.heap.size ≤ k) v (listP bs sh).1 ∧ RS w0 w' g B (listP bs sh).2.1 (listP bs sh).2.2 ∧ Kept w w' (fun k => k = g) ∧ Below w0.heap.size w0 w' := by
  have HB := Aside0.mk hBe
  have Hg := Aside0.mk hg
  have Hgw := Aside0.mk (show g < w.heap.size by obtain ⟨a, _, _, h1⟩ := hI; exact h1.lt)
  have HK := Aside0.mk (Kept.refl w (fun k => k = g))
  have HBS0 := hI.bytes hB
  have HE := Aside0.mk (octN_numV (sh := sh) HBS0).1
  have HC0 := Aside0.mk (octN_numV (sh := sh) HBS0).2
  have HR := Aside0.mk hI
  have HBY := Aside0.mk hB
  have HL := Aside0.mk hl
  obtain ⟨D1, b1, s1, e1⟩ : ∃ D b s, takeB 1 bs sh = (D, b, s) := ⟨_, _, _, rfl⟩
  have HF := Aside0.mk (show cellsP (octN bs sh) [] b1 s1 = listP bs sh by unfold listP; rw [e1])
  obtain ⟨F, hF⟩ : ∃ F, F = listP bs sh := ⟨_, rfl⟩
  rw [← hF] at HF ⊢
  rw [e1] at HE
  replace e1 := Aside0.mk e1
  clear hBe hg hI hB hl hF HBS0
  go_enter Try.func30, Try.ntmps30
  go_wp2_with (first | (go_at_call 29; refine (R_kept1.calls 1 g B bs sh w0 _ (RS.alloc HR.out _) (below_alloc HB.out _) HBY.out HL.out (.inl rfl) e1.out).mono ?_; rintro e w1 ⟨rfl, hR1, hK1, hB1⟩; have n1 := Aside0.mk ((HK.out.alloc _).then_ hK1 (fun k hk => .inl hk)); have n2 := Aside0.mk hR1; have n3 := Aside0.mk hB1; have n4 := Aside0.mk (show Kd.R k26 26 w1 w0.heap.size (fun k => w.heap.size ≤ k) (.slice (some ⟨w.heap.size, 0, none⟩) 0 0) [] from Kd.R_step (Kd.R_lower (R_empty26 w) HB.out.size) (fun k hk hlt => hK1.2 k hlt (fun e => by have := Hgw.out; omega))); clear HK HR HB hK1 hR1 hB1; have HK := n1; have HR := n2; have HB := n3; have HO := n4; clear n1 n2 n3 n4; rw [HE.out]))
  obtain ⟨c0, hc0⟩ : ∃ c0, c0 = octN bs sh := ⟨_, rfl⟩
  rw [← hc0] at HC0 HF ⊢
  clear HE hc0 e1
  go_loopg [3, 5] (c0 + 1) (fun kq v3 v5 w' => ∃ (i : Nat) (out : List S26) (bs1 : List Int) (sh1 : Bool), v5 = .int .i64 (i : Int) ∧ Aside0 (i + kq = c0 + 1 ∧ i ≤ c0) ∧ Aside0 (out.length = i) ∧ Aside0 (cellsP (c0 - i) out bs1 sh1 = F) ∧ Aside0 (Kd.R k26 26 w' w0.heap.size (fun k => w.heap.size ≤ k) v3 out) ∧ Aside0 (RS w0 w' g B bs1 sh1) ∧ Aside0 (Kept w w' (fun k => k = g)) ∧ Aside0 (Below w0.heap.size w0 w'))
  case atStart => exact ⟨0, [], _, _, rfl, ⟨Nat.zero_add _, Nat.zero_le _⟩, ⟨rfl⟩, HF, HO, HR, HK, HB⟩
  case round =>
    clear HB HR HK HF HO
    obtain ⟨i, out, bs1, sh1, rfl, HG, HLEN, HF, HO, HR, HK, HB⟩ := hrel
    have HBS := HR.out.bytes HBY.out
    have HE2 := Aside0.mk (octN_numV (sh := sh1) HBS).1
    have HE3 := Aside0.mk (octN_numV (sh := sh1) HBS).2
    by_cases hi : i < c0
    · have q1 : ((i : Int) < (c0 : Int)) = True := eq_true (by omega)
      have q2 : decide ((i : Int) < (c0 : Int)) = true := decide_eq_true (by omega)
      have HI := Aside0.mk hi
      have HF2 := HF.out
      rw [show c0 - i = (c0 - (i + 1)) + 1 by omega] at HF2
      clear HF hi
      cases sh1 with
      | true =>
        rw [cellsP_short] at HF2
        subst HF2
        obtain ⟨a1, ha1, hd1, A0, cc, HG2, hg2, hC2⟩ := HR.out
        have z0 := cellX_0 HG2
        have z1 := cellX_1 HG2
        have z2 := cellX_2 HG2
        clear HG2 hd1 ha1 hg2 hC2
        go_wp2_with fail
        go_ret
        exact ⟨_, rfl, HO.out, HR.out, HK.out, HB.out⟩
      | false =>
        have HF3 := HF2
        clear HF2
        rw [cellsP, if_neg (by decide)] at HF3
        obtain ⟨D1, b1, s1, e1⟩ : ∃ D b s, takeB 1 bs1 false = (D, b, s) := ⟨_, _, _, rfl⟩
        rw [e1] at HF3 HE2
        obtain ⟨k, hk⟩ : ∃ k, k = octN bs1 false := ⟨_, rfl⟩
        rw [← hk] at HF3 HE2 HE3
        simp only at HF3
        obtain ⟨a0, ha0, hd0, A00, cc0, HG0, hg0, hC0⟩ := HR.out
        have y0 := cellX_0 HG0
        have y1 := cellX_1 HG0
        have y2 := cellX_2 HG0
        clear HG0 hg0 hC0
        replace ha0 := Aside0.mk ha0
        replace e1 := Aside0.mk e1
        have HR0 := HR
        cases s1 with
        | true =>
          have hk0 : k = 0 := by
            have h1 := e1.out
            unfold takeB at h1
            split at h1
            · rw [hk]; unfold octN takeB; rename_i hq; rw [if_pos hq]; rfl
            · simp at h1
          subst hk0
          rw [if_pos (by simp [takeB])] at HF3
          subst HF3
          clear hk
          go_wp2_with (first | (go_at_call 29; refine (R_kept1.calls 1 g B _ _ w0 _ HR.out HB.out HBY.out HL.out (.inl rfl) e1.out).mono ?_; rintro e w1 ⟨rfl, hR1, hK1, hB1⟩; obtain ⟨a1, ha1, hd1, A1, c1, HG1, hg1, hC1⟩ := hR1; have z0 := cellX_0 HG1; have z1 := cellX_1 HG1; have z2 := cellX_2 HG1; have hw : wrap64 ((B.length : Int) - (a1 : Int)) = ((B.length - a1 : Nat) : Int) := (by rw [wrap64_in' _ (by have := HL.out; omega)]; omega); have hw2 : IntKind.i64.wrap ((B.length : Int) - (a1 : Int)) = ((B.length - a1 : Nat) : Int) := (i64_w _).trans hw; have hn1 : ¬ (((B.length - a1 : Nat) : Int) < 0) := (by omega); have n1 := Aside0.mk (HK.out.then_ hK1 (fun k hk => .inl hk)); have n2 := Aside0.mk (show RS w0 w1 g B _ true from ⟨a1, ha1, hd1, A1, c1, HG1, hg1, hC1⟩); have n3 := Aside0.mk hB1; have n4 := Aside0.mk (R_keptb HO.out hK1 Hgw.out); clear HK HR HB HO hK1 hB1 HG1 hg1 hC1 ha1 hd1; have HK := n1; have HR := n2; have HB := n3; have HO := n4; clear n1 n2 n3 n4; rw [HE2.out]))
          repeat (go_quiet (fail); try go_wp2_with fail)
          go_ret
          exact ⟨_, rfl, HO.out, HR.out, HK.out, pw_below_drewN HB.out _⟩
        | false =>
          by_cases hkl : b1.length < k
          · have et : takeB k b1 false = (List.replicate k 0, b1, true) := by unfold takeB; rw [if_pos (.inr hkl)]
            rw [et, if_pos rfl] at HF3
            subst HF3
            have hkl2 := Aside0.mk hkl
            clear hk hkl et
            go_wp2_with (first | (go_at_call 29; refine (R_kept1.calls 1 g B _ _ w0 _ HR.out HB.out HBY.out HL.out (.inl rfl) e1.out).mono ?_; rintro e w1 ⟨rfl, hR1, hK1, hB1⟩; obtain ⟨a1, ha1, hd1, A1, c1, HG1, hg1, hC1⟩ := hR1; have z0 := cellX_0 HG1; have z1 := cellX_1 HG1; have z2 := cellX_2 HG1; have hw : wrap64 ((B.length : Int) - (a1 : Int)) = ((B.length - a1 : Nat) : Int) := (by rw [wrap64_in' _ (by have := HL.out; omega)]; omega); have hw2 : IntKind.i64.wrap ((B.length : Int) - (a1 : Int)) = ((B.length - a1 : Nat) : Int) := (i64_w _).trans hw; have hrt := Aside0.mk (show ∀ W, IsX w0 W g B (a1 : Int) true → RS w0 W g B b1 true from fun W h => ⟨a1, ha1, hd1, h⟩); have hx1 := Aside0.mk (show IsX w0 w1 g B (a1 : Int) false from ⟨A1, c1, HG1, hg1, hC1⟩); have fz2 := blk_frozen HG1 2; have n1 := Aside0.mk (HK.out.then_ hK1 (fun k hk => .inl hk)); have n2 := Aside0.mk (show RS w0 w1 g B _ false from ⟨a1, ha1, hd1, A1, c1, HG1, hg1, hC1⟩); have n3 := Aside0.mk hB1; have n4 := Aside0.mk (R_keptb HO.out hK1 Hgw.out); have hd1_ := hd1; clear HK HR HB HO hK1 hB1 HG1 hg1 hC1 ha1 hd1; have HK := n1; have HR := n2; have HB := n3; have HO := n4; clear n1 n2 n3 n4; have hq : (((B.length - a1 : Nat) : Int) < (k : Int)) = True := eq_true (by have h1 := hkl2.out; rw [hd1_, List.length_drop] at h1; omega); have hqd : decide (((B.length - a1 : Nat) : Int) < (k : Int)) = true := decide_eq_true (by have h1 := hkl2.out; rw [hd1_, List.length_drop] at h1; omega); clear hd1_; rw [HE2.out]))
            repeat (go_quiet (fail); try go_wp2_with fail)
            go_ret
            exact ⟨_, rfl, Kd.R_far (R26_drewN HO.out _) (p := ⟨g, 2, none⟩) (fun k hk => show k ≠ g by have := Hgw.out; omega) (.bool true), hrt.out _ ((hx1.out.drewN _).set_2 true), (HK.out.drewN _).setCell (.inl rfl) _, below_set (pw_below_drewN HB.out _) Hg.out⟩
          · have et : takeB k b1 false = (b1.take k, b1.drop k, false) := by unfold takeB; rw [if_neg (fun h => h.elim (by decide) hkl)]
            rw [et, if_neg Bool.false_ne_true] at HF3
            obtain ⟨D4, b4, s4, e4⟩ : ∃ D b s, takeB 4 (b1.drop k) false = (D, b, s) := ⟨_, _, _, rfl⟩
            simp only [e4] at HF3
            have hB0 := Aside0.mk (show 0 < B.length by
              have h1 := e1.out
              unfold takeB at h1
              split at h1
              · simp at h1
              · rename_i hq
                have h2 : ¬ bs1.length < 1 := fun h => hq (.inr h)
                rw [hd0, List.length_drop] at h2
                omega)
            have hkl2 := Aside0.mk hkl
            obtain ⟨S1, hS1⟩ : ∃ S1, S1 = strOfNums (b1.take k) := ⟨_, rfl⟩
            rw [← hS1] at HF3
            replace hS1 := Aside0.mk hS1
            replace HF3 := Aside0.mk HF3
            replace e4 := Aside0.mk e4
            clear hkl et hk hd0
            go_wp2_with (first | (go_at_call 29; (refine (R_kept1.calls 1 g B _ _ w0 _ HR.out HB.out HBY.out HL.out (.inl rfl) e1.out).mono ?_; rintro e w1 ⟨rfl, hR1, hK1, hB1⟩; obtain ⟨a1, ha1, hd1, A1, c1, HG1, hg1, hC1⟩ := hR1; obtain ⟨ad, eA, _⟩ := hC1.2.2 hB0.out; subst eA; have z0 := cellX_0 HG1; have z1 := cellX_1 HG1; have z2 := cellX_2 HG1; have hw : wrap64 ((B.length : Int) - (a1 : Int)) = ((B.length - a1 : Nat) : Int) := (by rw [wrap64_in' _ (by have := HL.out; omega)]; omega); have hw2 : IntKind.i64.wrap ((B.length : Int) - (a1 : Int)) = ((B.length - a1 : Nat) : Int) := (i64_w _).trans hw; have hrt := Aside0.mk (show ∀ W, IsX w0 W g B ((a1 + k : Nat) : Int) false → RS w0 W g B (b1.drop k) false from fun W h => ⟨a1 + k, by have h1 := hkl2.out; rw [hd1, List.length_drop] at h1; omega, by rw [hd1, List.drop_drop], h⟩); have hx1 := Aside0.mk (show IsX w0 w1 g B (a1 : Int) false from ⟨some ad, c1, HG1, hg1, hC1⟩); have fz1 := blk_frozen HG1 1; have HG1_ := Aside0.mk HG1; have hC1_ := Aside0.mk hC1; have hg1_ := Aside0.mk hg1; have hd1_ := Aside0.mk hd1; have ha1_ := Aside0.mk ha1; have hka := Aside0.mk (show a1 + k ≤ B.length by have h1 := hkl2.out; rw [hd1, List.length_drop] at h1; omega); have n1 := Aside0.mk (HK.out.then_ hK1 (fun k hk => .inl hk)); have n2 := Aside0.mk (show RS w0 w1 g B _ false from ⟨a1, ha1, hd1, some ad, c1, HG1, hg1, hC1⟩); have n3 := Aside0.mk hB1; have n4 := Aside0.mk (R_keptb HO.out hK1 Hgw.out); clear HK HR HB HO hK1 hB1 HG1 hg1 hC1 ha1 hd1; have HK := n1; have HR := n2; have HB := n3; have HO := n4; clear n1 n2 n3 n4; have hq : (((B.length - a1 : Nat) : Int) < (k : Int)) = False := eq_false (by have h1 := hkl2.out; have h3 := hka.out; omega); have hqd : decide (((B.length - a1 : Nat) : Int) < (k : Int)) = false := decide_eq_false (by have h1 := hkl2.out; have h3 := hka.out; omega); rw [HE2.out])))
            repeat (go_quiet (fail); try go_wp2_with fail)
            obtain ⟨m, hm⟩ : ∃ m, m = a1 + k := ⟨_, rfl⟩
            have hwk : wrap64 ((a1 : Int) + (k : Int)) = (m : Int) := by rw [wrap64_in' _ (by have := HL.out; have := hka.out; omega)]; omega
            have hwk2 : IntKind.i64.wrap ((a1 : Int) + (k : Int)) = (m : Int) := (i64_w _).trans hwk
            have QB := Aside0.mk (show a1 + k ≤ c1 from Nat.le_trans hka.out hg1_.out.2)
            have qa2 : ((m : Int) ≤ (c1 : Int)) = True := eq_true (by have := QB.out; omega)
            have qb2 : ((a1 : Int) ≤ (m : Int)) = True := eq_true (by omega)
            have qc2 : (a1 ≤ m) = True := eq_true (by omega)
            have qd2 : (m ≤ c1) = True := eq_true (by have := QB.out; omega)
            have qe2 : m - a1 = k := by omega
            have hrt2 := Aside0.mk (show ∀ W, IsX w0 W g B (m : Int) false → RS w0 W g B (b1.drop k) false by rw [hm]; exact hrt.out)
            replace hm := Aside0.mk hm
            have HCut := Aside0.mk (Kd.C_drop hC1_.out ha1_.out hg1_.out.2)
            have hz : ∀ W, Below w1.heap.size w1 W → W.cell? ⟨g, 0, none⟩ = some (.slice (some ad) B.length c1) ∧ W.cell? ⟨g, 1, none⟩ = some (.int .i64 (a1 : Int)) := fun W hb => ⟨keepc_ z0 hb, keepc_ z1 hb⟩
            replace hz := Aside0.mk hz
            have hNB : ∀ n, ((w1.drewN n).alloc (.cells #[.string ⟨#[]⟩, .int .i64 0] 26)).heap[w1.heap.size]? = some (.cells #[.string ⟨#[]⟩, .int .i64 0] 26 (0, 0)) := fun n => new_at rfl
            have hn0 : ∀ n, ((w1.drewN n).alloc (.cells #[.string ⟨#[]⟩, .int .i64 0] 26)).cell? ⟨w1.heap.size, 0, none⟩ = some (.string ⟨#[]⟩) := fun n => (cell_of_row _ _ 0 _ _ _ (hNB n)).trans rfl
            have hn1 : ∀ n, ((w1.drewN n).alloc (.cells #[.string ⟨#[]⟩, .int .i64 0] 26)).cell? ⟨w1.heap.size, 1, none⟩ = some (.int .i64 0) := fun n => (cell_of_row _ _ 1 _ _ _ (hNB n)).trans rfl
            have hf0 : ∀ n, ((w1.drewN n).alloc (.cells #[.string ⟨#[]⟩, .int .i64 0] 26)).frozen? ⟨w1.heap.size, 0, none⟩ = false := fun n => blk_frozen (hNB n) 0
            have hf1 : ∀ n, ((w1.drewN n).alloc (.cells #[.string ⟨#[]⟩, .int .i64 0] 26)).frozen? ⟨w1.heap.size, 1, none⟩ = false := fun n => blk_frozen (hNB n) 1
            replace hNB := Aside0.mk hNB
            by_cases hca : c1 = a1
            · skip
              have hca2 : (c1 = a1) = True := eq_true hca
              have hca3 : c1 - a1 = 0 := by omega
              replace hca := Aside0.mk hca
              have hsl : ∀ W, (Instr.sliceAt 29 (.slice (some ad) B.length c1) (some (.int .i64 (a1 : Int))) (some (.int .i64 (m : Int))) none).run Try.prog W = .ok (.slice (some ad) k 0) W := fun W => by rw [slice29 _ _ _ _ _ (by have := hm.out; omega) (by have := hm.out; have := QB.out; omega), if_pos hca.out, qe2, hca3]
              have hcv := Aside0.mk (show ∀ W, Below w1.heap.size w1 W → (convert 29 9 (.slice (some ad) k 0)).run Try.prog W = .ok (.string S1) W from fun W hb => by
                have h0 := HCut.out
                rw [if_pos hca.out] at h0
                have h1 := Kd.C_take h0 (m := k) (by have := hka.out; rw [List.length_drop]; omega)
                rw [show ((B.drop a1).take k).length = k by have := hka.out; rw [List.length_take, List.length_drop]; omega, ← hd1_.out] at h1
                rw [hS1.out]
                exact Kd.C_string (c := 0) Try.underlying29 Try.underlying5 Try.underlying9 (Kd.C_below (w := w0) h1 (below_then HB.out HB.out.size hb)))
              go_region_held3 (fun W => W.cell? ⟨g, 0, none⟩ = some (.slice (some ad) B.length c1) ∧ W.cell? ⟨g, 1, none⟩ = some (.int .i64 (a1 : Int)) ∧ (convert 29 9 (.slice (some ad) k 0)).run Try.prog W = .ok (.string S1) W) (exact ⟨(hz.out _ (by repeat (first | exact Below.refl _ _ | apply below_drew1 | (refine pw_below_drewN ?_ _) | apply below_alloc | (refine below_set ?_ (Nat.le_refl _))))).1, (hz.out _ (by repeat (first | exact Below.refl _ _ | apply below_drew1 | (refine pw_below_drewN ?_ _) | apply below_alloc | (refine below_set ?_ (Nat.le_refl _))))).2, hcv.out _ (by repeat (first | exact Below.refl _ _ | apply below_drew1 | (refine pw_below_drewN ?_ _) | apply below_alloc | (refine below_set ?_ (Nat.le_refl _))))⟩) (fail)
              obtain ⟨W3, hW3⟩ : ∃ W3, W3 = ((((w1.drewN (nq + 1)).alloc (.cells #[.string ⟨#[]⟩, .int .i64 0] 26)).setCell ⟨w1.heap.size, 0, none⟩ (.string S1)).setCell ⟨w1.heap.size, 1, none⟩ (.int .i64 0)) := ⟨_, rfl⟩
              have hb3 : Below w1.heap.size w1 W3 := by rw [hW3]; exact below_set (below_set (below_alloc (pw_below_drewN (Below.refl _ _) _) _) (Nat.le_refl _)) (Nat.le_refl _)
              have hr3 : W3.heap[w1.heap.size]? = some (.cells #[.string S1, .int .i64 0] 26 (0, 0)) := by rw [hW3]; exact blk_put (blk_put (hNB.out _) 0 (.string S1) rfl) 1 (.int .i64 0) rfl
              rw [← hW3]
              replace hW3 := Aside0.mk hW3
              have x1 := keepc_ z1 hb3
              have xf := (blk_frozen (blk_below HG1_.out hb3) 1)
              clear z0 z1 z2 hn0 hn1 hf0 hf1 hsl fz1
              have hr3_ := Aside0.mk hr3
              have hb3_ := Aside0.mk hb3
              clear hr3 hb3
              go_wp2_with (first | (go_at_call 29; (refine (R_kept1.calls 4 g B _ _ w0 _ (hrt2.out _ ((hx1.out.below hb3_.out).set_1 _)) (below_set (below_then HB.out HB.out.size hb3_.out) Hg.out) HBY.out HL.out (.inr (.inr rfl)) e4.out).mono ?_; rintro e w4 ⟨rfl, hR4, hK4, hB4⟩; have hgne := hx1.out.lt; have hr4 : w4.heap[w1.heap.size]? = some (.cells #[.string S1, .int .i64 0] 26 (0, 0)) := (hK4.2 _ (by simpa using blk_lt' hr3_.out) (by omega)).trans (blk_far hr3_.out (p := ⟨g, 1, none⟩) (show w1.heap.size ≠ g by omega) _); rw [show numV 4 D4 = num4 D4 from rfl]; have v0 : w4.cell? ⟨w1.heap.size, 0, none⟩ = some (.string S1) := (cell_of_row _ _ 0 _ _ _ hr4).trans rfl; have v1 : w4.cell? ⟨w1.heap.size, 1, none⟩ = some (.int .i64 0) := (cell_of_row _ _ 1 _ _ _ hr4).trans rfl; have vf0 := blk_frozen hr4 0; have vf1 := blk_frozen hr4 1; have hKK : Kept w1 (w4.setCell ⟨w1.heap.size, 1, none⟩ (.int .i64 (num4 D4))) (fun k => k = g) := (((Kept.of_below hb3_.out (fun k => k = g)).setCell (p := ⟨g, 1, none⟩) (.inl rfl) _).then_ hK4 (fun k hk => .inl hk)).setCell (p := ⟨w1.heap.size, 1, none⟩) (.inr (Nat.le_refl _)) _; have m1_ := Aside0.mk (R_keptb HO.out hKK Hgw.out); have m2_ := Aside0.mk (hR4.far (p := ⟨w1.heap.size, 1, none⟩) (show g ≠ w1.heap.size by omega) (.int .i64 (num4 D4))); have m3_ := Aside0.mk (HK.out.then_ hKK (fun k hk => .inl hk)); have m4_ := Aside0.mk (show Below w0.heap.size w0 (w4.setCell ⟨w1.heap.size, 1, none⟩ (.int .i64 (num4 D4))) from below_set hB4 (show w0.heap.size ≤ w1.heap.size from HB.out.size)); have hgne_ := Aside0.mk hgne; clear HO HR HK HB hr4 hKK hR4 hK4 hB4 hgne x1 xf; have HO := m1_; have HR := m2_; have HK := m3_; have HB := m4_; clear m1_ m2_ m3_ m4_)) | ((with_reducible refine gate_builtin (b := .append) (xs := #[.tmp 74, .tmp 76]) rfl ?_); at_builtin; (refine Kd.R_append k26 (w0 := w0) w0.heap.size rfl (.tmp 74) (.tmp 76) 22 26 (.agg #[(.string ⟨#[]⟩), (.int .i64 0)]) 24 rfl Try.underlying22 info26 rfl (by decide) (by omega) u3 out ⟨S1, num4 D4⟩ [.string S1, .int .i64 (num4 D4)] (fun k => w.heap.size ≤ k) (fun _ => False) rfl ?aX ?aP (fun _ hk => hk.elim) ?aF ?aO ?aB ?aS ?aL ?_; (case aX => exact (show _ = Value.slice (some ⟨w4.heap.size, 0, none⟩) 1 1 from rfl).trans (by simp)); (case aP => exact k26_mkM _ _ _ ⟨S1, num4 D4⟩); (case aF => exact fun k hk => Nat.le_trans HK.out.1 hk); (case aO => exact HO.out); (case aB => exact HB.out); (case aS => exact HB.out.size); (case aL => have := HLEN.out; have := HI.out; have := HC0.out; omega); intro v1 w2 ho hb2 hg hat; have n1 := Aside0.mk (Kept_grown (N := w.heap.size) HK.out HO.out hg); have n2 := Aside0.mk (HR.out.grown' HO.out hg Hgw.out); have n3 := Aside0.mk hb2; have n4 := Aside0.mk ho; clear HK HR HB HO hb2 ho hg hat; have HK := n1; have HR := n2; have HB := n3; have HO := n4; clear n1 n2 n3 n4)))
              go_roundg (gk - 1)
              case measure => have := HG.out; have := HI.out; omega
              case rel => exact ⟨i + 1, _, _, _, congrArg (Value.int .i64) (wrap64_in' _ (by have := HI.out; have := HC0.out; omega)), ⟨by have := HG.out; have := HI.out; omega⟩, ⟨by rw [List.length_append, HLEN.out]; rfl⟩, HF3, HO, HR, HK, HB⟩
            · have hca2 : (c1 = a1) = False := eq_false hca
              replace hca := Aside0.mk hca
              have hsl : ∀ W, (Instr.sliceAt 29 (.slice (some ad) B.length c1) (some (.int .i64 (a1 : Int))) (some (.int .i64 (m : Int))) none).run Try.prog W = .ok (.slice (some (ad.add a1)) k (c1 - a1)) W := fun W => by rw [slice29 _ _ _ _ _ (by have := hm.out; omega) (by have := hm.out; have := QB.out; omega), if_neg hca.out, qe2, Nat.mul_one]; rfl
              have hcv := Aside0.mk (show ∀ W, Below w1.heap.size w1 W → (convert 29 9 (.slice (some (ad.add a1)) k (c1 - a1))).run Try.prog W = .ok (.string S1) W from fun W hb => by
                have h0 := HCut.out
                rw [if_neg hca.out] at h0
                replace h0 : Kd.C (Kd.int .u8) w0 (some (ad.add a1)) (B.drop a1).length (B.drop a1) := by have h9 : Kd.C (Kd.int .u8) w0 (some (ad.add (a1 * 1))) (B.drop a1).length (B.drop a1) := h0; rwa [Nat.mul_one] at h9
                have h1 := Kd.C_take h0 (m := k) (by have := hka.out; rw [List.length_drop]; omega)
                rw [show ((B.drop a1).take k).length = k by have := hka.out; rw [List.length_take, List.length_drop]; omega, ← hd1_.out] at h1
                rw [hS1.out]
                exact Kd.C_string (c := c1 - a1) Try.underlying29 Try.underlying5 Try.underlying9 (Kd.C_below (w := w0) h1 (below_then HB.out HB.out.size hb)))
              go_region_held3 (fun W => W.cell? ⟨g, 0, none⟩ = some (.slice (some ad) B.length c1) ∧ W.cell? ⟨g, 1, none⟩ = some (.int .i64 (a1 : Int)) ∧ (convert 29 9 (.slice (some (ad.add a1)) k (c1 - a1))).run Try.prog W = .ok (.string S1) W) (exact ⟨(hz.out _ (by repeat (first | exact Below.refl _ _ | apply below_drew1 | (refine pw_below_drewN ?_ _) | apply below_alloc | (refine below_set ?_ (Nat.le_refl _))))).1, (hz.out _ (by repeat (first | exact Below.refl _ _ | apply below_drew1 | (refine pw_below_drewN ?_ _) | apply below_alloc | (refine below_set ?_ (Nat.le_refl _))))).2, hcv.out _ (by repeat (first | exact Below.refl _ _ | apply below_drew1 | (refine pw_below_drewN ?_ _) | apply below_alloc | (refine below_set ?_ (Nat.le_refl _))))⟩) (fail)
              obtain ⟨W3, hW3⟩ : ∃ W3, W3 = ((((w1.drewN (nq + 1)).alloc (.cells #[.string ⟨#[]⟩, .int .i64 0] 26)).setCell ⟨w1.heap.size, 0, none⟩ (.string S1)).setCell ⟨w1.heap.size, 1, none⟩ (.int .i64 0)) := ⟨_, rfl⟩
              have hb3 : Below w1.heap.size w1 W3 := by rw [hW3]; exact below_set (below_set (below_alloc (pw_below_drewN (Below.refl _ _) _) _) (Nat.le_refl _)) (Nat.le_refl _)
              have hr3 : W3.heap[w1.heap.size]? = some (.cells #[.string S1, .int .i64 0] 26 (0, 0)) := by rw [hW3]; exact blk_put (blk_put (hNB.out _) 0 (.string S1) rfl) 1 (.int .i64 0) rfl
              rw [← hW3]
              replace hW3 := Aside0.mk hW3
              have x1 := keepc_ z1 hb3
              have xf := (blk_frozen (blk_below HG1_.out hb3) 1)
              clear z0 z1 z2 hn0 hn1 hf0 hf1 hsl fz1
              have hr3_ := Aside0.mk hr3
              have hb3_ := Aside0.mk hb3
              clear hr3 hb3
              go_wp2_with (first | (go_at_call 29; (refine (R_kept1.calls 4 g B _ _ w0 _ (hrt2.out _ ((hx1.out.below hb3_.out).set_1 _)) (below_set (below_then HB.out HB.out.size hb3_.out) Hg.out) HBY.out HL.out (.inr (.inr rfl)) e4.out).mono ?_; rintro e w4 ⟨rfl, hR4, hK4, hB4⟩; have hgne := hx1.out.lt; have hr4 : w4.heap[w1.heap.size]? = some (.cells #[.string S1, .int .i64 0] 26 (0, 0)) := (hK4.2 _ (by simpa using blk_lt' hr3_.out) (by omega)).trans (blk_far hr3_.out (p := ⟨g, 1, none⟩) (show w1.heap.size ≠ g by omega) _); rw [show numV 4 D4 = num4 D4 from rfl]; have v0 : w4.cell? ⟨w1.heap.size, 0, none⟩ = some (.string S1) := (cell_of_row _ _ 0 _ _ _ hr4).trans rfl; have v1 : w4.cell? ⟨w1.heap.size, 1, none⟩ = some (.int .i64 0) := (cell_of_row _ _ 1 _ _ _ hr4).trans rfl; have vf0 := blk_frozen hr4 0; have vf1 := blk_frozen hr4 1; have hKK : Kept w1 (w4.setCell ⟨w1.heap.size, 1, none⟩ (.int .i64 (num4 D4))) (fun k => k = g) := (((Kept.of_below hb3_.out (fun k => k = g)).setCell (p := ⟨g, 1, none⟩) (.inl rfl) _).then_ hK4 (fun k hk => .inl hk)).setCell (p := ⟨w1.heap.size, 1, none⟩) (.inr (Nat.le_refl _)) _; have m1_ := Aside0.mk (R_keptb HO.out hKK Hgw.out); have m2_ := Aside0.mk (hR4.far (p := ⟨w1.heap.size, 1, none⟩) (show g ≠ w1.heap.size by omega) (.int .i64 (num4 D4))); have m3_ := Aside0.mk (HK.out.then_ hKK (fun k hk => .inl hk)); have m4_ := Aside0.mk (show Below w0.heap.size w0 (w4.setCell ⟨w1.heap.size, 1, none⟩ (.int .i64 (num4 D4))) from below_set hB4 (show w0.heap.size ≤ w1.heap.size from HB.out.size)); have hgne_ := Aside0.mk hgne; clear HO HR HK HB hr4 hKK hR4 hK4 hB4 hgne x1 xf; have HO := m1_; have HR := m2_; have HK := m3_; have HB := m4_; clear m1_ m2_ m3_ m4_)) | ((with_reducible refine gate_builtin (b := .append) (xs := #[.tmp 74, .tmp 76]) rfl ?_); at_builtin; (refine Kd.R_append k26 (w0 := w0) w0.heap.size rfl (.tmp 74) (.tmp 76) 22 26 (.agg #[(.string ⟨#[]⟩), (.int .i64 0)]) 24 rfl Try.underlying22 info26 rfl (by decide) (by omega) u3 out ⟨S1, num4 D4⟩ [.string S1, .int .i64 (num4 D4)] (fun k => w.heap.size ≤ k) (fun _ => False) rfl ?aX ?aP (fun _ hk => hk.elim) ?aF ?aO ?aB ?aS ?aL ?_; (case aX => exact (show _ = Value.slice (some ⟨w4.heap.size, 0, none⟩) 1 1 from rfl).trans (by simp)); (case aP => exact k26_mkM _ _ _ ⟨S1, num4 D4⟩); (case aF => exact fun k hk => Nat.le_trans HK.out.1 hk); (case aO => exact HO.out); (case aB => exact HB.out); (case aS => exact HB.out.size); (case aL => have := HLEN.out; have := HI.out; have := HC0.out; omega); intro v1 w2 ho hb2 hg hat; have n1 := Aside0.mk (Kept_grown (N := w.heap.size) HK.out HO.out hg); have n2 := Aside0.mk (HR.out.grown' HO.out hg Hgw.out); have n3 := Aside0.mk hb2; have n4 := Aside0.mk ho; clear HK HR HB HO hb2 ho hg hat; have HK := n1; have HR := n2; have HB := n3; have HO := n4; clear n1 n2 n3 n4)))
              go_roundg (gk - 1)
              case measure => have := HG.out; have := HI.out; omega
              case rel => exact ⟨i + 1, _, _, _, congrArg (Value.int .i64) (wrap64_in' _ (by have := HI.out; have := HC0.out; omega)), ⟨by have := HG.out; have := HI.out; omega⟩, ⟨by rw [List.length_append, HLEN.out]; rfl⟩, HF3, HO, HR, HK, HB⟩
    · have he : i = c0 := by have := HG.out; omega
      have q1 : ((i : Int) < (c0 : Int)) = False := eq_false (by omega)
      subst he
      have hF := HF.out
      rw [Nat.sub_self] at hF
      have hF2 : (out, bs1, sh1) = F := hF
      subst hF2
      clear HF hF
      go_wp2_with fail
      go_ret
      exact ⟨_, rfl, HO.out, HR.out, HK.out, HB.out⟩
end Go.Proofs.Ytimhllaahihhgaa.PA
