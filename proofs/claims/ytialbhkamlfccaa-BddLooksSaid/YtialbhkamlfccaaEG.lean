/- The reference's Size: what the call comes to. No condition but the hypotheses that each theorem states. -/
import Derived.Test.YtialbhkamlfccaaPure8
import Derived.Deep.RegionHeld3
namespace Go.Proofs.Ytialbhkamlfccaa.PA
open Go.RowKit Go.Proofs.YtialbhkamlfccaaW.PrintWords Go.Proofs.YtialbhkamlfccaaW.PrintLast Go.Proofs.YtialbhkamlfccaaW.PrintMore Go.Proofs.Ytialbhkamlfccaa.Mp Go.Proofs.Ytialbhkamlfccaa.Dia
set_option linter.unusedVariables false
set_option linter.unusedSimpArgs false
theorem slice31h (ad : Addr) (len c m : Nat) (h1 : m ≤ c) (h0 : 0 < c) (W : World) : (Instr.sliceAt 31 (.slice (some ad) len c) none (some (.int .i64 (m : Int))) none).run Try.prog W = .ok (.slice (some ad) m c) W := by
  rw [run_sliceAt_slice _ _ _ _ _ _ Try.underlying31, run_slice_h _ _ _ _ _ Try.underlying31 _ _ (by omega) (by omega)]
  have hs : (sizeOf (Try.prog.elem 31)).run Try.prog W = .ok 1 W := rfl
  rw [hs]
  simp [Result.andThen, sliced, Addr.add]
theorem slice31l (ad : Addr) (len c lo : Nat) (h1 : lo ≤ len) (h2 : lo < c) (W : World) : (Instr.sliceAt 31 (.slice (some ad) len c) (some (.int .i64 (lo : Int))) none none).run Try.prog W = .ok (.slice (some (ad.add (lo * 1))) (len - lo) (c - lo)) W := by
  rw [run_sliceAt_slice _ _ _ _ _ _ Try.underlying31, run_slice_l _ _ _ _ _ Try.underlying31 _ _ (by omega) (by omega)]
  have hs : (sizeOf (Try.prog.elem 31)).run Try.prog W = .ok 1 W := rfl
  rw [hs]
  simp [Result.andThen, sliced]
  omega
theorem R_emptyF (w0 W : World) : Kd.R (kF w0) 31 (W.alloc (.cells #[] 31)) W.heap.size (fun _ => True) (.slice (some ⟨W.heap.size, 0, none⟩) 0 0) [] :=
  ⟨fun _ _ => trivial, [], World.ownsRow_lit (base := W.heap.size) (e := 31) (size := (kF w0).sz) W #[] 0 (Nat.le_refl _) (by decide) (by simp), Reps.none _ _⟩
theorem R_oneF {w : World} {A : Option Addr} {c : Nat} {t : List Bool} (ht : Kd.bool.C w A t.length t) (hc : t.length ≤ c) : Kd.R (kF w) 31 (w.alloc (.cells #[.slice A t.length c] 31)) w.heap.size (fun _ => True) (.slice (some ⟨w.heap.size, 0, none⟩) 1 1) [t] := by
  refine ⟨fun _ _ => trivial, _, World.ownsRow_lit (base := w.heap.size) (e := 31) (size := 1) w #[.slice A t.length c] 1 (Nat.le_refl _) (by decide) rfl, rfl, fun j p hj => ?_⟩
  match j, hj with
  | 0, hj =>
    simp at hj
    subst hj
    exact ⟨A, c, rfl, hc, ht⟩
  | j + 1, hj => simp at hj
def foldT (l : List (List Bool)) : List (List Bool) := l.foldl (fun acc t => putT (putT acc (lowT t)) (highT t)) []
theorem foldT_snoc (l : List (List Bool)) (s : List Bool) : foldT (l ++ [s]) = putT (putT (foldT l) (lowT s)) (highT s) := by
  unfold foldT
  rw [List.foldl_append]
  rfl
theorem cntT_snoc (l : List (List Bool)) (s : List Bool) : cntT (l ++ [s]) = cntT l + if lowT s ≠ highT s then 1 else 0 := by
  unfold cntT
  rw [List.filter_append, List.length_append]
  congr 1
  by_cases h : lowT s = highT s <;> simp [h]
/-- What stands between the rounds over a level. -/
structure Lv (ls : List (List Bool)) (k i : Nat) (nx : List (List Bool)) : Prop where
  e : nx = foldT (ls.take i)
  l : nx.length ≤ 2 * i
  g : 1 ≤ i → 1 ≤ nx.length
  h : ∀ s ∈ nx, s.length = 2 ^ k
theorem Lv.next {ls nx : List (List Bool)} {k i : Nat} (h : Lv ls k i nx) (hi : i < ls.length) (hs : (ls[i]).length = 2 ^ (k + 1)) : Lv ls k (i + 1) (putT (putT nx (lowT ls[i])) (highT ls[i])) := by
  have hp : (ls[i]).length / 2 = 2 ^ k := by rw [hs, Nat.pow_succ]; omega
  have h1 := putT_length nx (lowT ls[i])
  have h2 := putT_length (putT nx (lowT ls[i])) (highT ls[i])
  refine ⟨?_, by have := h.l; omega, fun _ => ?_, fun s hs2 => ?_⟩
  · rw [List.take_succ_eq_append_getElem hi, foldT_snoc, h.e]
  · have hm : highT ls[i] ∈ putT (putT nx (lowT ls[i])) (highT ls[i]) := by
      have hx : ∀ (q : List (List Bool)) (r : List Bool), r ∈ putT q r := fun q r => by
        unfold putT
        by_cases c : r ∈ q
        · rw [if_pos c]; exact c
        · rw [if_neg c]; simp
      exact hx _ _
    exact List.length_pos_of_mem hm
  · rcases putT_mem hs2 with h3 | rfl
    · rcases putT_mem h3 with h4 | rfl
      · exact h.h s h4
      · unfold lowT
        rw [List.length_take, hp, hs, Nat.pow_succ]
        omega
    · unfold highT
      rw [List.length_drop, hp, hs, Nat.pow_succ]
      omega
set_option maxHeartbeats 8000000 in
set_option maxRecDepth 100000 in
theorem ref_Size.calls (A : Option Addr) (c : Nat) (t : List Bool) (m : Nat) (w : World) (ht : Kd.bool.C w A t.length t) (hc : t.length ≤ c) (hl : t.length = 2 ^ m) (hm : m ≤ 5) :
    Calls Try.prog 19 #[.slice A t.length c] w fun e w' => e = .returned (.int .i64 (sizeT m [t] : Int)) ∧ Below w.heap.size w w' := by
  have HM := Aside0.mk hm
  have HR := Aside0.mk (R_oneF ht hc)
  have HL := Aside0.mk hl
  clear ht hc hl hm
  go_enter Try.func19, Try.ntmps19
  go_wp2_with fail
  go_loopg [3, 4] m (fun kq v3 v4 w' => ∃ (ls : List (List Bool)) (acc : Nat), v3 = .int .i64 (acc : Int) ∧ Aside0 (Below w.heap.size w w') ∧ Aside0 (Kd.R (kF w) 31 w' w.heap.size (fun _ => True) v4 ls) ∧ Aside0 (acc + sizeT kq ls = sizeT m [t] ∧ kq ≤ m ∧ 1 ≤ ls.length ∧ ls.length ≤ 2 ^ (m - kq) ∧ (∀ s ∈ ls, s.length = 2 ^ kq) ∧ acc ≤ 64 * (m - kq)))
  case atStart => exact ⟨[t], 0, rfl, ⟨below_alloc (Below.refl _ _) _⟩, HR, ⟨by omega, Nat.le_refl _, by simp, by rw [Nat.sub_self]; simp, fun s hs => by rw [List.mem_singleton.mp hs]; exact HL.out, by omega⟩⟩
  case round =>
    clear HR
    obtain ⟨ls, acc, rfl, HB, HR, HI⟩ := hrel
    obtain ⟨A4, c4, e4⟩ := Kd.R_slice HR.out
    subst e4
    have hI := HI.out
    obtain ⟨ad4, A0, c0, rfl, hz0, hle0, hC0⟩ := at_F (Kd.R_reads' HR.out).2.2 0 (by omega) (by omega)
    clear hC0
    have hadd : ad4.add 0 = ad4 := by
      obtain ⟨_, inner, ho, _⟩ := HR.out
      rcases ho.2 with ⟨hv, _⟩ | ⟨g, cap', cur, hv, _⟩
      · cases hv
      · injection hv with ha _ _
        injection ha with ha
        rw [ha, add_plain]
    have hz1 : wr.cell? ad4 = some (.slice A0 (ls[0]).length c0) := by rw [← hadd]; exact hz0
    have hs0 := hI.2.2.2.2.1 ls[0] (List.getElem_mem _)
    generalize ls[0] = s0 at hz0 hz1 hle0 hs0
    have n1 : (0 < (ls.length : Int)) = True := eq_true (by omega)
    have n2 : (0 < ls.length) = True := eq_true (by omega)
    by_cases hk : gk = 0
    · subst hk
      have p1 : (1 < (s0.length : Int)) = False := eq_false (by rw [hs0]; simp)
      have p2 : (1 < s0.length) = False := eq_false (by rw [hs0]; simp)
      have hfin : acc = sizeT m [t] := by have := hI.1; simpa [sizeT] using this
      have HFIN := Aside0.mk hfin
      clear hI hs0 hfin hle0
      go_wp2_with fail
      go_ret
      exact ⟨by rw [HFIN.out]; rfl, HB.out⟩
    · obtain ⟨k, rfl⟩ : ∃ k, gk = k + 1 := ⟨gk - 1, by omega⟩
      have hpk : 0 < 2 ^ k := Nat.pow_pos (by decide)
      have hpk2 : 2 ^ k ≤ 2 ^ 5 := Nat.pow_le_pow_right (by decide) (by have := HM.out; omega)
      have p1 : (1 < (s0.length : Int)) = True := eq_true (by rw [hs0, Nat.pow_succ]; omega)
      have p2 : (1 < s0.length) = True := eq_true (by rw [hs0, Nat.pow_succ]; omega)
      have hlen : ls.length ≤ 32 := Nat.le_trans hI.2.2.2.1 (Nat.pow_le_pow_right (show 0 < 2 by decide) (show m - (k + 1) ≤ 5 by have := HM.out; omega))
      have HLN := Aside0.mk (And.intro hlen (And.intro hpk hpk2))
      clear hI hs0 hle0 hk hlen hpk hpk2
      go_wp2_with fail
      obtain ⟨X, hX⟩ : ∃ X, X = wr := ⟨_, rfl⟩
      subst hX
      clear hz0 hz1 p1 p2
      go_loopg [3, 5, 6] (ls.length + 1) (fun kq v3 v5 v6 w' => ∃ (i ac : Nat) (nx : List (List Bool)), v6 = .int .i64 (i : Int) ∧ v3 = .int .i64 (ac : Int) ∧ Aside0 (i + kq = ls.length + 1 ∧ i ≤ ls.length ∧ ac = acc + cntT (ls.take i) ∧ ac ≤ acc + i) ∧ Aside0 (Kd.R (kF w) 31 w' X.heap.size (fun _ => True) v5 nx) ∧ Aside0 (Below X.heap.size X w') ∧ Aside0 (Lv ls k i nx))
      case atStart => exact ⟨0, acc, [], rfl, rfl, ⟨Nat.zero_add _, Nat.zero_le _, rfl, Nat.le_refl _⟩, ⟨R_emptyF w X⟩, ⟨below_alloc (Below.refl _ _) _⟩, ⟨⟨rfl, Nat.le_refl _, fun h => by omega, fun s hs => by cases hs⟩⟩⟩
      case round =>
        obtain ⟨i, ac, nx, rfl, rfl, HJ, HN, HBX, HLV⟩ := hrel
        have hr4 := Kd.R_below HR.out HBX.out
        have HBW := Aside0.mk (below_then HB.out HB.out.size HBX.out)
        by_cases hi : i < ls.length
        · have q1 : ((i : Int) < (ls.length : Int)) = True := eq_true (by omega)
          have q2 : (0 ≤ (i : Int)) = True := eq_true (by omega)
          have q3 : (i < ls.length) = True := eq_true hi
          have hw1 := Aside0.mk (show wrap64 ((i : Int) + 1) = ((i + 1 : Nat) : Int) by have := HLN.out; unfold wrap64; omega)
          have hw2 := Aside0.mk (show wrap64 ((ac : Int) + 1) = ((ac + 1 : Nat) : Int) by have := HLN.out; have := HJ.out; have := HI.out.2.2.2.2.2; have := HM.out; unfold wrap64; omega)
          obtain ⟨ad, A1, c1, e4, hcell, hle, hC⟩ := at_F (Kd.R_reads' hr4).2.2 i hi hi
          obtain rfl : ad4 = ad := by injection e4
          have hsl := HI.out.2.2.2.2.1 ls[i] (List.getElem_mem hi)
          have hlv := HLV.out.next hi hsl
          have hct := cntT_snoc (ls.take i) ls[i]
          rw [← List.take_succ_eq_append_getElem hi] at hct
          generalize ls[i] = s at hcell hle hC hsl hlv hct
          obtain ⟨h, hh⟩ : ∃ h, h = 2 ^ k := ⟨_, rfl⟩
          have hsl2 : s.length = 2 * h := by rw [hsl, Nat.pow_succ, hh]; omega
          have hh1 : 1 ≤ h ∧ h ≤ 32 := by have := HLN.out; rw [hh]; omega
          have hhalf : s.length / 2 = h := by omega
          obtain ⟨ad1, eA, hb0⟩ := Kd.at_bool hC 0 (by omega) (by omega)
          subst eA
          clear hb0
          have hClow := Kd.C_take (m := h) hC (by omega)
          have hChigh := Kd.C_drop (m := h) (c := c1) hC (by omega) hle
          rw [if_neg (by omega)] at hChigh
          have elow : lowT s = s.take h := by unfold lowT; rw [hhalf]
          have ehigh : highT s = s.drop h := by unfold highT; rw [hhalf]
          rw [← elow] at hClow
          rw [← ehigh] at hChigh
          have llow : (lowT s).length = h := by rw [elow, List.length_take]; omega
          have lhigh : (highT s).length = h := by rw [ehigh, List.length_drop]; omega
          obtain ⟨lo, hlo⟩ : ∃ x, x = lowT s := ⟨_, rfl⟩
          obtain ⟨hg, hhg⟩ : ∃ x, x = highT s := ⟨_, rfl⟩
          rw [← hlo] at hClow llow hlv hct
          rw [← hhg] at hChigh lhigh hlv hct
          have hsl3 : ∀ W, (Instr.sliceAt 31 (.slice (some ad1) s.length c1) none (some (.int .i64 (h : Int))) none).run Try.prog W = .ok (.slice (some ad1) lo.length c1) W := fun W => by rw [slice31h ad1 _ _ _ (by omega) (by omega), llow]
          have hsl4 : ∀ W, (Instr.sliceAt 31 (.slice (some ad1) s.length c1) (some (.int .i64 (h : Int))) none none).run Try.prog W = .ok (.slice (some (ad1.add (h * 1))) hg.length (c1 - h)) W := fun W => by rw [slice31l ad1 _ _ _ (by omega) (by omega), lhigh, show s.length - h = h by omega]
          have hChigh2 : Kd.bool.C w (some (ad1.add h)) hg.length hg := by
            have h0 : Kd.bool.C w (some (ad1.add (h * 1))) hg.length hg := hChigh
            rwa [Nat.mul_one] at h0
          have hsf := Same_f (s := lo) (t := hg) (by rw [llow]; exact Nat.lt_of_le_of_lt hh1.2 (by decide))
          have HSF0 := Aside0.mk hsf
          have HCL := Aside0.mk hClow
          have HCH := Aside0.mk hChigh2
          have HLE := Aside0.mk (And.intro (show lo.length ≤ c1 by rw [llow]; omega) (show hg.length ≤ c1 - h by rw [lhigh]; omega))
          have HLVN := Aside0.mk hlv
          have HCT := Aside0.mk hct
          have HII := Aside0.mk hi
          have HLL := Aside0.mk (And.intro llow (And.intro lhigh hh1))
          have HKK := Aside0.mk hh
          have HCC := Aside0.mk hcell
          have hP1 : nx.length < 1000000 ∧ ∀ s ∈ nx, s.length < 1000000 := ⟨by have := HLV.out.l; have := HLN.out.1; omega, fun r hr => by rw [HLV.out.h r hr]; have := HLN.out.2.2; omega⟩
          have hP2 : (putT nx lo).length < 1000000 ∧ ∀ s ∈ putT nx lo, s.length < 1000000 := ⟨by have := putT_length nx lo; have := HLV.out.l; have := HLN.out.1; omega, fun r hr => by
            rcases putT_mem hr with h3 | rfl
            · exact hP1.2 r h3
            · rw [HLL.out.1]; have := HLL.out.2.2; omega⟩
          have HP1 := Aside0.mk hP1
          have HP2 := Aside0.mk hP2
          have HBWd := Aside0.mk (HBW.out.drew)
          have n0 := Aside0.mk (Kd.R_below HN.out (Below.refl _ _).drew)
          have n1 := Aside0.mk (HBX.out.drew)
          clear HN HBX
          have HN := n0
          have HBX := n1
          clear n0 n1
          have tq1 : Int.tdiv (s.length : Int) 2 = (h : Int) := by rw [Int.tdiv_eq_ediv_of_nonneg (by omega)]; omega
          have tq2 : IntKind.i64.wrap (h : Int) = (h : Int) := by rw [IntKind.wrap_i64]; omega
          have tq3 : wrap64 (h : Int) = (h : Int) := by unfold wrap64; omega
          clear hr4 hi e4 hle hC hsl hlv hct hsl2 hhalf hClow hChigh2 hChigh elow ehigh llow lhigh hlo hhg hh1 hh hsf hP1 hP2
          by_cases hst : lo = hg
          · have hd : decide (lo = hg) = true := decide_eq_true hst
            have HSF : Aside0 (bautaref36_Same.f (lo.length + 1) lo hg = some true) := ⟨by rw [← hd]; exact HSF0.out⟩
            have HCT2 : Aside0 (cntT (ls.take (i + 1)) = cntT (ls.take i)) := ⟨by rw [HCT.out, if_neg (fun h => h hst)]; rfl⟩
            clear hst hd
            go_wp2_with fail
            go_region_held3 (fun W => W.cell? (ad4.add i) = some (.slice (some ad1) s.length c1)) (exact HCC.out) (fail)
            go_wp2_with (first | (go_at_call 10; (with_reducible refine (bautaref36_Same.calls _ _ _ _ _ _ _ _ _ (Kd.C_below HCL.out HBWd.out) HLE.out.1 (Kd.C_below HCH.out HBWd.out) HLE.out.2 HSF.out).mono ?_); rintro e w6 ⟨rfl, hd⟩; have n0 := Aside0.mk (Kd.R_below HN.out hd.below); have n1 := Aside0.mk (below_then HBX.out HBX.out.size hd.below); have n2 := Aside0.mk (below_then HBWd.out HBWd.out.size hd.below); clear HN HBX HBWd hd; have HN := n0; have HBX := n1; have HBWd := n2; clear n0 n1 n2) | (go_at_call 34; (with_reducible refine (ref_put.calls X.heap.size X w _ _ nx _ _ _ HBX.out HBX.out.size HB.out.size HBWd.out HN.out HCL.out HLE.out.1 HP1.out.1 HP1.out.2).mono ?_); rintro e w7 ⟨v55, rfl, hn, hx, hb⟩; have n0 := Aside0.mk hn; have n1 := Aside0.mk hx; have n2 := Aside0.mk hb; clear HN HBX HBWd hn hx hb; have HN := n0; have HBX := n1; have HBWd := n2; clear n0 n1 n2) | (go_at_call 34; (with_reducible refine (ref_put.calls X.heap.size X w _ _ (putT nx lo) _ _ _ HBX.out HBX.out.size HB.out.size HBWd.out HN.out HCH.out HLE.out.2 HP2.out.1 HP2.out.2).mono ?_); rintro e w7 ⟨v55, rfl, hn, hx, hb⟩; have n0 := Aside0.mk hn; have n1 := Aside0.mk hx; have n2 := Aside0.mk hb; clear HN HBX HBWd hn hx hb; have HN := n0; have HBX := n1; have HBWd := n2; clear n0 n1 n2))
            go_roundg (ls.length - i)
            case measure => have := HJ.out; have := HII.out; omega
            case rel => exact ⟨i + 1, ac, putT (putT nx lo) hg, congrArg (Value.int .i64) hw1.out, rfl, ⟨by have := HJ.out; have := HII.out; have := HCT2.out; omega⟩, HN, HBX, HLVN⟩
          · have hd : decide (lo = hg) = false := decide_eq_false hst
            have HSF : Aside0 (bautaref36_Same.f (lo.length + 1) lo hg = some false) := ⟨by rw [← hd]; exact HSF0.out⟩
            have HCT2 : Aside0 (cntT (ls.take (i + 1)) = cntT (ls.take i) + 1) := ⟨by rw [HCT.out, if_pos hst]⟩
            clear hst hd
            go_wp2_with fail
            go_region_held3 (fun W => W.cell? (ad4.add i) = some (.slice (some ad1) s.length c1)) (exact HCC.out) (fail)
            go_wp2_with (first | (go_at_call 10; (with_reducible refine (bautaref36_Same.calls _ _ _ _ _ _ _ _ _ (Kd.C_below HCL.out HBWd.out) HLE.out.1 (Kd.C_below HCH.out HBWd.out) HLE.out.2 HSF.out).mono ?_); rintro e w6 ⟨rfl, hd⟩; have n0 := Aside0.mk (Kd.R_below HN.out hd.below); have n1 := Aside0.mk (below_then HBX.out HBX.out.size hd.below); have n2 := Aside0.mk (below_then HBWd.out HBWd.out.size hd.below); clear HN HBX HBWd hd; have HN := n0; have HBX := n1; have HBWd := n2; clear n0 n1 n2) | (go_at_call 34; (with_reducible refine (ref_put.calls X.heap.size X w _ _ nx _ _ _ HBX.out HBX.out.size HB.out.size HBWd.out HN.out HCL.out HLE.out.1 HP1.out.1 HP1.out.2).mono ?_); rintro e w7 ⟨v55, rfl, hn, hx, hb⟩; have n0 := Aside0.mk hn; have n1 := Aside0.mk hx; have n2 := Aside0.mk hb; clear HN HBX HBWd hn hx hb; have HN := n0; have HBX := n1; have HBWd := n2; clear n0 n1 n2) | (go_at_call 34; (with_reducible refine (ref_put.calls X.heap.size X w _ _ (putT nx lo) _ _ _ HBX.out HBX.out.size HB.out.size HBWd.out HN.out HCH.out HLE.out.2 HP2.out.1 HP2.out.2).mono ?_); rintro e w7 ⟨v55, rfl, hn, hx, hb⟩; have n0 := Aside0.mk hn; have n1 := Aside0.mk hx; have n2 := Aside0.mk hb; clear HN HBX HBWd hn hx hb; have HN := n0; have HBX := n1; have HBWd := n2; clear n0 n1 n2))
            go_roundg (ls.length - i)
            case measure => have := HJ.out; have := HII.out; omega
            case rel => exact ⟨i + 1, ac + 1, putT (putT nx lo) hg, congrArg (Value.int .i64) hw1.out, congrArg (Value.int .i64) hw2.out, ⟨by have := HJ.out; have := HII.out; have := HCT2.out; omega⟩, HN, HBX, HLVN⟩
        · have q1 : ((i : Int) < (ls.length : Int)) = False := eq_false (by omega)
          have hie : i = ls.length := by have := HJ.out; omega
          have hlv := HLV.out
          rw [hie] at hlv
          have hJ := HJ.out
          rw [hie, List.take_length] at hJ
          have he : nx = stepT ls := by rw [hlv.e, List.take_length]; rfl
          have HX2 := Aside0.mk (And.intro hlv (And.intro hJ he))
          clear hr4 hi hie hlv hJ he
          go_wp2_with fail
          go_roundg k
          case measure => omega
          case rel => exact ⟨nx, ac, rfl, HBW, ⟨Kd.R_lower HN.out HB.out.size⟩, ⟨by
            have h1 := HI.out.1
            have h2 := HX2.out.2.1
            rw [sizeT] at h1
            rw [HX2.out.2.2]
            omega, by have := HI.out; omega, HX2.out.1.g (by have := HI.out; omega), by
            have h1 := HX2.out.1.l
            have h2 := HI.out.2.2.2.1
            have h3 := HI.out.2.1
            rw [show m - k = (m - (k + 1)) + 1 by omega, Nat.pow_succ]
            omega, HX2.out.1.h, by
            have h2 := HX2.out.2.1
            have h3 := HI.out.2.1
            have h4 := HI.out.2.2.2.2.2
            have h5 := HLN.out.1
            omega⟩⟩
end Go.Proofs.Ytialbhkamlfccaa.PA
