/- The reference's put: what the call comes to. No condition but the hypotheses that each theorem states. -/
import Derived.Test.YtialbhkamlfccaaM7
namespace Go.Proofs.Ytialbhkamlfccaa.PA
open Go.RowKit Go.Proofs.YtialbhkamlfccaaW.PrintWords Go.Proofs.YtialbhkamlfccaaW.PrintLast Go.Proofs.YtialbhkamlfccaaW.PrintMore Go.Proofs.Ytialbhkamlfccaa.Mp Go.Proofs.Ytialbhkamlfccaa.Dia
set_option linter.unusedVariables false
set_option linter.unusedSimpArgs false
/-- Tables that stand in w0. -/
abbrev kF (w0 : World) : Kd (List Bool) := Kd.fixed (Kd.slice 4 Kd.bool) w0
def putT (ts : List (List Bool)) (t : List Bool) : List (List Bool) := if t ∈ ts then ts else ts ++ [t]
theorem at_F {w0 W : World} {A : Option Addr} {n : Nat} {xs : List (List Bool)} (h : Kd.C (kF w0) W A n xs) (i : Nat) (hi : i < n) (hx : i < xs.length) :
    ∃ ad A0 c0, A = some ad ∧ W.cell? (ad.add i) = some (.slice A0 xs[i].length c0) ∧ xs[i].length ≤ c0 ∧ Kd.bool.C w0 A0 xs[i].length xs[i] := by
  obtain ⟨ad, c, e, _, hK, hc0⟩ := Kd.C_get h ([] : List Bool) (i : Int) (by omega) (by omega)
  have hg : xs.getD (i : Int).toNat [] = xs[i] := by rw [Int.toNat_natCast, List.getD_eq_getElem?_getD, List.getElem?_eq_getElem hx]; rfl
  rw [hg] at hK
  have hc : ∀ j u, c[j]? = some u → W.cell? (ad.add (i * 1 + j)) = some u := hc0
  obtain ⟨A0, c0, rfl, l0, g0⟩ := hK
  exact ⟨ad, A0, c0, e, by have hq := hc 0 _ rfl; rwa [Nat.mul_one, Nat.add_zero] at hq, l0, g0⟩
set_option maxHeartbeats 8000000 in
set_option maxRecDepth 100000 in
theorem ref_put.calls (base : Nat) (Xw w0 W : World) (v0 : Value) (ts : List (List Bool)) (A : Option Addr) (c : Nat) (t : List Bool) (hB : Below base Xw W) (hb : base ≤ W.heap.size) (hle0 : w0.heap.size ≤ base) (h0 : Below w0.heap.size w0 W) (hR : Kd.R (kF w0) 31 W base (fun _ => True) v0 ts) (ht : Kd.bool.C w0 A t.length t) (hc : t.length ≤ c) (hts : ts.length < 1000000) (htl : ∀ s ∈ ts, s.length < 1000000) :
    Calls Try.prog 34 #[v0, .slice A t.length c] W fun e w' => ∃ v, e = .returned v ∧ Kd.R (kF w0) 31 w' base (fun _ => True) v (putT ts t) ∧ Below base Xw w' ∧ Below w0.heap.size w0 w' := by
  obtain ⟨A0, c0, e0⟩ := Kd.R_slice hR
  subst e0
  have HR := Aside0.mk hR
  have HB := Aside0.mk hB
  have HBS := Aside0.mk hb
  have H0 := Aside0.mk h0
  have HT := Aside0.mk ht
  have HTC := Aside0.mk hc
  have HTS := Aside0.mk (And.intro hts htl)
  have HL0 := Aside0.mk hle0
  clear hR hB hb h0 ht hc hts htl hle0
  go_enter Try.func34, Try.ntmps34
  go_wp2_with fail
  go_loopg [5] (ts.length + 1) (fun kq v5 w' => ∃ i : Nat, v5 = .int .i64 (i : Int) ∧ Aside0 (i + kq = ts.length + 1 ∧ i ≤ ts.length) ∧ Aside0 (∀ s ∈ ts.take i, s ≠ t) ∧ Aside0 (Below W.heap.size W w'))
  case atStart => exact ⟨0, rfl, ⟨Nat.zero_add _, Nat.zero_le _⟩, ⟨fun s hs => by cases hs⟩, ⟨Below.refl _ _⟩⟩
  case round =>
    obtain ⟨i, rfl, HK, HN, HW⟩ := hrel
    have hr := Kd.R_below HR.out HW.out
    have HRW := Aside0.mk hr
    have HBW := Aside0.mk (below_then HB.out HBS.out HW.out)
    have H0W := Aside0.mk (below_then H0.out H0.out.size HW.out)
    by_cases hi : i < ts.length
    · obtain ⟨ad, A1, c1, rfl, hcell, hle, hC⟩ := at_F (Kd.R_reads' hr).2.2 i hi hi
      have q1 : ((i : Int) < (ts.length : Int)) = True := eq_true (by omega)
      have q2 : (0 ≤ (i : Int)) = True := eq_true (by omega)
      have q3 : (i < ts.length) = True := eq_true hi
      have hw1 := Aside0.mk (show wrap64 ((i : Int) + 1) = ((i + 1 : Nat) : Int) by have := HTS.out; unfold wrap64; omega)
      have hmem := List.getElem_mem hi
      have hsm := HTS.out.2 _ hmem
      have htk := List.take_succ_eq_append_getElem hi
      generalize ts[i] = s at hcell hle hC hmem hsm htk
      have hsf := Same_f (s := s) (t := t) (by omega)
      have HSF := Aside0.mk hsf
      have HC := Aside0.mk hC
      have HLE := Aside0.mk hle
      have HII := Aside0.mk hi
      have HME := Aside0.mk hmem
      have HTK := Aside0.mk htk
      clear hr hi hle hC hmem hsm htk hsf
      by_cases hst : s = t
      · have hd : decide (s = t) = true := decide_eq_true hst
        rw [hd] at HSF
        have HST := Aside0.mk hst
        clear hst hd
        go_wp2_with (first | (go_at_call 10; (with_reducible refine (bautaref36_Same.calls _ _ _ _ _ _ _ _ _ (Kd.C_below HC.out H0W.out) HLE.out (Kd.C_below HT.out H0W.out) HTC.out HSF.out).mono ?_); rintro e w6 ⟨rfl, hd⟩; have HD := Aside0.mk hd.below; clear hd))
        go_ret
        refine ⟨_, rfl, ?_, below_then HBW.out (Nat.le_trans HBS.out HW.out.size) HD.out, below_then H0W.out H0W.out.size HD.out⟩
        have hp : putT ts t = ts := by unfold putT; rw [if_pos (by rw [← HST.out]; exact HME.out)]
        rw [hp]
        exact Kd.R_below HRW.out HD.out
      · have hd : decide (s = t) = false := decide_eq_false hst
        rw [hd] at HSF
        have HST := Aside0.mk hst
        clear hst hd
        go_wp2_with (first | (go_at_call 10; (with_reducible refine (bautaref36_Same.calls _ _ _ _ _ _ _ _ _ (Kd.C_below HC.out H0W.out) HLE.out (Kd.C_below HT.out H0W.out) HTC.out HSF.out).mono ?_); rintro e w6 ⟨rfl, hd⟩; have HD := Aside0.mk (below_then HW.out HW.out.size hd.below); clear hd))
        go_roundg (gk - 1)
        case measure => have := HK.out; have := HII.out; omega
        case rel => exact ⟨i + 1, congrArg (Value.int .i64) hw1.out, ⟨by have := HK.out; have := HII.out; omega⟩, ⟨fun q hq => by
          rw [HTK.out] at hq
          rcases List.mem_append.mp hq with h1 | h1
          · exact HN.out q h1
          · rw [List.mem_singleton.mp h1]
            exact HST.out⟩, HD⟩
    · have q1 : ((i : Int) < (ts.length : Int)) = False := eq_false (by omega)
      have hie : i = ts.length := by have := HK.out; omega
      have hn : t ∉ ts := fun hm => HN.out t (by rw [hie, List.take_length]; exact hm) rfl
      have HNN := Aside0.mk hn
      clear hr hi hie hn
      go_wp2_with (first | ((with_reducible refine gate_builtin (b := .append) (xs := #[.tmp 19, .tmp 21]) rfl ?_); at_builtin; refine Kd.R_append (kF w0) (w0 := Xw) base rfl (.tmp 19) (.tmp 21) 26 31 (.slice none 0 0) 24 rfl Try.underlying26 info31 rfl Nat.one_pos (by omega) (.slice A0 ts.length c0) ts t [.slice A t.length c] (fun _ => True) (fun _ => False) rfl rfl ?bP (fun _ hk => hk.elim) (fun _ _ => trivial) ?bO ?bB ?bS ?bL ?_; (case bP => exact ⟨A, c, rfl, HTC.out, HT.out⟩); (case bO => exact HRW.out); (case bB => exact HBW.out); (case bS => exact Nat.le_trans HBS.out HW.out.size); (case bL => have := HTS.out.1; omega); intro v1 w5 ho1 hb1 hg1 hat1; have HO := Aside0.mk ho1; have HB1 := Aside0.mk hb1; have HG := Aside0.mk hg1; clear ho1 hb1 hg1 hat1))
      go_ret
      refine ⟨_, rfl, ?_, HB1.out, ?_⟩
      · have hp : putT ts t = ts ++ [t] := by unfold putT; rw [if_neg HNN.out]
        rw [hp]
        exact HO.out
      · exact pw_below_grown H0W.out _ H0W.out.size HG.out (fun k hk => Nat.le_trans HL0.out (own_base (Kd.R_own HRW.out).choose_spec k hk))
end Go.Proofs.Ytialbhkamlfccaa.PA
