/- Size: what the call comes to. No condition but the hypotheses that each theorem states. -/
import Derived.Test.YtialbhkamlfccaaM7
import Derived.Test.YtialbhkamlfccaaPure7
import Derived.Deep.RegionHeld3
namespace Go.Proofs.Ytialbhkamlfccaa.PA
open Go.RowKit Go.Proofs.YtialbhkamlfccaaW.PrintWords Go.Proofs.YtialbhkamlfccaaW.PrintLast Go.Proofs.YtialbhkamlfccaaW.PrintMore Go.Proofs.Ytialbhkamlfccaa.Mp Go.Proofs.Ytialbhkamlfccaa.Dia
set_option linter.unusedVariables false
set_option linter.unusedSimpArgs false
/-- The map of what was seen. -/
def SeenB (f : Int → Bool) (sl : List Nat) : Prop := ∀ j : Nat, f (j : Int) = true ↔ (j < 2 ∨ j ∈ sl)
theorem SeenB.new {f : Int → Bool} {sl : List Nat} (h : SeenB f sl) (x : Nat) : SeenB (upd1 f (x : Int) true) (x :: sl) := by
  intro j
  unfold upd1
  by_cases he : (j : Int) = (x : Int)
  · rw [if_pos he]
    have : j = x := by omega
    simp [this]
  · rw [if_neg he, h j]
    have : j ≠ x := by omega
    simp [this]
theorem seen_start {w : World} : ∃ (X1 X2 : World) (D : DataW Unit) (f : Int → Bool), (Instr.mapUpdate 64 (.map (some w.heap.size)) (.int .i64 0) (.bool true)).run Try.prog (w.alloc (.map #[] 0)) = .ok () X1 ∧ (Instr.mapUpdate 64 (.map (some w.heap.size)) (.int .i64 1) (.bool true)).run Try.prog X1 = .ok () X2 ∧
    X2.ownsMap Try.prog 3 (plainElem Try.prog 4) w.heap.size 2 D ∧ ReadsB D f ∧ SeenB f [] ∧ Below w.heap.size w X2 := by
  obtain ⟨X1, D1, h1, o1, r1, g1⟩ := store_runB (w.alloc (.map #[] 0)) (World.ownsMap_made w Try.prog 3 _) (by decide) ReadsB.empty (p := 0) (by decide) true
  obtain ⟨X2, D2, h2, o2, r2, g2⟩ := store_runB X1 o1 (by decide) r1 (p := 1) (by decide) true
  have b1 : Below w.heap.size w X1 := pw_below_grown (below_alloc (Below.refl _ _) _) (some w.heap.size) (by simp) g1 (fun k hk => by injection hk with hk; omega)
  refine ⟨X1, X2, D2, _, h1, h2, o2, r2, fun j => ?_, pw_below_grown b1 (some w.heap.size) b1.size g2 (fun k hk => by injection hk with hk; omega)⟩
  unfold upd1
  by_cases c1 : (j : Int) = 1
  · rw [if_pos c1]
    simp
    omega
  · rw [if_neg c1]
    by_cases c0 : (j : Int) = 0
    · rw [if_pos c0]
      simp
      omega
    · rw [if_neg c0]
      simp
      omega
/-- What stands between the rounds of Size. -/
structure Siz (w W : World) (ns : List Nd) (a : Nat) (sl st : List Nat) (v6 : Value) : Prop where
  b : Below w.heap.size w W
  d : Dfs ns a sl st
  m : ∃ (D : DataW Unit) (f : Int → Bool), W.ownsMap Try.prog 3 (plainElem Try.prog 4) w.heap.size (sl.length + 2) D ∧ ReadsB D f ∧ SeenB f sl
  r : Kd.R (Kd.int .i64) 3 W w.heap.size (fun k => k ≠ w.heap.size) v6 (st.map (fun j : Nat => (j : Int)))
theorem Siz.start {w X2 : World} {a : Nat} {ns : List Nd} {D : DataW Unit} {f : Int → Bool} (ha : a < ns.length) (ho : X2.ownsMap Try.prog 3 (plainElem Try.prog 4) w.heap.size 2 D) (hr : ReadsB D f) (hs : SeenB f []) (hb : Below w.heap.size w X2) :
    Siz w (X2.alloc (.cells #[.int .i64 (a : Int)] 3)) ns a [] [a] (.slice (some ⟨X2.heap.size, 0, none⟩) 1 1) := by
  have hlt := ho.lt
  refine ⟨below_then hb hb.size (below_alloc (Below.refl _ _) _), Dfs.start ha, ⟨D, f, ho.alloc _, hr, hs⟩, ?_⟩
  have h := own_lit X2 w.heap.size 3 .i64 [(a : Int)] hb.size (by simp)
  exact Kd.R_of_own h (fun k hk => by
    have : X2.heap.size = k := by simpa [Value.ownBlock] using hk
    omega)
theorem Siz.b_ {w W : World} {ns : List Nd} {a : Nat} {sl st : List Nat} {v6 : Value} (h : Siz w W ns a sl st v6) : Below w.heap.size w W := h.b
/-- The last one is taken off. -/
theorem Siz.pop {w W : World} {ns : List Nd} {a x : Nat} {sl st : List Nat} {A : Option Addr} {n c : Nat} (h : Siz w W ns a sl (st ++ [x]) (.slice A n c)) :
    n = st.length + 1 ∧ (∃ ad, A = some ad ∧ W.cell? (ad.add st.length) = some (.int .i64 (x : Int))) ∧ n ≤ c ∧ Kd.R (Kd.int .i64) 3 W w.heap.size (fun k => k ≠ w.heap.size) (.slice A st.length c) (st.map (fun j : Nat => (j : Int))) := by
  have hr := Kd.R_reads' h.r
  have hl : ((st ++ [x]).map (fun j : Nat => (j : Int))).length = st.length + 1 := by simp
  refine ⟨hr.1.trans hl, ?_, hr.2.1, ?_⟩
  · obtain ⟨ad, ea, hc⟩ := Kd.at_int hr.2.2 (st.length : Int) (by omega) (by rw [hl]; omega)
    refine ⟨ad, ea, ?_⟩
    rw [Int.toNat_natCast] at hc
    rw [hc]
    unfold rd
    rw [Int.toNat_natCast, List.getD_eq_getElem?_getD, List.map_append, List.getElem?_append_right (by simp)]
    simp
  · have ht := Kd.R_take h.r (m := st.length) (by rw [hl]; omega)
    have he : ((st ++ [x]).map (fun j : Nat => (j : Int))).take st.length = st.map (fun j : Nat => (j : Int)) := by
      rw [List.map_append, List.take_append_of_le_length (by simp), List.take_of_length_le (by simp)]
    rw [he] at ht
    exact ht
theorem Siz.look {w W : World} {ns : List Nd} {a x : Nat} {sl st : List Nat} {v6 : Value} (h : Siz w W ns a sl st v6) (hx : x < 1000000000) :
    ((Instr.lookup 64 (.map (some w.heap.size)) (.int .i64 (x : Int)) false).run Try.prog W = .ok (.bool true) W ∧ (x < 2 ∨ x ∈ sl)) ∨ ((Instr.lookup 64 (.map (some w.heap.size)) (.int .i64 (x : Int)) false).run Try.prog W = .ok (.bool false) W ∧ ¬ (x < 2 ∨ x ∈ sl)) := by
  obtain ⟨D, f, ho, hr, hs⟩ := h.m
  have hl := look_runB W ho hr (wf_nat (n := x) (by omega))
  cases hf : f (x : Int) with
  | true => rw [hf] at hl; exact .inl ⟨hl, (hs x).mp hf⟩
  | false => rw [hf] at hl; exact .inr ⟨hl, fun h2 => by rw [(hs x).mpr h2] at hf; cases hf⟩
theorem Siz.mark {w W : World} {ns : List Nd} {a x : Nat} {sl st : List Nat} {A : Option Addr} {n c : Nat} (h : Siz w W ns a sl (st ++ [x]) (.slice A n c)) (hx : x < 1000000000) (hl : sl.length < 1000000000) :
    ∃ (X1 : World), (Instr.mapUpdate 64 (.map (some w.heap.size)) (.int .i64 (x : Int)) (.bool true)).run Try.prog W = .ok () X1 ∧ Below w.heap.size w X1 ∧
      (∃ (D : DataW Unit) (f : Int → Bool), X1.ownsMap Try.prog 3 (plainElem Try.prog 4) w.heap.size ((x :: sl).length + 2) D ∧ ReadsB D f ∧ SeenB f (x :: sl)) ∧
      Kd.R (Kd.int .i64) 3 X1 w.heap.size (fun k => k ≠ w.heap.size) (.slice A st.length c) (st.map (fun j : Nat => (j : Int))) ∧ w.heap.size < X1.heap.size := by
  obtain ⟨D, f, ho, hr, hs⟩ := h.m
  obtain ⟨X1, D1, hrun, o1, r1, g1⟩ := store_runB W ho (by simp only [maxLen]; omega) hr (wf_nat (n := x) (by omega)) true
  exact ⟨X1, hrun, pw_below_grown h.b (some w.heap.size) h.b.size g1 (fun k hk => by injection hk with hk; omega), ⟨D1, _, o1, r1, hs.new x⟩, Kd.R_grown h.pop.2.2.2 g1 (fun k hk e => by injection e with e; exact hk e), o1.lt⟩
set_option maxHeartbeats 8000000 in
set_option maxRecDepth 100000 in
theorem bdd_Size.calls (a : Nat) (g vars most : Nat) (ok : Nat → Prop) (nb : Nat) (full : Bool) (ns : List Nd) (w0 w : World) (h : BS w0 w ok g vars most full ns nb) (ha : a < ns.length) :
    Calls Try.prog 18 #[.pointer (some ⟨g, 0, none⟩), .int .i64 (a : Int)] w fun e w' => (∃ sl : List Nat, e = .returned (.int .i64 (sl.length : Int)) ∧ Aside0 (sl.Nodup ∧ ∀ j, j ∈ sl ↔ 2 ≤ j ∧ Dia.Reach ns a j)) ∧ Below w.heap.size w w' := by
  have u54 := Try.underlying54
  have hmm := @run_makeMap Try.prog
  obtain ⟨X1, X2, D, f, run1, run2, ho, hr, hs, hb⟩ := seen_start (w := w)
  have HZ := Aside0.mk (Siz.start ha ho hr hs hb)
  have HS := Aside0.mk h
  have HA := Aside0.mk ha
  have hsm := h.small
  have HSM := Aside0.mk hsm
  clear h ha ho hr hs hb hsm
  go_enter Try.func18, Try.ntmps18
  go_wp2_with (first | (go_at_call 32; (refine (bdd_has.calls (a : Int) g vars most ok nb full ns w0 _ HS.out).mono ?_); rintro e w1 ⟨rfl, e1⟩; have e2 := e1.symm; subst e2; clear e1; rw [show (decide (0 ≤ (a : Int)) && decide ((a : Int) < (ns.length : Int))) = true from num_ok HA.out]))
  clear run1 run2
  go_loopg [6, 7] (2 * ns.length + 1) (fun kq v6 v7 w' => ∃ sl st : List Nat, v7 = .int .i64 (sl.length : Int) ∧ Aside0 (kq + 2 * sl.length = 2 * ns.length + st.length ∧ kq ≤ 2 * ns.length + 1) ∧ Aside0 (Siz w w' ns a sl st v6))
  case atStart => exact ⟨[], [a], rfl, ⟨rfl, Nat.le_refl _⟩, HZ⟩
  case round =>
    clear HZ
    obtain ⟨sl, st, rfl, HK, HZ⟩ := hrel
    have hsl := HZ.out.d.count
    rcases List.eq_nil_or_concat st with rfl | ⟨st', x, rfl⟩
    · obtain ⟨A6, c6, e6⟩ := Kd.R_slice HZ.out.r
      rw [show (([] : List Nat).map (fun j : Nat => (j : Int))).length = 0 from rfl] at e6
      subst e6
      have hd := HZ.out.d.done
      have HD := Aside0.mk (And.intro HZ.out.d.nd hd)
      clear hd hsl
      go_wp2_with fail
      go_ret
      exact ⟨⟨sl, rfl, HD⟩, HZ.out.b⟩
    · rw [List.concat_eq_append] at HZ HK
      obtain ⟨A6, c6, e6⟩ := Kd.R_slice HZ.out.r
      have hl6 : ((st' ++ [x]).map (fun j : Nat => (j : Int))).length = st'.length + 1 := by simp
      rw [hl6] at e6
      subst e6
      obtain ⟨_, ⟨ad6, rfl, hc6⟩, hc6le, _⟩ := HZ.out.pop
      have hk := HK.out
      rw [List.length_append, List.length_singleton] at hk
      have hxl : x < ns.length := HZ.out.d.lt x (by simp)
      have w1_ : IntKind.i64.wrap (st'.length : Int) = (st'.length : Int) := by have := HSM.out; rw [IntKind.wrap_i64]; omega
      have w2_ : wrap64 (st'.length : Int) = (st'.length : Int) := by have := HSM.out; unfold wrap64; omega
      have w3_ : wrap64 (((st'.length + 1 : Nat) : Int) - 1) = (st'.length : Int) := by have := HSM.out; unfold wrap64; omega
      have w4_ : wrap64 ((st'.length : Int) + 1 - 1) = (st'.length : Int) := by have := HSM.out; unfold wrap64; omega
      have b1 : (0 ≤ (st'.length : Int)) = True := eq_true (by omega)
      have b2 : ((st'.length : Int) ≤ (c6 : Int)) = True := eq_true (by omega)
      have b3 : (st'.length ≤ c6) = True := eq_true (by omega)
      have b4 : ((st'.length : Int) < ((st'.length + 1 : Nat) : Int)) = True := eq_true (by omega)
      have b5 : (0 < ((st'.length + 1 : Nat) : Int)) = True := eq_true (by omega)
      have b6 : ((st'.length : Int) < (st'.length : Int) + 1) = True := eq_true (by omega)
      have b7 : (0 < (st'.length : Int) + 1) = True := eq_true (by omega)
      have HKK := Aside0.mk hk
      have HXL := Aside0.mk hxl
      have HSL := Aside0.mk hsl
      rcases HZ.out.look (x := x) (by have := HSM.out; omega) with ⟨hlk, hx⟩ | ⟨hlk, hx⟩
      · have HX := Aside0.mk hx
        clear hx hk hxl hsl hl6 hc6le
        go_wp2_with fail
        go_roundg (gk - 1)
        case measure => have := HKK.out; have := HSL.out; omega
        case rel => exact ⟨sl, st', rfl, ⟨by have := HKK.out; have := HSL.out; omega⟩, ⟨⟨HZ.out.b, HZ.out.d.old HX.out, HZ.out.m, HZ.out.pop.2.2.2⟩⟩⟩
      · obtain ⟨X1, hrun, hbX, hmX, hrX, hszX⟩ := HZ.out.mark (by have := HSM.out; omega) (by have := HSM.out; omega)
        obtain ⟨A, c, mw, ma, hb, hC, hc⟩ := HS.out.cells
        obtain ⟨ad, rfl, c0, c1, c2⟩ := at_Nd hC x hxl hxl
        clear c0
        have hn : ns[x]? = some ns[x] := List.getElem?_eq_getElem hxl
        have hdn := Dfs.new HS.out.inv HZ.out.d (by omega) (fun h2 => hx (.inr h2)) hn
        have z0 : w.cell? ⟨g, 0, none⟩ = some (.slice (some ad) ns.length c) := (cell_of_row _ _ 0 _ _ _ hb).trans rfl
        generalize ns[x] = n at c1 c2 hn hdn
        have HSC : Aside0 (∀ W, Below w.heap.size w W → W.cell? ⟨g, 0, none⟩ = some (.slice (some ad) ns.length c) ∧ W.cell? ⟨(ad.add (x * 3)).block, (ad.add (x * 3)).off + 1, none⟩ = some (.int .i64 (n.lo : Int)) ∧ W.cell? ⟨(ad.add (x * 3)).block, (ad.add (x * 3)).off + 2, none⟩ = some (.int .i64 (n.hi : Int))) := ⟨fun W hW => ⟨pw_cell_below hW z0, pw_cell_below hW c1, pw_cell_below hW c2⟩⟩
        have w7_ : wrap64 ((sl.length : Int) + 1) = ((sl.length + 1 : Nat) : Int) := by have := HSM.out; unfold wrap64; omega
        have i1 : ((x : Int) < (ns.length : Int)) = True := eq_true (by omega)
        have i0 : (0 ≤ (x : Int)) = True := eq_true (by omega)
        have i2 : (x < ns.length) = True := eq_true hxl
        have HBX := Aside0.mk hbX
        have HMX := Aside0.mk hmX
        have HRX := Aside0.mk hrX
        have HSX := Aside0.mk hszX
        have HDN := Aside0.mk hdn
        clear hx hk hxl hsl hl6 hc6le hb hC hc hn z0 c1 c2 hbX hmX hrX hszX hdn
        go_wp2_with fail
        go_region_held3 (fun W => W.cell? ⟨g, 0, none⟩ = some (.slice (some ad) ns.length c) ∧ W.cell? ⟨(ad.add (x * 3)).block, (ad.add (x * 3)).off + 1, none⟩ = some (.int .i64 (n.lo : Int)) ∧ W.cell? ⟨(ad.add (x * 3)).block, (ad.add (x * 3)).off + 2, none⟩ = some (.int .i64 (n.hi : Int))) (first | exact HSC.out _ HB9.out | exact HSC.out _ HBX.out.drew | exact HSC.out _ (below_alloc HBX.out _).drew) ((refine Kd.R_append_rows_step (Kd.int .i64) (w0 := w) w.heap.size (by rfl) (.tmp 38) (.tmp 55) 25 3 (.int .i64 0) 8 rfl Try.underlying25 info3 rfl (by decide) (by omega) (.slice (some ad6) st'.length c6) (st'.map (fun j : Nat => (j : Int))) [(n.lo : Int), (n.hi : Int)] (some ⟨X1.heap.size, 0, none⟩) 2 2 (fun k => k ≠ w.heap.size) (fun _ => False) rfl rfl ?aO ?aR (fun _ _ h => h) (fun _ h => h.elim) ?aF ?aB ?aS ?aL ?_; (case aO => exact Kd.R_drew (Kd.R_alloc HRX.out _)); (case aR => exact Kd.C_drew (Kd.R_reads' (Kd.R_of_own (own_lit X1 X1.heap.size 3 .i64 [(n.lo : Int), (n.hi : Int)] (Nat.le_refl _) (by simp)) (ok := fun _ => True) (fun _ _ => trivial))).2.2); (case aF => intro k hk; have h1 : (X1.alloc (.cells #[.int .i64 (n.lo : Int), .int .i64 (n.hi : Int)] 3)).heap.size ≤ k := hk; have := HSX.out; simp at h1; omega); (case aB => exact (below_alloc HBX.out _).drew); (case aS => exact (below_alloc HBX.out _).size); (case aL => have := HSM.out; have := HKK.out; have := HSL.out; rw [List.length_map]; omega); intro v1 w9 ho1 hb1 hg1 hat1; have HB9 := Aside0.mk hb1; have HR9 := Aside0.mk ho1; have HG9 := Aside0.mk hg1; clear ho1 hb1 hg1 hat1))
        have hfin : Siz w w9 ns a (x :: sl) (st' ++ [n.lo, n.hi]) v1 := by
          obtain ⟨D, f, ho, hr, hs⟩ := HMX.out
          refine ⟨HB9.out, HDN.out, ⟨D, f, (ho.alloc (.cells #[.int .i64 (n.lo : Int), .int .i64 (n.hi : Int)] 3)).drew.kept HG9.out (fun e => HRX.out.1 w.heap.size e.symm rfl), hr, hs⟩, ?_⟩
          rw [List.map_append]
          exact HR9.out
        have HFIN := Aside0.mk hfin
        clear hfin
        go_wp2_with fail
        go_roundg (gk - 1)
        case measure => have := HKK.out; have := HSL.out; have := HFIN.out.d.count; rw [List.length_cons] at this; omega
        case rel => exact ⟨x :: sl, st' ++ [n.lo, n.hi], rfl, ⟨by have := HKK.out; have := HSL.out; have := HFIN.out.d.count; rw [List.length_cons] at this; rw [List.length_append, List.length_cons]; simp only [List.length_cons, List.length_nil]; omega⟩, HFIN⟩
end Go.Proofs.Ytialbhkamlfccaa.PA
