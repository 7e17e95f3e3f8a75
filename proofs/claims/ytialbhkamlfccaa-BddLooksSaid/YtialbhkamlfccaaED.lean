/- Any: what the call comes to. No condition but the hypotheses that each theorem states. -/
import Derived.Test.YtialbhkamlfccaaM6
import Derived.Test.YtialbhkamlfccaaPure5
namespace Go.Proofs.Ytialbhkamlfccaa.PA
open Go.RowKit Go.Proofs.YtialbhkamlfccaaW.PrintWords Go.Proofs.YtialbhkamlfccaaW.PrintLast Go.Proofs.YtialbhkamlfccaaW.PrintMore Go.Proofs.Ytialbhkamlfccaa.Mp Go.Proofs.Ytialbhkamlfccaa.Dia
set_option linter.unusedVariables false
set_option linter.unusedSimpArgs false
theorem storeB {W : World} {base g n cap : Nat} {xs : List Bool} {ok : Nat → Prop} (h : Kd.R Kd.bool 4 W base ok (.slice (some ⟨g, 0, none⟩) n cap) xs) (i : Nat) (b : Bool) : Kd.R Kd.bool 4 (W.setCell ⟨g, i, none⟩ (.bool b)) base ok (.slice (some ⟨g, 0, none⟩) n cap) (xs.set i b) := by
  have hl := (Kd.R_reads' h).1
  have ho := Kd.own_of_R h
  rw [← hl] at ho
  have hs := (ho.stored i (.bool b)).1
  have he : (encs Value.bool xs).set i (.bool b) = encs Value.bool (xs.set i b) := by simp [encs, List.map_set]
  rw [he] at hs
  exact Kd.R_of_own (by rw [List.length_set, ← hl]; exact hs) (fun k hk => h.1 k hk)
theorem madeB {W : World} {base m : Nat} (hb : base ≤ W.heap.size) (hm : m ≤ 9223372036854775807) : Kd.R Kd.bool 4 (W.alloc (.cells (madeCells #[.bool false] m) 4)) base (fun _ => True) (.slice (some ⟨W.heap.size, 0, none⟩) m m) (List.replicate m false) := by
  have h := World.ownsRow_lit (base := base) (e := 4) (size := 1) W (madeCells #[.bool false] m) m hb (by simpa [maxLen] using hm) (by simp [size_madeCells])
  have hl : (madeCells #[Value.bool false] m).toList = encs Value.bool (List.replicate m false) := by
    apply List.ext_getElem
    · simp [encs, madeCells]
    · intro i h1 h2
      simp [encs, madeCells, Nat.mod_one]
  rw [hl] at h
  exact Kd.R_of_own (by rw [List.length_replicate]; exact h) (fun _ _ => trivial)
/-- What stands between the rounds. -/
def AnyInv (vars : Nat) (ns : List Nd) (a cur : Nat) (xs : List Bool) : Prop :=
  1 ≤ cur ∧ cur < ns.length ∧ xs.length = vars ∧ (∀ v, v < vars → path ns a v = if v < top ns cur then xs.getD v false else path ns cur v) ∧ ∀ v, top ns cur ≤ v → xs.getD v false = false
theorem AnyInv.start {vars a : Nat} {ns : List Nd} (h : Inv vars ns) (h1 : 1 ≤ a) (hl : a < ns.length) : AnyInv vars ns a a (List.replicate vars false) := by
  refine ⟨h1, hl, List.length_replicate, fun v hv => ?_, fun v hv => ?_⟩
  · split
    · rename_i h2
      rw [path_low h a h1 hl v h2, List.getD_eq_getElem?_getD, List.getElem?_replicate, if_pos hv]
      rfl
    · rfl
  · rw [List.getD_eq_getElem?_getD, List.getElem?_replicate]
    split <;> rfl
theorem AnyInv.low {vars a cur : Nat} {ns : List Nd} {n : Nd} {xs : List Bool} (h : Inv vars ns) (hi : AnyInv vars ns a cur xs) (hn : ns[cur]? = some n) (h2 : 2 ≤ cur) (h0 : n.lo ≠ 0) : AnyInv vars ns a n.lo xs := by
  obtain ⟨i1, i2, i3, i4, i5⟩ := hi
  have hb := h.lt cur n hn h2
  have hlo : ns[n.lo]? = some ns[n.lo] := List.getElem?_eq_getElem (by omega)
  have u1 := h.up cur _ _ hn h2 (.inl hlo)
  rw [← top_of hlo] at u1
  have hp := path_node h hn h2
  rw [if_pos h0] at hp
  rw [top_of hn] at i4 i5
  refine ⟨by omega, by omega, i3, fun v hv => ?_, fun v hv => i5 v (by omega)⟩
  rw [i4 v hv]
  by_cases c1 : v < n.v
  · rw [if_pos c1, if_pos (by omega)]
  · rw [if_neg c1]
    by_cases c2 : v < top ns n.lo
    · rw [if_pos c2, i5 v (by omega), hp, path_low h n.lo (by omega) (by omega) v c2]
    · rw [if_neg c2, hp]
theorem AnyInv.high {vars a cur : Nat} {ns : List Nd} {n : Nd} {xs : List Bool} (h : Inv vars ns) (hi : AnyInv vars ns a cur xs) (hn : ns[cur]? = some n) (h2 : 2 ≤ cur) (h0 : n.lo = 0) : AnyInv vars ns a n.hi (xs.set n.v true) := by
  obtain ⟨i1, i2, i3, i4, i5⟩ := hi
  have hb := h.lt cur n hn h2
  have hhi : ns[n.hi]? = some ns[n.hi] := List.getElem?_eq_getElem (by omega)
  have u1 := h.up cur _ _ hn h2 (.inr hhi)
  rw [← top_of hhi] at u1
  have hp := path_node h hn h2
  rw [if_neg (by simp [h0])] at hp
  rw [top_of hn] at i4 i5
  have hg : ∀ v, (xs.set n.v true).getD v false = if v = n.v then true else xs.getD v false := by
    intro v
    rw [List.getD_eq_getElem?_getD, List.getElem?_set, List.getD_eq_getElem?_getD]
    by_cases c : n.v = v
    · rw [if_pos c, if_pos (by rw [i3]; omega), if_pos c.symm]
      rfl
    · rw [if_neg c, if_neg (fun e => c e.symm)]
  refine ⟨by omega, by omega, by rw [List.length_set]; exact i3, fun v hv => ?_, fun v hv => by rw [hg, if_neg (by omega)]; exact i5 v (by omega)⟩
  rw [i4 v hv, hg]
  by_cases c1 : v < n.v
  · rw [if_pos c1, if_pos (by omega), if_neg (by omega)]
  · rw [if_neg c1, hp]
    unfold set1
    by_cases c3 : v = n.v
    · rw [if_pos c3, if_pos c3, if_pos (by omega)]
    · rw [if_neg c3, if_neg c3]
      by_cases c2 : v < top ns n.hi
      · rw [if_pos c2, i5 v (by omega), path_low h n.hi (by omega) (by omega) v c2]
      · rw [if_neg c2]
theorem AnyInv.done {vars a : Nat} {ns : List Nd} {xs : List Bool} (h : Inv vars ns) (hi : AnyInv vars ns a 1 xs) : xs = (List.range vars).map (path ns a) := by
  obtain ⟨i1, i2, i3, i4, i5⟩ := hi
  apply List.ext_getElem
  · rw [i3, List.length_map, List.length_range]
  · intro v h1 h2
    rw [List.getElem_map, List.getElem_range, i4 v (by omega), if_pos (by rw [top_const h (by omega)]; omega), List.getD_eq_getElem?_getD, List.getElem?_eq_getElem h1]
    rfl
set_option maxHeartbeats 8000000 in
set_option maxRecDepth 100000 in
theorem Any_none (g vars most : Nat) (ok : Nat → Prop) (nb : Nat) (full : Bool) (ns : List Nd) (w0 w : World) (h : BS w0 w ok g vars most full ns nb) :
    Calls Try.prog 15 #[.pointer (some ⟨g, 0, none⟩), .int .i64 0] w fun e w' => e = .returned (.tuple #[.slice none 0 0, .bool false]) ∧ w' = w := by
  have HS := Aside0.mk h
  have hl := h.inv.len
  have HA := Aside0.mk (show (decide (0 ≤ (0 : Int)) && decide ((0 : Int) < (ns.length : Int))) = true from num_ok (ns := ns) (a := 0) (by omega))
  clear h hl
  go_enter Try.func15, Try.ntmps15
  go_wp2_with (first | (go_at_call 32; (refine (bdd_has.calls 0 g vars most ok nb full ns w0 _ HS.out).mono ?_); rintro e w1 ⟨rfl, e1⟩; have e2 := e1.symm; subst e2; clear e1; rw [HA.out]))
  go_ret2
  exact ⟨rfl, rfl⟩
set_option maxHeartbeats 8000000 in
set_option maxRecDepth 100000 in
theorem bdd_Any.calls (a : Nat) (g vars most : Nat) (ok : Nat → Prop) (nb : Nat) (full : Bool) (ns : List Nd) (w0 w : World) (h : BS w0 w ok g vars most full ns nb) (h1 : 1 ≤ a) (ha : a < ns.length) :
    Calls Try.prog 15 #[.pointer (some ⟨g, 0, none⟩), .int .i64 (a : Int)] w fun e w' => ∃ v : Value, e = .returned (.tuple #[v, .bool true]) ∧ Kd.R Kd.bool 4 w' w.heap.size (fun _ => True) v ((List.range vars).map (path ns a)) ∧ Below w.heap.size w w' := by
  have u54 := Try.underlying54
  have hsm := h.small
  have hz3 : w.cell? ⟨g, 3, none⟩ = some (.int .i64 (vars : Int)) := by
    obtain ⟨A, c, mw, ma, hb, hC, hc⟩ := h.cells
    exact (cell_of_row _ _ 3 _ _ _ hb).trans rfl
  have hmk : ∀ W : World, (Instr.makeSlice 31 (.int .i64 (vars : Int)) (.int .i64 (vars : Int))).run Try.prog W = .ok (.slice (some ⟨W.heap.size, 0, none⟩) vars vars) (W.alloc (.cells (madeCells #[.bool false] vars) 4)) := fun W =>
    run_make_row' 31 4 (.bool false) 1 Try.underlying31 info4 rfl .i64 .i64 vars (by omega) (by omega) W
  have HI := Aside0.mk (AnyInv.start h.inv h1 ha)
  have HA := Aside0.mk ha
  have HS := Aside0.mk h
  have q0 : ((a : Int) = 0) = False := eq_false (by omega)
  have q1 : (a = 0) = False := eq_false (by omega)
  have q2 : ((a : Int) == 0) = false := by rw [beq_eq_false_iff_ne]; omega
  have HM := Aside0.mk (madeB (W := w) (base := w.heap.size) (m := vars) (Nat.le_refl _) (by omega))
  clear h ha h1 hsm
  go_enter Try.func15, Try.ntmps15
  go_wp2_with (first | (go_at_call 32; (refine (bdd_has.calls (a : Int) g vars most ok nb full ns w0 _ HS.out).mono ?_); rintro e w1 ⟨rfl, e1⟩; have e2 := e1.symm; subst e2; clear e1; rw [show (decide (0 ≤ (a : Int)) && decide ((a : Int) < (ns.length : Int))) = true from num_ok HA.out]))
  go_loopg [1] a (fun kq v1 w' => v1 = .int .i64 (kq : Int) ∧ Aside0 (Below w.heap.size w w') ∧ ∃ xs : List Bool, Aside0 (AnyInv vars ns a kq xs) ∧ Aside0 (Kd.R Kd.bool 4 w' w.heap.size (fun _ => True) (.slice (some ⟨w.heap.size, 0, none⟩) vars vars) xs))
  case atStart => exact ⟨rfl, ⟨below_alloc (Below.refl _ _) _⟩, _, HI, HM⟩
  case round =>
    clear HM
    obtain ⟨rfl, HB, xs, HIN, HX⟩ := hrel
    by_cases h1 : gk = 1
    · subst h1
      have hd := AnyInv.done HS.out.inv HIN.out
      go_wp2_with fail
      go_ret2
      exact ⟨_, rfl, by rw [← hd]; exact HX.out, HB.out⟩
    · have hbs := HS.out.below HB.out
      obtain ⟨A, c, mw, ma, hb, hC, hc⟩ := hbs.cells
      have z0 : wr.cell? ⟨g, 0, none⟩ = some (.slice A ns.length c) := (cell_of_row _ _ 0 _ _ _ hb).trans rfl
      have hgl := HIN.out.2.1
      have hg1 := HIN.out.1
      obtain ⟨ad, rfl, c0, c1, c2⟩ := at_Nd hC gk hgl hgl
      have hn : ns[gk]? = some ns[gk] := List.getElem?_eq_getElem hgl
      have hlt := hbs.inv.lt gk _ hn (by omega)
      have hlow := AnyInv.low hbs.inv HIN.out hn (by omega)
      have hhigh := AnyInv.high hbs.inv HIN.out hn (by omega)
      generalize ns[gk] = n at c0 c1 c2 hn hlt hlow hhigh
      have i1 : ((gk : Int) < (ns.length : Int)) = True := eq_true (by omega)
      have i0 : (0 ≤ (gk : Int)) = True := eq_true (by omega)
      have i2 : (gk < ns.length) = True := eq_true hgl
      have g1 : ((gk : Int) = 1) = False := eq_false (by omega)
      have g3 : (gk = 1) = False := eq_false h1
      have g5 : ((gk : Int) != 1) = true := by simp; omega
      have hxr := Kd.R_alloc HX.out (.cells #[.int .i64 (n.v : Int), .int .i64 (n.lo : Int), .int .i64 (n.hi : Int)] 54)
      have HLT := Aside0.mk hlt
      have HXR := Aside0.mk hxr
      have hxl := HIN.out.2.2.1
      by_cases h0 : n.lo = 0
      · have l1 : ((n.lo : Int) != 0) = false := by rw [h0]; rfl
        have l2 : ((n.lo : Int) = 0) = True := eq_true (by omega)
        have v1 : ((n.v : Int) < (vars : Int)) = True := eq_true (by omega)
        have v2 : (n.v < vars) = True := eq_true hlt.1
        have v0 : (0 ≤ (n.v : Int)) = True := eq_true (by omega)
        obtain ⟨ad2, e2, hcb⟩ := Kd.at_bool (Kd.R_reads' hxr).2.2 (n.v : Int) (by omega) (by rw [hxl]; omega)
        injection e2 with e2
        rw [← e2, add_plain, Int.toNat_natCast] at hcb
        obtain ⟨cells, hty⟩ := Kd.R_typed hxr w.heap.size rfl
        have hfz := blk_frozen hty n.v
        have hne1 : w.heap.size ≠ wr.heap.size := Nat.ne_of_lt (Kd.R_lt HX.out w.heap.size rfl)
        have hne2 : wr.heap.size ≠ w.heap.size := fun e => hne1 e.symm
        have HH := Aside0.mk (hhigh h0)
        clear hbs hb hC hc hn hlt hlow hhigh hxr hgl hg1 h1 hty e2 h0 hxl
        go_wp2_with fail
        go_roundg n.hi
        case measure => exact HLT.out.2.2.2
        case rel => exact ⟨rfl, ⟨below_set (below_alloc HB.out _) (Nat.le_refl _)⟩, _, HH, ⟨storeB HXR.out n.v true⟩⟩
      · have l1 : ((n.lo : Int) != 0) = true := by simp; omega
        have l2 : ((n.lo : Int) = 0) = False := eq_false (by omega)
        have l3 : (n.lo = 0) = False := eq_false h0
        have HH := Aside0.mk (hlow h0)
        clear hbs hb hC hc hn hlt hlow hhigh hxr hgl hg1 h1 h0 hxl
        go_wp2_with fail
        go_roundg n.lo
        case measure => exact HLT.out.2.2.1
        case rel => exact ⟨rfl, ⟨below_alloc HB.out _⟩, xs, HH, HXR⟩
end Go.Proofs.Ytialbhkamlfccaa.PA
