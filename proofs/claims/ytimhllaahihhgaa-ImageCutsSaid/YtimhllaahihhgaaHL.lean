/- ref list. -/
import Derived.Test.YtimhllaahihhgaaPAx8
import Derived.Test.YtimhllaahihhgaaPAx3
import Derived.Deep.RegionHeld3
namespace Go.Proofs.Ytimhllaahihhgaa.PA
open Go.RowKit Go.Proofs.YtimhllaahihhgaaW.PrintWords Go.Proofs.YtimhllaahihhgaaW.PrintLast Go.Proofs.YtimhllaahihhgaaW.PrintMore
set_option linter.unusedVariables false
set_option linter.unusedSimpArgs false
section
variable {P : Program} {ops : Array Oper} {o : Oper} {a : Act} {Kc : Act → World → Prop} {Q : Exit → Act → World → Prop}
theorem print_append_str_step {w0 W : World} (base : Nat) (hw : Region.wanted o (yielded ops a.tmps) = true) (s x : Operand) (t u e : TypeId)
    (ho : o.op = .call { callee := .builtin .append, args := #[s, x], argTypes := #[t, u] })
    (ht : P.underlying t = some (.slice e)) (hu : P.underlying u = some .string) (hinfo : (P.info? e).map (fun i => (i.zero, i.size, i.bytes)) = some (some (.int .u8 0), 1, 1))
    (v : Value) (xs : List Int) (y : ByteArray) (hs : a.eval s = v) (hx : a.eval x = .string y)
    (HO : W.ownsRow base e 1 v xs.length (nums .u8 xs)) (HB : Below base w0 W) (hbase : base ≤ W.heap.size) (hl : xs.length + y.size ≤ 140737488355328)
    (h : ∀ v1 w1, w1.ownsRow base e 1 v1 (xs ++ bytesOf y).length (nums .u8 (xs ++ bytesOf y)) → Below base w0 w1 → W.grownBy w1 v.ownBlock → Kc (a.put o.dst v1) w1) :
    if Region.wanted o (yielded ops a.tmps) = true then Oper.wp P o a W Kc Q else Kc (a.put o.dst undef) W := by
  obtain ⟨i0, hi, hzz⟩ := Option.map_eq_some_iff.1 hinfo
  simp only [Prod.mk.injEq] at hzz
  obtain ⟨hz0, hz1, hz2⟩ := hzz
  rw [if_pos hw]
  obtain ⟨v1, w1, hr, hown, hg, _⟩ := Lib.run_append_own_string (P := P) W base t u o.type e i0 ht hu hi hz0 hz1 hz2 v xs.length (nums .u8 xs) HO y (by simp only [maxLen]; omega) hl hbase
  unfold Oper.wp execOp
  simp only [ho, resolve, invoke, builtin, Sem.run_bind, Sem.run_pure, Result.andThen_ok, List.map_toArray, List.map_cons, List.map_nil, hs, hx, hr]
  have hl2 : (xs ++ bytesOf y).length = xs.length + y.size := by rw [List.length_append, bytesOf_length]
  have hc : nums .u8 (xs ++ bytesOf y) = nums .u8 xs ++ Lib.strCells y := by
    rw [nums_append]
    congr 1
    simp [nums, bytesOf, Lib.strCells]
  exact h v1 w1 (by rw [hl2, hc]; exact hown) (HB.grown hg hbase (own_base HO)) hg
end
/-- A row of bytes of the call's own, no other row beside it. -/
theorem own_u8 {w : World} {base : Nat} {v : Value} {xs : List Int} (h : Kd.R (Kd.int .u8) 5 w base (fun _ => True) v xs) : w.ownsRow base 5 1 v xs.length (nums .u8 xs) := Kd.own_of_R h
theorem R_u8 {w : World} {base : Nat} {v : Value} {xs : List Int} (h : w.ownsRow base 5 1 v xs.length (nums .u8 xs)) : Kd.R (Kd.int .u8) 5 w base (fun _ => True) v xs := Kd.R_of_own h (fun _ _ => trivial)
def cellsB (g : List Int → Int → Option (List Int)) : List S26 → List Int → Option (List Int)
  | [], xs => some xs
  | c :: t, xs => if xs.length + c.f0.size < 140737488355000 then (g (xs ++ [(c.f0.size : Int) % 256] ++ bytesOf c.f0) c.f1).bind (cellsB g t) else none
theorem cellsB_step {g : List Int → Int → Option (List Int)} {l : List S26} {i : Nat} (hi : i < l.length) {xs r : List Int} (h : cellsB g (l.drop i) xs = some r) :
    xs.length + (rd_T26 l (i : Int)).f0.size < 140737488355000 ∧ ∃ ys, g (xs ++ [((rd_T26 l (i : Int)).f0.size : Int) % 256] ++ bytesOf (rd_T26 l (i : Int)).f0) (rd_T26 l (i : Int)).f1 = some ys ∧ cellsB g (l.drop (i + 1)) ys = some r := by
  rw [drop_T26 l i hi] at h
  simp only [cellsB] at h
  by_cases c : xs.length + (rd_T26 l (i : Int)).f0.size < 140737488355000
  · rw [if_pos c] at h
    obtain ⟨ys, h1, h2⟩ := Option.bind_eq_some_iff.mp h
    exact ⟨c, ys, h1, h2⟩
  · rw [if_neg c] at h
    cases h
theorem cellsB_end {g : List Int → Int → Option (List Int)} {l : List S26} {xs r : List Int} (h : cellsB g (l.drop l.length) xs = some r) : xs = r := by
  rw [List.drop_length] at h
  exact Option.some.inj h
def bautaref03_list.f (k : Nat) (xs : List Int) (l : List S26) : Option (List Int) := if xs.length < 140737488355000 then cellsB (bautaref03_four.f k) l (xs ++ [(l.length : Int) % 256]) else none
theorem keepc {w0 W : World} {p : Addr} {v : Value} (hx : w0.cell? p = some v) (hb : Below w0.heap.size w0 W) : W.cell? p = some v := (hb.cell (World.block_lt_of_cell? w0 _ hx)).trans hx
set_option maxHeartbeats 8000000 in
set_option maxRecDepth 100000 in
theorem bautaref03_list.calls (k : Nat) (u : Value) (xs : List Int) (A : Option Addr) (c : Nat) (l : List S26) (r : List Int) (w0 w : World) (hB : Below w0.heap.size w0 w) (ho : Kd.R (Kd.int .u8) 5 w w0.heap.size (fun _ => True) u xs)
    (hl : Kd.C k26 w0 A l.length l) (hc : l.length ≤ c) (h : bautaref03_list.f k xs l = some r) :
    Calls Try.prog 34 #[u, .slice A l.length c] w fun e w' => ∃ v, e = .returned v ∧ Kd.R (Kd.int .u8) 5 w' w0.heap.size (fun _ => True) v r ∧ Below w0.heap.size w0 w' := by
  have hu := Try.underlying22
  unfold bautaref03_list.f at h
  by_cases c1 : xs.length < 140737488355000
  · rw [if_pos c1] at h
    have HO := Aside0.mk ho
    have HB := Aside0.mk hB
    have HL := Aside0.mk hl
    have HC := Aside0.mk hc
    have H := Aside0.mk h
    have LM := Aside0.mk c1
    clear ho hB hl hc h c1
    go_enter Try.func34, Try.ntmps34
    go_wp2_with (first | ((with_reducible refine gate_builtin (b := .append) (xs := #[.tmp 6, .tmp 10]) rfl ?_); at_builtin; refine Kd.R_append (Kd.int .u8) (w0 := w0) w0.heap.size rfl (.tmp 6) (.tmp 10) 29 5 (.int .u8 0) 1 rfl Try.underlying29 info5 rfl (by decide) (by omega) u xs ((l.length : Int) % 256) [.int .u8 ((l.length : Int) % 256)] (fun _ => True) (fun _ => False) rfl rfl ?aP (fun _ hk => hk.elim) (fun _ _ => trivial) ?aO ?aB ?aS ?aL ?_; (case aP => exact rfl); (case aB => exact (by repeat (first | (with_reducible first | exact HB.out | apply below_alloc | apply pw_below_drewN | apply below_drew1) | exact HB.out))); (case aO => exact (by (with_reducible repeat (first | apply Kd.R_alloc | apply Kd.R_drewN | apply Kd.R_drew)); exact HO.out)); (case aS => exact below_size (by repeat (first | (with_reducible first | exact HB.out | apply below_alloc | apply pw_below_drewN | apply below_drew1) | exact HB.out))); (case aL => have := LM.out; omega); intro v1 w1 ho1 hb1 hg1 hat1; have n0 := Aside0.mk ho1; have n1 := Aside0.mk hb1; clear HO HB ho1 hb1 hg1 hat1; have HO := n0; have HB := n1; clear n0 n1))
    go_loopg [0, 5] (l.length + 1) (fun kq v0 v5 w' => ∃ (i : Nat) (ys : List Int), v5 = .int .i64 (i : Int) ∧ Aside0 (i + kq = l.length + 1 ∧ i ≤ l.length) ∧ Aside0 (cellsB (bautaref03_four.f k) (l.drop i) ys = some r) ∧ Aside0 (Kd.R (Kd.int .u8) 5 w' w0.heap.size (fun _ => True) v0 ys) ∧ Aside0 (Below w0.heap.size w0 w'))
    case atStart => exact ⟨0, _, rfl, ⟨Nat.zero_add _, Nat.zero_le _⟩, H, HO, HB⟩
    case round =>
      clear HO HB H
      obtain ⟨i, ys, rfl, HK, H, HO, HB⟩ := hrel
      by_cases hi : i < l.length
      · obtain ⟨LM, zs, h1, h2⟩ := cellsB_step hi H.out
        obtain ⟨ad, e, hx0, hx1⟩ := at_T26 HL.out (i : Int) (Int.natCast_nonneg i) (by omega)
        subst e
        obtain ⟨s, hs⟩ : ∃ s, s = (rd_T26 l (i : Int)).f0 := ⟨_, rfl⟩
        obtain ⟨m, hm⟩ : ∃ m, m = (rd_T26 l (i : Int)).f1 := ⟨_, rfl⟩
        rw [← hs] at LM h1 hx0
        rw [← hm] at h1 hx1
        have q1 : ((i : Int) < (l.length : Int)) = True := eq_true (by omega)
        have q2 : decide ((i : Int) < (l.length : Int)) = true := decide_eq_true (by omega)
        have q3 : (0 ≤ (i : Int)) = True := eq_true (by omega)
        have hw1 := Aside0.mk (show wrap64 ((i : Int) + 1) = ((i + 1 : Nat) : Int) by unfold wrap64; have := Kd.C_max HL.out; omega)
        replace hx0 := Aside0.mk hx0
        replace hx1 := Aside0.mk hx1
        replace h1 := Aside0.mk h1
        replace h2 := Aside0.mk h2
        replace LM := Aside0.mk LM
        have HI := Aside0.mk hi
        clear H hs hm hi
        go_wp2_with fail
        go_region_held3 (fun W => W.cell? (ad.add (i * 2)) = some (.string s)) (exact keepc hx0.out (by repeat (first | (with_reducible first | exact HB.out | apply below_alloc | apply pw_below_drewN | apply below_drew1) | exact HB.out))) (first | (refine Kd.R_append_rows_step (Kd.int .u8) (w0 := w0) w0.heap.size (by rfl) (.tmp 18) (.tmp 26) 29 5 (.int .u8 0) 1 rfl Try.underlying29 info5 rfl (by decide) (by omega) u0 ys [(s.size : Int) % 256] (some ⟨wr.heap.size, 0, none⟩) 1 1 (fun _ => True) (fun _ => False) rfl rfl ?aO ?aR (fun _ _ h => h) (fun _ h => h.elim) ?aF ?aB ?aS ?aL ?_; (case aR => exact Kd.C_drew (Kd.R_reads' (Kd.R_of_own (own_lit wr wr.heap.size 5 .u8 [(s.size : Int) % 256] (Nat.le_refl _) (by simp)) (ok := fun _ => True) (fun _ _ => trivial))).2.2); (case aF => exact (fun _ _ => trivial)); (case aB => exact (by repeat (first | (with_reducible first | exact HB.out | apply below_alloc | apply pw_below_drewN | apply below_drew1) | exact HB.out))); (case aO => exact (by (with_reducible repeat (first | apply Kd.R_alloc | apply Kd.R_drewN | apply Kd.R_drew)); exact HO.out)); (case aS => exact below_size (by repeat (first | (with_reducible first | exact HB.out | apply below_alloc | apply pw_below_drewN | apply below_drew1) | exact HB.out))); (case aL => have := LM.out; omega); intro v1 w1 ho1 hb1 hg1 hat1; have n0 := Aside0.mk ho1; have n1 := Aside0.mk hb1; clear HO HB ho1 hb1 hg1 hat1; have HO := n0; have HB := n1; clear n0 n1) | (refine print_append_str_step (w0 := w0) w0.heap.size (by rfl) (.tmp 27) (.tmp 32) 29 9 5 rfl Try.underlying29 Try.underlying9 info5 _ (ys ++ [(s.size : Int) % 256]) s rfl rfl ?aO ?aB ?aS ?aL ?_; (case aB => exact (by repeat (first | (with_reducible first | exact HB.out | apply below_alloc | apply pw_below_drewN | apply below_drew1) | exact HB.out))); (case aO => exact own_u8 (by (with_reducible repeat (first | apply Kd.R_alloc | apply Kd.R_drewN | apply Kd.R_drew)); exact HO.out)); (case aS => exact below_size (by repeat (first | (with_reducible first | exact HB.out | apply below_alloc | apply pw_below_drewN | apply below_drew1) | exact HB.out))); (case aL => have := LM.out; simp only [List.length_append, List.length_cons, List.length_nil]; omega); intro v2 w2 ho1 hb1 hg1; have n0 := Aside0.mk (R_u8 ho1); have n1 := Aside0.mk hb1; clear HO HB ho1 hb1 hg1; have HO := n0; have HB := n1; clear n0 n1))
        have hx1' : World.cell? _ ⟨(ad.add (i * 2)).block, (ad.add (i * 2)).off + 1, none⟩ = some (.int .i64 m) := keepc hx1.out HB.out
        go_wp2_with (first | (go_at_call 33; refine (bautaref03_four.calls k (fun _ => True) _ _ m zs w0 _ ?hb ?ho h1.out).mono ?_; (case hb => exact (by repeat (first | (with_reducible first | exact HB.out | apply below_alloc | apply pw_below_drewN | apply below_drew1) | exact HB.out))); (case ho => exact (by (with_reducible repeat (first | apply Kd.R_alloc | apply Kd.R_drewN | apply Kd.R_drew)); exact HO.out)); rintro e w3 ⟨v3, rfl, ho1, hb1, hk1⟩; have n0 := Aside0.mk (Kd.R_mono ho1 (ok' := fun _ => True) (fun _ _ => trivial)); have n1 := Aside0.mk hb1; clear HO HB ho1 hb1 hk1; have HO := n0; have HB := n1; clear n0 n1))
        go_roundg (gk - 1)
        case measure => have := HK.out; have := HI.out; omega
        case rel => exact ⟨i + 1, _, congrArg (Value.int .i64) hw1.out, ⟨by have := HK.out; have := HI.out; omega⟩, h2, HO, HB⟩
      · have he : i = l.length := by have := HK.out; omega
        have q1 : ((i : Int) < (l.length : Int)) = False := eq_false (by omega)
        subst he
        go_wp2_with fail
        go_ret
        exact ⟨_, rfl, by rw [← cellsB_end H.out]; exact HO.out, HB.out⟩
  · rw [if_neg c1] at h
    cases h
end Go.Proofs.Ytimhllaahihhgaa.PA
