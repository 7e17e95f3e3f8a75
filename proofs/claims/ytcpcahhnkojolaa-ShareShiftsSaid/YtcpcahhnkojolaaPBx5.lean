/- Written by this session's own program (wip/tools/pr.sh) for this claim: functions of the Go program as plain Lean functions, and that the calls come to what these say; in a Law text: the given statement. Conditions: none but the hypotheses that each theorem states. -/
import Derived.Test.YtcpcahhnkojolaaPBx0
import Derived.Test.YtcpcahhnkojolaaPBx1
import Derived.Test.YtcpcahhnkojolaaPBx4
namespace Go.Proofs.Ytcpcahhnkojolaa.PB
open Go.RowKit Go.Proofs.YtcpcahhnkojolaaW.PrintWords Go.Proofs.YtcpcahhnkojolaaW.PrintLast Go.Proofs.YtcpcahhnkojolaaW.PrintMore
attribute [local go_sem] max2_int min2_int max_two min_two max_three min_three max_four min_four   -- for this text's walks alone
set_option linter.unusedVariables false
set_option linter.unusedSimpArgs false

/-! ### share_Shift: function 19 -/
theorem share_Shift_1.calls (x c y : Int) (b : Nat) (w : World) (hc : w.cell? ⟨b, 0, none⟩ = some (.int .u32 c)) (h : word_Rot.f x c = some y) :
    Calls Try.prog 27 #[.int .u32 x, .pointer (some ⟨b, 0, none⟩)] w fun e w' => e = .returned (.int .u32 y) ∧ Drawn0 w w' := by
  replace h := Aside0.mk h
  go_enter Try.func27, Try.ntmps27
  go_wp2_with (go_at_call 28; refine (word_Rot.calls x c y _ h.out).mono ?_; rintro e w' ⟨rfl, ⟨nd, rfl⟩⟩)
  go_ret
  exact ⟨rfl, ⟨_, rfl⟩⟩
set_option maxHeartbeats 1000000 in
theorem share_Shift_2.calls (k : Nat) (x kd c y : Int) (b3 b5 : Nat) (w : World) (hkd : kd = 6 ∨ kd = 7) (h3 : w.cell? ⟨b3, 0, none⟩ = some (.int .i64 kd)) (h5 : w.cell? ⟨b5, 0, none⟩ = some (.int .u32 c)) (h : ((word_Shift.f k (kd - 6) x c false).bind fun p => some p.1) = some y) :
    Calls Try.prog 29 #[.int .u32 x, .pointer (some ⟨b3, 0, none⟩), .pointer (some ⟨b5, 0, none⟩)] w fun e w' => e = .returned (.int .u32 y) ∧ Below w.heap.size w w' := by
  obtain ⟨⟨y1, y2⟩, h1, h2⟩ := Option.bind_eq_some_iff.mp h
  obtain rfl := Option.some.inj h2
  clear h h2
  rcases hkd with rfl | rfl
  · replace h1 := Aside0.mk (show word_Shift.f k 0 x c false = some (y1, y2) from h1)
    go_enter Try.func29, Try.ntmps29
    go_wp2_with (go_at_call 30; refine (word_Shift.calls k 0 x c false y1 y2 _ h1.out).mono ?_; rintro e w' ⟨rfl, hb⟩; replace hb := Aside0.mk hb)
    go_ret
    exact ⟨rfl, hb.out⟩
  · replace h1 := Aside0.mk (show word_Shift.f k 1 x c false = some (y1, y2) from h1)
    go_enter Try.func29, Try.ntmps29
    go_wp2_with (go_at_call 30; refine (word_Shift.calls k 1 x c false y1 y2 _ h1.out).mono ?_; rintro e w' ⟨rfl, hb⟩; replace hb := Aside0.mk hb)
    go_ret
    exact ⟨rfl, hb.out⟩

/-! ### share.each at function 27 -/
def share_each_rot.l0 : Nat → Int → List Int → Int → Option (List Int)
  | 0, _, _, _ => none
  | k + 1, c, xs, i => if i < (xs.length : Int) then (if 0 ≤ i then ((word_Rot.f (rd xs i) c).bind fun y => share_each_rot.l0 k c (xs.set i.toNat y) (wrap64 (i + 1))) else none) else some xs
def share_each_rot.f (k : Nat) (c : Int) (l0 : List Int) : Option (List Int) := (slices_Clone_uint32_uint32.f l0).bind fun y => share_each_rot.l0 k c y 0
set_option maxHeartbeats 2000000 in
set_option maxRecDepth 100000 in
theorem share_each_rot.calls (k : Nat) (c : Int) (A0 : Option Addr) (c0 : Nat) (l0 : List Int) (b : Nat) (r : List Int) (w : World) (hr0 : Kd.C (Kd.int .u32) w A0 l0.length l0) (hc0 : l0.length ≤ c0) (hcell : w.cell? ⟨b, 0, none⟩ = some (.int .u32 c)) (h : share_each_rot.f k c l0 = some r) :
    Calls Try.prog 24 #[.slice A0 l0.length c0, .func (.func 27) #[] #[.pointer (some ⟨b, 0, none⟩)]] w fun e w' => ∃ v0_ : Value, e = .returned (v0_) ∧ Kd.R (Kd.int .u32) 22 w' w.heap.size (fun _ => True) v0_ r ∧ Below w.heap.size w w' := by
  unfold share_each_rot.f at h
  obtain ⟨y0, hy0, h⟩ := Option.bind_eq_some_iff.mp h
  have HY := Aside0.mk hy0
  have H' := Aside0.mk h
  have HR0 := Aside0.mk hr0
  have HC0 := Aside0.mk hc0
  replace hcell := Aside0.mk hcell
  clear hy0 h hr0 hc0
  go_enter Try.func24, Try.ntmps24
  go_wp2_with (go_at_call 22; refine (slices_Clone_uint32_uint32.calls _ _ _ _ _ HR0.out HC0.out HY.out).mono ?_; rintro e w1 ⟨v1, rfl, ho1, hb1⟩; obtain ⟨Ao, co, eo⟩ := Kd.R_slice ho1; subst eo; replace ho1 := Aside0.mk ho1; replace hb1 := Aside0.mk hb1)
  go_loopg [5, 6, 11] k (fun kq v5 v6 v11 w' => ∃ (xs : List Int) (i : Int), v11 = .int .i64 i ∧ Aside0 (share_each_rot.l0 kq c xs i = some r) ∧ Aside0 (kq ≤ k) ∧ Aside0 (xs.length = y0.length) ∧ Aside0 (Kd.R (Kd.int .u32) 22 w' w.heap.size (fun _ => True) (.slice Ao y0.length co) xs) ∧ Aside0 (Below w.heap.size w w'))
  case atStart => exact ⟨y0, 0, rfl, H', ⟨Nat.le_refl _⟩, ⟨rfl⟩, ⟨ho1.out⟩, ⟨hb1.out⟩⟩
  case round =>
    clear H' HY HR0 HC0 ho1 hb1
    obtain ⟨xs, i, rfl, HA, HK, HL, HO, HB⟩ := hrel
    cases gk with
    | zero => exact absurd HA.out (by simp [share_each_rot.l0])
    | succ k1 =>
      have H := HA.out
      clear HA
      simp only [share_each_rot.l0] at H
      by_cases c1 : i < (xs.length : Int)
      · rw [if_pos c1] at H
        by_cases c2 : 0 ≤ i
        · rw [if_pos c2] at H
          obtain ⟨y, hy, H⟩ := Option.bind_eq_some_iff.mp H
          replace hy := Aside0.mk hy
          have H' := Aside0.mk H
          clear H
          have c1b : decide (i < (y0.length : Int)) = true := decide_eq_true (by have := HL.out; omega)
          have q1 : (i < (y0.length : Int)) = True := eq_true (by have := HL.out; omega)
          have q2 : (0 ≤ i) = True := eq_true c2
          have hl2 := HL.out
          obtain ⟨go1, co1, eo1, gb1, gl1, cl1, HG1⟩ := Kd.R_form HO.out (by omega)
          injection eo1 with ea en ec
          subst ea
          clear en ec
          have GB := Aside0.mk gb1
          clear gl1 HG1 gb1
          have hx := Kd.R_celln (d := (0 : Int)) HO.out i c2 (by omega)
          have hxc : wr.cell? ⟨go1, i.toNat, none⟩ = some (.int .u32 (rd xs i)) := hx.1
          have hcl := fun (W' : World) (hb : Below wr.heap.size wr W') => Kd.R_celln (d := (0 : Int)) (Kd.R_below HO.out hb) i c2 (by omega)
          have HP := fun (W' : World) (hb : Below wr.heap.size wr W') => Kd.R_putg (Kd.R_below HO.out hb) i y
          replace HP := Aside0.mk HP
          replace hcl := Aside0.mk hcl
          clear hx c1 c2 hl2
          go_wp2_with (go_at_call 27; refine (share_Shift_1.calls (rd xs i) c y b _ (pw_cell_below HB.out hcell.out) hy.out).mono ?_; rintro e w2 ⟨rfl, hd2⟩; have hb2 := Aside0.mk hd2.below; clear hd2; have hf2 := (hcl.out w2 hb2.out).2; have hc2 := (hcl.out w2 hb2.out).1)
          go_roundg k1
          case measure => have := HK.out; omega
          case rel =>
            refine ⟨xs.set i.toNat y, wrap64 (i + 1), (by first | rfl | go_num), H', ⟨by have := HK.out; omega⟩, ⟨by rw [List.length_set]; exact HL.out⟩, ⟨(HP.out _ hb2.out).1⟩, ⟨below_set (HB.out.trans (hb2.out.mono HB.out.size)) GB.out⟩⟩
        · rw [if_neg c2] at H
          cases H
      · rw [if_neg c1] at H
        have c1b : decide (i < (y0.length : Int)) = false := decide_eq_false (by have := HL.out; omega)
        obtain rfl := Option.some.inj H
        clear c1
        go_wp2
        go_ret
        exact ⟨_, rfl, HO.out, HB.out⟩

/-! ### share.each at function 29 -/
def share_each_shift.l0 : Nat → Int → Int → List Int → Int → Option (List Int)
  | 0, _, _, _, _ => none
  | k + 1, kd, c, xs, i => if i < (xs.length : Int) then (if 0 ≤ i then (((word_Shift.f k (kd - 6) (rd xs i) c false).bind fun p => some p.1).bind fun y => share_each_shift.l0 k kd c (xs.set i.toNat y) (wrap64 (i + 1))) else none) else some xs
def share_each_shift.f (k : Nat) (kd : Int) (c : Int) (l0 : List Int) : Option (List Int) := (slices_Clone_uint32_uint32.f l0).bind fun y => share_each_shift.l0 k kd c y 0
set_option maxHeartbeats 2000000 in
set_option maxRecDepth 100000 in
theorem share_each_shift.calls (k : Nat) (kd : Int) (c : Int) (A0 : Option Addr) (c0 : Nat) (l0 : List Int) (b3 b5 : Nat) (hkd : kd = 6 ∨ kd = 7) (r : List Int) (w : World) (hr0 : Kd.C (Kd.int .u32) w A0 l0.length l0) (hc0 : l0.length ≤ c0) (hcell3 : w.cell? ⟨b3, 0, none⟩ = some (.int .i64 kd)) (hcell5 : w.cell? ⟨b5, 0, none⟩ = some (.int .u32 c)) (h : share_each_shift.f k kd c l0 = some r) :
    Calls Try.prog 24 #[.slice A0 l0.length c0, .func (.func 29) #[] #[.pointer (some ⟨b3, 0, none⟩), .pointer (some ⟨b5, 0, none⟩)]] w fun e w' => ∃ v0_ : Value, e = .returned (v0_) ∧ Kd.R (Kd.int .u32) 22 w' w.heap.size (fun _ => True) v0_ r ∧ Below w.heap.size w w' := by
  unfold share_each_shift.f at h
  obtain ⟨y0, hy0, h⟩ := Option.bind_eq_some_iff.mp h
  have HY := Aside0.mk hy0
  have H' := Aside0.mk h
  have HR0 := Aside0.mk hr0
  have HC0 := Aside0.mk hc0
  replace hkd := Aside0.mk hkd
  replace hcell3 := Aside0.mk hcell3
  replace hcell5 := Aside0.mk hcell5
  clear hy0 h hr0 hc0
  go_enter Try.func24, Try.ntmps24
  go_wp2_with (go_at_call 22; refine (slices_Clone_uint32_uint32.calls _ _ _ _ _ HR0.out HC0.out HY.out).mono ?_; rintro e w1 ⟨v1, rfl, ho1, hb1⟩; obtain ⟨Ao, co, eo⟩ := Kd.R_slice ho1; subst eo; replace ho1 := Aside0.mk ho1; replace hb1 := Aside0.mk hb1)
  go_loopg [5, 6, 11] k (fun kq v5 v6 v11 w' => ∃ (xs : List Int) (i : Int), v11 = .int .i64 i ∧ Aside0 (share_each_shift.l0 kq kd c xs i = some r) ∧ Aside0 (kq ≤ k) ∧ Aside0 (xs.length = y0.length) ∧ Aside0 (Kd.R (Kd.int .u32) 22 w' w.heap.size (fun _ => True) (.slice Ao y0.length co) xs) ∧ Aside0 (Below w.heap.size w w'))
  case atStart => exact ⟨y0, 0, rfl, H', ⟨Nat.le_refl _⟩, ⟨rfl⟩, ⟨ho1.out⟩, ⟨hb1.out⟩⟩
  case round =>
    clear H' HY HR0 HC0 ho1 hb1
    obtain ⟨xs, i, rfl, HA, HK, HL, HO, HB⟩ := hrel
    cases gk with
    | zero => exact absurd HA.out (by simp [share_each_shift.l0])
    | succ k1 =>
      have H := HA.out
      clear HA
      simp only [share_each_shift.l0] at H
      by_cases c1 : i < (xs.length : Int)
      · rw [if_pos c1] at H
        by_cases c2 : 0 ≤ i
        · rw [if_pos c2] at H
          obtain ⟨y, hy, H⟩ := Option.bind_eq_some_iff.mp H
          replace hy := Aside0.mk hy
          have H' := Aside0.mk H
          clear H
          have c1b : decide (i < (y0.length : Int)) = true := decide_eq_true (by have := HL.out; omega)
          have q1 : (i < (y0.length : Int)) = True := eq_true (by have := HL.out; omega)
          have q2 : (0 ≤ i) = True := eq_true c2
          have hl2 := HL.out
          obtain ⟨go1, co1, eo1, gb1, gl1, cl1, HG1⟩ := Kd.R_form HO.out (by omega)
          injection eo1 with ea en ec
          subst ea
          clear en ec
          have GB := Aside0.mk gb1
          clear gl1 HG1 gb1
          have hx := Kd.R_celln (d := (0 : Int)) HO.out i c2 (by omega)
          have hxc : wr.cell? ⟨go1, i.toNat, none⟩ = some (.int .u32 (rd xs i)) := hx.1
          have hcl := fun (W' : World) (hb : Below wr.heap.size wr W') => Kd.R_celln (d := (0 : Int)) (Kd.R_below HO.out hb) i c2 (by omega)
          have HP := fun (W' : World) (hb : Below wr.heap.size wr W') => Kd.R_putg (Kd.R_below HO.out hb) i y
          replace HP := Aside0.mk HP
          replace hcl := Aside0.mk hcl
          clear hx c1 c2 hl2
          go_wp2_with (go_at_call 29; refine (share_Shift_2.calls k1 (rd xs i) kd c y b3 b5 _ hkd.out (pw_cell_below HB.out hcell3.out) (pw_cell_below HB.out hcell5.out) hy.out).mono ?_; rintro e w2 ⟨rfl, hd2⟩; have hb2 := Aside0.mk hd2; clear hd2; have hf2 := (hcl.out w2 hb2.out).2; have hc2 := (hcl.out w2 hb2.out).1)
          go_roundg k1
          case measure => have := HK.out; omega
          case rel =>
            refine ⟨xs.set i.toNat y, wrap64 (i + 1), (by first | rfl | go_num), H', ⟨by have := HK.out; omega⟩, ⟨by rw [List.length_set]; exact HL.out⟩, ⟨(HP.out _ hb2.out).1⟩, ⟨below_set (HB.out.trans (hb2.out.mono HB.out.size)) GB.out⟩⟩
        · rw [if_neg c2] at H
          cases H
      · rw [if_neg c1] at H
        have c1b : decide (i < (y0.length : Int)) = false := decide_eq_false (by have := HL.out; omega)
        obtain rfl := Option.some.inj H
        clear c1
        go_wp2
        go_ret
        exact ⟨_, rfl, HO.out, HB.out⟩

def share_Shift.f (k : Nat) (a0 : Int) (l1 : List Int) (a2 : Int) : Option (List Int) := if a0 = 8 then share_each_rot.f k a2 l1 else if a0 = 6 then share_each_shift.f k a0 a2 l1 else if a0 = 7 then share_each_shift.f k a0 a2 l1 else some []
theorem share_each_rot.mono_l : ∀ k, ∀ c xs i, LeO (share_each_rot.l0 k c xs i) (share_each_rot.l0 (k + 1) c xs i)
  | 0 => fun _ _ _ r h => by simp [share_each_rot.l0] at h
  | k + 1 => by
    have ih := share_each_rot.mono_l k
    intro c xs i
    unfold share_each_rot.l0
    exact LeO.ite (LeO.ite (LeO.bind (LeO.refl _) fun _ => ih _ _ _) (LeO.refl _)) (LeO.refl _)
theorem share_each_shift.mono_l : ∀ k, ∀ d c xs i, LeO (share_each_shift.l0 k d c xs i) (share_each_shift.l0 (k + 1) d c xs i)
  | 0 => fun _ _ _ _ r h => by simp [share_each_shift.l0] at h
  | k + 1 => by
    have ih := share_each_shift.mono_l k
    intro d c xs i
    unfold share_each_shift.l0
    exact LeO.ite (LeO.ite (LeO.bind (LeO.bind (word_Shift.mono _ _ _ _ _) fun _ => LeO.refl _) fun _ => ih _ _ _ _) (LeO.refl _)) (LeO.refl _)
theorem share_Shift.mono : ∀ a0 a1 a2 k, LeO (share_Shift.f k a0 a1 a2) (share_Shift.f (k + 1) a0 a1 a2) := by
  intro a0 a1 a2 k
  unfold share_Shift.f share_each_rot.f share_each_shift.f
  exact LeO.ite (LeO.bind (LeO.refl _) fun _ => share_each_rot.mono_l k _ _ _) (LeO.ite (LeO.bind (LeO.refl _) fun _ => share_each_shift.mono_l k _ _ _ _) (LeO.ite (LeO.bind (LeO.refl _) fun _ => share_each_shift.mono_l k _ _ _ _) (LeO.refl _)))
set_option maxHeartbeats 2000000 in
set_option maxRecDepth 100000 in
theorem share_Shift.calls (k : Nat) (a0 : Int) (A1 : Option Addr) (c1 : Nat) (l1 : List Int) (a2 : Int) (r : List Int) (w : World) (hr1 : Kd.C (Kd.int .u32) w A1 l1.length l1) (hc1 : l1.length ≤ c1) (h : share_Shift.f k a0 l1 a2 = some r) :
    Calls Try.prog 19 #[.int .i64 a0, .slice A1 l1.length c1, .int .u32 a2] w fun e w' => ∃ v0_ : Value, e = .returned (v0_) ∧ Kd.R (Kd.int .u32) 22 w' w.heap.size (fun _ => True) v0_ r ∧ Below w.heap.size w w' := by
  have hmf : ∀ (fn : Fn) (first cap : Array Value) (w : World), (Instr.makeFunc fn first cap).run Try.prog w = .ok (.func fn first cap) w := fun _ _ _ _ => rfl
  obtain ⟨w1, hw1⟩ : ∃ W, W = (w.alloc (.cells #[.int .i64 a0] 3)).alloc (.cells #[.int .u32 a2] 22) := ⟨_, rfl⟩
  have HB := Aside0.mk (show Below w.heap.size w w1 by rw [hw1]; exact below_alloc (below_alloc (Below.refl w.heap.size w) _) _)
  have hc3 : w1.cell? ⟨w.heap.size, 0, none⟩ = some (.int .i64 a0) := by
    rw [hw1]; exact blk_cell (blk_alloc (blk_new w (.cells #[.int .i64 a0] 3)) _) 0
  have hc5 : w1.cell? ⟨w.heap.size + 1, 0, none⟩ = some (.int .u32 a2) := by
    rw [hw1]
    have := blk_cell (blk_new (w.alloc (.cells #[.int .i64 a0] 3)) (.cells #[.int .u32 a2] 22)) 0
    first | exact this | (simp; done)
  have h3 := Aside0.mk (by rw [hw1] at hc3; exact hc3)
  have h5 := Aside0.mk (by rw [hw1] at hc5; exact hc5)
  replace HB := Aside0.mk (by rw [hw1] at HB; exact HB.out)
  have hl3 := h3.out
  clear hc3 hc5 hw1 w1
  have HR := Aside0.mk (Kd.C_below hr1 HB.out)
  have HC := Aside0.mk hc1
  unfold share_Shift.f at h
  clear hr1 hc1
  by_cases c8 : a0 = 8
  · rw [if_pos c8] at h
    subst c8
    have H := Aside0.mk h
    clear h
    go_enter Try.func19, Try.ntmps19
    go_wp2_with (go_at_call 24; refine (share_each_rot.calls k a2 A1 c1 l1 (w.heap.size + 1) r _ HR.out HC.out h5.out H.out).mono ?_; rintro e w1 ⟨v1, rfl, ho1, hb1⟩; replace ho1 := Aside0.mk ho1; replace hb1 := Aside0.mk hb1)
    go_ret
    exact ⟨_, rfl, Kd.R_lower ho1.out (HB.out.size), HB.out.trans (hb1.out.mono HB.out.size)⟩
  · rw [if_neg c8] at h
    have c8b : (a0 == 8) = false := beq_eq_false_iff_ne.mpr c8
    by_cases c6 : a0 = 6
    · rw [if_pos c6] at h
      subst c6
      have H := Aside0.mk h
      clear h c8 c8b
      go_enter Try.func19, Try.ntmps19
      go_wp2_with (go_at_call 24; refine (share_each_shift.calls k 6 a2 A1 c1 l1 w.heap.size (w.heap.size + 1) (.inl rfl) r _ HR.out HC.out h3.out h5.out H.out).mono ?_; rintro e w1 ⟨v1, rfl, ho1, hb1⟩; replace ho1 := Aside0.mk ho1; replace hb1 := Aside0.mk hb1)
      go_ret
      exact ⟨_, rfl, Kd.R_lower ho1.out (HB.out.size), HB.out.trans (hb1.out.mono HB.out.size)⟩
    · rw [if_neg c6] at h
      have c6b : (a0 == 6) = false := beq_eq_false_iff_ne.mpr c6
      by_cases c7 : a0 = 7
      · rw [if_pos c7] at h
        subst c7
        have H := Aside0.mk h
        clear h c8 c8b c6 c6b
        go_enter Try.func19, Try.ntmps19
        go_wp2_with (go_at_call 24; refine (share_each_shift.calls k 7 a2 A1 c1 l1 w.heap.size (w.heap.size + 1) (.inr rfl) r _ HR.out HC.out h3.out h5.out H.out).mono ?_; rintro e w1 ⟨v1, rfl, ho1, hb1⟩; replace ho1 := Aside0.mk ho1; replace hb1 := Aside0.mk hb1)
        go_ret
        exact ⟨_, rfl, Kd.R_lower ho1.out (HB.out.size), HB.out.trans (hb1.out.mono HB.out.size)⟩
      · rw [if_neg c7] at h
        have c7b : (a0 == 7) = false := beq_eq_false_iff_ne.mpr c7
        obtain rfl := Option.some.inj h
        clear h c8 c6 c7
        go_enter Try.func19, Try.ntmps19
        go_wp2
        go_ret
        exact ⟨_, rfl, Kd.R_nil _ _ _ _ _, HB.out⟩

/-! ### bautaref01_Bits: function 34 -/
def bautaref01_Bits.l0 : Nat → Int → List Bool → Int → Option (List Bool)
  | 0, _, _, _ => none
  | k + 1, x0, x3, x4 => if x4 < 32 then (if x3.length < 140737488355328 then (bautaref01_Bits.l0 k ((Int.tdiv x0 2) % 4294967296) (x3 ++ [((Int.tmod x0 2) == 1)]) (wrap64 (x4 + 1))) else (none)) else (some x3)
def bautaref01_Bits.f (k : Nat) (a0 : Int) : Option (List Bool) := bautaref01_Bits.l0 k a0 (([] : List Bool)) 0
theorem bautaref01_Bits.mono_l : ∀ k, (∀ y0 y1 y2, LeO (bautaref01_Bits.l0 k y0 y1 y2) (bautaref01_Bits.l0 (k + 1) y0 y1 y2))
  | 0 => fun _ _ _ r h => by simp [bautaref01_Bits.l0] at h
  | k + 1 => by
    have ih0 := bautaref01_Bits.mono_l k
    · intro y0 y1 y2
      unfold bautaref01_Bits.l0
      repeat' first
      | (with_reducible exact ih0 _ _ _)
      | (with_reducible exact LeO.refl _)
      | (with_reducible exact LeO.none _)
      | (with_reducible refine LeO.ite ?_ ?_)
      | (with_reducible refine LeO.bind ?_ (fun _ => ?_))
      | exact ih0 _ _ _
      | exact LeO.none _
      | refine LeO.ite ?_ ?_
      | refine LeO.bind ?_ (fun _ => ?_)
theorem bautaref01_Bits.mono : ∀ a0 k, LeO (bautaref01_Bits.f k a0) (bautaref01_Bits.f (k + 1) a0) := by
  intro a0 k
  have ih0 := bautaref01_Bits.mono_l k
  unfold bautaref01_Bits.f
  repeat' first
      | (with_reducible exact ih0 _ _ _)
      | (with_reducible exact LeO.refl _)
      | (with_reducible exact LeO.none _)
      | (with_reducible refine LeO.ite ?_ ?_)
      | (with_reducible refine LeO.bind ?_ (fun _ => ?_))
      | exact ih0 _ _ _
      | exact LeO.none _
      | refine LeO.ite ?_ ?_
      | refine LeO.bind ?_ (fun _ => ?_)
set_option maxHeartbeats 8000000 in
set_option maxRecDepth 100000 in
theorem bautaref01_Bits.calls (k : Nat) (a0 : Int) (r : List Bool) (w : World) (h : bautaref01_Bits.f k a0 = some r) :
    Calls Try.prog 34 #[.int .u32 a0] w fun e w' => ∃ v0_ : Value, e = .returned (v0_) ∧ Kd.R Kd.bool 4 w' w.heap.size (fun _ => True) v0_ r ∧ Below w.heap.size w w' := by
  have HB := Aside0.mk (Below.refl w.heap.size w)
  have H : (bautaref01_Bits.l0 k a0 (([] : List Bool)) 0) = some r := h
  clear h
  obtain ⟨y276, hy276⟩ : ∃ y_ : List Bool, y_ = (([] : List Bool)) := ⟨_, rfl⟩
  replace H : (bautaref01_Bits.l0 k a0 y276 0) = some r := by first | (rw [hy276]; with_reducible exact H) | (have H2_ := (Option.bind_some _ _).symm.trans H; rw [hy276]; with_reducible exact H2_) | (have H2_ := (Option.bind_some _ _).symm.trans H; with_reducible exact H2_) | with_reducible exact H | (rw [hy276]; exact H) | exact H
  have Ny276 := Aside0.mk hy276
  clear hy276
  have H' := Aside0.mk H
  clear H
  go_enter Try.func34, Try.ntmps34
  go_wp2_with (first | ((with_reducible refine gate_dst (N := 5) rfl ?_); refine Kd.R_lit Kd.bool _ 4 ?hg (N := 5) ?hd (xs := ([] : List Bool)) (inner := []) (ok := fun _ => True) (okp := fun _ => True) ?hr ?hp (fun _ hk => hk) trivial (Below.refl _ _) (Nat.le_refl _) (by simp) ?_; (case hd => rfl); (case hg => rfl); (case hr => first | (go_simp; done) | (go_simp; rfl)); (case hp => exact (Reps.none _ _)); intro v277 w2 ho3 hb hg_ hnew_; clear hg_ hnew_; (first | rw [← Ny276.out] at ho3 | (simp only [Int.reduceToNat] at ho3; rw [← Ny276.out] at ho3)); have n0_ := Aside0.mk (Kd.R_lower ho3 (below_size (by repeat (first | (with_reducible first | exact HB.out | apply below_alloc | apply pw_below_drewN | apply below_drew1) | exact HB.out)))); have n1_ := Aside0.mk (below_step (by repeat (first | (with_reducible first | exact HB.out | apply below_alloc | apply pw_below_drewN | apply below_drew1) | exact HB.out)) hb); clear HB; have HO278 := n0_; have HB := n1_; clear n0_ n1_; clear hb ho3))
  go_loopg [0, 3, 4] k (fun kq v0 v3 v4 w' => ∃ (x0_1 : Int) (x3_1 : List Bool) (x4_1 : Int), v0 = .int .u32 x0_1 ∧ v4 = .int .i64 x4_1 ∧ Aside0 (bautaref01_Bits.l0 kq x0_1 x3_1 x4_1 = some r) ∧ Aside0 (kq ≤ k) ∧ Aside0 (Kd.R Kd.bool 4 w' w.heap.size (fun _ => True) v3 x3_1) ∧ Aside0 (Below w.heap.size w w'))
  case atStart => exact ⟨(a0), (y276), (0), (by first | rfl | (simp; done) | (simp [*]; done) | (simp; omega)), (by first | rfl | (simp; done) | (simp [*]; done) | (simp; omega)), H', ⟨Nat.le_refl _⟩, ⟨by (with_reducible repeat (first | apply Kd.R_alloc | apply Kd.R_drewN | apply Kd.R_drew)); exact HO278.out⟩, ⟨by repeat (first | (with_reducible first | exact HB.out | apply below_alloc | apply pw_below_drewN | apply below_drew1) | exact HB.out)⟩⟩
  case round =>
    clear H'
    try clear p2
    try clear c3
    obtain ⟨x0_1, x3_1, x4_1, rfl, rfl, HA, HK1, HO_3, HB⟩ := hrel
    cases gk with
    | zero => exact absurd HA.out (by simp [bautaref01_Bits.l0])
    | succ k1 =>
      have H := HA.out
      clear HA
      simp only [bautaref01_Bits.l0] at H
      by_cases c4 : x4_1 < 32
      · rw [if_pos c4] at H
        have c4b0 : decide (x4_1 < 32) = true := decide_eq_true c4
        clear c4
        by_cases c5 : x3_1.length < 140737488355328
        · rw [if_pos c5] at H
          have LMc5 := Aside0.mk c5
          clear c5
          obtain ⟨y279, hy279⟩ : ∃ y_ : List Bool, y_ = (x3_1 ++ [((Int.tmod x0_1 2) == 1)]) := ⟨_, rfl⟩
          replace H : (bautaref01_Bits.l0 k1 ((Int.tdiv x0_1 2) % 4294967296) y279 (wrap64 (x4_1 + 1))) = some r := by first | (rw [hy279]; with_reducible exact H) | (have H2_ := (Option.bind_some _ _).symm.trans H; rw [hy279]; with_reducible exact H2_) | (have H2_ := (Option.bind_some _ _).symm.trans H; with_reducible exact H2_) | with_reducible exact H | (rw [hy279]; exact H) | exact H
          have Ny279 := Aside0.mk hy279
          clear hy279
          have H' := Aside0.mk H
          clear H
          go_wp2_with (first | ((with_reducible refine gate_builtin (b := .append) (xs := #[.tmp 10, .tmp 14]) rfl ?_); at_builtin; refine Kd.R_append Kd.bool (w0 := w) w.heap.size rfl (.tmp 10) (.tmp 14) 44 4 (.bool false) 1 rfl Try.underlying44 info4 rfl (by decide) (by omega) u3 x3_1 ((Int.tmod x0_1 2) == 1) [.bool ((Int.tmod x0_1 2) == 1)] (fun _ => True) (fun _ => False) rfl rfl ?aP (fun _ hk => hk.elim) ?aF ?aO ?aB ?aS ?aL ?_; (case aP => exact rfl); (case aB => exact (by repeat (first | (with_reducible first | exact HB.out | apply below_alloc | apply pw_below_drewN | apply below_drew1) | exact HB.out))); (case aF => exact (fun _ _ => trivial)); (case aO => exact (by (with_reducible repeat (first | apply Kd.R_alloc | apply Kd.R_drewN | apply Kd.R_drew)); exact HO_3.out)); (case aS => exact (below_size (by repeat (first | (with_reducible first | exact HB.out | apply below_alloc | apply pw_below_drewN | apply below_drew1) | exact HB.out)))); (case aL => have := LMc5.out; first | omega | (simp only [List.length_take] at *; omega)); intro v280 w6 ho hb hg hat; rw [← Ny279.out] at ho; have n0_ := Aside0.mk (hb); have n1_ := Aside0.mk (ho); clear HB; clear HO_3; have HB := n0_; have HO281 := n1_; clear n0_ n1_; clear ho hb hg hat))
          go_roundg k1
          case measure => have := HK1.out; omega
          case rel => exact ⟨((Int.tdiv x0_1 2) % 4294967296), (y279), (wrap64 (x4_1 + 1)), (by first | rfl | (simp; done) | (simp [*]; done) | (simp; omega)), (by first | rfl | (simp; done) | (simp [*]; done) | (simp; omega)), H', ⟨by have := HK1.out; omega⟩, ⟨by (with_reducible repeat (first | apply Kd.R_alloc | apply Kd.R_drewN | apply Kd.R_drew)); exact HO281.out⟩, ⟨by repeat (first | (with_reducible first | exact HB.out | apply below_alloc | apply pw_below_drewN | apply below_drew1) | exact HB.out)⟩⟩
        · rw [if_neg c5] at H
          exact absurd H (by simp)
      · rw [if_neg c4] at H
        have c4b0 : decide (x4_1 < 32) = false := decide_eq_false c4
        clear c4
        obtain rfl := Option.some.inj H
        go_wp2
        go_ret
        exact ⟨_, by first | rfl | (simp [errW_none, errW_some] <;> rfl) | (simp [*, errW_none, errW_some] <;> rfl), by (with_reducible repeat (first | apply Kd.R_alloc | apply Kd.R_drewN | apply Kd.R_drew)); exact HO_3.out, by repeat (first | (with_reducible first | exact HB.out | apply below_alloc | apply pw_below_drewN | apply below_drew1) | exact HB.out)⟩

/-! ### bautaref01_Word: function 35 -/
def bautaref01_Word.l0 : Nat → List Bool → Int → Int → Option (Int)
  | 0, _, _, _ => none
  | k + 1, x0, x3, x4 => if x4 ≥ 0 then (if 0 ≤ x4 then (if x4 < (x0.length : Int) then (if rdOf false x0 x4 = true then (bautaref01_Word.l0 k x0 ((((x3 * 2) % 4294967296) + 1) % 4294967296) (wrap64 (x4 - 1))) else (bautaref01_Word.l0 k x0 ((x3 * 2) % 4294967296) (wrap64 (x4 - 1)))) else (none)) else (none)) else (some x3)
def bautaref01_Word.f (k : Nat) (l0 : List Bool) : Option (Int) := bautaref01_Word.l0 k l0 0 (wrap64 ((l0.length : Int) - 1))
theorem bautaref01_Word.mono_l : ∀ k, (∀ y0 y1 y2, LeO (bautaref01_Word.l0 k y0 y1 y2) (bautaref01_Word.l0 (k + 1) y0 y1 y2))
  | 0 => fun _ _ _ r h => by simp [bautaref01_Word.l0] at h
  | k + 1 => by
    have ih0 := bautaref01_Word.mono_l k
    · intro y0 y1 y2
      unfold bautaref01_Word.l0
      repeat' first
      | (with_reducible exact ih0 _ _ _)
      | (with_reducible exact LeO.refl _)
      | (with_reducible exact LeO.none _)
      | (with_reducible refine LeO.ite ?_ ?_)
      | (with_reducible refine LeO.bind ?_ (fun _ => ?_))
      | exact ih0 _ _ _
      | exact LeO.none _
      | refine LeO.ite ?_ ?_
      | refine LeO.bind ?_ (fun _ => ?_)
theorem bautaref01_Word.mono : ∀ a0 k, LeO (bautaref01_Word.f k a0) (bautaref01_Word.f (k + 1) a0) := by
  intro a0 k
  have ih0 := bautaref01_Word.mono_l k
  unfold bautaref01_Word.f
  repeat' first
      | (with_reducible exact ih0 _ _ _)
      | (with_reducible exact LeO.refl _)
      | (with_reducible exact LeO.none _)
      | (with_reducible refine LeO.ite ?_ ?_)
      | (with_reducible refine LeO.bind ?_ (fun _ => ?_))
      | exact ih0 _ _ _
      | exact LeO.none _
      | refine LeO.ite ?_ ?_
      | refine LeO.bind ?_ (fun _ => ?_)
set_option maxHeartbeats 8000000 in
set_option maxRecDepth 100000 in
theorem bautaref01_Word.calls (k : Nat) (A0 : Option Addr) (c0 : Nat) (l0 : List Bool) (r : Int) (w : World) (hr0 : Kd.C Kd.bool w A0 l0.length l0) (hc0 : l0.length ≤ c0) (h : bautaref01_Word.f k l0 = some r) :
    Calls Try.prog 35 #[.slice A0 l0.length c0] w fun e w' => e = .returned (.int .u32 r) ∧ Drawn0 w w' := by
  have HR0 := Aside0.mk hr0
  have HC0 := Aside0.mk hc0
  clear hr0 hc0
  have H : (bautaref01_Word.l0 k l0 0 (wrap64 ((l0.length : Int) - 1))) = some r := h
  clear h
  have H' := Aside0.mk H
  clear H
  go_enter Try.func35, Try.ntmps35
  go_wp2
  go_loopg [3, 4] k (fun kq v3 v4 w' => ∃ (x3_1 : Int) (x4_1 : Int), v3 = .int .u32 x3_1 ∧ v4 = .int .i64 x4_1 ∧ Aside0 (bautaref01_Word.l0 kq l0 x3_1 x4_1 = some r) ∧ Aside0 (kq ≤ k) ∧ Drawn0 w w')
  case atStart => exact ⟨(0), (wrap64 ((l0.length : Int) - 1)), (by first | rfl | (simp; done) | (simp [*]; done) | (simp; omega)), (by first | rfl | (simp; done) | (simp [*]; done) | (simp; omega)), H', ⟨Nat.le_refl _⟩, by repeat (first | exact Drawn0.refl _ | apply Drawn0.step)⟩
  case round =>
    clear H'
    obtain ⟨x3_1, x4_1, rfl, rfl, HA, HK1, ⟨m1, rfl⟩⟩ := hrel
    cases gk with
    | zero => exact absurd HA.out (by simp [bautaref01_Word.l0])
    | succ k1 =>
      have H := HA.out
      clear HA
      simp only [bautaref01_Word.l0] at H
      by_cases c2 : x4_1 ≥ 0
      · rw [if_pos c2] at H
        have c2b0 : decide (0 ≤ x4_1) = true := decide_eq_true c2
        clear c2
        by_cases c3 : 0 ≤ x4_1
        · rw [if_pos c3] at H
          have c3b0 : decide (0 ≤ x4_1) = true := decide_eq_true c3
          clear c3
          by_cases c4 : x4_1 < (l0.length : Int)
          · rw [if_pos c4] at H
            have c4b0 : decide (x4_1 < (l0.length : Int)) = true := decide_eq_true c4
            clear c4
            obtain ⟨bq5, hbq5⟩ : ∃ b_ : Bool, b_ = (rdOf false l0 x4_1) := ⟨_, rfl⟩
            replace H : (if bq5 = true then (bautaref01_Word.l0 k1 l0 ((((x3_1 * 2) % 4294967296) + 1) % 4294967296) (wrap64 (x4_1 - 1))) else (bautaref01_Word.l0 k1 l0 ((x3_1 * 2) % 4294967296) (wrap64 (x4_1 - 1)))) = some r := by rw [← hbq5] at H; exact H
            have Nbq5 := Aside0.mk hbq5
            clear hbq5
            by_cases c6 : bq5 = true
            · subst c6
              have H1 : (bautaref01_Word.l0 k1 l0 ((((x3_1 * 2) % 4294967296) + 1) % 4294967296) (wrap64 (x4_1 - 1))) = some r := by rw [if_pos rfl] at H; exact H
              clear H
              have H := H1
              clear H1
              have H' := Aside0.mk H
              clear H
              have p282 : 0 ≤ (x4_1 : Int) := of_decide_eq_true (by first | (with_reducible assumption) | assumption)
              have q282 : x4_1 < (l0.length : Int) := of_decide_eq_true (by first | (with_reducible assumption) | assumption)
              obtain ⟨ad282, e282, hx282_0⟩ := Kd.at_bool HR0.out x4_1 p282 q282
              (try rw [← Nbq5.out] at hx282_0)
              cases e282
              replace p282 := eq_true p282
              replace q282 := eq_true q282
              go_wp2
              go_roundg k1
              case measure => have := HK1.out; omega
              case rel => exact ⟨((((x3_1 * 2) % 4294967296) + 1) % 4294967296), (wrap64 (x4_1 - 1)), (by first | rfl | (simp; done) | (simp [*]; done) | (simp; omega)), (by first | rfl | (simp; done) | (simp [*]; done) | (simp; omega)), H', ⟨by have := HK1.out; omega⟩, by repeat (first | exact Drawn0.refl _ | apply Drawn0.step)⟩
            · replace c6 := Bool.eq_false_iff.mpr c6
              subst c6
              have H1 : (bautaref01_Word.l0 k1 l0 ((x3_1 * 2) % 4294967296) (wrap64 (x4_1 - 1))) = some r := by rw [if_neg (show ¬ (false = true) by decide)] at H; exact H
              clear H
              have H := H1
              clear H1
              have H' := Aside0.mk H
              clear H
              have p282 : 0 ≤ (x4_1 : Int) := of_decide_eq_true (by first | (with_reducible assumption) | assumption)
              have q282 : x4_1 < (l0.length : Int) := of_decide_eq_true (by first | (with_reducible assumption) | assumption)
              obtain ⟨ad282, e282, hx282_0⟩ := Kd.at_bool HR0.out x4_1 p282 q282
              (try rw [← Nbq5.out] at hx282_0)
              cases e282
              replace p282 := eq_true p282
              replace q282 := eq_true q282
              go_wp2
              go_roundg k1
              case measure => have := HK1.out; omega
              case rel => exact ⟨((x3_1 * 2) % 4294967296), (wrap64 (x4_1 - 1)), (by first | rfl | (simp; done) | (simp [*]; done) | (simp; omega)), (by first | rfl | (simp; done) | (simp [*]; done) | (simp; omega)), H', ⟨by have := HK1.out; omega⟩, by repeat (first | exact Drawn0.refl _ | apply Drawn0.step)⟩
          · rw [if_neg c4] at H
            exact absurd H (by simp)
        · rw [if_neg c3] at H
          exact absurd H (by simp)
      · rw [if_neg c2] at H
        have c2b0 : decide (0 ≤ x4_1) = false := decide_eq_false c2
        clear c2
        obtain rfl := Option.some.inj H
        go_wp2
        go_ret
        exact ⟨by first | rfl | (simp; done) | (simp [*]; done) | (simp; omega), by repeat (first | exact Drawn0.refl _ | apply Drawn0.step)⟩

end Go.Proofs.Ytcpcahhnkojolaa.PB
