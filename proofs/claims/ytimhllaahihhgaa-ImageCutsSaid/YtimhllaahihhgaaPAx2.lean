/- Written by this session's own program (wip/tools/pr.sh) for this claim: functions of the Go program as plain Lean functions, and that the calls come to what these say; in a Law text: the given statement. Conditions: none but the hypotheses that each theorem states. -/
import Derived.Test.YtimhllaahihhgaaPAx0
namespace Go.Proofs.Ytimhllaahihhgaa.PA
open Go.RowKit Go.Proofs.YtimhllaahihhgaaW.PrintWords Go.Proofs.YtimhllaahihhgaaW.PrintLast Go.Proofs.YtimhllaahihhgaaW.PrintMore
attribute [local go_sem] max2_int min2_int max_two min_two max_three min_three max_four min_four   -- for this text's walks alone
set_option linter.unusedVariables false
set_option linter.unusedSimpArgs false

/-- What no cell may be. -/
def badCell (c : S26) : Bool := c.f0.toList.isEmpty || (decide (32 < (c.f0.size : Int)) || (decide (c.f1 < 0) || decide (16000 < c.f1)))
def idxOf (p : S26 → Bool) : Nat → List S26 → Int
  | _, [] => -1
  | i, c :: cs => if p c = true then (i : Int) else idxOf p (i + 1) cs
theorem drop_T26 (xs : List S26) (i : Nat) (h : i < xs.length) : xs.drop i = rd_T26 xs (i : Int) :: xs.drop (i + 1) := by
  rw [List.drop_eq_getElem_cons h]
  unfold rd_T26
  simp [List.getD_eq_getElem?_getD, List.getElem?_eq_getElem h]
set_option maxHeartbeats 2000000 in
set_option maxRecDepth 100000 in
theorem image_can_1.calls (c : S26) (w : World) : Calls Try.prog 39 #[.agg #[.string c.f0, .int .i64 c.f1]] w fun e w' => e = .returned (.bool (badCell c)) ∧ Below w.heap.size w w' := by
  obtain ⟨s, a⟩ := c
  unfold badCell
  dsimp only
  obtain ⟨b1, hb1⟩ : ∃ b : Bool, s.toList.isEmpty = b := ⟨_, rfl⟩
  obtain ⟨b2, hb2⟩ : ∃ b : Bool, decide (32 < (s.size : Int)) = b := ⟨_, rfl⟩
  obtain ⟨b3, hb3⟩ : ∃ b : Bool, decide (a < 0) = b := ⟨_, rfl⟩
  obtain ⟨b4, hb4⟩ : ∃ b : Bool, decide (16000 < a) = b := ⟨_, rfl⟩
  have hb2n : decide (32 < s.size) = b2 := by rw [← hb2]; congr 1; simp; omega
  rw [hb1, hb2, hb3, hb4]
  have HB := below_alloc (Below.refl w.heap.size w) (.cells #[.string s, .int .i64 a] 26)
  replace HB := Aside0.mk HB
  have hb1p : (s.toList = []) = (b1 = true) := by rw [← hb1]; simp
  cases b1
  · cases b2
    · cases b3
      · go_enter Try.func39, Try.ntmps39
        go_wp2
        go_ret
        exact ⟨rfl, HB.out⟩
      · go_enter Try.func39, Try.ntmps39
        go_wp2
        go_ret
        exact ⟨rfl, HB.out⟩
    · go_enter Try.func39, Try.ntmps39
      go_wp2
      go_ret
      exact ⟨rfl, HB.out⟩
  · go_enter Try.func39, Try.ntmps39
    go_wp2
    go_ret
    exact ⟨rfl, HB.out⟩
set_option maxHeartbeats 2000000 in
set_option maxRecDepth 100000 in
theorem IndexFunc_can.calls (A0 : Option Addr) (c0 : Nat) (l0 : List S26) (w : World) (hr0 : Kd.C k26 w A0 l0.length l0) (hc0 : l0.length ≤ c0)  :
    Calls Try.prog 20 #[.slice A0 l0.length c0, .func (.func 39) #[] #[]] w fun e w' => e = .returned (.int .i64 (idxOf badCell 0 l0)) ∧ Below w.heap.size w w' := by
  have HR0 := Aside0.mk hr0
  have HC0 := Aside0.mk hc0
  have hu26 := Try.underlying26
  obtain ⟨R, hR⟩ : ∃ R, R = idxOf badCell 0 l0 := ⟨_, rfl⟩
  rw [← hR]
  have H' : Aside0 (idxOf badCell 0 (l0.drop 0) = R) := ⟨hR.symm⟩
  have HB := Aside0.mk (Below.refl w.heap.size w)
  clear hr0 hc0 hR
  go_enter Try.func20, Try.ntmps20
  go_wp2
  go_loopg [8] l0.length (fun kq v8 w' => ∃ (i : Nat), v8 = .int .i64 (i : Int) ∧ Aside0 (i + kq = l0.length) ∧ Aside0 (idxOf badCell i (l0.drop i) = R) ∧ Aside0 (Below w.heap.size w w'))
  case atStart => exact ⟨0, rfl, ⟨Nat.zero_add _⟩, H', HB⟩
  case round =>
    clear H' HB
    obtain ⟨i, rfl, HN, HA, HB⟩ := hrel
    cases gk with
    | zero =>
      have hi : i = l0.length := by have := HN.out; omega
      have hr := HA.out
      rw [hi, List.drop_length] at hr
      have hr' : (-1 : Int) = R := hr
      subst hr'
      have q1 : ((i : Int) < (l0.length : Int)) = False := eq_false (by omega)
      have q2 : (i < l0.length) = False := eq_false (by omega)
      clear hi hr HN HA
      go_wp2
      go_ret
      exact ⟨rfl, HB.out⟩
    | succ k1 =>
      have hi : i < l0.length := by have := HN.out; omega
      have hr := HA.out
      rw [drop_T26 l0 i hi] at hr
      have q1 : ((i : Int) < (l0.length : Int)) = True := eq_true (by omega)
      have q2 : (i < l0.length) = True := eq_true (by omega)
      obtain ⟨ad, e1, hx0, hx1⟩ := at_T26 HR0.out (i : Int) (Int.natCast_nonneg i) (by omega)
      cases e1
      replace hx0 : wr.cell? (ad.add (i * 2)) = some (.string (rd_T26 l0 (i : Int)).f0) := pw_cell_below HB.out hx0
      replace hx1 : wr.cell? ⟨(ad.add (i * 2)).block, (ad.add (i * 2)).off + 1, none⟩ = some (.int .i64 (rd_T26 l0 (i : Int)).f1) := pw_cell_below HB.out hx1
      have hw1 := Aside0.mk (show wrap64 ((i : Int) + 1) = ((i + 1 : Nat) : Int) by have := HR0.out.2.1; unfold wrap64; omega)
      clear hi HA
      obtain ⟨c, hc⟩ : ∃ c : S26, c = rd_T26 l0 (i : Int) := ⟨_, rfl⟩
      rw [← hc] at hr hx0 hx1
      obtain ⟨b, hb⟩ : ∃ b : Bool, badCell c = b := ⟨_, rfl⟩
      have hbb := Aside0.mk hb
      clear hb hc
      cases b with
      | true =>
        have hr' : (i : Int) = R := by
          rw [← hr]
          show (i : Int) = if badCell c = true then (i : Int) else idxOf badCell (i + 1) (l0.drop (i + 1))
          rw [if_pos hbb.out]
        replace hr' := Aside0.mk hr'
        clear hr
        go_wp2_with (go_at_call 39; refine (image_can_1.calls c _).mono ?_; rintro e w2 ⟨rfl, hb2⟩; have n1 := Aside0.mk (below_then HB.out HB.out.size hb2); rw [hbb.out]; clear HB hb2; have HB := n1; clear n1)
        go_ret
        exact ⟨congrArg (fun x => Ending.returned (Value.int .i64 x)) hr'.out, HB.out⟩
      | false =>
        have hr' : idxOf badCell (i + 1) (l0.drop (i + 1)) = R := by
          rw [← hr]
          show _ = if badCell c = true then (i : Int) else idxOf badCell (i + 1) (l0.drop (i + 1))
          rw [if_neg (by rw [hbb.out]; decide)]
        replace hr' := Aside0.mk hr'
        clear hr
        go_wp2_with (go_at_call 39; refine (image_can_1.calls c _).mono ?_; rintro e w2 ⟨rfl, hb2⟩; have n1 := Aside0.mk (below_then HB.out HB.out.size hb2); rw [hbb.out]; clear HB hb2; have HB := n1; clear n1)
        go_roundg k1
        case measure => omega
        case rel => exact ⟨i + 1, congrArg (Value.int .i64) hw1.out, ⟨by have := HN.out; omega⟩, hr', HB⟩
theorem idxOf_neg (p : S26 → Bool) : ∀ (l : List S26) (i : Nat), (decide (idxOf p i l ≥ 0)) = l.any p
  | [], i => by simp [idxOf]
  | c :: l, i => by
    rw [idxOf, List.any_cons]
    cases h : p c with
    | true => rw [if_pos rfl]; simp
    | false => rw [if_neg (by decide), idxOf_neg p l (i + 1)]; simp
set_option maxHeartbeats 2000000 in
set_option maxRecDepth 100000 in
theorem ContainsFunc_can.calls (A0 : Option Addr) (c0 : Nat) (l0 : List S26) (w : World) (hr0 : Kd.C k26 w A0 l0.length l0) (hc0 : l0.length ≤ c0) :
    Calls Try.prog 38 #[.slice A0 l0.length c0, .func (.func 39) #[] #[]] w fun e w' => e = .returned (.bool (l0.any badCell)) ∧ Below w.heap.size w w' := by
  have HR0 := Aside0.mk hr0
  have HC0 := Aside0.mk hc0
  have hn := Aside0.mk (idxOf_neg badCell l0 0)
  clear hr0 hc0
  go_enter Try.func38, Try.ntmps38
  go_wp2_with (go_at_call 20; refine (IndexFunc_can.calls A0 c0 l0 _ HR0.out HC0.out).mono ?_; rintro e w2 ⟨rfl, hb⟩; replace hb := Aside0.mk hb)
  go_ret
  exact ⟨congrArg (fun b => Ending.returned (Value.bool b)) hn.out, hb.out⟩
set_option maxHeartbeats 2000000 in
set_option maxRecDepth 100000 in
theorem image_numbers.calls (b : Nat) (w : World) : Calls Try.prog 23 #[.pointer (some ⟨b, 0, none⟩)] w fun e w' => e = .returned (.agg #[.pointer (some ⟨b, 0, none⟩), .pointer (some ⟨b, 1, none⟩), .pointer (some ⟨b, 2, none⟩), .pointer (some ⟨b, 3, none⟩)]) ∧ Below w.heap.size w w' := by
  have hu := Try.underlying53
  have hu36 := Try.underlying36
  go_enter Try.func23, Try.ntmps23
  go_wp2_with fail
  go_region
  go_wp2_with fail
  exact bodyPost_ret (results_cell_row rfl _ _ w.heap.size 53 #[.pointer (some ⟨b, 0, none⟩), .pointer (some ⟨b, 1, none⟩), .pointer (some ⟨b, 2, none⟩), .pointer (some ⟨b, 3, none⟩)] (0, 0) _ rfl (heap_alloc_new _ _) hu rfl (by kernel_rfl)) rfl ⟨rfl, (below_alloc (Below.refl _ _) _).drew⟩
set_option maxHeartbeats 2000000 in
set_option maxRecDepth 100000 in
theorem image_lists.calls (b : Nat) (w : World) : Calls Try.prog 26 #[.pointer (some ⟨b, 0, none⟩)] w fun e w' => e = .returned (.agg #[.pointer (some ⟨b, 4, none⟩), .pointer (some ⟨b, 5, none⟩), .pointer (some ⟨b, 6, none⟩)]) ∧ Below w.heap.size w w' := by
  have hu := Try.underlying59
  have hu36 := Try.underlying36
  go_enter Try.func26, Try.ntmps26
  go_wp2_with fail
  go_region
  go_wp2_with fail
  exact bodyPost_ret (results_cell_row rfl _ _ w.heap.size 59 #[.pointer (some ⟨b, 4, none⟩), .pointer (some ⟨b, 5, none⟩), .pointer (some ⟨b, 6, none⟩)] (0, 0) _ rfl (heap_alloc_new _ _) hu rfl (by kernel_rfl)) rfl ⟨rfl, (below_alloc (Below.refl _ _) _).drew⟩
theorem run_index_arr {P : Program} {t e : TypeId} {n : Nat} {cs : Array Value} {v : Value} {i : Int} (h : P.underlying t = some (.array n e)) {q : TypeId} (he : P.underlying e = some (.pointer q)) (hsz : (P.info? e).map (·.size) = some 1) (h0 : 0 ≤ i) (h1 : i < n) (hv : cs[i.toNat]? = some v) (w : World) :
    (Instr.index t (.agg cs) (.int .i64 i)).run P w = .ok v w := by
  cases hq : P.info? e with
  | none => simp [hq] at hsz
  | some d =>
    have hd : d.size = 1 := by simpa [hq] using hsz
    simp [Instr.index, run_underlying h, asIntOf, h0, h1, sizeOf, typeInfo, hq, hd, part, isAgg, run_underlying he, hv]
theorem info52s : (Try.prog.info? 52).map (·.size) = some 1 := by kernel_rfl
theorem info58s : (Try.prog.info? 58).map (·.size) = some 1 := by kernel_rfl
theorem idx53_0 (a b c d : Value) (w : World) : (Instr.index 53 (.agg #[a, b, c, d]) (.int .i64 0)).run Try.prog w = .ok a w := run_index_arr Try.underlying53 Try.underlying52 info52s (by decide) (by decide) rfl w
theorem idx53_1 (a b c d : Value) (w : World) : (Instr.index 53 (.agg #[a, b, c, d]) (.int .i64 1)).run Try.prog w = .ok b w := run_index_arr Try.underlying53 Try.underlying52 info52s (by decide) (by decide) rfl w
theorem idx53_2 (a b c d : Value) (w : World) : (Instr.index 53 (.agg #[a, b, c, d]) (.int .i64 2)).run Try.prog w = .ok c w := run_index_arr Try.underlying53 Try.underlying52 info52s (by decide) (by decide) rfl w
theorem idx53_3 (a b c d : Value) (w : World) : (Instr.index 53 (.agg #[a, b, c, d]) (.int .i64 3)).run Try.prog w = .ok d w := run_index_arr Try.underlying53 Try.underlying52 info52s (by decide) (by decide) rfl w
theorem idx59_0 (a b c : Value) (w : World) : (Instr.index 59 (.agg #[a, b, c]) (.int .i64 0)).run Try.prog w = .ok a w := run_index_arr Try.underlying59 Try.underlying58 info58s (by decide) (by decide) rfl w
theorem idx59_1 (a b c : Value) (w : World) : (Instr.index 59 (.agg #[a, b, c]) (.int .i64 1)).run Try.prog w = .ok b w := run_index_arr Try.underlying59 Try.underlying58 info58s (by decide) (by decide) rfl w
theorem idx59_2 (a b c : Value) (w : World) : (Instr.index 59 (.agg #[a, b, c]) (.int .i64 2)).run Try.prog w = .ok c w := run_index_arr Try.underlying59 Try.underlying58 info58s (by decide) (by decide) rfl w
attribute [local go_sem] idx53_0 idx53_1 idx53_2 idx53_3 idx59_0 idx59_1 idx59_2
theorem row_below {w w1 : World} {B g : Nat} {o : Obj} (hb : Below B w w1) (hg : g < B) (hs : w.heap[g]? = some o) : w1.heap[g]? = some o := by rw [hb.block g hg]; exact hs
theorem blk_lt' {w : World} {g : Nat} {o : Obj} (h : w.heap[g]? = some o) : g < w.heap.size := (Array.getElem?_eq_some_iff.1 h).1
def numOK (n : Int) : Bool := decide (0 ≤ n) && decide (n ≤ 2147483647)
def listOK (l : List S26) : Bool := decide (l.length ≤ 64) && !(l.any badCell)
def image_can.f (a0_0 a0_1 a0_2 a0_3 : Int) (l0_4 l0_5 l0_6 : List S26) : Option Bool :=
  some (numOK a0_0 && (numOK a0_1 && (numOK a0_2 && (numOK a0_3 && (listOK l0_4 && (listOK l0_5 && (listOK l0_6 && decide (a0_3 ≤ 16000))))))))
set_option maxHeartbeats 8000000 in
set_option maxRecDepth 100000 in
theorem image_can.calls (a0_0 a0_1 a0_2 a0_3 : Int) (A0_4 : Option Addr) (c0_4 : Nat) (l0_4 : List S26) (A0_5 : Option Addr) (c0_5 : Nat) (l0_5 : List S26) (A0_6 : Option Addr) (c0_6 : Nat) (l0_6 : List S26) (r : Bool) (w : World) (hr0_4 : Kd.C k26 w A0_4 l0_4.length l0_4) (hc0_4 : l0_4.length ≤ c0_4) (hr0_5 : Kd.C k26 w A0_5 l0_5.length l0_5) (hc0_5 : l0_5.length ≤ c0_5) (hr0_6 : Kd.C k26 w A0_6 l0_6.length l0_6) (hc0_6 : l0_6.length ≤ c0_6) (h : image_can.f a0_0 a0_1 a0_2 a0_3 l0_4 l0_5 l0_6 = some r) :
    Calls Try.prog 28 #[.agg #[.int .i64 a0_0, .int .i64 a0_1, .int .i64 a0_2, .int .i64 a0_3, .slice A0_4 l0_4.length c0_4, .slice A0_5 l0_5.length c0_5, .slice A0_6 l0_6.length c0_6]] w fun e w' => e = .returned (.bool r) ∧ Below w.heap.size w w' := by
  have hu53 := Try.underlying53
  have hu59 := Try.underlying59
  have hu36 := Try.underlying36
  obtain rfl := Option.some.inj h
  clear h
  have HR4 := Aside0.mk hr0_4
  have HR5 := Aside0.mk hr0_5
  have HR6 := Aside0.mk hr0_6
  have HC4 := Aside0.mk hc0_4
  have HC5 := Aside0.mk hc0_5
  have HC6 := Aside0.mk hc0_6
  clear hr0_4 hr0_5 hr0_6 hc0_4 hc0_5 hc0_6
  have HB := Aside0.mk (below_alloc (Below.refl w.heap.size w) (.cells #[.int .i64 a0_0, .int .i64 a0_1, .int .i64 a0_2, .int .i64 a0_3, .slice A0_4 l0_4.length c0_4, .slice A0_5 l0_5.length c0_5, .slice A0_6 l0_6.length c0_6] 36))
  have HM := Aside0.mk (heap_alloc_new w (.cells #[.int .i64 a0_0, .int .i64 a0_1, .int .i64 a0_2, .int .i64 a0_3, .slice A0_4 l0_4.length c0_4, .slice A0_5 l0_5.length c0_5, .slice A0_6 l0_6.length c0_6] 36))
  by_cases h0 : a0_0 < 0
  · have hn : numOK a0_0 = false := by unfold numOK; rw [decide_eq_false (by omega)]; rfl
    rw [hn]
    simp only [Bool.false_and, Bool.and_false]
    clear hn
    have c0a : decide (a0_0 < 0) = true := decide_eq_true h0
    clear h0
    go_enter Try.func28, Try.ntmps28
    go_wp2_with (first | ((with_reducible refine wp_loop_rounds 100 ?_); rw [rounds_succ]) | ((with_reducible rw [rounds_succ])) | (go_at_call 23; refine (image_numbers.calls w.heap.size _).mono ?_; rintro e w1 ⟨rfl, hb⟩; have n1 := Aside0.mk (below_then HB.out HB.out.size hb); have n2 := Aside0.mk (row_below hb (by simp) HM.out); clear HB HM; have HB := n1; have HM := n2; clear n1 n2 hb; have k0 : w1.cell? ⟨w.heap.size, 0, none⟩ = some (.int .i64 a0_0) := (cell_of_row w1 w.heap.size 0 _ _ _ HM.out).trans rfl; have k1 : w1.cell? ⟨w.heap.size, 1, none⟩ = some (.int .i64 a0_1) := (cell_of_row w1 w.heap.size 1 _ _ _ HM.out).trans rfl; have k2 : w1.cell? ⟨w.heap.size, 2, none⟩ = some (.int .i64 a0_2) := (cell_of_row w1 w.heap.size 2 _ _ _ HM.out).trans rfl; have k3 : w1.cell? ⟨w.heap.size, 3, none⟩ = some (.int .i64 a0_3) := (cell_of_row w1 w.heap.size 3 _ _ _ HM.out).trans rfl; have k4 : w1.cell? ⟨w.heap.size, 4, none⟩ = some (.slice A0_4 l0_4.length c0_4) := (cell_of_row w1 w.heap.size 4 _ _ _ HM.out).trans rfl; have k5 : w1.cell? ⟨w.heap.size, 5, none⟩ = some (.slice A0_5 l0_5.length c0_5) := (cell_of_row w1 w.heap.size 5 _ _ _ HM.out).trans rfl; have k6 : w1.cell? ⟨w.heap.size, 6, none⟩ = some (.slice A0_6 l0_6.length c0_6) := (cell_of_row w1 w.heap.size 6 _ _ _ HM.out).trans rfl) | (go_at_call 26; refine (image_lists.calls w.heap.size _).mono ?_; rintro e w2 ⟨rfl, hb⟩; have n1 := Aside0.mk (below_then HB.out HB.out.size hb); have n2 := Aside0.mk (row_below hb (blk_lt' HM.out) HM.out); clear HB HM k0 k1 k2 k3 k4 k5 k6; have HB := n1; have HM := n2; clear n1 n2 hb; have k0 : w2.cell? ⟨w.heap.size, 0, none⟩ = some (.int .i64 a0_0) := (cell_of_row w2 w.heap.size 0 _ _ _ HM.out).trans rfl; have k1 : w2.cell? ⟨w.heap.size, 1, none⟩ = some (.int .i64 a0_1) := (cell_of_row w2 w.heap.size 1 _ _ _ HM.out).trans rfl; have k2 : w2.cell? ⟨w.heap.size, 2, none⟩ = some (.int .i64 a0_2) := (cell_of_row w2 w.heap.size 2 _ _ _ HM.out).trans rfl; have k3 : w2.cell? ⟨w.heap.size, 3, none⟩ = some (.int .i64 a0_3) := (cell_of_row w2 w.heap.size 3 _ _ _ HM.out).trans rfl; have k4 : w2.cell? ⟨w.heap.size, 4, none⟩ = some (.slice A0_4 l0_4.length c0_4) := (cell_of_row w2 w.heap.size 4 _ _ _ HM.out).trans rfl; have k5 : w2.cell? ⟨w.heap.size, 5, none⟩ = some (.slice A0_5 l0_5.length c0_5) := (cell_of_row w2 w.heap.size 5 _ _ _ HM.out).trans rfl; have k6 : w2.cell? ⟨w.heap.size, 6, none⟩ = some (.slice A0_6 l0_6.length c0_6) := (cell_of_row w2 w.heap.size 6 _ _ _ HM.out).trans rfl))
    go_ret
    exact ⟨rfl, HB.out⟩
  have h0a := h0
  clear h0
  by_cases h0b : 2147483647 < a0_0
  · have hn : numOK a0_0 = false := by unfold numOK; rw [decide_eq_false (p := a0_0 ≤ 2147483647) (by omega), Bool.and_false]
    rw [hn]
    simp only [Bool.false_and, Bool.and_false]
    clear hn
    have c0a : decide (a0_0 < 0) = false := decide_eq_false h0a
    have c0b : decide (2147483647 < a0_0) = true := decide_eq_true h0b
    clear h0a h0b
    go_enter Try.func28, Try.ntmps28
    go_wp2_with (first | ((with_reducible refine wp_loop_rounds 100 ?_); rw [rounds_succ]) | ((with_reducible rw [rounds_succ])) | (go_at_call 23; refine (image_numbers.calls w.heap.size _).mono ?_; rintro e w1 ⟨rfl, hb⟩; have n1 := Aside0.mk (below_then HB.out HB.out.size hb); have n2 := Aside0.mk (row_below hb (by simp) HM.out); clear HB HM; have HB := n1; have HM := n2; clear n1 n2 hb; have k0 : w1.cell? ⟨w.heap.size, 0, none⟩ = some (.int .i64 a0_0) := (cell_of_row w1 w.heap.size 0 _ _ _ HM.out).trans rfl; have k1 : w1.cell? ⟨w.heap.size, 1, none⟩ = some (.int .i64 a0_1) := (cell_of_row w1 w.heap.size 1 _ _ _ HM.out).trans rfl; have k2 : w1.cell? ⟨w.heap.size, 2, none⟩ = some (.int .i64 a0_2) := (cell_of_row w1 w.heap.size 2 _ _ _ HM.out).trans rfl; have k3 : w1.cell? ⟨w.heap.size, 3, none⟩ = some (.int .i64 a0_3) := (cell_of_row w1 w.heap.size 3 _ _ _ HM.out).trans rfl; have k4 : w1.cell? ⟨w.heap.size, 4, none⟩ = some (.slice A0_4 l0_4.length c0_4) := (cell_of_row w1 w.heap.size 4 _ _ _ HM.out).trans rfl; have k5 : w1.cell? ⟨w.heap.size, 5, none⟩ = some (.slice A0_5 l0_5.length c0_5) := (cell_of_row w1 w.heap.size 5 _ _ _ HM.out).trans rfl; have k6 : w1.cell? ⟨w.heap.size, 6, none⟩ = some (.slice A0_6 l0_6.length c0_6) := (cell_of_row w1 w.heap.size 6 _ _ _ HM.out).trans rfl) | (go_at_call 26; refine (image_lists.calls w.heap.size _).mono ?_; rintro e w2 ⟨rfl, hb⟩; have n1 := Aside0.mk (below_then HB.out HB.out.size hb); have n2 := Aside0.mk (row_below hb (blk_lt' HM.out) HM.out); clear HB HM k0 k1 k2 k3 k4 k5 k6; have HB := n1; have HM := n2; clear n1 n2 hb; have k0 : w2.cell? ⟨w.heap.size, 0, none⟩ = some (.int .i64 a0_0) := (cell_of_row w2 w.heap.size 0 _ _ _ HM.out).trans rfl; have k1 : w2.cell? ⟨w.heap.size, 1, none⟩ = some (.int .i64 a0_1) := (cell_of_row w2 w.heap.size 1 _ _ _ HM.out).trans rfl; have k2 : w2.cell? ⟨w.heap.size, 2, none⟩ = some (.int .i64 a0_2) := (cell_of_row w2 w.heap.size 2 _ _ _ HM.out).trans rfl; have k3 : w2.cell? ⟨w.heap.size, 3, none⟩ = some (.int .i64 a0_3) := (cell_of_row w2 w.heap.size 3 _ _ _ HM.out).trans rfl; have k4 : w2.cell? ⟨w.heap.size, 4, none⟩ = some (.slice A0_4 l0_4.length c0_4) := (cell_of_row w2 w.heap.size 4 _ _ _ HM.out).trans rfl; have k5 : w2.cell? ⟨w.heap.size, 5, none⟩ = some (.slice A0_5 l0_5.length c0_5) := (cell_of_row w2 w.heap.size 5 _ _ _ HM.out).trans rfl; have k6 : w2.cell? ⟨w.heap.size, 6, none⟩ = some (.slice A0_6 l0_6.length c0_6) := (cell_of_row w2 w.heap.size 6 _ _ _ HM.out).trans rfl))
    go_ret
    exact ⟨rfl, HB.out⟩
  have hn : numOK a0_0 = true := by unfold numOK; rw [decide_eq_true (by omega), decide_eq_true (by omega)]; rfl
  rw [hn, Bool.true_and]
  clear hn
  have c0a : decide (a0_0 < 0) = false := decide_eq_false h0a
  have c0b : decide (2147483647 < a0_0) = false := decide_eq_false h0b
  clear h0a h0b
  by_cases h1 : a0_1 < 0
  · have hn : numOK a0_1 = false := by unfold numOK; rw [decide_eq_false (by omega)]; rfl
    rw [hn]
    simp only [Bool.false_and, Bool.and_false]
    clear hn
    have c1a : decide (a0_1 < 0) = true := decide_eq_true h1
    clear h1
    go_enter Try.func28, Try.ntmps28
    go_wp2_with (first | ((with_reducible refine wp_loop_rounds 100 ?_); rw [rounds_succ]) | ((with_reducible rw [rounds_succ])) | (go_at_call 23; refine (image_numbers.calls w.heap.size _).mono ?_; rintro e w1 ⟨rfl, hb⟩; have n1 := Aside0.mk (below_then HB.out HB.out.size hb); have n2 := Aside0.mk (row_below hb (by simp) HM.out); clear HB HM; have HB := n1; have HM := n2; clear n1 n2 hb; have k0 : w1.cell? ⟨w.heap.size, 0, none⟩ = some (.int .i64 a0_0) := (cell_of_row w1 w.heap.size 0 _ _ _ HM.out).trans rfl; have k1 : w1.cell? ⟨w.heap.size, 1, none⟩ = some (.int .i64 a0_1) := (cell_of_row w1 w.heap.size 1 _ _ _ HM.out).trans rfl; have k2 : w1.cell? ⟨w.heap.size, 2, none⟩ = some (.int .i64 a0_2) := (cell_of_row w1 w.heap.size 2 _ _ _ HM.out).trans rfl; have k3 : w1.cell? ⟨w.heap.size, 3, none⟩ = some (.int .i64 a0_3) := (cell_of_row w1 w.heap.size 3 _ _ _ HM.out).trans rfl; have k4 : w1.cell? ⟨w.heap.size, 4, none⟩ = some (.slice A0_4 l0_4.length c0_4) := (cell_of_row w1 w.heap.size 4 _ _ _ HM.out).trans rfl; have k5 : w1.cell? ⟨w.heap.size, 5, none⟩ = some (.slice A0_5 l0_5.length c0_5) := (cell_of_row w1 w.heap.size 5 _ _ _ HM.out).trans rfl; have k6 : w1.cell? ⟨w.heap.size, 6, none⟩ = some (.slice A0_6 l0_6.length c0_6) := (cell_of_row w1 w.heap.size 6 _ _ _ HM.out).trans rfl) | (go_at_call 26; refine (image_lists.calls w.heap.size _).mono ?_; rintro e w2 ⟨rfl, hb⟩; have n1 := Aside0.mk (below_then HB.out HB.out.size hb); have n2 := Aside0.mk (row_below hb (blk_lt' HM.out) HM.out); clear HB HM k0 k1 k2 k3 k4 k5 k6; have HB := n1; have HM := n2; clear n1 n2 hb; have k0 : w2.cell? ⟨w.heap.size, 0, none⟩ = some (.int .i64 a0_0) := (cell_of_row w2 w.heap.size 0 _ _ _ HM.out).trans rfl; have k1 : w2.cell? ⟨w.heap.size, 1, none⟩ = some (.int .i64 a0_1) := (cell_of_row w2 w.heap.size 1 _ _ _ HM.out).trans rfl; have k2 : w2.cell? ⟨w.heap.size, 2, none⟩ = some (.int .i64 a0_2) := (cell_of_row w2 w.heap.size 2 _ _ _ HM.out).trans rfl; have k3 : w2.cell? ⟨w.heap.size, 3, none⟩ = some (.int .i64 a0_3) := (cell_of_row w2 w.heap.size 3 _ _ _ HM.out).trans rfl; have k4 : w2.cell? ⟨w.heap.size, 4, none⟩ = some (.slice A0_4 l0_4.length c0_4) := (cell_of_row w2 w.heap.size 4 _ _ _ HM.out).trans rfl; have k5 : w2.cell? ⟨w.heap.size, 5, none⟩ = some (.slice A0_5 l0_5.length c0_5) := (cell_of_row w2 w.heap.size 5 _ _ _ HM.out).trans rfl; have k6 : w2.cell? ⟨w.heap.size, 6, none⟩ = some (.slice A0_6 l0_6.length c0_6) := (cell_of_row w2 w.heap.size 6 _ _ _ HM.out).trans rfl))
    go_ret
    exact ⟨rfl, HB.out⟩
  have h1a := h1
  clear h1
  by_cases h1b : 2147483647 < a0_1
  · have hn : numOK a0_1 = false := by unfold numOK; rw [decide_eq_false (p := a0_1 ≤ 2147483647) (by omega), Bool.and_false]
    rw [hn]
    simp only [Bool.false_and, Bool.and_false]
    clear hn
    have c1a : decide (a0_1 < 0) = false := decide_eq_false h1a
    have c1b : decide (2147483647 < a0_1) = true := decide_eq_true h1b
    clear h1a h1b
    go_enter Try.func28, Try.ntmps28
    go_wp2_with (first | ((with_reducible refine wp_loop_rounds 100 ?_); rw [rounds_succ]) | ((with_reducible rw [rounds_succ])) | (go_at_call 23; refine (image_numbers.calls w.heap.size _).mono ?_; rintro e w1 ⟨rfl, hb⟩; have n1 := Aside0.mk (below_then HB.out HB.out.size hb); have n2 := Aside0.mk (row_below hb (by simp) HM.out); clear HB HM; have HB := n1; have HM := n2; clear n1 n2 hb; have k0 : w1.cell? ⟨w.heap.size, 0, none⟩ = some (.int .i64 a0_0) := (cell_of_row w1 w.heap.size 0 _ _ _ HM.out).trans rfl; have k1 : w1.cell? ⟨w.heap.size, 1, none⟩ = some (.int .i64 a0_1) := (cell_of_row w1 w.heap.size 1 _ _ _ HM.out).trans rfl; have k2 : w1.cell? ⟨w.heap.size, 2, none⟩ = some (.int .i64 a0_2) := (cell_of_row w1 w.heap.size 2 _ _ _ HM.out).trans rfl; have k3 : w1.cell? ⟨w.heap.size, 3, none⟩ = some (.int .i64 a0_3) := (cell_of_row w1 w.heap.size 3 _ _ _ HM.out).trans rfl; have k4 : w1.cell? ⟨w.heap.size, 4, none⟩ = some (.slice A0_4 l0_4.length c0_4) := (cell_of_row w1 w.heap.size 4 _ _ _ HM.out).trans rfl; have k5 : w1.cell? ⟨w.heap.size, 5, none⟩ = some (.slice A0_5 l0_5.length c0_5) := (cell_of_row w1 w.heap.size 5 _ _ _ HM.out).trans rfl; have k6 : w1.cell? ⟨w.heap.size, 6, none⟩ = some (.slice A0_6 l0_6.length c0_6) := (cell_of_row w1 w.heap.size 6 _ _ _ HM.out).trans rfl) | (go_at_call 26; refine (image_lists.calls w.heap.size _).mono ?_; rintro e w2 ⟨rfl, hb⟩; have n1 := Aside0.mk (below_then HB.out HB.out.size hb); have n2 := Aside0.mk (row_below hb (blk_lt' HM.out) HM.out); clear HB HM k0 k1 k2 k3 k4 k5 k6; have HB := n1; have HM := n2; clear n1 n2 hb; have k0 : w2.cell? ⟨w.heap.size, 0, none⟩ = some (.int .i64 a0_0) := (cell_of_row w2 w.heap.size 0 _ _ _ HM.out).trans rfl; have k1 : w2.cell? ⟨w.heap.size, 1, none⟩ = some (.int .i64 a0_1) := (cell_of_row w2 w.heap.size 1 _ _ _ HM.out).trans rfl; have k2 : w2.cell? ⟨w.heap.size, 2, none⟩ = some (.int .i64 a0_2) := (cell_of_row w2 w.heap.size 2 _ _ _ HM.out).trans rfl; have k3 : w2.cell? ⟨w.heap.size, 3, none⟩ = some (.int .i64 a0_3) := (cell_of_row w2 w.heap.size 3 _ _ _ HM.out).trans rfl; have k4 : w2.cell? ⟨w.heap.size, 4, none⟩ = some (.slice A0_4 l0_4.length c0_4) := (cell_of_row w2 w.heap.size 4 _ _ _ HM.out).trans rfl; have k5 : w2.cell? ⟨w.heap.size, 5, none⟩ = some (.slice A0_5 l0_5.length c0_5) := (cell_of_row w2 w.heap.size 5 _ _ _ HM.out).trans rfl; have k6 : w2.cell? ⟨w.heap.size, 6, none⟩ = some (.slice A0_6 l0_6.length c0_6) := (cell_of_row w2 w.heap.size 6 _ _ _ HM.out).trans rfl))
    go_ret
    exact ⟨rfl, HB.out⟩
  have hn : numOK a0_1 = true := by unfold numOK; rw [decide_eq_true (by omega), decide_eq_true (by omega)]; rfl
  rw [hn, Bool.true_and]
  clear hn
  have c1a : decide (a0_1 < 0) = false := decide_eq_false h1a
  have c1b : decide (2147483647 < a0_1) = false := decide_eq_false h1b
  clear h1a h1b
  by_cases h2 : a0_2 < 0
  · have hn : numOK a0_2 = false := by unfold numOK; rw [decide_eq_false (by omega)]; rfl
    rw [hn]
    simp only [Bool.false_and, Bool.and_false]
    clear hn
    have c2a : decide (a0_2 < 0) = true := decide_eq_true h2
    clear h2
    go_enter Try.func28, Try.ntmps28
    go_wp2_with (first | ((with_reducible refine wp_loop_rounds 100 ?_); rw [rounds_succ]) | ((with_reducible rw [rounds_succ])) | (go_at_call 23; refine (image_numbers.calls w.heap.size _).mono ?_; rintro e w1 ⟨rfl, hb⟩; have n1 := Aside0.mk (below_then HB.out HB.out.size hb); have n2 := Aside0.mk (row_below hb (by simp) HM.out); clear HB HM; have HB := n1; have HM := n2; clear n1 n2 hb; have k0 : w1.cell? ⟨w.heap.size, 0, none⟩ = some (.int .i64 a0_0) := (cell_of_row w1 w.heap.size 0 _ _ _ HM.out).trans rfl; have k1 : w1.cell? ⟨w.heap.size, 1, none⟩ = some (.int .i64 a0_1) := (cell_of_row w1 w.heap.size 1 _ _ _ HM.out).trans rfl; have k2 : w1.cell? ⟨w.heap.size, 2, none⟩ = some (.int .i64 a0_2) := (cell_of_row w1 w.heap.size 2 _ _ _ HM.out).trans rfl; have k3 : w1.cell? ⟨w.heap.size, 3, none⟩ = some (.int .i64 a0_3) := (cell_of_row w1 w.heap.size 3 _ _ _ HM.out).trans rfl; have k4 : w1.cell? ⟨w.heap.size, 4, none⟩ = some (.slice A0_4 l0_4.length c0_4) := (cell_of_row w1 w.heap.size 4 _ _ _ HM.out).trans rfl; have k5 : w1.cell? ⟨w.heap.size, 5, none⟩ = some (.slice A0_5 l0_5.length c0_5) := (cell_of_row w1 w.heap.size 5 _ _ _ HM.out).trans rfl; have k6 : w1.cell? ⟨w.heap.size, 6, none⟩ = some (.slice A0_6 l0_6.length c0_6) := (cell_of_row w1 w.heap.size 6 _ _ _ HM.out).trans rfl) | (go_at_call 26; refine (image_lists.calls w.heap.size _).mono ?_; rintro e w2 ⟨rfl, hb⟩; have n1 := Aside0.mk (below_then HB.out HB.out.size hb); have n2 := Aside0.mk (row_below hb (blk_lt' HM.out) HM.out); clear HB HM k0 k1 k2 k3 k4 k5 k6; have HB := n1; have HM := n2; clear n1 n2 hb; have k0 : w2.cell? ⟨w.heap.size, 0, none⟩ = some (.int .i64 a0_0) := (cell_of_row w2 w.heap.size 0 _ _ _ HM.out).trans rfl; have k1 : w2.cell? ⟨w.heap.size, 1, none⟩ = some (.int .i64 a0_1) := (cell_of_row w2 w.heap.size 1 _ _ _ HM.out).trans rfl; have k2 : w2.cell? ⟨w.heap.size, 2, none⟩ = some (.int .i64 a0_2) := (cell_of_row w2 w.heap.size 2 _ _ _ HM.out).trans rfl; have k3 : w2.cell? ⟨w.heap.size, 3, none⟩ = some (.int .i64 a0_3) := (cell_of_row w2 w.heap.size 3 _ _ _ HM.out).trans rfl; have k4 : w2.cell? ⟨w.heap.size, 4, none⟩ = some (.slice A0_4 l0_4.length c0_4) := (cell_of_row w2 w.heap.size 4 _ _ _ HM.out).trans rfl; have k5 : w2.cell? ⟨w.heap.size, 5, none⟩ = some (.slice A0_5 l0_5.length c0_5) := (cell_of_row w2 w.heap.size 5 _ _ _ HM.out).trans rfl; have k6 : w2.cell? ⟨w.heap.size, 6, none⟩ = some (.slice A0_6 l0_6.length c0_6) := (cell_of_row w2 w.heap.size 6 _ _ _ HM.out).trans rfl))
    go_ret
    exact ⟨rfl, HB.out⟩
  have h2a := h2
  clear h2
  by_cases h2b : 2147483647 < a0_2
  · have hn : numOK a0_2 = false := by unfold numOK; rw [decide_eq_false (p := a0_2 ≤ 2147483647) (by omega), Bool.and_false]
    rw [hn]
    simp only [Bool.false_and, Bool.and_false]
    clear hn
    have c2a : decide (a0_2 < 0) = false := decide_eq_false h2a
    have c2b : decide (2147483647 < a0_2) = true := decide_eq_true h2b
    clear h2a h2b
    go_enter Try.func28, Try.ntmps28
    go_wp2_with (first | ((with_reducible refine wp_loop_rounds 100 ?_); rw [rounds_succ]) | ((with_reducible rw [rounds_succ])) | (go_at_call 23; refine (image_numbers.calls w.heap.size _).mono ?_; rintro e w1 ⟨rfl, hb⟩; have n1 := Aside0.mk (below_then HB.out HB.out.size hb); have n2 := Aside0.mk (row_below hb (by simp) HM.out); clear HB HM; have HB := n1; have HM := n2; clear n1 n2 hb; have k0 : w1.cell? ⟨w.heap.size, 0, none⟩ = some (.int .i64 a0_0) := (cell_of_row w1 w.heap.size 0 _ _ _ HM.out).trans rfl; have k1 : w1.cell? ⟨w.heap.size, 1, none⟩ = some (.int .i64 a0_1) := (cell_of_row w1 w.heap.size 1 _ _ _ HM.out).trans rfl; have k2 : w1.cell? ⟨w.heap.size, 2, none⟩ = some (.int .i64 a0_2) := (cell_of_row w1 w.heap.size 2 _ _ _ HM.out).trans rfl; have k3 : w1.cell? ⟨w.heap.size, 3, none⟩ = some (.int .i64 a0_3) := (cell_of_row w1 w.heap.size 3 _ _ _ HM.out).trans rfl; have k4 : w1.cell? ⟨w.heap.size, 4, none⟩ = some (.slice A0_4 l0_4.length c0_4) := (cell_of_row w1 w.heap.size 4 _ _ _ HM.out).trans rfl; have k5 : w1.cell? ⟨w.heap.size, 5, none⟩ = some (.slice A0_5 l0_5.length c0_5) := (cell_of_row w1 w.heap.size 5 _ _ _ HM.out).trans rfl; have k6 : w1.cell? ⟨w.heap.size, 6, none⟩ = some (.slice A0_6 l0_6.length c0_6) := (cell_of_row w1 w.heap.size 6 _ _ _ HM.out).trans rfl) | (go_at_call 26; refine (image_lists.calls w.heap.size _).mono ?_; rintro e w2 ⟨rfl, hb⟩; have n1 := Aside0.mk (below_then HB.out HB.out.size hb); have n2 := Aside0.mk (row_below hb (blk_lt' HM.out) HM.out); clear HB HM k0 k1 k2 k3 k4 k5 k6; have HB := n1; have HM := n2; clear n1 n2 hb; have k0 : w2.cell? ⟨w.heap.size, 0, none⟩ = some (.int .i64 a0_0) := (cell_of_row w2 w.heap.size 0 _ _ _ HM.out).trans rfl; have k1 : w2.cell? ⟨w.heap.size, 1, none⟩ = some (.int .i64 a0_1) := (cell_of_row w2 w.heap.size 1 _ _ _ HM.out).trans rfl; have k2 : w2.cell? ⟨w.heap.size, 2, none⟩ = some (.int .i64 a0_2) := (cell_of_row w2 w.heap.size 2 _ _ _ HM.out).trans rfl; have k3 : w2.cell? ⟨w.heap.size, 3, none⟩ = some (.int .i64 a0_3) := (cell_of_row w2 w.heap.size 3 _ _ _ HM.out).trans rfl; have k4 : w2.cell? ⟨w.heap.size, 4, none⟩ = some (.slice A0_4 l0_4.length c0_4) := (cell_of_row w2 w.heap.size 4 _ _ _ HM.out).trans rfl; have k5 : w2.cell? ⟨w.heap.size, 5, none⟩ = some (.slice A0_5 l0_5.length c0_5) := (cell_of_row w2 w.heap.size 5 _ _ _ HM.out).trans rfl; have k6 : w2.cell? ⟨w.heap.size, 6, none⟩ = some (.slice A0_6 l0_6.length c0_6) := (cell_of_row w2 w.heap.size 6 _ _ _ HM.out).trans rfl))
    go_ret
    exact ⟨rfl, HB.out⟩
  have hn : numOK a0_2 = true := by unfold numOK; rw [decide_eq_true (by omega), decide_eq_true (by omega)]; rfl
  rw [hn, Bool.true_and]
  clear hn
  have c2a : decide (a0_2 < 0) = false := decide_eq_false h2a
  have c2b : decide (2147483647 < a0_2) = false := decide_eq_false h2b
  clear h2a h2b
  by_cases h3 : a0_3 < 0
  · have hn : numOK a0_3 = false := by unfold numOK; rw [decide_eq_false (by omega)]; rfl
    rw [hn]
    simp only [Bool.false_and, Bool.and_false]
    clear hn
    have c3a : decide (a0_3 < 0) = true := decide_eq_true h3
    clear h3
    go_enter Try.func28, Try.ntmps28
    go_wp2_with (first | ((with_reducible refine wp_loop_rounds 100 ?_); rw [rounds_succ]) | ((with_reducible rw [rounds_succ])) | (go_at_call 23; refine (image_numbers.calls w.heap.size _).mono ?_; rintro e w1 ⟨rfl, hb⟩; have n1 := Aside0.mk (below_then HB.out HB.out.size hb); have n2 := Aside0.mk (row_below hb (by simp) HM.out); clear HB HM; have HB := n1; have HM := n2; clear n1 n2 hb; have k0 : w1.cell? ⟨w.heap.size, 0, none⟩ = some (.int .i64 a0_0) := (cell_of_row w1 w.heap.size 0 _ _ _ HM.out).trans rfl; have k1 : w1.cell? ⟨w.heap.size, 1, none⟩ = some (.int .i64 a0_1) := (cell_of_row w1 w.heap.size 1 _ _ _ HM.out).trans rfl; have k2 : w1.cell? ⟨w.heap.size, 2, none⟩ = some (.int .i64 a0_2) := (cell_of_row w1 w.heap.size 2 _ _ _ HM.out).trans rfl; have k3 : w1.cell? ⟨w.heap.size, 3, none⟩ = some (.int .i64 a0_3) := (cell_of_row w1 w.heap.size 3 _ _ _ HM.out).trans rfl; have k4 : w1.cell? ⟨w.heap.size, 4, none⟩ = some (.slice A0_4 l0_4.length c0_4) := (cell_of_row w1 w.heap.size 4 _ _ _ HM.out).trans rfl; have k5 : w1.cell? ⟨w.heap.size, 5, none⟩ = some (.slice A0_5 l0_5.length c0_5) := (cell_of_row w1 w.heap.size 5 _ _ _ HM.out).trans rfl; have k6 : w1.cell? ⟨w.heap.size, 6, none⟩ = some (.slice A0_6 l0_6.length c0_6) := (cell_of_row w1 w.heap.size 6 _ _ _ HM.out).trans rfl) | (go_at_call 26; refine (image_lists.calls w.heap.size _).mono ?_; rintro e w2 ⟨rfl, hb⟩; have n1 := Aside0.mk (below_then HB.out HB.out.size hb); have n2 := Aside0.mk (row_below hb (blk_lt' HM.out) HM.out); clear HB HM k0 k1 k2 k3 k4 k5 k6; have HB := n1; have HM := n2; clear n1 n2 hb; have k0 : w2.cell? ⟨w.heap.size, 0, none⟩ = some (.int .i64 a0_0) := (cell_of_row w2 w.heap.size 0 _ _ _ HM.out).trans rfl; have k1 : w2.cell? ⟨w.heap.size, 1, none⟩ = some (.int .i64 a0_1) := (cell_of_row w2 w.heap.size 1 _ _ _ HM.out).trans rfl; have k2 : w2.cell? ⟨w.heap.size, 2, none⟩ = some (.int .i64 a0_2) := (cell_of_row w2 w.heap.size 2 _ _ _ HM.out).trans rfl; have k3 : w2.cell? ⟨w.heap.size, 3, none⟩ = some (.int .i64 a0_3) := (cell_of_row w2 w.heap.size 3 _ _ _ HM.out).trans rfl; have k4 : w2.cell? ⟨w.heap.size, 4, none⟩ = some (.slice A0_4 l0_4.length c0_4) := (cell_of_row w2 w.heap.size 4 _ _ _ HM.out).trans rfl; have k5 : w2.cell? ⟨w.heap.size, 5, none⟩ = some (.slice A0_5 l0_5.length c0_5) := (cell_of_row w2 w.heap.size 5 _ _ _ HM.out).trans rfl; have k6 : w2.cell? ⟨w.heap.size, 6, none⟩ = some (.slice A0_6 l0_6.length c0_6) := (cell_of_row w2 w.heap.size 6 _ _ _ HM.out).trans rfl))
    go_ret
    exact ⟨rfl, HB.out⟩
  have h3a := h3
  clear h3
  by_cases h3b : 2147483647 < a0_3
  · have hn : numOK a0_3 = false := by unfold numOK; rw [decide_eq_false (p := a0_3 ≤ 2147483647) (by omega), Bool.and_false]
    rw [hn]
    simp only [Bool.false_and, Bool.and_false]
    clear hn
    have c3a : decide (a0_3 < 0) = false := decide_eq_false h3a
    have c3b : decide (2147483647 < a0_3) = true := decide_eq_true h3b
    clear h3a h3b
    go_enter Try.func28, Try.ntmps28
    go_wp2_with (first | ((with_reducible refine wp_loop_rounds 100 ?_); rw [rounds_succ]) | ((with_reducible rw [rounds_succ])) | (go_at_call 23; refine (image_numbers.calls w.heap.size _).mono ?_; rintro e w1 ⟨rfl, hb⟩; have n1 := Aside0.mk (below_then HB.out HB.out.size hb); have n2 := Aside0.mk (row_below hb (by simp) HM.out); clear HB HM; have HB := n1; have HM := n2; clear n1 n2 hb; have k0 : w1.cell? ⟨w.heap.size, 0, none⟩ = some (.int .i64 a0_0) := (cell_of_row w1 w.heap.size 0 _ _ _ HM.out).trans rfl; have k1 : w1.cell? ⟨w.heap.size, 1, none⟩ = some (.int .i64 a0_1) := (cell_of_row w1 w.heap.size 1 _ _ _ HM.out).trans rfl; have k2 : w1.cell? ⟨w.heap.size, 2, none⟩ = some (.int .i64 a0_2) := (cell_of_row w1 w.heap.size 2 _ _ _ HM.out).trans rfl; have k3 : w1.cell? ⟨w.heap.size, 3, none⟩ = some (.int .i64 a0_3) := (cell_of_row w1 w.heap.size 3 _ _ _ HM.out).trans rfl; have k4 : w1.cell? ⟨w.heap.size, 4, none⟩ = some (.slice A0_4 l0_4.length c0_4) := (cell_of_row w1 w.heap.size 4 _ _ _ HM.out).trans rfl; have k5 : w1.cell? ⟨w.heap.size, 5, none⟩ = some (.slice A0_5 l0_5.length c0_5) := (cell_of_row w1 w.heap.size 5 _ _ _ HM.out).trans rfl; have k6 : w1.cell? ⟨w.heap.size, 6, none⟩ = some (.slice A0_6 l0_6.length c0_6) := (cell_of_row w1 w.heap.size 6 _ _ _ HM.out).trans rfl) | (go_at_call 26; refine (image_lists.calls w.heap.size _).mono ?_; rintro e w2 ⟨rfl, hb⟩; have n1 := Aside0.mk (below_then HB.out HB.out.size hb); have n2 := Aside0.mk (row_below hb (blk_lt' HM.out) HM.out); clear HB HM k0 k1 k2 k3 k4 k5 k6; have HB := n1; have HM := n2; clear n1 n2 hb; have k0 : w2.cell? ⟨w.heap.size, 0, none⟩ = some (.int .i64 a0_0) := (cell_of_row w2 w.heap.size 0 _ _ _ HM.out).trans rfl; have k1 : w2.cell? ⟨w.heap.size, 1, none⟩ = some (.int .i64 a0_1) := (cell_of_row w2 w.heap.size 1 _ _ _ HM.out).trans rfl; have k2 : w2.cell? ⟨w.heap.size, 2, none⟩ = some (.int .i64 a0_2) := (cell_of_row w2 w.heap.size 2 _ _ _ HM.out).trans rfl; have k3 : w2.cell? ⟨w.heap.size, 3, none⟩ = some (.int .i64 a0_3) := (cell_of_row w2 w.heap.size 3 _ _ _ HM.out).trans rfl; have k4 : w2.cell? ⟨w.heap.size, 4, none⟩ = some (.slice A0_4 l0_4.length c0_4) := (cell_of_row w2 w.heap.size 4 _ _ _ HM.out).trans rfl; have k5 : w2.cell? ⟨w.heap.size, 5, none⟩ = some (.slice A0_5 l0_5.length c0_5) := (cell_of_row w2 w.heap.size 5 _ _ _ HM.out).trans rfl; have k6 : w2.cell? ⟨w.heap.size, 6, none⟩ = some (.slice A0_6 l0_6.length c0_6) := (cell_of_row w2 w.heap.size 6 _ _ _ HM.out).trans rfl))
    go_ret
    exact ⟨rfl, HB.out⟩
  have hn : numOK a0_3 = true := by unfold numOK; rw [decide_eq_true (by omega), decide_eq_true (by omega)]; rfl
  rw [hn, Bool.true_and]
  clear hn
  have c3a : decide (a0_3 < 0) = false := decide_eq_false h3a
  have c3b : decide (2147483647 < a0_3) = false := decide_eq_false h3b
  clear h3a h3b
  by_cases h4 : 64 < l0_4.length
  · have hn : listOK l0_4 = false := by unfold listOK; rw [decide_eq_false (by omega)]; rfl
    rw [hn]
    simp only [Bool.false_and, Bool.and_false]
    clear hn
    have d4a : decide (64 < (l0_4.length : Int)) = true := decide_eq_true (by omega)
    have d4b : decide (64 < l0_4.length) = true := decide_eq_true (by omega)
    clear h4
    go_enter Try.func28, Try.ntmps28
    go_wp2_with (first | ((with_reducible refine wp_loop_rounds 100 ?_); rw [rounds_succ]) | ((with_reducible rw [rounds_succ])) | (go_at_call 23; refine (image_numbers.calls w.heap.size _).mono ?_; rintro e w1 ⟨rfl, hb⟩; have n1 := Aside0.mk (below_then HB.out HB.out.size hb); have n2 := Aside0.mk (row_below hb (by simp) HM.out); clear HB HM; have HB := n1; have HM := n2; clear n1 n2 hb; have k0 : w1.cell? ⟨w.heap.size, 0, none⟩ = some (.int .i64 a0_0) := (cell_of_row w1 w.heap.size 0 _ _ _ HM.out).trans rfl; have k1 : w1.cell? ⟨w.heap.size, 1, none⟩ = some (.int .i64 a0_1) := (cell_of_row w1 w.heap.size 1 _ _ _ HM.out).trans rfl; have k2 : w1.cell? ⟨w.heap.size, 2, none⟩ = some (.int .i64 a0_2) := (cell_of_row w1 w.heap.size 2 _ _ _ HM.out).trans rfl; have k3 : w1.cell? ⟨w.heap.size, 3, none⟩ = some (.int .i64 a0_3) := (cell_of_row w1 w.heap.size 3 _ _ _ HM.out).trans rfl; have k4 : w1.cell? ⟨w.heap.size, 4, none⟩ = some (.slice A0_4 l0_4.length c0_4) := (cell_of_row w1 w.heap.size 4 _ _ _ HM.out).trans rfl; have k5 : w1.cell? ⟨w.heap.size, 5, none⟩ = some (.slice A0_5 l0_5.length c0_5) := (cell_of_row w1 w.heap.size 5 _ _ _ HM.out).trans rfl; have k6 : w1.cell? ⟨w.heap.size, 6, none⟩ = some (.slice A0_6 l0_6.length c0_6) := (cell_of_row w1 w.heap.size 6 _ _ _ HM.out).trans rfl) | (go_at_call 26; refine (image_lists.calls w.heap.size _).mono ?_; rintro e w2 ⟨rfl, hb⟩; have n1 := Aside0.mk (below_then HB.out HB.out.size hb); have n2 := Aside0.mk (row_below hb (blk_lt' HM.out) HM.out); clear HB HM k0 k1 k2 k3 k4 k5 k6; have HB := n1; have HM := n2; clear n1 n2 hb; have k0 : w2.cell? ⟨w.heap.size, 0, none⟩ = some (.int .i64 a0_0) := (cell_of_row w2 w.heap.size 0 _ _ _ HM.out).trans rfl; have k1 : w2.cell? ⟨w.heap.size, 1, none⟩ = some (.int .i64 a0_1) := (cell_of_row w2 w.heap.size 1 _ _ _ HM.out).trans rfl; have k2 : w2.cell? ⟨w.heap.size, 2, none⟩ = some (.int .i64 a0_2) := (cell_of_row w2 w.heap.size 2 _ _ _ HM.out).trans rfl; have k3 : w2.cell? ⟨w.heap.size, 3, none⟩ = some (.int .i64 a0_3) := (cell_of_row w2 w.heap.size 3 _ _ _ HM.out).trans rfl; have k4 : w2.cell? ⟨w.heap.size, 4, none⟩ = some (.slice A0_4 l0_4.length c0_4) := (cell_of_row w2 w.heap.size 4 _ _ _ HM.out).trans rfl; have k5 : w2.cell? ⟨w.heap.size, 5, none⟩ = some (.slice A0_5 l0_5.length c0_5) := (cell_of_row w2 w.heap.size 5 _ _ _ HM.out).trans rfl; have k6 : w2.cell? ⟨w.heap.size, 6, none⟩ = some (.slice A0_6 l0_6.length c0_6) := (cell_of_row w2 w.heap.size 6 _ _ _ HM.out).trans rfl))
    go_ret
    exact ⟨rfl, HB.out⟩
  have d4a : decide (64 < (l0_4.length : Int)) = false := decide_eq_false (by omega)
  have d4b : decide (64 < l0_4.length) = false := decide_eq_false (by omega)
  cases any4 : l0_4.any badCell with
  | true =>
    have hn : listOK l0_4 = false := by unfold listOK; rw [any4]; simp
    rw [hn]
    simp only [Bool.false_and, Bool.and_false]
    clear hn h4
    replace any4 := Aside0.mk any4
    go_enter Try.func28, Try.ntmps28
    go_wp2_with (first | ((with_reducible refine wp_loop_rounds 100 ?_); rw [rounds_succ]) | ((with_reducible rw [rounds_succ])) | (go_at_call 23; refine (image_numbers.calls w.heap.size _).mono ?_; rintro e w1 ⟨rfl, hb⟩; have n1 := Aside0.mk (below_then HB.out HB.out.size hb); have n2 := Aside0.mk (row_below hb (by simp) HM.out); clear HB HM; have HB := n1; have HM := n2; clear n1 n2 hb; have k0 : w1.cell? ⟨w.heap.size, 0, none⟩ = some (.int .i64 a0_0) := (cell_of_row w1 w.heap.size 0 _ _ _ HM.out).trans rfl; have k1 : w1.cell? ⟨w.heap.size, 1, none⟩ = some (.int .i64 a0_1) := (cell_of_row w1 w.heap.size 1 _ _ _ HM.out).trans rfl; have k2 : w1.cell? ⟨w.heap.size, 2, none⟩ = some (.int .i64 a0_2) := (cell_of_row w1 w.heap.size 2 _ _ _ HM.out).trans rfl; have k3 : w1.cell? ⟨w.heap.size, 3, none⟩ = some (.int .i64 a0_3) := (cell_of_row w1 w.heap.size 3 _ _ _ HM.out).trans rfl; have k4 : w1.cell? ⟨w.heap.size, 4, none⟩ = some (.slice A0_4 l0_4.length c0_4) := (cell_of_row w1 w.heap.size 4 _ _ _ HM.out).trans rfl; have k5 : w1.cell? ⟨w.heap.size, 5, none⟩ = some (.slice A0_5 l0_5.length c0_5) := (cell_of_row w1 w.heap.size 5 _ _ _ HM.out).trans rfl; have k6 : w1.cell? ⟨w.heap.size, 6, none⟩ = some (.slice A0_6 l0_6.length c0_6) := (cell_of_row w1 w.heap.size 6 _ _ _ HM.out).trans rfl) | (go_at_call 26; refine (image_lists.calls w.heap.size _).mono ?_; rintro e w2 ⟨rfl, hb⟩; have n1 := Aside0.mk (below_then HB.out HB.out.size hb); have n2 := Aside0.mk (row_below hb (blk_lt' HM.out) HM.out); clear HB HM k0 k1 k2 k3 k4 k5 k6; have HB := n1; have HM := n2; clear n1 n2 hb; have k0 : w2.cell? ⟨w.heap.size, 0, none⟩ = some (.int .i64 a0_0) := (cell_of_row w2 w.heap.size 0 _ _ _ HM.out).trans rfl; have k1 : w2.cell? ⟨w.heap.size, 1, none⟩ = some (.int .i64 a0_1) := (cell_of_row w2 w.heap.size 1 _ _ _ HM.out).trans rfl; have k2 : w2.cell? ⟨w.heap.size, 2, none⟩ = some (.int .i64 a0_2) := (cell_of_row w2 w.heap.size 2 _ _ _ HM.out).trans rfl; have k3 : w2.cell? ⟨w.heap.size, 3, none⟩ = some (.int .i64 a0_3) := (cell_of_row w2 w.heap.size 3 _ _ _ HM.out).trans rfl; have k4 : w2.cell? ⟨w.heap.size, 4, none⟩ = some (.slice A0_4 l0_4.length c0_4) := (cell_of_row w2 w.heap.size 4 _ _ _ HM.out).trans rfl; have k5 : w2.cell? ⟨w.heap.size, 5, none⟩ = some (.slice A0_5 l0_5.length c0_5) := (cell_of_row w2 w.heap.size 5 _ _ _ HM.out).trans rfl; have k6 : w2.cell? ⟨w.heap.size, 6, none⟩ = some (.slice A0_6 l0_6.length c0_6) := (cell_of_row w2 w.heap.size 6 _ _ _ HM.out).trans rfl) | (go_at_call 38; refine (ContainsFunc_can.calls A0_4 c0_4 l0_4 _ (Kd.C_below HR4.out HB.out) HC4.out).mono ?_; rintro e w3 ⟨rfl, hb⟩; rw [any4.out]; have n1 := Aside0.mk (below_then HB.out HB.out.size hb); have n2 := Aside0.mk (row_below hb (blk_lt' HM.out) HM.out); clear HB HM k0 k1 k2 k3 k4 k5 k6; have HB := n1; have HM := n2; clear n1 n2 hb; have k0 : w3.cell? ⟨w.heap.size, 0, none⟩ = some (.int .i64 a0_0) := (cell_of_row w3 w.heap.size 0 _ _ _ HM.out).trans rfl; have k1 : w3.cell? ⟨w.heap.size, 1, none⟩ = some (.int .i64 a0_1) := (cell_of_row w3 w.heap.size 1 _ _ _ HM.out).trans rfl; have k2 : w3.cell? ⟨w.heap.size, 2, none⟩ = some (.int .i64 a0_2) := (cell_of_row w3 w.heap.size 2 _ _ _ HM.out).trans rfl; have k3 : w3.cell? ⟨w.heap.size, 3, none⟩ = some (.int .i64 a0_3) := (cell_of_row w3 w.heap.size 3 _ _ _ HM.out).trans rfl; have k4 : w3.cell? ⟨w.heap.size, 4, none⟩ = some (.slice A0_4 l0_4.length c0_4) := (cell_of_row w3 w.heap.size 4 _ _ _ HM.out).trans rfl; have k5 : w3.cell? ⟨w.heap.size, 5, none⟩ = some (.slice A0_5 l0_5.length c0_5) := (cell_of_row w3 w.heap.size 5 _ _ _ HM.out).trans rfl; have k6 : w3.cell? ⟨w.heap.size, 6, none⟩ = some (.slice A0_6 l0_6.length c0_6) := (cell_of_row w3 w.heap.size 6 _ _ _ HM.out).trans rfl))
    go_ret
    exact ⟨rfl, HB.out⟩
  | false =>
    have hn : listOK l0_4 = true := by unfold listOK; rw [any4, decide_eq_true (by omega)]; rfl
    rw [hn, Bool.true_and]
    clear hn h4
    replace any4 := Aside0.mk any4
    by_cases h5 : 64 < l0_5.length
    · have hn : listOK l0_5 = false := by unfold listOK; rw [decide_eq_false (by omega)]; rfl
      rw [hn]
      simp only [Bool.false_and, Bool.and_false]
      clear hn
      have d5a : decide (64 < (l0_5.length : Int)) = true := decide_eq_true (by omega)
      have d5b : decide (64 < l0_5.length) = true := decide_eq_true (by omega)
      clear h5
      go_enter Try.func28, Try.ntmps28
      go_wp2_with (first | ((with_reducible refine wp_loop_rounds 100 ?_); rw [rounds_succ]) | ((with_reducible rw [rounds_succ])) | (go_at_call 23; refine (image_numbers.calls w.heap.size _).mono ?_; rintro e w1 ⟨rfl, hb⟩; have n1 := Aside0.mk (below_then HB.out HB.out.size hb); have n2 := Aside0.mk (row_below hb (by simp) HM.out); clear HB HM; have HB := n1; have HM := n2; clear n1 n2 hb; have k0 : w1.cell? ⟨w.heap.size, 0, none⟩ = some (.int .i64 a0_0) := (cell_of_row w1 w.heap.size 0 _ _ _ HM.out).trans rfl; have k1 : w1.cell? ⟨w.heap.size, 1, none⟩ = some (.int .i64 a0_1) := (cell_of_row w1 w.heap.size 1 _ _ _ HM.out).trans rfl; have k2 : w1.cell? ⟨w.heap.size, 2, none⟩ = some (.int .i64 a0_2) := (cell_of_row w1 w.heap.size 2 _ _ _ HM.out).trans rfl; have k3 : w1.cell? ⟨w.heap.size, 3, none⟩ = some (.int .i64 a0_3) := (cell_of_row w1 w.heap.size 3 _ _ _ HM.out).trans rfl; have k4 : w1.cell? ⟨w.heap.size, 4, none⟩ = some (.slice A0_4 l0_4.length c0_4) := (cell_of_row w1 w.heap.size 4 _ _ _ HM.out).trans rfl; have k5 : w1.cell? ⟨w.heap.size, 5, none⟩ = some (.slice A0_5 l0_5.length c0_5) := (cell_of_row w1 w.heap.size 5 _ _ _ HM.out).trans rfl; have k6 : w1.cell? ⟨w.heap.size, 6, none⟩ = some (.slice A0_6 l0_6.length c0_6) := (cell_of_row w1 w.heap.size 6 _ _ _ HM.out).trans rfl) | (go_at_call 26; refine (image_lists.calls w.heap.size _).mono ?_; rintro e w2 ⟨rfl, hb⟩; have n1 := Aside0.mk (below_then HB.out HB.out.size hb); have n2 := Aside0.mk (row_below hb (blk_lt' HM.out) HM.out); clear HB HM k0 k1 k2 k3 k4 k5 k6; have HB := n1; have HM := n2; clear n1 n2 hb; have k0 : w2.cell? ⟨w.heap.size, 0, none⟩ = some (.int .i64 a0_0) := (cell_of_row w2 w.heap.size 0 _ _ _ HM.out).trans rfl; have k1 : w2.cell? ⟨w.heap.size, 1, none⟩ = some (.int .i64 a0_1) := (cell_of_row w2 w.heap.size 1 _ _ _ HM.out).trans rfl; have k2 : w2.cell? ⟨w.heap.size, 2, none⟩ = some (.int .i64 a0_2) := (cell_of_row w2 w.heap.size 2 _ _ _ HM.out).trans rfl; have k3 : w2.cell? ⟨w.heap.size, 3, none⟩ = some (.int .i64 a0_3) := (cell_of_row w2 w.heap.size 3 _ _ _ HM.out).trans rfl; have k4 : w2.cell? ⟨w.heap.size, 4, none⟩ = some (.slice A0_4 l0_4.length c0_4) := (cell_of_row w2 w.heap.size 4 _ _ _ HM.out).trans rfl; have k5 : w2.cell? ⟨w.heap.size, 5, none⟩ = some (.slice A0_5 l0_5.length c0_5) := (cell_of_row w2 w.heap.size 5 _ _ _ HM.out).trans rfl; have k6 : w2.cell? ⟨w.heap.size, 6, none⟩ = some (.slice A0_6 l0_6.length c0_6) := (cell_of_row w2 w.heap.size 6 _ _ _ HM.out).trans rfl) | (go_at_call 38; refine (ContainsFunc_can.calls A0_4 c0_4 l0_4 _ (Kd.C_below HR4.out HB.out) HC4.out).mono ?_; rintro e w3 ⟨rfl, hb⟩; rw [any4.out]; have n1 := Aside0.mk (below_then HB.out HB.out.size hb); have n2 := Aside0.mk (row_below hb (blk_lt' HM.out) HM.out); clear HB HM k0 k1 k2 k3 k4 k5 k6; have HB := n1; have HM := n2; clear n1 n2 hb; have k0 : w3.cell? ⟨w.heap.size, 0, none⟩ = some (.int .i64 a0_0) := (cell_of_row w3 w.heap.size 0 _ _ _ HM.out).trans rfl; have k1 : w3.cell? ⟨w.heap.size, 1, none⟩ = some (.int .i64 a0_1) := (cell_of_row w3 w.heap.size 1 _ _ _ HM.out).trans rfl; have k2 : w3.cell? ⟨w.heap.size, 2, none⟩ = some (.int .i64 a0_2) := (cell_of_row w3 w.heap.size 2 _ _ _ HM.out).trans rfl; have k3 : w3.cell? ⟨w.heap.size, 3, none⟩ = some (.int .i64 a0_3) := (cell_of_row w3 w.heap.size 3 _ _ _ HM.out).trans rfl; have k4 : w3.cell? ⟨w.heap.size, 4, none⟩ = some (.slice A0_4 l0_4.length c0_4) := (cell_of_row w3 w.heap.size 4 _ _ _ HM.out).trans rfl; have k5 : w3.cell? ⟨w.heap.size, 5, none⟩ = some (.slice A0_5 l0_5.length c0_5) := (cell_of_row w3 w.heap.size 5 _ _ _ HM.out).trans rfl; have k6 : w3.cell? ⟨w.heap.size, 6, none⟩ = some (.slice A0_6 l0_6.length c0_6) := (cell_of_row w3 w.heap.size 6 _ _ _ HM.out).trans rfl))
      go_ret
      exact ⟨rfl, HB.out⟩
    have d5a : decide (64 < (l0_5.length : Int)) = false := decide_eq_false (by omega)
    have d5b : decide (64 < l0_5.length) = false := decide_eq_false (by omega)
    cases any5 : l0_5.any badCell with
    | true =>
      have hn : listOK l0_5 = false := by unfold listOK; rw [any5]; simp
      rw [hn]
      simp only [Bool.false_and, Bool.and_false]
      clear hn h5
      replace any5 := Aside0.mk any5
      go_enter Try.func28, Try.ntmps28
      go_wp2_with (first | ((with_reducible refine wp_loop_rounds 100 ?_); rw [rounds_succ]) | ((with_reducible rw [rounds_succ])) | (go_at_call 23; refine (image_numbers.calls w.heap.size _).mono ?_; rintro e w1 ⟨rfl, hb⟩; have n1 := Aside0.mk (below_then HB.out HB.out.size hb); have n2 := Aside0.mk (row_below hb (by simp) HM.out); clear HB HM; have HB := n1; have HM := n2; clear n1 n2 hb; have k0 : w1.cell? ⟨w.heap.size, 0, none⟩ = some (.int .i64 a0_0) := (cell_of_row w1 w.heap.size 0 _ _ _ HM.out).trans rfl; have k1 : w1.cell? ⟨w.heap.size, 1, none⟩ = some (.int .i64 a0_1) := (cell_of_row w1 w.heap.size 1 _ _ _ HM.out).trans rfl; have k2 : w1.cell? ⟨w.heap.size, 2, none⟩ = some (.int .i64 a0_2) := (cell_of_row w1 w.heap.size 2 _ _ _ HM.out).trans rfl; have k3 : w1.cell? ⟨w.heap.size, 3, none⟩ = some (.int .i64 a0_3) := (cell_of_row w1 w.heap.size 3 _ _ _ HM.out).trans rfl; have k4 : w1.cell? ⟨w.heap.size, 4, none⟩ = some (.slice A0_4 l0_4.length c0_4) := (cell_of_row w1 w.heap.size 4 _ _ _ HM.out).trans rfl; have k5 : w1.cell? ⟨w.heap.size, 5, none⟩ = some (.slice A0_5 l0_5.length c0_5) := (cell_of_row w1 w.heap.size 5 _ _ _ HM.out).trans rfl; have k6 : w1.cell? ⟨w.heap.size, 6, none⟩ = some (.slice A0_6 l0_6.length c0_6) := (cell_of_row w1 w.heap.size 6 _ _ _ HM.out).trans rfl) | (go_at_call 26; refine (image_lists.calls w.heap.size _).mono ?_; rintro e w2 ⟨rfl, hb⟩; have n1 := Aside0.mk (below_then HB.out HB.out.size hb); have n2 := Aside0.mk (row_below hb (blk_lt' HM.out) HM.out); clear HB HM k0 k1 k2 k3 k4 k5 k6; have HB := n1; have HM := n2; clear n1 n2 hb; have k0 : w2.cell? ⟨w.heap.size, 0, none⟩ = some (.int .i64 a0_0) := (cell_of_row w2 w.heap.size 0 _ _ _ HM.out).trans rfl; have k1 : w2.cell? ⟨w.heap.size, 1, none⟩ = some (.int .i64 a0_1) := (cell_of_row w2 w.heap.size 1 _ _ _ HM.out).trans rfl; have k2 : w2.cell? ⟨w.heap.size, 2, none⟩ = some (.int .i64 a0_2) := (cell_of_row w2 w.heap.size 2 _ _ _ HM.out).trans rfl; have k3 : w2.cell? ⟨w.heap.size, 3, none⟩ = some (.int .i64 a0_3) := (cell_of_row w2 w.heap.size 3 _ _ _ HM.out).trans rfl; have k4 : w2.cell? ⟨w.heap.size, 4, none⟩ = some (.slice A0_4 l0_4.length c0_4) := (cell_of_row w2 w.heap.size 4 _ _ _ HM.out).trans rfl; have k5 : w2.cell? ⟨w.heap.size, 5, none⟩ = some (.slice A0_5 l0_5.length c0_5) := (cell_of_row w2 w.heap.size 5 _ _ _ HM.out).trans rfl; have k6 : w2.cell? ⟨w.heap.size, 6, none⟩ = some (.slice A0_6 l0_6.length c0_6) := (cell_of_row w2 w.heap.size 6 _ _ _ HM.out).trans rfl) | (go_at_call 38; refine (ContainsFunc_can.calls A0_4 c0_4 l0_4 _ (Kd.C_below HR4.out HB.out) HC4.out).mono ?_; rintro e w3 ⟨rfl, hb⟩; rw [any4.out]; have n1 := Aside0.mk (below_then HB.out HB.out.size hb); have n2 := Aside0.mk (row_below hb (blk_lt' HM.out) HM.out); clear HB HM k0 k1 k2 k3 k4 k5 k6; have HB := n1; have HM := n2; clear n1 n2 hb; have k0 : w3.cell? ⟨w.heap.size, 0, none⟩ = some (.int .i64 a0_0) := (cell_of_row w3 w.heap.size 0 _ _ _ HM.out).trans rfl; have k1 : w3.cell? ⟨w.heap.size, 1, none⟩ = some (.int .i64 a0_1) := (cell_of_row w3 w.heap.size 1 _ _ _ HM.out).trans rfl; have k2 : w3.cell? ⟨w.heap.size, 2, none⟩ = some (.int .i64 a0_2) := (cell_of_row w3 w.heap.size 2 _ _ _ HM.out).trans rfl; have k3 : w3.cell? ⟨w.heap.size, 3, none⟩ = some (.int .i64 a0_3) := (cell_of_row w3 w.heap.size 3 _ _ _ HM.out).trans rfl; have k4 : w3.cell? ⟨w.heap.size, 4, none⟩ = some (.slice A0_4 l0_4.length c0_4) := (cell_of_row w3 w.heap.size 4 _ _ _ HM.out).trans rfl; have k5 : w3.cell? ⟨w.heap.size, 5, none⟩ = some (.slice A0_5 l0_5.length c0_5) := (cell_of_row w3 w.heap.size 5 _ _ _ HM.out).trans rfl; have k6 : w3.cell? ⟨w.heap.size, 6, none⟩ = some (.slice A0_6 l0_6.length c0_6) := (cell_of_row w3 w.heap.size 6 _ _ _ HM.out).trans rfl) | (go_at_call 38; refine (ContainsFunc_can.calls A0_5 c0_5 l0_5 _ (Kd.C_below HR5.out HB.out) HC5.out).mono ?_; rintro e w3 ⟨rfl, hb⟩; rw [any5.out]; have n1 := Aside0.mk (below_then HB.out HB.out.size hb); have n2 := Aside0.mk (row_below hb (blk_lt' HM.out) HM.out); clear HB HM k0 k1 k2 k3 k4 k5 k6; have HB := n1; have HM := n2; clear n1 n2 hb; have k0 : w3.cell? ⟨w.heap.size, 0, none⟩ = some (.int .i64 a0_0) := (cell_of_row w3 w.heap.size 0 _ _ _ HM.out).trans rfl; have k1 : w3.cell? ⟨w.heap.size, 1, none⟩ = some (.int .i64 a0_1) := (cell_of_row w3 w.heap.size 1 _ _ _ HM.out).trans rfl; have k2 : w3.cell? ⟨w.heap.size, 2, none⟩ = some (.int .i64 a0_2) := (cell_of_row w3 w.heap.size 2 _ _ _ HM.out).trans rfl; have k3 : w3.cell? ⟨w.heap.size, 3, none⟩ = some (.int .i64 a0_3) := (cell_of_row w3 w.heap.size 3 _ _ _ HM.out).trans rfl; have k4 : w3.cell? ⟨w.heap.size, 4, none⟩ = some (.slice A0_4 l0_4.length c0_4) := (cell_of_row w3 w.heap.size 4 _ _ _ HM.out).trans rfl; have k5 : w3.cell? ⟨w.heap.size, 5, none⟩ = some (.slice A0_5 l0_5.length c0_5) := (cell_of_row w3 w.heap.size 5 _ _ _ HM.out).trans rfl; have k6 : w3.cell? ⟨w.heap.size, 6, none⟩ = some (.slice A0_6 l0_6.length c0_6) := (cell_of_row w3 w.heap.size 6 _ _ _ HM.out).trans rfl))
      go_ret
      exact ⟨rfl, HB.out⟩
    | false =>
      have hn : listOK l0_5 = true := by unfold listOK; rw [any5, decide_eq_true (by omega)]; rfl
      rw [hn, Bool.true_and]
      clear hn h5
      replace any5 := Aside0.mk any5
      by_cases h6 : 64 < l0_6.length
      · have hn : listOK l0_6 = false := by unfold listOK; rw [decide_eq_false (by omega)]; rfl
        rw [hn]
        simp only [Bool.false_and, Bool.and_false]
        clear hn
        have d6a : decide (64 < (l0_6.length : Int)) = true := decide_eq_true (by omega)
        have d6b : decide (64 < l0_6.length) = true := decide_eq_true (by omega)
        clear h6
        go_enter Try.func28, Try.ntmps28
        go_wp2_with (first | ((with_reducible refine wp_loop_rounds 100 ?_); rw [rounds_succ]) | ((with_reducible rw [rounds_succ])) | (go_at_call 23; refine (image_numbers.calls w.heap.size _).mono ?_; rintro e w1 ⟨rfl, hb⟩; have n1 := Aside0.mk (below_then HB.out HB.out.size hb); have n2 := Aside0.mk (row_below hb (by simp) HM.out); clear HB HM; have HB := n1; have HM := n2; clear n1 n2 hb; have k0 : w1.cell? ⟨w.heap.size, 0, none⟩ = some (.int .i64 a0_0) := (cell_of_row w1 w.heap.size 0 _ _ _ HM.out).trans rfl; have k1 : w1.cell? ⟨w.heap.size, 1, none⟩ = some (.int .i64 a0_1) := (cell_of_row w1 w.heap.size 1 _ _ _ HM.out).trans rfl; have k2 : w1.cell? ⟨w.heap.size, 2, none⟩ = some (.int .i64 a0_2) := (cell_of_row w1 w.heap.size 2 _ _ _ HM.out).trans rfl; have k3 : w1.cell? ⟨w.heap.size, 3, none⟩ = some (.int .i64 a0_3) := (cell_of_row w1 w.heap.size 3 _ _ _ HM.out).trans rfl; have k4 : w1.cell? ⟨w.heap.size, 4, none⟩ = some (.slice A0_4 l0_4.length c0_4) := (cell_of_row w1 w.heap.size 4 _ _ _ HM.out).trans rfl; have k5 : w1.cell? ⟨w.heap.size, 5, none⟩ = some (.slice A0_5 l0_5.length c0_5) := (cell_of_row w1 w.heap.size 5 _ _ _ HM.out).trans rfl; have k6 : w1.cell? ⟨w.heap.size, 6, none⟩ = some (.slice A0_6 l0_6.length c0_6) := (cell_of_row w1 w.heap.size 6 _ _ _ HM.out).trans rfl) | (go_at_call 26; refine (image_lists.calls w.heap.size _).mono ?_; rintro e w2 ⟨rfl, hb⟩; have n1 := Aside0.mk (below_then HB.out HB.out.size hb); have n2 := Aside0.mk (row_below hb (blk_lt' HM.out) HM.out); clear HB HM k0 k1 k2 k3 k4 k5 k6; have HB := n1; have HM := n2; clear n1 n2 hb; have k0 : w2.cell? ⟨w.heap.size, 0, none⟩ = some (.int .i64 a0_0) := (cell_of_row w2 w.heap.size 0 _ _ _ HM.out).trans rfl; have k1 : w2.cell? ⟨w.heap.size, 1, none⟩ = some (.int .i64 a0_1) := (cell_of_row w2 w.heap.size 1 _ _ _ HM.out).trans rfl; have k2 : w2.cell? ⟨w.heap.size, 2, none⟩ = some (.int .i64 a0_2) := (cell_of_row w2 w.heap.size 2 _ _ _ HM.out).trans rfl; have k3 : w2.cell? ⟨w.heap.size, 3, none⟩ = some (.int .i64 a0_3) := (cell_of_row w2 w.heap.size 3 _ _ _ HM.out).trans rfl; have k4 : w2.cell? ⟨w.heap.size, 4, none⟩ = some (.slice A0_4 l0_4.length c0_4) := (cell_of_row w2 w.heap.size 4 _ _ _ HM.out).trans rfl; have k5 : w2.cell? ⟨w.heap.size, 5, none⟩ = some (.slice A0_5 l0_5.length c0_5) := (cell_of_row w2 w.heap.size 5 _ _ _ HM.out).trans rfl; have k6 : w2.cell? ⟨w.heap.size, 6, none⟩ = some (.slice A0_6 l0_6.length c0_6) := (cell_of_row w2 w.heap.size 6 _ _ _ HM.out).trans rfl) | (go_at_call 38; refine (ContainsFunc_can.calls A0_4 c0_4 l0_4 _ (Kd.C_below HR4.out HB.out) HC4.out).mono ?_; rintro e w3 ⟨rfl, hb⟩; rw [any4.out]; have n1 := Aside0.mk (below_then HB.out HB.out.size hb); have n2 := Aside0.mk (row_below hb (blk_lt' HM.out) HM.out); clear HB HM k0 k1 k2 k3 k4 k5 k6; have HB := n1; have HM := n2; clear n1 n2 hb; have k0 : w3.cell? ⟨w.heap.size, 0, none⟩ = some (.int .i64 a0_0) := (cell_of_row w3 w.heap.size 0 _ _ _ HM.out).trans rfl; have k1 : w3.cell? ⟨w.heap.size, 1, none⟩ = some (.int .i64 a0_1) := (cell_of_row w3 w.heap.size 1 _ _ _ HM.out).trans rfl; have k2 : w3.cell? ⟨w.heap.size, 2, none⟩ = some (.int .i64 a0_2) := (cell_of_row w3 w.heap.size 2 _ _ _ HM.out).trans rfl; have k3 : w3.cell? ⟨w.heap.size, 3, none⟩ = some (.int .i64 a0_3) := (cell_of_row w3 w.heap.size 3 _ _ _ HM.out).trans rfl; have k4 : w3.cell? ⟨w.heap.size, 4, none⟩ = some (.slice A0_4 l0_4.length c0_4) := (cell_of_row w3 w.heap.size 4 _ _ _ HM.out).trans rfl; have k5 : w3.cell? ⟨w.heap.size, 5, none⟩ = some (.slice A0_5 l0_5.length c0_5) := (cell_of_row w3 w.heap.size 5 _ _ _ HM.out).trans rfl; have k6 : w3.cell? ⟨w.heap.size, 6, none⟩ = some (.slice A0_6 l0_6.length c0_6) := (cell_of_row w3 w.heap.size 6 _ _ _ HM.out).trans rfl) | (go_at_call 38; refine (ContainsFunc_can.calls A0_5 c0_5 l0_5 _ (Kd.C_below HR5.out HB.out) HC5.out).mono ?_; rintro e w3 ⟨rfl, hb⟩; rw [any5.out]; have n1 := Aside0.mk (below_then HB.out HB.out.size hb); have n2 := Aside0.mk (row_below hb (blk_lt' HM.out) HM.out); clear HB HM k0 k1 k2 k3 k4 k5 k6; have HB := n1; have HM := n2; clear n1 n2 hb; have k0 : w3.cell? ⟨w.heap.size, 0, none⟩ = some (.int .i64 a0_0) := (cell_of_row w3 w.heap.size 0 _ _ _ HM.out).trans rfl; have k1 : w3.cell? ⟨w.heap.size, 1, none⟩ = some (.int .i64 a0_1) := (cell_of_row w3 w.heap.size 1 _ _ _ HM.out).trans rfl; have k2 : w3.cell? ⟨w.heap.size, 2, none⟩ = some (.int .i64 a0_2) := (cell_of_row w3 w.heap.size 2 _ _ _ HM.out).trans rfl; have k3 : w3.cell? ⟨w.heap.size, 3, none⟩ = some (.int .i64 a0_3) := (cell_of_row w3 w.heap.size 3 _ _ _ HM.out).trans rfl; have k4 : w3.cell? ⟨w.heap.size, 4, none⟩ = some (.slice A0_4 l0_4.length c0_4) := (cell_of_row w3 w.heap.size 4 _ _ _ HM.out).trans rfl; have k5 : w3.cell? ⟨w.heap.size, 5, none⟩ = some (.slice A0_5 l0_5.length c0_5) := (cell_of_row w3 w.heap.size 5 _ _ _ HM.out).trans rfl; have k6 : w3.cell? ⟨w.heap.size, 6, none⟩ = some (.slice A0_6 l0_6.length c0_6) := (cell_of_row w3 w.heap.size 6 _ _ _ HM.out).trans rfl))
        go_ret
        exact ⟨rfl, HB.out⟩
      have d6a : decide (64 < (l0_6.length : Int)) = false := decide_eq_false (by omega)
      have d6b : decide (64 < l0_6.length) = false := decide_eq_false (by omega)
      cases any6 : l0_6.any badCell with
      | true =>
        have hn : listOK l0_6 = false := by unfold listOK; rw [any6]; simp
        rw [hn]
        simp only [Bool.false_and, Bool.and_false]
        clear hn h6
        replace any6 := Aside0.mk any6
        go_enter Try.func28, Try.ntmps28
        go_wp2_with (first | ((with_reducible refine wp_loop_rounds 100 ?_); rw [rounds_succ]) | ((with_reducible rw [rounds_succ])) | (go_at_call 23; refine (image_numbers.calls w.heap.size _).mono ?_; rintro e w1 ⟨rfl, hb⟩; have n1 := Aside0.mk (below_then HB.out HB.out.size hb); have n2 := Aside0.mk (row_below hb (by simp) HM.out); clear HB HM; have HB := n1; have HM := n2; clear n1 n2 hb; have k0 : w1.cell? ⟨w.heap.size, 0, none⟩ = some (.int .i64 a0_0) := (cell_of_row w1 w.heap.size 0 _ _ _ HM.out).trans rfl; have k1 : w1.cell? ⟨w.heap.size, 1, none⟩ = some (.int .i64 a0_1) := (cell_of_row w1 w.heap.size 1 _ _ _ HM.out).trans rfl; have k2 : w1.cell? ⟨w.heap.size, 2, none⟩ = some (.int .i64 a0_2) := (cell_of_row w1 w.heap.size 2 _ _ _ HM.out).trans rfl; have k3 : w1.cell? ⟨w.heap.size, 3, none⟩ = some (.int .i64 a0_3) := (cell_of_row w1 w.heap.size 3 _ _ _ HM.out).trans rfl; have k4 : w1.cell? ⟨w.heap.size, 4, none⟩ = some (.slice A0_4 l0_4.length c0_4) := (cell_of_row w1 w.heap.size 4 _ _ _ HM.out).trans rfl; have k5 : w1.cell? ⟨w.heap.size, 5, none⟩ = some (.slice A0_5 l0_5.length c0_5) := (cell_of_row w1 w.heap.size 5 _ _ _ HM.out).trans rfl; have k6 : w1.cell? ⟨w.heap.size, 6, none⟩ = some (.slice A0_6 l0_6.length c0_6) := (cell_of_row w1 w.heap.size 6 _ _ _ HM.out).trans rfl) | (go_at_call 26; refine (image_lists.calls w.heap.size _).mono ?_; rintro e w2 ⟨rfl, hb⟩; have n1 := Aside0.mk (below_then HB.out HB.out.size hb); have n2 := Aside0.mk (row_below hb (blk_lt' HM.out) HM.out); clear HB HM k0 k1 k2 k3 k4 k5 k6; have HB := n1; have HM := n2; clear n1 n2 hb; have k0 : w2.cell? ⟨w.heap.size, 0, none⟩ = some (.int .i64 a0_0) := (cell_of_row w2 w.heap.size 0 _ _ _ HM.out).trans rfl; have k1 : w2.cell? ⟨w.heap.size, 1, none⟩ = some (.int .i64 a0_1) := (cell_of_row w2 w.heap.size 1 _ _ _ HM.out).trans rfl; have k2 : w2.cell? ⟨w.heap.size, 2, none⟩ = some (.int .i64 a0_2) := (cell_of_row w2 w.heap.size 2 _ _ _ HM.out).trans rfl; have k3 : w2.cell? ⟨w.heap.size, 3, none⟩ = some (.int .i64 a0_3) := (cell_of_row w2 w.heap.size 3 _ _ _ HM.out).trans rfl; have k4 : w2.cell? ⟨w.heap.size, 4, none⟩ = some (.slice A0_4 l0_4.length c0_4) := (cell_of_row w2 w.heap.size 4 _ _ _ HM.out).trans rfl; have k5 : w2.cell? ⟨w.heap.size, 5, none⟩ = some (.slice A0_5 l0_5.length c0_5) := (cell_of_row w2 w.heap.size 5 _ _ _ HM.out).trans rfl; have k6 : w2.cell? ⟨w.heap.size, 6, none⟩ = some (.slice A0_6 l0_6.length c0_6) := (cell_of_row w2 w.heap.size 6 _ _ _ HM.out).trans rfl) | (go_at_call 38; refine (ContainsFunc_can.calls A0_4 c0_4 l0_4 _ (Kd.C_below HR4.out HB.out) HC4.out).mono ?_; rintro e w3 ⟨rfl, hb⟩; rw [any4.out]; have n1 := Aside0.mk (below_then HB.out HB.out.size hb); have n2 := Aside0.mk (row_below hb (blk_lt' HM.out) HM.out); clear HB HM k0 k1 k2 k3 k4 k5 k6; have HB := n1; have HM := n2; clear n1 n2 hb; have k0 : w3.cell? ⟨w.heap.size, 0, none⟩ = some (.int .i64 a0_0) := (cell_of_row w3 w.heap.size 0 _ _ _ HM.out).trans rfl; have k1 : w3.cell? ⟨w.heap.size, 1, none⟩ = some (.int .i64 a0_1) := (cell_of_row w3 w.heap.size 1 _ _ _ HM.out).trans rfl; have k2 : w3.cell? ⟨w.heap.size, 2, none⟩ = some (.int .i64 a0_2) := (cell_of_row w3 w.heap.size 2 _ _ _ HM.out).trans rfl; have k3 : w3.cell? ⟨w.heap.size, 3, none⟩ = some (.int .i64 a0_3) := (cell_of_row w3 w.heap.size 3 _ _ _ HM.out).trans rfl; have k4 : w3.cell? ⟨w.heap.size, 4, none⟩ = some (.slice A0_4 l0_4.length c0_4) := (cell_of_row w3 w.heap.size 4 _ _ _ HM.out).trans rfl; have k5 : w3.cell? ⟨w.heap.size, 5, none⟩ = some (.slice A0_5 l0_5.length c0_5) := (cell_of_row w3 w.heap.size 5 _ _ _ HM.out).trans rfl; have k6 : w3.cell? ⟨w.heap.size, 6, none⟩ = some (.slice A0_6 l0_6.length c0_6) := (cell_of_row w3 w.heap.size 6 _ _ _ HM.out).trans rfl) | (go_at_call 38; refine (ContainsFunc_can.calls A0_5 c0_5 l0_5 _ (Kd.C_below HR5.out HB.out) HC5.out).mono ?_; rintro e w3 ⟨rfl, hb⟩; rw [any5.out]; have n1 := Aside0.mk (below_then HB.out HB.out.size hb); have n2 := Aside0.mk (row_below hb (blk_lt' HM.out) HM.out); clear HB HM k0 k1 k2 k3 k4 k5 k6; have HB := n1; have HM := n2; clear n1 n2 hb; have k0 : w3.cell? ⟨w.heap.size, 0, none⟩ = some (.int .i64 a0_0) := (cell_of_row w3 w.heap.size 0 _ _ _ HM.out).trans rfl; have k1 : w3.cell? ⟨w.heap.size, 1, none⟩ = some (.int .i64 a0_1) := (cell_of_row w3 w.heap.size 1 _ _ _ HM.out).trans rfl; have k2 : w3.cell? ⟨w.heap.size, 2, none⟩ = some (.int .i64 a0_2) := (cell_of_row w3 w.heap.size 2 _ _ _ HM.out).trans rfl; have k3 : w3.cell? ⟨w.heap.size, 3, none⟩ = some (.int .i64 a0_3) := (cell_of_row w3 w.heap.size 3 _ _ _ HM.out).trans rfl; have k4 : w3.cell? ⟨w.heap.size, 4, none⟩ = some (.slice A0_4 l0_4.length c0_4) := (cell_of_row w3 w.heap.size 4 _ _ _ HM.out).trans rfl; have k5 : w3.cell? ⟨w.heap.size, 5, none⟩ = some (.slice A0_5 l0_5.length c0_5) := (cell_of_row w3 w.heap.size 5 _ _ _ HM.out).trans rfl; have k6 : w3.cell? ⟨w.heap.size, 6, none⟩ = some (.slice A0_6 l0_6.length c0_6) := (cell_of_row w3 w.heap.size 6 _ _ _ HM.out).trans rfl) | (go_at_call 38; refine (ContainsFunc_can.calls A0_6 c0_6 l0_6 _ (Kd.C_below HR6.out HB.out) HC6.out).mono ?_; rintro e w3 ⟨rfl, hb⟩; rw [any6.out]; have n1 := Aside0.mk (below_then HB.out HB.out.size hb); have n2 := Aside0.mk (row_below hb (blk_lt' HM.out) HM.out); clear HB HM k0 k1 k2 k3 k4 k5 k6; have HB := n1; have HM := n2; clear n1 n2 hb; have k0 : w3.cell? ⟨w.heap.size, 0, none⟩ = some (.int .i64 a0_0) := (cell_of_row w3 w.heap.size 0 _ _ _ HM.out).trans rfl; have k1 : w3.cell? ⟨w.heap.size, 1, none⟩ = some (.int .i64 a0_1) := (cell_of_row w3 w.heap.size 1 _ _ _ HM.out).trans rfl; have k2 : w3.cell? ⟨w.heap.size, 2, none⟩ = some (.int .i64 a0_2) := (cell_of_row w3 w.heap.size 2 _ _ _ HM.out).trans rfl; have k3 : w3.cell? ⟨w.heap.size, 3, none⟩ = some (.int .i64 a0_3) := (cell_of_row w3 w.heap.size 3 _ _ _ HM.out).trans rfl; have k4 : w3.cell? ⟨w.heap.size, 4, none⟩ = some (.slice A0_4 l0_4.length c0_4) := (cell_of_row w3 w.heap.size 4 _ _ _ HM.out).trans rfl; have k5 : w3.cell? ⟨w.heap.size, 5, none⟩ = some (.slice A0_5 l0_5.length c0_5) := (cell_of_row w3 w.heap.size 5 _ _ _ HM.out).trans rfl; have k6 : w3.cell? ⟨w.heap.size, 6, none⟩ = some (.slice A0_6 l0_6.length c0_6) := (cell_of_row w3 w.heap.size 6 _ _ _ HM.out).trans rfl))
        go_ret
        exact ⟨rfl, HB.out⟩
      | false =>
        have hn : listOK l0_6 = true := by unfold listOK; rw [any6, decide_eq_true (by omega)]; rfl
        rw [hn, Bool.true_and]
        clear hn h6
        replace any6 := Aside0.mk any6
        obtain ⟨bl, hbl⟩ : ∃ b : Bool, decide (a0_3 ≤ 16000) = b := ⟨_, rfl⟩
        rw [hbl]
        go_enter Try.func28, Try.ntmps28
        go_wp2_with (first | ((with_reducible refine wp_loop_rounds 100 ?_); rw [rounds_succ]) | ((with_reducible rw [rounds_succ])) | (go_at_call 23; refine (image_numbers.calls w.heap.size _).mono ?_; rintro e w1 ⟨rfl, hb⟩; have n1 := Aside0.mk (below_then HB.out HB.out.size hb); have n2 := Aside0.mk (row_below hb (by simp) HM.out); clear HB HM; have HB := n1; have HM := n2; clear n1 n2 hb; have k0 : w1.cell? ⟨w.heap.size, 0, none⟩ = some (.int .i64 a0_0) := (cell_of_row w1 w.heap.size 0 _ _ _ HM.out).trans rfl; have k1 : w1.cell? ⟨w.heap.size, 1, none⟩ = some (.int .i64 a0_1) := (cell_of_row w1 w.heap.size 1 _ _ _ HM.out).trans rfl; have k2 : w1.cell? ⟨w.heap.size, 2, none⟩ = some (.int .i64 a0_2) := (cell_of_row w1 w.heap.size 2 _ _ _ HM.out).trans rfl; have k3 : w1.cell? ⟨w.heap.size, 3, none⟩ = some (.int .i64 a0_3) := (cell_of_row w1 w.heap.size 3 _ _ _ HM.out).trans rfl; have k4 : w1.cell? ⟨w.heap.size, 4, none⟩ = some (.slice A0_4 l0_4.length c0_4) := (cell_of_row w1 w.heap.size 4 _ _ _ HM.out).trans rfl; have k5 : w1.cell? ⟨w.heap.size, 5, none⟩ = some (.slice A0_5 l0_5.length c0_5) := (cell_of_row w1 w.heap.size 5 _ _ _ HM.out).trans rfl; have k6 : w1.cell? ⟨w.heap.size, 6, none⟩ = some (.slice A0_6 l0_6.length c0_6) := (cell_of_row w1 w.heap.size 6 _ _ _ HM.out).trans rfl) | (go_at_call 26; refine (image_lists.calls w.heap.size _).mono ?_; rintro e w2 ⟨rfl, hb⟩; have n1 := Aside0.mk (below_then HB.out HB.out.size hb); have n2 := Aside0.mk (row_below hb (blk_lt' HM.out) HM.out); clear HB HM k0 k1 k2 k3 k4 k5 k6; have HB := n1; have HM := n2; clear n1 n2 hb; have k0 : w2.cell? ⟨w.heap.size, 0, none⟩ = some (.int .i64 a0_0) := (cell_of_row w2 w.heap.size 0 _ _ _ HM.out).trans rfl; have k1 : w2.cell? ⟨w.heap.size, 1, none⟩ = some (.int .i64 a0_1) := (cell_of_row w2 w.heap.size 1 _ _ _ HM.out).trans rfl; have k2 : w2.cell? ⟨w.heap.size, 2, none⟩ = some (.int .i64 a0_2) := (cell_of_row w2 w.heap.size 2 _ _ _ HM.out).trans rfl; have k3 : w2.cell? ⟨w.heap.size, 3, none⟩ = some (.int .i64 a0_3) := (cell_of_row w2 w.heap.size 3 _ _ _ HM.out).trans rfl; have k4 : w2.cell? ⟨w.heap.size, 4, none⟩ = some (.slice A0_4 l0_4.length c0_4) := (cell_of_row w2 w.heap.size 4 _ _ _ HM.out).trans rfl; have k5 : w2.cell? ⟨w.heap.size, 5, none⟩ = some (.slice A0_5 l0_5.length c0_5) := (cell_of_row w2 w.heap.size 5 _ _ _ HM.out).trans rfl; have k6 : w2.cell? ⟨w.heap.size, 6, none⟩ = some (.slice A0_6 l0_6.length c0_6) := (cell_of_row w2 w.heap.size 6 _ _ _ HM.out).trans rfl) | (go_at_call 38; refine (ContainsFunc_can.calls A0_4 c0_4 l0_4 _ (Kd.C_below HR4.out HB.out) HC4.out).mono ?_; rintro e w3 ⟨rfl, hb⟩; rw [any4.out]; have n1 := Aside0.mk (below_then HB.out HB.out.size hb); have n2 := Aside0.mk (row_below hb (blk_lt' HM.out) HM.out); clear HB HM k0 k1 k2 k3 k4 k5 k6; have HB := n1; have HM := n2; clear n1 n2 hb; have k0 : w3.cell? ⟨w.heap.size, 0, none⟩ = some (.int .i64 a0_0) := (cell_of_row w3 w.heap.size 0 _ _ _ HM.out).trans rfl; have k1 : w3.cell? ⟨w.heap.size, 1, none⟩ = some (.int .i64 a0_1) := (cell_of_row w3 w.heap.size 1 _ _ _ HM.out).trans rfl; have k2 : w3.cell? ⟨w.heap.size, 2, none⟩ = some (.int .i64 a0_2) := (cell_of_row w3 w.heap.size 2 _ _ _ HM.out).trans rfl; have k3 : w3.cell? ⟨w.heap.size, 3, none⟩ = some (.int .i64 a0_3) := (cell_of_row w3 w.heap.size 3 _ _ _ HM.out).trans rfl; have k4 : w3.cell? ⟨w.heap.size, 4, none⟩ = some (.slice A0_4 l0_4.length c0_4) := (cell_of_row w3 w.heap.size 4 _ _ _ HM.out).trans rfl; have k5 : w3.cell? ⟨w.heap.size, 5, none⟩ = some (.slice A0_5 l0_5.length c0_5) := (cell_of_row w3 w.heap.size 5 _ _ _ HM.out).trans rfl; have k6 : w3.cell? ⟨w.heap.size, 6, none⟩ = some (.slice A0_6 l0_6.length c0_6) := (cell_of_row w3 w.heap.size 6 _ _ _ HM.out).trans rfl) | (go_at_call 38; refine (ContainsFunc_can.calls A0_5 c0_5 l0_5 _ (Kd.C_below HR5.out HB.out) HC5.out).mono ?_; rintro e w3 ⟨rfl, hb⟩; rw [any5.out]; have n1 := Aside0.mk (below_then HB.out HB.out.size hb); have n2 := Aside0.mk (row_below hb (blk_lt' HM.out) HM.out); clear HB HM k0 k1 k2 k3 k4 k5 k6; have HB := n1; have HM := n2; clear n1 n2 hb; have k0 : w3.cell? ⟨w.heap.size, 0, none⟩ = some (.int .i64 a0_0) := (cell_of_row w3 w.heap.size 0 _ _ _ HM.out).trans rfl; have k1 : w3.cell? ⟨w.heap.size, 1, none⟩ = some (.int .i64 a0_1) := (cell_of_row w3 w.heap.size 1 _ _ _ HM.out).trans rfl; have k2 : w3.cell? ⟨w.heap.size, 2, none⟩ = some (.int .i64 a0_2) := (cell_of_row w3 w.heap.size 2 _ _ _ HM.out).trans rfl; have k3 : w3.cell? ⟨w.heap.size, 3, none⟩ = some (.int .i64 a0_3) := (cell_of_row w3 w.heap.size 3 _ _ _ HM.out).trans rfl; have k4 : w3.cell? ⟨w.heap.size, 4, none⟩ = some (.slice A0_4 l0_4.length c0_4) := (cell_of_row w3 w.heap.size 4 _ _ _ HM.out).trans rfl; have k5 : w3.cell? ⟨w.heap.size, 5, none⟩ = some (.slice A0_5 l0_5.length c0_5) := (cell_of_row w3 w.heap.size 5 _ _ _ HM.out).trans rfl; have k6 : w3.cell? ⟨w.heap.size, 6, none⟩ = some (.slice A0_6 l0_6.length c0_6) := (cell_of_row w3 w.heap.size 6 _ _ _ HM.out).trans rfl) | (go_at_call 38; refine (ContainsFunc_can.calls A0_6 c0_6 l0_6 _ (Kd.C_below HR6.out HB.out) HC6.out).mono ?_; rintro e w3 ⟨rfl, hb⟩; rw [any6.out]; have n1 := Aside0.mk (below_then HB.out HB.out.size hb); have n2 := Aside0.mk (row_below hb (blk_lt' HM.out) HM.out); clear HB HM k0 k1 k2 k3 k4 k5 k6; have HB := n1; have HM := n2; clear n1 n2 hb; have k0 : w3.cell? ⟨w.heap.size, 0, none⟩ = some (.int .i64 a0_0) := (cell_of_row w3 w.heap.size 0 _ _ _ HM.out).trans rfl; have k1 : w3.cell? ⟨w.heap.size, 1, none⟩ = some (.int .i64 a0_1) := (cell_of_row w3 w.heap.size 1 _ _ _ HM.out).trans rfl; have k2 : w3.cell? ⟨w.heap.size, 2, none⟩ = some (.int .i64 a0_2) := (cell_of_row w3 w.heap.size 2 _ _ _ HM.out).trans rfl; have k3 : w3.cell? ⟨w.heap.size, 3, none⟩ = some (.int .i64 a0_3) := (cell_of_row w3 w.heap.size 3 _ _ _ HM.out).trans rfl; have k4 : w3.cell? ⟨w.heap.size, 4, none⟩ = some (.slice A0_4 l0_4.length c0_4) := (cell_of_row w3 w.heap.size 4 _ _ _ HM.out).trans rfl; have k5 : w3.cell? ⟨w.heap.size, 5, none⟩ = some (.slice A0_5 l0_5.length c0_5) := (cell_of_row w3 w.heap.size 5 _ _ _ HM.out).trans rfl; have k6 : w3.cell? ⟨w.heap.size, 6, none⟩ = some (.slice A0_6 l0_6.length c0_6) := (cell_of_row w3 w.heap.size 6 _ _ _ HM.out).trans rfl))
        go_ret
        exact ⟨rfl, HB.out⟩
attribute [local go_sem] idx59_0 idx59_1 idx59_2
theorem little_first {w w1 : World} {v1 : Value} (ho : w1.ownsRow (w.alloc (.cells #[.int .u8 0, .int .u8 0, .int .u8 0, .int .u8 0] 5)).heap.size 5 1 v1 (4 + 4) ([.int .u8 77, .int .u8 83, .int .u8 75, .int .u8 49] ++ [.int .u8 0, .int .u8 0, .int .u8 0, .int .u8 0])) : Kd.R (Kd.int .u8) 5 w1 w.heap.size (fun _ => True) v1 [77, 83, 75, 49, 0, 0, 0, 0] := by
  have h : Kd.R (Kd.int .u8) 5 w1 ((w.alloc (.cells #[.int .u8 0, .int .u8 0, .int .u8 0, .int .u8 0] 5)).heap.size) (fun _ => True) v1 [77, 83, 75, 49, 0, 0, 0, 0] := Kd.R_of_own ho (fun _ _ => trivial)
  exact Kd.R_lower h (by simp)
theorem info5x : (Try.prog.info? 5).map (fun i => (i.zero, i.size, i.bytes)) = some (some (.int .u8 0), 1, 1) := by kernel_rfl
set_option maxHeartbeats 8000000 in
set_option maxRecDepth 100000 in
theorem little_lives.calls (gb hb : Nat) (w : World) (h1 : w.heap[gb]? = some (.cells #[.int .u8 77, .int .u8 83, .int .u8 75, .int .u8 49] 5 (4, 5))) (h2 : w.heap[hb]? = some (.cells #[.int .i64 0, .int .i64 0, .int .i64 0, .int .i64 0, .int .i64 1] 3 (0, 0))) :
    Calls Try.prog 40 #[.slice (some ⟨gb, 0, none⟩) 4 4, .slice (some ⟨hb, 0, none⟩) 5 5] w fun e w' => ∃ v0_ : Value, e = .returned (v0_) ∧ Kd.R (Kd.int .u8) 5 w' w.heap.size (fun _ => True) v0_ [77, 83, 75, 49, 0, 0, 0, 0, 0, 0, 0, 0, 0, 0, 0, 0, 0, 0, 0, 0, 1, 0, 0, 0] ∧ Below w.heap.size w w' := by
  have info5 := info5x
  obtain ⟨i5, hi5, hzz⟩ := Option.map_eq_some_iff.1 info5
  simp only [Prod.mk.injEq] at hzz
  obtain ⟨hz5, hs5, hy5⟩ := hzz
  have hmk := Aside0.mk (show (w.alloc (.cells #[.int .u8 0, .int .u8 0, .int .u8 0, .int .u8 0] 5)).heap[gb]? = some (.cells #[.int .u8 77, .int .u8 83, .int .u8 75, .int .u8 49] 5 (4, 5)) from (heap_alloc_old w _ (blk_lt' h1)).trans h1)
  have HH := Aside0.mk h2
  have kl0 : w.cell? ⟨hb, 0, none⟩ = some (.int .i64 0) := (cell_of_row w hb 0 _ _ _ h2).trans rfl
  have kl1 : w.cell? ⟨hb, 1, none⟩ = some (.int .i64 0) := (cell_of_row w hb 1 _ _ _ h2).trans rfl
  have kl2 : w.cell? ⟨hb, 2, none⟩ = some (.int .i64 0) := (cell_of_row w hb 2 _ _ _ h2).trans rfl
  have kl3 : w.cell? ⟨hb, 3, none⟩ = some (.int .i64 0) := (cell_of_row w hb 3 _ _ _ h2).trans rfl
  have kl4 : w.cell? ⟨hb, 4, none⟩ = some (.int .i64 1) := (cell_of_row w hb 4 _ _ _ h2).trans rfl
  have K0 := Aside0.mk kl0
  have K1 := Aside0.mk kl1
  have K2 := Aside0.mk kl2
  have K3 := Aside0.mk kl3
  have K4 := Aside0.mk kl4
  clear h1 h2
  replace hi5 := Aside0.mk hi5
  replace hz5 := Aside0.mk hz5
  replace hs5 := Aside0.mk hs5
  replace hy5 := Aside0.mk hy5
  go_enter Try.func40, Try.ntmps40
  go_wp2_with (first | ((with_reducible refine wp_loop_rounds 100 ?_); rw [rounds_succ]) | ((with_reducible rw [rounds_succ])) | ((with_reducible refine gate_builtin (b := .append) (xs := #[.tmp 13, .tmp 25]) rfl ?_); at_builtin; refine wpList_append_arg _ rfl (.tmp 13) (.tmp 25) 29 rfl 5 i5 (.int .u8 0) 1 1 Try.underlying29 hi5.out hz5.out hs5.out hy5.out rfl (by decide) gb 0 4 4 [.int .u8 77, .int .u8 83, .int .u8 75, .int .u8 49] rfl rfl ?lo ⟨w.heap.size, 0, none⟩ 4 4 [.int .u8 0, .int .u8 0, .int .u8 0, .int .u8 0] rfl rfl ?c1 ?c2 (fun h => absurd h (by omega)) (by decide) (by decide) (fun h => absurd h (by omega)) ?_; (case lo => exact fun j u hj => by rw [Nat.zero_add, cell_of_row _ gb j _ _ _ (hmk.out)]; simpa using hj); (case c1 => exact fun j u hj => by rw [add_plain, cell_of_row _ w.heap.size j _ _ _ (heap_alloc_new w _)]; simpa using hj); (case c2 => simp [Value.oneCell']); intro _ v1 w1 ho hgr; have HO1 := Aside0.mk (little_first ho); have HB1 := Aside0.mk (pw_below_grown (below_alloc (Below.refl w.heap.size w) _) none (by simp) hgr (fun k hk => by cases hk)); clear ho hgr; have n0 := pw_cell_below HB1.out K0.out; have n1 := pw_cell_below HB1.out K1.out; have n2 := pw_cell_below HB1.out K2.out; have n3 := pw_cell_below HB1.out K3.out; have n4 := pw_cell_below HB1.out K4.out; clear kl0 kl1 kl2 kl3 kl4; have kl0 := n0; have kl1 := n1; have kl2 := n2; have kl3 := n3; have kl4 := n4; clear n0 n1 n2 n3 n4) | ((with_reducible refine gate_builtin (b := .append) (xs := #[.tmp 13, .tmp 25]) rfl ?_); at_builtin; refine Kd.R_append_rows (Kd.int .u8) (w0 := w) w.heap.size rfl (.tmp 13) (.tmp 25) 29 5 (.int .u8 0) 1 rfl Try.underlying29 info5 rfl (by decide) (by omega) v1 [77, 83, 75, 49, 0, 0, 0, 0] [0, 0, 0, 0] (some ⟨w1.heap.size, 0, none⟩) 4 4 (fun _ => True) (fun _ => False) rfl rfl ?aO ?aR (fun _ _ h => h) (fun _ h => h.elim) ?aF ?aB ?aS ?aL ?_; (case aO => exact Kd.R_alloc HO1.out _); (case aR => exact (Kd.R_reads' (Kd.R_of_own (own_lit w1 w1.heap.size 5 .u8 [0, 0, 0, 0] (Nat.le_refl _) (by simp)) (ok := fun _ => True) (fun _ _ => trivial))).2.2); (case aB => exact below_alloc HB1.out _); (case aF => exact (fun _ _ => trivial)); (case aS => exact Nat.le_trans HB1.out.size (by simp)); (case aL => simp); intro v2 w2 ho hb hgr hat; have HO2 := Aside0.mk (show Kd.R (Kd.int .u8) 5 w2 w.heap.size (fun _ => True) v2 [77, 83, 75, 49, 0, 0, 0, 0, 0, 0, 0, 0] from ho); have HB2 := Aside0.mk hb; clear ho hb hgr hat HO1 HB1; have n0 := pw_cell_below HB2.out K0.out; have n1 := pw_cell_below HB2.out K1.out; have n2 := pw_cell_below HB2.out K2.out; have n3 := pw_cell_below HB2.out K3.out; have n4 := pw_cell_below HB2.out K4.out; clear kl0 kl1 kl2 kl3 kl4; have kl0 := n0; have kl1 := n1; have kl2 := n2; have kl3 := n3; have kl4 := n4; clear n0 n1 n2 n3 n4) | ((with_reducible refine gate_builtin (b := .append) (xs := #[.tmp 13, .tmp 25]) rfl ?_); at_builtin; refine Kd.R_append_rows (Kd.int .u8) (w0 := w) w.heap.size rfl (.tmp 13) (.tmp 25) 29 5 (.int .u8 0) 1 rfl Try.underlying29 info5 rfl (by decide) (by omega) v2 [77, 83, 75, 49, 0, 0, 0, 0, 0, 0, 0, 0] [0, 0, 0, 0] (some ⟨w2.heap.size, 0, none⟩) 4 4 (fun _ => True) (fun _ => False) rfl rfl ?aO ?aR (fun _ _ h => h) (fun _ h => h.elim) ?aF ?aB ?aS ?aL ?_; (case aO => exact Kd.R_alloc HO2.out _); (case aR => exact (Kd.R_reads' (Kd.R_of_own (own_lit w2 w2.heap.size 5 .u8 [0, 0, 0, 0] (Nat.le_refl _) (by simp)) (ok := fun _ => True) (fun _ _ => trivial))).2.2); (case aB => exact below_alloc HB2.out _); (case aF => exact (fun _ _ => trivial)); (case aS => exact Nat.le_trans HB2.out.size (by simp)); (case aL => simp); intro v3 w3 ho hb hgr hat; have HO3 := Aside0.mk (show Kd.R (Kd.int .u8) 5 w3 w.heap.size (fun _ => True) v3 [77, 83, 75, 49, 0, 0, 0, 0, 0, 0, 0, 0, 0, 0, 0, 0] from ho); have HB3 := Aside0.mk hb; clear ho hb hgr hat HO2 HB2; have n0 := pw_cell_below HB3.out K0.out; have n1 := pw_cell_below HB3.out K1.out; have n2 := pw_cell_below HB3.out K2.out; have n3 := pw_cell_below HB3.out K3.out; have n4 := pw_cell_below HB3.out K4.out; clear kl0 kl1 kl2 kl3 kl4; have kl0 := n0; have kl1 := n1; have kl2 := n2; have kl3 := n3; have kl4 := n4; clear n0 n1 n2 n3 n4) | ((with_reducible refine gate_builtin (b := .append) (xs := #[.tmp 13, .tmp 25]) rfl ?_); at_builtin; refine Kd.R_append_rows (Kd.int .u8) (w0 := w) w.heap.size rfl (.tmp 13) (.tmp 25) 29 5 (.int .u8 0) 1 rfl Try.underlying29 info5 rfl (by decide) (by omega) v3 [77, 83, 75, 49, 0, 0, 0, 0, 0, 0, 0, 0, 0, 0, 0, 0] [0, 0, 0, 0] (some ⟨w3.heap.size, 0, none⟩) 4 4 (fun _ => True) (fun _ => False) rfl rfl ?aO ?aR (fun _ _ h => h) (fun _ h => h.elim) ?aF ?aB ?aS ?aL ?_; (case aO => exact Kd.R_alloc HO3.out _); (case aR => exact (Kd.R_reads' (Kd.R_of_own (own_lit w3 w3.heap.size 5 .u8 [0, 0, 0, 0] (Nat.le_refl _) (by simp)) (ok := fun _ => True) (fun _ _ => trivial))).2.2); (case aB => exact below_alloc HB3.out _); (case aF => exact (fun _ _ => trivial)); (case aS => exact Nat.le_trans HB3.out.size (by simp)); (case aL => simp); intro v4 w4 ho hb hgr hat; have HO4 := Aside0.mk (show Kd.R (Kd.int .u8) 5 w4 w.heap.size (fun _ => True) v4 [77, 83, 75, 49, 0, 0, 0, 0, 0, 0, 0, 0, 0, 0, 0, 0, 0, 0, 0, 0] from ho); have HB4 := Aside0.mk hb; clear ho hb hgr hat HO3 HB3; have n0 := pw_cell_below HB4.out K0.out; have n1 := pw_cell_below HB4.out K1.out; have n2 := pw_cell_below HB4.out K2.out; have n3 := pw_cell_below HB4.out K3.out; have n4 := pw_cell_below HB4.out K4.out; clear kl0 kl1 kl2 kl3 kl4; have kl0 := n0; have kl1 := n1; have kl2 := n2; have kl3 := n3; have kl4 := n4; clear n0 n1 n2 n3 n4) | ((with_reducible refine gate_builtin (b := .append) (xs := #[.tmp 13, .tmp 25]) rfl ?_); at_builtin; refine Kd.R_append_rows (Kd.int .u8) (w0 := w) w.heap.size rfl (.tmp 13) (.tmp 25) 29 5 (.int .u8 0) 1 rfl Try.underlying29 info5 rfl (by decide) (by omega) v4 [77, 83, 75, 49, 0, 0, 0, 0, 0, 0, 0, 0, 0, 0, 0, 0, 0, 0, 0, 0] [1, 0, 0, 0] (some ⟨w4.heap.size, 0, none⟩) 4 4 (fun _ => True) (fun _ => False) rfl rfl ?aO ?aR (fun _ _ h => h) (fun _ h => h.elim) ?aF ?aB ?aS ?aL ?_; (case aO => exact Kd.R_alloc HO4.out _); (case aR => exact (Kd.R_reads' (Kd.R_of_own (own_lit w4 w4.heap.size 5 .u8 [1, 0, 0, 0] (Nat.le_refl _) (by simp)) (ok := fun _ => True) (fun _ _ => trivial))).2.2); (case aB => exact below_alloc HB4.out _); (case aF => exact (fun _ _ => trivial)); (case aS => exact Nat.le_trans HB4.out.size (by simp)); (case aL => simp); intro v5 w5 ho hb hgr hat; have HO5 := Aside0.mk (show Kd.R (Kd.int .u8) 5 w5 w.heap.size (fun _ => True) v5 [77, 83, 75, 49, 0, 0, 0, 0, 0, 0, 0, 0, 0, 0, 0, 0, 0, 0, 0, 0, 1, 0, 0, 0] from ho); have HB5 := Aside0.mk hb; clear ho hb hgr hat HO4 HB4; have n0 := pw_cell_below HB5.out K0.out; have n1 := pw_cell_below HB5.out K1.out; have n2 := pw_cell_below HB5.out K2.out; have n3 := pw_cell_below HB5.out K3.out; have n4 := pw_cell_below HB5.out K4.out; clear kl0 kl1 kl2 kl3 kl4; have kl0 := n0; have kl1 := n1; have kl2 := n2; have kl3 := n3; have kl4 := n4; clear n0 n1 n2 n3 n4))
  go_ret
  exact ⟨_, rfl, HO5.out, HB5.out⟩
theorem conv_mark (W : World) (g : Nat) (a b c d : Value) (h : W.heap[g]? = some (.cells #[a, b, c, d] 5 (0, 0))) :
    ∃ W2, (∀ W', W' = W → (convert 29 29 (.slice (some ⟨g, 0, none⟩) 4 4)).run Try.prog W' = .ok (.slice (some ⟨g, 0, none⟩) 4 4) W2) ∧ W2.heap[g]? = some (.cells #[a, b, c, d] 5 (4, 5)) ∧ (∀ q, q ≠ g → W2.heap[q]? = W.heap[q]?) ∧ W2.heap.size = W.heap.size ∧ W2.os = W.os ∧ W2.tape = W.tape ∧ W2.output = W.output := by
  have hs : W.shape? g = some (5, 4) := by simp [World.shape?, h]
  have hr : (convert 29 29 (.slice (some ⟨g, 0, none⟩) 4 4)).run Try.prog W = .ok (.slice (some ⟨g, 0, none⟩) 4 4) (W.freeze ⟨g, 4, none⟩ 1) := by
    simp [convert, run_underlying Try.underlying29, run_underlying Try.underlying5, markStringish, hs, Result.andThen]
  refine ⟨W.freeze ⟨g, 4, none⟩ 1, fun W' hW => by rw [hW]; exact hr, ?_, ?_, ?_, ?_, ?_, ?_⟩
  · simp [World.freeze, Array.getElem?_modify, h]
  · intro q hq
    simp [World.freeze, Array.getElem?_modify, Ne.symm hq]
  · simp [World.freeze]
  · rfl
  · rfl
  · rfl
set_option maxHeartbeats 8000000 in
set_option maxRecDepth 100000 in
theorem put_lives.calls (A0 : Addr) (c0 : Nat) (w : World) (hx : w.cell? A0 = some (.int .u16 4660)) :
    Calls Try.prog 32 #[.slice (some A0) 1 c0, .agg #[.int .i64 0, .int .i64 0, .int .i64 0, .int .i64 0, .slice none 0 0, .slice none 0 0, .slice none 0 0]] w fun e w' => ∃ v0_ : Value, e = .returned (v0_) ∧ Kd.R (Kd.int .u8) 5 w' w.heap.size (fun _ => True) v0_ [77, 83, 75, 49, 0, 0, 0, 0, 0, 0, 0, 0, 0, 0, 0, 0, 0, 0, 0, 0, 1, 0, 0, 0, 52, 18, 0, 0, 0] ∧ Below w.heap.size w w' := by
  have hu59 := Try.underlying59
  have hu36 := Try.underlying36
  have hu29 := Try.underlying29
  have hM := heap_alloc_new w (.cells #[.int .i64 0, .int .i64 0, .int .i64 0, .int .i64 0, .slice none 0 0, .slice none 0 0, .slice none 0 0] 36)
  have hM1 : ((w.alloc (.cells #[.int .i64 0, .int .i64 0, .int .i64 0, .int .i64 0, .slice none 0 0, .slice none 0 0, .slice none 0 0] 36)).alloc (.cells #[.int .u8 77, .int .u8 83, .int .u8 75, .int .u8 49] 5)).heap[w.heap.size]? = some (.cells #[.int .i64 0, .int .i64 0, .int .i64 0, .int .i64 0, .slice none 0 0, .slice none 0 0, .slice none 0 0] 36) := (heap_alloc_old _ _ (blk_lt' hM)).trans hM
  have hg1 : (w.alloc (.cells #[.int .i64 0, .int .i64 0, .int .i64 0, .int .i64 0, .slice none 0 0, .slice none 0 0, .slice none 0 0] 36)).heap.size = w.heap.size + 1 := by simp
  have h4 := heap_alloc_new (w.alloc (.cells #[.int .i64 0, .int .i64 0, .int .i64 0, .int .i64 0, .slice none 0 0, .slice none 0 0, .slice none 0 0] 36)) (.cells #[.int .u8 77, .int .u8 83, .int .u8 75, .int .u8 49] 5)
  rw [hg1] at h4
  obtain ⟨W2, hconv, h42, ho2, hsz2, hos, htape, hout⟩ := conv_mark _ _ _ _ _ _ h4
  have hconv1 := hconv _ rfl
  have hB2 : Below w.heap.size w W2 := (below_alloc (below_alloc (Below.refl w.heap.size w) _) _).trans ⟨hos, htape, hout, by omega, fun q hq => ho2 q (by omega)⟩
  have hM2 : W2.heap[w.heap.size]? = some (.cells #[.int .i64 0, .int .i64 0, .int .i64 0, .int .i64 0, .slice none 0 0, .slice none 0 0, .slice none 0 0] 36) := (ho2 _ (by omega)).trans hM1
  have hx2 := pw_cell_below hB2 hx
  have hz2 : W2.heap.size = w.heap.size + 1 + 1 := by rw [hsz2]; simp
  have k0 : W2.cell? ⟨w.heap.size, 0, none⟩ = some (.int .i64 0) := (cell_of_row W2 w.heap.size 0 _ _ _ hM2).trans rfl
  have J0 := Aside0.mk k0
  have k1 : W2.cell? ⟨w.heap.size, 1, none⟩ = some (.int .i64 0) := (cell_of_row W2 w.heap.size 1 _ _ _ hM2).trans rfl
  have J1 := Aside0.mk k1
  have k2 : W2.cell? ⟨w.heap.size, 2, none⟩ = some (.int .i64 0) := (cell_of_row W2 w.heap.size 2 _ _ _ hM2).trans rfl
  have J2 := Aside0.mk k2
  have k3 : W2.cell? ⟨w.heap.size, 3, none⟩ = some (.int .i64 0) := (cell_of_row W2 w.heap.size 3 _ _ _ hM2).trans rfl
  have J3 := Aside0.mk k3
  have k4 : W2.cell? ⟨w.heap.size, 4, none⟩ = some (.slice none 0 0) := (cell_of_row W2 w.heap.size 4 _ _ _ hM2).trans rfl
  have J4 := Aside0.mk k4
  have k5 : W2.cell? ⟨w.heap.size, 5, none⟩ = some (.slice none 0 0) := (cell_of_row W2 w.heap.size 5 _ _ _ hM2).trans rfl
  have J5 := Aside0.mk k5
  have k6 : W2.cell? ⟨w.heap.size, 6, none⟩ = some (.slice none 0 0) := (cell_of_row W2 w.heap.size 6 _ _ _ hM2).trans rfl
  have J6 := Aside0.mk k6
  have H42 := Aside0.mk h42
  have HX2 := Aside0.mk hx2
  have HZ := Aside0.mk hz2
  have HB2 := Aside0.mk hB2
  clear hM hM1 hg1 h4 hconv h42 ho2 hsz2 hos htape hout hB2 hM2 hx2 hx hz2
  go_enter Try.func32, Try.ntmps32
  go_wp2_with (first | ((with_reducible refine wp_loop_rounds 100 ?_); rw [rounds_succ]) | ((with_reducible rw [rounds_succ])) | (go_at_call 40; refine (little_lives.calls (w.heap.size + 1) W2.heap.size _ ?h1 ?h2).mono ?_; (case h1 => exact (heap_alloc_old _ _ (by have := HZ.out; omega)).trans H42.out); (case h2 => exact heap_alloc_new _ _); rintro e w0 ⟨v0, rfl, ho, hb⟩; have HO0 := Aside0.mk (Kd.R_lower ho (show W2.heap.size ≤ _ by simp)); have HB := Aside0.mk (below_then (below_alloc (Below.refl W2.heap.size W2) _) (by simp) hb); clear ho hb; have n0 := pw_cell_below HB.out J0.out; have n1 := pw_cell_below HB.out J1.out; have n2 := pw_cell_below HB.out J2.out; have n3 := pw_cell_below HB.out J3.out; have n4 := pw_cell_below HB.out J4.out; have n5 := pw_cell_below HB.out J5.out; have n6 := pw_cell_below HB.out J6.out; (try clear k0 k1 k2 k3 k4 k5 k6); have k0 := n0; have k1 := n1; have k2 := n2; have k3 := n3; have k4 := n4; have k5 := n5; have k6 := n6; clear n0 n1 n2 n3 n4 n5 n6; have hx3 := pw_cell_below HB.out HX2.out) | (go_at_call 26; refine (image_lists.calls w.heap.size _).mono ?_; rintro e wl ⟨rfl, hb⟩; have n9 := Aside0.mk (below_then HB.out HB.out.size hb); have n8 := Aside0.mk (Kd.R_below HO1.out hb); clear HB hb HO1; have HB := n9; have HO1 := n8; clear n9 n8; have n0 := pw_cell_below HB.out J0.out; have n1 := pw_cell_below HB.out J1.out; have n2 := pw_cell_below HB.out J2.out; have n3 := pw_cell_below HB.out J3.out; have n4 := pw_cell_below HB.out J4.out; have n5 := pw_cell_below HB.out J5.out; have n6 := pw_cell_below HB.out J6.out; (try clear k0 k1 k2 k3 k4 k5 k6); have k0 := n0; have k1 := n1; have k2 := n2; have k3 := n3; have k4 := n4; have k5 := n5; have k6 := n6; clear n0 n1 n2 n3 n4 n5 n6) | ((with_reducible refine gate_builtin (b := .append) (xs := #[.tmp 32, .tmp 38]) rfl ?_); at_builtin; refine Kd.R_append_rows (Kd.int .u8) (w0 := W2) W2.heap.size rfl (.tmp 32) (.tmp 38) 29 5 (.int .u8 0) 1 rfl Try.underlying29 info5x rfl (by decide) (by omega) v0 [77, 83, 75, 49, 0, 0, 0, 0, 0, 0, 0, 0, 0, 0, 0, 0, 0, 0, 0, 0, 1, 0, 0, 0] [52, 18] (some ⟨w0.heap.size, 0, none⟩) 2 2 (fun _ => True) (fun _ => False) rfl rfl ?aO ?aR (fun _ _ h => h) (fun _ h => h.elim) ?aF ?aB ?aS ?aL ?_; (case aO => exact Kd.R_alloc HO0.out _); (case aR => exact (Kd.R_reads' (Kd.R_of_own (own_lit w0 w0.heap.size 5 .u8 [52, 18] (Nat.le_refl _) (by simp)) (ok := fun _ => True) (fun _ _ => trivial))).2.2); (case aB => exact below_alloc HB.out _); (case aF => exact (fun _ _ => trivial)); (case aS => exact Nat.le_trans HB.out.size (by simp)); (case aL => simp); intro v1 w1 ho hb hgr hat; have HO1 := Aside0.mk (show Kd.R (Kd.int .u8) 5 w1 W2.heap.size (fun _ => True) v1 [77, 83, 75, 49, 0, 0, 0, 0, 0, 0, 0, 0, 0, 0, 0, 0, 0, 0, 0, 0, 1, 0, 0, 0, 52, 18] from ho); have n9 := Aside0.mk hb; clear ho hb hgr hat HO0 HB; have HB := n9; clear n9; have n0 := pw_cell_below HB.out J0.out; have n1 := pw_cell_below HB.out J1.out; have n2 := pw_cell_below HB.out J2.out; have n3 := pw_cell_below HB.out J3.out; have n4 := pw_cell_below HB.out J4.out; have n5 := pw_cell_below HB.out J5.out; have n6 := pw_cell_below HB.out J6.out; (try clear k0 k1 k2 k3 k4 k5 k6); have k0 := n0; have k1 := n1; have k2 := n2; have k3 := n3; have k4 := n4; have k5 := n5; have k6 := n6; clear n0 n1 n2 n3 n4 n5 n6) | ((with_reducible refine gate_builtin (b := .append) (xs := #[.tmp 45, .tmp 51]) rfl ?_); at_builtin; refine Kd.R_append_rows (Kd.int .u8) (w0 := W2) W2.heap.size rfl (.tmp 45) (.tmp 51) 29 5 (.int .u8 0) 1 rfl Try.underlying29 info5x rfl (by decide) (by omega) v1 [77, 83, 75, 49, 0, 0, 0, 0, 0, 0, 0, 0, 0, 0, 0, 0, 0, 0, 0, 0, 1, 0, 0, 0, 52, 18] [0] (some ⟨wl.heap.size, 0, none⟩) 1 1 (fun _ => True) (fun _ => False) rfl rfl ?aO ?aR (fun _ _ h => h) (fun _ h => h.elim) ?aF ?aB ?aS ?aL ?_; (case aO => exact Kd.R_alloc HO1.out _); (case aR => exact (Kd.R_reads' (Kd.R_of_own (own_lit wl wl.heap.size 5 .u8 [0] (Nat.le_refl _) (by simp)) (ok := fun _ => True) (fun _ _ => trivial))).2.2); (case aB => exact below_alloc HB.out _); (case aF => exact (fun _ _ => trivial)); (case aS => exact Nat.le_trans HB.out.size (by simp)); (case aL => simp); intro v2 w2 ho hb hgr hat; have HO2 := Aside0.mk (show Kd.R (Kd.int .u8) 5 w2 W2.heap.size (fun _ => True) v2 [77, 83, 75, 49, 0, 0, 0, 0, 0, 0, 0, 0, 0, 0, 0, 0, 0, 0, 0, 0, 1, 0, 0, 0, 52, 18, 0] from ho); have n9 := Aside0.mk hb; clear ho hb hgr hat HO1 HB; have HB := n9; clear n9; have n0 := pw_cell_below HB.out J0.out; have n1 := pw_cell_below HB.out J1.out; have n2 := pw_cell_below HB.out J2.out; have n3 := pw_cell_below HB.out J3.out; have n4 := pw_cell_below HB.out J4.out; have n5 := pw_cell_below HB.out J5.out; have n6 := pw_cell_below HB.out J6.out; (try clear k0 k1 k2 k3 k4 k5 k6); have k0 := n0; have k1 := n1; have k2 := n2; have k3 := n3; have k4 := n4; have k5 := n5; have k6 := n6; clear n0 n1 n2 n3 n4 n5 n6) | ((with_reducible refine gate_builtin (b := .append) (xs := #[.tmp 45, .tmp 51]) rfl ?_); at_builtin; refine Kd.R_append_rows (Kd.int .u8) (w0 := W2) W2.heap.size rfl (.tmp 45) (.tmp 51) 29 5 (.int .u8 0) 1 rfl Try.underlying29 info5x rfl (by decide) (by omega) v2 [77, 83, 75, 49, 0, 0, 0, 0, 0, 0, 0, 0, 0, 0, 0, 0, 0, 0, 0, 0, 1, 0, 0, 0, 52, 18, 0] [0] (some ⟨w2.heap.size, 0, none⟩) 1 1 (fun _ => True) (fun _ => False) rfl rfl ?aO ?aR (fun _ _ h => h) (fun _ h => h.elim) ?aF ?aB ?aS ?aL ?_; (case aO => exact Kd.R_alloc HO2.out _); (case aR => exact (Kd.R_reads' (Kd.R_of_own (own_lit w2 w2.heap.size 5 .u8 [0] (Nat.le_refl _) (by simp)) (ok := fun _ => True) (fun _ _ => trivial))).2.2); (case aB => exact below_alloc HB.out _); (case aF => exact (fun _ _ => trivial)); (case aS => exact Nat.le_trans HB.out.size (by simp)); (case aL => simp); intro v3 w3 ho hb hgr hat; have HO3 := Aside0.mk (show Kd.R (Kd.int .u8) 5 w3 W2.heap.size (fun _ => True) v3 [77, 83, 75, 49, 0, 0, 0, 0, 0, 0, 0, 0, 0, 0, 0, 0, 0, 0, 0, 0, 1, 0, 0, 0, 52, 18, 0, 0] from ho); have n9 := Aside0.mk hb; clear ho hb hgr hat HO2 HB; have HB := n9; clear n9; have n0 := pw_cell_below HB.out J0.out; have n1 := pw_cell_below HB.out J1.out; have n2 := pw_cell_below HB.out J2.out; have n3 := pw_cell_below HB.out J3.out; have n4 := pw_cell_below HB.out J4.out; have n5 := pw_cell_below HB.out J5.out; have n6 := pw_cell_below HB.out J6.out; (try clear k0 k1 k2 k3 k4 k5 k6); have k0 := n0; have k1 := n1; have k2 := n2; have k3 := n3; have k4 := n4; have k5 := n5; have k6 := n6; clear n0 n1 n2 n3 n4 n5 n6) | ((with_reducible refine gate_builtin (b := .append) (xs := #[.tmp 45, .tmp 51]) rfl ?_); at_builtin; refine Kd.R_append_rows (Kd.int .u8) (w0 := W2) W2.heap.size rfl (.tmp 45) (.tmp 51) 29 5 (.int .u8 0) 1 rfl Try.underlying29 info5x rfl (by decide) (by omega) v3 [77, 83, 75, 49, 0, 0, 0, 0, 0, 0, 0, 0, 0, 0, 0, 0, 0, 0, 0, 0, 1, 0, 0, 0, 52, 18, 0, 0] [0] (some ⟨w3.heap.size, 0, none⟩) 1 1 (fun _ => True) (fun _ => False) rfl rfl ?aO ?aR (fun _ _ h => h) (fun _ h => h.elim) ?aF ?aB ?aS ?aL ?_; (case aO => exact Kd.R_alloc HO3.out _); (case aR => exact (Kd.R_reads' (Kd.R_of_own (own_lit w3 w3.heap.size 5 .u8 [0] (Nat.le_refl _) (by simp)) (ok := fun _ => True) (fun _ _ => trivial))).2.2); (case aB => exact below_alloc HB.out _); (case aF => exact (fun _ _ => trivial)); (case aS => exact Nat.le_trans HB.out.size (by simp)); (case aL => simp); intro v4 w4 ho hb hgr hat; have HO4 := Aside0.mk (show Kd.R (Kd.int .u8) 5 w4 W2.heap.size (fun _ => True) v4 [77, 83, 75, 49, 0, 0, 0, 0, 0, 0, 0, 0, 0, 0, 0, 0, 0, 0, 0, 0, 1, 0, 0, 0, 52, 18, 0, 0, 0] from ho); have n9 := Aside0.mk hb; clear ho hb hgr hat HO3 HB; have HB := n9; clear n9; have n0 := pw_cell_below HB.out J0.out; have n1 := pw_cell_below HB.out J1.out; have n2 := pw_cell_below HB.out J2.out; have n3 := pw_cell_below HB.out J3.out; have n4 := pw_cell_below HB.out J4.out; have n5 := pw_cell_below HB.out J5.out; have n6 := pw_cell_below HB.out J6.out; (try clear k0 k1 k2 k3 k4 k5 k6); have k0 := n0; have k1 := n1; have k2 := n2; have k3 := n3; have k4 := n4; have k5 := n5; have k6 := n6; clear n0 n1 n2 n3 n4 n5 n6))
  go_ret
  exact ⟨_, rfl, Kd.R_lower HO4.out (by have := HZ.out; omega), HB2.out.trans (HB.out.mono (by have := HZ.out; omega))⟩
theorem C_none (w : World) : Kd.C k26 w none 0 [] := ⟨rfl, by decide, fun h => absurd h (by decide)⟩
theorem can_zero (w : World) : Calls Try.prog 28 #[.agg #[.int .i64 0, .int .i64 0, .int .i64 0, .int .i64 0, .slice none 0 0, .slice none 0 0, .slice none 0 0]] w fun e w' => e = .returned (.bool true) ∧ Below w.heap.size w w' :=
  image_can.calls 0 0 0 0 none 0 [] none 0 [] none 0 [] true w (C_none w) (Nat.le_refl 0) (C_none w) (Nat.le_refl 0) (C_none w) (Nat.le_refl 0) (by rfl)
set_option maxHeartbeats 8000000 in
set_option maxRecDepth 100000 in
theorem Put_lives.calls (A0 : Addr) (c0 : Nat) (w : World) (hx : w.cell? A0 = some (.int .u16 4660)) :
    Calls Try.prog 15 #[.slice (some A0) 1 c0, .agg #[.int .i64 0, .int .i64 0, .int .i64 0, .int .i64 0, .slice none 0 0, .slice none 0 0, .slice none 0 0]] w fun e w' => ∃ v0_ : Value, e = .returned (.tuple #[v0_, .int .i64 0]) ∧ Kd.R (Kd.int .u8) 5 w' w.heap.size (fun _ => True) v0_ [77, 83, 75, 49, 0, 0, 0, 0, 0, 0, 0, 0, 0, 0, 0, 0, 0, 0, 0, 0, 1, 0, 0, 0, 52, 18, 0, 0, 0] ∧ Below w.heap.size w w' := by
  have hu36 := Try.underlying36
  have HX := Aside0.mk hx
  have hM := Aside0.mk (heap_alloc_new w (.cells #[.int .i64 0, .int .i64 0, .int .i64 0, .int .i64 0, .slice none 0 0, .slice none 0 0, .slice none 0 0] 36))
  clear hx
  go_enter Try.func15, Try.ntmps15
  go_wp2_with (first | (go_at_call 28; refine (can_zero _).mono ?_; rintro e w1 ⟨rfl, hb⟩; have hm := row_below hb (by simp) hM.out; have k0 : w1.cell? ⟨w.heap.size, 0, none⟩ = some (.int .i64 0) := (cell_of_row w1 w.heap.size 0 _ _ _ hm).trans rfl; have k1 : w1.cell? ⟨w.heap.size, 1, none⟩ = some (.int .i64 0) := (cell_of_row w1 w.heap.size 1 _ _ _ hm).trans rfl; have k2 : w1.cell? ⟨w.heap.size, 2, none⟩ = some (.int .i64 0) := (cell_of_row w1 w.heap.size 2 _ _ _ hm).trans rfl; have k3 : w1.cell? ⟨w.heap.size, 3, none⟩ = some (.int .i64 0) := (cell_of_row w1 w.heap.size 3 _ _ _ hm).trans rfl; have k4 : w1.cell? ⟨w.heap.size, 4, none⟩ = some (.slice none 0 0) := (cell_of_row w1 w.heap.size 4 _ _ _ hm).trans rfl; have k5 : w1.cell? ⟨w.heap.size, 5, none⟩ = some (.slice none 0 0) := (cell_of_row w1 w.heap.size 5 _ _ _ hm).trans rfl; have k6 : w1.cell? ⟨w.heap.size, 6, none⟩ = some (.slice none 0 0) := (cell_of_row w1 w.heap.size 6 _ _ _ hm).trans rfl; have HB := Aside0.mk (below_then (below_alloc (Below.refl w.heap.size w) _) (by simp) hb); clear hm hb) | (go_at_call 32; refine (put_lives.calls A0 c0 _ (pw_cell_below HB.out HX.out)).mono ?_; rintro e w2 ⟨v0, rfl, ho, hb⟩; have HO := Aside0.mk (Kd.R_lower ho HB.out.size); have n1 := Aside0.mk (below_then HB.out HB.out.size hb); clear HB ho hb; have HB := n1; clear n1))
  go_ret2
  exact ⟨_, rfl, HO.out, HB.out⟩
set_option maxHeartbeats 8000000 in
set_option maxRecDepth 100000 in
theorem bautalaw03_lives_true (w : World) : Calls Try.prog 9 #[] w fun e w' => e = .returned (.bool true) ∧ Below w.heap.size w w' := by
  have hu36 := Try.underlying36
  have hx := cell_of_row (w.alloc (.cells #[.int .u16 4660] 32)) w.heap.size 0 _ _ _ (heap_alloc_new w (.cells #[.int .u16 4660] 32))
  replace hx := Aside0.mk hx
  go_enter Try.func9, Try.ntmps9
  go_wp2_with (go_at_call 15; refine (Put_lives.calls ⟨w.heap.size, 0, none⟩ 1 _ hx.out).mono ?_; rintro e w1 ⟨v0, rfl, ho, hb⟩; obtain ⟨g, cap, rfl, hgb, hgl, hgc⟩ := Kd.R_form ho (by decide); have hl := Aside0.mk ((Kd.R_reads' ho).2.1); have k24 : w1.cell? ⟨g, 24, none⟩ = some (.int .u8 52) := (Kd.R_celln (d := (0 : Int)) ho 24 (by decide) (by decide)).1; have k25 : w1.cell? ⟨g, 25, none⟩ = some (.int .u8 18) := (Kd.R_celln (d := (0 : Int)) ho 25 (by decide) (by decide)).1; have hcv := own_string (P := Try.prog) Try.underlying29 Try.underlying5 Try.underlying9 (Kd.own_of_R (Kd.R_take (m := 4) ho (by decide))); rw [show strOfNums (List.take 4 [77, 83, 75, 49, 0, 0, 0, 0, 0, 0, 0, 0, 0, 0, 0, 0, 0, 0, 0, 0, 1, 0, 0, 0, 52, 18, 0, 0, 0]) = (⟨#[77, 83, 75, 49]⟩ : ByteArray) from rfl] at hcv; have qc1 : ((4 : Int) ≤ (cap : Int)) = True := eq_true (by have h_ := hl.out; simp at h_; omega); have qc2 : (4 ≤ cap) = True := eq_true (by have h_ := hl.out; simp at h_; omega); have HB := Aside0.mk (below_then (below_alloc (Below.refl w.heap.size w) _) (by simp) hb); clear ho hb hgb hgl hgc)
  go_ret
  exact ⟨rfl, HB.out⟩
def bautalaw03_lives.f : Option Bool := some true
theorem bautalaw03_lives.calls (r : Bool) (w : World) (h : bautalaw03_lives.f = some r) : Calls Try.prog 9 #[] w fun e w' => e = .returned (.bool r) ∧ Below w.heap.size w w' := by
  obtain rfl := Option.some.inj h
  exact bautalaw03_lives_true w
def hasName (n : ByteArray) (c : S26) : Bool := c.f0.toList == n.toList
set_option maxHeartbeats 2000000 in
set_option maxRecDepth 100000 in
theorem image_Find_1.calls (n : ByteArray) (b : Nat) (c : S26) (w : World) (hc : w.cell? ⟨b, 0, none⟩ = some (.string n)) : Calls Try.prog 21 #[.agg #[.string c.f0, .int .i64 c.f1], .pointer (some ⟨b, 0, none⟩)] w fun e w' => e = .returned (.bool (hasName n c)) ∧ Below w.heap.size w w' := by
  obtain ⟨s, a⟩ := c
  unfold hasName
  dsimp only
  have HB := Aside0.mk (below_alloc (Below.refl w.heap.size w) (.cells #[.string s, .int .i64 a] 26))
  have hc2 := pw_cell_below HB.out hc
  clear hc
  go_enter Try.func21, Try.ntmps21
  go_wp2
  go_ret
  exact ⟨rfl, HB.out⟩
set_option maxHeartbeats 2000000 in
set_option maxRecDepth 100000 in
theorem IndexFunc_find.calls (n : ByteArray) (A0 : Option Addr) (c0 : Nat) (l0 : List S26) (b : Nat) (w : World) (hr0 : Kd.C k26 w A0 l0.length l0) (hc0 : l0.length ≤ c0) (hcell : w.cell? ⟨b, 0, none⟩ = some (.string n)) :
    Calls Try.prog 20 #[.slice A0 l0.length c0, .func (.func 21) #[] #[.pointer (some ⟨b, 0, none⟩)]] w fun e w' => e = .returned (.int .i64 (idxOf (hasName n) 0 l0)) ∧ Below w.heap.size w w' := by
  have HR0 := Aside0.mk hr0
  have HC0 := Aside0.mk hc0
  have hu26 := Try.underlying26
  replace hcell := Aside0.mk hcell
  obtain ⟨R, hR⟩ : ∃ R, R = idxOf (hasName n) 0 l0 := ⟨_, rfl⟩
  rw [← hR]
  have H' : Aside0 (idxOf (hasName n) 0 (l0.drop 0) = R) := ⟨hR.symm⟩
  have HB := Aside0.mk (Below.refl w.heap.size w)
  clear hr0 hc0 hR
  go_enter Try.func20, Try.ntmps20
  go_wp2
  go_loopg [8] l0.length (fun kq v8 w' => ∃ (i : Nat), v8 = .int .i64 (i : Int) ∧ Aside0 (i + kq = l0.length) ∧ Aside0 (idxOf (hasName n) i (l0.drop i) = R) ∧ Aside0 (Below w.heap.size w w'))
  case atStart => exact ⟨0, rfl, ⟨Nat.zero_add _⟩, H', HB⟩
  case round =>
    clear H' HB
    obtain ⟨i, rfl, HN, HA, HB⟩ := hrel
    cases gk with
    | zero =>
      have hi : i = l0.length := by have := HN.out; omega
      have hr := HA.out
      rw [hi, List.drop_length] at hr
      have hr' : (-1 : Int) = R := hr
      subst hr'
      have q1 : ((i : Int) < (l0.length : Int)) = False := eq_false (by omega)
      have q2 : (i < l0.length) = False := eq_false (by omega)
      clear hi hr HN HA
      go_wp2
      go_ret
      exact ⟨rfl, HB.out⟩
    | succ k1 =>
      have hi : i < l0.length := by have := HN.out; omega
      have hr := HA.out
      rw [drop_T26 l0 i hi] at hr
      have q1 : ((i : Int) < (l0.length : Int)) = True := eq_true (by omega)
      have q2 : (i < l0.length) = True := eq_true (by omega)
      obtain ⟨ad, e1, hx0, hx1⟩ := at_T26 HR0.out (i : Int) (Int.natCast_nonneg i) (by omega)
      cases e1
      replace hx0 : wr.cell? (ad.add (i * 2)) = some (.string (rd_T26 l0 (i : Int)).f0) := pw_cell_below HB.out hx0
      replace hx1 : wr.cell? ⟨(ad.add (i * 2)).block, (ad.add (i * 2)).off + 1, none⟩ = some (.int .i64 (rd_T26 l0 (i : Int)).f1) := pw_cell_below HB.out hx1
      have hw1 := Aside0.mk (show wrap64 ((i : Int) + 1) = ((i + 1 : Nat) : Int) by have := HR0.out.2.1; unfold wrap64; omega)
      clear hi HA
      obtain ⟨c, hc⟩ : ∃ c : S26, c = rd_T26 l0 (i : Int) := ⟨_, rfl⟩
      rw [← hc] at hr hx0 hx1
      obtain ⟨b, hb⟩ : ∃ b : Bool, (hasName n) c = b := ⟨_, rfl⟩
      have hbb := Aside0.mk hb
      clear hb hc
      cases b with
      | true =>
        have hr' : (i : Int) = R := by
          rw [← hr]
          show (i : Int) = if (hasName n) c = true then (i : Int) else idxOf (hasName n) (i + 1) (l0.drop (i + 1))
          rw [if_pos hbb.out]
        replace hr' := Aside0.mk hr'
        clear hr
        go_wp2_with (go_at_call 21; refine (image_Find_1.calls n b c _ (pw_cell_below HB.out hcell.out)).mono ?_; rintro e w2 ⟨rfl, hb2⟩; have n1 := Aside0.mk (below_then HB.out HB.out.size hb2); rw [hbb.out]; clear HB hb2; have HB := n1; clear n1)
        go_ret
        exact ⟨congrArg (fun x => Ending.returned (Value.int .i64 x)) hr'.out, HB.out⟩
      | false =>
        have hr' : idxOf (hasName n) (i + 1) (l0.drop (i + 1)) = R := by
          rw [← hr]
          show _ = if (hasName n) c = true then (i : Int) else idxOf (hasName n) (i + 1) (l0.drop (i + 1))
          rw [if_neg (by rw [hbb.out]; decide)]
        replace hr' := Aside0.mk hr'
        clear hr
        go_wp2_with (go_at_call 21; refine (image_Find_1.calls n b c _ (pw_cell_below HB.out hcell.out)).mono ?_; rintro e w2 ⟨rfl, hb2⟩; have n1 := Aside0.mk (below_then HB.out HB.out.size hb2); rw [hbb.out]; clear HB hb2; have HB := n1; clear n1)
        go_roundg k1
        case measure => omega
        case rel => exact ⟨i + 1, congrArg (Value.int .i64) hw1.out, ⟨by have := HN.out; omega⟩, hr', HB⟩
theorem idxOf_lt (p : S26 → Bool) : ∀ (l : List S26) (i : Nat), 0 ≤ idxOf p i l → (i : Int) ≤ idxOf p i l ∧ idxOf p i l < ((i + l.length : Nat) : Int)
  | [], i, h => by simp [idxOf] at h
  | c :: l, i, h => by
    rw [idxOf] at h ⊢
    by_cases hp : p c = true
    · rw [if_pos hp]; simp only [List.length_cons]; omega
    · rw [if_neg hp] at h ⊢
      have := idxOf_lt p l (i + 1) h
      simp only [List.length_cons]
      omega
def image_Find.f (l0 : List S26) (a1 : ByteArray) : Option (Int × Bool) := if idxOf (hasName a1) 0 l0 < 0 then some (0, false) else some ((rd_T26 l0 (idxOf (hasName a1) 0 l0)).f1, true)
set_option maxHeartbeats 2000000 in
set_option maxRecDepth 100000 in
theorem image_Find.calls (A0 : Option Addr) (c0 : Nat) (l0 : List S26) (a1 : ByteArray) (r1 : Int) (r2 : Bool) (w : World) (hr0 : Kd.C k26 w A0 l0.length l0) (hc0 : l0.length ≤ c0) (h : image_Find.f l0 a1 = some (r1, r2)) :
    Calls Try.prog 8 #[.slice A0 l0.length c0, .string a1] w fun e w' => e = .returned (.tuple #[.int .i64 r1, .bool r2]) ∧ Below w.heap.size w w' := by
  have hmf : ∀ (fn : Fn) (first cap : Array Value) (w : World), (Instr.makeFunc fn first cap).run Try.prog w = .ok (.func fn first cap) w := fun _ _ _ _ => rfl
  have HR0 := Aside0.mk hr0
  have HC0 := Aside0.mk hc0
  have HB := Aside0.mk (below_alloc (Below.refl w.heap.size w) (.cells #[.string a1] 9))
  have hcl : (w.alloc (.cells #[.string a1] 9)).cell? ⟨w.heap.size, 0, none⟩ = some (.string a1) := (cell_of_row _ _ 0 _ _ _ (heap_alloc_new w (.cells #[.string a1] 9))).trans rfl
  replace hcl := Aside0.mk hcl
  have hidx := idxOf_lt (hasName a1) l0 0
  unfold image_Find.f at h
  obtain ⟨R, hR⟩ : ∃ R, R = idxOf (hasName a1) 0 l0 := ⟨_, rfl⟩
  rw [← hR] at h hidx
  replace hR := Aside0.mk hR
  by_cases hneg : R < 0
  · rw [if_pos hneg] at h
    simp only [Option.some.injEq, Prod.mk.injEq] at h
    obtain ⟨rfl, rfl⟩ := h
    have q1 : decide (R < 0) = true := decide_eq_true hneg
    clear hneg hidx hr0 hc0
    go_enter Try.func8, Try.ntmps8
    go_wp2_with (go_at_call 20; refine (IndexFunc_find.calls a1 A0 c0 l0 w.heap.size _ (Kd.C_below HR0.out HB.out) HC0.out hcl.out).mono ?_; rintro e w1 ⟨rfl, hb⟩; have n1 := Aside0.mk (below_then HB.out HB.out.size hb); rw [← hR.out]; clear HB hb; have HB := n1; clear n1)
    go_ret2
    exact ⟨rfl, HB.out⟩
  · rw [if_neg hneg] at h
    simp only [Option.some.injEq, Prod.mk.injEq] at h
    obtain ⟨rfl, rfl⟩ := h
    have hlt := hidx (by omega)
    obtain ⟨ad, e1, hx0, hx1⟩ := at_T26 hr0 R (by omega) (by omega)
    cases e1
    have q1 : decide (R < 0) = false := decide_eq_false hneg
    have q2 : (0 ≤ R) = True := eq_true (by omega)
    have q3 : (R < (l0.length : Int)) = True := eq_true (by omega)
    replace hx1 := Aside0.mk hx1
    clear hneg hidx hr0 hc0 hlt hx0
    go_enter Try.func8, Try.ntmps8
    go_wp2_with (go_at_call 20; refine (IndexFunc_find.calls a1 (some ad) c0 l0 w.heap.size _ (Kd.C_below HR0.out HB.out) HC0.out hcl.out).mono ?_; rintro e w1 ⟨rfl, hb⟩; have n1 := Aside0.mk (below_then HB.out HB.out.size hb); rw [← hR.out]; clear HB hb; have HB := n1; clear n1; have hx2 := pw_cell_below HB.out hx1.out)
    go_ret2
    exact ⟨rfl, HB.out⟩

-- NOT PRINTED: function 20 (api_Cell_20)

/-! ### image_Find: function 8 -/
-- it stands in aa_common.lean

-- NOT PRINTED: function 23 (image_numbers)

-- NOT PRINTED: function 26 (image_lists)

-- NOT PRINTED: function 38 (api_Cell_38)

/-! ### image_can: function 28 -/
-- it stands in aa_common.lean

end Go.Proofs.Ytimhllaahihhgaa.PA
