/- image.put: what the calls come to. No condition but the hypotheses that each theorem states. -/
import Derived.Test.YtimhllaahihhgaaQA
namespace Go.Proofs.Ytimhllaahihhgaa.PA
open Go.RowKit Go.Proofs.YtimhllaahihhgaaW.PrintWords Go.Proofs.YtimhllaahihhgaaW.PrintLast Go.Proofs.YtimhllaahihhgaaW.PrintMore
set_option linter.unusedVariables false
set_option linter.unusedSimpArgs false
def gI (xs : List Int) (n : Int) : Option (List Int) := some (xs ++ L4 n)
/-- A halfword's bytes, of all. -/
def hbs (l : List Int) : List Int := l.flatMap fun h => [h % 256, h / 256 % 256]
theorem hbs_len : ∀ l : List Int, (hbs l).length = 2 * l.length
  | [] => rfl
  | a :: t => by
    have := hbs_len t
    simp only [hbs, List.flatMap_cons, List.length_append, List.length_cons, List.length_nil] at this ⊢
    omega
theorem hbs_take (l : List Int) (i : Nat) (hi : i < l.length) : hbs (l.take (i + 1)) = hbs (l.take i) ++ [rd l (i : Int) % 256, rd l (i : Int) / 256 % 256] := by
  have e : l.take (i + 1) = l.take i ++ [rd l (i : Int)] := by
    rw [List.take_succ_eq_append_getElem hi]
    unfold rd
    simp [List.getD_eq_getElem?_getD, List.getElem?_eq_getElem hi]
  rw [e]
  simp [hbs]
def listsB (g : List Int → Int → Option (List Int)) : List (List S26) → List Int → Option (List Int)
  | [], xs => some xs
  | l :: t, xs => if xs.length < 140737488355000 then (cellsB g l (xs ++ [(l.length : Int) % 256])).bind (listsB g t) else none
def headB (a0 a1 a2 a3 n : Int) : List Int := [77, 83, 75, 49] ++ L4 a0 ++ L4 a1 ++ L4 a2 ++ L4 a3 ++ L4 n
theorem headB_len (a0 a1 a2 a3 n : Int) : (headB a0 a1 a2 a3 n).length = 24 := rfl
def image_put.f (l0 : List Int) (a0 a1 a2 a3 : Int) (l4 l5 l6 : List S26) : Option (List Int) := if l0.length < 70368744177000 then listsB gI [l4, l5, l6] (headB a0 a1 a2 a3 (l0.length : Int) ++ hbs l0) else none
theorem cells2b {W : World} {g : Nat} {a b : Value} {t : TypeId} (h : W.heap[g]? = some (.cells #[a, b] t (0, 0))) : W.cell? ⟨g, 0, none⟩ = some a ∧ W.cell? ⟨g, 1, none⟩ = some b :=
  ⟨(cell_of_row W g 0 _ _ _ h).trans rfl, (cell_of_row W g 1 _ _ _ h).trans rfl⟩
theorem new_atB {W : World} {o : Obj} {g : Nat} (hg : g = W.heap.size) : (W.alloc o).heap[g]? = some o := by subst hg; exact heap_alloc_new W o
theorem C_byte {W : World} {g : Nat} {x : Int} (h : W.heap[g]? = some (.cells #[.int .u8 x] 5 (0, 0))) : Kd.C (Kd.int .u8) W (some ⟨g, 0, none⟩) 1 [x] :=
  Kd.C_of_reads (d := (0 : Int)) (h1 := fun _ => rfl) ⟨rfl, by decide, fun _ => ⟨⟨g, 0, none⟩, rfl, fun i hi => by
    have h0 : i = 0 := by omega
    subst h0
    exact (cell_of_row W g 0 _ _ _ h).trans rfl⟩⟩
theorem C_int {W : World} {g : Nat} {x : Int} (h : W.heap[g]? = some (.cells #[.int .i64 x] 3 (0, 0))) : Kd.C (Kd.int .i64) W (some ⟨g, 0, none⟩) 1 [x] :=
  Kd.C_of_reads (d := (0 : Int)) (h1 := fun _ => rfl) ⟨rfl, by decide, fun _ => ⟨⟨g, 0, none⟩, rfl, fun i hi => by
    have h0 : i = 0 := by omega
    subst h0
    exact (cell_of_row W g 0 _ _ _ h).trans rfl⟩⟩
theorem row_ne5 {W : World} {base : Nat} {e : TypeId} {size : Nat} {v : Value} {k : Nat} {xs : List Value} (h : W.ownsRow base e size v k xs) {j : Nat} {o : Obj} (hj : W.heap[j]? = some o) (hno : ∀ cur, o ≠ .cells cur e (0, 0)) :
    v.ownBlock = none ∨ v.ownBlock ≠ some j := by
  rcases h.2 with ⟨rfl, _⟩ | ⟨g, cap, cur, rfl, _, hgb, _⟩
  · exact .inl rfl
  · refine .inr fun e2 => ?_
    have : g = j := by simpa [Value.ownBlock] using e2
    subst this
    rw [hgb] at hj
    cases hj
    exact hno cur rfl
/-- A block of another sort stays while a row of bytes grows. -/
theorem carry5 {W w1 : World} {g base k : Nat} {cs : Array Value} {t : TypeId} {v : Value} {xs : List Value} (hO : W.ownsRow base 5 1 v k xs) (hg : W.grownBy w1 v.ownBlock) (ht : t ≠ 5) (h : W.heap[g]? = some (.cells cs t (0, 0))) : w1.heap[g]? = some (.cells cs t (0, 0)) :=
  (hg.block g (blk_lt' h) (fun e => by
    rcases row_ne5 hO h (fun cur e2 => ht (by injection e2)) with h1 | h1
    · rw [h1] at e; cases e
    · exact h1 e.symm)).trans h
theorem gate_step {P : Program} {ops : Array Oper} {o : Oper} {a : Act} {Kc : Act → World → Prop} {Q : Exit → Act → World → Prop} {W : World} (s x : Operand) (t u : TypeId) (ho : o.op = .call { callee := .builtin .append, args := #[s, x], argTypes := #[t, u] })
    (h : if Region.wanted o (yielded ops a.tmps) = true then Oper.wp P o a W Kc Q else Kc (a.put o.dst undef) W) : if Region.wanted o (yielded ops a.tmps) = true then Oper.wp P o a W Kc Q else Kc (a.put o.dst undef) W := h
theorem little_two (xs : List Int) (n : Int) (hl : xs.length < 140737488355300) : image_little.f 2 xs [n] = some (xs ++ L4 n) := by
  unfold image_little.f
  simp only [image_little.l0, List.length_cons, List.length_nil]
  rw [if_pos (by decide), if_pos (by decide), if_pos (by decide), Option.bind_some]
  rw [if_pos (by simp only [List.length_cons, List.length_nil]; omega), if_neg (by show ¬ wrap64 (0 + 1) < (1 : Int); unfold wrap64; decide)]
  rfl
/-- little, one number behind a row of the call's own. -/
theorem little1.calls (u : Value) (xs : List Int) (n : Int) (hb : Nat) (w0 w : World) (hB : Below w0.heap.size w0 w) (ho : Kd.R (Kd.int .u8) 5 w w0.heap.size (fun _ => True) u xs) (h : w.heap[hb]? = some (.cells #[.int .i64 n] 3 (0, 0))) (hl : xs.length < 140737488355300) :
    Calls Try.prog 40 #[u, .slice (some ⟨hb, 0, none⟩) 1 1] w fun e w' => ∃ v0_ : Value, e = .returned (v0_) ∧ Kd.R (Kd.int .u8) 5 w' w0.heap.size (fun _ => True) v0_ (xs ++ L4 n) ∧ Below w0.heap.size w0 w' ∧ ∀ (g : Nat) (cs : Array Value) (t : TypeId), t ≠ 5 → w.heap[g]? = some (.cells cs t (0, 0)) → w'.heap[g]? = some (.cells cs t (0, 0)) := by
  have ho2 : Kd.R (Kd.int .u8) 5 w w0.heap.size (fun k => u.ownBlock = some k) u xs := Kd.R_of_own (own_u8 ho) (fun k hk => hk)
  have hr1 : ∀ W_, Kept w W_ (fun k => u.ownBlock = some k) → Kd.C (Kd.int .i64) W_ (some ⟨hb, 0, none⟩) [n].length [n] := by
    intro W_ hk
    have h2 : W_.heap[hb]? = some (.cells #[.int .i64 n] 3 (0, 0)) := (hk.2 hb (blk_lt' h) (fun e => by
      rcases row_ne5 (own_u8 ho) h (fun cur e2 => by injection e2 with _ e3; cases e3) with h1 | h1
      · rw [h1] at e; cases e
      · exact h1 e)).trans h
    exact C_int h2
  refine (image_little.calls 2 (fun k => u.ownBlock = some k) u xs (some ⟨hb, 0, none⟩) 1 [n] (xs ++ L4 n) w0 w hB ho2 hr1 (Nat.le_refl _) (little_two xs n hl)).mono ?_
  rintro e w' ⟨v, rfl, h1, h2, h3⟩
  exact ⟨v, rfl, Kd.R_mono h1 (fun _ _ => trivial), h2, fun g cs t ht hg => (h3.2 g (blk_lt' hg) (fun e => by
    rcases row_ne5 (own_u8 ho) hg (fun cur e2 => ht (by injection e2)) with h1 | h1
    · rw [h1] at e; cases e
    · exact h1 e)).trans hg⟩
set_option maxHeartbeats 60000000 in
set_option maxRecDepth 100000 in
theorem image_put.calls (A0 : Option Addr) (c0 : Nat) (l0 : List Int) (a0 a1 a2 a3 : Int) (A4 : Option Addr) (c4 : Nat) (l4 : List S26) (A5 : Option Addr) (c5 : Nat) (l5 : List S26) (A6 : Option Addr) (c6 : Nat) (l6 : List S26) (r : List Int) (w : World)
    (hr0 : Kd.C (Kd.int .u16) w A0 l0.length l0) (hc0 : l0.length ≤ c0) (hr4 : Kd.C k26 w A4 l4.length l4) (hc4 : l4.length ≤ c4) (hr5 : Kd.C k26 w A5 l5.length l5) (hc5 : l5.length ≤ c5) (hr6 : Kd.C k26 w A6 l6.length l6) (hc6 : l6.length ≤ c6)
    (h : image_put.f l0 a0 a1 a2 a3 l4 l5 l6 = some r) :
    Calls Try.prog 32 #[.slice A0 l0.length c0, .agg #[.int .i64 a0, .int .i64 a1, .int .i64 a2, .int .i64 a3, .slice A4 l4.length c4, .slice A5 l5.length c5, .slice A6 l6.length c6]] w fun e w' => ∃ v0_ : Value, e = .returned (v0_) ∧ Kd.R (Kd.int .u8) 5 w' w.heap.size (fun _ => True) v0_ r ∧ Below w.heap.size w w' := by
  have hu59 := Try.underlying59
  have hu36 := Try.underlying36
  have hu29 := Try.underlying29
  unfold image_put.f at h
  by_cases c1 : l0.length < 70368744177000
  · rw [if_pos c1] at h
    have LM := Aside0.mk c1
    have H := Aside0.mk h
    clear h c1
    have hM := heap_alloc_new w (.cells #[.int .i64 a0, .int .i64 a1, .int .i64 a2, .int .i64 a3, .slice A4 l4.length c4, .slice A5 l5.length c5, .slice A6 l6.length c6] 36)
    have hM1 : ((w.alloc (.cells #[.int .i64 a0, .int .i64 a1, .int .i64 a2, .int .i64 a3, .slice A4 l4.length c4, .slice A5 l5.length c5, .slice A6 l6.length c6] 36)).alloc (.cells #[.int .u8 77, .int .u8 83, .int .u8 75, .int .u8 49] 5)).heap[w.heap.size]? = some (.cells #[.int .i64 a0, .int .i64 a1, .int .i64 a2, .int .i64 a3, .slice A4 l4.length c4, .slice A5 l5.length c5, .slice A6 l6.length c6] 36) := (heap_alloc_old _ _ (blk_lt' hM)).trans hM
    have hg1 : (w.alloc (.cells #[.int .i64 a0, .int .i64 a1, .int .i64 a2, .int .i64 a3, .slice A4 l4.length c4, .slice A5 l5.length c5, .slice A6 l6.length c6] 36)).heap.size = w.heap.size + 1 := by simp
    have h4 := heap_alloc_new (w.alloc (.cells #[.int .i64 a0, .int .i64 a1, .int .i64 a2, .int .i64 a3, .slice A4 l4.length c4, .slice A5 l5.length c5, .slice A6 l6.length c6] 36)) (.cells #[.int .u8 77, .int .u8 83, .int .u8 75, .int .u8 49] 5)
    rw [hg1] at h4
    obtain ⟨W2, hconv, h42, ho2, hsz2, hos, htape, hout⟩ := conv_mark _ _ _ _ _ _ h4
    have hconv1 := hconv _ rfl
    have hB2 : Below w.heap.size w W2 := (below_alloc (below_alloc (Below.refl w.heap.size w) _) _).trans ⟨hos, htape, hout, by omega, fun q hq => ho2 q (by omega)⟩
    have hM2 : W2.heap[w.heap.size]? = some (.cells #[.int .i64 a0, .int .i64 a1, .int .i64 a2, .int .i64 a3, .slice A4 l4.length c4, .slice A5 l5.length c5, .slice A6 l6.length c6] 36) := (ho2 _ (by omega)).trans hM1
    have hz2 : W2.heap.size = w.heap.size + 1 + 1 := by rw [hsz2]; simp
    have HX := Aside0.mk (Kd.C_below hr0 hB2)
    have HL4 := Aside0.mk (Kd.C_below hr4 hB2)
    have HL5 := Aside0.mk (Kd.C_below hr5 hB2)
    have HL6 := Aside0.mk (Kd.C_below hr6 hB2)
    have HC0 := Aside0.mk hc0
    have HC4 := Aside0.mk hc4
    have HC5 := Aside0.mk hc5
    have HC6 := Aside0.mk hc6
    have k0 : W2.cell? ⟨w.heap.size, 0, none⟩ = some (.int .i64 a0) := (cell_of_row W2 w.heap.size 0 _ _ _ hM2).trans rfl
    have J0 := Aside0.mk k0
    have k1 : W2.cell? ⟨w.heap.size, 1, none⟩ = some (.int .i64 a1) := (cell_of_row W2 w.heap.size 1 _ _ _ hM2).trans rfl
    have J1 := Aside0.mk k1
    have k2 : W2.cell? ⟨w.heap.size, 2, none⟩ = some (.int .i64 a2) := (cell_of_row W2 w.heap.size 2 _ _ _ hM2).trans rfl
    have J2 := Aside0.mk k2
    have k3 : W2.cell? ⟨w.heap.size, 3, none⟩ = some (.int .i64 a3) := (cell_of_row W2 w.heap.size 3 _ _ _ hM2).trans rfl
    have J3 := Aside0.mk k3
    have k4 : W2.cell? ⟨w.heap.size, 4, none⟩ = some (.slice A4 l4.length c4) := (cell_of_row W2 w.heap.size 4 _ _ _ hM2).trans rfl
    have J4 := Aside0.mk k4
    have k5 : W2.cell? ⟨w.heap.size, 5, none⟩ = some (.slice A5 l5.length c5) := (cell_of_row W2 w.heap.size 5 _ _ _ hM2).trans rfl
    have J5 := Aside0.mk k5
    have k6 : W2.cell? ⟨w.heap.size, 6, none⟩ = some (.slice A6 l6.length c6) := (cell_of_row W2 w.heap.size 6 _ _ _ hM2).trans rfl
    have J6 := Aside0.mk k6
    have H42 := Aside0.mk h42
    have HZ := Aside0.mk hz2
    have HB2 := Aside0.mk hB2
    clear hM hM1 hg1 h4 hconv h42 ho2 hsz2 hos htape hout hB2 hM2 hz2 hr0 hr4 hr5 hr6 hc0 hc4 hc5 hc6
    go_enter Try.func32, Try.ntmps32
    go_wp2_with (first | (go_at_call 40; refine (little_mark.calls a0 a1 a2 a3 (l0.length : Int) (w.heap.size + 1) W2.heap.size _ ?h1 ?h2).mono ?_; (case h1 => exact (heap_alloc_old _ _ (by have := HZ.out; omega)).trans H42.out); (case h2 => exact heap_alloc_new _ _); rintro e w0 ⟨v0, rfl, ho, hb⟩; have HO := Aside0.mk (show Kd.R (Kd.int .u8) 5 w0 W2.heap.size (fun _ => True) v0 (headB a0 a1 a2 a3 (l0.length : Int)) from Kd.R_lower ho (show W2.heap.size ≤ _ by simp)); have HB := Aside0.mk (below_then (below_alloc (Below.refl W2.heap.size W2) _) (by simp) hb); clear ho hb))
    clear k0 k1 k2 k3 k4 k5 k6
    go_loopg [5, 28] (l0.length + 1) (fun kq v5 v28 w' => ∃ i : Nat, v28 = .int .i64 (i : Int) ∧ Aside0 (i + kq = l0.length + 1 ∧ i ≤ l0.length) ∧ Aside0 (Kd.R (Kd.int .u8) 5 w' W2.heap.size (fun _ => True) v5 (headB a0 a1 a2 a3 (l0.length : Int) ++ hbs (l0.take i))) ∧ Aside0 (Below W2.heap.size W2 w'))
    case atStart => exact ⟨0, rfl, ⟨Nat.zero_add _, Nat.zero_le _⟩, ⟨by simpa [hbs] using HO.out⟩, HB⟩
    case round =>
      clear HO HB
      obtain ⟨i, rfl, HK, HO, HB⟩ := hrel
      by_cases hi : i < l0.length
      · have q1 : ((i : Int) < (l0.length : Int)) = True := eq_true (by omega)
        have q3 : (0 ≤ (i : Int)) = True := eq_true (by omega)
        obtain ⟨ad, e, hx⟩ := Kd.at_int HX.out (i : Int) (Int.natCast_nonneg i) (by omega)
        subst e
        have hx0 : wr.cell? (ad.add i) = some (.int .u16 (rd l0 (i : Int))) := keepc hx HB.out
        have hw1 := Aside0.mk (show wrap64 ((i : Int) + 1) = ((i + 1 : Nat) : Int) by unfold wrap64; have := Kd.C_max HX.out; omega)
        have HI := Aside0.mk hi
        have hlen := Aside0.mk (show (headB a0 a1 a2 a3 (l0.length : Int) ++ hbs (l0.take i)).length = 24 + 2 * i by rw [List.length_append, headB_len, hbs_len, List.length_take]; omega)
        have hnext := Aside0.mk (show headB a0 a1 a2 a3 (l0.length : Int) ++ hbs (l0.take (i + 1)) = headB a0 a1 a2 a3 (l0.length : Int) ++ hbs (l0.take i) ++ [rd l0 (i : Int) % 256, rd l0 (i : Int) / 256 % 256] by rw [hbs_take l0 i hi, List.append_assoc])
        obtain ⟨ys, hys⟩ : ∃ ys, ys = headB a0 a1 a2 a3 (l0.length : Int) ++ hbs (l0.take i) := ⟨_, rfl⟩
        rw [← hys] at HO hlen hnext
        clear hx hi hys
        go_wp2_with (first | ((with_reducible refine gate_builtin (b := .append) (xs := #[.tmp 32, .tmp 38]) rfl ?_); at_builtin; refine Kd.R_append_rows (Kd.int .u8) (w0 := W2) W2.heap.size rfl (.tmp 32) (.tmp 38) 29 5 (.int .u8 0) 1 rfl Try.underlying29 info5 rfl (by decide) (by omega) u5 ys [rd l0 (i : Int) % 256, rd l0 (i : Int) / 256 % 256] (some ⟨wr.heap.size, 0, none⟩) 2 2 (fun _ => True) (fun _ => False) rfl rfl ?aO ?aR (fun _ _ h => h) (fun _ h => h.elim) ?aF ?aB ?aS ?aL ?_; (case aO => exact Kd.R_alloc HO.out _); (case aR => exact (Kd.R_reads' (Kd.R_of_own (own_lit wr wr.heap.size 5 .u8 [rd l0 (i : Int) % 256, rd l0 (i : Int) / 256 % 256] (Nat.le_refl _) (by simp)) (ok := fun _ => True) (fun _ _ => trivial))).2.2); (case aB => exact below_alloc HB.out _); (case aF => exact (fun _ _ => trivial)); (case aS => exact Nat.le_trans HB.out.size (by simp)); (case aL => have := hlen.out; have := LM.out; have := HI.out; (try simp only [List.length_cons, List.length_nil]); omega); intro v2 w2 ho hb hgr hat; have n0 := Aside0.mk ho; have n1 := Aside0.mk hb; clear ho hb hgr hat HO HB; have HO := n0; have HB := n1; clear n0 n1))
        go_roundg (gk - 1)
        case measure => have := HK.out; have := HI.out; omega
        case rel => exact ⟨i + 1, congrArg (Value.int .i64) hw1.out, ⟨by have := HK.out; have := HI.out; omega⟩, ⟨by rw [hnext.out]; exact HO.out⟩, HB⟩
      · have he : i = l0.length := by have := HK.out; omega
        have q1 : ((i : Int) < (l0.length : Int)) = False := eq_false (by omega)
        subst he
        replace HO := Aside0.mk (show Kd.R (Kd.int .u8) 5 wr W2.heap.size (fun _ => True) u5 (headB a0 a1 a2 a3 (l0.length : Int) ++ hbs l0) by rw [← List.take_length (l := l0)]; simpa using HO.out)
        go_wp2_with (first | (go_at_call 26; refine (image_lists.calls w.heap.size _).mono ?_; rintro e wl ⟨rfl, hb⟩; have n1 := Aside0.mk (below_then HB.out HB.out.size hb); have n0 := Aside0.mk (Kd.R_below HO.out hb); clear HB hb HO; have HB := n1; have HO := n0; clear n1 n0))
        go_loopg [5, 42] 4 (fun kq v5 v42 w' => ∃ (j : Nat) (ys : List Int), v42 = .int .i64 (j : Int) ∧ Aside0 (j + kq = 4 ∧ j ≤ 3) ∧ Aside0 (listsB gI ([l4, l5, l6].drop j) ys = some r) ∧ Aside0 (Kd.R (Kd.int .u8) 5 w' W2.heap.size (fun _ => True) v5 ys) ∧ Aside0 (Below W2.heap.size W2 w'))
        case atStart => exact ⟨0, _, rfl, ⟨rfl, by decide⟩, H, HO, HB⟩
        case round =>
          clear HO HB H
          obtain ⟨j, ys, rfl, HK, H, HO, HB⟩ := hrel
          by_cases hj : j < 3
          · obtain ⟨Aj, cj, lj, hcell, hC, hcj, hlist⟩ : ∃ (Aj : Option Addr) (cj : Nat) (lj : List S26), W2.cell? ⟨w.heap.size, 4 + j, none⟩ = some (.slice Aj lj.length cj) ∧ Kd.C k26 W2 Aj lj.length lj ∧ lj.length ≤ cj ∧ [l4, l5, l6].drop j = lj :: [l4, l5, l6].drop (j + 1) := by
              rcases j with _ | _ | _ | j
              · exact ⟨A4, c4, l4, J4.out, HL4.out, HC4.out, rfl⟩
              · exact ⟨A5, c5, l5, J5.out, HL5.out, HC5.out, rfl⟩
              · exact ⟨A6, c6, l6, J6.out, HL6.out, HC6.out, rfl⟩
              · omega
            have hidx : ∀ W, (Instr.index 59 (.agg #[.pointer (some ⟨w.heap.size, 4, none⟩), .pointer (some ⟨w.heap.size, 5, none⟩), .pointer (some ⟨w.heap.size, 6, none⟩)]) (.int .i64 (j : Int))).run Try.prog W = .ok (.pointer (some ⟨w.heap.size, 4 + j, none⟩)) W := by
              intro W
              rcases j with _ | _ | _ | j
              · exact idx59_0 _ _ _ W
              · exact idx59_1 _ _ _ W
              · exact idx59_2 _ _ _ W
              · omega
            have H2 := H.out
            rw [hlist] at H2
            simp only [listsB] at H2
            by_cases c2 : ys.length < 140737488355000
            · rw [if_pos c2] at H2
              obtain ⟨zs, h1, h2⟩ := Option.bind_eq_some_iff.mp H2
              have LM2 := Aside0.mk c2
              have H1 := Aside0.mk h1
              replace H2 := Aside0.mk h2
              have HCELL := Aside0.mk hcell
              have HCj := Aside0.mk hC
              have HCC := Aside0.mk hcj
              have hk := keepc hcell HB.out
              have q1 : ((j : Int) < 3) = True := eq_true (by omega)
              have q2 : decide ((j : Int) < 3) = true := decide_eq_true (by omega)
              have HJ := Aside0.mk hj
              clear hcell hlist hj c2 h1 h2 hC hcj H
              go_wp2_with (first | ((with_reducible refine gate_builtin (b := .append) (xs := #[.tmp 45, .tmp 51]) rfl ?_); at_builtin; refine Kd.R_append_rows (Kd.int .u8) (w0 := W2) W2.heap.size rfl (.tmp 45) (.tmp 51) 29 5 (.int .u8 0) 1 rfl Try.underlying29 info5 rfl (by decide) (by omega) u5 ys [(lj.length : Int) % 256] (some ⟨wr.heap.size, 0, none⟩) 1 1 (fun _ => True) (fun _ => False) rfl rfl ?aO ?aR (fun _ _ h => h) (fun _ h => h.elim) ?aF ?aB ?aS ?aL ?_; (case aO => exact Kd.R_alloc HO.out _); (case aR => exact (Kd.R_reads' (Kd.R_of_own (own_lit wr wr.heap.size 5 .u8 [(lj.length : Int) % 256] (Nat.le_refl _) (by simp)) (ok := fun _ => True) (fun _ _ => trivial))).2.2); (case aB => exact below_alloc HB.out _); (case aF => exact (fun _ _ => trivial)); (case aS => exact Nat.le_trans HB.out.size (by simp)); (case aL => have := LM2.out; (try simp only [List.length_cons, List.length_nil]); omega); intro v2 w2 ho hb hgr hat; have n0 := Aside0.mk ho; have n1 := Aside0.mk hb; have hk2 := keepc HCELL.out hb; clear ho hb hgr hat HO HB hk; have HO := n0; have HB := n1; have hk := hk2; clear n0 n1 hk2))
              have HKo := HK
              obtain ⟨go, hgo⟩ : ∃ g, g = gk := ⟨_, rfl⟩
              rw [← hgo] at HKo
              clear hk HK
              go_loopg [5, 57] (lj.length + 1) (fun kq v5 v57 w' => ∃ (i : Nat) (ts : List Int), v57 = .int .i64 (i : Int) ∧ Aside0 (i + kq = lj.length + 1 ∧ i ≤ lj.length) ∧ Aside0 (cellsB gI (lj.drop i) ts = some zs) ∧ Aside0 (Kd.R (Kd.int .u8) 5 w' W2.heap.size (fun _ => True) v5 ts) ∧ Aside0 (Below W2.heap.size W2 w'))
              case atStart => exact ⟨0, _, rfl, ⟨Nat.zero_add _, Nat.zero_le _⟩, H1, HO, HB⟩
              case round =>
                clear HO HB H1
                obtain ⟨i, ts, rfl, HK, H, HO, HB⟩ := hrel
                by_cases hi : i < lj.length
                · obtain ⟨LM3, xs, h1, h2⟩ := cellsB_step hi H.out
                  obtain ⟨ad, e, hx0, hx1⟩ := at_T26 HCj.out (i : Int) (Int.natCast_nonneg i) (by omega)
                  subst e
                  obtain ⟨s, hs⟩ : ∃ s, s = (rd_T26 lj (i : Int)).f0 := ⟨_, rfl⟩
                  obtain ⟨m, hm⟩ : ∃ m, m = (rd_T26 lj (i : Int)).f1 := ⟨_, rfl⟩
                  rw [← hs] at LM3 h1 hx0
                  rw [← hm] at h1 hx1
                  have q1 : ((i : Int) < (lj.length : Int)) = True := eq_true (by omega)
                  have q2 : decide ((i : Int) < (lj.length : Int)) = true := decide_eq_true (by omega)
                  have q3 : (0 ≤ (i : Int)) = True := eq_true (by omega)
                  have hw1 := Aside0.mk (show wrap64 ((i : Int) + 1) = ((i + 1 : Nat) : Int) by unfold wrap64; have := Kd.C_max HCj.out; omega)
                  have hx0' : World.cell? wr (ad.add (i * 2)) = some (.string s) := keepc hx0 HB.out
                  have hx1' : World.cell? wr ⟨(ad.add (i * 2)).block, (ad.add (i * 2)).off + 1, none⟩ = some (.int .i64 m) := keepc hx1 HB.out
                  replace h1 := Aside0.mk h1
                  replace h2 := Aside0.mk h2
                  replace LM3 := Aside0.mk LM3
                  have HI := Aside0.mk hi
                  clear H hs hm hi hx0 hx1
                  go_wp2_with fail
                  have h1e := Aside0.mk (show ts ++ [(s.size : Int) % 256] ++ bytesOf s ++ L4 m = xs from Option.some.inj h1.out)
                  have HCB := Aside0.mk (heap_alloc_new wr (.cells #[.string s, .int .i64 m] 26))
                  replace HO := Aside0.mk (Kd.R_alloc HO.out (.cells #[.string s, .int .i64 m] 26))
                  replace HB := Aside0.mk (below_alloc HB.out (.cells #[.string s, .int .i64 m] 26))
                  clear hx0' hx1'
                  go_region_held3 (fun W => W.cell? ⟨wr.heap.size, 0, none⟩ = some (.string s) ∧ W.cell? ⟨wr.heap.size, 1, none⟩ = some (.int .i64 m)) (exact cells2b (by repeat (first | (with_reducible exact HCB.out) | (with_reducible refine blk_drewN ?_ _) | (with_reducible refine blk_drew ?_) | (with_reducible refine blk_alloc ?_ _)))) (first | ((fail_if_success go_at_call 40); (with_reducible refine gate_step (.tmp 61) (.tmp 66) 29 29 rfl ?_); refine Kd.R_append_rows_step (Kd.int .u8) (w0 := W2) W2.heap.size (by rfl) (.tmp 61) (.tmp 66) 29 5 (.int .u8 0) 1 rfl Try.underlying29 info5 rfl (by decide) (by omega) u5 ts [(s.size : Int) % 256] _ 1 1 (fun _ => True) (fun _ => False) rfl rfl ?aO ?aR (fun _ _ h => h) (fun _ h => h.elim) ?aF ?aB ?aS ?aL ?_; (case aR => exact C_byte (x := IntKind.u8.wrap (s.size : Int)) (by repeat (first | ((with_reducible refine new_atB ?_); (simp; done)) | (with_reducible refine blk_drewN ?_ _) | (with_reducible refine blk_drew ?_) | (with_reducible refine blk_alloc ?_ _)))); (case aF => exact (fun _ _ => trivial)); (case aB => exact (by repeat (first | (with_reducible first | exact HB.out | apply below_alloc | apply pw_below_drewN | apply below_drew1) | exact HB.out))); (case aO => exact (by repeat (first | (with_reducible exact HO.out) | (with_reducible apply Kd.R_alloc) | (with_reducible apply Kd.R_drewN) | (with_reducible apply Kd.R_drew)))); (case aS => exact below_size (by repeat (first | (with_reducible first | exact HB.out | apply below_alloc | apply pw_below_drewN | apply below_drew1) | exact HB.out))); (case aL => have := LM3.out; omega); intro v1 w1 ho1 hb1 hg1 hat1; have nC := Aside0.mk (carry5 (g := wr.heap.size) (cs := #[.string s, .int .i64 m]) (t := 26) (own_u8 (by repeat (first | (with_reducible exact HO.out) | (with_reducible apply Kd.R_alloc) | (with_reducible apply Kd.R_drewN) | (with_reducible apply Kd.R_drew)))) hg1 (by decide) (by repeat (first | (with_reducible exact HCB.out) | (with_reducible refine blk_drewN ?_ _) | (with_reducible refine blk_drew ?_) | (with_reducible refine blk_alloc ?_ _)))); (try (have nN := Aside0.mk (carry5 (cs := #[.int .i64 m]) (t := 3) (own_u8 (by repeat (first | (with_reducible exact HO.out) | (with_reducible apply Kd.R_alloc) | (with_reducible apply Kd.R_drewN) | (with_reducible apply Kd.R_drew)))) hg1 (by decide) (by repeat (first | (with_reducible exact HN.out) | (with_reducible refine blk_drewN ?_ _) | (with_reducible refine blk_drew ?_) | (with_reducible refine blk_alloc ?_ _)))); clear HN; have HN := nN; clear nN)); (try (have HN := Aside0.mk (carry5 (cs := #[.int .i64 m]) (t := 3) (own_u8 (by repeat (first | (with_reducible exact HO.out) | (with_reducible apply Kd.R_alloc) | (with_reducible apply Kd.R_drewN) | (with_reducible apply Kd.R_drew)))) hg1 (by decide) (by with_reducible first | exact heap_alloc_new _ _ | exact blk_drew (heap_alloc_new _ _) | exact blk_alloc (heap_alloc_new _ _) _ | exact blk_drew (blk_alloc (heap_alloc_new _ _) _) | exact blk_alloc (blk_drew (heap_alloc_new _ _)) _ | exact blk_drew (blk_alloc (blk_drew (heap_alloc_new _ _)) _))))); clear HCB; have HCB := nC; clear nC; have n0 := Aside0.mk ho1; have n1 := Aside0.mk hb1; clear HO HB ho1 hb1 hg1 hat1; have HO := n0; have HB := n1; clear n0 n1) | ((fail_if_success go_at_call 40); (with_reducible refine gate_step (.tmp 67) (.tmp 69) 29 9 rfl ?_); refine print_append_str_step (w0 := W2) W2.heap.size (by rfl) (.tmp 67) (.tmp 69) 29 9 5 rfl Try.underlying29 Try.underlying9 info5 v1 (ts ++ [(s.size : Int) % 256]) s rfl rfl ?aO ?aB ?aS ?aL ?_; (case aB => exact (by repeat (first | (with_reducible first | exact HB.out | apply below_alloc | apply pw_below_drewN | apply below_drew1) | exact HB.out))); (case aO => exact own_u8 (by repeat (first | (with_reducible exact HO.out) | (with_reducible apply Kd.R_alloc) | (with_reducible apply Kd.R_drewN) | (with_reducible apply Kd.R_drew)))); (case aS => exact below_size (by repeat (first | (with_reducible first | exact HB.out | apply below_alloc | apply pw_below_drewN | apply below_drew1) | exact HB.out))); (case aL => have := LM3.out; simp only [List.length_append, List.length_cons, List.length_nil]; omega); intro v2 w2 ho1 hb1 hg1; have nC := Aside0.mk (carry5 (g := wr.heap.size) (cs := #[.string s, .int .i64 m]) (t := 26) (own_u8 (by repeat (first | (with_reducible exact HO.out) | (with_reducible apply Kd.R_alloc) | (with_reducible apply Kd.R_drewN) | (with_reducible apply Kd.R_drew)))) hg1 (by decide) (by repeat (first | (with_reducible exact HCB.out) | (with_reducible refine blk_drewN ?_ _) | (with_reducible refine blk_drew ?_) | (with_reducible refine blk_alloc ?_ _)))); (try (have nN := Aside0.mk (carry5 (cs := #[.int .i64 m]) (t := 3) (own_u8 (by repeat (first | (with_reducible exact HO.out) | (with_reducible apply Kd.R_alloc) | (with_reducible apply Kd.R_drewN) | (with_reducible apply Kd.R_drew)))) hg1 (by decide) (by repeat (first | (with_reducible exact HN.out) | (with_reducible refine blk_drewN ?_ _) | (with_reducible refine blk_drew ?_) | (with_reducible refine blk_alloc ?_ _)))); clear HN; have HN := nN; clear nN)); (try (have HN := Aside0.mk (carry5 (cs := #[.int .i64 m]) (t := 3) (own_u8 (by repeat (first | (with_reducible exact HO.out) | (with_reducible apply Kd.R_alloc) | (with_reducible apply Kd.R_drewN) | (with_reducible apply Kd.R_drew)))) hg1 (by decide) (by with_reducible first | exact heap_alloc_new _ _ | exact blk_drew (heap_alloc_new _ _) | exact blk_alloc (heap_alloc_new _ _) _ | exact blk_drew (blk_alloc (heap_alloc_new _ _) _) | exact blk_alloc (blk_drew (heap_alloc_new _ _)) _ | exact blk_drew (blk_alloc (blk_drew (heap_alloc_new _ _)) _))))); clear HCB; have HCB := nC; clear nC; have n0 := Aside0.mk (R_u8 ho1); have n1 := Aside0.mk hb1; clear HO HB ho1 hb1 hg1; have HO := n0; have HB := n1; clear n0 n1) | (go_at_call 40; (with_reducible refine (little1.calls _ (ts ++ [(s.size : Int) % 256] ++ bytesOf s) m _ W2 _ ?hb ?ho ?hh ?hl).mono ?_); (case hb => exact (by repeat (first | (with_reducible first | exact HB.out | apply below_alloc | apply pw_below_drewN | apply below_drew1) | exact HB.out))); (case ho => exact (by repeat (first | (with_reducible exact HO.out) | (with_reducible apply Kd.R_alloc) | (with_reducible apply Kd.R_drewN) | (with_reducible apply Kd.R_drew)))); (case hh => first | ((repeat (first | ((with_reducible refine new_atB ?_); (simp; done)) | (with_reducible refine blk_drewN ?_ _) | (with_reducible refine blk_drew ?_) | (with_reducible refine blk_alloc ?_ _))); done) | ((repeat (first | (with_reducible exact HN.out) | (with_reducible refine blk_drewN ?_ _) | (with_reducible refine blk_drew ?_) | (with_reducible refine blk_alloc ?_ _) | (simpa using HN.out))); done)); (case hl => have := LM3.out; simp only [List.length_append, List.length_cons, List.length_nil, bytesOf_length]; omega); rintro e w3 ⟨v3, rfl, ho1, hb1, hkp⟩; have n0 := Aside0.mk ho1; have n1 := Aside0.mk hb1; have nC := Aside0.mk (hkp wr.heap.size #[.string s, .int .i64 m] 26 (by decide) (by repeat (first | (with_reducible exact HCB.out) | (with_reducible refine blk_drewN ?_ _) | (with_reducible refine blk_drew ?_) | (with_reducible refine blk_alloc ?_ _)))); clear HO HB ho1 hb1 HCB hkp; (try clear HN); have HCB := nC; clear nC; have HO := n0; have HB := n1; clear n0 n1))
                  all_goals clear HCB
                  all_goals go_wp2_with fail
                  all_goals go_roundg (gk - 1)
                  all_goals (try (case measure => have := HK.out; have := HI.out; omega))
                  all_goals (try (case rel => exact ⟨i + 1, _, congrArg (Value.int .i64) hw1.out, ⟨by have := HK.out; have := HI.out; omega⟩, ⟨by rw [h1e.out]; exact h2.out⟩, HO, HB⟩))
                · have he : i = lj.length := by have := HK.out; omega
                  have q1 : ((i : Int) < (lj.length : Int)) = False := eq_false (by omega)
                  subst he
                  have hzs := cellsB_end H.out
                  subst hzs
                  have hw1 := Aside0.mk (show wrap64 ((j : Int) + 1) = ((j + 1 : Nat) : Int) by unfold wrap64; have := HJ.out; omega)
                  go_wp2_with fail
                  go_roundg (go - 1)
                  case measure => have := HKo.out; have := HJ.out; omega
                  case rel => exact ⟨j + 1, _, congrArg (Value.int .i64) hw1.out, ⟨by have := HKo.out; have := HJ.out; omega⟩, H2, HO, HB⟩
            · rw [if_neg c2] at H2
              cases H2
          · have he : j = 3 := by have := HK.out; omega
            subst he
            have hr : ys = r := Option.some.inj H.out
            subst hr
            go_wp2_with fail
            go_ret
            exact ⟨_, rfl, Kd.R_lower HO.out (by have := HZ.out; omega), HB2.out.trans (HB.out.mono (by have := HZ.out; omega))⟩
  · rw [if_neg c1] at h
    cases h
end Go.Proofs.Ytimhllaahihhgaa.PA
