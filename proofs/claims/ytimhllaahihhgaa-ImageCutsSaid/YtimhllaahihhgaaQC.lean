/- image's reader: take, octet, number, cells: what the calls come to. No condition but the hypotheses that each theorem states. -/
import Derived.Test.YtimhllaahihhgaaQR
namespace Go.Proofs.Ytimhllaahihhgaa.PA
open Go.RowKit Go.Proofs.YtimhllaahihhgaaW.PrintWords Go.Proofs.YtimhllaahihhgaaW.PrintLast Go.Proofs.YtimhllaahihhgaaW.PrintMore
set_option linter.unusedVariables false
set_option linter.unusedSimpArgs false
/-- A byte's list. -/
def Bytes (l : List Int) : Prop := ∀ x ∈ l, 0 ≤ x ∧ x < 256
theorem Bytes.drop {l : List Int} (h : Bytes l) (n : Nat) : Bytes (l.drop n) := fun x hx => h x (List.mem_of_mem_drop hx)
theorem Bytes.take {l : List Int} (h : Bytes l) (n : Nat) : Bytes (l.take n) := fun x hx => h x (List.mem_of_mem_take hx)
theorem takeB_bytes {n : Nat} {bs : List Int} {sh : Bool} (h : Bytes bs) : Bytes (takeB n bs sh).1 ∧ Bytes (takeB n bs sh).2.1 := by
  unfold takeB
  split
  · exact ⟨fun x hx => by rw [(List.mem_replicate.1 hx).2]; omega, h⟩
  · exact ⟨h.take n, h.drop n⟩
theorem takeB_len {n : Nat} {bs : List Int} {sh : Bool} : (takeB n bs sh).1.length = n := by
  unfold takeB
  split
  · exact List.length_replicate
  · rename_i h; rw [List.length_take]; omega
theorem rd_bytes {l : List Int} (h : Bytes l) (i : Int) : 0 ≤ rd l i ∧ rd l i < 256 := by
  unfold rd
  rcases Nat.lt_or_ge i.toNat l.length with hl | hl
  · rw [List.getD_eq_getElem?_getD, List.getElem?_eq_getElem hl]; exact h _ (List.getElem_mem hl)
  · rw [List.getD_eq_getElem?_getD, List.getElem?_eq_none hl]; decide
def octN (bs : List Int) (sh : Bool) : Nat := (rd (takeB 1 bs sh).1 0).toNat
theorem octN_eq {bs : List Int} {sh : Bool} (h : Bytes bs) : wrap64 (rd (takeB 1 bs sh).1 0) = (octN bs sh : Int) ∧ octN bs sh < 256 := by
  have := rd_bytes (takeB_bytes (n := 1) (sh := sh) h).1 0
  unfold octN wrap64
  omega
/-- So many cells, read. -/
def cellsR : Nat → List S26 → List Int → Bool → List S26 × List Int × Bool
  | 0, out, bs, sh => (out, bs, sh)
  | n + 1, out, bs, sh =>
    cellsR n (out ++ [⟨strOfNums (takeB (octN bs sh) (takeB 1 bs sh).2.1 (takeB 1 bs sh).2.2).1, num4 (takeB 4 (takeB (octN bs sh) (takeB 1 bs sh).2.1 (takeB 1 bs sh).2.2).2.1 (takeB (octN bs sh) (takeB 1 bs sh).2.1 (takeB 1 bs sh).2.2).2.2).1⟩])
      (takeB 4 (takeB (octN bs sh) (takeB 1 bs sh).2.1 (takeB 1 bs sh).2.2).2.1 (takeB (octN bs sh) (takeB 1 bs sh).2.1 (takeB 1 bs sh).2.2).2.2).2.1
      (takeB 4 (takeB (octN bs sh) (takeB 1 bs sh).2.1 (takeB 1 bs sh).2.2).2.1 (takeB (octN bs sh) (takeB 1 bs sh).2.1 (takeB 1 bs sh).2.2).2.2).2.2
def cellsF (bs : List Int) (sh : Bool) : List S26 × List Int × Bool := cellsR (octN bs sh) [] (takeB 1 bs sh).2.1 (takeB 1 bs sh).2.2
theorem R_keptb {W W1 : World} {base N b : Nat} {v : Value} {xs : List S26} (h : Kd.R k26 26 W base (fun k => N ≤ k) v xs) (hk : Kept W W1 (fun k => k = b)) (hb : b < N) : Kd.R k26 26 W1 base (fun k => N ≤ k) v xs :=
  Kd.R_step h (fun k ho hlt => hk.2 k hlt (by omega))
theorem RAt_grown {w0 W W1 : World} {N base b e : Nat} {bs : List Int} {sh : Bool} {v : Value} {xs : List S26} (h : RAt w0 W b bs sh) (ho : Kd.R k26 e W base (fun k => N ≤ k) v xs) (hg : W.grownBy W1 v.ownBlock) (hb : b < N) : RAt w0 W1 b bs sh := by
  obtain ⟨ad, c, h1, h2, h3⟩ := h
  exact ⟨ad, c, (hg.block b (blk_lt' h1) (fun e => by have := ho.1 b e.symm; omega)).trans h1, h2, h3⟩
theorem RAt_alloc {w0 W : World} {b : Nat} {bs : List Int} {sh : Bool} (h : RAt w0 W b bs sh) (o : Obj) : RAt w0 (W.alloc o) b bs sh := by
  obtain ⟨ad, c, h1, h2, h3⟩ := h
  exact ⟨ad, c, blk_alloc h1 o, h2, h3⟩
theorem Kept_grown {w W W1 : World} {N base b e : Nat} {v : Value} {xs : List S26} (h : Kept w W (fun k => k = b)) (ho : Kd.R k26 e W base (fun k => w.heap.size ≤ k) v xs) (hg : W.grownBy W1 v.ownBlock) : Kept w W1 (fun k => k = b) :=
  ⟨Nat.le_trans h.1 hg.size, fun i hi hn => (hg.block i (Nat.lt_of_lt_of_le hi h.1) (fun e => by have := ho.1 i e.symm; omega)).trans (h.2 i hi hn)⟩
set_option maxHeartbeats 8000000 in
set_option maxRecDepth 100000 in
theorem reader_cells.calls (b : Nat) (bs : List Int) (sh : Bool) (w0 w : World) (hB : Below w0.heap.size w0 w) (hb : w0.heap.size ≤ b) (h : RAt w0 w b bs sh) (hbs : Bytes bs) :
    Calls Try.prog 27 #[.pointer (some ⟨b, 0, none⟩)] w fun e w' => ∃ v, e = .returned v ∧ Kd.R k26 26 w' w0.heap.size (fun k => w.heap.size ≤ k) v (cellsF bs sh).1 ∧ RAt w0 w' b (cellsF bs sh).2.1 (cellsF bs sh).2.2 ∧ Kept w w' (fun k => k = b) ∧ Below w0.heap.size w0 w' ∧ Bytes (cellsF bs sh).2.1 := by
  have HB := Aside0.mk hB
  have Hb := Aside0.mk hb
  have Hbw := Aside0.mk (show b < w.heap.size by obtain ⟨_, _, h1, _⟩ := h; exact blk_lt' h1)
  have HR := Aside0.mk h
  have HK := Aside0.mk (Kept.refl w (fun k => k = b))
  have HBS := Aside0.mk (takeB_bytes (n := 1) (sh := sh) hbs).2
  have HE := Aside0.mk (octN_eq (sh := sh) hbs).1
  have HC0 := Aside0.mk (octN_eq (sh := sh) hbs).2
  have HF := Aside0.mk (show cellsR (octN bs sh) [] (takeB 1 bs sh).2.1 (takeB 1 bs sh).2.2 = cellsF bs sh from rfl)
  obtain ⟨F, hF⟩ : ∃ F, F = cellsF bs sh := ⟨_, rfl⟩
  rw [← hF] at HF ⊢
  clear hB hb h hbs hF
  go_enter Try.func27, Try.ntmps27
  go_wp2_with (first | (go_at_call 37; refine (reader_octet.calls b _ _ w0 _ HB.out Hb.out HR.out).mono ?_; rintro e w1 ⟨rfl, hR1, hK1, hB1⟩; have n1 := Aside0.mk (HK.out.then_ hK1 (fun k hk => .inl hk)); have n2 := Aside0.mk hR1; have n3 := Aside0.mk hB1; (try (have n4 := Aside0.mk (R_keptb HO.out hK1 Hbw.out); clear HO; have HO := n4; clear n4)); clear HK HR HB hK1 hR1 hB1; have HK := n1; have HR := n2; have HB := n3; clear n1 n2 n3; (first | rw [HE.out] | rw [HE2.out])))
  obtain ⟨c0, hc0⟩ : ∃ c0, c0 = octN bs sh := ⟨_, rfl⟩
  rw [← hc0] at HC0 HF ⊢
  clear HE hc0
  go_loopg [3, 7] (c0 + 1) (fun kq v3 v7 w' => ∃ (i : Nat) (out : List S26) (bs1 : List Int) (sh1 : Bool), v7 = .int .i64 (i : Int) ∧ Aside0 (i + kq = c0 + 1 ∧ i ≤ c0) ∧ Aside0 (out.length = i) ∧ Aside0 (Bytes bs1) ∧ Aside0 (cellsR (c0 - i) out bs1 sh1 = F) ∧ Aside0 (Kd.R k26 26 w' w0.heap.size (fun k => w.heap.size ≤ k) v3 out) ∧ Aside0 (RAt w0 w' b bs1 sh1) ∧ Aside0 (Kept w w' (fun k => k = b)) ∧ Aside0 (Below w0.heap.size w0 w'))
  case atStart => exact ⟨0, [], _, _, rfl, ⟨Nat.zero_add _, Nat.zero_le _⟩, ⟨rfl⟩, HBS, HF, ⟨Kd.R_nil _ _ _ _ _⟩, HR, HK, HB⟩
  case round =>
    clear HB HR HK HBS HF
    obtain ⟨i, out, bs1, sh1, rfl, HG, HLEN, HBS, HF, HO, HR, HK, HB⟩ := hrel
    by_cases hi : i < c0
    · have q1 : ((i : Int) < (c0 : Int)) = True := eq_true (by omega)
      have q2 : decide ((i : Int) < (c0 : Int)) = true := decide_eq_true (by omega)
      have hw1 := Aside0.mk (show wrap64 ((i : Int) + 1) = ((i + 1 : Nat) : Int) by unfold wrap64; have := HC0.out; omega)
      have HE2 := Aside0.mk (octN_eq (sh := sh1) HBS.out).1
      have HE3 := Aside0.mk (octN_eq (sh := sh1) HBS.out).2
      have HI := Aside0.mk hi
      have HF2 := HF.out
      rw [show c0 - i = (c0 - (i + 1)) + 1 by omega] at HF2
      replace HF2 := Aside0.mk (show cellsR (c0 - (i + 1)) (out ++ [⟨strOfNums (takeB (octN bs1 sh1) (takeB 1 bs1 sh1).2.1 (takeB 1 bs1 sh1).2.2).1, num4 (takeB 4 (takeB (octN bs1 sh1) (takeB 1 bs1 sh1).2.1 (takeB 1 bs1 sh1).2.2).2.1 (takeB (octN bs1 sh1) (takeB 1 bs1 sh1).2.1 (takeB 1 bs1 sh1).2.2).2.2).1⟩])
        (takeB 4 (takeB (octN bs1 sh1) (takeB 1 bs1 sh1).2.1 (takeB 1 bs1 sh1).2.2).2.1 (takeB (octN bs1 sh1) (takeB 1 bs1 sh1).2.1 (takeB 1 bs1 sh1).2.2).2.2).2.1
        (takeB 4 (takeB (octN bs1 sh1) (takeB 1 bs1 sh1).2.1 (takeB 1 bs1 sh1).2.2).2.1 (takeB (octN bs1 sh1) (takeB 1 bs1 sh1).2.1 (takeB 1 bs1 sh1).2.2).2.2).2.2 = F from HF2)
      have HBS2 := Aside0.mk (takeB_bytes (n := 4) (sh := (takeB (octN bs1 sh1) (takeB 1 bs1 sh1).2.1 (takeB 1 bs1 sh1).2.2).2.2) (takeB_bytes (n := octN bs1 sh1) (sh := (takeB 1 bs1 sh1).2.2) (takeB_bytes (n := 1) (sh := sh1) HBS.out).2).2).2
      obtain ⟨S1, hS1⟩ : ∃ S1, S1 = strOfNums (takeB (octN bs1 sh1) (takeB 1 bs1 sh1).2.1 (takeB 1 bs1 sh1).2.2).1 := ⟨_, rfl⟩
      obtain ⟨M1, hM1⟩ : ∃ M1, M1 = num4 (takeB 4 (takeB (octN bs1 sh1) (takeB 1 bs1 sh1).2.1 (takeB 1 bs1 sh1).2.2).2.1 (takeB (octN bs1 sh1) (takeB 1 bs1 sh1).2.1 (takeB 1 bs1 sh1).2.2).2.2).1 := ⟨_, rfl⟩
      rw [← hS1, ← hM1] at HF2
      replace hS1 := Aside0.mk hS1
      replace hM1 := Aside0.mk hM1
      clear hi HF
      go_wp2_with (first | (go_at_call 37; refine (reader_octet.calls b _ _ w0 _ HB.out Hb.out HR.out).mono ?_; rintro e w1 ⟨rfl, hR1, hK1, hB1⟩; have n1 := Aside0.mk (HK.out.then_ hK1 (fun k hk => .inl hk)); have n2 := Aside0.mk hR1; have n3 := Aside0.mk hB1; (try (have n4 := Aside0.mk (R_keptb HO.out hK1 Hbw.out); clear HO; have HO := n4; clear n4)); clear HK HR HB hK1 hR1 hB1; have HK := n1; have HR := n2; have HB := n3; clear n1 n2 n3; (first | rw [HE.out] | rw [HE2.out])) | (go_at_call 25; refine (reader_take.calls (octN bs1 sh1) b _ _ w0 _ HB.out Hb.out HR.out (by have := HE3.out; omega)).mono ?_; rintro e w1 ⟨A1, c1, rfl, hC1, hc1, hR1, hK1, hB1⟩; have hcv := Kd.C_string (c := c1) Try.underlying29 Try.underlying5 Try.underlying9 hC1; clear hC1 hc1; have n1 := Aside0.mk (HK.out.then_ hK1 (fun k hk => .inl hk)); have n2 := Aside0.mk hR1; have n3 := Aside0.mk hB1; (try (have n4 := Aside0.mk (R_keptb HO.out hK1 Hbw.out); clear HO; have HO := n4; clear n4)); clear HK HR HB hK1 hR1 hB1; have HK := n1; have HR := n2; have HB := n3; clear n1 n2 n3))
      rw [← hS1.out]
      go_wp2_with (first | (go_at_call 24; refine (reader_number.calls b _ _ w0 _ HB.out Hb.out HR.out).mono ?_; rintro e w1 ⟨rfl, hR1, hK1, hB1⟩; have n1 := Aside0.mk (HK.out.then_ hK1 (fun k hk => .inl hk)); have n2 := Aside0.mk hR1; have n3 := Aside0.mk hB1; (try (have n4 := Aside0.mk (R_keptb HO.out hK1 Hbw.out); clear HO; have HO := n4; clear n4)); clear HK HR HB hK1 hR1 hB1; have HK := n1; have HR := n2; have HB := n3; clear n1 n2 n3; rw [← hM1.out]) | ((with_reducible refine gate_builtin (b := .append) (xs := #[.tmp 14, .tmp 19]) rfl ?_); at_builtin; refine Kd.R_append k26 (w0 := w0) w0.heap.size rfl (.tmp 14) (.tmp 19) 22 26 (.agg #[(.string ⟨#[]⟩), (.int .i64 0)]) 24 rfl Try.underlying22 info26 rfl (by decide) (by omega) u3 out ⟨S1, M1⟩ [.string S1, .int .i64 M1] (fun k => w.heap.size ≤ k) (fun _ => False) rfl rfl ?aP (fun _ hk => hk.elim) ?aF ?aO ?aB ?aS ?aL ?_; (case aP => exact k26_mkM _ _ _ ⟨S1, M1⟩); (case aF => exact fun k hk => Nat.le_trans HK.out.1 hk); (case aO => exact HO.out); (case aB => exact HB.out); (case aS => exact HB.out.size); (case aL => have := HLEN.out; have := HI.out; have := HC0.out; omega); intro v1 w2 ho hb2 hg hat; have n1 := Aside0.mk (Kept_grown (N := w.heap.size) HK.out HO.out hg); have n2 := Aside0.mk (RAt_grown HR.out HO.out hg Hbw.out); have n3 := Aside0.mk hb2; have n4 := Aside0.mk ho; clear HK HR HB HO hb2 ho hg hat; have HK := n1; have HR := n2; have HB := n3; have HO := n4; clear n1 n2 n3 n4))
      go_roundg (gk - 1)
      case measure => have := HG.out; have := HI.out; omega
      case rel => exact ⟨i + 1, _, _, _, congrArg (Value.int .i64) hw1.out, ⟨by have := HG.out; have := HI.out; omega⟩, ⟨by rw [List.length_append, HLEN.out]; rfl⟩, HBS2, HF2, HO, HR, HK, HB⟩
    · have he : i = c0 := by have := HG.out; omega
      have q1 : ((i : Int) < (c0 : Int)) = False := eq_false (by omega)
      subst he
      have hF := HF.out
      rw [Nat.sub_self] at hF
      have hF2 : (out, bs1, sh1) = F := hF
      subst hF2
      clear HF hF
      go_wp2_with fail
      go_ret
      exact ⟨_, rfl, HO.out, HR.out, HK.out, HB.out, HBS.out⟩
end Go.Proofs.Ytimhllaahihhgaa.PA
