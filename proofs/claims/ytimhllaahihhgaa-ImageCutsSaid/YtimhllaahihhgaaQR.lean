/- image's reader: take, octet, number, cells: what the calls come to. No condition but the hypotheses that each theorem states. -/
import Derived.Test.YtimhllaahihhgaaHL
namespace Go.Proofs.Ytimhllaahihhgaa.PA
open Go.RowKit Go.Proofs.YtimhllaahihhgaaW.PrintWords Go.Proofs.YtimhllaahihhgaaW.PrintLast Go.Proofs.YtimhllaahihhgaaW.PrintMore
set_option linter.unusedVariables false
set_option linter.unusedSimpArgs false
def takeB (n : Nat) (bs : List Int) (sh : Bool) : List Int × List Int × Bool := if sh = true ∨ bs.length < n then (List.replicate n 0, bs, true) else (bs.take n, bs.drop n, false)
/-- A reader of bytes that came in. -/
def RAt (w0 w : World) (b : Nat) (bs : List Int) (sh : Bool) : Prop := ∃ (ad : Addr) (c : Nat), w.heap[b]? = some (.cells #[.slice (some ad) bs.length c, .bool sh] 51 (0, 0)) ∧ Kd.C (Kd.int .u8) w0 (some ad) bs.length bs ∧ bs.length ≤ c
theorem keepc_ {w0 W : World} {p : Addr} {v : Value} (hx : w0.cell? p = some v) (hb : Below w0.heap.size w0 W) : W.cell? p = some v := (hb.cell (World.block_lt_of_cell? w0 _ hx)).trans hx
set_option maxHeartbeats 8000000 in
set_option maxRecDepth 100000 in
theorem reader_take.calls (n b : Nat) (bs : List Int) (sh : Bool) (w0 w : World) (hB : Below w0.heap.size w0 w) (hb : w0.heap.size ≤ b) (h : RAt w0 w b bs sh) (hn : n < 1099511627776) :
    Calls Try.prog 25 #[.pointer (some ⟨b, 0, none⟩), .int .i64 (n : Int)] w fun e w' => ∃ (A : Option Addr) (c : Nat), e = .returned (.slice A n c) ∧ Kd.C (Kd.int .u8) w' A n (takeB n bs sh).1 ∧ n ≤ c ∧ RAt w0 w' b (takeB n bs sh).2.1 (takeB n bs sh).2.2 ∧ Kept w w' (fun k => k = b) ∧ Below w0.heap.size w0 w' := by
  have hu51 := Try.underlying51
  have hu29 := Try.underlying29
  obtain ⟨ad, c, h1, hC, hc⟩ := h
  have k0 : w.cell? ⟨b, 0, none⟩ = some (.slice (some ad) bs.length c) := (cell_of_row w b 0 _ _ _ h1).trans rfl
  have k1 : w.cell? ⟨b, 1, none⟩ = some (.bool sh) := (cell_of_row w b 1 _ _ _ h1).trans rfl
  have f0 : w.frozen? ⟨b, 0, none⟩ = false := blk_frozen h1 0
  have f1 : w.frozen? ⟨b, 1, none⟩ = false := blk_frozen h1 1
  have HB := Aside0.mk hB
  have H1 := Aside0.mk h1
  have HC := Aside0.mk hC
  have HN := Aside0.mk hn
  have Hb := Aside0.mk hb
  have Hc := Aside0.mk hc
  clear hB h1 hC hn hb hc
  by_cases hs : sh = true ∨ bs.length < n
  · have e1 : takeB n bs sh = (List.replicate n 0, bs, true) := if_pos hs
    rw [e1]
    have kk : w.heap[b]? = some (.cells #[.slice (some ad) bs.length c, .bool sh] 51 (0, 0)) := H1.out
    cases sh with
    | true =>
      clear hs
      go_enter Try.func25, Try.ntmps25
      go_wp2_with (first | ((with_reducible refine gate_dst (N := 23) rfl ?_); refine Kd.R_make (Kd.int .u8) (w0 := w0) w0.heap.size 5 ?hg (N := 23) ?hd 29 (.tmp 22) (.tmp 22) ?ho (n : Int) ?hx ?hy Try.underlying29 (.int .u8 0) 1 info5 rfl (by decide) (by decide) (0 : Int) (ok := fun k => w.heap.size ≤ k) (okp := fun _ => False) rfl (fun _ h => h.elim) ?hf (by omega) ?hl ?hB ?hS ?_; (case hd => rfl); (case hg => rfl); (case ho => rfl); (case hx => rfl); (case hy => rfl); (case hf => simp); (case hl => have := HN.out; simp; omega); (case hB => exact below_set HB.out Hb.out); (case hS => exact below_size (below_set HB.out Hb.out)); intro v1 w1 ho1 hb1 hg1 hat1))
      obtain ⟨A1, c1, rfl, hc1, hC1⟩ := Kd.R_reads ho1
      simp only [Int.toNat_natCast, List.length_replicate] at hC1 hc1
      go_ret
      have hset : (w.setCell ⟨b, 1, none⟩ (.bool true)).heap[b]? = some (.cells #[.slice (some ad) bs.length c, .bool true] 51 (0, 0)) := blk_put H1.out 1 _ rfl
      have hlt : b < w.heap.size := blk_lt' H1.out
      have hk : Kept (w.setCell ⟨b, 1, none⟩ (.bool true)) w1 (fun k => k = b) := ⟨hg1.size, fun i hi _ => hg1.block i hi (fun e => by cases e)⟩
      refine ⟨A1, c1, by simp, hC1, hc1, ⟨ad, c, (hg1.block b (by simpa using hlt) (fun e => by cases e)).trans hset, HC.out, Hc.out⟩, ((Kept.refl w (fun k => k = b)).setCell (p := ⟨b, 1, none⟩) (.inl rfl) _).then_ hk (fun k hk => .inl hk), hb1⟩
    | false =>
      have q1 : ((bs.length : Int) < (n : Int)) = True := eq_true (by rcases hs with h | h; exact absurd h (by decide); omega)
      have q2 : decide ((bs.length : Int) < (n : Int)) = true := decide_eq_true (by rcases hs with h | h; exact absurd h (by decide); omega)
      clear hs
      go_enter Try.func25, Try.ntmps25
      go_wp2_with (first | ((with_reducible refine gate_dst (N := 23) rfl ?_); refine Kd.R_make (Kd.int .u8) (w0 := w0) w0.heap.size 5 ?hg (N := 23) ?hd 29 (.tmp 22) (.tmp 22) ?ho (n : Int) ?hx ?hy Try.underlying29 (.int .u8 0) 1 info5 rfl (by decide) (by decide) (0 : Int) (ok := fun k => w.heap.size ≤ k) (okp := fun _ => False) rfl (fun _ h => h.elim) ?hf (by omega) ?hl ?hB ?hS ?_; (case hd => rfl); (case hg => rfl); (case ho => rfl); (case hx => rfl); (case hy => rfl); (case hf => simp); (case hl => have := HN.out; simp; omega); (case hB => exact below_set HB.out Hb.out); (case hS => exact below_size (below_set HB.out Hb.out)); intro v1 w1 ho1 hb1 hg1 hat1))
      obtain ⟨A1, c1, rfl, hc1, hC1⟩ := Kd.R_reads ho1
      simp only [Int.toNat_natCast, List.length_replicate] at hC1 hc1
      go_ret
      have hset : (w.setCell ⟨b, 1, none⟩ (.bool true)).heap[b]? = some (.cells #[.slice (some ad) bs.length c, .bool true] 51 (0, 0)) := blk_put H1.out 1 _ rfl
      have hlt : b < w.heap.size := blk_lt' H1.out
      have hk : Kept (w.setCell ⟨b, 1, none⟩ (.bool true)) w1 (fun k => k = b) := ⟨hg1.size, fun i hi _ => hg1.block i hi (fun e => by cases e)⟩
      refine ⟨A1, c1, by simp, hC1, hc1, ⟨ad, c, (hg1.block b (by simpa using hlt) (fun e => by cases e)).trans hset, HC.out, Hc.out⟩, ((Kept.refl w (fun k => k = b)).setCell (p := ⟨b, 1, none⟩) (.inl rfl) _).then_ hk (fun k hk => .inl hk), hb1⟩
  · have e1 : takeB n bs sh = (bs.take n, bs.drop n, false) := if_neg hs
    rw [e1]
    have hsh : sh = false := by cases sh with | false => rfl | true => exact absurd (.inl rfl) hs
    have hle : n ≤ bs.length := by omega
    subst hsh
    have q1 : ((bs.length : Int) < (n : Int)) = False := eq_false (by omega)
    have q2 : decide ((bs.length : Int) < (n : Int)) = false := decide_eq_false (by omega)
    have q3 : ((n : Int) ≤ (c : Int)) = True := eq_true (by have := Hc.out; omega)
    have q4 : (n ≤ c) = True := eq_true (by have := Hc.out; omega)
    have q5 : ((n : Int) ≤ (bs.length : Int)) = True := eq_true (by omega)
    have q6 : (n ≤ bs.length) = True := eq_true hle
    have q7 : (0 ≤ (n : Int)) = True := eq_true (by omega)
    clear hs
    go_enter Try.func25, Try.ntmps25
    have hl : (bs.take n).length = n := by rw [List.length_take]; omega
    have h2 := Kd.C_drop HC.out hle Hc.out
    have h3 := Kd.C_take HC.out hle
    rw [hl] at h3
    go_wp2_with fail
    · rw [if_pos h] at h2
      go_ret
      refine ⟨some ad, n, rfl, Kd.C_below (w := w0) h3 (below_set HB.out Hb.out), Nat.le_refl _, ⟨ad, 0, ?_, h2, ?_⟩, (Kept.refl w (fun k => k = b)).setCell (p := ⟨b, 0, none⟩) (.inl rfl) _, below_set HB.out Hb.out⟩
      · rw [List.length_drop]; exact blk_put H1.out 0 _ rfl
      · rw [List.length_drop]; have := Hc.out; omega
    · rw [if_neg h] at h2
      go_ret
      refine ⟨some ad, n, rfl, Kd.C_below (w := w0) h3 (below_set HB.out Hb.out), Nat.le_refl _, ⟨ad.add n, c - n, ?_, ?_, ?_⟩, (Kept.refl w (fun k => k = b)).setCell (p := ⟨b, 0, none⟩) (.inl rfl) _, below_set HB.out Hb.out⟩
      · rw [List.length_drop]; exact blk_put H1.out 0 _ rfl
      · have h4 : Kd.C (Kd.int .u8) w0 (some (ad.add (n * 1))) (bs.drop n).length (bs.drop n) := h2
        rwa [Nat.mul_one] at h4
      · rw [List.length_drop]; have := Hc.out; omega
theorem cell_plain {w : World} {ad : Addr} {k : Nat} {v : Value} (hk : k ≠ 0) (h : w.cell? (ad.add k) = some v) : w.cell? ⟨ad.block, ad.off + k, none⟩ = some v := by
  simpa [Go.Addr.add, hk] using h
theorem cell_zero {w : World} {ad : Addr} {v : Value} (h : w.cell? (ad.add 0) = some v) : w.cell? ad = some v := by rw [Addr.add_zero'] at h; exact h
set_option maxHeartbeats 8000000 in
set_option maxRecDepth 100000 in
theorem reader_octet.calls (b : Nat) (bs : List Int) (sh : Bool) (w0 w : World) (hB : Below w0.heap.size w0 w) (hb : w0.heap.size ≤ b) (h : RAt w0 w b bs sh) :
    Calls Try.prog 37 #[.pointer (some ⟨b, 0, none⟩)] w fun e w' => e = .returned (.int .i64 (wrap64 (rd (takeB 1 bs sh).1 0))) ∧ RAt w0 w' b (takeB 1 bs sh).2.1 (takeB 1 bs sh).2.2 ∧ Kept w w' (fun k => k = b) ∧ Below w0.heap.size w0 w' := by
  have HB := Aside0.mk hB
  have Hb := Aside0.mk hb
  have HR := Aside0.mk h
  clear hB hb h
  go_enter Try.func37, Try.ntmps37
  go_wp2_with (first | (go_at_call 25; refine (reader_take.calls 1 b bs sh w0 _ HB.out Hb.out HR.out (by omega)).mono ?_; rintro e w1 ⟨A1, c1, rfl, hC1, hc1, hR1, hK1, hB1⟩; obtain ⟨ad0, e0, hx0⟩ := Kd.at_int hC1 0 (by decide) (by decide); subst e0; have hx0b : w1.cell? ad0 = some (.int .u8 (rd (takeB 1 bs sh).1 0)) := (cell_zero hx0); clear hx0; replace hR1 := Aside0.mk hR1; replace hK1 := Aside0.mk hK1; replace hB1 := Aside0.mk hB1; clear hc1 hC1 HB HR))
  go_ret
  exact ⟨by first | rfl | simp, hR1.out, hK1.out, hB1.out⟩
def num4 (l : List Int) : Int := Go.bits .or .i64 (Go.bits .or .i64 (Go.bits .or .i64 (IntKind.i64.wrap (rd l 0)) (IntKind.i64.wrap (IntKind.i64.wrap (rd l 1) * 256))) (IntKind.i64.wrap (IntKind.i64.wrap (rd l 2) * 65536))) (IntKind.i64.wrap (IntKind.i64.wrap (rd l 3) * 16777216))
set_option maxHeartbeats 8000000 in
set_option maxRecDepth 100000 in
theorem reader_number.calls (b : Nat) (bs : List Int) (sh : Bool) (w0 w : World) (hB : Below w0.heap.size w0 w) (hb : w0.heap.size ≤ b) (h : RAt w0 w b bs sh) :
    Calls Try.prog 24 #[.pointer (some ⟨b, 0, none⟩)] w fun e w' => e = .returned (.int .i64 (num4 (takeB 4 bs sh).1)) ∧ RAt w0 w' b (takeB 4 bs sh).2.1 (takeB 4 bs sh).2.2 ∧ Kept w w' (fun k => k = b) ∧ Below w0.heap.size w0 w' := by
  have HB := Aside0.mk hB
  have Hb := Aside0.mk hb
  have HR := Aside0.mk h
  clear hB hb h
  go_enter Try.func24, Try.ntmps24
  go_wp2_with (first | (go_at_call 25; refine (reader_take.calls 4 b bs sh w0 _ HB.out Hb.out HR.out (by omega)).mono ?_; rintro e w1 ⟨A1, c1, rfl, hC1, hc1, hR1, hK1, hB1⟩; obtain ⟨ad0, e0, hx0⟩ := Kd.at_int hC1 0 (by decide) (by decide); subst e0; have hx0b : w1.cell? ad0 = some (.int .u8 (rd (takeB 4 bs sh).1 0)) := (cell_zero hx0); clear hx0; obtain ⟨ad1, e1, hx1⟩ := Kd.at_int hC1 1 (by decide) (by decide); obtain rfl : ad0 = ad1 := (by injection e1); have hx1b : w1.cell? ⟨ad0.block, ad0.off + 1, none⟩ = some (.int .u8 (rd (takeB 4 bs sh).1 1)) := (cell_plain (by decide) hx1); clear hx1; obtain ⟨ad2, e2, hx2⟩ := Kd.at_int hC1 2 (by decide) (by decide); obtain rfl : ad0 = ad2 := (by injection e2); have hx2b : w1.cell? ⟨ad0.block, ad0.off + 2, none⟩ = some (.int .u8 (rd (takeB 4 bs sh).1 2)) := (cell_plain (by decide) hx2); clear hx2; obtain ⟨ad3, e3, hx3⟩ := Kd.at_int hC1 3 (by decide) (by decide); obtain rfl : ad0 = ad3 := (by injection e3); have hx3b : w1.cell? ⟨ad0.block, ad0.off + 3, none⟩ = some (.int .u8 (rd (takeB 4 bs sh).1 3)) := (cell_plain (by decide) hx3); clear hx3; replace hR1 := Aside0.mk hR1; replace hK1 := Aside0.mk hK1; replace hB1 := Aside0.mk hB1; clear hc1 hC1 HB HR))
  go_region_held3 (fun W => W.cell? ad0 = some (.int .u8 (rd (takeB 4 bs sh).1 0)) ∧ W.cell? ⟨ad0.block, ad0.off + 1, none⟩ = some (.int .u8 (rd (takeB 4 bs sh).1 1)) ∧ W.cell? ⟨ad0.block, ad0.off + 2, none⟩ = some (.int .u8 (rd (takeB 4 bs sh).1 2)) ∧ W.cell? ⟨ad0.block, ad0.off + 3, none⟩ = some (.int .u8 (rd (takeB 4 bs sh).1 3))) (exact ⟨hx0b, hx1b, hx2b, hx3b⟩) (fail)
  go_wp2_with fail
  go_ret
  exact ⟨rfl, hR1.out, hK1.out, below_drew1 hB1.out⟩
end Go.Proofs.Ytimhllaahihhgaa.PA
