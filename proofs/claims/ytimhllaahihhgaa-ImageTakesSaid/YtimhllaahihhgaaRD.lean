/- The reference's Take: what its walk carries. No condition but the hypotheses that each theorem states. -/
import Derived.Test.YtimhllaahihhgaaRC
import Derived.Test.YtimhllaahihhgaaRS
namespace Go.Proofs.Ytimhllaahihhgaa.PA
open Go.RowKit Go.Proofs.YtimhllaahihhgaaW.PrintWords Go.Proofs.YtimhllaahihhgaaW.PrintLast Go.Proofs.YtimhllaahihhgaaW.PrintMore
set_option linter.unusedVariables false
set_option linter.unusedSimpArgs false
abbrev Z36 : Obj := .cells #[.int .i64 0, .int .i64 0, .int .i64 0, .int .i64 0, .slice none 0 0, .slice none 0 0, .slice none 0 0] 36 (0, 0)
/-- So many halfwords, read as the reference reads them. -/
def codeP : Nat → List Int → List Int → Bool → List Int × List Int × Bool
  | 0, out, bs, sh => (out, bs, sh)
  | n + 1, out, bs, sh => if sh = true then (out, bs, sh) else codeP n (out ++ [numV 2 (takeB 2 bs sh).1]) (takeB 2 bs sh).2.1 (takeB 2 bs sh).2.2
theorem codeP_short (n : Nat) (out bs : List Int) : codeP n out bs true = (out, bs, true) := by cases n <;> simp [codeP]
def tailP (b0 : List Int) : TakeR :=
  let p0 := takeB 4 b0 false
  let p1 := takeB 4 p0.2.1 p0.2.2
  let p2 := takeB 4 p1.2.1 p1.2.2
  let p3 := takeB 4 p2.2.1 p2.2.2
  let p4 := takeB 4 p3.2.1 p3.2.2
  if 60000 < num4 p4.1 then errI 2 else
  let t := codeP (num4 p4.1).toNat [] p4.2.1 p4.2.2
  let c1 := listP t.2.1 t.2.2
  let c2 := listP c1.2.1 c1.2.2
  let c3 := listP c2.2.1 c2.2.2
  if c3.2.2 = true then errI 3
  else if 0 < c3.2.1.length ∨ canB (num4 p0.1) (num4 p1.1) (num4 p2.1) (num4 p3.1) c1.1 c2.1 c3.1 = false then errI 4
  else (t.1, num4 p0.1, num4 p1.1, num4 p2.1, num4 p3.1, c1.1, c2.1, c3.1, 0)
theorem numV2_range {bs : List Int} {sh : Bool} (h : Bytes bs) : 0 ≤ numV 2 (takeB 2 bs sh).1 ∧ numV 2 (takeB 2 bs sh).1 < 65536 := by
  have h0 := rd_bytes (takeB_bytes (n := 2) (sh := sh) h).1 0
  have h1 := rd_bytes (takeB_bytes (n := 2) (sh := sh) h).1 1
  unfold numV
  rw [if_neg (by decide), if_pos rfl]
  omega
theorem R_emptyU16 (W : World) (b : Nat) (hb : b = W.heap.size) : Kd.R (Kd.int .u16) 32 (W.alloc (.cells #[] 32)) W.heap.size (fun k => W.heap.size ≤ k) (.slice (some ⟨b, 0, none⟩) 0 0) [] := by
  subst hb
  exact ⟨fun k hk => by have : W.heap.size = k := (by simpa [Value.ownBlock] using hk); omega, [], World.ownsRow_lit (base := W.heap.size) (e := 32) (size := (Kd.int .u16).sz) W #[] 0 (Nat.le_refl _) (by decide) rfl, Reps.none _ _⟩
theorem RS.lt {w0 W : World} {g : Nat} {B bs : List Int} {sh : Bool} (h : RS w0 W g B bs sh) : g < W.heap.size := by obtain ⟨a, _, _, h1⟩ := h; exact h1.lt
theorem info32 : (Try.prog.info? 32).map (fun i => (i.zero, i.size, i.bytes)) = some (some (.int .u16 0), 1, 2) := by kernel_rfl
theorem R_keptD {α : Type} {d : Kd α} {e base : Nat} {W W1 : World} {ok S : Nat → Prop} {v : Value} {xs : List α} (h : d.R e W base ok v xs) (hk : Kept W W1 S) (hn : ∀ k, ok k → ¬ S k) : d.R e W1 base ok v xs := Kd.R_step h (fun k ho hlt => hk.2 k hlt (hn k ho))
theorem seven_at {W : World} {g : Nat} {t : TypeId} {a0 a1 a2 a3 a4 a5 a6 : Value} (h : W.heap[g]? = some (.cells #[a0, a1, a2, a3, a4, a5, a6] t (0, 0))) :
    W.cell? ⟨g, 0, none⟩ = some a0 ∧ W.cell? ⟨g, 1, none⟩ = some a1 ∧ W.cell? ⟨g, 2, none⟩ = some a2 ∧ W.cell? ⟨g, 3, none⟩ = some a3 ∧ W.cell? ⟨g, 4, none⟩ = some a4 ∧ W.cell? ⟨g, 5, none⟩ = some a5 ∧ W.cell? ⟨g, 6, none⟩ = some a6 ∧ W.frozen? ⟨g, 0, none⟩ = false ∧ W.frozen? ⟨g, 1, none⟩ = false ∧ W.frozen? ⟨g, 2, none⟩ = false ∧ W.frozen? ⟨g, 3, none⟩ = false ∧ W.frozen? ⟨g, 4, none⟩ = false ∧ W.frozen? ⟨g, 5, none⟩ = false ∧ W.frozen? ⟨g, 6, none⟩ = false :=
  ⟨(cell_of_row _ _ 0 _ _ _ h).trans rfl, (cell_of_row _ _ 1 _ _ _ h).trans rfl, (cell_of_row _ _ 2 _ _ _ h).trans rfl, (cell_of_row _ _ 3 _ _ _ h).trans rfl, (cell_of_row _ _ 4 _ _ _ h).trans rfl, (cell_of_row _ _ 5 _ _ _ h).trans rfl, (cell_of_row _ _ 6 _ _ _ h).trans rfl, blk_frozen h 0, blk_frozen h 1, blk_frozen h 2, blk_frozen h 3, blk_frozen h 4, blk_frozen h 5, blk_frozen h 6⟩
/-- What the walk carries: the reader, the box of the result, the box of the manifest. -/
structure St (w W : World) (g gm : Nat) (l0 bs : List Int) (sh : Bool) (M : Array Value) : Prop where
  hB : Below w.heap.size w W
  hR : RS w W g l0 bs sh
  hZ : W.heap[w.heap.size]? = some Z36
  hM : W.heap[gm]? = some (.cells M 36 (0, 0))
  hg : w.heap.size < g
  hgm : g < gm
theorem St.size {w W : World} {g gm : Nat} {l0 bs : List Int} {sh : Bool} {M : Array Value} (h : St w W g gm l0 bs sh M) : gm < W.heap.size := blk_lt' h.hM
theorem St.kept {w W W1 : World} {g gm : Nat} {l0 bs bs1 : List Int} {sh sh1 : Bool} {M : Array Value} (h : St w W g gm l0 bs sh M) (hk : Kept W W1 (fun k => k = g)) (hR : RS w W1 g l0 bs1 sh1) (hB : Below w.heap.size w W1) : St w W1 g gm l0 bs1 sh1 M :=
  ⟨hB, hR, (hk.2 _ (blk_lt' h.hZ) (by have := h.hg; omega)).trans h.hZ, (hk.2 _ (blk_lt' h.hM) (by have := h.hgm; omega)).trans h.hM, h.hg, h.hgm⟩
theorem St.set {w W : World} {g gm i : Nat} {v : Value} {l0 bs : List Int} {sh : Bool} {M M1 : Array Value} (h : St w W g gm l0 bs sh M) (hm : M.setIfInBounds i v = M1) : St w (W.setCell ⟨gm, i, none⟩ v) g gm l0 bs sh M1 :=
  ⟨below_set h.hB (by have := h.hg; have := h.hgm; omega), h.hR.far (p := ⟨gm, i, none⟩) (show g ≠ gm by have := h.hgm; omega) v, blk_far h.hZ (p := ⟨gm, i, none⟩) (show w.heap.size ≠ gm by have := h.hg; have := h.hgm; omega) v, blk_put h.hM i v hm, h.hg, h.hgm⟩
theorem St.start {w w1 W : World} {g : Nat} {l0 bs : List Int} {sh : Bool} {M : Array Value} (hR : RS w w1 g l0 bs sh) (hB : Below w.heap.size w w1) (hZ : w1.heap[w.heap.size]? = some Z36) (hg : w.heap.size < g) (hb : Below w1.heap.size w1 W) (hm : W.heap[w1.heap.size]? = some (.cells M 36 (0, 0))) : St w W g w1.heap.size l0 bs sh M :=
  ⟨below_then hB hB.size hb, hR.below hb, blk_below hZ hb, hm, hg, hR.lt⟩
theorem St.below {w W W1 : World} {g gm : Nat} {l0 bs : List Int} {sh : Bool} {M : Array Value} (h : St w W g gm l0 bs sh M) (hb : Below W.heap.size W W1) : St w W1 g gm l0 bs sh M :=
  ⟨below_then h.hB h.hB.size hb, h.hR.below hb, blk_below h.hZ hb, blk_below h.hM hb, h.hg, h.hgm⟩
theorem cellsP_len : ∀ (n : Nat) (out : List S26) (bs : List Int) (sh : Bool), (cellsP n out bs sh).1.length ≤ out.length + n
  | 0, out, bs, sh => by simp [cellsP]
  | n + 1, out, bs, sh => by
    unfold cellsP
    split
    · simp
    · split
      · simp
      · refine Nat.le_trans (cellsP_len n _ _ _) ?_
        simp
        omega
theorem listP_len {bs : List Int} {sh : Bool} (h : Bytes bs) : (listP bs sh).1.length ≤ 256 := by
  have h1 := cellsP_len (octN bs sh) [] (takeB 1 bs sh).2.1 (takeB 1 bs sh).2.2
  have h2 := (octN_numV (sh := sh) h).2
  unfold listP
  simp at h1
  omega
theorem St.grown {α : Type} {d : Kd α} {e base : Nat} {ok : Nat → Prop} {v : Value} {xs : List α} {w W W1 : World} {g gm : Nat} {l0 bs : List Int} {sh : Bool} {M : Array Value} (h : St w W g gm l0 bs sh M) (ho : d.R e W base ok v xs) (hg : W.grownBy W1 v.ownBlock) (hB : Below w.heap.size w W1) (hn : ∀ k, ok k → k ≠ w.heap.size ∧ k ≠ g ∧ k ≠ gm) : St w W1 g gm l0 bs sh M :=
  ⟨hB, h.hR.grown hg (fun e => (hn g (ho.1 g e.symm)).2.1 rfl), (hg.block _ (blk_lt' h.hZ) (fun e => (hn _ (ho.1 _ e.symm)).1 rfl)).trans h.hZ, (hg.block _ (blk_lt' h.hM) (fun e => (hn _ (ho.1 _ e.symm)).2.2 rfl)).trans h.hM, h.hg, h.hgm⟩
theorem listP_len' {bs b1 : List Int} {sh s1 : Bool} {L : List S26} (h : Bytes bs) (e : listP bs sh = (L, b1, s1)) : L.length ≤ 256 := by have h1 := listP_len (sh := sh) h; rw [e] at h1; exact h1
theorem St.num {w W : World} {g gm n : Nat} {l0 bs : List Int} {sh : Bool} {M : Array Value} (h : St w W g gm l0 bs sh M) (hby : Bytes l0) (hl : l0.length < 4611686018427387904) (hn : n = 1 ∨ n = 2 ∨ n = 4)
    {D b1 : List Int} {s1 : Bool} (e : takeB n bs sh = (D, b1, s1)) :
    Calls Try.prog 29 #[.pointer (some ⟨g, 0, none⟩), .int .i64 (n : Int)] W fun e w' => e = .returned (.int .i64 (numV n D)) ∧ St w w' g gm l0 b1 s1 M ∧ Kept W w' (fun k => k = g) := by
  refine (R_kept1.calls n g l0 bs sh w W h.hR h.hB hby hl hn e).mono ?_
  rintro e w1 ⟨rfl, h1, h2, h3⟩
  exact ⟨rfl, h.kept h2 h1 h3, h2⟩
theorem St.list {w W : World} {g gm : Nat} {l0 bs : List Int} {sh : Bool} {M : Array Value} (h : St w W g gm l0 bs sh M) (hby : Bytes l0) (hl : l0.length < 4611686018427387904)
    {L : List S26} {b1 : List Int} {s1 : Bool} (e : listP bs sh = (L, b1, s1)) :
    Calls Try.prog 30 #[.pointer (some ⟨g, 0, none⟩)] W fun e w' => ∃ v, e = .returned v ∧ Kd.R k26 26 w' w.heap.size (fun k => (W.heap.size ≤ k ∧ k < w'.heap.size) ∧ gm < k) v L ∧ St w w' g gm l0 b1 s1 M ∧ Kept W w' (fun k => k = g) := by
  refine (R_list.calls g l0 bs sh w W h.hR h.hB (by have := h.hg; omega) hby hl).mono ?_
  rintro e w1 ⟨v, rfl, h0, h1, h2, h3⟩
  rw [‹listP bs sh = _›] at h0 h1
  exact ⟨v, rfl, Kd.R_mono (Kd.R_bound h0) (fun k hk => ⟨⟨hk.1, hk.2.2.1⟩, by have := h.size; have := hk.1; omega⟩), h.kept h2 h1 h3, h2⟩
end Go.Proofs.Ytimhllaahihhgaa.PA
