/- put and ite: what the calls come to. No condition but the hypotheses that each theorem states. -/
import Derived.Test.YtialbhkamlfccaaM3
import Derived.Deep.RegionHeld3
/- put: what the call comes to. No condition but the hypotheses that each theorem states. -/
namespace Go.Proofs.Ytialbhkamlfccaa.PA
open Go.RowKit Go.Proofs.YtialbhkamlfccaaW.PrintWords Go.Proofs.YtialbhkamlfccaaW.PrintLast Go.Proofs.YtialbhkamlfccaaW.PrintMore Go.Proofs.Ytialbhkamlfccaa.Mp Go.Proofs.Ytialbhkamlfccaa.Dia
set_option linter.unusedVariables false
set_option linter.unusedSimpArgs false
/-- What a call that makes a function comes to: a number of it, or none, and then there is no room; at most K nodes are put behind, what hangs on v and later ones alone. -/
def Res (w0 w : World) (ok : Nat → Prop) (g vars most : Nat) (full : Bool) (ns : List Nd) (nb K v : Nat) (F : (Nat → Bool) → Bool) (e : Ending) (w' : World) : Prop :=
  ∃ ns' : List Nd, (∃ d, ns' = ns ++ d) ∧ ns'.length ≤ ns.length + K ∧ Kept w w' ok ∧
    ((∃ m : Nat, e = .returned (.int .i64 (m : Int)) ∧ m < ns'.length ∧ v ≤ top ns' m ∧ (∀ x, sem ns' m x = F x) ∧ BS w0 w' (fun k => ok k ∨ w.heap.size ≤ k) g vars most full ns' nb) ∨
     (e = .returned (.int .i64 (-1)) ∧ most ≤ ns'.length ∧ BS w0 w' (fun k => ok k ∨ w.heap.size ≤ k) g vars most true ns' nb))
theorem top_pre {ns : List Nd} (d : List Nd) {i : Nat} (hi : i < ns.length) : top (ns ++ d) i = top ns i := by
  unfold top
  rw [List.getElem?_append_left hi]
theorem bdd_put.calls (x : Nd) (g vars most : Nat) (ok : Nat → Prop) (nb : Nat) (full : Bool) (ns : List Nd) (w0 w : World) (h : BS w0 w ok g vars most full ns nb)
    (hv : x.v < vars) (hlo : x.lo < ns.length) (hhi : x.hi < ns.length) (ulo : x.v < top ns x.lo) (uhi : x.v < top ns x.hi) :
    Calls Try.prog 37 #[.pointer (some ⟨g, 0, none⟩), .agg #[.int .i64 (x.v : Int), .int .i64 (x.lo : Int), .int .i64 (x.hi : Int)]] w
      (Res w0 w ok g vars most full ns nb 1 x.v (fun y => if y x.v then sem ns x.hi y else sem ns x.lo y)) := by
  have hs := h.small
  have hx : x.v < 9223372036854775808 ∧ x.lo < 9223372036854775808 ∧ x.hi < 9223372036854775808 := ⟨by omega, by omega, by omega⟩
  by_cases he : x.lo = x.hi
  · refine (put_same x g vars most ok nb full ns w0 w h he).mono ?_
    rintro e w' ⟨rfl, hb⟩
    refine ⟨ns, ⟨[], by simp⟩, by omega, Kept.of_below hb ok, .inl ⟨x.lo, rfl, hlo, Nat.le_of_lt ulo, fun y => ?_, (h.below hb).mono (fun k hk => .inl hk) (Nat.le_refl _)⟩⟩
    show sem ns x.lo y = if y x.v = true then sem ns x.hi y else sem ns x.lo y
    rw [← he]
    split <;> rfl
  · cases hf : whereOf ns x.v x.lo x.hi with
    | some n =>
      obtain ⟨i, rfl, h2, hl, _, _, _, hn⟩ := where_some hf
      simp only [Int.toNat_natCast] at hn
      refine (put_found x i g vars most ok nb full ns w0 w h he hf hx).mono ?_
      rintro e w' ⟨rfl, hb⟩
      refine ⟨ns, ⟨[], by simp⟩, by omega, Kept.of_below hb ok, .inl ⟨i, rfl, hl, ?_, fun y => sem_node h.inv hn h2 y, (h.below hb).mono (fun k hk => .inl hk) (Nat.le_refl _)⟩⟩
      rw [top_of hn]
      exact Nat.le_refl _
    | none =>
      have hnew := where_none hf
      rcases Nat.lt_or_ge ns.length most with hm | hm
      · have hinv := h.inv.snoc hv he hlo hhi ulo uhi hnew
        refine (put_new x g vars most ok nb full ns w0 w h he hf hm hx hinv).mono ?_
        rintro e w' ⟨rfl, hb, hk⟩
        refine ⟨ns ++ [x], ⟨[x], rfl⟩, by simp, hk, .inl ⟨ns.length, rfl, by simp, ?_, fun y => sem_new h.inv hlo hhi hinv y, hb⟩⟩
        rw [top_of (n := x) (by simp)]
        exact Nat.le_refl _
      · refine (put_full x g vars most ok nb full ns w0 w h he hf hm hx).mono ?_
        rintro e w' ⟨rfl, hb, hk⟩
        obtain ⟨_, _, _, _, _, _, _, _, _, _, hne, _⟩ := h.at_
        exact ⟨ns, ⟨[], by simp⟩, by omega, hk.mono (fun k e => by rw [e]; exact hne.2.2.2.2.2.1), .inr ⟨rfl, hm, hb.mono (fun k hk => .inl hk) (Nat.le_refl _)⟩⟩
end Go.Proofs.Ytialbhkamlfccaa.PA
/- ite, the ways that make nothing. No condition but the hypotheses that each theorem states. -/
namespace Go.Proofs.Ytialbhkamlfccaa.PA
open Go.RowKit Go.Proofs.YtialbhkamlfccaaW.PrintWords Go.Proofs.YtialbhkamlfccaaW.PrintLast Go.Proofs.YtialbhkamlfccaaW.PrintMore Go.Proofs.Ytialbhkamlfccaa.Mp Go.Proofs.Ytialbhkamlfccaa.Dia
set_option linter.unusedVariables false
set_option linter.unusedSimpArgs false
/-- A function that no variable ahead of v touches hangs on v or behind. -/
theorem top_ge {vars : Nat} {ns : List Nd} (h : Inv vars ns) {m v : Nat} (hm : m < ns.length) (hv : v ≤ vars) (hf : ∀ u b x, u < v → sem ns m (set1 x u b) = sem ns m x) : v ≤ top ns m := by
  rcases Nat.lt_or_ge (top ns m) v with hlt | hge
  · exfalso
    have h2 : 2 ≤ m := by
      rcases Nat.lt_or_ge m 2 with h2 | h2
      · rw [top_const h h2] at hlt; omega
      · exact h2
    have hn : ns[m]? = some ns[m] := List.getElem?_eq_getElem hm
    have hb := h.lt m _ hn h2
    rw [top_of hn] at hlt
    refine hb.2.1 (canon' h (by omega) (by omega) (fun x => ?_))
    rw [← sem_lo h hn h2 x, ← sem_hi h hn h2 x, hf _ _ _ hlt, hf _ _ _ hlt]
  · exact hge
theorem sem_set_free {vars : Nat} {ns : List Nd} (h : Inv vars ns) {i u : Nat} (hi : i < ns.length) (hu : u < top ns i) (b : Bool) (x : Nat → Bool) : sem ns i (set1 x u b) = sem ns i x := by
  refine sem_free h i hi _ _ (fun w h1 h2 => ?_)
  unfold set1
  rw [if_neg (by omega)]
def kk (d : Nat) : Nat := 2 ^ d - 1
theorem kk_succ (d : Nat) : kk (d + 1) = kk d + kk d + 1 := by
  unfold kk
  have := Nat.pow_pos (n := d) (show 0 < 2 by decide)
  rw [Nat.pow_succ]
  omega
theorem kk_zero : kk 0 = 0 := rfl
set_option maxHeartbeats 8000000 in
set_option maxRecDepth 100000 in
theorem ite_first (g : Nat) (a b c : Nat) (w : World) (h : a = 1 ∨ b = c) :
    Calls Try.prog 36 #[.pointer (some ⟨g, 0, none⟩), .int .i64 (a : Int), .int .i64 (b : Int), .int .i64 (c : Int)] w fun e w' => e = .returned (.int .i64 (b : Int)) ∧ w' = w := by
  by_cases h1 : a = 1
  · subst h1
    have q : (((1 : Nat) : Int) == 1) = true := rfl
    go_enter Try.func36, Try.ntmps36
    go_wp2_with fail
    go_ret
    exact ⟨rfl, rfl⟩
  · obtain rfl : b = c := by omega
    have q : ((a : Int) == 1) = false := by rw [beq_eq_false_iff_ne]; omega
    have q1 : ((a : Int) = 1) = False := eq_false (by omega)
    have q3 : (a = 1) = False := eq_false (by omega)
    clear h
    go_enter Try.func36, Try.ntmps36
    go_wp2_with fail
    go_ret
    exact ⟨rfl, rfl⟩
set_option maxHeartbeats 8000000 in
set_option maxRecDepth 100000 in
theorem ite_second (g : Nat) (b c : Nat) (w : World) (h : b ≠ c) :
    Calls Try.prog 36 #[.pointer (some ⟨g, 0, none⟩), .int .i64 ((0 : Nat) : Int), .int .i64 (b : Int), .int .i64 (c : Int)] w fun e w' => e = .returned (.int .i64 (c : Int)) ∧ w' = w := by
  have q : ((b : Int) == (c : Int)) = false := by rw [beq_eq_false_iff_ne]; omega
  have q1 : ((b : Int) = (c : Int)) = False := eq_false (by omega)
  have q3 : (b = c) = False := eq_false (by omega)
  clear h
  go_enter Try.func36, Try.ntmps36
  go_wp2_with fail
  go_ret
  exact ⟨rfl, rfl⟩
set_option maxHeartbeats 8000000 in
set_option maxRecDepth 100000 in
theorem ite_third (g : Nat) (a : Nat) (w : World) (h : a ≠ 0 ∧ a ≠ 1) :
    Calls Try.prog 36 #[.pointer (some ⟨g, 0, none⟩), .int .i64 (a : Int), .int .i64 ((1 : Nat) : Int), .int .i64 ((0 : Nat) : Int)] w fun e w' => e = .returned (.int .i64 (a : Int)) ∧ w' = w := by
  have q : ((a : Int) == 1) = false := by rw [beq_eq_false_iff_ne]; omega
  have q1 : ((a : Int) = 1) = False := eq_false (by omega)
  have q3 : (a = 1) = False := eq_false (by omega)
  have p : ((a : Int) == 0) = false := by rw [beq_eq_false_iff_ne]; omega
  have p1 : ((a : Int) = 0) = False := eq_false (by omega)
  have p3 : (a = 0) = False := eq_false (by omega)
  clear h
  go_enter Try.func36, Try.ntmps36
  go_wp2_with fail
  go_ret
  exact ⟨rfl, rfl⟩
end Go.Proofs.Ytialbhkamlfccaa.PA
/- ite, where it was asked before. No condition but the hypotheses that each theorem states. -/
namespace Go.Proofs.Ytialbhkamlfccaa.PA
open Go.RowKit Go.Proofs.YtialbhkamlfccaaW.PrintWords Go.Proofs.YtialbhkamlfccaaW.PrintLast Go.Proofs.YtialbhkamlfccaaW.PrintMore Go.Proofs.Ytialbhkamlfccaa.Mp Go.Proofs.Ytialbhkamlfccaa.Dia
set_option linter.unusedVariables false
set_option linter.unusedSimpArgs false
set_option maxHeartbeats 8000000 in
set_option maxRecDepth 100000 in
theorem ite_asked (a b c n g ma n2 : Nat) (v vw : Value) (vars most : Int) (full : Bool) (D2 : DataW Unit) (f : Int → Int → Int → Option Int) (w : World) (hbk : w.heap[g]? = some (.cells #[v, vw, .map (some ma), .int .i64 vars, .int .i64 most, .bool full] 52 (0, 0)))
    (h2 : w.ownsMap Try.prog 69 (plainElem Try.prog 3) ma n2 D2) (r2 : Reads D2 f) (hf : f (a : Int) (b : Int) (c : Int) = some (n : Int)) (hw3 : wf3 (a : Int) (b : Int) (c : Int)) (x0 : a ≠ 0) (x1 : a ≠ 1) (x2 : b ≠ c) (x3 : ¬ (b = 1 ∧ c = 0)) :
    Calls Try.prog 36 #[.pointer (some ⟨g, 0, none⟩), .int .i64 (a : Int), .int .i64 (b : Int), .int .i64 (c : Int)] w fun e w' => e = .returned (.int .i64 (n : Int)) ∧ Below w.heap.size w w' := by
  have a1 : ((a : Int) == 1) = false := by rw [beq_eq_false_iff_ne]; omega
  have a2 : ((a : Int) = 1) = False := eq_false (by omega)
  have a3 : (a = 1) = False := eq_false (by omega)
  have a4 : ((a : Int) == 0) = false := by rw [beq_eq_false_iff_ne]; omega
  have a5 : ((a : Int) = 0) = False := eq_false (by omega)
  have a6 : (a = 0) = False := eq_false (by omega)
  have b1 : ((b : Int) == (c : Int)) = false := by rw [beq_eq_false_iff_ne]; omega
  have b2 : ((b : Int) = (c : Int)) = False := eq_false (by omega)
  have b3 : (b = c) = False := eq_false (by omega)
  have u69 := Try.underlying69
  have u54 := Try.underlying54
  have hb0 := below_alloc (Below.refl w.heap.size w) (.cells #[.int .i64 (a : Int), .int .i64 (b : Int), .int .i64 (c : Int)] 69)
  have hS : ∀ W, Below (w.heap.size + 1) (w.alloc (.cells #[.int .i64 (a : Int), .int .i64 (b : Int), .int .i64 (c : Int)] 69)) W → W.cell? ⟨g, 2, none⟩ = some (.map (some ma)) ∧ W.cell? ⟨w.heap.size, 0, none⟩ = some (.int .i64 (a : Int)) ∧ W.cell? ⟨w.heap.size, 1, none⟩ = some (.int .i64 (b : Int)) ∧ W.cell? ⟨w.heap.size, 2, none⟩ = some (.int .i64 (c : Int)) ∧
      (Instr.lookup 49 (.map (some ma)) (.agg #[.int .i64 (a : Int), .int .i64 (b : Int), .int .i64 (c : Int)]) true).run Try.prog W = .ok (.tuple #[.int .i64 (n : Int), .bool true]) W := by
    intro W hW
    have hsz : (w.alloc (.cells #[.int .i64 (a : Int), .int .i64 (b : Int), .int .i64 (c : Int)] 69)).heap.size = w.heap.size + 1 := by simp
    have hW2 : Below (w.alloc (.cells #[.int .i64 (a : Int), .int .i64 (b : Int), .int .i64 (c : Int)] 69)).heap.size (w.alloc (.cells #[.int .i64 (a : Int), .int .i64 (b : Int), .int .i64 (c : Int)] 69)) W := by rw [hsz]; exact hW
    have hg1 : W.heap[g]? = _ := blk_below (blk_alloc hbk _) hW2
    have hn : W.heap[w.heap.size]? = _ := blk_below (heap_alloc_new w (.cells #[.int .i64 (a : Int), .int .i64 (b : Int), .int .i64 (c : Int)] 69)) hW2
    have hm : W.ownsMap Try.prog 69 (plainElem Try.prog 3) ma n2 D2 := (h2.alloc _).kept (grown_of_below hW2 none) (by simp)
    have hl := look_run0 W 49 69 keyed69 Try.underlying49 hm r2 hw3 _ (key69 hw3)
    rw [hf] at hl
    exact ⟨(cell_of_row _ _ 2 _ _ _ hg1).trans rfl, (cell_of_row _ _ 0 _ _ _ hn).trans rfl, (cell_of_row _ _ 1 _ _ _ hn).trans rfl, (cell_of_row _ _ 2 _ _ _ hn).trans rfl, hl⟩
  have HB := Aside0.mk hb0
  have HS := Aside0.mk hS
  have X3 := Aside0.mk x3
  clear hbk h2 r2 hf hw3 hS hb0 x0 x1 x2 x3
  go_enter Try.func36, Try.ntmps36
  go_upto_block 0 with fail
  go_cut [] (fun w' => w' = w)
  case first =>
    by_cases hb : b = 1
    · subst hb
      have hc : c ≠ 0 := fun e => X3.out ⟨rfl, e⟩
      have c1 : ((c : Int) == 0) = false := by rw [beq_eq_false_iff_ne]; omega
      have c2 : ((c : Int) = 0) = False := eq_false (by omega)
      have c3 : (c = 0) = False := eq_false (by omega)
      clear hc
      go_wp2_with fail
      go_meet
      case rel => rfl
    · have c1 : ((b : Int) == 1) = false := by rw [beq_eq_false_iff_ne]; omega
      have c2 : ((b : Int) = 1) = False := eq_false (by omega)
      have c3 : (b = 1) = False := eq_false (by omega)
      go_wp2_with fail
      go_meet
      case rel => rfl
  case rest =>
    have hcut2 := hcut.symm
    subst hcut2
    clear hcut a1 a2 a3 a4 a5 a6 b1 b2 b3
    go_wp2_with fail
    go_region_held3 (fun W => W.cell? ⟨g, 2, none⟩ = some (.map (some ma)) ∧ W.cell? ⟨w.heap.size, 0, none⟩ = some (.int .i64 (a : Int)) ∧ W.cell? ⟨w.heap.size, 1, none⟩ = some (.int .i64 (b : Int)) ∧ W.cell? ⟨w.heap.size, 2, none⟩ = some (.int .i64 (c : Int)) ∧
      (Instr.lookup 49 (.map (some ma)) (.agg #[.int .i64 (a : Int), .int .i64 (b : Int), .int .i64 (c : Int)]) true).run Try.prog W = .ok (.tuple #[.int .i64 (n : Int), .bool true]) W) (exact HS.out _ (Below.refl _ _).drew) (fail)
    go_wp2_with fail
    go_ret
    exact ⟨rfl, below_drew1 HB.out⟩
end Go.Proofs.Ytialbhkamlfccaa.PA
/- ite: what stands between its calls. No condition but the hypotheses that each theorem states. -/
namespace Go.Proofs.Ytialbhkamlfccaa.PA
open Go.RowKit Go.Proofs.YtialbhkamlfccaaW.PrintWords Go.Proofs.YtialbhkamlfccaaW.PrintLast Go.Proofs.YtialbhkamlfccaaW.PrintMore Go.Proofs.Ytialbhkamlfccaa.Mp Go.Proofs.Ytialbhkamlfccaa.Dia
set_option linter.unusedVariables false
set_option linter.unusedSimpArgs false
/-- The set while a choice is made: beside it the block of what was asked. -/
def okS (w : World) (ok : Nat → Prop) : Nat → Prop := fun k => (ok k ∨ w.heap.size ≤ k) ∧ k ≠ w.heap.size
def St (w0 w : World) (ok : Nat → Prop) (g vars most : Nat) (box : Obj) (full : Bool) (ns : List Nd) (nb : Nat) (X : World) : Prop :=
  BS w0 X (okS w ok) g vars most full ns nb ∧ Kept w X ok ∧ X.heap[w.heap.size]? = some box
def Got (w0 w : World) (ok : Nat → Prop) (g vars most : Nat) (box : Obj) (full : Bool) (ns : List Nd) (nb K v : Nat) (F : (Nat → Bool) → Bool) (val : Value) (X : World) : Prop :=
  ∃ ns1 : List Nd, (∃ dd, ns1 = ns ++ dd) ∧ ns1.length ≤ ns.length + K ∧
    ((∃ m : Nat, val = .int .i64 (m : Int) ∧ m < ns1.length ∧ v ≤ top ns1 m ∧ (∀ x, sem ns1 m x = F x) ∧ St w0 w ok g vars most box full ns1 nb X) ∨
     (val = .int .i64 (-1) ∧ most ≤ ns1.length ∧ St w0 w ok g vars most box true ns1 nb X))
section
variable {w0 w X W : World} {ok : Nat → Prop} {g vars most nb nb' K v : Nat} {box : Obj} {full : Bool} {ns : List Nd} {F : (Nat → Bool) → Bool} {e : Ending}
theorem St.bs (h : St w0 w ok g vars most box full ns nb X) : BS w0 X (okS w ok) g vars most full ns nb := h.1
theorem St.below (h : St w0 w ok g vars most box full ns nb X) (hb : Below X.heap.size X W) : St w0 w ok g vars most box full ns nb W :=
  ⟨h.1.below hb, h.2.1.below hb, blk_below h.2.2 hb⟩
theorem St.res (h : St w0 w ok g vars most box full ns nb X) (hr : Res w0 X (okS w ok) g vars most full ns nb' K v F e W) : ∃ val, e = .returned val ∧ Got w0 w ok g vars most box full ns nb' K v F val W := by
  obtain ⟨ns1, hd, hl, hk, hc⟩ := hr
  have hlt := blk_lt h.2.2
  have hok : ∀ k, (okS w ok k ∨ X.heap.size ≤ k) → okS w ok k := fun k hk => hk.elim id (fun h2 => ⟨.inr (by omega), by omega⟩)
  have hk2 : Kept w W ok := h.2.1.then_ hk (fun k h2 => h2.1)
  have hx : W.heap[w.heap.size]? = some box := blk_kept h.2.2 hk (fun h2 => h2.2 rfl)
  rcases hc with ⟨m, rfl, hm, ht, hs, hb⟩ | ⟨rfl, hm, hb⟩
  · exact ⟨_, rfl, ns1, hd, hl, .inl ⟨m, rfl, hm, ht, hs, hb.mono hok (Nat.le_refl _), hk2, hx⟩⟩
  · exact ⟨_, rfl, ns1, hd, hl, .inr ⟨rfl, hm, hb.mono hok (Nat.le_refl _), hk2, hx⟩⟩
theorem St.start (h : BS w0 X (fun k => ok k ∧ w0.heap.size ≤ k ∧ k < w.heap.size) g vars most full ns nb) (hb : Below w.heap.size w X) (hx : X.heap[w.heap.size]? = some box) : St w0 w ok g vars most box full ns nb X :=
  ⟨h.mono (fun k hk => ⟨.inl hk.1, by omega⟩) (Nat.le_refl _), Kept.of_below hb ok, hx⟩
theorem St.out (h : St w0 w ok g vars most box true ns nb X) {ns0 : List Nd} (hn : nb ≤ nb') (hd : ∃ dd, ns = ns0 ++ dd) (hl : ns.length ≤ ns0.length + K) (hm : most ≤ ns.length) : Res w0 w ok g vars most full ns0 nb' K v F (.returned (.int .i64 (-1))) X :=
  ⟨ns, hd, hl, h.2.1, .inr ⟨rfl, hm, h.1.mono (fun k hk => hk.1) hn⟩⟩
theorem AskedOk.upd {f : Int → Int → Int → Option Int} (h : AskedOk ns f) {a b c n : Nat} (ha : a < ns.length) (hb : b < ns.length) (hc : c < ns.length) (hn : n < ns.length) (hs : ∀ x, sem ns n x = if sem ns a x then sem ns b x else sem ns c x) : AskedOk ns (Mp.upd f a b c n) := by
  intro p q r m hf
  unfold Mp.upd at hf
  split at hf
  · rename_i he
    obtain ⟨rfl, rfl, rfl⟩ := he
    cases hf
    exact ⟨a, b, c, n, rfl, rfl, rfl, rfl, ha, hb, hc, hn, hs⟩
  · exact h p q r m hf
end
def IteIH (w0 : World) (g vars most d : Nat) : Prop :=
  ∀ (a b c v nb : Nat) (full : Bool) (ns : List Nd) (ok : Nat → Prop) (w : World), BS w0 w ok g vars most full ns nb → a < ns.length → b < ns.length → c < ns.length → v ≤ top ns a → v ≤ top ns b → v ≤ top ns c → vars ≤ d + v → nb + kk d ≤ 1000000000000 → Calls Try.prog 36 #[.pointer (some ⟨g, 0, none⟩), .int .i64 (a : Int), .int .i64 (b : Int), .int .i64 (c : Int)] w (Res w0 w ok g vars most full ns (nb + kk d) (kk d) v (fun x => if sem ns a x then sem ns b x else sem ns c x))
theorem parts_ok {vars : Nat} {ns : List Nd} (h : Inv vars ns) {a b c t ta tb tc : Nat} (hl : a < ns.length ∧ b < ns.length ∧ c < ns.length) (ht : t ≤ ta ∧ t ≤ tb ∧ t ≤ tc ∧ (t = ta ∨ t = tb ∨ t = tc)) (hT : ta = top ns a ∧ tb = top ns b ∧ tc = top ns c) (h0 : a ≠ 0) (h1 : a ≠ 1) :
    t < vars ∧ t ≤ top ns a ∧ t ≤ top ns b ∧ t ≤ top ns c := by
  have h2 := top_lt h (i := a) (by omega) hl.1
  omega
theorem call_ite {w0 w X : World} {ok : Nat → Prop} {g vars most d nb a b c t : Nat} {box : Obj} {full : Bool} {ns : List Nd} (ih : IteIH w0 g vars most d) (h : St w0 w ok g vars most box full ns nb X) (hl : a < ns.length ∧ b < ns.length ∧ c < ns.length)
    (hp : t < vars ∧ t ≤ top ns a ∧ t ≤ top ns b ∧ t ≤ top ns c) (hd : vars ≤ d + (t + 1)) (hnb : nb + kk d ≤ 1000000000000) (z : Bool) :
    Calls Try.prog 36 #[.pointer (some ⟨g, 0, none⟩), .int .i64 (Dia.part ns a t z : Int), .int .i64 (Dia.part ns b t z : Int), .int .i64 (Dia.part ns c t z : Int)] X
      fun e w' => ∃ val, e = .returned val ∧ Aside0 (Got w0 w ok g vars most box full ns (nb + kk d) (kk d) (t + 1) (fun x => if sem ns a (set1 x t z) then sem ns b (set1 x t z) else sem ns c (set1 x t z)) val w') := by
  obtain ⟨p1, p2, p3⟩ := part_spec (b := z) h.1.inv hl.1 hp.1 hp.2.1
  obtain ⟨q1, q2, q3⟩ := part_spec (b := z) h.1.inv hl.2.1 hp.1 hp.2.2.1
  obtain ⟨r1, r2, r3⟩ := part_spec (b := z) h.1.inv hl.2.2 hp.1 hp.2.2.2
  refine (ih _ _ _ (t + 1) nb full ns (okS w ok) X h.1 p1 q1 r1 p2 q2 r2 hd hnb).mono ?_
  intro e w' hr
  obtain ⟨val, he, hg⟩ := h.res hr
  have hf : (fun x => if sem ns (Dia.part ns a t z) x then sem ns (Dia.part ns b t z) x else sem ns (Dia.part ns c t z) x) = (fun x => if sem ns a (set1 x t z) then sem ns b (set1 x t z) else sem ns c (set1 x t z)) := by
    funext x
    rw [p3, q3, r3]
  rw [hf] at hg
  exact ⟨val, he, ⟨hg⟩⟩
end Go.Proofs.Ytialbhkamlfccaa.PA
/- ite: its call of put, the store of what was asked, what the choice is. No condition but the hypotheses that each theorem states. -/
namespace Go.Proofs.Ytialbhkamlfccaa.PA
open Go.RowKit Go.Proofs.YtialbhkamlfccaaW.PrintWords Go.Proofs.YtialbhkamlfccaaW.PrintLast Go.Proofs.YtialbhkamlfccaaW.PrintMore Go.Proofs.Ytialbhkamlfccaa.Mp Go.Proofs.Ytialbhkamlfccaa.Dia
set_option linter.unusedVariables false
set_option linter.unusedSimpArgs false
theorem call_put {w0 w X : World} {ok : Nat → Prop} {g vars most nb m1 m2 t : Nat} {box : Obj} {full : Bool} {ns : List Nd} (h : St w0 w ok g vars most box full ns nb X) (ht : t < vars) (hl : m1 < ns.length ∧ m2 < ns.length) (hu : t + 1 ≤ top ns m1 ∧ t + 1 ≤ top ns m2) :
    Calls Try.prog 37 #[.pointer (some ⟨g, 0, none⟩), .agg #[.int .i64 (t : Int), .int .i64 (m1 : Int), .int .i64 (m2 : Int)]] X
      fun e w' => ∃ val, e = .returned val ∧ Aside0 (Got w0 w ok g vars most box full ns nb 1 t (fun y => if y t then sem ns m2 y else sem ns m1 y) val w') := by
  refine (bdd_put.calls ⟨t, m1, m2⟩ g vars most (okS w ok) nb full ns w0 X h.1 ht hl.1 hl.2 hu.1 hu.2).mono ?_
  intro e w' hr
  obtain ⟨val, he, hg⟩ := h.res hr
  exact ⟨val, he, ⟨hg⟩⟩
theorem BS.ask {w0 X : World} {ok : Nat → Prop} {g vars most nb a b c m : Nat} {full : Bool} {ns : List Nd} (h : BS w0 X ok g vars most full ns nb) (ha : a < ns.length) (hb : b < ns.length) (hc : c < ns.length) (hm : m < ns.length) (hs : ∀ x, sem ns m x = if sem ns a x then sem ns b x else sem ns c x) (hnb : nb ≤ 1000000000000) :
    ∃ (v vw : Value) (ma : Nat) (X' : World), X.heap[g]? = some (.cells #[v, vw, .map (some ma), .int .i64 vars, .int .i64 most, .bool full] 52 (0, 0)) ∧ X'.heap[g]? = some (.cells #[v, vw, .map (some ma), .int .i64 vars, .int .i64 most, .bool full] 52 (0, 0)) ∧
      (Instr.mapUpdate 49 (.map (some ma)) (.agg #[.int .i64 (a : Int), .int .i64 (b : Int), .int .i64 (c : Int)]) (.int .i64 (m : Int))).run Try.prog X = .ok () X' ∧ BS w0 X' ok g vars most full ns (nb + 1) ∧ X.grownBy X' (some ma) ∧ ok ma := by
  have hsm := h.small
  obtain ⟨v, mw, ma, n1, n2, D1, D2, f, hbk, hR, hne, h1, h2, r1, r2, r3, r4, r5⟩ := h.at_
  have hw3 : wf3 (a : Int) (b : Int) (c : Int) := ⟨wf_nat (by omega), wf_nat (by omega), wf_nat (by omega)⟩
  obtain ⟨X', D3, hrun, ho, hr, hg⟩ := store_run X 49 69 keyed69 Try.underlying49 h2 (by simp only [maxLen]; omega) r2 hw3 _ (key69 hw3) (m : Int) (wf_nat (by omega))
  have hbk2 : X'.heap[g]? = _ := blk_grown hbk hg (fun e => by injection e with e; exact hne.2.2.2.2.1 e)
  refine ⟨v, _, ma, X', hbk, hbk2, hrun, ⟨h.inv, hsm, h.ge, v, mw, ma, n1, n2 + 1, D1, D3, upd f a b c m, hbk2, Kd.R_grown hR hg (fun k hk e => by injection e with e; exact hk.2.2.2 e), hne, h1.kept hg (fun e => by injection e with e; exact hne.2.2.1 e), ho, r1, hr, r3.upd ha hb hc hm hs, r4, by omega⟩, hg, hne.2.2.2.2.2.2.2⟩
theorem ite_sem {vars : Nat} {ns ns1 ns2 ns3 dd dd2 : List Nd} (h : Inv vars ns) (h1 : Inv vars ns1) (e1 : ns1 = ns ++ dd) (e2 : ns2 = ns1 ++ dd2) {a b c m1 m2 m3 t : Nat} (hl : a < ns.length ∧ b < ns.length ∧ c < ns.length) (hm1 : m1 < ns1.length)
    (s1 : ∀ x, sem ns1 m1 x = if sem ns a (set1 x t false) then sem ns b (set1 x t false) else sem ns c (set1 x t false))
    (s2 : ∀ x, sem ns2 m2 x = if sem ns1 a (set1 x t true) then sem ns1 b (set1 x t true) else sem ns1 c (set1 x t true))
    (s3 : ∀ x, sem ns3 m3 x = if x t then sem ns2 m2 x else sem ns2 m1 x) : ∀ x, sem ns3 m3 x = if sem ns a x then sem ns b x else sem ns c x := by
  refine ite_parts (v := t) (L := sem ns2 m1) (H := sem ns2 m2) (fun x => ?_) (fun x => ?_) s3
  · rw [e2, sem_pre h1 dd2 hm1, s1]
  · rw [s2, e1, sem_pre h dd hl.1, sem_pre h dd hl.2.1, sem_pre h dd hl.2.2]
theorem ite_sem3 {vars : Nat} {ns ns3 dd : List Nd} (h : Inv vars ns) (e : ns3 = ns ++ dd) {a b c m3 : Nat} (hl : a < ns.length ∧ b < ns.length ∧ c < ns.length) (s : ∀ x, sem ns3 m3 x = if sem ns a x then sem ns b x else sem ns c x) : ∀ x, sem ns3 m3 x = if sem ns3 a x then sem ns3 b x else sem ns3 c x := by
  intro x
  rw [s x, e, sem_pre h dd hl.1, sem_pre h dd hl.2.1, sem_pre h dd hl.2.2]
end Go.Proofs.Ytialbhkamlfccaa.PA
/- ite: what the call comes to where a new choice is made. No condition but the hypotheses that each theorem states. -/
namespace Go.Proofs.Ytialbhkamlfccaa.PA
open Go.RowKit Go.Proofs.YtialbhkamlfccaaW.PrintWords Go.Proofs.YtialbhkamlfccaaW.PrintLast Go.Proofs.YtialbhkamlfccaaW.PrintMore Go.Proofs.Ytialbhkamlfccaa.Mp Go.Proofs.Ytialbhkamlfccaa.Dia
set_option linter.unusedVariables false
set_option linter.unusedSimpArgs false
theorem min_nat (ta tb tc : Nat) : ∃ t : Nat, (t ≤ ta ∧ t ≤ tb ∧ t ≤ tc ∧ (t = ta ∨ t = tb ∨ t = tc)) ∧ ∀ W, (Builtin.min_ #[3, 3, 3] 3 #[.int .i64 (ta : Int), .int .i64 (tb : Int), .int .i64 (tc : Int)]).run Try.prog W = .ok (.int .i64 (t : Int)) W := by
  refine ⟨min (min ta tb) tc, by omega, fun W => ?_⟩
  rw [min_three, min2_int]
  simp only [Sem.run_bind, Sem.run_pure, Result.andThen, min2_int]
  congr 2
  split <;> split <;> omega
theorem low_len {ns ns1 dd : List Nd} (hd : ns1 = ns ++ dd) {a b c : Nat} (h : a < ns.length ∧ b < ns.length ∧ c < ns.length) : a < ns1.length ∧ b < ns1.length ∧ c < ns1.length := by
  rw [hd, List.length_append]
  omega
theorem low_top {ns ns1 dd : List Nd} (hd : ns1 = ns ++ dd) {a b c t vars : Nat} (h : a < ns.length ∧ b < ns.length ∧ c < ns.length) (hp : t < vars ∧ t ≤ top ns a ∧ t ≤ top ns b ∧ t ≤ top ns c) : t < vars ∧ t ≤ top ns1 a ∧ t ≤ top ns1 b ∧ t ≤ top ns1 c := by
  rw [hd, top_pre dd h.1, top_pre dd h.2.1, top_pre dd h.2.2]
  exact hp
set_option maxHeartbeats 8000000 in
set_option maxRecDepth 100000 in
theorem ite_deep (d : Nat) (a b c v g vars most : Nat) (ok : Nat → Prop) (nb : Nat) (full : Bool) (ns : List Nd) (w0 w : World) (ih : IteIH w0 g vars most d) (h : BS w0 w ok g vars most full ns nb)
    (ha : a < ns.length) (hbl : b < ns.length) (hc : c < ns.length) (hva : v ≤ top ns a) (hvb : v ≤ top ns b) (hvc : v ≤ top ns c) (hd : vars ≤ d + 1 + v) (hnb : nb + kk (d + 1) ≤ 1000000000000)
    (ma n2 : Nat) (vs vw : Value) (D2 : DataW Unit) (f : Int → Int → Int → Option Int) (hbk : w.heap[g]? = some (.cells #[vs, vw, .map (some ma), .int .i64 vars, .int .i64 most, .bool full] 52 (0, 0)))
    (h2 : w.ownsMap Try.prog 69 (plainElem Try.prog 3) ma n2 D2) (r2 : Reads D2 f) (hf : f (a : Int) (b : Int) (c : Int) = none) (hw3 : wf3 (a : Int) (b : Int) (c : Int)) (x0 : a ≠ 0) (x1 : a ≠ 1) (x2 : b ≠ c) (x3 : ¬ (b = 1 ∧ c = 0)) :
    Calls Try.prog 36 #[.pointer (some ⟨g, 0, none⟩), .int .i64 (a : Int), .int .i64 (b : Int), .int .i64 (c : Int)] w (Res w0 w ok g vars most full ns (nb + kk (d + 1)) (kk (d + 1)) v (fun x => if sem ns a x then sem ns b x else sem ns c x)) := by
  have hbx : BS w0 (w.alloc (.cells #[.int .i64 (a : Int), .int .i64 (b : Int), .int .i64 (c : Int)] 69)).drew (fun k => ok k ∧ w0.heap.size ≤ k ∧ k < w.heap.size) g vars most full ns nb := (h.bound.alloc (.cells #[.int .i64 (a : Int), .int .i64 (b : Int), .int .i64 (c : Int)] 69)).below (Below.refl _ _).drew
  have hbn : (w.alloc (.cells #[.int .i64 (a : Int), .int .i64 (b : Int), .int .i64 (c : Int)] 69)).drew.heap[w.heap.size]? = some (.cells #[.int .i64 (a : Int), .int .i64 (b : Int), .int .i64 (c : Int)] 69) := blk_drew (heap_alloc_new w (.cells #[.int .i64 (a : Int), .int .i64 (b : Int), .int .i64 (c : Int)] 69))
  have HBN := Aside0.mk hbn
  clear hbn
  have a1 : ((a : Int) == 1) = false := by rw [beq_eq_false_iff_ne]; omega
  have a2 : ((a : Int) = 1) = False := eq_false (by omega)
  have a3 : (a = 1) = False := eq_false (by omega)
  have a4 : ((a : Int) == 0) = false := by rw [beq_eq_false_iff_ne]; omega
  have a5 : ((a : Int) = 0) = False := eq_false (by omega)
  have a6 : (a = 0) = False := eq_false (by omega)
  have b1 : ((b : Int) == (c : Int)) = false := by rw [beq_eq_false_iff_ne]; omega
  have b2 : ((b : Int) = (c : Int)) = False := eq_false (by omega)
  have b3 : (b = c) = False := eq_false (by omega)
  have u69 := Try.underlying69
  have u54 := Try.underlying54
  have hb0 := below_alloc (Below.refl w.heap.size w) (.cells #[.int .i64 (a : Int), .int .i64 (b : Int), .int .i64 (c : Int)] 69)
  have hS : ∀ W, Below (w.heap.size + 1) (w.alloc (.cells #[.int .i64 (a : Int), .int .i64 (b : Int), .int .i64 (c : Int)] 69)) W → W.cell? ⟨g, 2, none⟩ = some (.map (some ma)) ∧ W.cell? ⟨w.heap.size, 0, none⟩ = some (.int .i64 (a : Int)) ∧ W.cell? ⟨w.heap.size, 1, none⟩ = some (.int .i64 (b : Int)) ∧ W.cell? ⟨w.heap.size, 2, none⟩ = some (.int .i64 (c : Int)) ∧
      (Instr.lookup 49 (.map (some ma)) (.agg #[.int .i64 (a : Int), .int .i64 (b : Int), .int .i64 (c : Int)]) true).run Try.prog W = .ok (.tuple #[.int .i64 0, .bool false]) W := by
    intro W hW
    have hsz : (w.alloc (.cells #[.int .i64 (a : Int), .int .i64 (b : Int), .int .i64 (c : Int)] 69)).heap.size = w.heap.size + 1 := by simp
    have hW2 : Below (w.alloc (.cells #[.int .i64 (a : Int), .int .i64 (b : Int), .int .i64 (c : Int)] 69)).heap.size (w.alloc (.cells #[.int .i64 (a : Int), .int .i64 (b : Int), .int .i64 (c : Int)] 69)) W := by rw [hsz]; exact hW
    have hg1 : W.heap[g]? = _ := blk_below (blk_alloc hbk _) hW2
    have hn : W.heap[w.heap.size]? = _ := blk_below (heap_alloc_new w (.cells #[.int .i64 (a : Int), .int .i64 (b : Int), .int .i64 (c : Int)] 69)) hW2
    have hm : W.ownsMap Try.prog 69 (plainElem Try.prog 3) ma n2 D2 := (h2.alloc _).kept (grown_of_below hW2 none) (by simp)
    have hl := look_run0 W 49 69 keyed69 Try.underlying49 hm r2 hw3 _ (key69 hw3)
    rw [hf] at hl
    exact ⟨(cell_of_row _ _ 2 _ _ _ hg1).trans rfl, (cell_of_row _ _ 0 _ _ _ hn).trans rfl, (cell_of_row _ _ 1 _ _ _ hn).trans rfl, (cell_of_row _ _ 2 _ _ _ hn).trans rfl, hl⟩
  have HB := Aside0.mk hb0
  have HS := Aside0.mk hS
  have X3 := Aside0.mk x3
  have HIN := Aside0.mk h.inv
  have HBX := Aside0.mk (hbx)
  have HV := Aside0.mk (And.intro hva (And.intro hvb (And.intro hvc (And.intro hd hnb))))
  have HL := Aside0.mk (And.intro ha (And.intro hbl hc))
  have X0 := Aside0.mk (And.intro x0 x1)
  have IHA := Aside0.mk ih
  clear h hbx ha hbl hc hva hvb hvc hd hnb hbk h2 r2 hf ih hw3 hS hb0 x0 x1 x2 x3
  go_enter Try.func36, Try.ntmps36
  go_upto_block 0 with fail
  go_cut [] (fun w' => w' = w)
  case first =>
    by_cases hb : b = 1
    · subst hb
      have hc : c ≠ 0 := fun e => X3.out ⟨rfl, e⟩
      have c1 : ((c : Int) == 0) = false := by rw [beq_eq_false_iff_ne]; omega
      have c2 : ((c : Int) = 0) = False := eq_false (by omega)
      have c3 : (c = 0) = False := eq_false (by omega)
      clear hc
      go_wp2_with fail
      go_meet
      case rel => rfl
    · have c1 : ((b : Int) == 1) = false := by rw [beq_eq_false_iff_ne]; omega
      have c2 : ((b : Int) = 1) = False := eq_false (by omega)
      have c3 : (b = 1) = False := eq_false (by omega)
      go_wp2_with fail
      go_meet
      case rel => rfl
  case rest =>
    have hcut2 := hcut.symm
    subst hcut2
    clear hcut a1 a2 a3 a4 a5 a6 b1 b2 b3
    go_wp2_with fail
    go_region_held3 (fun W => W.cell? ⟨g, 2, none⟩ = some (.map (some ma)) ∧ W.cell? ⟨w.heap.size, 0, none⟩ = some (.int .i64 (a : Int)) ∧ W.cell? ⟨w.heap.size, 1, none⟩ = some (.int .i64 (b : Int)) ∧ W.cell? ⟨w.heap.size, 2, none⟩ = some (.int .i64 (c : Int)) ∧
      (Instr.lookup 49 (.map (some ma)) (.agg #[.int .i64 (a : Int), .int .i64 (b : Int), .int .i64 (c : Int)]) true).run Try.prog W = .ok (.tuple #[.int .i64 0, .bool false]) W) (exact HS.out _ (Below.refl _ _).drew) (fail)
    obtain ⟨H, hH⟩ : ∃ H, H = (w.alloc (.cells #[.int .i64 (a : Int), .int .i64 (b : Int), .int .i64 (c : Int)] 69)).drew := ⟨_, rfl⟩
    rw [← hH] at HBX HBN ⊢
    have HSZ := Aside0.mk (show H.heap.size = w.heap.size + 1 by rw [hH]; simp)
    have HBL : Aside0 (Below w.heap.size w H) := ⟨by rw [hH]; exact HB.out.drew⟩
    clear hH HB HS
    obtain ⟨A, cc, mw, ma', hbg, hC, hcc⟩ := (HBX.out.below (Below.refl _ _).drew).cells
    obtain ⟨ad, rfl, ea, _, _⟩ := at_Nd hC a HL.out.1 HL.out.1
    obtain ⟨ad2, e2, eb, _, _⟩ := at_Nd hC b HL.out.2.1 HL.out.2.1
    obtain rfl : ad = ad2 := by injection e2
    obtain ⟨ad3, e3, ec, _, _⟩ := at_Nd hC c HL.out.2.2 HL.out.2.2
    obtain rfl : ad = ad3 := by injection e3
    rw [← top_of (List.getElem?_eq_getElem HL.out.1)] at ea
    rw [← top_of (List.getElem?_eq_getElem HL.out.2.1)] at eb
    rw [← top_of (List.getElem?_eq_getElem HL.out.2.2)] at ec
    have e0 : H.drew.cell? ⟨g, 0, none⟩ = some (.slice (some ad) ns.length cc) := (cell_of_row _ _ 0 _ _ _ hbg).trans rfl
    have HE := Aside0.mk (And.intro e0 (And.intro ea (And.intro eb ec)))
    have i1 : ((a : Int) < (ns.length : Int)) = True := eq_true (by have := HL.out; omega)
    have i2 : ((b : Int) < (ns.length : Int)) = True := eq_true (by have := HL.out; omega)
    have i3 : ((c : Int) < (ns.length : Int)) = True := eq_true (by have := HL.out; omega)
    have j1 : (0 ≤ (a : Int)) = True := eq_true (by omega)
    have j2 : (0 ≤ (b : Int)) = True := eq_true (by omega)
    have j3 : (0 ≤ (c : Int)) = True := eq_true (by omega)
    have k1 : (a < ns.length) = True := eq_true HL.out.1
    have k2 : (b < ns.length) = True := eq_true HL.out.2.1
    have k3 : (c < ns.length) = True := eq_true HL.out.2.2
    obtain ⟨ta, hta⟩ : ∃ t, t = top ns a := ⟨_, rfl⟩
    obtain ⟨tb, htb⟩ : ∃ t, t = top ns b := ⟨_, rfl⟩
    obtain ⟨tc, htc⟩ : ∃ t, t = top ns c := ⟨_, rfl⟩
    rw [← hta, ← htb, ← htc] at HE
    have HT := Aside0.mk (And.intro hta (And.intro htb htc))
    obtain ⟨t, ht, hmin⟩ := min_nat ta tb tc
    have HTT := Aside0.mk ht
    clear ea eb ec e0 e2 e3 hbg hC hcc hta htb htc ht
    go_wp2_with fail
    go_region_held3 (fun W => W.cell? ⟨g, 0, none⟩ = some (.slice (some ad) ns.length cc) ∧ W.cell? (ad.add (a * 3)) = some (.int .i64 (ta : Int)) ∧ W.cell? (ad.add (b * 3)) = some (.int .i64 (tb : Int)) ∧ W.cell? (ad.add (c * 3)) = some (.int .i64 (tc : Int))) (exact HE.out) (fail)
    have HX : Aside0 (St w0 w ok g vars most (.cells #[.int .i64 (a : Int), .int .i64 (b : Int), .int .i64 (c : Int)] 69) full ns nb H.drew) := ⟨St.start (HBX.out.below (Below.refl _ _).drew) HBL.out.drew (blk_drew HBN.out)⟩
    have HP := Aside0.mk (parts_ok HBX.out.inv HL.out HTT.out HT.out X0.out.1 X0.out.2)
    have HD := Aside0.mk (show vars ≤ d + (t + 1) by have := HV.out; have := HTT.out; have := HT.out; omega)
    have HNB0 := Aside0.mk (show nb + kk d ≤ 1000000000000 by have := HV.out.2.2.2.2; rw [kk_succ] at this; omega)
    have HNB1 := Aside0.mk (show nb + kk d + kk d ≤ 1000000000000 by have := HV.out.2.2.2.2; rw [kk_succ] at this; omega)
    clear HE HBX HBN HBL i1 i2 i3 j1 j2 j3 k1 k2 k3 hmin
    go_upto_region 12 with fail
    go_cut [13] (fun v13 w' => Aside0 (Got w0 w ok g vars most (.cells #[.int .i64 (a : Int), .int .i64 (b : Int), .int .i64 (c : Int)] 69) full ns (nb + kk d) (kk d) (t + 1) (fun x => if sem ns a (set1 x t false) then sem ns b (set1 x t false) else sem ns c (set1 x t false)) v13 w'))
    case first =>
      go_wp2_with (first | (go_at_call 38; (with_reducible refine (bdd_part.calls _ _ _ g vars most (okS w ok) (nb) full (ns) w0 _ (St.bs HX.out) ?ha).mono ?_); (case ha => first | exact HL.out.1 | exact HL.out.2.1 | exact HL.out.2.2); rintro e w1 ⟨rfl, hb1⟩; have n0 := Aside0.mk (HX.out.below hb1); clear HX hb1; have HX := n0; clear n0) | (go_at_call 36; (with_reducible refine (call_ite IHA.out HX.out HL.out HP.out HD.out HNB0.out false).mono ?_); rintro e w2 ⟨val, rfl, hg⟩))
      go_meet
      case rel => exact hg
    case rest =>
      clear HX
      obtain ⟨ns1, ⟨dd, hdd⟩, hl1, hc⟩ := hcut.out
      clear hcut
      rcases hc with ⟨m1, rfl, hm1, ht1, hs1, hx1⟩ | ⟨rfl, hm1, hx1⟩
      · have HX := Aside0.mk hx1
        have HM := Aside0.mk (And.intro hm1 (And.intro ht1 hs1))
        have HL1 := Aside0.mk (low_len hdd HL.out)
        have HP1 := Aside0.mk (low_top hdd HL.out HP.out)
        have HDD := Aside0.mk (And.intro hdd hl1)
        have q0 : ((m1 : Int) < 0) = False := eq_false (by omega)
        have HIN1 := Aside0.mk hx1.1.inv
        clear hx1 hm1 ht1 hs1 hdd hl1
        go_upto_region 15 with fail
        go_cut [14] (fun v14 w' => Aside0 (Got w0 w ok g vars most (.cells #[.int .i64 (a : Int), .int .i64 (b : Int), .int .i64 (c : Int)] 69) full ns1 (nb + kk d + kk d) (kk d) (t + 1) (fun x => if sem ns1 a (set1 x t true) then sem ns1 b (set1 x t true) else sem ns1 c (set1 x t true)) v14 w'))
        case first =>
          go_wp2_with (first | (go_at_call 38; (with_reducible refine (bdd_part.calls _ _ _ g vars most (okS w ok) (nb + kk d) full (ns1) w0 _ (St.bs HX.out) ?ha).mono ?_); (case ha => first | exact HL1.out.1 | exact HL1.out.2.1 | exact HL1.out.2.2); rintro e w1 ⟨rfl, hb1⟩; have n0 := Aside0.mk (HX.out.below hb1); clear HX hb1; have HX := n0; clear n0) | (go_at_call 36; (with_reducible refine (call_ite IHA.out HX.out HL1.out HP1.out HD.out HNB1.out true).mono ?_); rintro e w2 ⟨val, rfl, hg⟩))
          go_meet
          case rel => exact hg
        case rest =>
          clear HX
          obtain ⟨ns2, ⟨dd2, hdd2⟩, hl2, hc2⟩ := hcut.out
          clear hcut
          rcases hc2 with ⟨m2, rfl, hm2, ht2, hs2, hx2⟩ | ⟨rfl, hm2, hx2⟩
          · have HX := Aside0.mk hx2
            have HLM := Aside0.mk (And.intro (show m1 < ns2.length by rw [hdd2, List.length_append]; have := HM.out.1; omega) hm2)
            have HUM := Aside0.mk (And.intro (show t + 1 ≤ top ns2 m1 by rw [hdd2, top_pre dd2 HM.out.1]; exact HM.out.2.1) ht2)
            have HS2 := Aside0.mk hs2
            have HDD2 := Aside0.mk (And.intro hdd2 hl2)
            have q1 : ((m2 : Int) < 0) = False := eq_false (by omega)
            clear hx2 hm2 ht2 hs2 hdd2 hl2
            go_upto_region 18 with fail
            go_cut [15] (fun v15 w' => Aside0 (Got w0 w ok g vars most (.cells #[.int .i64 (a : Int), .int .i64 (b : Int), .int .i64 (c : Int)] 69) full ns2 (nb + kk d + kk d) 1 t (fun y => if y t then sem ns2 m2 y else sem ns2 m1 y) v15 w'))
            case first =>
              go_wp2_with (first | (go_at_call 37; (with_reducible refine (call_put HX.out HP.out.1 HLM.out HUM.out).mono ?_); rintro e w2 ⟨val, rfl, hg⟩))
              go_meet
              case rel => exact hg
            case rest =>
              clear HX
              obtain ⟨ns3, ⟨dd3, hdd3⟩, hl3, hc3⟩ := hcut.out
              clear hcut
              have hall : ∃ dd, ns3 = ns ++ dd := ⟨dd ++ (dd2 ++ dd3), by rw [hdd3, HDD2.out.1, HDD.out.1]; simp⟩
              have hlen : ns3.length ≤ ns.length + kk (d + 1) := by have := HDD2.out.2; have := HDD.out.2; rw [kk_succ]; omega
              rcases hc3 with ⟨m3, rfl, hm3, ht3, hs3, hx3⟩ | ⟨rfl, hm3, hx3⟩
              · have hsem := ite_sem HIN.out HIN1.out HDD.out.1 HDD2.out.1 HL.out HM.out.1 HM.out.2.2 HS2.out hs3
                obtain ⟨dda, hdda⟩ := hall
                obtain ⟨vq, vwq, mq, X', hbq, hbq2, hrun, hbs, hgr, hmq⟩ := BS.ask (X := wc.drew) (hx3.1.below (Below.refl _ _).drew) (low_len hdda HL.out).1 (low_len hdda HL.out).2.1 (low_len hdda HL.out).2.2 hm3 (ite_sem3 HIN.out hdda HL.out hsem) HNB1.out
                have q2 : (0 ≤ (m3 : Int)) = True := eq_true (by omega)
                have hxb : X'.heap[w.heap.size]? = some (.cells #[.int .i64 (a : Int), .int .i64 (b : Int), .int .i64 (c : Int)] 69) := blk_grown (blk_drew hx3.2.2) hgr (fun e => by injection e with e; exact hmq.2 e.symm)
                have S1 := Aside0.mk (And.intro ((cell_of_row _ _ 2 _ _ _ hbq).trans rfl) (cells3 (blk_drew hx3.2.2)))
                have S2 := Aside0.mk (And.intro ((cell_of_row _ _ 2 _ _ _ hbq2).trans rfl) (cells3 hxb))
                have hfin : Res w0 w ok g vars most full ns (nb + kk (d + 1)) (kk (d + 1)) v (fun x => if sem ns a x then sem ns b x else sem ns c x) (.returned (.int .i64 (m3 : Int))) X' :=
                  ⟨ns3, ⟨dda, hdda⟩, hlen, Kept.of_grown hgr hx3.2.1.drew (fun k hk => by injection hk with hk; rw [← hk]; exact hmq.1), .inl ⟨m3, rfl, hm3, Nat.le_trans (by have := HV.out; have := HTT.out; have := HT.out; omega) ht3, hsem, hbs.mono (fun k hk => hk.1) (by rw [kk_succ]; omega)⟩⟩
                have HFIN := Aside0.mk hfin
                clear hfin hxb hbq hbq2 hbs hgr hmq hx3 hm3 ht3 hs3 hsem hlen hdda hdd3 hl3
                go_wp2_with fail
                go_region_held3 (fun W => W.cell? ⟨g, 2, none⟩ = some (.map (some mq)) ∧ W.cell? ⟨w.heap.size, 0, none⟩ = some (.int .i64 (a : Int)) ∧ W.cell? ⟨w.heap.size, 1, none⟩ = some (.int .i64 (b : Int)) ∧ W.cell? ⟨w.heap.size, 2, none⟩ = some (.int .i64 (c : Int))) (first | exact S1.out | exact S2.out) (fail)
                go_wp2_with fail
                go_ret
                exact HFIN.out
              · go_wp2_with fail
                go_ret
                exact hx3.out (by rw [kk_succ]; omega) hall hlen hm3
          · go_wp2_with fail
            go_ret
            exact hx2.out (by rw [kk_succ]; omega) ⟨dd ++ dd2, by rw [hdd2, HDD.out.1]; simp⟩ (by have := HDD.out.2; rw [kk_succ]; omega) hm2
      · go_wp2_with fail
        go_ret
        exact hx1.out (by rw [kk_succ]; omega) ⟨dd, hdd⟩ (by rw [kk_succ]; omega) hm1
end Go.Proofs.Ytialbhkamlfccaa.PA
/- ite: what the call comes to. No condition but the hypotheses that each theorem states. -/
namespace Go.Proofs.Ytialbhkamlfccaa.PA
open Go.RowKit Go.Proofs.YtialbhkamlfccaaW.PrintWords Go.Proofs.YtialbhkamlfccaaW.PrintLast Go.Proofs.YtialbhkamlfccaaW.PrintMore Go.Proofs.Ytialbhkamlfccaa.Mp Go.Proofs.Ytialbhkamlfccaa.Dia
set_option linter.unusedVariables false
set_option linter.unusedSimpArgs false
theorem Res.none_new {w0 w w' : World} {ok : Nat → Prop} {g vars most nb nb' K v m : Nat} {full : Bool} {ns : List Nd} {F : (Nat → Bool) → Bool} (h : BS w0 w ok g vars most full ns nb) (hb : Below w.heap.size w w') (hn : nb ≤ nb') (hm : m < ns.length) (ht : v ≤ top ns m) (hs : ∀ x, sem ns m x = F x) :
    Res w0 w ok g vars most full ns nb' K v F (.returned (.int .i64 (m : Int))) w' :=
  ⟨ns, ⟨[], by simp⟩, by omega, Kept.of_below hb ok, .inl ⟨m, rfl, hm, ht, hs, (h.below hb).mono (fun k hk => .inl hk) hn⟩⟩
theorem bdd_ite.calls (w0 : World) (g vars most : Nat) : ∀ d, IteIH w0 g vars most d := by
  intro d
  induction d with
  | zero =>
    intro a b c v nb full ns ok w h ha hb hc hva hvb hvc hd hnb
    have ha2 := top_vars h.inv ha (by omega)
    have hb2 := top_vars h.inv hb (by omega)
    have hc2 := top_vars h.inv hc (by omega)
    by_cases h1 : a = 1 ∨ b = c
    · refine (ite_first g a b c w h1).mono ?_
      rintro e w' ⟨rfl, rfl⟩
      refine Res.none_new h (Below.refl _ _) (Nat.le_add_right _ _) hb hvb (fun x => ?_)
      rcases h1 with rfl | rfl
      · rw [sem_one, if_pos rfl]
      · split <;> rfl
    · obtain rfl : a = 0 := by omega
      refine (ite_second g b c w (by omega)).mono ?_
      rintro e w' ⟨rfl, rfl⟩
      refine Res.none_new h (Below.refl _ _) (Nat.le_add_right _ _) hc hvc (fun x => ?_)
      rw [sem_zero, if_neg (by decide)]
  | succ d ih =>
    intro a b c v nb full ns ok w h ha hb hc hva hvb hvc hd hnb
    by_cases h1 : a = 1 ∨ b = c
    · refine (ite_first g a b c w h1).mono ?_
      rintro e w' ⟨rfl, rfl⟩
      refine Res.none_new h (Below.refl _ _) (Nat.le_add_right _ _) hb hvb (fun x => ?_)
      rcases h1 with rfl | rfl
      · rw [sem_one, if_pos rfl]
      · split <;> rfl
    · by_cases h0 : a = 0
      · subst h0
        refine (ite_second g b c w (by omega)).mono ?_
        rintro e w' ⟨rfl, rfl⟩
        refine Res.none_new h (Below.refl _ _) (Nat.le_add_right _ _) hc hvc (fun x => ?_)
        rw [sem_zero, if_neg (by decide)]
      · by_cases h3 : b = 1 ∧ c = 0
        · obtain ⟨rfl, rfl⟩ := h3
          refine (ite_third g a w ⟨h0, by omega⟩).mono ?_
          rintro e w' ⟨rfl, rfl⟩
          refine Res.none_new h (Below.refl _ _) (Nat.le_add_right _ _) ha hva (fun x => ?_)
          rw [sem_zero, sem_one]
          cases sem ns a x <;> rfl
        · have hsm := h.small
          obtain ⟨vs, mw, ma, n1, n2, D1, D2, f, hbk, hR, hne, m1, m2, r1, r2, r3, r4, r5⟩ := h.at_
          have hw3 : wf3 (a : Int) (b : Int) (c : Int) := ⟨wf_nat (by omega), wf_nat (by omega), wf_nat (by omega)⟩
          cases hf : f (a : Int) (b : Int) (c : Int) with
          | none => exact ite_deep d a b c v g vars most ok nb full ns w0 w ih h ha hb hc hva hvb hvc (by omega) hnb ma n2 vs _ D2 f hbk m2 r2 hf hw3 h0 (by omega) (by omega) h3
          | some n =>
            obtain ⟨i, j, k, m, e1, e2, e3, rfl, li, lj, lk, lm, hs⟩ := r3 _ _ _ _ hf
            obtain rfl : a = i := by omega
            obtain rfl : b = j := by omega
            obtain rfl : c = k := by omega
            refine (ite_asked a b c m g ma n2 vs _ vars most full D2 f w hbk m2 r2 hf hw3 h0 (by omega) (by omega) h3).mono ?_
            rintro e w' ⟨rfl, hbl⟩
            refine Res.none_new h hbl (Nat.le_add_right _ _) lm (top_ge h.inv lm (Nat.le_trans hva (top_le h.inv ha)) (fun u z x hu => ?_)) hs
            rw [hs, hs, sem_set_free h.inv ha (by omega), sem_set_free h.inv hb (by omega), sem_set_free h.inv hc (by omega)]
end Go.Proofs.Ytialbhkamlfccaa.PA
