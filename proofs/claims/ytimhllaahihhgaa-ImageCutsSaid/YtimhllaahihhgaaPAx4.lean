/- Written by this session's own program (wip/tools/pr.sh) for this claim: functions of the Go program as plain Lean functions, and that the calls come to what these say; in a Law text: the given statement. Conditions: none but the hypotheses that each theorem states. -/
import Derived.Test.YtimhllaahihhgaaPAx0
import Derived.Test.YtimhllaahihhgaaPAx2
namespace Go.Proofs.Ytimhllaahihhgaa.PA
open Go.RowKit Go.Proofs.YtimhllaahihhgaaW.PrintWords Go.Proofs.YtimhllaahihhgaaW.PrintLast Go.Proofs.YtimhllaahihhgaaW.PrintMore
attribute [local go_sem] max2_int min2_int max_two min_two max_three min_three max_four min_four   -- for this text's walks alone
set_option linter.unusedVariables false
set_option linter.unusedSimpArgs false

/-! ### image_words: function 22 -/
/-- A range over a function, its parts by letters. -/
theorem rf_named {F : Fence} {n : Nat} {P : Program} {g : Operand} {ps : Array Tmp} {assign body : Code} {Q : Exit → Act → World → Prop} {a : Act} {w : World}
    (h : ∀ (A B : Code) (T : Array Value), A = assign → B = body → T = a.tmps → (Code.rangeFunc g ps A B).wpIn F n P Q { a with tmps := T } w) : (Code.rangeFunc g ps assign body).wpIn F n P Q a w := h _ _ _ rfl rfl rfl
theorem round_named {F : Fence} {n : Nat} {P : Program} {l : Nat} {f : FuncId} {tmps : Array Value} {assign body : Code} {w : World} {R0 : Ending → World → Prop}
    (h : ∀ R : Ending → World → Prop, (∀ e W', R0 e W' → R e W') → RoundIn F n P l f tmps assign body w R) : RoundIn F n P l f tmps assign body w R0 := h R0 (fun _ _ h => h)
theorem row_slice {W : World} {base : Nat} {e : TypeId} {size : Nat} {v : Value} {k : Nat} {xs : List Value} (h : W.ownsRow base e size v k xs) : ∃ A c, v = .slice A k c := by
  rcases h.2 with ⟨rfl, h0⟩ | ⟨g, cap, cur, rfl, _⟩
  · exact ⟨none, 0, by rw [h0]⟩
  · exact ⟨_, _, rfl⟩
/-- The loop's record. -/
def wRec (fn : FuncId) (A B : Code) (T : Array Value) (D : Nat) (st : LoopState) (pend : Option Code) : Loop := { state := st, pending := pend, fn := fn, tmps := T, params := #[8], assign := A, body := B, defers := D }
/-- What stands between two rounds: the result's box owns the halfwords so far; the closure's boxes; the loop's record; the block of deferred calls. -/
structure WAt (w0 : World) (fn : FuncId) (A B : Code) (T : Array Value) (sv : Value) (S N Bo l D : Nat) (xs : List Int) (W : World) : Prop where
  box : ∃ v, W.heap[Bo]? = some (.cells #[v] 30 (0, 0)) ∧ W.ownsRow w0.heap.size 32 1 v xs.length (nums .u16 xs)
  s : W.heap[S]? = some (.cells #[sv] 29 (0, 0))
  nn : W.heap[N]? = some (.cells #[.int .i64 2] 3 (0, 0))
  L : W.heap[l]? = some (.loop (wRec fn A B T D .ready none))
  K : W.heap[D]? = some (.deferred (some []))
  below : Below w0.heap.size w0 W
set_option maxHeartbeats 2000000 in
set_option maxRecDepth 100000 in
theorem slices_Chunk.calls (A0 : Option Addr) (c0 n0 : Nat) (w : World) :
    Calls Try.prog 36 #[.slice A0 n0 c0, .int .i64 2] w fun e w' => e = .returned (.func (.func 41) #[] #[.pointer (some ⟨w.heap.size, 0, none⟩), .pointer (some ⟨w.heap.size + 1, 0, none⟩)]) ∧ w' = (w.alloc (.cells #[.slice A0 n0 c0] 29)).alloc (.cells #[.int .i64 2] 3) := by
  have hmf : ∀ (fn : Fn) (first cap : Array Value) (w : World), (Instr.makeFunc fn first cap).run Try.prog w = .ok (.func fn first cap) w := fun _ _ _ _ => rfl
  have hc : ((w.alloc (.cells #[.slice A0 n0 c0] 29)).alloc (.cells #[.int .i64 2] 3)).cell? ⟨w.heap.size + 1, 0, none⟩ = some (.int .i64 2) := by
    have h := blk_cell (heap_alloc_new (w.alloc (.cells #[.slice A0 n0 c0] 29)) (.cells #[.int .i64 2] 3)) 0
    simp at h ⊢
  go_enter Try.func36, Try.ntmps36
  go_wp2_with fail
  go_ret
  exact ⟨rfl, rfl⟩
theorem min2n (m : Nat) : min (2 : Int) (m : Int) = ((min 2 m : Nat) : Int) := by omega
set_option maxHeartbeats 4000000 in
set_option maxRecDepth 100000 in
theorem Chunk1.calls (l S N : Nat) (A0 : Option Addr) (n c0 : Nat) (hA : 0 < n → ∃ ad, A0 = some ad) (hc : n ≤ c0) (hn : n < 140737488355328) (J : Nat → World → Prop)
    (hS : ∀ i W, J i W → W.cell? ⟨S, 0, none⟩ = some (.slice A0 n c0)) (hN : ∀ i W, J i W → W.cell? ⟨N, 0, none⟩ = some (.int .i64 2)) (hD : ∀ i W, J i W → J i W.drew)
    (hY : ∀ i W ad, A0 = some ad → J i W → i < n → YieldAt Fence.wide 5 Try.prog l #[.slice (some (ad.add i)) (min 2 (n - i)) (min 2 (n - i))] W fun e W' => e = .returned (.bool true) ∧ J (i + 2) W') (W : World) (h0 : J 0 W) :
    Calls Try.prog 41 #[.func (.yield l) #[] #[], .pointer (some ⟨S, 0, none⟩), .pointer (some ⟨N, 0, none⟩)] W fun e W' => (∃ v, e = .returned v) ∧ ∃ i, n ≤ i ∧ J i W' := by
  have HJ := Aside0.mk h0
  have HS := Aside0.mk hS
  have HN := Aside0.mk hN
  have HD := Aside0.mk hD
  have HY := Aside0.mk hY
  have HC := Aside0.mk hc
  have HL := Aside0.mk hn
  have HA := Aside0.mk hA
  have hu := Try.underlying29
  clear h0 hS hN hD hY hc hn hA
  go_enter Try.func41, Try.ntmps41
  go_wp2_with fail
  go_loopg [4] (n + 1) (fun kq v4 w' => ∃ (i : Nat), v4 = .int .i64 (i : Int) ∧ Aside0 (i + kq = n + 1) ∧ Aside0 (J i w'))
  case atStart => exact ⟨0, rfl, ⟨Nat.zero_add _⟩, HJ⟩
  case round =>
    clear HJ
    obtain ⟨i, rfl, HK, HJ⟩ := hrel
    have hs := HS.out i wr HJ.out
    have hnn := HN.out i wr HJ.out
    by_cases hi : i < n
    · obtain ⟨ad, rfl⟩ := HA.out (by omega)
      have q1 : ((i : Int) < (n : Int)) = True := eq_true (by omega)
      have q2 : (i < n) = True := eq_true hi
      have g1 : (0 : Int) ≤ (i : Int) := by omega
      have g2 : (i : Int) ≤ (n : Int) := by omega
      have g3 : i ≤ n := by omega
      have g4 : i ≤ c0 := by have := HC.out; omega
      have g5 : (i : Int) ≤ (c0 : Int) := by omega
      have e1 : (c0 = i) = False := eq_false (by have := HC.out; omega)
      have hw0 := min2n (n - i)
      have HI := Aside0.mk hi
      clear hi
      go_wp2_with fail
      go_region_held3 (fun W => W.cell? ⟨S, 0, none⟩ = some (.slice (some ad) n c0) ∧ W.cell? ⟨N, 0, none⟩ = some (.int .i64 2)) (exact ⟨hs, hnn⟩) (fail)
      have HJ2 := Aside0.mk (HD.out i wr HJ.out)
      clear hs hnn HJ
      have hs := HS.out i wr.drew HJ2.out
      have hnn := HN.out i wr.drew HJ2.out
      obtain ⟨m, hm⟩ : ∃ m : Nat, m = min 2 (n - i) := ⟨_, rfl⟩
      have hif : (if ((n - i : Nat) : Int) < 2 then ((n - i : Nat) : Int) else 2) = (m : Int) := by split <;> omega
      rw [hif]
      have hm1 : 1 ≤ m := by have := HI.out; omega
      have hm2 : i + m ≤ n := by have := HI.out; omega
      have hw1 : IntKind.i64.wrap ((i : Int) + (m : Int)) = ((i + m : Nat) : Int) := by rw [i64_w]; unfold wrap64; have := HL.out; omega
      have s1 : (i : Int) ≤ ((i + m : Nat) : Int) := by omega
      have s2 : ((i + m : Nat) : Int) ≤ (c0 : Int) := by have := HC.out; omega
      have s3 : i ≤ i + m := by omega
      have s4 : i + m ≤ c0 := by have := HC.out; omega
      have s5 : (0 : Int) ≤ ((i + m : Nat) : Int) := by omega
      have e0 : (m = 0) = False := eq_false (by omega)
      have e2 : (i + m = i) = False := eq_false (by omega)
      have HM := Aside0.mk hm
      have HM1 := Aside0.mk hm1
      clear hm hif hm1 hm2 hw0
      go_upto_region 4 with fail
      refine (wpIn_wide (n := 6)).1 ?_
      obtain ⟨fn, tmps, assign, body, hy, hR⟩ := HY.out i wr.drew ad rfl HJ2.out HI.out
      rw [← HM.out] at hy
      gi_wp2
      case inl h => exact absurd h (by have := HM1.out; omega)
      refine hR.mono ?_
      rintro e W3 ⟨rfl, hJ3⟩
      clear hs hnn hy hR
      replace hJ3 := Aside0.mk hJ3
      have hnn3 := HN.out (i + 2) W3 hJ3.out
      have hw2 : IntKind.i64.wrap ((i : Int) + 2) = ((i + 2 : Nat) : Int) := by rw [i64_w]; unfold wrap64; have := HL.out; have := HI.out; omega
      gi_wp2
      go_wp2_with fail
      go_roundg (gk - 2)
      case measure => have := HK.out; have := HI.out; omega
      case rel => exact ⟨i + 2, rfl, ⟨by have := HK.out; have := HI.out; omega⟩, hJ3⟩
    · have q1 : ((i : Int) < (n : Int)) = False := eq_false (by omega)
      have q2 : (i < n) = False := eq_false hi
      go_wp2_with fail
      go_end0
      exact ⟨⟨_, rfl⟩, i, by omega, HJ.out⟩
theorem cell_of_box {W : World} {B : Nat} {v : Value} {t : TypeId} (h : W.heap[B]? = some (.cells #[v] t (0, 0))) : W.cell? ⟨B, 0, none⟩ = some v ∧ W.frozen? ⟨B, 0, none⟩ = false := by
  constructor <;> simp [World.cell?, World.frozen?, h]
theorem grownBy_put (W : World) (l : Nat) (o : Obj) : W.grownBy (W.putObj l o) (some l) :=
  ⟨rfl, rfl, rfl, by simp, fun k _ hk => World.putObj_heap_other (fun e => hk (by rw [e]))⟩
theorem grownBy_set0 (W : World) (b : Nat) (v : Value) : W.grownBy (W.setCell ⟨b, 0, none⟩ v) (some b) :=
  ⟨rfl, rfl, rfl, (KeepsWalks.setCell W _ v).size, fun k _ hk => Below.heap_setCell _ _ _ k (fun e => hk (by rw [e]))⟩
theorem row_ne {W : World} {base : Nat} {e : TypeId} {size : Nat} {v : Value} {k : Nat} {xs : List Value} (h : W.ownsRow base e size v k xs) {j : Nat} {o : Obj} (hj : W.heap[j]? = some o) (hno : ∀ cur, o ≠ .cells cur e (0, 0)) :
    v.ownBlock = none ∨ v.ownBlock ≠ some j := by
  rcases h.2 with ⟨rfl, _⟩ | ⟨g, cap, cur, rfl, _, hgb, _⟩
  · exact .inl rfl
  · refine .inr fun e' => ?_
    have : g = j := by simpa [Value.ownBlock] using e'
    subst this
    rw [hgb] at hj
    cases hj
    exact hno cur rfl
/-- Halfwords of bytes. -/
def half1 (a : Int) : Int := IntKind.u16.wrap a
def half2 (a b : Int) : Int := Go.bits .or .u16 (IntKind.u16.wrap a) (IntKind.u16.wrap (IntKind.u16.wrap b * 256))
def halvesL : List Int → List Int
  | [] => []
  | [a] => [half1 a]
  | a :: b :: t => half2 a b :: halvesL t
theorem halves_len : ∀ l : List Int, (halvesL l).length = (l.length + 1) / 2
  | [] => rfl
  | [_] => by simp [halvesL]
  | a :: b :: t => by
    have := halves_len t
    simp only [halvesL, List.length_cons]
    omega
theorem halves_append : ∀ (x y : List Int), x.length % 2 = 0 → halvesL (x ++ y) = halvesL x ++ halvesL y
  | [], _, _ => rfl
  | [_], _, h => by simp at h
  | a :: b :: t, y, h => by
    have h' : t.length % 2 = 0 := by simp at h; omega
    show half2 a b :: halvesL (t ++ y) = half2 a b :: (halvesL t ++ halvesL y)
    rw [halves_append t y h']
theorem halves_two (l : List Int) (i : Nat) (hi : i + 1 < l.length) (he : i % 2 = 0) : halvesL (l.take (i + 2)) = halvesL (l.take i) ++ [half2 (rd l (i : Int)) (rd l ((i + 1 : Nat) : Int))] := by
  have h1 : l.take (i + 2) = l.take i ++ [l[i], l[i + 1]] := by
    rw [List.take_succ_eq_append_getElem (by omega), List.take_succ_eq_append_getElem (by omega), List.append_assoc]; rfl
  rw [h1, halves_append _ _ (by rw [List.length_take]; omega)]
  simp [halvesL, rd, List.getD_eq_getElem?_getD, List.getElem?_eq_getElem hi, List.getElem?_eq_getElem (show i < l.length by omega)]
theorem halves_one (l : List Int) (i : Nat) (hi : i + 1 = l.length) (he : i % 2 = 0) : halvesL (l.take (i + 2)) = halvesL (l.take i) ++ [half1 (rd l (i : Int))] := by
  have h1 : l.take (i + 2) = l.take i ++ [l[i]] := by
    rw [List.take_of_length_le (by omega), ← List.take_succ_eq_append_getElem (by omega), List.take_of_length_le (by omega)]
  rw [h1, halves_append _ _ (by rw [List.length_take]; omega)]
  simp [halvesL, rd, List.getD_eq_getElem?_getD, List.getElem?_eq_getElem (show i < l.length by omega)]
theorem WAt.drew {w0 : World} {fn : FuncId} {A B : Code} {T : Array Value} {sv : Value} {S N Bo l D : Nat} {xs : List Int} {W : World} (h : WAt w0 fn A B T sv S N Bo l D xs W) : WAt w0 fn A B T sv S N Bo l D xs W.drew :=
  ⟨h.box, h.s, h.nn, h.L, h.K, h.below.drew⟩
set_option maxHeartbeats 4000000 in
set_option maxRecDepth 100000 in
theorem image_words.calls0 (A0 : Option Addr) (c0 : Nat) (l0 : List Int) (w : World) (hr0 : Kd.C (Kd.int .u8) w A0 l0.length l0) (hc0 : l0.length ≤ c0) (hl0 : l0.length < 140737488355328) :
    Calls Try.prog 22 #[.slice A0 l0.length c0] w fun e w' => ∃ v0_ : Value, e = .returned (v0_) ∧ Kd.R (Kd.int .u16) 32 w' w.heap.size (fun _ => True) v0_ (halvesL l0) ∧ Below w.heap.size w w' := by
  refine (callsIn_wide (n := 9)).1 ?_
  refine callsIn_of_wp_marks Try.func22 rfl trivial ?_ rfl
  simp only [Try.ntmps22, List.size_toArray, List.length_cons, List.length_nil, Nat.reduceAdd, Nat.reduceSub, Array.replicate_succ, Array.replicate_zero, List.push_toArray, List.append_toArray, List.nil_append, List.cons_append]
  refine wpIn_wide.2 ?_
  go_wp2_with (go_at_call 36; refine (slices_Chunk.calls A0 c0 l0.length _).mono ?_; rintro e w2 ⟨rfl, rfl⟩)
  refine (wpIn_wide (n := 7)).1 (rf_named ?_)
  intro A B T hA hB hT
  refine wpIn_rangeFunc ?_
  intro fn _
  obtain ⟨W0, hW0⟩ : ∃ W0, ((w.alloc (.cells #[.slice none 0 0] 30)).alloc (.cells #[.slice A0 l0.length c0] 29)).alloc (.cells #[.int .i64 2] 3) = W0 := ⟨_, rfl⟩
  have hs0 : W0.heap.size = w.heap.size + 3 := by rw [← hW0]; simp
  have hB0 : W0.heap[w.heap.size]? = some (.cells #[.slice none 0 0] 30 (0, 0)) := by
    rw [← hW0]; exact (Below.heap_alloc _ _ _ (by simp; omega)).trans ((Below.heap_alloc _ _ _ (by simp)).trans (World.alloc_heap_new w _))
  have hS0 : W0.heap[w.heap.size + 1]? = some (.cells #[.slice A0 l0.length c0] 29 (0, 0)) := by
    rw [← hW0]; refine (Below.heap_alloc _ _ _ (by simp)).trans ?_
    have := World.alloc_heap_new (w.alloc (.cells #[.slice none 0 0] 30)) (.cells #[.slice A0 l0.length c0] 29)
    simpa using this
  have hN0 : W0.heap[w.heap.size + 2]? = some (.cells #[.int .i64 2] 3 (0, 0)) := by
    rw [← hW0]
    have := World.alloc_heap_new ((w.alloc (.cells #[.slice none 0 0] 30)).alloc (.cells #[.slice A0 l0.length c0] 29)) (.cells #[.int .i64 2] 3)
    simpa using this
  have hb0 : Below w.heap.size w W0 := by rw [← hW0]; exact below_alloc (below_alloc (below_alloc (Below.refl _ w) _) _) _
  rw [hW0]
  obtain ⟨W1, hW1⟩ : ∃ W1, (W0.alloc (.deferred (some []))).alloc (.loop (wRec fn A B T W0.heap.size .ready none)) = W1 := ⟨_, rfl⟩
  have hold : ∀ k, k < W0.heap.size → W1.heap[k]? = W0.heap[k]? := fun k hk => by
    rw [← hW1]; exact (Below.heap_alloc _ _ k (by simp; omega)).trans (Below.heap_alloc _ _ k hk)
  have hb1 : Below w.heap.size w W1 := by rw [← hW1]; exact below_alloc (below_alloc hb0 _) _
  have hM : WAt w fn A B T (.slice A0 l0.length c0) (w.heap.size + 1) (w.heap.size + 2) w.heap.size (W0.heap.size + 1) W0.heap.size [] W1 :=
    ⟨⟨_, (hold w.heap.size (by omega)).trans hB0, ⟨rfl, .inl ⟨rfl, rfl⟩⟩⟩, (hold _ (by omega)).trans hS0, (hold _ (by omega)).trans hN0,
     by rw [← hW1]; have := World.alloc_heap_new (W0.alloc (.deferred (some []))) (.loop (wRec fn A B T W0.heap.size .ready none)); rwa [World.size_alloc] at this,
     by rw [← hW1]; exact (Below.heap_alloc _ _ _ (by simp)).trans (World.alloc_heap_new W0 _), hb1⟩
  refine ⟨W0.heap.size + 1, [{ target := .collected W0.heap.size, args := #[] }], W1, { target := .fn (.func 41) #[.pointer (some ⟨w.heap.size + 1, 0, none⟩), .pointer (some ⟨w.heap.size + 2, 0, none⟩)], args := #[.func (.yield (W0.heap.size + 1)) #[] #[]] }, W1, 41,
    #[.func (.yield (W0.heap.size + 1)) #[] #[], .pointer (some ⟨w.heap.size + 1, 0, none⟩), .pointer (some ⟨w.heap.size + 2, 0, none⟩)], W1, ?_, ?_, ?_, ?_, fun _ => by omega, ?_⟩
  · rw [← hW1]; exact run_enterLoop_outer _ _ _ _ _
  · simp [resolve, go_sem, hT]
  · intro f' hf'; trivial
  · simp [invoke, go_sem]
  · have hyld : ∀ i W ad, A0 = some ad → (i % 2 = 0 ∧ WAt w fn A B T (.slice A0 l0.length c0) (w.heap.size + 1) (w.heap.size + 2) w.heap.size (W0.heap.size + 1) W0.heap.size (halvesL (l0.take i)) W) → i < l0.length →
        YieldAt Fence.wide 5 Try.prog (W0.heap.size + 1) #[.slice (some (ad.add i)) (min 2 (l0.length - i)) (min 2 (l0.length - i))] W fun e W' => e = .returned (.bool true) ∧ ((i + 2) % 2 = 0 ∧ WAt w fn A B T (.slice A0 l0.length c0) (w.heap.size + 1) (w.heap.size + 2) w.heap.size (W0.heap.size + 1) W0.heap.size (halvesL (l0.take (i + 2))) W') := by
      intro i W ad hA0 ⟨he, h⟩ hi
      obtain ⟨l, hll⟩ : ∃ l, l = W0.heap.size + 1 := ⟨_, rfl⟩
      obtain ⟨D, hDD⟩ : ∃ D, D = W0.heap.size := ⟨_, rfl⟩
      rw [← hll, ← hDD] at h ⊢
      have hBl : w.heap.size ≠ l := by omega
      have hDl : D ≠ l := by omega
      have hDB : D ≠ w.heap.size := by omega
      have hSl : w.heap.size + 1 ≠ l := by omega
      have hNl : w.heap.size + 2 ≠ l := by omega
      have h0l : w.heap.size ≤ l := by omega
      clear hM hb1 hold hW1 W1 hb0 hN0 hS0 hB0
      obtain ⟨m, hm⟩ : ∃ m, m = min 2 (l0.length - i) := ⟨_, rfl⟩
      rw [← hm]
      obtain ⟨xs, hxs⟩ : ∃ xs, xs = halvesL (l0.take i) := ⟨_, rfl⟩
      rw [← hxs] at h
      have hxl : 2 * xs.length ≤ i := by rw [hxs]; have := halves_len (l0.take i); rw [List.length_take] at this; omega
      obtain ⟨v, hv, hrow⟩ := h.box
      refine ⟨fn, T.setIfInBounds 8 (.slice (some (ad.add i)) m m), A, B, by simpa [wRec] using run_yield (P := Try.prog) (args := #[.slice (some (ad.add i)) m m]) h.L rfl, round_named ?_⟩
      intro R hR
      refine roundIn_of_wpIn trivial ?_
      replace hR := Aside0.mk hR
      obtain ⟨Av, cv, rfl⟩ := row_slice hrow
      have hl : l < W.heap.size := (Array.getElem?_eq_some_iff.1 h.L).1
      have hbr := run_beginRound (P := Try.prog) h.L rfl
      obtain ⟨W2, hW2⟩ : ∃ W2, W.putObj l (.loop { wRec fn A B T D .ready none with state := .busy }) = W2 := ⟨_, rfl⟩
      rw [hW2] at hbr
      have hg2 : W.grownBy W2 (some l) := by rw [← hW2]; exact grownBy_put _ _ _
      have hv2 : W2.heap[w.heap.size]? = some (.cells #[.slice Av xs.length cv] 30 (0, 0)) := by rw [← hW2]; exact (World.putObj_heap_other hBl).trans hv
      have hK2 : W2.heap[D]? = some (.deferred (some [])) := by rw [← hW2]; exact (World.putObj_heap_other hDl).trans h.K
      have hS2 : W2.heap[w.heap.size + 1]? = some (.cells #[.slice A0 l0.length c0] 29 (0, 0)) := by rw [← hW2]; exact (World.putObj_heap_other hSl).trans h.s
      have hN2 : W2.heap[w.heap.size + 2]? = some (.cells #[.int .i64 2] 3 (0, 0)) := by rw [← hW2]; exact (World.putObj_heap_other hNl).trans h.nn
      have hL2 : W2.heap[l]? = some (.loop { wRec fn A B T D .ready none with state := .busy }) := by rw [← hW2]; exact World.putObj_heap_same hl
      have hrow2 : W2.ownsRow w.heap.size 32 1 (.slice Av xs.length cv) xs.length (nums .u16 xs) := hrow.kept hg2 (row_ne hrow h.L (fun cur e => by cases e))
      have hb2 : Below w.heap.size w W2 := h.below.grown hg2 h.below.size (fun k e => by cases e; exact h0l)
      obtain ⟨hc2, hf2⟩ := cell_of_box hv2
      have hBlt : w.heap.size < W2.heap.size := (Array.getElem?_eq_some_iff.1 hv2).1
      have hl2 : l < W2.heap.size := (Array.getElem?_eq_some_iff.1 hL2).1
      have hDlt : D < W2.heap.size := (Array.getElem?_eq_some_iff.1 hK2).1
      have hSlt : w.heap.size + 1 < W2.heap.size := (Array.getElem?_eq_some_iff.1 hS2).1
      have hNlt : w.heap.size + 2 < W2.heap.size := (Array.getElem?_eq_some_iff.1 hN2).1
      have ne_of : ∀ {j : Nat} {o : Obj}, W2.heap[j]? = some o → (∀ cur, o ≠ .cells cur 32 (0, 0)) → some j ≠ (Value.slice Av xs.length cv).ownBlock := fun hj hno => by
        rcases row_ne hrow2 hj hno with e | e
        · rw [e]; simp
        · exact fun e' => e e'.symm
      clear hW2
      obtain ⟨ad', ea, hx0⟩ := Kd.at_int hr0 (i : Int) (by omega) (by omega)
      rw [hA0] at ea
      obtain rfl := Option.some.inj ea
      replace hx0 : W2.cell? (ad.add i) = some (.int .u8 (rd l0 (i : Int))) := pw_cell_below hb2 hx0
      obtain ⟨x0, hx0e⟩ : ∃ x, x = rd l0 (i : Int) := ⟨_, rfl⟩
      rw [← hx0e] at hx0
      have hu32 := Try.underlying32
      have hu30 := Try.underlying30
      obtain ⟨i0, hinf, hz0, hz1, hz2⟩ := info_parts (P := Try.prog) (e := 32) (z := .int .u16 0) (size := 1) (bytes := 2) (by kernel_rfl)
      have HINF := Aside0.mk (And.intro hinf (And.intro hz0 (And.intro hz1 hz2)))
      clear hinf hz0 hz1 hz2
      have hu5 := Try.underlying5
      rw [hA, hT]
      have HL0 := Aside0.mk hl0
      have HT := Aside0.mk hT
      have HBB := Aside0.mk hB
      have HAA := Aside0.mk hA
      have Hll := Aside0.mk hll
      have HDD := Aside0.mk hDD
      have HXS := Aside0.mk hxs
      have HX0 := Aside0.mk hx0e
      have HS0 := Aside0.mk hs0
      have HE := Aside0.mk he
      have HA0 := Aside0.mk hA0
      have Hrow2 := Aside0.mk hrow2
      have Hb2 := Aside0.mk hb2
      have HL2 := Aside0.mk hL2
      have HK2 := Aside0.mk hK2
      have HS2 := Aside0.mk hS2
      have HN2 := Aside0.mk hN2
      have HV2 := Aside0.mk hv2
      have HNE := Aside0.mk @ne_of
      have HXL := Aside0.mk hxl
      have HR0 := Aside0.mk hr0
      have HBl := Aside0.mk hBl
      have HDl := Aside0.mk hDl
      have HDB := Aside0.mk hDB
      have HSl := Aside0.mk hSl
      have HNl := Aside0.mk hNl
      have H0l := Aside0.mk h0l
      have HI := Aside0.mk hi
      replace hBlt := Aside0.mk hBlt
      replace hl2 := Aside0.mk hl2
      replace hDlt := Aside0.mk hDlt
      replace hSlt := Aside0.mk hSlt
      replace hNlt := Aside0.mk hNlt
      clear hl0 hT hB hA hll hDD hxs hx0e hs0 he hA0 hrow2 hb2 hL2 hK2 hS2 hN2 hv2 ne_of hxl hr0 hBl hDl hDB hSl hNl h0l hrow hv hg2 hW0 h
      by_cases h2 : i + 1 < l0.length
      · have hm2 : m = 2 := by omega
        have hr0 := HR0.out
        have hb2 := Hb2.out
        have hA0 := HA0.out
        obtain ⟨ad', ea, hx1⟩ := Kd.at_int hr0 ((i + 1 : Nat) : Int) (by omega) (by omega)
        rw [hA0] at ea
        obtain rfl := Option.some.inj ea
        replace hx1 : W2.cell? ((ad.add i).add 1) = some (.int .u8 (rd l0 ((i + 1 : Nat) : Int))) := by
          rw [Addr.add_add]; exact pw_cell_below hb2 hx1
        replace hx1 : W2.cell? ⟨(ad.add i).block, (ad.add i).off + 1, none⟩ = some (.int .u8 (rd l0 ((i + 1 : Nat) : Int))) := hx1
        obtain ⟨x1, hx1e⟩ : ∃ x, x = rd l0 ((i + 1 : Nat) : Int) := ⟨_, rfl⟩
        rw [← hx1e] at hx1
        subst hm2
        have HX1 := Aside0.mk hx1e
        have H2 := Aside0.mk h2
        clear hr0 hb2 hA0 hx1e h2 hm
        gi_wp2_with (rw [Oper.semAt_eq _ _ _ (fun c h => by cases h)]; go_simp; try go_bits)
        rw [HBB.out]
        gi_wp2_with (first | (gi_at_builtin; refine wpListIn_append_own _ rfl _ _ 30 rfl w.heap.size 32 i0 (.int .u16 0) 1 2 Try.underlying30 HINF.out.1 HINF.out.2.1 HINF.out.2.2.1 HINF.out.2.2.2 rfl (by decide) _ _ _ rfl (Hrow2.out.alloc _) ⟨W2.heap.size, 0, none⟩ 1 1 [.int .u16 (half2 x0 x1)] rfl rfl (cell_one_new _ _ _) (by simp [Value.oneCell']) ?b1 ?b2 ?b3 ?_; (case b1 => have := HXL.out; have := HI.out; have := HL0.out; simp only [maxLen]; omega); (case b2 => have := HXL.out; have := HI.out; have := HL0.out; omega); (case b3 => have := Hb2.out.size; simp; omega); intro v' w3 hown' hg3 hnil3; have hg3' := Aside0.mk hg3; have hown := Aside0.mk hown'; have hv3 : w3.heap[w.heap.size]? = some (.cells #[.slice Av xs.length cv] 30 (0, 0)) := (hg3.block w.heap.size (by have := hBlt.out; simp; omega) (HNE.out HV2.out (fun cur e => by cases e))).trans ((Below.heap_alloc _ _ w.heap.size hBlt.out).trans HV2.out); have hcf3 := cell_of_box hv3; replace hv3 := Aside0.mk hv3; obtain ⟨hc3, hf3⟩ := hcf3; obtain ⟨Av', cv', rfl⟩ := row_slice hown'; clear hg3 hown' hnil3 hc2 hf2 hx0 hx1; simp only [Act.put, List.setIfInBounds_toArray, List.set_cons_succ, List.set_cons_zero]) | (rw [Oper.semAt_eq _ _ _ (fun c h => by cases h)]; go_simp; try go_bits))
        have hgo : (W2.alloc (.cells #[.int .u16 (half2 x0 x1)] 32)).grownBy w3 (Value.slice Av xs.length cv).ownBlock := hg3'.out
        have hL3 : w3.heap[l]? = some (.loop { wRec fn A B T D .ready none with state := .busy }) := (hgo.block l (by have := hl2.out; simp; omega) (HNE.out HL2.out (fun cur e => by cases e))).trans ((Below.heap_alloc _ _ l hl2.out).trans HL2.out)
        have hK3 : w3.heap[D]? = some (.deferred (some [])) := (hgo.block D (by have := hDlt.out; simp; omega) (HNE.out HK2.out (fun cur e => by cases e))).trans ((Below.heap_alloc _ _ D hDlt.out).trans HK2.out)
        have hS3 : w3.heap[w.heap.size + 1]? = some (.cells #[.slice A0 l0.length c0] 29 (0, 0)) := (hgo.block _ (by have := hSlt.out; simp; omega) (HNE.out HS2.out (fun cur e => by cases e))).trans ((Below.heap_alloc _ _ _ hSlt.out).trans HS2.out)
        have hN3 : w3.heap[w.heap.size + 2]? = some (.cells #[.int .i64 2] 3 (0, 0)) := (hgo.block _ (by have := hNlt.out; simp; omega) (HNE.out HN2.out (fun cur e => by cases e))).trans ((Below.heap_alloc _ _ _ hNlt.out).trans HN2.out)
        obtain ⟨w4, hw4⟩ : ∃ w4, w3.setCell ⟨w.heap.size, 0, none⟩ (.slice Av' (xs.length + 1) cv') = w4 := ⟨_, rfl⟩
        rw [hw4]
        have hg4 : w3.grownBy w4 (some w.heap.size) := by rw [← hw4]; exact grownBy_set0 _ _ _
        have hv4 : w4.heap[w.heap.size]? = some (.cells #[.slice Av' (xs.length + 1) cv'] 30 (0, 0)) := by rw [← hw4]; exact blk_put hv3.out 0 _ rfl
        have hL4 := (hg4.block l (Array.getElem?_eq_some_iff.1 hL3).1 (fun e => HBl.out (by cases e; rfl))).trans hL3
        have hK4 := (hg4.block D (Array.getElem?_eq_some_iff.1 hK3).1 (fun e => HDB.out (by cases e; rfl))).trans hK3
        have hS4 := (hg4.block _ (Array.getElem?_eq_some_iff.1 hS3).1 (fun e => by injection e; omega)).trans hS3
        have hN4 := (hg4.block _ (Array.getElem?_eq_some_iff.1 hN3).1 (fun e => by injection e; omega)).trans hN3
        have hrow4 := hown.out.kept hg4 (row_ne hown.out hv3.out (fun cur e => by cases e))
        have hl4 : l < w4.heap.size := (Array.getElem?_eq_some_iff.1 hL4).1
        have hb3 : Below w.heap.size w w3 := (Hb2.out.alloc Hb2.out.size _).grown hgo (by have := Hb2.out.size; simp; omega) (fun k e => (Hrow2.out.lt k e).1)
        have hb4 : Below w.heap.size w w4 := hb3.grown hg4 hb3.size (fun k e => by cases e; exact Nat.le_refl _)
        clear hw4
        have hrow5 := hrow4.kept (grownBy_put w4 l (.loop { { wRec fn A B T D .ready none with state := .busy } with state := if (none : Option Code).isNone then .ready else .done, pending := none })) (row_ne hrow4 hL4 (fun cur e => by cases e))
        have hstep := halves_two l0 i H2.out HE.out
        rw [← HXS.out, ← HX0.out, ← HX1.out] at hstep
        refine ⟨_, _, run_endRound none hL4, hR.out _ _ ⟨rfl, by have := HE.out; omega, ⟨⟨_, (World.putObj_heap_other HBl.out).trans hv4, ?_⟩, (World.putObj_heap_other HSl.out).trans hS4, (World.putObj_heap_other HNl.out).trans hN4, World.putObj_heap_same hl4, (World.putObj_heap_other HDl.out).trans hK4, hb4.grown (grownBy_put _ _ _) hb4.size (fun k e => by cases e; exact H0l.out)⟩⟩⟩
        rw [hstep, List.length_append]
        simpa [nums] using hrow5
      · have hm1 : m = 1 := by omega
        subst hm1
        have H2 := Aside0.mk h2
        clear h2 hm
        gi_wp2_with (rw [Oper.semAt_eq _ _ _ (fun c h => by cases h)]; go_simp; try go_bits)
        rw [HBB.out]
        gi_wp2_with (first | (gi_at_builtin; refine wpListIn_append_own _ rfl _ _ 30 rfl w.heap.size 32 i0 (.int .u16 0) 1 2 Try.underlying30 HINF.out.1 HINF.out.2.1 HINF.out.2.2.1 HINF.out.2.2.2 rfl (by decide) _ _ _ rfl (Hrow2.out.alloc _) ⟨W2.heap.size, 0, none⟩ 1 1 [.int .u16 (half1 x0)] rfl rfl (cell_one_new _ _ _) (by simp [Value.oneCell']) ?b1 ?b2 ?b3 ?_; (case b1 => have := HXL.out; have := HI.out; have := HL0.out; simp only [maxLen]; omega); (case b2 => have := HXL.out; have := HI.out; have := HL0.out; omega); (case b3 => have := Hb2.out.size; simp; omega); intro v' w3 hown' hg3 hnil3; have hg3' := Aside0.mk hg3; have hown := Aside0.mk hown'; have hv3 : w3.heap[w.heap.size]? = some (.cells #[.slice Av xs.length cv] 30 (0, 0)) := (hg3.block w.heap.size (by have := hBlt.out; simp; omega) (HNE.out HV2.out (fun cur e => by cases e))).trans ((Below.heap_alloc _ _ w.heap.size hBlt.out).trans HV2.out); have hcf3 := cell_of_box hv3; replace hv3 := Aside0.mk hv3; obtain ⟨hc3, hf3⟩ := hcf3; obtain ⟨Av', cv', rfl⟩ := row_slice hown'; clear hg3 hown' hnil3 hc2 hf2 hx0; simp only [Act.put, List.setIfInBounds_toArray, List.set_cons_succ, List.set_cons_zero]) | (rw [Oper.semAt_eq _ _ _ (fun c h => by cases h)]; go_simp; try go_bits))
        have hgo : (W2.alloc (.cells #[.int .u16 (half1 x0)] 32)).grownBy w3 (Value.slice Av xs.length cv).ownBlock := hg3'.out
        have hL3 : w3.heap[l]? = some (.loop { wRec fn A B T D .ready none with state := .busy }) := (hgo.block l (by have := hl2.out; simp; omega) (HNE.out HL2.out (fun cur e => by cases e))).trans ((Below.heap_alloc _ _ l hl2.out).trans HL2.out)
        have hK3 : w3.heap[D]? = some (.deferred (some [])) := (hgo.block D (by have := hDlt.out; simp; omega) (HNE.out HK2.out (fun cur e => by cases e))).trans ((Below.heap_alloc _ _ D hDlt.out).trans HK2.out)
        have hS3 : w3.heap[w.heap.size + 1]? = some (.cells #[.slice A0 l0.length c0] 29 (0, 0)) := (hgo.block _ (by have := hSlt.out; simp; omega) (HNE.out HS2.out (fun cur e => by cases e))).trans ((Below.heap_alloc _ _ _ hSlt.out).trans HS2.out)
        have hN3 : w3.heap[w.heap.size + 2]? = some (.cells #[.int .i64 2] 3 (0, 0)) := (hgo.block _ (by have := hNlt.out; simp; omega) (HNE.out HN2.out (fun cur e => by cases e))).trans ((Below.heap_alloc _ _ _ hNlt.out).trans HN2.out)
        obtain ⟨w4, hw4⟩ : ∃ w4, w3.setCell ⟨w.heap.size, 0, none⟩ (.slice Av' (xs.length + 1) cv') = w4 := ⟨_, rfl⟩
        rw [hw4]
        have hg4 : w3.grownBy w4 (some w.heap.size) := by rw [← hw4]; exact grownBy_set0 _ _ _
        have hv4 : w4.heap[w.heap.size]? = some (.cells #[.slice Av' (xs.length + 1) cv'] 30 (0, 0)) := by rw [← hw4]; exact blk_put hv3.out 0 _ rfl
        have hL4 := (hg4.block l (Array.getElem?_eq_some_iff.1 hL3).1 (fun e => HBl.out (by cases e; rfl))).trans hL3
        have hK4 := (hg4.block D (Array.getElem?_eq_some_iff.1 hK3).1 (fun e => HDB.out (by cases e; rfl))).trans hK3
        have hS4 := (hg4.block _ (Array.getElem?_eq_some_iff.1 hS3).1 (fun e => by injection e; omega)).trans hS3
        have hN4 := (hg4.block _ (Array.getElem?_eq_some_iff.1 hN3).1 (fun e => by injection e; omega)).trans hN3
        have hrow4 := hown.out.kept hg4 (row_ne hown.out hv3.out (fun cur e => by cases e))
        have hl4 : l < w4.heap.size := (Array.getElem?_eq_some_iff.1 hL4).1
        have hb3 : Below w.heap.size w w3 := (Hb2.out.alloc Hb2.out.size _).grown hgo (by have := Hb2.out.size; simp; omega) (fun k e => (Hrow2.out.lt k e).1)
        have hb4 : Below w.heap.size w w4 := hb3.grown hg4 hb3.size (fun k e => by cases e; exact Nat.le_refl _)
        clear hw4
        have hrow5 := hrow4.kept (grownBy_put w4 l (.loop { { wRec fn A B T D .ready none with state := .busy } with state := if (none : Option Code).isNone then .ready else .done, pending := none })) (row_ne hrow4 hL4 (fun cur e => by cases e))
        have hstep := halves_one l0 i (by have := H2.out; have := HI.out; omega) HE.out
        rw [← HXS.out, ← HX0.out] at hstep
        refine ⟨_, _, run_endRound none hL4, hR.out _ _ ⟨rfl, by have := HE.out; omega, ⟨⟨_, (World.putObj_heap_other HBl.out).trans hv4, ?_⟩, (World.putObj_heap_other HSl.out).trans hS4, (World.putObj_heap_other HNl.out).trans hN4, World.putObj_heap_same hl4, (World.putObj_heap_other HDl.out).trans hK4, hb4.grown (grownBy_put _ _ _) hb4.size (fun k e => by cases e; exact H0l.out)⟩⟩⟩
        rw [hstep, List.length_append]
        simpa [nums] using hrow5
    refine (callsIn_wide (n := 6)).2 ((Chunk1.calls (W0.heap.size + 1) (w.heap.size + 1) (w.heap.size + 2) A0 l0.length c0 (fun h => by obtain ⟨ad, e, _⟩ := Kd.at_int hr0 0 (by omega) (by omega); exact ⟨ad, e⟩) hc0 hl0
      (fun i W => i % 2 = 0 ∧ WAt w fn A B T (.slice A0 l0.length c0) (w.heap.size + 1) (w.heap.size + 2) w.heap.size (W0.heap.size + 1) W0.heap.size (halvesL (l0.take i)) W)
      (fun i W h => (cell_of_box h.2.s).1) (fun i W h => (cell_of_box h.2.nn).1) (fun i W h => ⟨h.1, h.2.drew⟩) hyld W1 ⟨rfl, by rw [show halvesL (l0.take 0) = [] by simp [halvesL]]; exact hM⟩).mono ?_)
    rintro e W2 ⟨⟨v0, rfl⟩, i, hi, he, h2⟩
    rw [List.take_of_length_le hi] at h2
    obtain ⟨v, hv, hrow⟩ := h2.box
    obtain ⟨Av, cv, hvv⟩ := row_slice hrow
    subst hvv
    have hend := run_endLoop (P := Try.prog) h2.L (by simp [wRec])
    obtain ⟨W3, hW3⟩ : ∃ W3, W2.putObj (W0.heap.size + 1) (.loop { wRec fn A B T W0.heap.size .ready none with state := .exhausted }) = W3 := ⟨_, rfl⟩
    rw [hW3] at hend
    have hg3 : W2.grownBy W3 (some (W0.heap.size + 1)) := by rw [← hW3]; exact grownBy_put _ _ _
    have hv3 : W3.heap[w.heap.size]? = some (.cells #[.slice Av (halvesL l0).length cv] 30 (0, 0)) := by rw [← hW3]; exact (World.putObj_heap_other (by omega)).trans hv
    have hK3 : W3.heap[W0.heap.size]? = some (.deferred (some [])) := by rw [← hW3]; exact (World.putObj_heap_other (by omega)).trans h2.K
    have hrow3 := hrow.kept hg3 (row_ne hrow h2.L (fun cur e => by cases e))
    have hb3 : Below w.heap.size w W3 := h2.below.grown hg3 h2.below.size (fun k e => by cases e; omega)
    obtain ⟨hc3, hf3⟩ := cell_of_box hv3
    have hu30 := Try.underlying30
    have hrow4 := hrow3.kept (grownBy_put W3 W0.heap.size (.deferred none)) (row_ne hrow3 hK3 (fun cur e => by cases e))
    have hb4 := Aside0.mk (hb3.grown (grownBy_put W3 W0.heap.size (.deferred none)) hb3.size (fun k e => by cases e; omega))
    have hR4 := Aside0.mk (Kd.R_of_own (enc := Value.int .u16) (h1 := fun _ => rfl) (ok := fun _ => True) hrow4 (fun _ _ => trivial))
    replace hK3 := Aside0.mk hK3
    clear hW3 hrow hrow3 hrow4 hb3 hv3 hv h2 hg3 hyld hM hold hb1 hb0 hB0 hS0 hN0 hA hB
    refine ⟨none, W3, hend, ?_⟩
    clear hend hs0 hW0 hW1
    subst hT
    go_wp2_with fail
    refine ⟨by simp, .inl ⟨_, _, rfl, run_takeDeferred hK3.out, ?_⟩⟩
    exact ⟨_, results_tmp rfl _ _ _, .slice Av (halvesL l0).length cv, rfl, hR4.out, hb4.out⟩
/-- What words tells. -/
def image_words.f (l0 : List Int) : Option (List Int) := if l0.length < 140737488355328 then some (halvesL l0) else none
theorem image_words.calls (A0 : Option Addr) (c0 : Nat) (l0 : List Int) (r : List Int) (w : World) (hr0 : Kd.C (Kd.int .u8) w A0 l0.length l0) (hc0 : l0.length ≤ c0) (h : image_words.f l0 = some r) :
    Calls Try.prog 22 #[.slice A0 l0.length c0] w fun e w' => ∃ v0_ : Value, e = .returned (v0_) ∧ Kd.R (Kd.int .u16) 32 w' w.heap.size (fun _ => True) v0_ r ∧ Below w.heap.size w w' := by
  unfold image_words.f at h
  by_cases c : l0.length < 140737488355328
  · rw [if_pos c] at h
    obtain rfl := Option.some.inj h
    exact image_words.calls0 A0 c0 l0 w hr0 hc0 c
  · rw [if_neg c] at h
    cases h

/-! ### image_Words: function 10 -/
def image_Words.f (l0 : List Int) : Option (List Int) := (image_words.f l0).bind fun t139 => (some t139)
set_option maxHeartbeats 8000000 in
set_option maxRecDepth 100000 in
theorem image_Words.calls (A0 : Option Addr) (c0 : Nat) (l0 : List Int) (r : List Int) (w : World) (hr0 : Kd.C (Kd.int .u8) w A0 l0.length l0) (hc0 : l0.length ≤ c0) (h : image_Words.f l0 = some r) :
    Calls Try.prog 10 #[.slice A0 l0.length c0] w fun e w' => ∃ v0_ : Value, e = .returned (v0_) ∧ Kd.R (Kd.int .u16) 32 w' w.heap.size (fun _ => True) v0_ r ∧ Below w.heap.size w w' := by
  have HR0 := Aside0.mk hr0
  have HC0 := Aside0.mk hc0
  clear hr0 hc0
  have HB := Aside0.mk (Below.refl w.heap.size w)
  have H : ((image_words.f l0).bind fun t139 => (some t139)) = some r := h
  clear h
  replace H := Option.bind_eq_some_iff.mp H
  obtain ⟨t139, A20, H⟩ := H
  replace H : (some t139) = some r := H
  have A2 := Aside0.mk A20
  clear A20
  obtain rfl := Option.some.inj H
  go_enter Try.func10, Try.ntmps10
  go_wp2_with (first | ((with_reducible refine gate_callee (f := 22) rfl ?_); refine goesL_ (some 4) rfl rfl Try.func22 (by kernel_rfl) rfl #[.slice A0 l0.length c0] rfl (by (try simp only [List.map_toArray, List.map_cons, List.map_nil]); first | done | rfl | (simp only [List.length_drop, List.length_take]; rfl)) ?_; (with_reducible refine (image_words.calls _ _ l0 t139 _ ?side1 ?side2 A2.out).mono ?_); (case side1 => repeat (first | exact HR0.out | (with_reducible refine Kd.C_alloc ?_ _) | (with_reducible refine Kd.C_drewN ?_ _) | (with_reducible refine Kd.C_drew ?_))); (case side2 => exact HC0.out); rintro e w3 ⟨v140, rfl, ho0, hb⟩; refine ⟨_, rfl, ?_⟩; have n0_ := Aside0.mk (Kd.R_lower ho0 (below_size (by repeat (first | (with_reducible first | exact HB.out | apply below_alloc | apply pw_below_drewN | apply below_drew1) | exact HB.out)))); have n1_ := Aside0.mk (below_step (by repeat (first | (with_reducible first | exact HB.out | apply below_alloc | apply pw_below_drewN | apply below_drew1) | exact HB.out)) hb); clear HB; have HO141 := n0_; have HB := n1_; clear n0_ n1_; (try clear hb); (try clear hb2); (try clear hk); (try clear hi); (try clear ho0)))
  go_ret
  exact ⟨_, by first | rfl | (simp [errW_none, errW_some] <;> rfl) | (simp [*, errW_none, errW_some] <;> rfl), by (with_reducible repeat (first | apply Kd.R_alloc | apply Kd.R_drewN | apply Kd.R_drew)); exact HO141.out, by repeat (first | (with_reducible first | exact HB.out | apply below_alloc | apply pw_below_drewN | apply below_drew1) | exact HB.out)⟩

/-! ### bautalaw03_ImageWords: function 4 -/
def bautalaw03_ImageWords.l0 : Nat → List Int → List Int → Int → Option (Bool)
  | 0, _, _, _ => none
  | k + 1, x0, x3, x4 => if x4 < (x0.length : Int) then (if 0 ≤ (wrap64 (Int.tdiv x4 2)) then (if (wrap64 (Int.tdiv x4 2)) < (x3.length : Int) then (if 0 ≤ (IntKind.u64.wrap (wrap64 (8 * (Int.tmod x4 2)))) then (if 0 ≤ x4 then (if ((shr .u16 (rd x3 (wrap64 (Int.tdiv x4 2))) (IntKind.u64.wrap (wrap64 (8 * (Int.tmod x4 2))))) % 256) = (rd x0 x4) then (bautalaw03_ImageWords.l0 k x0 x3 (wrap64 (x4 + 1))) else (some false)) else (none)) else (none)) else (none)) else (none)) else (if ((x0.length : Int) % 2) = 0 then ((bautalaw03_lives.f).bind fun t153 => (some t153)) else (if 0 ≤ (wrap64 ((x3.length : Int) - 1)) then (if (wrap64 ((x3.length : Int) - 1)) < (x3.length : Int) then (if (rd x3 (wrap64 ((x3.length : Int) - 1))) < 256 then ((bautalaw03_lives.f).bind fun t155 => (some t155)) else (some false)) else (none)) else (none)))
def bautalaw03_ImageWords.f (k : Nat) (l0 : List Int) : Option (Bool) := (some (([] : List Int) : List Int)).bind fun y142 => (if y142.length + l0.length < 140737488355328 then ((image_Words.f (y142 ++ l0)).bind fun t148 => (if (t148.length : Int) = (wrap64 (Int.tdiv (wrap64 ((l0.length : Int) + 1)) 2)) then (bautalaw03_ImageWords.l0 k l0 t148 0) else (some false))) else (none))
theorem bautalaw03_ImageWords.mono_l : ∀ k, (∀ y0 y1 y2, LeO (bautalaw03_ImageWords.l0 k y0 y1 y2) (bautalaw03_ImageWords.l0 (k + 1) y0 y1 y2))
  | 0 => fun _ _ _ r h => by simp [bautalaw03_ImageWords.l0] at h
  | k + 1 => by
    have ih0 := bautalaw03_ImageWords.mono_l k
    · intro y0 y1 y2
      unfold bautalaw03_ImageWords.l0
      repeat' first
      | (with_reducible exact ih0 _ _ _)
      | (with_reducible exact LeO.refl _)
      | (with_reducible exact LeO.none _)
      | (with_reducible refine LeO.ite ?_ ?_)
      | (with_reducible refine LeO.bind ?_ (fun _ => ?_))
      | exact ih0 _ _ _
      | exact LeO.none _
      | refine LeO.ite ?_ ?_
      | refine LeO.bind ?_ (fun _ => ?_)
theorem bautalaw03_ImageWords.mono : ∀ a0 k, LeO (bautalaw03_ImageWords.f k a0) (bautalaw03_ImageWords.f (k + 1) a0) := by
  intro a0 k
  have ih0 := bautalaw03_ImageWords.mono_l k
  unfold bautalaw03_ImageWords.f
  repeat' first
      | (with_reducible exact ih0 _ _ _)
      | (with_reducible exact LeO.refl _)
      | (with_reducible exact LeO.none _)
      | (with_reducible refine LeO.ite ?_ ?_)
      | (with_reducible refine LeO.bind ?_ (fun _ => ?_))
      | exact ih0 _ _ _
      | exact LeO.none _
      | refine LeO.ite ?_ ?_
      | refine LeO.bind ?_ (fun _ => ?_)
set_option maxHeartbeats 8000000 in
set_option maxRecDepth 100000 in
theorem bautalaw03_ImageWords.calls (k : Nat) (A0 : Option Addr) (c0 : Nat) (l0 : List Int) (r : Bool) (w : World) (hr0 : Kd.C (Kd.int .u8) w A0 l0.length l0) (hc0 : l0.length ≤ c0) (h : bautalaw03_ImageWords.f k l0 = some r) :
    Calls Try.prog 4 #[.slice A0 l0.length c0] w fun e w' => e = .returned (.bool r) ∧ Below w.heap.size w w' := by
  have HR0 := Aside0.mk hr0
  have HC0 := Aside0.mk hc0
  clear hr0 hc0
  have HB := Aside0.mk (Below.refl w.heap.size w)
  have H : ((some (([] : List Int) : List Int)).bind fun y142 => (if y142.length + l0.length < 140737488355328 then ((image_Words.f (y142 ++ l0)).bind fun t148 => (if (t148.length : Int) = (wrap64 (Int.tdiv (wrap64 ((l0.length : Int) + 1)) 2)) then (bautalaw03_ImageWords.l0 k l0 t148 0) else (some false))) else (none))) = some r := h
  clear h
  obtain ⟨y142, hy142⟩ : ∃ y_ : List Int, y_ = (([] : List Int)) := ⟨_, rfl⟩
  replace H : (if y142.length + l0.length < 140737488355328 then ((image_Words.f (y142 ++ l0)).bind fun t148 => (if (t148.length : Int) = (wrap64 (Int.tdiv (wrap64 ((l0.length : Int) + 1)) 2)) then (bautalaw03_ImageWords.l0 k l0 t148 0) else (some false))) else (none)) = some r := by first | (rw [hy142]; with_reducible exact H) | (have H2_ := (Option.bind_some _ _).symm.trans H; rw [hy142]; with_reducible exact H2_) | (have H2_ := (Option.bind_some _ _).symm.trans H; with_reducible exact H2_) | with_reducible exact H | (rw [hy142]; exact H) | exact H
  have Ny142 := Aside0.mk hy142
  clear hy142
  by_cases c2 : y142.length + l0.length < 140737488355328
  · rw [if_pos c2] at H
    have LMc2 := Aside0.mk c2
    clear c2
    obtain ⟨y145, hy145⟩ : ∃ y_ : List Int, y_ = (y142 ++ l0) := ⟨_, rfl⟩
    replace H : ((image_Words.f y145).bind fun t148 => (if (t148.length : Int) = (wrap64 (Int.tdiv (wrap64 ((l0.length : Int) + 1)) 2)) then (bautalaw03_ImageWords.l0 k l0 t148 0) else (some false))) = some r := by first | (rw [hy145]; with_reducible exact H) | (have H2_ := (Option.bind_some _ _).symm.trans H; rw [hy145]; with_reducible exact H2_) | (have H2_ := (Option.bind_some _ _).symm.trans H; with_reducible exact H2_) | with_reducible exact H | (rw [hy145]; exact H) | exact H
    have Ny145 := Aside0.mk hy145
    clear hy145
    replace H := Option.bind_eq_some_iff.mp H
    obtain ⟨t148, A30, H⟩ := H
    replace H : (if (t148.length : Int) = (wrap64 (Int.tdiv (wrap64 ((l0.length : Int) + 1)) 2)) then (bautalaw03_ImageWords.l0 k l0 t148 0) else (some false)) = some r := H
    have A3 := Aside0.mk A30
    clear A30
    by_cases c4 : (t148.length : Int) = (wrap64 (Int.tdiv (wrap64 ((l0.length : Int) + 1)) 2))
    · rw [if_pos c4] at H
      have c4b0 : ((t148.length : Int) == (wrap64 (Int.tdiv (wrap64 ((l0.length : Int) + 1)) 2))) = true := beq_iff_eq.mpr c4
      have c4b1 : ((t148.length : Int) != (wrap64 (Int.tdiv (wrap64 ((l0.length : Int) + 1)) 2))) = false := bne_eq_false_iff_eq.mpr c4
      clear c4
      have H' := Aside0.mk H
      clear H
      go_enter Try.func4, Try.ntmps4
      go_wp2_with (first | ((with_reducible refine gate_dst (N := 5) rfl ?_); (try (refine gate_guard (by rfl) ?_; dsimp only)); refine Kd.R_lit (Kd.int .u8) _ 5 ?hg (N := 5) ?hd (xs := ([] : List Int)) (inner := []) (ok := fun _ => True) (okp := fun _ => True) ?hr ?hp (fun _ hk => hk) trivial (Below.refl _ _) (Nat.le_refl _) (by simp) ?_; (case hd => rfl); (case hg => rfl); (case hr => first | (go_simp; done) | (go_simp; rfl)); (case hp => exact (Reps.none _ _)); intro v143 w5 ho6 hb hg_ hnew_; clear hg_ hnew_; (first | rw [← Ny142.out] at ho6 | (simp only [Int.reduceToNat] at ho6; rw [← Ny142.out] at ho6)); have n0_ := Aside0.mk (Kd.R_lower ho6 (below_size (by repeat (first | (with_reducible first | exact HB.out | apply below_alloc | apply pw_below_drewN | apply below_drew1) | exact HB.out)))); have n1_ := Aside0.mk (below_step (by repeat (first | (with_reducible first | exact HB.out | apply below_alloc | apply pw_below_drewN | apply below_drew1) | exact HB.out)) hb); clear HB; have HO144 := n0_; have HB := n1_; clear n0_ n1_; clear hb ho6) | ((with_reducible refine gate_builtin (b := .append) (xs := #[.tmp 5, .tmp 6]) rfl ?_); (try (refine gate_guard (by rfl) ?_; dsimp only)); at_builtin; refine Kd.R_append_rows (Kd.int .u8) (w0 := w) w.heap.size rfl (.tmp 5) (.tmp 6) 29 5 (.int .u8 0) 1 rfl Try.underlying29 info5 rfl (by decide) (by omega) v143 y142 l0 _ _ _ (fun _ => True) (fun _ => False) rfl rfl ?aO ?aR (fun _ _ h => h) (fun _ h => h.elim) ?aF ?aB ?aS ?aL ?_; (case aR => repeat (first | exact (Kd.C_below HR0.out HB.out) | (with_reducible refine Kd.C_alloc ?_ _) | (with_reducible refine Kd.C_drewN ?_ _) | (with_reducible refine Kd.C_drew ?_))); (case aB => exact (by repeat (first | (with_reducible first | exact HB.out | apply below_alloc | apply pw_below_drewN | apply below_drew1) | exact HB.out))); (case aF => exact (fun _ _ => trivial)); (case aO => exact (by (with_reducible repeat (first | apply Kd.R_alloc | apply Kd.R_drewN | apply Kd.R_drew)); exact HO144.out)); (case aS => exact (below_size (by repeat (first | (with_reducible first | exact HB.out | apply below_alloc | apply pw_below_drewN | apply below_drew1) | exact HB.out)))); (case aL => have := LMc2.out; first | omega | (simp only [List.length_take] at *; omega)); intro v146 w7 ho hb hg hat; rw [← Ny145.out] at ho; have n0_ := Aside0.mk (hb); have n1_ := Aside0.mk (ho); clear HB; clear HO144; have HB := n0_; have HO147 := n1_; clear n0_ n1_; clear ho hb hg hat; obtain ⟨Ao8, co8, eo8⟩ := Kd.R_slice HO147.out; subst eo8) | (go_at_call 10; (with_reducible refine (image_Words.calls _ _ y145 t148 _ ?side1 ?side2 A3.out).mono ?_); (case side1 => repeat (first | exact (Kd.R_reads' HO147.out).2.2 | (with_reducible refine Kd.C_alloc ?_ _) | (with_reducible refine Kd.C_drewN ?_ _) | (with_reducible refine Kd.C_drew ?_))); (case side2 => exact (Kd.R_reads' HO147.out).2.1); rintro e w9 ⟨v149, rfl, ho0, hb⟩; have n0_ := Aside0.mk (Kd.R_below (by (with_reducible repeat (first | apply Kd.R_alloc | apply Kd.R_drewN | apply Kd.R_drew)); exact HO147.out) hb); have n1_ := Aside0.mk (Kd.R_lower ho0 (below_size (by repeat (first | (with_reducible first | exact HB.out | apply below_alloc | apply pw_below_drewN | apply below_drew1) | exact HB.out)))); have n2_ := Aside0.mk (below_step (by repeat (first | (with_reducible first | exact HB.out | apply below_alloc | apply pw_below_drewN | apply below_drew1) | exact HB.out)) hb); clear HO147; clear HB; have HO147 := n0_; have HO150 := n1_; have HB := n2_; clear n0_ n1_ n2_; (try clear hb); (try clear hb2); (try clear hk); (try clear hi); (try clear ho0); obtain ⟨Ao10, co10, eo10⟩ := Kd.R_slice HO150.out; subst eo10))
      repeat (go_quiet (first | ((with_reducible refine gate_dst (N := 5) rfl ?_); (try (refine gate_guard (by rfl) ?_; dsimp only)); refine Kd.R_lit (Kd.int .u8) _ 5 ?hg (N := 5) ?hd (xs := ([] : List Int)) (inner := []) (ok := fun _ => True) (okp := fun _ => True) ?hr ?hp (fun _ hk => hk) trivial (Below.refl _ _) (Nat.le_refl _) (by simp) ?_; (case hd => rfl); (case hg => rfl); (case hr => first | (go_simp; done) | (go_simp; rfl)); (case hp => exact (Reps.none _ _)); intro v143 w5 ho6 hb hg_ hnew_; clear hg_ hnew_; (first | rw [← Ny142.out] at ho6 | (simp only [Int.reduceToNat] at ho6; rw [← Ny142.out] at ho6)); have n0_ := Aside0.mk (Kd.R_lower ho6 (below_size (by repeat (first | (with_reducible first | exact HB.out | apply below_alloc | apply pw_below_drewN | apply below_drew1) | exact HB.out)))); have n1_ := Aside0.mk (below_step (by repeat (first | (with_reducible first | exact HB.out | apply below_alloc | apply pw_below_drewN | apply below_drew1) | exact HB.out)) hb); clear HB; have HO144 := n0_; have HB := n1_; clear n0_ n1_; clear hb ho6) | ((with_reducible refine gate_builtin (b := .append) (xs := #[.tmp 5, .tmp 6]) rfl ?_); (try (refine gate_guard (by rfl) ?_; dsimp only)); at_builtin; refine Kd.R_append_rows (Kd.int .u8) (w0 := w) w.heap.size rfl (.tmp 5) (.tmp 6) 29 5 (.int .u8 0) 1 rfl Try.underlying29 info5 rfl (by decide) (by omega) v143 y142 l0 _ _ _ (fun _ => True) (fun _ => False) rfl rfl ?aO ?aR (fun _ _ h => h) (fun _ h => h.elim) ?aF ?aB ?aS ?aL ?_; (case aR => repeat (first | exact (Kd.C_below HR0.out HB.out) | (with_reducible refine Kd.C_alloc ?_ _) | (with_reducible refine Kd.C_drewN ?_ _) | (with_reducible refine Kd.C_drew ?_))); (case aB => exact (by repeat (first | (with_reducible first | exact HB.out | apply below_alloc | apply pw_below_drewN | apply below_drew1) | exact HB.out))); (case aF => exact (fun _ _ => trivial)); (case aO => exact (by (with_reducible repeat (first | apply Kd.R_alloc | apply Kd.R_drewN | apply Kd.R_drew)); exact HO144.out)); (case aS => exact (below_size (by repeat (first | (with_reducible first | exact HB.out | apply below_alloc | apply pw_below_drewN | apply below_drew1) | exact HB.out)))); (case aL => have := LMc2.out; first | omega | (simp only [List.length_take] at *; omega)); intro v146 w7 ho hb hg hat; rw [← Ny145.out] at ho; have n0_ := Aside0.mk (hb); have n1_ := Aside0.mk (ho); clear HB; clear HO144; have HB := n0_; have HO147 := n1_; clear n0_ n1_; clear ho hb hg hat; obtain ⟨Ao8, co8, eo8⟩ := Kd.R_slice HO147.out; subst eo8) | (go_at_call 10; (with_reducible refine (image_Words.calls _ _ y145 t148 _ ?side1 ?side2 A3.out).mono ?_); (case side1 => repeat (first | exact (Kd.R_reads' HO147.out).2.2 | (with_reducible refine Kd.C_alloc ?_ _) | (with_reducible refine Kd.C_drewN ?_ _) | (with_reducible refine Kd.C_drew ?_))); (case side2 => exact (Kd.R_reads' HO147.out).2.1); rintro e w9 ⟨v149, rfl, ho0, hb⟩; have n0_ := Aside0.mk (Kd.R_below (by (with_reducible repeat (first | apply Kd.R_alloc | apply Kd.R_drewN | apply Kd.R_drew)); exact HO147.out) hb); have n1_ := Aside0.mk (Kd.R_lower ho0 (below_size (by repeat (first | (with_reducible first | exact HB.out | apply below_alloc | apply pw_below_drewN | apply below_drew1) | exact HB.out)))); have n2_ := Aside0.mk (below_step (by repeat (first | (with_reducible first | exact HB.out | apply below_alloc | apply pw_below_drewN | apply below_drew1) | exact HB.out)) hb); clear HO147; clear HB; have HO147 := n0_; have HO150 := n1_; have HB := n2_; clear n0_ n1_ n2_; (try clear hb); (try clear hb2); (try clear hk); (try clear hi); (try clear ho0); obtain ⟨Ao10, co10, eo10⟩ := Kd.R_slice HO150.out; subst eo10)); try go_wp2_with (first | ((with_reducible refine gate_dst (N := 5) rfl ?_); (try (refine gate_guard (by rfl) ?_; dsimp only)); refine Kd.R_lit (Kd.int .u8) _ 5 ?hg (N := 5) ?hd (xs := ([] : List Int)) (inner := []) (ok := fun _ => True) (okp := fun _ => True) ?hr ?hp (fun _ hk => hk) trivial (Below.refl _ _) (Nat.le_refl _) (by simp) ?_; (case hd => rfl); (case hg => rfl); (case hr => first | (go_simp; done) | (go_simp; rfl)); (case hp => exact (Reps.none _ _)); intro v143 w5 ho6 hb hg_ hnew_; clear hg_ hnew_; (first | rw [← Ny142.out] at ho6 | (simp only [Int.reduceToNat] at ho6; rw [← Ny142.out] at ho6)); have n0_ := Aside0.mk (Kd.R_lower ho6 (below_size (by repeat (first | (with_reducible first | exact HB.out | apply below_alloc | apply pw_below_drewN | apply below_drew1) | exact HB.out)))); have n1_ := Aside0.mk (below_step (by repeat (first | (with_reducible first | exact HB.out | apply below_alloc | apply pw_below_drewN | apply below_drew1) | exact HB.out)) hb); clear HB; have HO144 := n0_; have HB := n1_; clear n0_ n1_; clear hb ho6) | ((with_reducible refine gate_builtin (b := .append) (xs := #[.tmp 5, .tmp 6]) rfl ?_); (try (refine gate_guard (by rfl) ?_; dsimp only)); at_builtin; refine Kd.R_append_rows (Kd.int .u8) (w0 := w) w.heap.size rfl (.tmp 5) (.tmp 6) 29 5 (.int .u8 0) 1 rfl Try.underlying29 info5 rfl (by decide) (by omega) v143 y142 l0 _ _ _ (fun _ => True) (fun _ => False) rfl rfl ?aO ?aR (fun _ _ h => h) (fun _ h => h.elim) ?aF ?aB ?aS ?aL ?_; (case aR => repeat (first | exact (Kd.C_below HR0.out HB.out) | (with_reducible refine Kd.C_alloc ?_ _) | (with_reducible refine Kd.C_drewN ?_ _) | (with_reducible refine Kd.C_drew ?_))); (case aB => exact (by repeat (first | (with_reducible first | exact HB.out | apply below_alloc | apply pw_below_drewN | apply below_drew1) | exact HB.out))); (case aF => exact (fun _ _ => trivial)); (case aO => exact (by (with_reducible repeat (first | apply Kd.R_alloc | apply Kd.R_drewN | apply Kd.R_drew)); exact HO144.out)); (case aS => exact (below_size (by repeat (first | (with_reducible first | exact HB.out | apply below_alloc | apply pw_below_drewN | apply below_drew1) | exact HB.out)))); (case aL => have := LMc2.out; first | omega | (simp only [List.length_take] at *; omega)); intro v146 w7 ho hb hg hat; rw [← Ny145.out] at ho; have n0_ := Aside0.mk (hb); have n1_ := Aside0.mk (ho); clear HB; clear HO144; have HB := n0_; have HO147 := n1_; clear n0_ n1_; clear ho hb hg hat; obtain ⟨Ao8, co8, eo8⟩ := Kd.R_slice HO147.out; subst eo8) | (go_at_call 10; (with_reducible refine (image_Words.calls _ _ y145 t148 _ ?side1 ?side2 A3.out).mono ?_); (case side1 => repeat (first | exact (Kd.R_reads' HO147.out).2.2 | (with_reducible refine Kd.C_alloc ?_ _) | (with_reducible refine Kd.C_drewN ?_ _) | (with_reducible refine Kd.C_drew ?_))); (case side2 => exact (Kd.R_reads' HO147.out).2.1); rintro e w9 ⟨v149, rfl, ho0, hb⟩; have n0_ := Aside0.mk (Kd.R_below (by (with_reducible repeat (first | apply Kd.R_alloc | apply Kd.R_drewN | apply Kd.R_drew)); exact HO147.out) hb); have n1_ := Aside0.mk (Kd.R_lower ho0 (below_size (by repeat (first | (with_reducible first | exact HB.out | apply below_alloc | apply pw_below_drewN | apply below_drew1) | exact HB.out)))); have n2_ := Aside0.mk (below_step (by repeat (first | (with_reducible first | exact HB.out | apply below_alloc | apply pw_below_drewN | apply below_drew1) | exact HB.out)) hb); clear HO147; clear HB; have HO147 := n0_; have HO150 := n1_; have HB := n2_; clear n0_ n1_ n2_; (try clear hb); (try clear hb2); (try clear hk); (try clear hi); (try clear ho0); obtain ⟨Ao10, co10, eo10⟩ := Kd.R_slice HO150.out; subst eo10)))
      go_loopg [4] k (fun kq v4 w' => ∃ (x4_1 : Int), v4 = .int .i64 x4_1 ∧ Aside0 (bautalaw03_ImageWords.l0 kq l0 t148 x4_1 = some r) ∧ Aside0 (kq ≤ k) ∧ Aside0 (Kd.R (Kd.int .u16) 32 w' w.heap.size (fun _ => True) (.slice Ao10 t148.length co10) t148) ∧ Aside0 (Below w.heap.size w w'))
      case atStart => exact ⟨(0), (by first | rfl | (simp; done) | (simp [*]; done) | (simp; omega)), H', ⟨Nat.le_refl _⟩, ⟨by (with_reducible repeat (first | apply Kd.R_alloc | apply Kd.R_drewN | apply Kd.R_drew)); exact HO150.out⟩, ⟨by repeat (first | (with_reducible first | exact HB.out | apply below_alloc | apply pw_below_drewN | apply below_drew1) | exact HB.out)⟩⟩
      case round =>
        clear H'
        try clear c2
        try clear p2
        try clear c4
        try clear c4b0
        try clear c4b1
        try clear p6
        obtain ⟨x4_1, rfl, HA, HK1, HO_3, HB⟩ := hrel
        cases gk with
        | zero => exact absurd HA.out (by simp [bautalaw03_ImageWords.l0])
        | succ k1 =>
          have H := HA.out
          clear HA
          simp only [bautalaw03_ImageWords.l0] at H
          by_cases c11 : x4_1 < (l0.length : Int)
          · rw [if_pos c11] at H
            have c11b0 : decide (x4_1 < (l0.length : Int)) = true := decide_eq_true c11
            clear c11
            obtain ⟨ji12, hji12⟩ : ∃ j_ : Int, (wrap64 (Int.tdiv x4_1 2)) = j_ := ⟨_, rfl⟩
            replace H : (if 0 ≤ (ji12) then (if (ji12) < (t148.length : Int) then (if 0 ≤ (IntKind.u64.wrap (wrap64 (8 * (Int.tmod x4_1 2)))) then (if 0 ≤ x4_1 then (if ((shr .u16 (rd t148 (ji12)) (IntKind.u64.wrap (wrap64 (8 * (Int.tmod x4_1 2))))) % 256) = (rd l0 x4_1) then (bautalaw03_ImageWords.l0 k1 l0 t148 (wrap64 (x4_1 + 1))) else (some false)) else (none)) else (none)) else (none)) else (none)) = some r := by first | (rw [hji12] at H; exact H) | (simp only [hji12] at H ⊢; exact H)
            have hji12w : (IntKind.i64.wrap (Int.tdiv x4_1 2)) = ji12 := (i64_w _).trans hji12
            by_cases c13 : 0 ≤ (ji12)
            · rw [if_pos c13] at H
              have c13b0 : decide (0 ≤ (ji12)) = true := decide_eq_true c13
              clear c13
              by_cases c14 : (ji12) < (t148.length : Int)
              · rw [if_pos c14] at H
                have c14b0 : decide ((ji12) < (t148.length : Int)) = true := decide_eq_true c14
                clear c14
                obtain ⟨ji15, hji15⟩ : ∃ j_ : Int, (IntKind.u64.wrap (wrap64 (8 * (Int.tmod x4_1 2)))) = j_ := ⟨_, rfl⟩
                replace H : (if 0 ≤ (ji15) then (if 0 ≤ x4_1 then (if ((shr .u16 (rd t148 (ji12)) (ji15)) % 256) = (rd l0 x4_1) then (bautalaw03_ImageWords.l0 k1 l0 t148 (wrap64 (x4_1 + 1))) else (some false)) else (none)) else (none)) = some r := by first | (rw [hji15] at H; exact H) | (simp only [hji15] at H ⊢; exact H)
                by_cases c16 : 0 ≤ (ji15)
                · rw [if_pos c16] at H
                  have c16b0 := eq_true c16
                  have c16b1 : decide (0 ≤ (ji15)) = true := decide_eq_true c16
                  clear c16
                  obtain ⟨ji17, hji17⟩ : ∃ j_ : Int, (shr .u16 (rd t148 (ji12)) (ji15)) = j_ := ⟨_, rfl⟩
                  replace H : (if 0 ≤ x4_1 then (if ((ji17) % 256) = (rd l0 x4_1) then (bautalaw03_ImageWords.l0 k1 l0 t148 (wrap64 (x4_1 + 1))) else (some false)) else (none)) = some r := by first | (rw [hji17] at H; exact H) | (simp only [hji17] at H ⊢; exact H)
                  have hji17_ : ((rd t148 (ji12)) / 2 ^ min (ji15).toNat 16) = ji17 := hji17
                  have hji17z : (ji15) ≤ 16 → ((rd t148 (ji12)) / 2 ^ (ji15).toNat) = ji17 := shr_small hji17
                  by_cases c18 : 0 ≤ x4_1
                  · rw [if_pos c18] at H
                    have c18b0 : decide (0 ≤ x4_1) = true := decide_eq_true c18
                    clear c18
                    by_cases c19 : ((ji17) % 256) = (rd l0 x4_1)
                    · rw [if_pos c19] at H
                      have c19b0 : (((ji17) % 256) == (rd l0 x4_1)) = true := beq_iff_eq.mpr c19
                      have c19b1 : (((ji17) % 256) != (rd l0 x4_1)) = false := bne_eq_false_iff_eq.mpr c19
                      clear c19
                      have H' := Aside0.mk H
                      clear H
                      have p151 : 0 ≤ ((ji12) : Int) := of_decide_eq_true (by first | (with_reducible assumption) | assumption)
                      have q151 : (ji12) < (t148.length : Int) := of_decide_eq_true (by first | (with_reducible assumption) | assumption)
                      obtain ⟨ad151, e151, hx151_0⟩ := Kd.at_int (Kd.R_reads' HO_3.out).2.2 (ji12) p151 q151
                      cases e151
                      replace p151 := eq_true p151
                      replace q151 := eq_true q151
                      have p152 : 0 ≤ (x4_1 : Int) := of_decide_eq_true (by first | (with_reducible assumption) | assumption)
                      have q152 : x4_1 < (l0.length : Int) := of_decide_eq_true (by first | (with_reducible assumption) | assumption)
                      obtain ⟨ad152, e152, hx152_0⟩ := Kd.at_int HR0.out x4_1 p152 q152
                      cases e152
                      replace hx152_0 := (HB.out.cell (World.block_lt_of_cell? w _ hx152_0)).trans hx152_0
                      replace p152 := eq_true p152
                      replace q152 := eq_true q152
                      go_wp2
                      repeat (go_quiet (fail); try go_wp2)
                      go_roundg k1
                      case measure => have := HK1.out; omega
                      case rel => exact ⟨(wrap64 (x4_1 + 1)), (by first | rfl | (simp; done) | (simp [*]; done) | (simp; omega)), H', ⟨by have := HK1.out; omega⟩, ⟨by (with_reducible repeat (first | apply Kd.R_alloc | apply Kd.R_drewN | apply Kd.R_drew)); exact HO_3.out⟩, ⟨by repeat (first | (with_reducible first | exact HB.out | apply below_alloc | apply pw_below_drewN | apply below_drew1) | exact HB.out)⟩⟩
                    · rw [if_neg c19] at H
                      have c19b0 : (((ji17) % 256) == (rd l0 x4_1)) = false := beq_eq_false_iff_ne.mpr c19
                      have c19b1 : (((ji17) % 256) != (rd l0 x4_1)) = true := bne_iff_ne.mpr c19
                      obtain rfl := Option.some.inj H
                      have p151 : 0 ≤ ((ji12) : Int) := of_decide_eq_true (by first | (with_reducible assumption) | assumption)
                      have q151 : (ji12) < (t148.length : Int) := of_decide_eq_true (by first | (with_reducible assumption) | assumption)
                      obtain ⟨ad151, e151, hx151_0⟩ := Kd.at_int (Kd.R_reads' HO_3.out).2.2 (ji12) p151 q151
                      cases e151
                      replace p151 := eq_true p151
                      replace q151 := eq_true q151
                      have p152 : 0 ≤ (x4_1 : Int) := of_decide_eq_true (by first | (with_reducible assumption) | assumption)
                      have q152 : x4_1 < (l0.length : Int) := of_decide_eq_true (by first | (with_reducible assumption) | assumption)
                      obtain ⟨ad152, e152, hx152_0⟩ := Kd.at_int HR0.out x4_1 p152 q152
                      cases e152
                      replace hx152_0 := (HB.out.cell (World.block_lt_of_cell? w _ hx152_0)).trans hx152_0
                      replace p152 := eq_true p152
                      replace q152 := eq_true q152
                      go_wp2
                      repeat (go_quiet (fail); try go_wp2)
                      go_ret
                      exact ⟨by first | rfl | (simp [errW_none, errW_some] <;> rfl) | (simp only [← hji12, ← hji15, ← hji17]; first | rfl | (simp [errW_none, errW_some] <;> rfl)) | (simp [*, errW_none, errW_some] <;> rfl), by repeat (first | (with_reducible first | exact HB.out | apply below_alloc | apply pw_below_drewN | apply below_drew1) | exact HB.out)⟩
                  · rw [if_neg c18] at H
                    exact absurd H (by simp)
                · rw [if_neg c16] at H
                  exact absurd H (by simp)
              · rw [if_neg c14] at H
                exact absurd H (by simp)
            · rw [if_neg c13] at H
              exact absurd H (by simp)
          · rw [if_neg c11] at H
            have c11b0 : decide (x4_1 < (l0.length : Int)) = false := decide_eq_false c11
            clear c11
            by_cases c20 : ((l0.length : Int) % 2) = 0
            · rw [if_pos c20] at H
              have c20b0 : (((l0.length : Int) % 2) == 0) = true := beq_iff_eq.mpr c20
              have c20b1 : (((l0.length : Int) % 2) != 0) = false := bne_eq_false_iff_eq.mpr c20
              clear c20
              replace H := Option.bind_eq_some_iff.mp H
              obtain ⟨t153, A210, H⟩ := H
              replace H : (some t153) = some r := H
              have A21 := Aside0.mk A210
              clear A210
              obtain rfl := Option.some.inj H
              go_wp2_with (first | (go_at_call 9; (with_reducible refine (bautalaw03_lives.calls  t153 _ A21.out).mono ?_); rintro e w22 ⟨rfl, hb⟩; have n0_ := Aside0.mk (Kd.R_below (by (with_reducible repeat (first | apply Kd.R_alloc | apply Kd.R_drewN | apply Kd.R_drew)); exact HO_3.out) hb); have n1_ := Aside0.mk (below_step (by repeat (first | (with_reducible first | exact HB.out | apply below_alloc | apply pw_below_drewN | apply below_drew1) | exact HB.out)) hb); clear HO_3; clear HB; have HO_3 := n0_; have HB := n1_; clear n0_ n1_; (try clear hb); (try clear hb2); (try clear hk); (try clear hi)))
              repeat (go_quiet (first | (go_at_call 9; (with_reducible refine (bautalaw03_lives.calls  t153 _ A21.out).mono ?_); rintro e w22 ⟨rfl, hb⟩; have n0_ := Aside0.mk (Kd.R_below (by (with_reducible repeat (first | apply Kd.R_alloc | apply Kd.R_drewN | apply Kd.R_drew)); exact HO_3.out) hb); have n1_ := Aside0.mk (below_step (by repeat (first | (with_reducible first | exact HB.out | apply below_alloc | apply pw_below_drewN | apply below_drew1) | exact HB.out)) hb); clear HO_3; clear HB; have HO_3 := n0_; have HB := n1_; clear n0_ n1_; (try clear hb); (try clear hb2); (try clear hk); (try clear hi))); try go_wp2_with (first | (go_at_call 9; (with_reducible refine (bautalaw03_lives.calls  t153 _ A21.out).mono ?_); rintro e w22 ⟨rfl, hb⟩; have n0_ := Aside0.mk (Kd.R_below (by (with_reducible repeat (first | apply Kd.R_alloc | apply Kd.R_drewN | apply Kd.R_drew)); exact HO_3.out) hb); have n1_ := Aside0.mk (below_step (by repeat (first | (with_reducible first | exact HB.out | apply below_alloc | apply pw_below_drewN | apply below_drew1) | exact HB.out)) hb); clear HO_3; clear HB; have HO_3 := n0_; have HB := n1_; clear n0_ n1_; (try clear hb); (try clear hb2); (try clear hk); (try clear hi))))
              go_ret
              exact ⟨by first | rfl | (simp [errW_none, errW_some] <;> rfl) | (simp [*, errW_none, errW_some] <;> rfl), by repeat (first | (with_reducible first | exact HB.out | apply below_alloc | apply pw_below_drewN | apply below_drew1) | exact HB.out)⟩
            · rw [if_neg c20] at H
              have c20b0 : (((l0.length : Int) % 2) == 0) = false := beq_eq_false_iff_ne.mpr c20
              have c20b1 : (((l0.length : Int) % 2) != 0) = true := bne_iff_ne.mpr c20
              obtain ⟨ji23, hji23⟩ : ∃ j_ : Int, (wrap64 ((t148.length : Int) - 1)) = j_ := ⟨_, rfl⟩
              replace H : (if 0 ≤ (ji23) then (if (ji23) < (t148.length : Int) then (if (rd t148 (ji23)) < 256 then ((bautalaw03_lives.f).bind fun t155 => (some t155)) else (some false)) else (none)) else (none)) = some r := by first | (rw [hji23] at H; exact H) | (simp only [hji23] at H ⊢; exact H)
              have hji23w : (IntKind.i64.wrap ((t148.length : Int) - 1)) = ji23 := (i64_w _).trans hji23
              by_cases c24 : 0 ≤ (ji23)
              · rw [if_pos c24] at H
                have c24b0 : decide (0 ≤ (ji23)) = true := decide_eq_true c24
                clear c24
                by_cases c25 : (ji23) < (t148.length : Int)
                · rw [if_pos c25] at H
                  have c25b0 : decide ((ji23) < (t148.length : Int)) = true := decide_eq_true c25
                  clear c25
                  by_cases c26 : (rd t148 (ji23)) < 256
                  · rw [if_pos c26] at H
                    have c26b0 : decide ((rd t148 (ji23)) < 256) = true := decide_eq_true c26
                    clear c26
                    replace H := Option.bind_eq_some_iff.mp H
                    obtain ⟨t155, A270, H⟩ := H
                    replace H : (some t155) = some r := H
                    have A27 := Aside0.mk A270
                    clear A270
                    obtain rfl := Option.some.inj H
                    have p154 : 0 ≤ ((ji23) : Int) := of_decide_eq_true (by first | (with_reducible assumption) | assumption)
                    have q154 : (ji23) < (t148.length : Int) := of_decide_eq_true (by first | (with_reducible assumption) | assumption)
                    obtain ⟨ad154, e154, hx154_0⟩ := Kd.at_int (Kd.R_reads' HO_3.out).2.2 (ji23) p154 q154
                    cases e154
                    replace p154 := eq_true p154
                    replace q154 := eq_true q154
                    go_wp2_with (first | (go_at_call 9; (with_reducible refine (bautalaw03_lives.calls  t155 _ A27.out).mono ?_); rintro e w28 ⟨rfl, hb⟩; have n0_ := Aside0.mk (Kd.R_below (by (with_reducible repeat (first | apply Kd.R_alloc | apply Kd.R_drewN | apply Kd.R_drew)); exact HO_3.out) hb); have n1_ := Aside0.mk (below_step (by repeat (first | (with_reducible first | exact HB.out | apply below_alloc | apply pw_below_drewN | apply below_drew1) | exact HB.out)) hb); clear HO_3; clear HB; have HO_3 := n0_; have HB := n1_; clear n0_ n1_; (try clear hb); (try clear hb2); (try clear hk); (try clear hi)))
                    repeat (go_quiet (first | (go_at_call 9; (with_reducible refine (bautalaw03_lives.calls  t155 _ A27.out).mono ?_); rintro e w28 ⟨rfl, hb⟩; have n0_ := Aside0.mk (Kd.R_below (by (with_reducible repeat (first | apply Kd.R_alloc | apply Kd.R_drewN | apply Kd.R_drew)); exact HO_3.out) hb); have n1_ := Aside0.mk (below_step (by repeat (first | (with_reducible first | exact HB.out | apply below_alloc | apply pw_below_drewN | apply below_drew1) | exact HB.out)) hb); clear HO_3; clear HB; have HO_3 := n0_; have HB := n1_; clear n0_ n1_; (try clear hb); (try clear hb2); (try clear hk); (try clear hi))); try go_wp2_with (first | (go_at_call 9; (with_reducible refine (bautalaw03_lives.calls  t155 _ A27.out).mono ?_); rintro e w28 ⟨rfl, hb⟩; have n0_ := Aside0.mk (Kd.R_below (by (with_reducible repeat (first | apply Kd.R_alloc | apply Kd.R_drewN | apply Kd.R_drew)); exact HO_3.out) hb); have n1_ := Aside0.mk (below_step (by repeat (first | (with_reducible first | exact HB.out | apply below_alloc | apply pw_below_drewN | apply below_drew1) | exact HB.out)) hb); clear HO_3; clear HB; have HO_3 := n0_; have HB := n1_; clear n0_ n1_; (try clear hb); (try clear hb2); (try clear hk); (try clear hi))))
                    go_ret
                    exact ⟨by first | rfl | (simp [errW_none, errW_some] <;> rfl) | (simp only [← hji23]; first | rfl | (simp [errW_none, errW_some] <;> rfl)) | (simp [*, errW_none, errW_some] <;> rfl), by repeat (first | (with_reducible first | exact HB.out | apply below_alloc | apply pw_below_drewN | apply below_drew1) | exact HB.out)⟩
                  · rw [if_neg c26] at H
                    have c26b0 : decide ((rd t148 (ji23)) < 256) = false := decide_eq_false c26
                    clear c26
                    obtain rfl := Option.some.inj H
                    have p154 : 0 ≤ ((ji23) : Int) := of_decide_eq_true (by first | (with_reducible assumption) | assumption)
                    have q154 : (ji23) < (t148.length : Int) := of_decide_eq_true (by first | (with_reducible assumption) | assumption)
                    obtain ⟨ad154, e154, hx154_0⟩ := Kd.at_int (Kd.R_reads' HO_3.out).2.2 (ji23) p154 q154
                    cases e154
                    replace p154 := eq_true p154
                    replace q154 := eq_true q154
                    go_wp2
                    repeat (go_quiet (fail); try go_wp2)
                    go_ret
                    exact ⟨by first | rfl | (simp [errW_none, errW_some] <;> rfl) | (simp only [← hji23]; first | rfl | (simp [errW_none, errW_some] <;> rfl)) | (simp [*, errW_none, errW_some] <;> rfl), by repeat (first | (with_reducible first | exact HB.out | apply below_alloc | apply pw_below_drewN | apply below_drew1) | exact HB.out)⟩
                · rw [if_neg c25] at H
                  exact absurd H (by simp)
              · rw [if_neg c24] at H
                exact absurd H (by simp)
    · rw [if_neg c4] at H
      have c4b0 : ((t148.length : Int) == (wrap64 (Int.tdiv (wrap64 ((l0.length : Int) + 1)) 2))) = false := beq_eq_false_iff_ne.mpr c4
      have c4b1 : ((t148.length : Int) != (wrap64 (Int.tdiv (wrap64 ((l0.length : Int) + 1)) 2))) = true := bne_iff_ne.mpr c4
      obtain rfl := Option.some.inj H
      go_enter Try.func4, Try.ntmps4
      go_wp2_with (first | ((with_reducible refine gate_dst (N := 5) rfl ?_); (try (refine gate_guard (by rfl) ?_; dsimp only)); refine Kd.R_lit (Kd.int .u8) _ 5 ?hg (N := 5) ?hd (xs := ([] : List Int)) (inner := []) (ok := fun _ => True) (okp := fun _ => True) ?hr ?hp (fun _ hk => hk) trivial (Below.refl _ _) (Nat.le_refl _) (by simp) ?_; (case hd => rfl); (case hg => rfl); (case hr => first | (go_simp; done) | (go_simp; rfl)); (case hp => exact (Reps.none _ _)); intro v143 w29 ho30 hb hg_ hnew_; clear hg_ hnew_; (first | rw [← Ny142.out] at ho30 | (simp only [Int.reduceToNat] at ho30; rw [← Ny142.out] at ho30)); have n0_ := Aside0.mk (Kd.R_lower ho30 (below_size (by repeat (first | (with_reducible first | exact HB.out | apply below_alloc | apply pw_below_drewN | apply below_drew1) | exact HB.out)))); have n1_ := Aside0.mk (below_step (by repeat (first | (with_reducible first | exact HB.out | apply below_alloc | apply pw_below_drewN | apply below_drew1) | exact HB.out)) hb); clear HB; have HO144 := n0_; have HB := n1_; clear n0_ n1_; clear hb ho30) | ((with_reducible refine gate_builtin (b := .append) (xs := #[.tmp 5, .tmp 6]) rfl ?_); (try (refine gate_guard (by rfl) ?_; dsimp only)); at_builtin; refine Kd.R_append_rows (Kd.int .u8) (w0 := w) w.heap.size rfl (.tmp 5) (.tmp 6) 29 5 (.int .u8 0) 1 rfl Try.underlying29 info5 rfl (by decide) (by omega) v143 y142 l0 _ _ _ (fun _ => True) (fun _ => False) rfl rfl ?aO ?aR (fun _ _ h => h) (fun _ h => h.elim) ?aF ?aB ?aS ?aL ?_; (case aR => repeat (first | exact (Kd.C_below HR0.out HB.out) | (with_reducible refine Kd.C_alloc ?_ _) | (with_reducible refine Kd.C_drewN ?_ _) | (with_reducible refine Kd.C_drew ?_))); (case aB => exact (by repeat (first | (with_reducible first | exact HB.out | apply below_alloc | apply pw_below_drewN | apply below_drew1) | exact HB.out))); (case aF => exact (fun _ _ => trivial)); (case aO => exact (by (with_reducible repeat (first | apply Kd.R_alloc | apply Kd.R_drewN | apply Kd.R_drew)); exact HO144.out)); (case aS => exact (below_size (by repeat (first | (with_reducible first | exact HB.out | apply below_alloc | apply pw_below_drewN | apply below_drew1) | exact HB.out)))); (case aL => have := LMc2.out; first | omega | (simp only [List.length_take] at *; omega)); intro v146 w31 ho hb hg hat; rw [← Ny145.out] at ho; have n0_ := Aside0.mk (hb); have n1_ := Aside0.mk (ho); clear HB; clear HO144; have HB := n0_; have HO147 := n1_; clear n0_ n1_; clear ho hb hg hat; obtain ⟨Ao32, co32, eo32⟩ := Kd.R_slice HO147.out; subst eo32) | (go_at_call 10; (with_reducible refine (image_Words.calls _ _ y145 t148 _ ?side1 ?side2 A3.out).mono ?_); (case side1 => repeat (first | exact (Kd.R_reads' HO147.out).2.2 | (with_reducible refine Kd.C_alloc ?_ _) | (with_reducible refine Kd.C_drewN ?_ _) | (with_reducible refine Kd.C_drew ?_))); (case side2 => exact (Kd.R_reads' HO147.out).2.1); rintro e w33 ⟨v149, rfl, ho0, hb⟩; have n0_ := Aside0.mk (Kd.R_below (by (with_reducible repeat (first | apply Kd.R_alloc | apply Kd.R_drewN | apply Kd.R_drew)); exact HO147.out) hb); have n1_ := Aside0.mk (Kd.R_lower ho0 (below_size (by repeat (first | (with_reducible first | exact HB.out | apply below_alloc | apply pw_below_drewN | apply below_drew1) | exact HB.out)))); have n2_ := Aside0.mk (below_step (by repeat (first | (with_reducible first | exact HB.out | apply below_alloc | apply pw_below_drewN | apply below_drew1) | exact HB.out)) hb); clear HO147; clear HB; have HO147 := n0_; have HO150 := n1_; have HB := n2_; clear n0_ n1_ n2_; (try clear hb); (try clear hb2); (try clear hk); (try clear hi); (try clear ho0); obtain ⟨Ao34, co34, eo34⟩ := Kd.R_slice HO150.out; subst eo34))
      repeat (go_quiet (first | ((with_reducible refine gate_dst (N := 5) rfl ?_); (try (refine gate_guard (by rfl) ?_; dsimp only)); refine Kd.R_lit (Kd.int .u8) _ 5 ?hg (N := 5) ?hd (xs := ([] : List Int)) (inner := []) (ok := fun _ => True) (okp := fun _ => True) ?hr ?hp (fun _ hk => hk) trivial (Below.refl _ _) (Nat.le_refl _) (by simp) ?_; (case hd => rfl); (case hg => rfl); (case hr => first | (go_simp; done) | (go_simp; rfl)); (case hp => exact (Reps.none _ _)); intro v143 w29 ho30 hb hg_ hnew_; clear hg_ hnew_; (first | rw [← Ny142.out] at ho30 | (simp only [Int.reduceToNat] at ho30; rw [← Ny142.out] at ho30)); have n0_ := Aside0.mk (Kd.R_lower ho30 (below_size (by repeat (first | (with_reducible first | exact HB.out | apply below_alloc | apply pw_below_drewN | apply below_drew1) | exact HB.out)))); have n1_ := Aside0.mk (below_step (by repeat (first | (with_reducible first | exact HB.out | apply below_alloc | apply pw_below_drewN | apply below_drew1) | exact HB.out)) hb); clear HB; have HO144 := n0_; have HB := n1_; clear n0_ n1_; clear hb ho30) | ((with_reducible refine gate_builtin (b := .append) (xs := #[.tmp 5, .tmp 6]) rfl ?_); (try (refine gate_guard (by rfl) ?_; dsimp only)); at_builtin; refine Kd.R_append_rows (Kd.int .u8) (w0 := w) w.heap.size rfl (.tmp 5) (.tmp 6) 29 5 (.int .u8 0) 1 rfl Try.underlying29 info5 rfl (by decide) (by omega) v143 y142 l0 _ _ _ (fun _ => True) (fun _ => False) rfl rfl ?aO ?aR (fun _ _ h => h) (fun _ h => h.elim) ?aF ?aB ?aS ?aL ?_; (case aR => repeat (first | exact (Kd.C_below HR0.out HB.out) | (with_reducible refine Kd.C_alloc ?_ _) | (with_reducible refine Kd.C_drewN ?_ _) | (with_reducible refine Kd.C_drew ?_))); (case aB => exact (by repeat (first | (with_reducible first | exact HB.out | apply below_alloc | apply pw_below_drewN | apply below_drew1) | exact HB.out))); (case aF => exact (fun _ _ => trivial)); (case aO => exact (by (with_reducible repeat (first | apply Kd.R_alloc | apply Kd.R_drewN | apply Kd.R_drew)); exact HO144.out)); (case aS => exact (below_size (by repeat (first | (with_reducible first | exact HB.out | apply below_alloc | apply pw_below_drewN | apply below_drew1) | exact HB.out)))); (case aL => have := LMc2.out; first | omega | (simp only [List.length_take] at *; omega)); intro v146 w31 ho hb hg hat; rw [← Ny145.out] at ho; have n0_ := Aside0.mk (hb); have n1_ := Aside0.mk (ho); clear HB; clear HO144; have HB := n0_; have HO147 := n1_; clear n0_ n1_; clear ho hb hg hat; obtain ⟨Ao32, co32, eo32⟩ := Kd.R_slice HO147.out; subst eo32) | (go_at_call 10; (with_reducible refine (image_Words.calls _ _ y145 t148 _ ?side1 ?side2 A3.out).mono ?_); (case side1 => repeat (first | exact (Kd.R_reads' HO147.out).2.2 | (with_reducible refine Kd.C_alloc ?_ _) | (with_reducible refine Kd.C_drewN ?_ _) | (with_reducible refine Kd.C_drew ?_))); (case side2 => exact (Kd.R_reads' HO147.out).2.1); rintro e w33 ⟨v149, rfl, ho0, hb⟩; have n0_ := Aside0.mk (Kd.R_below (by (with_reducible repeat (first | apply Kd.R_alloc | apply Kd.R_drewN | apply Kd.R_drew)); exact HO147.out) hb); have n1_ := Aside0.mk (Kd.R_lower ho0 (below_size (by repeat (first | (with_reducible first | exact HB.out | apply below_alloc | apply pw_below_drewN | apply below_drew1) | exact HB.out)))); have n2_ := Aside0.mk (below_step (by repeat (first | (with_reducible first | exact HB.out | apply below_alloc | apply pw_below_drewN | apply below_drew1) | exact HB.out)) hb); clear HO147; clear HB; have HO147 := n0_; have HO150 := n1_; have HB := n2_; clear n0_ n1_ n2_; (try clear hb); (try clear hb2); (try clear hk); (try clear hi); (try clear ho0); obtain ⟨Ao34, co34, eo34⟩ := Kd.R_slice HO150.out; subst eo34)); try go_wp2_with (first | ((with_reducible refine gate_dst (N := 5) rfl ?_); (try (refine gate_guard (by rfl) ?_; dsimp only)); refine Kd.R_lit (Kd.int .u8) _ 5 ?hg (N := 5) ?hd (xs := ([] : List Int)) (inner := []) (ok := fun _ => True) (okp := fun _ => True) ?hr ?hp (fun _ hk => hk) trivial (Below.refl _ _) (Nat.le_refl _) (by simp) ?_; (case hd => rfl); (case hg => rfl); (case hr => first | (go_simp; done) | (go_simp; rfl)); (case hp => exact (Reps.none _ _)); intro v143 w29 ho30 hb hg_ hnew_; clear hg_ hnew_; (first | rw [← Ny142.out] at ho30 | (simp only [Int.reduceToNat] at ho30; rw [← Ny142.out] at ho30)); have n0_ := Aside0.mk (Kd.R_lower ho30 (below_size (by repeat (first | (with_reducible first | exact HB.out | apply below_alloc | apply pw_below_drewN | apply below_drew1) | exact HB.out)))); have n1_ := Aside0.mk (below_step (by repeat (first | (with_reducible first | exact HB.out | apply below_alloc | apply pw_below_drewN | apply below_drew1) | exact HB.out)) hb); clear HB; have HO144 := n0_; have HB := n1_; clear n0_ n1_; clear hb ho30) | ((with_reducible refine gate_builtin (b := .append) (xs := #[.tmp 5, .tmp 6]) rfl ?_); (try (refine gate_guard (by rfl) ?_; dsimp only)); at_builtin; refine Kd.R_append_rows (Kd.int .u8) (w0 := w) w.heap.size rfl (.tmp 5) (.tmp 6) 29 5 (.int .u8 0) 1 rfl Try.underlying29 info5 rfl (by decide) (by omega) v143 y142 l0 _ _ _ (fun _ => True) (fun _ => False) rfl rfl ?aO ?aR (fun _ _ h => h) (fun _ h => h.elim) ?aF ?aB ?aS ?aL ?_; (case aR => repeat (first | exact (Kd.C_below HR0.out HB.out) | (with_reducible refine Kd.C_alloc ?_ _) | (with_reducible refine Kd.C_drewN ?_ _) | (with_reducible refine Kd.C_drew ?_))); (case aB => exact (by repeat (first | (with_reducible first | exact HB.out | apply below_alloc | apply pw_below_drewN | apply below_drew1) | exact HB.out))); (case aF => exact (fun _ _ => trivial)); (case aO => exact (by (with_reducible repeat (first | apply Kd.R_alloc | apply Kd.R_drewN | apply Kd.R_drew)); exact HO144.out)); (case aS => exact (below_size (by repeat (first | (with_reducible first | exact HB.out | apply below_alloc | apply pw_below_drewN | apply below_drew1) | exact HB.out)))); (case aL => have := LMc2.out; first | omega | (simp only [List.length_take] at *; omega)); intro v146 w31 ho hb hg hat; rw [← Ny145.out] at ho; have n0_ := Aside0.mk (hb); have n1_ := Aside0.mk (ho); clear HB; clear HO144; have HB := n0_; have HO147 := n1_; clear n0_ n1_; clear ho hb hg hat; obtain ⟨Ao32, co32, eo32⟩ := Kd.R_slice HO147.out; subst eo32) | (go_at_call 10; (with_reducible refine (image_Words.calls _ _ y145 t148 _ ?side1 ?side2 A3.out).mono ?_); (case side1 => repeat (first | exact (Kd.R_reads' HO147.out).2.2 | (with_reducible refine Kd.C_alloc ?_ _) | (with_reducible refine Kd.C_drewN ?_ _) | (with_reducible refine Kd.C_drew ?_))); (case side2 => exact (Kd.R_reads' HO147.out).2.1); rintro e w33 ⟨v149, rfl, ho0, hb⟩; have n0_ := Aside0.mk (Kd.R_below (by (with_reducible repeat (first | apply Kd.R_alloc | apply Kd.R_drewN | apply Kd.R_drew)); exact HO147.out) hb); have n1_ := Aside0.mk (Kd.R_lower ho0 (below_size (by repeat (first | (with_reducible first | exact HB.out | apply below_alloc | apply pw_below_drewN | apply below_drew1) | exact HB.out)))); have n2_ := Aside0.mk (below_step (by repeat (first | (with_reducible first | exact HB.out | apply below_alloc | apply pw_below_drewN | apply below_drew1) | exact HB.out)) hb); clear HO147; clear HB; have HO147 := n0_; have HO150 := n1_; have HB := n2_; clear n0_ n1_ n2_; (try clear hb); (try clear hb2); (try clear hk); (try clear hi); (try clear ho0); obtain ⟨Ao34, co34, eo34⟩ := Kd.R_slice HO150.out; subst eo34)))
      go_ret
      exact ⟨by first | rfl | (simp [errW_none, errW_some] <;> rfl) | (simp [*, errW_none, errW_some] <;> rfl), by repeat (first | (with_reducible first | exact HB.out | apply below_alloc | apply pw_below_drewN | apply below_drew1) | exact HB.out)⟩
  · rw [if_neg c2] at H
    exact absurd H (by simp)

/-- THE ONE PURE STATEMENT of bautalaw03_ImageWords: yours. -/
def bautalaw03_ImageWords.Pure : Prop := ∀ (l0 : List Int), l0.length ≤ maxLen → l0.length * 1 ≤ 140737488351232 → (∀ x ∈ l0, (Lit.int .u8 x).wf = true) → ∃ k, bautalaw03_ImageWords.f k l0 = some true
theorem bautalaw03_ImageWords.walk (P : bautalaw03_ImageWords.Pure) (a0 : Option Addr) (len0 cap0 : Nat) (z0 : List Int) (w : World) (w0 : (a0 = none ∧ len0 = 0 ∧ cap0 = 0 ∧ z0 = []) ∨ ∃ x, a0 = some x ∧ len0 ≤ cap0 ∧ cap0 ≤ maxLen ∧ z0.length = cap0 ∧ (∀ i, i < z0.length → w.cell? (x.add i) = some (.int .u8 (z0.getD i 0))) ∧ ∀ n ∈ z0, (Lit.int .u8 n).wf = true) (y0 : len0 * 1 ≤ 140737488351232) :
    Calls Try.prog 4 #[.slice a0 len0 cap0] w fun e w' => e = .returned (.bool true) ∧ Below w.heap.size w w' := by
  obtain ⟨l0, rfl, hr0, hm0, hw0, hc0⟩ := ReadsInt.ofRowC w0
  obtain ⟨k, h⟩ := P l0 hm0 y0 hw0
  refine (bautalaw03_ImageWords.calls k _ _ l0 true w (Kd.C_of_reads (d := (0 : Int)) (h1 := fun _ => rfl) hr0) hc0 h).mono ?_
  rintro e w' ⟨rfl, hd⟩
  exact ⟨rfl, hd⟩

end Go.Proofs.Ytimhllaahihhgaa.PA
