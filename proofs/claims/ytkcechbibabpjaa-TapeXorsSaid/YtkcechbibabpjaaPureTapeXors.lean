/- TapeXors: each byte xor the byte of the words at its place, and that it is undone. No condition. -/
import Derived.Test.YtkcechbibabpjaaPureTapeParts
import Derived.Test.YtkcechbibabpjaaTX
namespace Go.Proofs.Ytkcechbibabpjaa.Pure
set_option linter.unusedVariables false
open Go.RowKit Go.Proofs.Ytkcechbibabpjaa.B Go.Proofs.Ytkcechbibabpjaa.BW Go.Proofs.Ytkcechbibabpjaa.PB Go.Proofs.YtkcechbibabpjaaW.PrintWords Go.Proofs.YtkcechbibabpjaaW.PrintLast Go.Proofs.YtkcechbibabpjaaW.PrintMore
theorem wf_u8 {a : Int} (h : (Lit.int .u8 a).wf = true) : ∃ n : Nat, a = (n : Int) ∧ n < 256 := by
  have hb : 0 ≤ a ∧ a < 256 := by
    simp [Lit.wf, IntKind.min, IntKind.max, IntKind.bits, IntKind.signed] at h
    omega
  exact ⟨a.toNat, by omega, by omega⟩
theorem ofInt_u8 (a : Nat) (ha : a < 256) : (BitVec.ofInt 8 (a : Int)).toNat = a := by
  rw [BitVec.ofInt_natCast, BitVec.toNat_ofNat]; exact Nat.mod_eq_of_lt (by omega)
theorem xor8_lt {a b : Nat} (ha : a < 256) (hb : b < 256) : a ^^^ b < 256 := Nat.xor_lt_two_pow (n := 8) ha hb
theorem xor_u8 (a b : Nat) (ha : a < 256) (hb : b < 256) : Go.bits .xor .u8 (a : Int) (b : Int) = ((a ^^^ b : Nat) : Int) := by
  have h := xor8_lt ha hb
  unfold Go.bits
  show IntKind.u8.wrap (((BitVec.ofInt 8 (a : Int)) ^^^ (BitVec.ofInt 8 (b : Int))).toNat : Int) = _
  rw [BitVec.toNat_xor, ofInt_u8 a ha, ofInt_u8 b hb]
  simp only [IntKind.wrap, IntKind.bits, IntKind.signed]
  simp
  omega
/-- The byte of the words at a place. -/
noncomputable def ks (s j : Nat) : Int := (shr .u32 (wv (s % 4294967296) (s / 4294967296) (j / 4)) ((8 * (j % 4) : Nat) : Int)) % 256
theorem ks_nat (s j : Nat) : ∃ a : Nat, a < 256 ∧ ks s j = (a : Int) := by
  have h : 0 ≤ ks s j ∧ ks s j < 256 := by unfold ks; omega
  exact ⟨(ks s j).toNat, by omega, by omega⟩
theorem rd_map (g : Nat → Int) (n j : Nat) (h : j < n) : rd ((List.range n).map g) (j : Int) = g j := by
  unfold rd
  simp [List.getD_eq_getElem?_getD, List.getElem?_eq_getElem (show j < ((List.range n).map g).length by simpa using h)]
theorem rd_set (xs : List Int) (i j : Nat) (v : Int) (hi : i < xs.length) : rd (xs.set i v) (j : Int) = if j = i then v else rd xs (j : Int) := by
  unfold rd
  by_cases h : j = i
  · subst h
    rw [if_pos rfl]
    simp [List.getD_eq_getElem?_getD, List.getElem?_set_self hi]
  · rw [if_neg h]
    simp [List.getD_eq_getElem?_getD, List.getElem?_set_ne (Ne.symm h)]
theorem ext_rd {xs ys : List Int} (hl : xs.length = ys.length) (h : ∀ j, j < xs.length → rd xs (j : Int) = rd ys (j : Int)) : xs = ys := by
  apply List.ext_getElem hl
  intro i h1 h2
  have := h i h1
  unfold rd at this
  simpa [List.getD_eq_getElem?_getD, List.getElem?_eq_getElem h1, List.getElem?_eq_getElem h2] using this
theorem w8 (i : Nat) (hi : i < 1000) : wrap64 (Int.tdiv (i : Int) 4) = ((i / 4 : Nat) : Int) ∧ wrap64 (8 * Int.tmod (i : Int) 4) = ((8 * (i % 4) : Nat) : Int) := by
  rw [show (4 : Int) = ((4 : Nat) : Int) from rfl, td i 4, tm i 4 (by decide)]
  constructor
  · exact w64 (by omega) (by omega)
  · rw [show (8 : Int) * ((i % 4 : Nat) : Int) = ((8 * (i % 4) : Nat) : Int) by omega]
    exact w64 (by omega) (by omega)
/-- The stream of words. -/
noncomputable def strm (s n : Nat) : List Int := (List.range n).map fun i => wv (s % 4294967296) (s / 4294967296) i
theorem xor_l (s : Nat) (x : List Int) (n : Nat) (hx : x.length ≤ 400) (hn : (x.length + 3) / 4 ≤ n) : ∀ (d k i : Nat) (xs : List Int), i + d = x.length → xs.length = x.length →
    (∀ j, j < x.length → rd xs (j : Int) = if j < i then Go.bits .xor .u8 (rd x (j : Int)) (ks s j) else rd x (j : Int)) → d < k →
    tape_Xor.l0 k xs (strm s n) (x.length : Int) (i : Int) = some ((List.range x.length).map fun (j : Nat) => Go.bits .xor .u8 (rd x (j : Int)) (ks s j)) := by
  intro d
  induction d with
  | zero =>
    intro k i xs hi hl hj hk
    obtain ⟨k, rfl⟩ : ∃ m, k = m + 1 := ⟨k - 1, by omega⟩
    simp only [tape_Xor.l0]
    rw [if_neg (by omega)]
    congr 1
    refine ext_rd (by simp [hl]) fun j hj' => ?_
    rw [rd_map _ _ _ (by omega), hj j (by omega), if_pos (by omega)]
  | succ d ih =>
    intro k i xs hi hl hj hk
    obtain ⟨k, rfl⟩ : ∃ m, k = m + 1 := ⟨k - 1, by omega⟩
    have hw := w8 i (by omega)
    simp only [tape_Xor.l0]
    rw [hw.1, hw.2, if_pos (by omega), if_pos (by omega), if_pos (by omega), if_pos (by omega), if_pos (by simp only [strm, List.length_map, List.length_range]; omega), if_pos (by omega), w64 (by omega) (by omega)]
    refine ih k (i + 1) _ (by omega) (by rw [List.length_set]; exact hl) (fun j hj' => ?_) (by omega)
    rw [show ((i : Int)).toNat = i from rfl, rd_set _ _ _ _ (by omega)]
    have hs : rd (strm s n) ((i / 4 : Nat) : Int) = wv (s % 4294967296) (s / 4294967296) (i / 4) := by unfold strm; rw [rd_map _ _ _ (by omega)]
    by_cases he : j = i
    · subst he
      rw [if_pos rfl, if_pos (by omega), hj j (by omega), if_neg (by omega), hs]
      rfl
    · rw [if_neg he, hj j hj']
      by_cases hlt : j < i
      · rw [if_pos hlt, if_pos (by omega)]
      · rw [if_neg hlt, if_neg (by omega)]
theorem xor_f (k s : Nat) (x : List Int) (hs : s < 18446744073709551616) (hx : x.length ≤ 400) (hk : 700000 ≤ k) :
    tape_Xor.f k (s : Int) x = some ((List.range x.length).map fun (j : Nat) => Go.bits .xor .u8 (rd x (j : Int)) (ks s j)) := by
  unfold tape_Xor.f
  have e : wrap64 (Int.tdiv (wrap64 ((x.length : Int) + 3)) 4) = (((x.length + 3) / 4 : Nat) : Int) := by
    rw [w64 (i := (x.length : Int) + 3) (by omega) (by omega), show (x.length : Int) + 3 = ((x.length + 3 : Nat) : Int) by omega, show (4 : Int) = ((4 : Nat) : Int) from rfl, td]
    exact w64 (by omega) (by omega)
  have hw := words_f k s 0 ((x.length + 3) / 4) hs (by omega) (by omega) (by omega)
  rw [e, show (0 : Int) = ((0 : Nat) : Int) from rfl, hw, Option.bind_some]
  unfold slices_Clone_byte_byte.f
  rw [if_pos (by omega), Option.bind_some]
  rw [show (fun i => wv (s % 4294967296) (s / 4294967296) (16 * 0 + i)) = (fun i => wv (s % 4294967296) (s / 4294967296) i) from funext fun i => by rw [show 16 * 0 + i = i by omega]]
  exact xor_l s x ((x.length + 3) / 4) hx (Nat.le_refl _) x.length k 0 x (by omega) rfl (fun j _ => by rw [if_neg (by omega)]) (by omega)
theorem law_l (s : Nat) (x y : List Int) (hy : y = (List.range x.length).map fun (j : Nat) => Go.bits .xor .u8 (rd x (j : Int)) (ks s j)) (n : Nat) (hx : x.length ≤ 400) (hn : x.length / 4 + 1 ≤ n) (K : Nat)
    (hend : ∀ k, K ≤ k → ((tape_Xor.f k (s : Int) y).bind fun t293 => if (strOfNums t293).toList = (strOfNums x).toList then (bautalaw38_lives.f.bind fun t => some t) else some false) = some true) :
    ∀ (d k i : Nat), i + d = x.length → d + K < k → bautalaw38_TapeXors_le.l0 k (s : Int) x y (strm s n) (i : Int) = some true := by
  intro d
  have hyl : y.length = x.length := by rw [hy]; simp
  induction d with
  | zero =>
    intro k i hi hk
    obtain ⟨k, rfl⟩ : ∃ m, k = m + 1 := ⟨k - 1, by omega⟩
    simp only [bautalaw38_TapeXors_le.l0]
    rw [if_neg (by omega)]
    exact hend k (by omega)
  | succ d ih =>
    intro k i hi hk
    obtain ⟨k, rfl⟩ : ∃ m, k = m + 1 := ⟨k - 1, by omega⟩
    have hw := w8 i (by omega)
    have hu : IntKind.u64.wrap ((8 * (i % 4) : Nat) : Int) = ((8 * (i % 4) : Nat) : Int) := by rw [Ytkcechbibabpjaa.B.wrap_u64]; omega
    have hs : rd (strm s n) ((i / 4 : Nat) : Int) = wv (s % 4294967296) (s / 4294967296) (i / 4) := by unfold strm; rw [rd_map _ _ _ (by omega)]
    have hr : rd y (i : Int) = Go.bits .xor .u8 (rd x (i : Int)) (ks s i) := by rw [hy, rd_map _ _ _ (by omega)]
    simp only [bautalaw38_TapeXors_le.l0]
    rw [hw.1, hw.2, hu, hs, hr, if_pos (by omega), if_pos (by omega), if_pos (by omega), if_pos (by omega), if_pos (by simp only [strm, List.length_map, List.length_range]; omega), if_pos (by omega), w64 (by omega) (by omega)]
    rw [if_pos (show Go.bits .xor .u8 (rd x (i : Int)) (ks s i) = Go.bits .xor .u8 (rd x (i : Int)) (shr .u32 (wv (s % 4294967296) (s / 4294967296) (i / 4)) ((8 * (i % 4) : Nat) : Int) % 256) from rfl)]
    exact ih k (i + 1) (by omega) (by omega)
theorem xors_le (k s : Nat) (x : List Int) (hs : s < 18446744073709551616) (hx : x.length ≤ 400) (hb : ∀ v ∈ x, (Lit.int .u8 v).wf = true) (hk : 701000 ≤ k) : bautalaw38_TapeXors_le.f k (s : Int) x = some true := by
  obtain ⟨y, hy⟩ : ∃ y, y = (List.range x.length).map fun (j : Nat) => Go.bits .xor .u8 (rd x (j : Int)) (ks s j) := ⟨_, rfl⟩
  have hyl : y.length = x.length := by rw [hy]; simp
  have hback : (List.range y.length).map (fun (j : Nat) => Go.bits .xor .u8 (rd y (j : Int)) (ks s j)) = x := by
    refine ext_rd (by simp [hyl]) fun j hj => ?_
    have hj' : j < x.length := by simpa [hyl] using hj
    rw [rd_map _ _ _ (by omega), hy, rd_map _ _ _ hj']
    have e : rd x (j : Int) = x[j] := by unfold rd; simp [List.getD_eq_getElem?_getD, List.getElem?_eq_getElem hj']
    obtain ⟨a, ha, ha'⟩ := wf_u8 (hb _ (List.getElem_mem hj'))
    obtain ⟨b, hb', hb''⟩ := ks_nat s j
    rw [e, ha, hb'', xor_u8 a b ha' hb', xor_u8 _ b (xor8_lt ha' hb') hb', Nat.xor_assoc, Nat.xor_self, Nat.xor_zero]
  have e : wrap64 ((wrap64 ((x.length : Int) / 4)) + 1) = ((x.length / 4 + 1 : Nat) : Int) := by
    rw [show ((x.length : Int) / 4) = ((x.length / 4 : Nat) : Int) by omega, show wrap64 ((x.length / 4 : Nat) : Int) = ((x.length / 4 : Nat) : Int) from w64 (by omega) (by omega), w64 (by omega) (by omega)]
    omega
  unfold bautalaw38_TapeXors_le.f
  rw [if_neg (by omega), Option.bind_some, if_pos (by simp only [List.length_nil]; omega), List.nil_append, xor_f k s x hs hx (by omega), Option.bind_some, ← hy, e, ref_words_f k s (x.length / 4 + 1) hs (by omega) (by omega), Option.bind_some, if_pos (by rw [hyl])]
  refine law_l s x y hy (x.length / 4 + 1) hx (Nat.le_refl _) 700000 (fun k hk => ?_) x.length k 0 (by omega) (by omega)
  rw [xor_f k s y hs (by omega) hk, hback, Option.bind_some, if_pos rfl, lives_f]
  rfl
theorem TapeXors_walk (a0 : Int) (a1 : Option Addr) (len1 cap1 : Nat) (z1 : List Int) (w : World) (w0 : (Lit.int .u64 a0).wf = true) (w1 : (a1 = none ∧ len1 = 0 ∧ cap1 = 0 ∧ z1 = []) ∨ ∃ x, a1 = some x ∧ len1 ≤ cap1 ∧ cap1 ≤ maxLen ∧ z1.length = cap1 ∧ (∀ i, i < z1.length → w.cell? (x.add i) = some (.int .u8 (z1.getD i 0))) ∧ ∀ n ∈ z1, (Lit.int .u8 n).wf = true) :
    Calls Try.prog 7 #[.int .u64 a0, .slice a1 len1 cap1] w fun e w' => e = .returned (.bool true) ∧ Below w.heap.size w w' := by
  obtain ⟨l1, rfl, hr1, hm1, hw1, hc1⟩ := ReadsInt.ofRowC w1
  obtain ⟨s, rfl, hs⟩ := wf64 w0
  obtain ⟨k, hk⟩ : ∃ k : Nat, 701000 ≤ k := ⟨701000, Nat.le_refl _⟩
  have hC : Kd.C (Kd.int .u8) w a1 l1.length l1 := Kd.C_of_reads (d := (0 : Int)) (h1 := fun _ => rfl) hr1
  rcases Nat.lt_or_ge 400 l1.length with h | h
  · have hl : (l1.take 400).length = 400 := by rw [List.length_take]; omega
    have hC' := Kd.C_take hC (m := 400) (by omega)
    exact bautalaw38_TapeXors_le.calls k _ a1 cap1 l1.length (l1.take 400) true w hC' (by omega) hc1 (Or.inr ⟨h, hl⟩) (xors_le k s _ hs (by omega) (fun v hv => hw1 v (List.mem_of_mem_take hv)) hk)
  · exact bautalaw38_TapeXors_le.calls k _ a1 cap1 l1.length l1 true w hC hc1 hc1 (Or.inl ⟨rfl, h⟩) (xors_le k s l1 hs h hw1 hk)
end Go.Proofs.Ytkcechbibabpjaa.Pure
