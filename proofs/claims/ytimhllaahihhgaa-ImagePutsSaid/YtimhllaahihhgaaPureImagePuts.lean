/- ImagePuts: any code, any manifest. No condition but the hypotheses that each theorem states. -/
import Derived.Test.YtimhllaahihhgaaVQ
namespace Go.Proofs.Ytimhllaahihhgaa.PA
open Go.RowKit Go.Proofs.YtimhllaahihhgaaW.PrintWords Go.Proofs.YtimhllaahihhgaaW.PrintLast Go.Proofs.YtimhllaahihhgaaW.PrintMore
set_option linter.unusedVariables false
set_option linter.unusedSimpArgs false
/-- Cells' bytes. -/
def encC (L : List S26) : List Int := L.flatMap fun c => [(c.f0.size : Int) % 256] ++ Go.Proofs.YtimhllaahihhgaaW.PrintWords.bytesOf c.f0 ++ L4 c.f1
theorem encC_cons (c : S26) (t : List S26) : encC (c :: t) = [(c.f0.size : Int) % 256] ++ Go.Proofs.YtimhllaahihhgaaW.PrintWords.bytesOf c.f0 ++ L4 c.f1 ++ encC t := by simp [encC]
theorem encC_len (c : S26) (t : List S26) : (encC (c :: t)).length = c.f0.size + 5 + (encC t).length := by
  rw [encC_cons]
  simp only [List.length_append, List.length_cons, List.length_nil, bytesOf_length, L4_len]
  omega
theorem cellsB_enc : ∀ (L : List S26) (xs : List Int), xs.length + (encC L).length ≤ 140737488351232 → cellsB gI L xs = some (xs ++ encC L)
  | [], xs, _ => by simp [cellsB, encC]
  | c :: t, xs, h => by
    rw [encC_len] at h
    rw [cellsB, if_pos (by omega)]
    rw [show gI (xs ++ [(c.f0.size : Int) % 256] ++ Go.Proofs.YtimhllaahihhgaaW.PrintWords.bytesOf c.f0) c.f1 = some (xs ++ [(c.f0.size : Int) % 256] ++ Go.Proofs.YtimhllaahihhgaaW.PrintWords.bytesOf c.f0 ++ L4 c.f1) from rfl, Option.bind_some, cellsB_enc t _ (by simp only [List.length_append, List.length_cons, List.length_nil, bytesOf_length, L4_len]; omega), encC_cons]
    simp
theorem wrap_u16n (n : Int) : IntKind.u16.wrap n = n % 65536 := by simp [IntKind.wrap, IntKind.bits, IntKind.signed]
theorem ofInt_u16n (a : Nat) (ha : a < 65536) : (BitVec.ofInt 16 (a : Int)).toNat = a := by
  rw [BitVec.ofInt_natCast, BitVec.toNat_ofNat]; exact Nat.mod_eq_of_lt (by omega)
theorem or_u16n (a b : Nat) (ha : a < 65536) (hb : b < 65536) : Go.bits .or .u16 (a : Int) (b : Int) = ((a ||| b : Nat) : Int) := by
  have hx := Nat.or_lt_two_pow (n := 16) ha hb
  show IntKind.u16.wrap ((BitVec.ofInt 16 (a : Int) ||| BitVec.ofInt 16 (b : Int)).toNat : Int) = _
  rw [BitVec.toNat_or, ofInt_u16n a ha, ofInt_u16n b hb, wrap_u16n]
  omega
theorem half2_nat (a b : Nat) (ha : a < 256) (hb : b < 256) : half2 (a : Int) (b : Int) = ((a + 256 * b : Nat) : Int) := by
  unfold half2
  rw [wrap_u16n, wrap_u16n, wrap_u16n]
  have h1 : ((a : Int) % 65536) = ((a : Nat) : Int) := by omega
  have h2 : ((b : Int) % 65536 * 256 % 65536) = ((b * 256 : Nat) : Int) := by omega
  rw [h1, h2, or_u16n a (b * 256) (by omega) (by omega)]
  have h3 := Nat.shiftLeft_add_eq_or_of_lt (b := a) (i := 8) (by omega) b
  rw [Nat.shiftLeft_eq] at h3
  rw [Nat.or_comm, ← h3]
  omega
theorem half2_eq (a b : Int) (ha : 0 ≤ a ∧ a < 256) (hb : 0 ≤ b ∧ b < 256) : half2 a b = a + 256 * b := by
  obtain ⟨n, rfl⟩ : ∃ n : Nat, a = (n : Int) := ⟨a.toNat, by omega⟩
  obtain ⟨m, rfl⟩ : ∃ n : Nat, b = (n : Int) := ⟨b.toNat, by omega⟩
  rw [half2_nat n m (by omega) (by omega)]
  omega
theorem halves_l0 (x : List Int) (hl : x.length < 9223372036854775808) : ∀ (d k i : Nat), i + d = x.length → d < k → bautaref03_Halves.l0 k x x (i : Int) = some true
  | 0, 0, i, h, hk => absurd hk (by omega)
  | d + 1, 0, i, h, hk => absurd hk (by omega)
  | 0, k + 1, i, h, hk => by rw [bautaref03_Halves.l0, if_neg (by omega)]
  | d + 1, k + 1, i, h, hk => by
    rw [bautaref03_Halves.l0, if_pos (by omega), if_pos (by omega), if_pos (by omega), if_pos rfl, wrap64_in' _ (by omega)]
    exact halves_l0 x hl d k (i + 1) (by omega) (by omega)
theorem halves_same (x : List Int) (k : Nat) (hl : x.length < 9223372036854775808) (hk : x.length < k) : bautaref03_Halves.f k x x = some true := by
  unfold bautaref03_Halves.f
  rw [if_pos rfl]
  exact halves_l0 x hl x.length k 0 (by omega) hk
theorem rcells_l0 (x : List S26) (hl : x.length < 9223372036854775808) : ∀ (d k i : Nat), i + d = x.length → d < k → bautaref03_Cells.l0 k x x (i : Int) = some true
  | 0, 0, i, h, hk => absurd hk (by omega)
  | d + 1, 0, i, h, hk => absurd hk (by omega)
  | 0, k + 1, i, h, hk => by rw [bautaref03_Cells.l0, if_neg (by omega)]
  | d + 1, k + 1, i, h, hk => by
    rw [bautaref03_Cells.l0, if_pos (by omega), if_pos (by omega), if_pos (by omega), if_neg (by simp), wrap64_in' _ (by omega)]
    exact rcells_l0 x hl d k (i + 1) (by omega) (by omega)
theorem rcells_same (x : List S26) (k : Nat) (hl : x.length < 9223372036854775808) (hk : x.length < k) : bautaref03_Cells.f k x x = some true := by
  unfold bautaref03_Cells.f
  rw [if_pos rfl]
  exact rcells_l0 x hl x.length k 0 (by omega) hk
theorem same_same (k : Nat) (a b c d : Int) (x y z : List S26) (hx : x.length < 9223372036854775808 ∧ x.length < k) (hy : y.length < 9223372036854775808 ∧ y.length < k) (hz : z.length < 9223372036854775808 ∧ z.length < k) : bautaref03_Same.f k a b c d x y z a b c d x y z = some true := by
  unfold bautaref03_Same.f
  rw [if_pos rfl, if_pos rfl, if_pos rfl, if_pos rfl, rcells_same x k hx.1 hx.2, Option.bind_some, if_pos rfl, rcells_same y k hy.1 hy.2, Option.bind_some, if_pos rfl, rcells_same z k hz.1 hz.2]
  rfl
theorem listsB_enc (x y z : List S26) (xs : List Int) (h : xs.length + (3 + (encC x).length + (encC y).length + (encC z).length) ≤ 140737488351232) :
    listsB gI [x, y, z] xs = some (xs ++ ([(x.length : Int) % 256] ++ encC x ++ ([(y.length : Int) % 256] ++ encC y ++ ([(z.length : Int) % 256] ++ encC z)))) := by
  rw [listsB, if_pos (by omega), cellsB_enc x _ (by simp only [List.length_append, List.length_cons, List.length_nil]; omega), Option.bind_some]
  rw [listsB, if_pos (by simp only [List.length_append, List.length_cons, List.length_nil]; omega), cellsB_enc y _ (by simp only [List.length_append, List.length_cons, List.length_nil]; omega), Option.bind_some]
  rw [listsB, if_pos (by simp only [List.length_append, List.length_cons, List.length_nil]; omega), cellsB_enc z _ (by simp only [List.length_append, List.length_cons, List.length_nil]; omega), Option.bind_some]
  rw [listsB]
  simp only [List.append_assoc]
theorem put_ok (code : List Int) (a b c d : Int) (x y z : List S26) (hcan : canB a b c d x y z = true) (hc : code.length ≤ 60000) (h : 24 + 2 * code.length + (3 + (encC x).length + (encC y).length + (encC z).length) ≤ 140737488351232) :
    image_Put.f code a b c d x y z = some (headB a b c d (code.length : Int) ++ hbs code ++ ([(x.length : Int) % 256] ++ encC x ++ ([(y.length : Int) % 256] ++ encC y ++ ([(z.length : Int) % 256] ++ encC z))), 0) := by
  unfold image_Put.f
  rw [show image_can.f a b c d x y z = some true from congrArg some hcan, Option.bind_some, if_pos rfl, if_neg (by omega)]
  unfold image_put.f
  rw [if_pos (by omega), listsB_enc x y z _ (by rw [List.length_append, headB_len, hbs_len]; omega)]
  rfl
theorem few2 (x z : List S26) (y : List S26) (a b c d : Int) (hl : z.length < 9223372036854775808) : ∀ (n k i : Nat) (x3 : Int), i + n = z.length → n < k → ∃ r, bautalaw03_few.l2 k x3 (i : Int) a b c d x y z = some r
  | 0, 0, i, x3, h, hk => absurd hk (by omega)
  | n + 1, 0, i, x3, h, hk => absurd hk (by omega)
  | 0, k + 1, i, x3, h, hk => by rw [bautalaw03_few.l2, if_neg (by omega)]; exact ⟨_, rfl⟩
  | n + 1, k + 1, i, x3, h, hk => by
    rw [bautalaw03_few.l2, if_pos (by omega)]
    by_cases h3 : x3 ≤ 3000
    · rw [if_pos h3, if_pos (by omega), wrap64_in' ((i : Int) + 1) (by omega)]
      exact few2 x z y a b c d hl n k (i + 1) _ (by omega) (by omega)
    · rw [if_neg h3]; exact ⟨_, rfl⟩
theorem few3 (x z : List S26) (y : List S26) (a b c d : Int) (hl : z.length < 9223372036854775808) (k : Nat) (x3 : Int) (hk : z.length + 1 < k) : ∃ r, bautalaw03_few.j3 k x3 a b c d x y z = some r := by
  obtain ⟨m, rfl⟩ : ∃ m, k = m + 1 := ⟨k - 1, by omega⟩
  rw [bautalaw03_few.j3]
  exact few2 x z y a b c d hl z.length m 0 x3 (by omega) (by omega)
theorem few1 (x z : List S26) (y : List S26) (a b c d : Int) (hl : z.length < 9223372036854775808) (hy : y.length < 9223372036854775808) : ∀ (n k i : Nat) (x3 : Int), i + n = y.length → n + z.length + 2 < k → ∃ r, bautalaw03_few.l1 k x3 (i : Int) a b c d x y z = some r
  | 0, 0, i, x3, h, hk => absurd hk (by omega)
  | n + 1, 0, i, x3, h, hk => absurd hk (by omega)
  | 0, k + 1, i, x3, h, hk => by rw [bautalaw03_few.l1, if_neg (by omega)]; exact few3 x z y a b c d hl k x3 (by omega)
  | n + 1, k + 1, i, x3, h, hk => by
    rw [bautalaw03_few.l1, if_pos (by omega)]
    by_cases h3 : x3 ≤ 3000
    · rw [if_pos h3, if_pos (by omega), wrap64_in' ((i : Int) + 1) (by omega)]
      exact few1 x z y a b c d hl hy n k (i + 1) _ (by omega) (by omega)
    · rw [if_neg h3]; exact few3 x z y a b c d hl k x3 (by omega)
theorem few4 (x z : List S26) (y : List S26) (a b c d : Int) (hl : z.length < 9223372036854775808) (hy : y.length < 9223372036854775808) (k : Nat) (x3 : Int) (hk : y.length + z.length + 3 < k) : ∃ r, bautalaw03_few.j1 k x3 a b c d x y z = some r := by
  obtain ⟨m, rfl⟩ : ∃ m, k = m + 1 := ⟨k - 1, by omega⟩
  rw [bautalaw03_few.j1]
  exact few1 x z y a b c d hl hy y.length m 0 x3 (by omega) (by omega)
theorem few0 (x z : List S26) (y : List S26) (a b c d : Int) (hl : z.length < 9223372036854775808) (hy : y.length < 9223372036854775808) (hx : x.length < 9223372036854775808) : ∀ (n k i : Nat) (x3 : Int), i + n = x.length → n + y.length + z.length + 4 < k → ∃ r, bautalaw03_few.l0 k x3 (i : Int) a b c d x y z = some r
  | 0, 0, i, x3, h, hk => absurd hk (by omega)
  | n + 1, 0, i, x3, h, hk => absurd hk (by omega)
  | 0, k + 1, i, x3, h, hk => by rw [bautalaw03_few.l0, if_neg (by omega)]; exact few4 x z y a b c d hl hy k x3 (by omega)
  | n + 1, k + 1, i, x3, h, hk => by
    rw [bautalaw03_few.l0, if_pos (by omega)]
    by_cases h3 : x3 ≤ 3000
    · rw [if_pos h3, if_pos (by omega), wrap64_in' ((i : Int) + 1) (by omega)]
      exact few0 x z y a b c d hl hy hx n k (i + 1) _ (by omega) (by omega)
    · rw [if_neg h3]; exact few4 x z y a b c d hl hy k x3 (by omega)
theorem takeB_app {n : Nat} (D rest : List Int) (h : D.length = n) : takeB n (D ++ rest) false = (D, rest, false) := by
  subst h
  unfold takeB
  rw [if_neg (by simp), List.take_left, List.drop_left]
theorem L4_bytes (n : Int) : Bytes (L4 n) := by
  intro x hx
  simp only [L4, List.mem_cons, List.not_mem_nil, or_false] at hx
  rcases hx with rfl | rfl | rfl | rfl <;> omega
theorem num4_L4 {n : Int} (h0 : 0 ≤ n) (h1 : n < 4294967296) : num4 (L4 n) = n := by
  rw [num4_eq (L4_bytes n)]
  show n % 256 + 256 * (n / 256 % 256) + 65536 * (n / 65536 % 256) + 16777216 * (n / 16777216 % 256) = n
  omega
theorem halves_hbs : ∀ (l : List Int), (∀ x ∈ l, 0 ≤ x ∧ x < 65536) → halvesL (hbs l) = l
  | [], _ => rfl
  | x :: t, h => by
    have hx := h x (by simp)
    have e : hbs (x :: t) = x % 256 :: x / 256 % 256 :: hbs t := by simp [hbs]
    rw [e, halvesL, half2_eq _ _ (by omega) (by omega), halves_hbs t (fun y hy => h y (by simp [hy]))]
    congr 1
    omega
theorem str_bytes (s : ByteArray) : strOfNums (Go.Proofs.YtimhllaahihhgaaW.PrintWords.bytesOf s) = s := by
  unfold strOfNums Go.Proofs.YtimhllaahihhgaaW.PrintWords.bytesOf
  rw [List.map_map]
  have e : ((fun n : Int => UInt8.ofNat n.toNat) ∘ fun b : UInt8 => (b.toNat : Int)) = id := by
    funext b
    simp
  rw [e, List.map_id]
theorem ok_cell {l : List S26} (h : listOK l = true) : l.length ≤ 64 ∧ ∀ c ∈ l, c.f0.size ≤ 32 ∧ 0 ≤ c.f1 ∧ c.f1 ≤ 16000 := by
  unfold listOK at h
  simp only [Bool.and_eq_true, Bool.not_eq_true', List.any_eq_false, decide_eq_true_eq] at h
  refine ⟨h.1, fun c hc => ?_⟩
  have h2 := h.2 c hc
  unfold badCell at h2
  simp at h2
  omega
theorem cellsR_read : ∀ (L out : List S26) (rest : List Int), (∀ c ∈ L, c.f0.size ≤ 32 ∧ 0 ≤ c.f1 ∧ c.f1 ≤ 16000) → cellsR L.length out (encC L ++ rest) false = (out ++ L, rest, false)
  | [], out, rest, _ => by simp [cellsR, encC]
  | c :: t, out, rest, h => by
    have hc := h c (by simp)
    have e0 : encC (c :: t) ++ rest = [(c.f0.size : Int) % 256] ++ (Go.Proofs.YtimhllaahihhgaaW.PrintWords.bytesOf c.f0 ++ (L4 c.f1 ++ (encC t ++ rest))) := by rw [encC_cons]; simp only [List.append_assoc]
    rw [e0, List.length_cons, cellsR]
    have e1 := takeB_app (n := 1) [(c.f0.size : Int) % 256] (Go.Proofs.YtimhllaahihhgaaW.PrintWords.bytesOf c.f0 ++ (L4 c.f1 ++ (encC t ++ rest))) rfl
    have eo : octN ([(c.f0.size : Int) % 256] ++ (Go.Proofs.YtimhllaahihhgaaW.PrintWords.bytesOf c.f0 ++ (L4 c.f1 ++ (encC t ++ rest)))) false = c.f0.size := by
      unfold octN
      rw [e1]
      show ((c.f0.size : Int) % 256).toNat = _
      omega
    have e2 := takeB_app (n := c.f0.size) (Go.Proofs.YtimhllaahihhgaaW.PrintWords.bytesOf c.f0) (L4 c.f1 ++ (encC t ++ rest)) (bytesOf_length _)
    have e3 := takeB_app (n := 4) (L4 c.f1) (encC t ++ rest) rfl
    rw [eo]
    simp only [e1, e2, e3]
    rw [str_bytes, num4_L4 hc.2.1 (by omega), cellsR_read t _ rest (fun x hx => h x (by simp [hx]))]
    simp
theorem cellsF_read (L : List S26) (rest : List Int) (h : listOK L = true) : cellsF ([(L.length : Int) % 256] ++ (encC L ++ rest)) false = (L, rest, false) := by
  have ho := ok_cell h
  unfold cellsF
  have e1 := takeB_app (n := 1) [(L.length : Int) % 256] (encC L ++ rest) rfl
  have eo : octN ([(L.length : Int) % 256] ++ (encC L ++ rest)) false = L.length := by
    unfold octN
    rw [e1]
    show ((L.length : Int) % 256).toNat = _
    omega
  rw [eo, e1]
  simp only
  rw [cellsR_read L [] rest ho.2]
  simp
theorem tail_read (code : List Int) (a b c d : Int) (x y z : List S26) (hcan : canB a b c d x y z = true) (hc : code.length ≤ 60000) (hu : ∀ x ∈ code, 0 ≤ x ∧ x < 65536) :
    tailI (L4 a ++ (L4 b ++ (L4 c ++ (L4 d ++ (L4 (code.length : Int) ++ (hbs code ++ ([(x.length : Int) % 256] ++ (encC x ++ ([(y.length : Int) % 256] ++ (encC y ++ ([(z.length : Int) % 256] ++ (encC z ++ [])))))))))))) = (code, a, b, c, d, x, y, z, 0) := by
  have hp := canB_parts hcan
  unfold tailI
  simp only [takeB_app (n := 4) (L4 a) _ rfl, takeB_app (n := 4) (L4 b) _ rfl, takeB_app (n := 4) (L4 c) _ rfl, takeB_app (n := 4) (L4 d) _ rfl, takeB_app (n := 4) (L4 (code.length : Int)) _ rfl]
  rw [num4_L4 hp.1.1 hp.1.2, num4_L4 hp.2.1.1 hp.2.1.2, num4_L4 hp.2.2.1.1 hp.2.2.1.2, num4_L4 hp.2.2.2.1.1 hp.2.2.2.1.2, num4_L4 (n := (code.length : Int)) (by omega) (by omega)]
  rw [if_neg (by omega), show min ((code.length : Int)).toNat 60000 = code.length by omega]
  have e5 := takeB_app (n := 2 * code.length) (hbs code) ([(x.length : Int) % 256] ++ (encC x ++ ([(y.length : Int) % 256] ++ (encC y ++ ([(z.length : Int) % 256] ++ (encC z ++ [])))))) (hbs_len code)
  rw [e5]
  simp only
  rw [cellsF_read x _ hp.2.2.2.2.1]
  simp only
  rw [cellsF_read y _ hp.2.2.2.2.2.1]
  simp only
  rw [cellsF_read z _ hp.2.2.2.2.2.2]
  simp only
  rw [if_neg (by decide), if_neg (by rw [hcan]; simp), halves_hbs code hu]
theorem take_read (b0 : List Int) : takeI (77 :: 83 :: 75 :: 49 :: b0) = tailI b0 := by
  unfold takeI
  have hm : min (77 :: 83 :: 75 :: 49 :: b0).length 4 = 4 := by simp
  rw [hm, if_pos, if_neg (by simp)]
  · rfl
  · show ((strOfNums [77, 83, 75, 49]).toList == _) = true
    rw [ByteArray.toList_eq, ByteArray.toList_eq]
    rfl
theorem encC_small {l : List S26} (h : listOK l = true) : (encC l).length ≤ 40 * 64 := by
  have ho := ok_cell h
  have g : ∀ m : List S26, (∀ c ∈ m, c.f0.size ≤ 32) → (encC m).length ≤ 40 * m.length := by
    intro m
    induction m with
    | nil => intro _; simp [encC]
    | cons c t ih =>
      intro hm
      rw [encC_len]
      have h1 := hm c (by simp)
      have h2 := ih (fun x hx => hm x (by simp [hx]))
      simp
      omega
  have := g l (fun c hc => (ho.2 c hc).1)
  omega
theorem L4_in {n x : Int} (h : x ∈ L4 n) : 0 ≤ x ∧ x < 256 := L4_bytes n x h
theorem hbs_bytes (l : List Int) : Bytes (hbs l) := by
  intro x hx
  unfold hbs at hx
  obtain ⟨y, _, hy⟩ := List.mem_flatMap.mp hx
  simp only [List.mem_cons, List.not_mem_nil, or_false] at hy
  rcases hy with rfl | rfl <;> omega
theorem str_range (s : ByteArray) : Bytes (Go.Proofs.YtimhllaahihhgaaW.PrintWords.bytesOf s) := by
  intro x hx
  unfold Go.Proofs.YtimhllaahihhgaaW.PrintWords.bytesOf at hx
  obtain ⟨y, _, rfl⟩ := List.mem_map.mp hx
  have := y.toNat_lt
  omega
theorem encC_bytes (l : List S26) : Bytes (encC l) := by
  intro x hx
  unfold encC at hx
  obtain ⟨c, _, hc⟩ := List.mem_flatMap.mp hx
  rw [List.mem_append, List.mem_append] at hc
  rcases hc with (h | h) | h
  · simp at h; omega
  · exact str_range _ x h
  · exact L4_in h
theorem Bytes.append {a b : List Int} (ha : Bytes a) (hb : Bytes b) : Bytes (a ++ b) := fun x hx => (List.mem_append.mp hx).elim (ha x) (hb x)
theorem one_bytes (n : Int) : Bytes [n % 256] := by
  intro x hx
  simp at hx
  omega
/-- The law in plain words. -/
theorem puts_pure (l0 : List Int) (a0 a1 a2 a3 : Int) (l4 l5 l6 : List S26) (hl : l0.length * 2 ≤ 140737488351232) (hu : ∀ x ∈ l0, 0 ≤ x ∧ x < 65536) (h4 : l4.length < 9223372036854775808) (h5 : l5.length < 9223372036854775808) (h6 : l6.length < 9223372036854775808) :
    ∃ k, bautalaw03_ImagePuts.f k l0 a0 a1 a2 a3 l4 l5 l6 = some true := by
  refine ⟨l0.length + l4.length + l5.length + l6.length + 10 + 1, ?_⟩
  unfold bautalaw03_ImagePuts.f
  obtain ⟨fw, hfw⟩ := few0 l4 l6 l5 a0 a1 a2 a3 h6 h5 h4 l4.length (l0.length + l4.length + l5.length + l6.length + 10 + 1) 0 0 (by omega) (by omega)
  rw [show bautalaw03_few.f (l0.length + l4.length + l5.length + l6.length + 10 + 1) a0 a1 a2 a3 l4 l5 l6 = some fw from hfw, Option.bind_some]
  cases fw with
  | false => rw [if_neg Bool.false_ne_true]; rfl
  | true =>
    rw [if_pos rfl, Option.bind_some, List.nil_append, if_pos (by simp; omega)]
    have hall : l0.all (fun x => decide (0 ≤ x) && decide (x < 65536)) = true := by
      rw [List.all_eq_true]
      intro x hx
      have := hu x hx
      simp
      omega
    have hrp : bautaref03_Put.f l0 a0 a1 a2 a3 l4 l5 l6 = image_Put.f l0 a0 a1 a2 a3 l4 l5 l6 := by unfold bautaref03_Put.f; rw [if_pos hall]
    have hrc := rcan_eq (l0.length + l4.length + l5.length + l6.length + 10 + 1) a0 a1 a2 a3 l4 l5 l6 ⟨h4, by omega⟩ ⟨h5, by omega⟩ ⟨h6, by omega⟩
    have hic : image_Can.f a0 a1 a2 a3 l4 l5 l6 = some (canB a0 a1 a2 a3 l4 l5 l6) := rfl
    rw [hrp]
    by_cases hcan : canB a0 a1 a2 a3 l4 l5 l6 = true
    case neg =>
      have hcan2 : canB a0 a1 a2 a3 l4 l5 l6 = false := by simpa using hcan
      have hp : image_Put.f l0 a0 a1 a2 a3 l4 l5 l6 = some ([], 1) := by
        unfold image_Put.f
        rw [show image_can.f a0 a1 a2 a3 l4 l5 l6 = some false from congrArg some hcan2, Option.bind_some, if_neg Bool.false_ne_true]
      rw [hp, Option.bind_some, Option.bind_some, if_pos rfl, if_pos rfl, hic, Option.bind_some, hrc, Option.bind_some, hcan2, bautalaw03_ImagePuts.j0, if_neg (by decide), if_neg (by decide)]
      rfl
    by_cases hlen : l0.length ≤ 60000
    case neg =>
      have hp : image_Put.f l0 a0 a1 a2 a3 l4 l5 l6 = some ([], 2) := by
        unfold image_Put.f
        rw [show image_can.f a0 a1 a2 a3 l4 l5 l6 = some true from congrArg some hcan, Option.bind_some, if_pos rfl, if_pos (by omega)]
      rw [hp, Option.bind_some, Option.bind_some, if_pos rfl, if_pos rfl, hic, Option.bind_some, hrc, Option.bind_some, hcan, bautalaw03_ImagePuts.j0, if_neg (by decide), if_neg (by decide)]
      rfl
    have hp3 := canB_parts hcan
    have s4 := encC_small hp3.2.2.2.2.1
    have s5 := encC_small hp3.2.2.2.2.2.1
    have s6 := encC_small hp3.2.2.2.2.2.2
    have o4 := (ok_cell hp3.2.2.2.2.1).1
    have o5 := (ok_cell hp3.2.2.2.2.2.1).1
    have o6 := (ok_cell hp3.2.2.2.2.2.2).1
    have hp := put_ok l0 a0 a1 a2 a3 l4 l5 l6 hcan hlen (by omega)
    obtain ⟨B, hB⟩ : ∃ B, B = headB a0 a1 a2 a3 (l0.length : Int) ++ hbs l0 ++ ([(l4.length : Int) % 256] ++ encC l4 ++ ([(l5.length : Int) % 256] ++ encC l5 ++ ([(l6.length : Int) % 256] ++ encC l6))) := ⟨_, rfl⟩
    rw [← hB] at hp
    have hlB : B.length ≤ 200000 := by
      rw [hB]
      simp only [List.length_append, headB_len, hbs_len, List.length_cons, List.length_nil]
      omega
    have eB : B = 77 :: 83 :: 75 :: 49 :: (L4 a0 ++ (L4 a1 ++ (L4 a2 ++ (L4 a3 ++ (L4 (l0.length : Int) ++ (hbs l0 ++ ([(l4.length : Int) % 256] ++ (encC l4 ++ ([(l5.length : Int) % 256] ++ (encC l5 ++ ([(l6.length : Int) % 256] ++ (encC l6 ++ [])))))))))))) := by
      rw [hB]
      unfold headB
      simp only [List.append_assoc, List.append_nil, List.cons_append, List.nil_append]
    have hBB : Bytes B := by
      rw [hB]
      refine Bytes.append (Bytes.append ?_ (hbs_bytes l0)) (Bytes.append (Bytes.append (one_bytes _) (encC_bytes _)) (Bytes.append (Bytes.append (one_bytes _) (encC_bytes _)) (Bytes.append (one_bytes _) (encC_bytes _))))
      unfold headB
      refine Bytes.append (Bytes.append (Bytes.append (Bytes.append (Bytes.append ?_ (L4_bytes _)) (L4_bytes _)) (L4_bytes _)) (L4_bytes _)) (L4_bytes _)
      intro x hx
      simp at hx
      omega
    have ht : image_Take.f B = some (l0, a0, a1, a2, a3, l4, l5, l6, 0) := by
      unfold image_Take.f
      rw [if_pos, eB, take_read, tail_read l0 a0 a1 a2 a3 l4 l5 l6 hcan hlen hu]
      rw [List.all_eq_true]
      intro x hx
      have := hBB x hx
      simp
      omega
    rw [hp, Option.bind_some, Option.bind_some, if_pos rfl, if_pos rfl, hic, Option.bind_some, hrc, Option.bind_some, hcan, bautalaw03_ImagePuts.j0, if_neg (by decide), if_pos rfl, Option.bind_some, List.nil_append, if_pos (by simp; omega), ht, Option.bind_some]
    rw [halves_same l0 _ (by omega) (by omega), Option.bind_some, if_pos rfl, same_same _ _ _ _ _ _ _ _ ⟨h4, by omega⟩ ⟨h5, by omega⟩ ⟨h6, by omega⟩, Option.bind_some, if_pos rfl, if_pos rfl]
    rfl
end Go.Proofs.Ytimhllaahihhgaa.PA
