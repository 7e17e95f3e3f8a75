/- ImageCuts: a beginning of an image's bytes is too short. No condition but the hypotheses that each theorem states. -/
import Derived.Test.YtimhllaahihhgaaVC
namespace Go.Proofs.Ytimhllaahihhgaa.PA
open Go.RowKit Go.Proofs.YtimhllaahihhgaaW.PrintWords Go.Proofs.YtimhllaahihhgaaW.PrintLast Go.Proofs.YtimhllaahihhgaaW.PrintMore
set_option linter.unusedVariables false
set_option linter.unusedSimpArgs false
theorem wrap64_in' (n : Int) (h : -9223372036854775808 ≤ n ∧ n ≤ 9223372036854775807) : wrap64 n = n := by unfold wrap64; omega
theorem canB_parts {a b c d : Int} {x y z : List S26} (h : canB a b c d x y z = true) : (0 ≤ a ∧ a < 4294967296) ∧ (0 ≤ b ∧ b < 4294967296) ∧ (0 ≤ c ∧ c < 4294967296) ∧ (0 ≤ d ∧ d < 4294967296) ∧ listOK x = true ∧ listOK y = true ∧ listOK z = true := by
  unfold canB numOK at h
  simp only [Bool.and_eq_true, decide_eq_true_eq] at h
  obtain ⟨h1, h2, h3, h4, h5, h6, h7, h8⟩ := h
  exact ⟨by omega, by omega, by omega, by omega, h5, h6, h7⟩
/-- Cells' bytes. -/
def encC (L : List S26) : List Int := L.flatMap fun c => [(c.f0.size : Int) % 256] ++ Go.Proofs.YtimhllaahihhgaaW.PrintWords.bytesOf c.f0 ++ L4 c.f1
theorem encC_cons (c : S26) (t : List S26) : encC (c :: t) = [(c.f0.size : Int) % 256] ++ Go.Proofs.YtimhllaahihhgaaW.PrintWords.bytesOf c.f0 ++ L4 c.f1 ++ encC t := by simp [encC]
theorem encC_len (c : S26) (t : List S26) : (encC (c :: t)).length = c.f0.size + 5 + (encC t).length := by
  rw [encC_cons]
  simp only [List.length_append, List.length_cons, List.length_nil, bytesOf_length, L4_len]
  omega
theorem cellsB_enc : ∀ (L : List S26) (xs : List Int), xs.length + (encC L).length ≤ 140737488351232 → cellsB gI L xs = some (xs ++ encC L)
  | [], xs, _ => by simp [cellsB, encC]
  | c :: t, xs, h => by
    rw [encC_len] at h
    rw [cellsB, if_pos (by omega)]
    rw [show gI (xs ++ [(c.f0.size : Int) % 256] ++ Go.Proofs.YtimhllaahihhgaaW.PrintWords.bytesOf c.f0) c.f1 = some (xs ++ [(c.f0.size : Int) % 256] ++ Go.Proofs.YtimhllaahihhgaaW.PrintWords.bytesOf c.f0 ++ L4 c.f1) from rfl, Option.bind_some, cellsB_enc t _ (by simp only [List.length_append, List.length_cons, List.length_nil, bytesOf_length, L4_len]; omega), encC_cons]
    simp
theorem wrap_u16n (n : Int) : IntKind.u16.wrap n = n % 65536 := by simp [IntKind.wrap, IntKind.bits, IntKind.signed]
theorem ofInt_u16n (a : Nat) (ha : a < 65536) : (BitVec.ofInt 16 (a : Int)).toNat = a := by
  rw [BitVec.ofInt_natCast, BitVec.toNat_ofNat]; exact Nat.mod_eq_of_lt (by omega)
theorem or_u16n (a b : Nat) (ha : a < 65536) (hb : b < 65536) : Go.bits .or .u16 (a : Int) (b : Int) = ((a ||| b : Nat) : Int) := by
  have hx := Nat.or_lt_two_pow (n := 16) ha hb
  show IntKind.u16.wrap ((BitVec.ofInt 16 (a : Int) ||| BitVec.ofInt 16 (b : Int)).toNat : Int) = _
  rw [BitVec.toNat_or, ofInt_u16n a ha, ofInt_u16n b hb, wrap_u16n]
  omega
theorem half2_nat (a b : Nat) (ha : a < 256) (hb : b < 256) : half2 (a : Int) (b : Int) = ((a + 256 * b : Nat) : Int) := by
  unfold half2
  rw [wrap_u16n, wrap_u16n, wrap_u16n]
  have h1 : ((a : Int) % 65536) = ((a : Nat) : Int) := by omega
  have h2 : ((b : Int) % 65536 * 256 % 65536) = ((b * 256 : Nat) : Int) := by omega
  rw [h1, h2, or_u16n a (b * 256) (by omega) (by omega)]
  have h3 := Nat.shiftLeft_add_eq_or_of_lt (b := a) (i := 8) (by omega) b
  rw [Nat.shiftLeft_eq] at h3
  rw [Nat.or_comm, ← h3]
  omega
theorem half2_eq (a b : Int) (ha : 0 ≤ a ∧ a < 256) (hb : 0 ≤ b ∧ b < 256) : half2 a b = a + 256 * b := by
  obtain ⟨n, rfl⟩ : ∃ n : Nat, a = (n : Int) := ⟨a.toNat, by omega⟩
  obtain ⟨m, rfl⟩ : ∃ n : Nat, b = (n : Int) := ⟨b.toNat, by omega⟩
  rw [half2_nat n m (by omega) (by omega)]
  omega
theorem listsB_enc (x y z : List S26) (xs : List Int) (h : xs.length + (3 + (encC x).length + (encC y).length + (encC z).length) ≤ 140737488351232) :
    listsB gI [x, y, z] xs = some (xs ++ ([(x.length : Int) % 256] ++ encC x ++ ([(y.length : Int) % 256] ++ encC y ++ ([(z.length : Int) % 256] ++ encC z)))) := by
  rw [listsB, if_pos (by omega), cellsB_enc x _ (by simp only [List.length_append, List.length_cons, List.length_nil]; omega), Option.bind_some]
  rw [listsB, if_pos (by simp only [List.length_append, List.length_cons, List.length_nil]; omega), cellsB_enc y _ (by simp only [List.length_append, List.length_cons, List.length_nil]; omega), Option.bind_some]
  rw [listsB, if_pos (by simp only [List.length_append, List.length_cons, List.length_nil]; omega), cellsB_enc z _ (by simp only [List.length_append, List.length_cons, List.length_nil]; omega), Option.bind_some]
  rw [listsB]
  simp only [List.append_assoc]
theorem put_ok (code : List Int) (a b c d : Int) (x y z : List S26) (hcan : canB a b c d x y z = true) (hc : code.length ≤ 60000) (h : 24 + 2 * code.length + (3 + (encC x).length + (encC y).length + (encC z).length) ≤ 140737488351232) :
    image_Put.f code a b c d x y z = some (headB a b c d (code.length : Int) ++ hbs code ++ ([(x.length : Int) % 256] ++ encC x ++ ([(y.length : Int) % 256] ++ encC y ++ ([(z.length : Int) % 256] ++ encC z))), 0) := by
  unfold image_Put.f
  rw [show image_can.f a b c d x y z = some true from congrArg some hcan, Option.bind_some, if_pos rfl, if_neg (by omega)]
  unfold image_put.f
  rw [if_pos (by omega), listsB_enc x y z _ (by rw [List.length_append, headB_len, hbs_len]; omega)]
  rfl
theorem few2 (x z : List S26) (y : List S26) (a b c d : Int) (hl : z.length < 9223372036854775808) : ∀ (n k i : Nat) (x3 : Int), i + n = z.length → n < k → ∃ r, bautalaw03_few.l2 k x3 (i : Int) a b c d x y z = some r
  | 0, 0, i, x3, h, hk => absurd hk (by omega)
  | n + 1, 0, i, x3, h, hk => absurd hk (by omega)
  | 0, k + 1, i, x3, h, hk => by rw [bautalaw03_few.l2, if_neg (by omega)]; exact ⟨_, rfl⟩
  | n + 1, k + 1, i, x3, h, hk => by
    rw [bautalaw03_few.l2, if_pos (by omega)]
    by_cases h3 : x3 ≤ 3000
    · rw [if_pos h3, if_pos (by omega), wrap64_in' ((i : Int) + 1) (by omega)]
      exact few2 x z y a b c d hl n k (i + 1) _ (by omega) (by omega)
    · rw [if_neg h3]; exact ⟨_, rfl⟩
theorem few3 (x z : List S26) (y : List S26) (a b c d : Int) (hl : z.length < 9223372036854775808) (k : Nat) (x3 : Int) (hk : z.length + 1 < k) : ∃ r, bautalaw03_few.j3 k x3 a b c d x y z = some r := by
  obtain ⟨m, rfl⟩ : ∃ m, k = m + 1 := ⟨k - 1, by omega⟩
  rw [bautalaw03_few.j3]
  exact few2 x z y a b c d hl z.length m 0 x3 (by omega) (by omega)
theorem few1 (x z : List S26) (y : List S26) (a b c d : Int) (hl : z.length < 9223372036854775808) (hy : y.length < 9223372036854775808) : ∀ (n k i : Nat) (x3 : Int), i + n = y.length → n + z.length + 2 < k → ∃ r, bautalaw03_few.l1 k x3 (i : Int) a b c d x y z = some r
  | 0, 0, i, x3, h, hk => absurd hk (by omega)
  | n + 1, 0, i, x3, h, hk => absurd hk (by omega)
  | 0, k + 1, i, x3, h, hk => by rw [bautalaw03_few.l1, if_neg (by omega)]; exact few3 x z y a b c d hl k x3 (by omega)
  | n + 1, k + 1, i, x3, h, hk => by
    rw [bautalaw03_few.l1, if_pos (by omega)]
    by_cases h3 : x3 ≤ 3000
    · rw [if_pos h3, if_pos (by omega), wrap64_in' ((i : Int) + 1) (by omega)]
      exact few1 x z y a b c d hl hy n k (i + 1) _ (by omega) (by omega)
    · rw [if_neg h3]; exact few3 x z y a b c d hl k x3 (by omega)
theorem few4 (x z : List S26) (y : List S26) (a b c d : Int) (hl : z.length < 9223372036854775808) (hy : y.length < 9223372036854775808) (k : Nat) (x3 : Int) (hk : y.length + z.length + 3 < k) : ∃ r, bautalaw03_few.j1 k x3 a b c d x y z = some r := by
  obtain ⟨m, rfl⟩ : ∃ m, k = m + 1 := ⟨k - 1, by omega⟩
  rw [bautalaw03_few.j1]
  exact few1 x z y a b c d hl hy y.length m 0 x3 (by omega) (by omega)
theorem few0 (x z : List S26) (y : List S26) (a b c d : Int) (hl : z.length < 9223372036854775808) (hy : y.length < 9223372036854775808) (hx : x.length < 9223372036854775808) : ∀ (n k i : Nat) (x3 : Int), i + n = x.length → n + y.length + z.length + 4 < k → ∃ r, bautalaw03_few.l0 k x3 (i : Int) a b c d x y z = some r
  | 0, 0, i, x3, h, hk => absurd hk (by omega)
  | n + 1, 0, i, x3, h, hk => absurd hk (by omega)
  | 0, k + 1, i, x3, h, hk => by rw [bautalaw03_few.l0, if_neg (by omega)]; exact few4 x z y a b c d hl hy k x3 (by omega)
  | n + 1, k + 1, i, x3, h, hk => by
    rw [bautalaw03_few.l0, if_pos (by omega)]
    by_cases h3 : x3 ≤ 3000
    · rw [if_pos h3, if_pos (by omega), wrap64_in' ((i : Int) + 1) (by omega)]
      exact few0 x z y a b c d hl hy hx n k (i + 1) _ (by omega) (by omega)
    · rw [if_neg h3]; exact few4 x z y a b c d hl hy k x3 (by omega)
theorem takeB_app {n : Nat} (D rest : List Int) (h : D.length = n) : takeB n (D ++ rest) false = (D, rest, false) := by
  subst h
  unfold takeB
  rw [if_neg (by simp), List.take_left, List.drop_left]
theorem L4_bytes (n : Int) : Bytes (L4 n) := by
  intro x hx
  simp only [L4, List.mem_cons, List.not_mem_nil, or_false] at hx
  rcases hx with rfl | rfl | rfl | rfl <;> omega
theorem num4_L4 {n : Int} (h0 : 0 ≤ n) (h1 : n < 4294967296) : num4 (L4 n) = n := by
  rw [num4_eq (L4_bytes n)]
  show n % 256 + 256 * (n / 256 % 256) + 65536 * (n / 65536 % 256) + 16777216 * (n / 16777216 % 256) = n
  omega
theorem halves_hbs : ∀ (l : List Int), (∀ x ∈ l, 0 ≤ x ∧ x < 65536) → halvesL (hbs l) = l
  | [], _ => rfl
  | x :: t, h => by
    have hx := h x (by simp)
    have e : hbs (x :: t) = x % 256 :: x / 256 % 256 :: hbs t := by simp [hbs]
    rw [e, halvesL, half2_eq _ _ (by omega) (by omega), halves_hbs t (fun y hy => h y (by simp [hy]))]
    congr 1
    omega
theorem str_bytes (s : ByteArray) : strOfNums (Go.Proofs.YtimhllaahihhgaaW.PrintWords.bytesOf s) = s := by
  unfold strOfNums Go.Proofs.YtimhllaahihhgaaW.PrintWords.bytesOf
  rw [List.map_map]
  have e : ((fun n : Int => UInt8.ofNat n.toNat) ∘ fun b : UInt8 => (b.toNat : Int)) = id := by
    funext b
    simp
  rw [e, List.map_id]
theorem ok_cell {l : List S26} (h : listOK l = true) : l.length ≤ 64 ∧ ∀ c ∈ l, c.f0.size ≤ 32 ∧ 0 ≤ c.f1 ∧ c.f1 ≤ 16000 := by
  unfold listOK at h
  simp only [Bool.and_eq_true, Bool.not_eq_true', List.any_eq_false, decide_eq_true_eq] at h
  refine ⟨h.1, fun c hc => ?_⟩
  have h2 := h.2 c hc
  unfold badCell at h2
  simp at h2
  omega
theorem cellsR_read : ∀ (L out : List S26) (rest : List Int), (∀ c ∈ L, c.f0.size ≤ 32 ∧ 0 ≤ c.f1 ∧ c.f1 ≤ 16000) → cellsR L.length out (encC L ++ rest) false = (out ++ L, rest, false)
  | [], out, rest, _ => by simp [cellsR, encC]
  | c :: t, out, rest, h => by
    have hc := h c (by simp)
    have e0 : encC (c :: t) ++ rest = [(c.f0.size : Int) % 256] ++ (Go.Proofs.YtimhllaahihhgaaW.PrintWords.bytesOf c.f0 ++ (L4 c.f1 ++ (encC t ++ rest))) := by rw [encC_cons]; simp only [List.append_assoc]
    rw [e0, List.length_cons, cellsR]
    have e1 := takeB_app (n := 1) [(c.f0.size : Int) % 256] (Go.Proofs.YtimhllaahihhgaaW.PrintWords.bytesOf c.f0 ++ (L4 c.f1 ++ (encC t ++ rest))) rfl
    have eo : octN ([(c.f0.size : Int) % 256] ++ (Go.Proofs.YtimhllaahihhgaaW.PrintWords.bytesOf c.f0 ++ (L4 c.f1 ++ (encC t ++ rest)))) false = c.f0.size := by
      unfold octN
      rw [e1]
      show ((c.f0.size : Int) % 256).toNat = _
      omega
    have e2 := takeB_app (n := c.f0.size) (Go.Proofs.YtimhllaahihhgaaW.PrintWords.bytesOf c.f0) (L4 c.f1 ++ (encC t ++ rest)) (bytesOf_length _)
    have e3 := takeB_app (n := 4) (L4 c.f1) (encC t ++ rest) rfl
    rw [eo]
    simp only [e1, e2, e3]
    rw [str_bytes, num4_L4 hc.2.1 (by omega), cellsR_read t _ rest (fun x hx => h x (by simp [hx]))]
    simp
theorem cellsF_read (L : List S26) (rest : List Int) (h : listOK L = true) : cellsF ([(L.length : Int) % 256] ++ (encC L ++ rest)) false = (L, rest, false) := by
  have ho := ok_cell h
  unfold cellsF
  have e1 := takeB_app (n := 1) [(L.length : Int) % 256] (encC L ++ rest) rfl
  have eo : octN ([(L.length : Int) % 256] ++ (encC L ++ rest)) false = L.length := by
    unfold octN
    rw [e1]
    show ((L.length : Int) % 256).toNat = _
    omega
  rw [eo, e1]
  simp only
  rw [cellsR_read L [] rest ho.2]
  simp
theorem tail_read (code : List Int) (a b c d : Int) (x y z : List S26) (hcan : canB a b c d x y z = true) (hc : code.length ≤ 60000) (hu : ∀ x ∈ code, 0 ≤ x ∧ x < 65536) :
    tailI (L4 a ++ (L4 b ++ (L4 c ++ (L4 d ++ (L4 (code.length : Int) ++ (hbs code ++ ([(x.length : Int) % 256] ++ (encC x ++ ([(y.length : Int) % 256] ++ (encC y ++ ([(z.length : Int) % 256] ++ (encC z ++ [])))))))))))) = (code, a, b, c, d, x, y, z, 0) := by
  have hp := canB_parts hcan
  unfold tailI
  simp only [takeB_app (n := 4) (L4 a) _ rfl, takeB_app (n := 4) (L4 b) _ rfl, takeB_app (n := 4) (L4 c) _ rfl, takeB_app (n := 4) (L4 d) _ rfl, takeB_app (n := 4) (L4 (code.length : Int)) _ rfl]
  rw [num4_L4 hp.1.1 hp.1.2, num4_L4 hp.2.1.1 hp.2.1.2, num4_L4 hp.2.2.1.1 hp.2.2.1.2, num4_L4 hp.2.2.2.1.1 hp.2.2.2.1.2, num4_L4 (n := (code.length : Int)) (by omega) (by omega)]
  rw [if_neg (by omega), show min ((code.length : Int)).toNat 60000 = code.length by omega]
  have e5 := takeB_app (n := 2 * code.length) (hbs code) ([(x.length : Int) % 256] ++ (encC x ++ ([(y.length : Int) % 256] ++ (encC y ++ ([(z.length : Int) % 256] ++ (encC z ++ [])))))) (hbs_len code)
  rw [e5]
  simp only
  rw [cellsF_read x _ hp.2.2.2.2.1]
  simp only
  rw [cellsF_read y _ hp.2.2.2.2.2.1]
  simp only
  rw [cellsF_read z _ hp.2.2.2.2.2.2]
  simp only
  rw [if_neg (by decide), if_neg (by rw [hcan]; simp), halves_hbs code hu]
theorem take_read (b0 : List Int) : takeI (77 :: 83 :: 75 :: 49 :: b0) = tailI b0 := by
  unfold takeI
  have hm : min (77 :: 83 :: 75 :: 49 :: b0).length 4 = 4 := by simp
  rw [hm, if_pos, if_neg (by simp)]
  · rfl
  · show ((strOfNums [77, 83, 75, 49]).toList == _) = true
    rw [ByteArray.toList_eq, ByteArray.toList_eq]
    rfl
theorem encC_small {l : List S26} (h : listOK l = true) : (encC l).length ≤ 40 * 64 := by
  have ho := ok_cell h
  have g : ∀ m : List S26, (∀ c ∈ m, c.f0.size ≤ 32) → (encC m).length ≤ 40 * m.length := by
    intro m
    induction m with
    | nil => intro _; simp [encC]
    | cons c t ih =>
      intro hm
      rw [encC_len]
      have h1 := hm c (by simp)
      have h2 := ih (fun x hx => hm x (by simp [hx]))
      simp
      omega
  have := g l (fun c hc => (ho.2 c hc).1)
  omega
theorem L4_in {n x : Int} (h : x ∈ L4 n) : 0 ≤ x ∧ x < 256 := L4_bytes n x h
theorem hbs_bytes (l : List Int) : Bytes (hbs l) := by
  intro x hx
  unfold hbs at hx
  obtain ⟨y, _, hy⟩ := List.mem_flatMap.mp hx
  simp only [List.mem_cons, List.not_mem_nil, or_false] at hy
  rcases hy with rfl | rfl <;> omega
theorem str_range (s : ByteArray) : Bytes (Go.Proofs.YtimhllaahihhgaaW.PrintWords.bytesOf s) := by
  intro x hx
  unfold Go.Proofs.YtimhllaahihhgaaW.PrintWords.bytesOf at hx
  obtain ⟨y, _, rfl⟩ := List.mem_map.mp hx
  have := y.toNat_lt
  omega
theorem encC_bytes (l : List S26) : Bytes (encC l) := by
  intro x hx
  unfold encC at hx
  obtain ⟨c, _, hc⟩ := List.mem_flatMap.mp hx
  rw [List.mem_append, List.mem_append] at hc
  rcases hc with (h | h) | h
  · simp at h; omega
  · exact str_range _ x h
  · exact L4_in h
theorem Bytes.append {a b : List Int} (ha : Bytes a) (hb : Bytes b) : Bytes (a ++ b) := fun x hx => (List.mem_append.mp hx).elim (ha x) (hb x)
theorem one_bytes (n : Int) : Bytes [n % 256] := by
  intro x hx
  simp at hx
  omega
theorem takeB_okc {n : Nat} {bs D b : List Int} {sh : Bool} (h : takeB n bs sh = (D, b, false)) : sh = false ∧ n ≤ bs.length ∧ D = bs.take n ∧ b = bs.drop n := by
  unfold takeB at h
  split at h
  · simp at h
  · rename_i hs
    simp only [Prod.mk.injEq] at h
    refine ⟨?_, by have : ¬ bs.length < n := fun h2 => hs (.inr h2); omega, h.1.symm, h.2.1.symm⟩
    cases sh with
    | false => rfl
    | true => exact absurd (.inl rfl) hs
theorem takeB_ext {n : Nat} {p D b : List Int} (s : List Int) (h : takeB n p false = (D, b, false)) : takeB n (p ++ s) false = (D, b ++ s, false) := by
  obtain ⟨_, hl, rfl, rfl⟩ := takeB_okc h
  unfold takeB
  rw [if_neg (by simp; omega), List.take_append_of_le_length hl, List.drop_append_of_le_length hl]
theorem takeB_shortc (n : Nat) (bs : List Int) : takeB n bs true = (List.replicate n 0, bs, true) := by unfold takeB; rw [if_pos (.inl rfl)]
theorem cellsR_shortc : ∀ (n : Nat) (out : List S26) (bs : List Int), (cellsR n out bs true).2.2 = true
  | 0, out, bs => rfl
  | n + 1, out, bs => by
    unfold cellsR
    simp only [takeB_shortc]
    exact cellsR_shortc n _ _
theorem octN_take {bs : List Int} {sh : Bool} {D b : List Int} {s1 : Bool} (h : takeB 1 bs sh = (D, b, s1)) : octN bs sh = (rd D 0).toNat := by unfold octN; rw [h]
theorem cellsR_ext : ∀ (n : Nat) (out : List S26) (p : List Int) (o : List S26) (b s : List Int), cellsR n out p false = (o, b, false) → cellsR n out (p ++ s) false = (o, b ++ s, false)
  | 0, out, p, o, b, s, h => by
    simp only [cellsR, Prod.mk.injEq] at h ⊢
    exact ⟨h.1, by rw [h.2.1], trivial⟩
  | n + 1, out, p, o, b, s, h => by
    obtain ⟨D1, b1, s1, e1⟩ : ∃ D b s, takeB 1 p false = (D, b, s) := ⟨_, _, _, rfl⟩
    rw [cellsR, octN_take e1] at h
    simp only [e1] at h
    obtain ⟨D2, b2, s2, e2⟩ : ∃ D b s, takeB (rd D1 0).toNat b1 s1 = (D, b, s) := ⟨_, _, _, rfl⟩
    simp only [e2] at h
    obtain ⟨D3, b3, s3, e3⟩ : ∃ D b s, takeB 4 b2 s2 = (D, b, s) := ⟨_, _, _, rfl⟩
    simp only [e3] at h
    cases s3 with
    | true =>
      have h2 := cellsR_shortc n (out ++ [⟨strOfNums D2, num4 D3⟩]) b3
      rw [h] at h2
      cases h2
    | false =>
      obtain ⟨rfl, _⟩ := takeB_okc e3
      obtain ⟨rfl, _⟩ := takeB_okc e2
      have x1 := takeB_ext s e1
      have x2 := takeB_ext s e2
      have x3 := takeB_ext s e3
      rw [cellsR, octN_take x1]
      simp only [x1, x2, x3]
      exact cellsR_ext n _ b3 o b s h
theorem cellsF_ext {p b s : List Int} {o : List S26} (h : cellsF p false = (o, b, false)) : cellsF (p ++ s) false = (o, b ++ s, false) := by
  unfold cellsF at h ⊢
  obtain ⟨D1, b1, s1, e1⟩ : ∃ D b s, takeB 1 p false = (D, b, s) := ⟨_, _, _, rfl⟩
  rw [octN_take e1] at h
  simp only [e1] at h
  cases s1 with
  | true =>
    have h2 := cellsR_shortc (rd D1 0).toNat [] b1
    rw [h] at h2
    cases h2
  | false =>
    have x1 := takeB_ext s e1
    rw [octN_take x1]
    simp only [x1]
    exact cellsR_ext _ _ b1 o b s h
theorem cellsF_shortc (bs : List Int) : (cellsF bs true).2.2 = true := by unfold cellsF; rw [takeB_shortc]; exact cellsR_shortc _ _ _
theorem cut_short (p s : List Int) (hs : s ≠ []) (r1 : List Int) (r2 r3 r4 r5 : Int) (r6 r7 r8 : List S26) (hfull : tailI (p ++ s) = (r1, r2, r3, r4, r5, r6, r7, r8, 0)) : tailI p = errI 3 := by
  obtain ⟨D0, b1, s1, e0⟩ : ∃ D b s, takeB 4 p false = (D, b, s) := ⟨_, _, _, rfl⟩
  obtain ⟨D1, b2, s2, e1⟩ : ∃ D b s, takeB 4 b1 s1 = (D, b, s) := ⟨_, _, _, rfl⟩
  obtain ⟨D2, b3, s3, e2⟩ : ∃ D b s, takeB 4 b2 s2 = (D, b, s) := ⟨_, _, _, rfl⟩
  obtain ⟨D3, b4, s4, e3⟩ : ∃ D b s, takeB 4 b3 s3 = (D, b, s) := ⟨_, _, _, rfl⟩
  obtain ⟨D4, b5, s5, e4⟩ : ∃ D b s, takeB 4 b4 s4 = (D, b, s) := ⟨_, _, _, rfl⟩
  obtain ⟨m, hm⟩ : ∃ m, m = min (num4 D4).toNat 60000 := ⟨_, rfl⟩
  obtain ⟨Dc, b6, s6, e5⟩ : ∃ D b s, takeB (2 * m) b5 s5 = (D, b, s) := ⟨_, _, _, rfl⟩
  obtain ⟨L1, b7, s7, e6⟩ : ∃ D b s, cellsF b6 s6 = (D, b, s) := ⟨_, _, _, rfl⟩
  obtain ⟨L2, b8, s8, e7⟩ : ∃ D b s, cellsF b7 s7 = (D, b, s) := ⟨_, _, _, rfl⟩
  obtain ⟨L3, b9, s9, e8⟩ : ∃ D b s, cellsF b8 s8 = (D, b, s) := ⟨_, _, _, rfl⟩
  have hp : tailI p = if 60000 < num4 D4 ∧ s5 = false then errI 2 else if s9 = true then errI 3 else if 0 < b9.length ∨ canB (num4 D0) (num4 D1) (num4 D2) (num4 D3) L1 L2 L3 = false then errI 4 else (halvesL Dc, num4 D0, num4 D1, num4 D2, num4 D3, L1, L2, L3, 0) := by
    unfold tailI
    simp only [e0, e1, e2, e3, e4, ← hm, e5, e6, e7, e8]
  rw [hp]
  by_cases hE : 60000 < num4 D4 ∧ s5 = false
  · exfalso
    obtain ⟨hE1, rfl⟩ := hE
    obtain ⟨rfl, _⟩ := takeB_okc e4
    obtain ⟨rfl, _⟩ := takeB_okc e3
    obtain ⟨rfl, _⟩ := takeB_okc e2
    obtain ⟨rfl, _⟩ := takeB_okc e1
    have f : tailI (p ++ s) = errI 2 := by
      unfold tailI
      simp only [takeB_ext s e0, takeB_ext s e1, takeB_ext s e2, takeB_ext s e3, takeB_ext s e4]
      rw [if_pos ⟨hE1, trivial⟩]
    rw [f] at hfull
    simp [errI] at hfull
  rw [if_neg hE]
  by_cases h9 : s9 = true
  · rw [if_pos h9]
  exfalso
  have hs9 : s9 = false := by simpa using h9
  subst hs9
  have g8 : s8 = false := by
    cases s8 with
    | false => rfl
    | true => have h2 := cellsF_shortc b8; rw [e8] at h2; exact h2.symm
  subst g8
  have g7 : s7 = false := by
    cases s7 with
    | false => rfl
    | true => have h2 := cellsF_shortc b7; rw [e7] at h2; exact h2.symm
  subst g7
  have g6 : s6 = false := by
    cases s6 with
    | false => rfl
    | true => have h2 := cellsF_shortc b6; rw [e6] at h2; exact h2.symm
  subst g6
  obtain ⟨rfl, _⟩ := takeB_okc e5
  obtain ⟨rfl, _⟩ := takeB_okc e4
  obtain ⟨rfl, _⟩ := takeB_okc e3
  obtain ⟨rfl, _⟩ := takeB_okc e2
  obtain ⟨rfl, _⟩ := takeB_okc e1
  have x8 := cellsF_ext (s := s) e8
  have f : tailI (p ++ s) = errI 4 := by
    unfold tailI
    simp only [takeB_ext s e0, takeB_ext s e1, takeB_ext s e2, takeB_ext s e3, takeB_ext s e4, ← hm, takeB_ext s e5, cellsF_ext (s := s) e6, cellsF_ext (s := s) e7, x8]
    rw [if_neg (show ¬ (60000 < num4 D4 ∧ True) from fun hq => hE ⟨hq.1, rfl⟩), if_neg Bool.false_ne_true, if_pos]
    left
    rw [List.length_append]
    have := List.length_pos_iff.mpr hs
    omega
  rw [f] at hfull
  simp [errI] at hfull
theorem take_three (l : List Int) (h : l = [] ∨ l = [77] ∨ l = [77, 83] ∨ l = [77, 83, 75]) : takeI l = errI 3 := by
  have t : ∀ n, n < 4 → ∀ l : List Int, l.length = n → ((strOfNums l).toList == ((⟨#[77, 83, 75, 49]⟩ : ByteArray).extract 0 n).toList) = true → takeI l = errI 3 := by
    intro n hn l hl he
    unfold takeI
    rw [show min l.length 4 = n by omega, List.take_of_length_le (by omega), if_pos he, if_pos (by omega)]
  rcases h with rfl | rfl | rfl | rfl
  · exact t 0 (by decide) _ rfl (by rw [ByteArray.toList_eq, ByteArray.toList_eq]; rfl)
  · exact t 1 (by decide) _ rfl (by rw [ByteArray.toList_eq, ByteArray.toList_eq]; rfl)
  · exact t 2 (by decide) _ rfl (by rw [ByteArray.toList_eq, ByteArray.toList_eq]; rfl)
  · exact t 3 (by decide) _ rfl (by rw [ByteArray.toList_eq, ByteArray.toList_eq]; rfl)
theorem take_beginning (b0 : List Int) (m : Nat) (hm : m < (77 :: 83 :: 75 :: 49 :: b0).length) (r1 : List Int) (r2 r3 r4 r5 : Int) (r6 r7 r8 : List S26) (hfull : tailI b0 = (r1, r2, r3, r4, r5, r6, r7, r8, 0)) : takeI ((77 :: 83 :: 75 :: 49 :: b0).take m) = errI 3 := by
  match m, hm with
  | 0, _ => exact take_three _ (.inl rfl)
  | 1, _ => exact take_three _ (.inr (.inl rfl))
  | 2, _ => exact take_three _ (.inr (.inr (.inl rfl)))
  | 3, _ => exact take_three _ (.inr (.inr (.inr rfl)))
  | n + 4, hm =>
    have hn : n < b0.length := by simp at hm; omega
    show takeI (77 :: 83 :: 75 :: 49 :: b0.take n) = errI 3
    rw [take_read]
    refine cut_short (b0.take n) (b0.drop n) ?_ r1 r2 r3 r4 r5 r6 r7 r8 (by rw [List.take_append_drop]; exact hfull)
    intro h
    have := congrArg List.length h
    simp at this
    omega
/-- The law's function, whatever it is given. -/
theorem cuts_all (A0 : Option Addr) (c0 : Nat) (l0 : List Int) (a0 a1 a2 a3 : Int) (A4 : Option Addr) (c4 : Nat) (l4 : List S26) (A5 : Option Addr) (c5 : Nat) (l5 : List S26) (A6 : Option Addr) (c6 : Nat) (l6 : List S26) (q : Int) (w : World)
    (hr0 : Kd.C (Kd.int .u16) w A0 l0.length l0) (hc0 : l0.length ≤ c0) (hr4 : Kd.C k26 w A4 l4.length l4) (hc4 : l4.length ≤ c4) (hr5 : Kd.C k26 w A5 l5.length l5) (hc5 : l5.length ≤ c5) (hr6 : Kd.C k26 w A6 l6.length l6) (hc6 : l6.length ≤ c6)
    (hl : l0.length * 2 ≤ 140737488351232) (hu : ∀ x ∈ l0, 0 ≤ x ∧ x < 65536) (hq : 0 ≤ q ∧ q < 65536) :
    Calls Try.prog 6 #[.slice A0 l0.length c0, .agg #[.int .i64 a0, .int .i64 a1, .int .i64 a2, .int .i64 a3, .slice A4 l4.length c4, .slice A5 l5.length c5, .slice A6 l6.length c6], .int .u16 q] w fun e w' => e = .returned (.bool true) ∧ Below w.heap.size w w' := by
  have h4 : l4.length < 9223372036854775808 := by have := Kd.C_max hr4; omega
  have h5 : l5.length < 9223372036854775808 := by have := Kd.C_max hr5; omega
  have h6 : l6.length < 9223372036854775808 := by have := Kd.C_max hr6; omega
  obtain ⟨fw, hfw⟩ := few0 l4 l6 l5 a0 a1 a2 a3 h6 h5 h4 l4.length (l4.length + l5.length + l6.length + 10) 0 0 (by omega) (by omega)
  have hfew : bautalaw03_few.f (l4.length + l5.length + l6.length + 10) a0 a1 a2 a3 l4 l5 l6 = some fw := hfw
  cases fw with
  | false => exact cuts_no A0 c0 l0 a0 a1 a2 a3 A4 c4 l4 A5 c5 l5 A6 c6 l6 q _ w hr0 hc0 hr4 hc4 hr5 hc5 hr6 hc6 hfew
  | true =>
    by_cases hcan : canB a0 a1 a2 a3 l4 l5 l6 = true
    case neg =>
      have hcan2 : canB a0 a1 a2 a3 l4 l5 l6 = false := by simpa using hcan
      have hp : image_Put.f l0 a0 a1 a2 a3 l4 l5 l6 = some ([], 1) := by
        unfold image_Put.f
        rw [show image_can.f a0 a1 a2 a3 l4 l5 l6 = some false from congrArg some hcan2, Option.bind_some, if_neg Bool.false_ne_true]
      exact cuts_e1 A0 c0 l0 a0 a1 a2 a3 A4 c4 l4 A5 c5 l5 A6 c6 l6 q _ w hr0 hc0 hr4 hc4 hr5 hc5 hr6 hc6 hfew (by omega) hp
    by_cases hlen : l0.length ≤ 60000
    case neg =>
      have hp : image_Put.f l0 a0 a1 a2 a3 l4 l5 l6 = some ([], 2) := by
        unfold image_Put.f
        rw [show image_can.f a0 a1 a2 a3 l4 l5 l6 = some true from congrArg some hcan, Option.bind_some, if_pos rfl, if_pos (by omega)]
      exact cuts_e2 A0 c0 l0 a0 a1 a2 a3 A4 c4 l4 A5 c5 l5 A6 c6 l6 q _ w hr0 hc0 hr4 hc4 hr5 hc5 hr6 hc6 hfew (by omega) hp
    have hp3 := canB_parts hcan
    have s4 := encC_small hp3.2.2.2.2.1
    have s5 := encC_small hp3.2.2.2.2.2.1
    have s6 := encC_small hp3.2.2.2.2.2.2
    have hp := put_ok l0 a0 a1 a2 a3 l4 l5 l6 hcan hlen (by omega)
    obtain ⟨B, hB⟩ : ∃ B, B = headB a0 a1 a2 a3 (l0.length : Int) ++ hbs l0 ++ ([(l4.length : Int) % 256] ++ encC l4 ++ ([(l5.length : Int) % 256] ++ encC l5 ++ ([(l6.length : Int) % 256] ++ encC l6))) := ⟨_, rfl⟩
    rw [← hB] at hp
    have hlB : B.length ≤ 200000 ∧ 24 ≤ B.length := by
      rw [hB]
      simp only [List.length_append, headB_len, hbs_len, List.length_cons, List.length_nil]
      omega
    have eB : B = 77 :: 83 :: 75 :: 49 :: (L4 a0 ++ (L4 a1 ++ (L4 a2 ++ (L4 a3 ++ (L4 (l0.length : Int) ++ (hbs l0 ++ ([(l4.length : Int) % 256] ++ (encC l4 ++ ([(l5.length : Int) % 256] ++ (encC l5 ++ ([(l6.length : Int) % 256] ++ (encC l6 ++ [])))))))))))) := by
      rw [hB]
      unfold headB
      simp only [List.append_assoc, List.append_nil, List.cons_append, List.nil_append]
    have hBB : Bytes B := by
      rw [hB]
      refine Bytes.append (Bytes.append ?_ (hbs_bytes l0)) (Bytes.append (Bytes.append (one_bytes _) (encC_bytes _)) (Bytes.append (Bytes.append (one_bytes _) (encC_bytes _)) (Bytes.append (one_bytes _) (encC_bytes _))))
      unfold headB
      refine Bytes.append (Bytes.append (Bytes.append (Bytes.append (Bytes.append ?_ (L4_bytes _)) (L4_bytes _)) (L4_bytes _)) (L4_bytes _)) (L4_bytes _)
      intro x hx
      simp at hx
      omega
    have hm0 : 0 ≤ Int.tmod q (B.length : Int) := Int.tmod_nonneg _ hq.1
    have hm1 : Int.tmod q (B.length : Int) < (B.length : Int) := Int.tmod_lt_of_pos _ (by omega)
    have ht : image_Take.f (B.take (Int.tmod q (B.length : Int)).toNat) = some ([], 0, 0, 0, 0, [], [], [], 3) := by
      unfold image_Take.f
      rw [if_pos]
      · have hlt : (Int.tmod q (B.length : Int)).toNat < B.length := by omega
        generalize (Int.tmod q (B.length : Int)).toNat = m at hlt
        rw [eB] at hlt ⊢
        rw [take_beginning _ m hlt _ _ _ _ _ _ _ _ (tail_read l0 a0 a1 a2 a3 l4 l5 l6 hcan hlen hu)]
        rfl
      · rw [List.all_eq_true]
        intro x hx
        have := hBB x (List.mem_of_mem_take hx)
        simp
        omega
    exact cuts_main A0 c0 l0 a0 a1 a2 a3 A4 c4 l4 A5 c5 l5 A6 c6 l6 q _ w hr0 hc0 hr4 hc4 hr5 hc5 hr6 hc6 B _ hq (by omega) (by omega) (by omega) hfew (by omega) hp ht
end Go.Proofs.Ytimhllaahihhgaa.PA
