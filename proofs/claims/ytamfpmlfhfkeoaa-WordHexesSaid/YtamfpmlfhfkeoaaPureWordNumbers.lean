/- WordNumbers: which number any text is, or why none, is what the reference says (texts of up to 300 bytes; of longer ones the law asks only that the package lives). No condition. -/
import Derived.Test.YtamfpmlfhfkeoaaPureNumberF
import Derived.Test.YtamfpmlfhfkeoaaPAllx7
import Derived.Lib.Strings
namespace Go.Proofs.Ytamfpmlfhfkeoaa.B
open Go.RowKit Go.Proofs.Ytamfpmlfhfkeoaa.PAll Go.Proofs.YtamfpmlfhfkeoaaW.PrintWords Go.Proofs.YtamfpmlfhfkeoaaW.PrintLast Go.Proofs.YtamfpmlfhfkeoaaW.PrintMore

theorem toList_nil (s : ByteArray) : s.toList = ([] : List UInt8) ↔ s.size = 0 := by
  rw [Lib.toList_data, ← data_length, List.length_eq_zero_iff]
theorem bt_data (s : ByteArray) (i : Nat) (hi : i < s.size) : bt s (i : Int) = ((s.data.toList.getD i 0).toNat : Int) := by
  have h' : i < s.data.toList.length := by rw [data_length]; exact hi
  have : ((i : Int).toNat) = i := rfl
  simp only [bt, this, dif_pos hi]
  rw [List.getD_eq_getElem?_getD, List.getElem?_eq_getElem h']
  rfl
theorem bt_extract (s : ByteArray) (i : Nat) (hs : 2 ≤ s.size) (hi : i < s.size - 2) : bt (s.extract 2 s.size) (i : Int) = bt s ((i + 2 : Nat) : Int) := by
  have h1 : i < (s.extract 2 s.size).size := by rw [ByteArray.size_extract]; omega
  rw [bt_data _ _ h1, bt_data _ _ (by omega), Lib.extract_data]
  simp only [List.getD_eq_getElem?_getD, List.getElem?_take_of_lt hi, List.getElem?_drop, Nat.add_comm]
theorem head_two (s : ByteArray) (hs : 2 ≤ s.size) : ((s.extract 0 2).toList == ([48, 120] : List UInt8)) = (decide (bt s 0 = 48) && (bt s 1 == 120)) := by
  have e0 := bt_data s 0 (by omega)
  have e1 := bt_data s 1 (by omega)
  rw [show ((0 : Nat) : Int) = 0 from rfl] at e0
  rw [show ((1 : Nat) : Int) = 1 from rfl] at e1
  have hl : 2 ≤ s.data.toList.length := by rw [data_length]; exact hs
  rw [e0, e1, Lib.extract_toList]
  match h : s.data.toList, hl with
  | a :: b :: r, _ =>
    have ha : ((a.toNat : Int) = 48) ↔ a = 48 := ⟨fun h => by have : a.toNat = 48 := by omega
                                                              exact UInt8.toNat_inj.mp this, fun h => by rw [h]; rfl⟩
    have hb : ((b.toNat : Int) = 120) ↔ b = 120 := ⟨fun h => by have : b.toNat = 120 := by omega
                                                                exact UInt8.toNat_inj.mp this, fun h => by rw [h]; rfl⟩
    rw [Bool.eq_iff_iff]
    simp [ha, hb]

theorem number_same (s : ByteArray) (hs : s.size ≤ 300) (k : Nat) (hk : 20000 ≤ k) : ∃ r, word_Number.f k s = some r ∧ bautaref01_Number.f k s = some r := by
  obtain ⟨k, rfl⟩ : ∃ q, k = q + 2 := ⟨k - 2, by omega⟩
  have plain := both s s 10 0 (.inl rfl) (by omega) (by omega) (fun i _ => rfl) (toList_nil s) s.size k k 0 0 0 false (by omega) (by omega) (by omega) (by omega) (by omega) (fun _ => rfl) (by omega) (by omega)
  unfold word_Number.f bautaref01_Number.f
  by_cases h : (s.size : Int) > 1
  · rw [if_pos h, if_pos (show (0 : Nat) ≤ 2 by decide), if_pos (show (2 : Int) ≤ (s.size : Int) by omega), if_pos h, if_pos (show (0 : Int) < (s.size : Int) by omega), head_two s (by omega)]
    simp only [word_Number.j0, word_Number.j1, bautaref01_Number.j0, bautaref01_Number.j1]
    by_cases a : bt s 0 = 48
    · rw [if_pos a, if_pos (show (1 : Int) < (s.size : Int) by omega), decide_eq_true a, Bool.true_and]
      cases b : (bt s 1 == 120) with
      | true =>
        rw [if_pos rfl, if_pos (show (2 : Int) ≤ (s.size : Int) by omega), if_pos rfl]
        have hsz : (s.extract 2 s.size).size = s.size - 2 := by rw [ByteArray.size_extract]; omega
        exact both s (s.extract 2 s.size) 16 2 (.inr rfl) (by omega) (by omega) (fun i hi => bt_extract s i (by omega) (by omega)) (toList_nil _) (s.extract 2 s.size).size k k 0 0 0 false (by omega) (by omega) (by omega) (by omega) (by omega) (fun _ => rfl) (by omega) (by omega)
      | false =>
        rw [if_neg (by decide), if_neg (by decide)]
        exact plain
    · rw [if_neg a, decide_eq_false a, Bool.false_and, if_neg (by decide), if_neg (by decide)]
      exact plain
  · rw [if_neg h, if_neg h]
    simp only [word_Number.j0, word_Number.j1, bautaref01_Number.j0, bautaref01_Number.j1]
    rw [if_neg (by decide), if_neg (by decide)]
    exact plain
end Go.Proofs.Ytamfpmlfhfkeoaa.B
namespace Go.Proofs.Ytamfpmlfhfkeoaa.Pure
open Go.RowKit Go.Proofs.Ytamfpmlfhfkeoaa.PAll Go.Proofs.YtamfpmlfhfkeoaaW.PrintWords Go.Proofs.YtamfpmlfhfkeoaaW.PrintLast
open Go.Proofs.Ytamfpmlfhfkeoaa.B
theorem WordNumbers : bautalaw01_WordNumbers.Pure := by
  intro s _
  obtain ⟨k, hk⟩ : ∃ k : Nat, 20000 ≤ k := ⟨20000, Nat.le_refl _⟩
  refine ⟨k, ?_⟩
  unfold bautalaw01_WordNumbers.f
  by_cases h : (s.size : Int) > 300
  · rw [if_pos h, lives_k (by omega)]; rfl
  · obtain ⟨r, h1, h2⟩ := number_same s (by omega) k hk
    rw [if_neg h, h1, h2, Option.bind_some, Option.bind_some, if_pos rfl, if_pos rfl, lives_k (by omega)]; rfl
end Go.Proofs.Ytamfpmlfhfkeoaa.Pure
