/- An argument that is an array by value, of numbers, of whatever length: opened into a list of numbers, and shut again. No program in sight. -/
import Derived.WalkKit
import Derived.ProofKit
import Derived.OpenShut
import Derived.DataShut
namespace Go.Proofs.Ytialbhkamlfccaa.Arg
open Go.RowKit

section
variable {H : Type} {enc : TypeId × Value → H} {P : Program} {w : World} {vb base : Nat} {spare : Nat → Bool} {held : Bool} {t e : TypeId} {k : IntKind} {n : Nat}

theorem pick_ok {α β : Type} (f : α → β) (xs : List α) (ys : List β) (h : xs.length = ys.length) (hi : ∀ i, i < xs.length → ys[i]? = (xs[i]?).map f) : ys = xs.map f := by
  apply List.ext_getElem?
  intro i
  rcases Nat.lt_or_ge i xs.length with h' | h'
  · rw [hi i h', List.getElem?_map]
  · rw [List.getElem?_eq_none (by omega), List.getElem?_eq_none (by rw [List.length_map]; exact h')]

theorem open_int_array {v : Value} {d : DataW H} {p : List MemPlace} (ht : P.underlying t = some (.array n e)) (he : P.underlying e = some (.int k)) (hce : P.cellsOf e = 1) (hct : P.cellsOf t = n)
    (hv : Value.okWide P w .any vb t v) (h : DataW.Trod enc P w base spare held t v d p) :
    ∃ zs : List Int, zs.length = n ∧ v = .agg (zs.map (Value.int k)).toArray ∧ d = .agg (zs.map fun z => .lit (.int k z)) ∧ p = [] ∧ ∀ z ∈ zs, (Lit.int k z).wf = true := by
  obtain ⟨cs, rfl, hsz, _⟩ : ∃ cs, v = .agg cs ∧ cs.size = P.cellsOf t ∧ Row.okWide P w .any vb t cs := by
    have := hv
    simpa [Value.okWide, ht] using this
  obtain ⟨fuel, hf⟩ := h
  obtain ⟨xs, m, rfl, hx, hl, hn, hi⟩ := DataW.trod_array ht hf
  rw [hct] at hsz
  simp only [Value.cells] at hl hi
  rw [hce] at hi
  have hcl : cs.toList.length = n := by simpa using hsz
  -- each cell is a number
  have each : ∀ i, i < n → ∃ z : Int, cs.toList[i]? = some (.int k z) ∧ xs[i]? = some (.lit (.int k z), []) ∧ (Lit.int k z).wf = true := by
    intro i hlt
    have hi' := hi i hlt
    have hxi : i < xs.length := by omega
    rw [List.getElem?_eq_getElem hxi] at hi'
    obtain ⟨z, hz, hx', hw⟩ := DataW.trod_int he hi'
    refine ⟨z, ?_, by rw [List.getElem?_eq_getElem hxi, hx'], hw⟩
    have hci : i < cs.toList.length := by omega
    rw [Nat.mul_one, List.drop_eq_getElem_cons hci, List.take_succ_cons, List.take_zero] at hz
    injection hz with hz
    rw [List.getElem?_eq_getElem hci, hz]
  -- the numbers
  have num : ∀ c : Value, ∃ z : Int, (∃ y, c = .int k y) → c = .int k z := by
    intro c
    by_cases hc : ∃ y, c = .int k y
    · obtain ⟨y, hy⟩ := hc
      exact ⟨y, fun _ => hy⟩
    · exact ⟨0, fun h => absurd h hc⟩
  let f : Value → Int := fun c => Classical.choose (num c)
  have hf' : ∀ z : Int, f (.int k z) = z := by
    intro z
    have := Classical.choose_spec (num (.int k z)) ⟨z, rfl⟩
    injection this with _ h2
    exact h2.symm
  refine ⟨cs.toList.map f, by simp [hcl], ?_, ?_, ?_, ?_⟩
  · have : cs.toList = (cs.toList.map f).map (Value.int k) := by
      apply pick_ok
      · simp
      · intro i hi2
        rw [List.length_map] at hi2
        obtain ⟨z, hz, _, _⟩ := each i (by omega)
        rw [hz, List.getElem?_map, hz]
        simp [hf']
    congr 1
    apply Array.ext'
    rw [← this]
  · have : xs.map (·.1) = (cs.toList.map f).map fun z => .lit (.int k z) := by
      apply pick_ok
      · simp [hn, hcl]
      · intro i hi2
        rw [List.length_map] at hi2
        obtain ⟨z, hz, hx', _⟩ := each i (by omega)
        rw [List.getElem?_map, hx', List.getElem?_map, hz]
        simp [hf']
    rw [← this]
    exact congrArg Prod.fst hx
  · have : xs.flatMap (·.2) = [] := by
      rw [List.flatMap_eq_nil_iff]
      intro x hxm
      obtain ⟨i, hi2, rfl⟩ := List.getElem_of_mem hxm
      obtain ⟨z, _, hx', _⟩ := each i (by omega)
      rw [List.getElem?_eq_getElem hi2] at hx'
      injection hx' with hx'
      rw [hx']
    rw [← this]
    exact congrArg Prod.snd hx
  · intro z hz
    rw [List.mem_map] at hz
    obtain ⟨c, hc, rfl⟩ := hz
    obtain ⟨i, hi2, rfl⟩ := List.getElem_of_mem hc
    obtain ⟨z, hz', _, hw⟩ := each i (by omega)
    rw [List.getElem?_eq_getElem hi2] at hz'
    injection hz' with hz'
    rw [hz', hf']
    exact hw

theorem shut_int_array {zs : List Int} (ht : P.underlying t = some (.array n e)) (he : P.underlying e = some (.int k)) (hce : P.cellsOf e = 1) (hct : P.cellsOf t = n) (hl : zs.length = n) (hw : ∀ z ∈ zs, (Lit.int k z).wf = true) :
    DataW.Trod enc P w base spare held t (.agg (zs.map (Value.int k)).toArray) (.agg (zs.map fun z => .lit (.int k z))) [] := by
  refine ⟨2, ?_⟩
  have hm : ((List.range n).mapM fun i => DataW.trod enc P w base spare held 1 e (((zs.map (Value.int k)).drop (i * P.cellsOf e)).take (P.cellsOf e))) = some (zs.map fun z => ((.lit (.int k z) : DataW H), ([] : List MemPlace))) := by
    apply mapM_some_of_get
    · simp [hl]
    · intro i x hi
      have hlt : i < n := by
        rcases Nat.lt_or_ge i n with h | h
        · exact h
        · rw [List.getElem?_eq_none (by simpa using h)] at hi; cases hi
      rw [List.getElem?_eq_getElem (by simpa using hlt), List.getElem_range] at hi
      injection hi with hi
      subst hi
      have hz : i < zs.length := by omega
      have hz' : i < (zs.map (Value.int k)).length := by simpa using hz
      rw [hce, Nat.mul_one, List.drop_eq_getElem_cons hz', List.take_succ_cons, List.take_zero, List.getElem?_map, List.getElem?_eq_getElem hz, List.getElem_map]
      have := hw zs[i] (List.getElem_mem hz)
      simp [DataW.trod, he, this]
  simp only [Value.cells]
  unfold DataW.trod
  simp only [ht]
  rw [if_pos (by simp [hct, hl]), hm]
  simp [Function.comp_def]
theorem list2 (l : List Int) (h : l.length = 2) : ∃ x0 x1 : Int, l = [x0, x1] := by
  match l, h with
  | [x0, x1], _ => exact ⟨x0, x1, rfl⟩
theorem open_int_array2 {v : Value} {d : DataW H} {p : List MemPlace} (ht : P.underlying t = some (.array 2 e)) (he : P.underlying e = some (.int k)) (hce : P.cellsOf e = 1) (hct : P.cellsOf t = 2)
    (hv : Value.okWide P w .any vb t v) (h : DataW.Trod enc P w base spare held t v d p) :
    ∃ x0 x1 : Int, v = .agg #[.int k x0, .int k x1] ∧ d = .agg [.lit (.int k x0), .lit (.int k x1)] ∧ p = [] ∧ (Lit.int k x0).wf = true ∧ (Lit.int k x1).wf = true := by
  obtain ⟨zs, hl, hv', hd, hp, hw⟩ := open_int_array ht he hce hct hv h
  obtain ⟨x0, x1, rfl⟩ := list2 zs hl
  exact ⟨x0, x1, hv', hd, hp, hw _ (by simp), hw _ (by simp)⟩
theorem shut_int_array2 {x0 x1 : Int} (ht : P.underlying t = some (.array 2 e)) (he : P.underlying e = some (.int k)) (hce : P.cellsOf e = 1) (hct : P.cellsOf t = 2) (w0 : (Lit.int k x0).wf = true) (w1 : (Lit.int k x1).wf = true) :
    DataW.Trod enc P w base spare held t (.agg #[.int k x0, .int k x1]) (.agg [.lit (.int k x0), .lit (.int k x1)]) [] :=
  shut_int_array (zs := [x0, x1]) ht he hce hct rfl (by
    intro z hz
    simp only [List.mem_cons, List.not_mem_nil, or_false] at hz
    rcases hz with rfl | rfl <;> assumption)
theorem list3 (l : List Int) (h : l.length = 3) : ∃ x0 x1 x2 : Int, l = [x0, x1, x2] := by
  match l, h with
  | [x0, x1, x2], _ => exact ⟨x0, x1, x2, rfl⟩
theorem open_int_array3 {v : Value} {d : DataW H} {p : List MemPlace} (ht : P.underlying t = some (.array 3 e)) (he : P.underlying e = some (.int k)) (hce : P.cellsOf e = 1) (hct : P.cellsOf t = 3)
    (hv : Value.okWide P w .any vb t v) (h : DataW.Trod enc P w base spare held t v d p) :
    ∃ x0 x1 x2 : Int, v = .agg #[.int k x0, .int k x1, .int k x2] ∧ d = .agg [.lit (.int k x0), .lit (.int k x1), .lit (.int k x2)] ∧ p = [] ∧ (Lit.int k x0).wf = true ∧ (Lit.int k x1).wf = true ∧ (Lit.int k x2).wf = true := by
  obtain ⟨zs, hl, hv', hd, hp, hw⟩ := open_int_array ht he hce hct hv h
  obtain ⟨x0, x1, x2, rfl⟩ := list3 zs hl
  exact ⟨x0, x1, x2, hv', hd, hp, hw _ (by simp), hw _ (by simp), hw _ (by simp)⟩
theorem shut_int_array3 {x0 x1 x2 : Int} (ht : P.underlying t = some (.array 3 e)) (he : P.underlying e = some (.int k)) (hce : P.cellsOf e = 1) (hct : P.cellsOf t = 3) (w0 : (Lit.int k x0).wf = true) (w1 : (Lit.int k x1).wf = true) (w2 : (Lit.int k x2).wf = true) :
    DataW.Trod enc P w base spare held t (.agg #[.int k x0, .int k x1, .int k x2]) (.agg [.lit (.int k x0), .lit (.int k x1), .lit (.int k x2)]) [] :=
  shut_int_array (zs := [x0, x1, x2]) ht he hce hct rfl (by
    intro z hz
    simp only [List.mem_cons, List.not_mem_nil, or_false] at hz
    rcases hz with rfl | rfl | rfl <;> assumption)
theorem list4 (l : List Int) (h : l.length = 4) : ∃ x0 x1 x2 x3 : Int, l = [x0, x1, x2, x3] := by
  match l, h with
  | [x0, x1, x2, x3], _ => exact ⟨x0, x1, x2, x3, rfl⟩
theorem open_int_array4 {v : Value} {d : DataW H} {p : List MemPlace} (ht : P.underlying t = some (.array 4 e)) (he : P.underlying e = some (.int k)) (hce : P.cellsOf e = 1) (hct : P.cellsOf t = 4)
    (hv : Value.okWide P w .any vb t v) (h : DataW.Trod enc P w base spare held t v d p) :
    ∃ x0 x1 x2 x3 : Int, v = .agg #[.int k x0, .int k x1, .int k x2, .int k x3] ∧ d = .agg [.lit (.int k x0), .lit (.int k x1), .lit (.int k x2), .lit (.int k x3)] ∧ p = [] ∧ (Lit.int k x0).wf = true ∧ (Lit.int k x1).wf = true ∧ (Lit.int k x2).wf = true ∧ (Lit.int k x3).wf = true := by
  obtain ⟨zs, hl, hv', hd, hp, hw⟩ := open_int_array ht he hce hct hv h
  obtain ⟨x0, x1, x2, x3, rfl⟩ := list4 zs hl
  exact ⟨x0, x1, x2, x3, hv', hd, hp, hw _ (by simp), hw _ (by simp), hw _ (by simp), hw _ (by simp)⟩
theorem shut_int_array4 {x0 x1 x2 x3 : Int} (ht : P.underlying t = some (.array 4 e)) (he : P.underlying e = some (.int k)) (hce : P.cellsOf e = 1) (hct : P.cellsOf t = 4) (w0 : (Lit.int k x0).wf = true) (w1 : (Lit.int k x1).wf = true) (w2 : (Lit.int k x2).wf = true) (w3 : (Lit.int k x3).wf = true) :
    DataW.Trod enc P w base spare held t (.agg #[.int k x0, .int k x1, .int k x2, .int k x3]) (.agg [.lit (.int k x0), .lit (.int k x1), .lit (.int k x2), .lit (.int k x3)]) [] :=
  shut_int_array (zs := [x0, x1, x2, x3]) ht he hce hct rfl (by
    intro z hz
    simp only [List.mem_cons, List.not_mem_nil, or_false] at hz
    rcases hz with rfl | rfl | rfl | rfl <;> assumption)
theorem list8 (l : List Int) (h : l.length = 8) : ∃ x0 x1 x2 x3 x4 x5 x6 x7 : Int, l = [x0, x1, x2, x3, x4, x5, x6, x7] := by
  match l, h with
  | [x0, x1, x2, x3, x4, x5, x6, x7], _ => exact ⟨x0, x1, x2, x3, x4, x5, x6, x7, rfl⟩
theorem open_int_array8 {v : Value} {d : DataW H} {p : List MemPlace} (ht : P.underlying t = some (.array 8 e)) (he : P.underlying e = some (.int k)) (hce : P.cellsOf e = 1) (hct : P.cellsOf t = 8)
    (hv : Value.okWide P w .any vb t v) (h : DataW.Trod enc P w base spare held t v d p) :
    ∃ x0 x1 x2 x3 x4 x5 x6 x7 : Int, v = .agg #[.int k x0, .int k x1, .int k x2, .int k x3, .int k x4, .int k x5, .int k x6, .int k x7] ∧ d = .agg [.lit (.int k x0), .lit (.int k x1), .lit (.int k x2), .lit (.int k x3), .lit (.int k x4), .lit (.int k x5), .lit (.int k x6), .lit (.int k x7)] ∧ p = [] ∧ (Lit.int k x0).wf = true ∧ (Lit.int k x1).wf = true ∧ (Lit.int k x2).wf = true ∧ (Lit.int k x3).wf = true ∧ (Lit.int k x4).wf = true ∧ (Lit.int k x5).wf = true ∧ (Lit.int k x6).wf = true ∧ (Lit.int k x7).wf = true := by
  obtain ⟨zs, hl, hv', hd, hp, hw⟩ := open_int_array ht he hce hct hv h
  obtain ⟨x0, x1, x2, x3, x4, x5, x6, x7, rfl⟩ := list8 zs hl
  exact ⟨x0, x1, x2, x3, x4, x5, x6, x7, hv', hd, hp, hw _ (by simp), hw _ (by simp), hw _ (by simp), hw _ (by simp), hw _ (by simp), hw _ (by simp), hw _ (by simp), hw _ (by simp)⟩
theorem shut_int_array8 {x0 x1 x2 x3 x4 x5 x6 x7 : Int} (ht : P.underlying t = some (.array 8 e)) (he : P.underlying e = some (.int k)) (hce : P.cellsOf e = 1) (hct : P.cellsOf t = 8) (w0 : (Lit.int k x0).wf = true) (w1 : (Lit.int k x1).wf = true) (w2 : (Lit.int k x2).wf = true) (w3 : (Lit.int k x3).wf = true) (w4 : (Lit.int k x4).wf = true) (w5 : (Lit.int k x5).wf = true) (w6 : (Lit.int k x6).wf = true) (w7 : (Lit.int k x7).wf = true) :
    DataW.Trod enc P w base spare held t (.agg #[.int k x0, .int k x1, .int k x2, .int k x3, .int k x4, .int k x5, .int k x6, .int k x7]) (.agg [.lit (.int k x0), .lit (.int k x1), .lit (.int k x2), .lit (.int k x3), .lit (.int k x4), .lit (.int k x5), .lit (.int k x6), .lit (.int k x7)]) [] :=
  shut_int_array (zs := [x0, x1, x2, x3, x4, x5, x6, x7]) ht he hce hct rfl (by
    intro z hz
    simp only [List.mem_cons, List.not_mem_nil, or_false] at hz
    rcases hz with rfl | rfl | rfl | rfl | rfl | rfl | rfl | rfl <;> assumption)
end
end Go.Proofs.Ytialbhkamlfccaa.Arg
