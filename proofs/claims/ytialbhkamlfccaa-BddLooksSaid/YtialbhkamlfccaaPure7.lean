/- Which nodes hang on a node. No program in sight. No condition but the hypotheses that each theorem states. -/
import Derived.Test.YtialbhkamlfccaaM1
namespace Go.Proofs.Ytialbhkamlfccaa.Dia
set_option linter.unusedVariables false
variable {vars : Nat} {ns : List Nd}
inductive Reach (ns : List Nd) (a : Nat) : Nat → Prop
  | refl : Reach ns a a
  | lo {j : Nat} {n : Nd} : Reach ns a j → 2 ≤ j → ns[j]? = some n → Reach ns a n.lo
  | hi {j : Nat} {n : Nd} : Reach ns a j → 2 ≤ j → ns[j]? = some n → Reach ns a n.hi
theorem nodup_le : ∀ (l m : List Nat), l.Nodup → (∀ x ∈ l, x ∈ m) → l.length ≤ m.length
  | [], m, h, hs => Nat.zero_le _
  | a :: l, m, h, hs => by
    have ha := hs a (by simp)
    obtain ⟨h1, h2⟩ := List.nodup_cons.mp h
    have h3 := nodup_le l (m.erase a) h2 (fun x hx => (List.mem_erase_of_ne (fun e => h1 (by rw [← e]; exact hx))).mpr (hs x (by simp [hx])))
    rw [List.length_erase_of_mem ha] at h3
    have := List.length_pos_of_mem ha
    rw [List.length_cons]
    omega
theorem nodup_lt {l : List Nat} {N : Nat} (h : l.Nodup) (hl : ∀ x ∈ l, x < N) : l.length ≤ N := by
  have := nodup_le l (List.range N) h (fun x hx => by simpa using hl x hx)
  simpa using this
/-- The search: what was seen, what is still to be seen. -/
structure Dfs (ns : List Nd) (a : Nat) (sl st : List Nat) : Prop where
  big : ∀ j ∈ sl, 2 ≤ j ∧ j < ns.length
  nd : sl.Nodup
  lt : ∀ j ∈ st, j < ns.length
  rs : ∀ j ∈ sl, Reach ns a j
  rt : ∀ j ∈ st, Reach ns a j
  cl : ∀ (j : Nat) (n : Nd), j ∈ sl → ns[j]? = some n → (n.lo < 2 ∨ n.lo ∈ sl ∨ n.lo ∈ st) ∧ (n.hi < 2 ∨ n.hi ∈ sl ∨ n.hi ∈ st)
  st_ : a < 2 ∨ a ∈ sl ∨ a ∈ st
theorem Dfs.start {a : Nat} (ha : a < ns.length) : Dfs ns a [] [a] :=
  ⟨fun j hj => (by cases hj), List.nodup_nil, fun j hj => (by rw [List.mem_singleton.mp hj]; exact ha), fun j hj => (by cases hj), fun j hj => (by rw [List.mem_singleton.mp hj]; exact .refl), fun j n hj => (by cases hj), .inr (.inr (by simp))⟩
theorem Dfs.old {a x : Nat} {sl st : List Nat} (h : Dfs ns a sl (st ++ [x])) (hx : x < 2 ∨ x ∈ sl) : Dfs ns a sl st := by
  have hm : ∀ q, (q < 2 ∨ q ∈ sl ∨ q ∈ st ++ [x]) → (q < 2 ∨ q ∈ sl ∨ q ∈ st) := by
    intro q hq
    rcases hq with h1 | h1 | h1
    · exact .inl h1
    · exact .inr (.inl h1)
    · rcases List.mem_append.mp h1 with h2 | h2
      · exact .inr (.inr h2)
      · rw [List.mem_singleton.mp h2]
        exact hx.imp id .inl
  exact ⟨h.big, h.nd, fun j hj => h.lt j (by simp [hj]), h.rs, fun j hj => h.rt j (by simp [hj]), fun j n hj hn => ⟨hm _ (h.cl j n hj hn).1, hm _ (h.cl j n hj hn).2⟩, hm _ h.st_⟩
theorem Dfs.new {a x : Nat} {n : Nd} {sl st : List Nat} (hi : Inv vars ns) (h : Dfs ns a sl (st ++ [x])) (h2 : 2 ≤ x) (hx : x ∉ sl) (hn : ns[x]? = some n) : Dfs ns a (x :: sl) (st ++ [n.lo, n.hi]) := by
  have hxl : x < ns.length := h.lt x (by simp)
  have hb := hi.lt x n hn h2
  have hrx : Reach ns a x := h.rt x (by simp)
  have hm : ∀ q, (q < 2 ∨ q ∈ sl ∨ q ∈ st ++ [x]) → (q < 2 ∨ q ∈ x :: sl ∨ q ∈ st ++ [n.lo, n.hi]) := by
    intro q hq
    rcases hq with h1 | h1 | h1
    · exact .inl h1
    · exact .inr (.inl (by simp [h1]))
    · rcases List.mem_append.mp h1 with h3 | h3
      · exact .inr (.inr (by simp [h3]))
      · rw [List.mem_singleton.mp h3]
        exact .inr (.inl (by simp))
  refine ⟨fun j hj => ?_, List.nodup_cons.mpr ⟨hx, h.nd⟩, fun j hj => ?_, fun j hj => ?_, fun j hj => ?_, fun j m hj hm2 => ?_, hm _ h.st_⟩
  · rcases List.mem_cons.mp hj with rfl | h1
    · exact ⟨h2, hxl⟩
    · exact h.big j h1
  · rcases List.mem_append.mp hj with h1 | h1
    · exact h.lt j (by simp [h1])
    · simp at h1
      omega
  · rcases List.mem_cons.mp hj with rfl | h1
    · exact hrx
    · exact h.rs j h1
  · rcases List.mem_append.mp hj with h1 | h1
    · exact h.rt j (by simp [h1])
    · simp at h1
      rcases h1 with rfl | rfl
      · exact .lo hrx h2 hn
      · exact .hi hrx h2 hn
  · rcases List.mem_cons.mp hj with rfl | h1
    · rw [hn] at hm2
      cases hm2
      exact ⟨.inr (.inr (by simp)), .inr (.inr (by simp))⟩
    · exact ⟨hm _ (h.cl j m h1 hm2).1, hm _ (h.cl j m h1 hm2).2⟩
theorem Dfs.count {a : Nat} {sl st : List Nat} (h : Dfs ns a sl st) : sl.length ≤ ns.length := nodup_lt h.nd (fun x hx => (h.big x hx).2)
theorem Dfs.done {a : Nat} {sl : List Nat} (h : Dfs ns a sl []) (j : Nat) : j ∈ sl ↔ 2 ≤ j ∧ Reach ns a j := by
  constructor
  · exact fun hj => ⟨(h.big j hj).1, h.rs j hj⟩
  · rintro ⟨h2, hr⟩
    have key : ∀ j, Reach ns a j → j < 2 ∨ j ∈ sl := by
      intro j hr
      induction hr with
      | refl => rcases h.st_ with h1 | h1 | h1
                · exact .inl h1
                · exact .inr h1
                · cases h1
      | lo hr h2 hn ih =>
        rcases ih with h1 | h1
        · omega
        · rcases (h.cl _ _ h1 hn).1 with h3 | h3 | h3
          · exact .inl h3
          · exact .inr h3
          · cases h3
      | hi hr h2 hn ih =>
        rcases ih with h1 | h1
        · omega
        · rcases (h.cl _ _ h1 hn).2 with h3 | h3 | h3
          · exact .inl h3
          · exact .inr h3
          · cases h3
    rcases key j hr with h1 | h1
    · omega
    · exact h1
end Go.Proofs.Ytialbhkamlfccaa.Dia
