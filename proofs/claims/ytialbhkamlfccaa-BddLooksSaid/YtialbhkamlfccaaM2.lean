/- The maps that the calls make for themselves. No condition but the hypotheses that each theorem states. -/
import Derived.Test.YtialbhkamlfccaaProg
import Derived.Maps.OwnSet
import Derived.DeepKeys4
import Derived.KernelRfl
import Derived.ChangeKeys
/- The set's two maps: three numbers as a key; what a map reads as. No condition but the hypotheses that each theorem states. -/
namespace Go.Proofs.Ytialbhkamlfccaa.Mp
open Go Go.Maps
set_option linter.unusedVariables false
theorem laidOut : laidOutB Try.prog = true := by kernel_rfl
theorem keyed54 : Keyed Try.prog 54 := Keyed.of_law (deep_law_laid laidOut (m := 5) (by decide) (of_decide_eq_true (by kernel_rfl)) (by kernel_rfl) (by kernel_rfl))
theorem keyed69 : Keyed Try.prog 69 := Keyed.of_law (deep_law_laid laidOut (m := 5) (by decide) (of_decide_eq_true (by kernel_rfl)) (by kernel_rfl) (by kernel_rfl))
def wf3 (a b c : Int) : Prop := (Lit.int .i64 a).wf = true ∧ (Lit.int .i64 b).wf = true ∧ (Lit.int .i64 c).wf = true
/-- Three numbers as a map's key. -/
def key3 (a b c : Int) : Lit := .string (keyBytes [.int .i64 a, .int .i64 b, .int .i64 c])
theorem key3_inj {a b c a' b' c' : Int} (h : wf3 a b c) (h' : wf3 a' b' c') (e : key3 a b c = key3 a' b' c') : a = a' ∧ b = b' ∧ c = c' := by
  have e1 : keyBytes [.int .i64 a, .int .i64 b, .int .i64 c] = keyBytes [.int .i64 a', .int .i64 b', .int .i64 c'] := by
    unfold key3 at e
    injection e
  simp only [keyBytes, List.flatMap_cons, List.flatMap_nil, List.append_nil, Lit.keyBytes] at e1
  obtain ⟨f1, e2⟩ := List.append_inj e1 (by rw [length_bytesBE, length_bytesBE])
  obtain ⟨f2, f3⟩ := List.append_inj e2 (by rw [length_bytesBE, length_bytesBE])
  have g : ∀ {x y : Int}, (Lit.int .i64 x).wf = true → (Lit.int .i64 y).wf = true → bytesBE (IntKind.i64.bits / 8) (x % 2 ^ IntKind.i64.bits).toNat = bytesBE (IntKind.i64.bits / 8) (y % 2 ^ IntKind.i64.bits).toNat → x = y := by
    intro x y hx hy hxy
    have hb : IntKind.i64.bits = 64 := rfl
    rw [hb] at hxy
    have p : (2 : Int) ^ 64 = 18446744073709551616 := by decide
    rw [p] at hxy
    have h2 := bytesBE_inj (w := 64 / 8) (a := (x % 18446744073709551616).toNat) (b := (y % 18446744073709551616).toNat) (by show _ < 256 ^ 8; omega) (by show _ < 256 ^ 8; omega) hxy
    simp [Lit.wf, IntKind.min, IntKind.max, IntKind.bits, IntKind.signed] at hx hy
    omega
  exact ⟨g h.1 h'.1 f1, g h.2.1 h'.2.1 f2, g h.2.2 h'.2.2 f3⟩
/-- A map reads as a function of three numbers. -/
def Reads (D : DataW Unit) (f : Int → Int → Int → Option Int) : Prop :=
  IsMap D ∧ ∀ a b c, wf3 a b c → has D (key3 a b c) = (f a b c).isSome ∧ ∀ n, f a b c = some n → D.atKey (key3 a b c) (.lit (.int .i64 0)) = .lit (.int .i64 n)
def upd (f : Int → Int → Int → Option Int) (a b c n : Int) : Int → Int → Int → Option Int := fun x y z => if x = a ∧ y = b ∧ z = c then some n else f x y z
theorem Reads.empty : Reads (.map []) (fun _ _ _ => none) := ⟨⟨[], rfl⟩, fun a b c h => ⟨rfl, fun n hn => by cases hn⟩⟩
theorem Reads.put {D : DataW Unit} {f : Int → Int → Int → Option Int} (h : Reads D f) {a b c : Int} (hw : wf3 a b c) (n : Int) (hm : IsMap (D.put (key3 a b c) (.lit (.int .i64 n)))) (hk : WideAt.IsKeyLit (key3 a b c)) : Reads (D.put (key3 a b c) (.lit (.int .i64 n))) (upd f a b c n) := by
  refine ⟨hm, fun x y z hx => ?_⟩
  unfold upd
  by_cases he : x = a ∧ y = b ∧ z = c
  · obtain ⟨rfl, rfl, rfl⟩ := he
    rw [if_pos ⟨rfl, rfl, rfl⟩, has_put_same h.1 hk, atKey_put_same h.1 hk]
    exact ⟨rfl, fun m hm2 => by cases hm2; rfl⟩
  · have hne : key3 x y z ≠ key3 a b c := fun e => he (key3_inj hx hw e)
    rw [if_neg he, has_put_other hne, atKey_put_other hne]
    exact h.2 x y z hx
theorem size_types : ∃ n, Try.prog.types.size + 1 = n + 1 + 1 := ⟨Try.prog.types.size - 1, by
  have h : 0 < Try.prog.types.size := of_decide_eq_true (by kernel_rfl)
  omega⟩
theorem key_of {k : TypeId} {f0 f1 f2 : Field} (hu : Try.prog.underlying k = some (.struct #[f0, f1, f2])) (hk : Try.prog.keyType k = true) (hc : Try.prog.cellsOf k = 3)
    (e0 : f0.type = 3 ∧ f0.offset = 0 ∧ (f0.name != "_") = true) (e1 : f1.type = 3 ∧ f1.offset = 1 ∧ (f1.name != "_") = true) (e2 : f2.type = 3 ∧ f2.offset = 2 ∧ (f2.name != "_") = true) (c3 : Try.prog.cellsOf 3 = 1)
    {a b c : Int} (h : wf3 a b c) (hf : (Value.agg #[.int .i64 a, .int .i64 b, .int .i64 c]).formed Try.prog k = true) : keyOf Try.prog k (.agg #[.int .i64 a, .int .i64 b, .int .i64 c]) = some (key3 a b c) := by
  obtain ⟨n, hn⟩ := size_types
  have hl : ∀ x : Int, (Lit.int .i64 x).wf = true → Try.prog.keyLits (n + 1) 3 [.int .i64 x] = some [.int .i64 x] := by
    intro x hx
    unfold Program.keyLits
    rw [Try.underlying3]
    simp only
    rw [if_pos ⟨trivial, hx⟩]
  unfold keyOf
  rw [hu]
  simp only
  rw [if_pos (by rw [hk, hf]; rfl), hn]
  unfold Program.keyLits
  rw [hu]
  simp only [Value.cells]
  have n0 : ¬ f0.name = "_" := by simpa using e0.2.2
  have n1 : ¬ f1.name = "_" := by simpa using e1.2.2
  have n2 : ¬ f2.name = "_" := by simpa using e2.2.2
  simp [hc, n0, n1, n2, e0.1, e0.2.1, e1.1, e1.2.1, e2.1, e2.2.1, c3, hl a h.1, hl b h.2.1, hl c h.2.2, key3]
theorem key54 {a b c : Int} (h : wf3 a b c) : keyOf Try.prog 54 (.agg #[.int .i64 a, .int .i64 b, .int .i64 c]) = some (key3 a b c) :=
  key_of Try.underlying54 (by kernel_rfl) (by kernel_rfl) ⟨rfl, rfl, by decide⟩ ⟨rfl, rfl, by decide⟩ ⟨rfl, rfl, by decide⟩ (by kernel_rfl) h (by
    have hc : Try.prog.cellsOf 54 = 3 := by kernel_rfl
    simp [Value.formed, Try.underlying54, hc])
theorem key69 {a b c : Int} (h : wf3 a b c) : keyOf Try.prog 69 (.agg #[.int .i64 a, .int .i64 b, .int .i64 c]) = some (key3 a b c) :=
  key_of Try.underlying69 (by kernel_rfl) (by kernel_rfl) ⟨rfl, rfl, by decide⟩ ⟨rfl, rfl, by decide⟩ ⟨rfl, rfl, by decide⟩ (by kernel_rfl) h (by
    have hc : Try.prog.cellsOf 69 = 3 := by kernel_rfl
    simp [Value.formed, Try.underlying69, hc])
theorem zero3 (w : World) : (zeroValue 3).run Try.prog w = .ok (.int .i64 0) w := by rfl
section
variable (w : World) {ops : Array Oper} {rest : List Oper} {o : Oper} {a : Act} {Q : Exit → Act → World → Prop} {b n : Nat} {D : DataW Unit} {f : Int → Int → Int → Option Int} {p q r : Int}
/-- 'v, ok := m[key]' AT THE OPERATION. -/
theorem look_at (hg : o.guard = none) (m x : Operand) (t k : TypeId) (hop : o.op = Op.lookup t m x true) (K : Keyed Try.prog k) (ht : Try.prog.underlying t = some (.map k 3)) (hm : a.eval m = .map (some b))
    (hown : w.ownsMap Try.prog k (plainElem Try.prog 3) b n D) (hD : Reads D f) (hw : wf3 p q r) (key : Value) (hx : a.eval x = key) (hkey : keyOf Try.prog k key = some (key3 p q r))
    (hK : ∀ c : Int, (f p q r).isSome = true → f p q r = some c → wpList Try.prog ops Q rest (a.put o.dst (.tuple #[.int .i64 c, .bool true])) w)
    (hN : ∀ c : Int, f p q r = none → wpList Try.prog ops Q rest (a.put o.dst (.tuple #[.int .i64 c, .bool false])) w) : wpList Try.prog ops Q (o :: rest) a w := by
  refine wpList_lookup_own_ok_int w hg m x t hop k 3 .i64 K ht Try.underlying3 (zero3 w) b n D hm hown key _ hx hkey ?_
  intro c hat hwc
  have h1 := hD.2 p q r hw
  cases hf : f p q r with
  | none =>
    rw [hf] at h1
    rw [h1.1]
    exact hN c hf
  | some v =>
    rw [hf] at h1
    rw [h1.1]
    have h2 := h1.2 v rfl
    rw [h2] at hat
    have hcv : v = c := by
      injection hat with h3
      injection h3
    subst hcv
    exact hK v (by rw [hf]; rfl) hf
/-- 'm[key] = v' AT THE OPERATION. -/
theorem store_at (hg : o.guard = none) (m x y : Operand) (t k : TypeId) (hop : o.op = Op.mapUpdate t m x y) (K : Keyed Try.prog k) (ht : Try.prog.underlying t = some (.map k 3)) (hm : a.eval m = .map (some b))
    (hown : w.ownsMap Try.prog k (plainElem Try.prog 3) b n D) (hn : n < maxLen) (hD : Reads D f) (hw : wf3 p q r) (key : Value) (hx : a.eval x = key) (hkey : keyOf Try.prog k key = some (key3 p q r)) (v : Int) (hv : (Lit.int .i64 v).wf = true) (hy : a.eval y = .int .i64 v)
    (hK : ∀ (w' : World) (D' : DataW Unit), w'.ownsMap Try.prog k (plainElem Try.prog 3) b (n + 1) D' → Reads D' (upd f p q r v) → w.grownBy w' (some b) → wpList Try.prog ops Q rest (a.put o.dst undef) w') : wpList Try.prog ops Q (o :: rest) a w := by
  refine wpList_mapUpdate_own w hg m x y t hop k 3 K ht (plainElem Try.prog 3) b n D hm hown hn key (.int .i64 v) _ hx hy hkey (.lit (.int .i64 v)) [] (plainElem_int Try.underlying3 hv) ?_
  intro w' h1 h2
  exact hK w' _ h1 (hD.put hw v h1.isMap (by simp [WideAt.IsKeyLit, key3])) h2
/-- 'v, ok := m[key]' as an equation on the run. -/
theorem look_run (t k : TypeId) (K : Keyed Try.prog k) (ht : Try.prog.underlying t = some (.map k 3)) (hown : w.ownsMap Try.prog k (plainElem Try.prog 3) b n D) (hD : Reads D f) (hw : wf3 p q r) (key : Value) (hkey : keyOf Try.prog k key = some (key3 p q r)) :
    ∃ c : Int, (Instr.lookup t (.map (some b)) key true).run Try.prog w = .ok (.tuple #[.int .i64 c, .bool (f p q r).isSome]) w ∧ ∀ v, f p q r = some v → c = v := by
  obtain ⟨v, ps, hrun, hv⟩ := hown.look_ok K ht (zero3 w) (plainElem_int Try.underlying3 (by decide)) hkey
  obtain ⟨c, rfl, hc, hwc⟩ := plainElem_int_inv Try.underlying3 hv
  have h1 := hD.2 p q r hw
  rw [h1.1] at hrun
  refine ⟨c, hrun, fun v hf => ?_⟩
  have h2 := h1.2 v hf
  have h3 := congrArg Prod.fst hc
  simp only at h3
  rw [h2] at h3
  injection h3 with h3
  injection h3 with _ h3
  exact h3.symm
/-- 'm[key] = v' as an equation on the run. -/
theorem store_run (t k : TypeId) (K : Keyed Try.prog k) (ht : Try.prog.underlying t = some (.map k 3)) (hown : w.ownsMap Try.prog k (plainElem Try.prog 3) b n D) (hn : n < maxLen) (hD : Reads D f) (hw : wf3 p q r) (key : Value) (hkey : keyOf Try.prog k key = some (key3 p q r)) (v : Int) (hv : (Lit.int .i64 v).wf = true) :
    ∃ (w' : World) (D' : DataW Unit), (Instr.mapUpdate t (.map (some b)) key (.int .i64 v)).run Try.prog w = .ok () w' ∧ w'.ownsMap Try.prog k (plainElem Try.prog 3) b (n + 1) D' ∧ Reads D' (upd f p q r v) ∧ w.grownBy w' (some b) := by
  obtain ⟨w', hrun, h1, h2⟩ := hown.update K ht hn hkey (plainElem_int Try.underlying3 hv)
  exact ⟨w', _, hrun, h1, hD.put hw v h1.isMap (by simp [WideAt.IsKeyLit, key3]), h2⟩
/-- 'v, ok := m[key]', with the value: nothing there reads as 0. -/
theorem look_run0 (t k : TypeId) (K : Keyed Try.prog k) (ht : Try.prog.underlying t = some (.map k 3)) (hown : w.ownsMap Try.prog k (plainElem Try.prog 3) b n D) (hD : Reads D f) (hw : wf3 p q r) (key : Value) (hkey : keyOf Try.prog k key = some (key3 p q r)) :
    (Instr.lookup t (.map (some b)) key true).run Try.prog w = .ok (.tuple #[.int .i64 ((f p q r).getD 0), .bool (f p q r).isSome]) w := by
  obtain ⟨v, ps, hrun, hv⟩ := hown.look_ok K ht (zero3 w) (plainElem_int Try.underlying3 (by decide)) hkey
  obtain ⟨c, rfl, hc, hwc⟩ := plainElem_int_inv Try.underlying3 hv
  have h1 := hD.2 p q r hw
  have h3 := congrArg Prod.fst hc
  simp only at h3
  rw [h1.1] at hrun
  rw [hrun]
  cases hf : f p q r with
  | none =>
    rw [atKey_of_not_has (by rw [h1.1, hf]; rfl)] at h3
    injection h3 with h3
    injection h3 with _ h3
    rw [← h3]
    rfl
  | some v =>
    rw [h1.2 v hf] at h3
    injection h3 with h3
    injection h3 with _ h3
    rw [← h3]
    rfl
end
end Go.Proofs.Ytialbhkamlfccaa.Mp
/- The two maps that a call makes for itself, keyed by whole numbers: what they read as. No condition but the hypotheses that each theorem states. -/
namespace Go.Proofs.Ytialbhkamlfccaa.Mp
open Go Go.Maps
set_option linter.unusedVariables false
theorem keyed3 : Keyed Try.prog 3 := int_keyed Try.underlying3
def key1 (a : Int) : Lit := .int .i64 a
theorem keyOf3 {a : Int} (h : (Lit.int .i64 a).wf = true) : keyOf Try.prog 3 (.int .i64 a) = some (key1 a) := keyOf_int_mk Try.underlying3 h
theorem key1_inj {a b : Int} (h : key1 a = key1 b) : a = b := by unfold key1 at h; injection h
/-- A map of numbers reads as a function. -/
def ReadsU (D : DataW Unit) (f : Int → Option Int) : Prop :=
  IsMap D ∧ ∀ a, (Lit.int .i64 a).wf = true → has D (key1 a) = (f a).isSome ∧ ∀ n, f a = some n → D.atKey (key1 a) (.lit (.int .u64 0)) = .lit (.int .u64 n)
def ReadsB (D : DataW Unit) (f : Int → Bool) : Prop :=
  IsMap D ∧ ∀ a, (Lit.int .i64 a).wf = true → D.atKey (key1 a) (.lit (.bool false)) = .lit (.bool (f a))
def upd1 {ν : Type} (f : Int → ν) (a : Int) (n : ν) : Int → ν := fun x => if x = a then n else f x
theorem ReadsU.empty : ReadsU (.map []) (fun _ => none) := ⟨⟨[], rfl⟩, fun a h => ⟨rfl, fun n hn => by cases hn⟩⟩
theorem ReadsB.empty : ReadsB (.map []) (fun _ => false) := ⟨⟨[], rfl⟩, fun a h => rfl⟩
theorem ReadsU.put {D : DataW Unit} {f : Int → Option Int} (h : ReadsU D f) {a : Int} (hw : (Lit.int .i64 a).wf = true) (n : Int) (hm : IsMap (D.put (key1 a) (.lit (.int .u64 n)))) (hk : WideAt.IsKeyLit (key1 a)) : ReadsU (D.put (key1 a) (.lit (.int .u64 n))) (upd1 f a (some n)) := by
  refine ⟨hm, fun x hx => ?_⟩
  unfold upd1
  by_cases he : x = a
  · subst he
    rw [if_pos rfl, has_put_same h.1 hk, atKey_put_same h.1 hk]
    exact ⟨rfl, fun m hm2 => by cases hm2; rfl⟩
  · have hne : key1 x ≠ key1 a := fun e => he (key1_inj e)
    rw [if_neg he, has_put_other hne, atKey_put_other hne]
    exact h.2 x hx
theorem ReadsB.put {D : DataW Unit} {f : Int → Bool} (h : ReadsB D f) {a : Int} (hw : (Lit.int .i64 a).wf = true) (n : Bool) (hm : IsMap (D.put (key1 a) (.lit (.bool n)))) (hk : WideAt.IsKeyLit (key1 a)) : ReadsB (D.put (key1 a) (.lit (.bool n))) (upd1 f a n) := by
  refine ⟨hm, fun x hx => ?_⟩
  unfold upd1
  by_cases he : x = a
  · subst he
    rw [if_pos rfl, atKey_put_same h.1 hk]
  · have hne : key1 x ≠ key1 a := fun e => he (key1_inj e)
    rw [if_neg he, atKey_put_other hne]
    exact h.2 x hx
theorem zero36 (w : World) : (zeroValue 36).run Try.prog w = .ok (.int .u64 0) w := by rfl
theorem zero4 (w : World) : (zeroValue 4).run Try.prog w = .ok (.bool false) w := by rfl
section
variable (w : World) {b n : Nat} {D : DataW Unit} {p : Int}
/-- 'v, ok := m[k]'. -/
theorem look_runU {f : Int → Option Int} (hown : w.ownsMap Try.prog 3 (plainElem Try.prog 36) b n D) (hD : ReadsU D f) (hw : (Lit.int .i64 p).wf = true) :
    (Instr.lookup 63 (.map (some b)) (.int .i64 p) true).run Try.prog w = .ok (.tuple #[.int .u64 ((f p).getD 0), .bool (f p).isSome]) w := by
  obtain ⟨v, ps, hrun, hv⟩ := hown.look_ok keyed3 Try.underlying63 (zero36 w) (plainElem_int Try.underlying36 (by decide)) (keyOf3 hw)
  obtain ⟨c, rfl, hc, hwc⟩ := plainElem_int_inv Try.underlying36 hv
  have h1 := hD.2 p hw
  have h3 := congrArg Prod.fst hc
  simp only at h3
  rw [h1.1] at hrun
  rw [hrun]
  cases hf : f p with
  | none =>
    rw [atKey_of_not_has (by rw [h1.1, hf]; rfl)] at h3
    injection h3 with h3
    injection h3 with _ h3
    rw [← h3]
    rfl
  | some v =>
    rw [h1.2 v hf] at h3
    injection h3 with h3
    injection h3 with _ h3
    rw [← h3]
    rfl
theorem store_runU {f : Int → Option Int} (hown : w.ownsMap Try.prog 3 (plainElem Try.prog 36) b n D) (hn : n < maxLen) (hD : ReadsU D f) (hw : (Lit.int .i64 p).wf = true) (v : Int) (hv : (Lit.int .u64 v).wf = true) :
    ∃ (w' : World) (D' : DataW Unit), (Instr.mapUpdate 63 (.map (some b)) (.int .i64 p) (.int .u64 v)).run Try.prog w = .ok () w' ∧ w'.ownsMap Try.prog 3 (plainElem Try.prog 36) b (n + 1) D' ∧ ReadsU D' (upd1 f p (some v)) ∧ w.grownBy w' (some b) := by
  obtain ⟨w', hrun, h1, h2⟩ := hown.update keyed3 Try.underlying63 hn (keyOf3 hw) (plainElem_int Try.underlying36 hv)
  exact ⟨w', _, hrun, h1, hD.put hw v h1.isMap (by simp [WideAt.IsKeyLit, key1]), h2⟩
/-- 'm[k]', a bool. -/
theorem look_runB {f : Int → Bool} (hown : w.ownsMap Try.prog 3 (plainElem Try.prog 4) b n D) (hD : ReadsB D f) (hw : (Lit.int .i64 p).wf = true) :
    (Instr.lookup 64 (.map (some b)) (.int .i64 p) false).run Try.prog w = .ok (.bool (f p)) w := by
  obtain ⟨v, ps, hrun, hv⟩ := hown.lookup keyed3 Try.underlying64 (zero4 w) (plainElem_bool Try.underlying4 false) (keyOf3 hw)
  rw [hD.2 p hw] at hv
  rw [hrun]
  unfold plainElem at hv
  rw [Try.underlying4] at hv
  cases v <;> simp at hv
  rw [hv.1]
theorem store_runB {f : Int → Bool} (hown : w.ownsMap Try.prog 3 (plainElem Try.prog 4) b n D) (hn : n < maxLen) (hD : ReadsB D f) (hw : (Lit.int .i64 p).wf = true) (v : Bool) :
    ∃ (w' : World) (D' : DataW Unit), (Instr.mapUpdate 64 (.map (some b)) (.int .i64 p) (.bool v)).run Try.prog w = .ok () w' ∧ w'.ownsMap Try.prog 3 (plainElem Try.prog 4) b (n + 1) D' ∧ ReadsB D' (upd1 f p v) ∧ w.grownBy w' (some b) := by
  obtain ⟨w', hrun, h1, h2⟩ := hown.update keyed3 Try.underlying64 hn (keyOf3 hw) (plainElem_bool Try.underlying4 v)
  exact ⟨w', _, hrun, h1, hD.put hw v h1.isMap (by simp [WideAt.IsKeyLit, key1]), h2⟩
end
end Go.Proofs.Ytialbhkamlfccaa.Mp
