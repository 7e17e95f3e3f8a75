/- Ite, Not, And, Or, Xor, Const, Var, New, Eval: what the calls come to. No condition but the hypotheses that each theorem states. -/
import Derived.Test.YtialbhkamlfccaaM4
/- Ite, Not, And, Or, Xor, Const, Var: what the calls come to. No condition but the hypotheses that each theorem states. -/
namespace Go.Proofs.Ytialbhkamlfccaa.PA
open Go.RowKit Go.Proofs.YtialbhkamlfccaaW.PrintWords Go.Proofs.YtialbhkamlfccaaW.PrintLast Go.Proofs.YtialbhkamlfccaaW.PrintMore Go.Proofs.Ytialbhkamlfccaa.Mp Go.Proofs.Ytialbhkamlfccaa.Dia
set_option linter.unusedVariables false
set_option linter.unusedSimpArgs false
section
variable {w0 w W w' : World} {ok : Nat → Prop} {g vars most nb nb' nb2 K K2 v v2 : Nat} {full : Bool} {ns : List Nd} {F G : (Nat → Bool) → Bool} {e : Ending}
theorem Res.from_ (hb : Below w.heap.size w W) (h : Res w0 W ok g vars most full ns nb K v F e w') : Res w0 w ok g vars most full ns nb K v F e w' := by
  obtain ⟨ns1, hd, hl, hk, hc⟩ := h
  have hok : ∀ k, (ok k ∨ W.heap.size ≤ k) → (ok k ∨ w.heap.size ≤ k) := fun k hk => hk.imp id (fun h2 => Nat.le_trans hb.size h2)
  refine ⟨ns1, hd, hl, (Kept.of_below hb ok).then_ hk (fun k h2 => .inl h2), ?_⟩
  rcases hc with ⟨m, he, hm, ht, hs, hbs⟩ | ⟨he, hm, hbs⟩
  · exact .inl ⟨m, he, hm, ht, hs, hbs.mono hok (Nat.le_refl _)⟩
  · exact .inr ⟨he, hm, hbs.mono hok (Nat.le_refl _)⟩
theorem Res.weak (h : Res w0 w ok g vars most full ns nb K v F e w') (hn : nb ≤ nb2) (hK : K ≤ K2) (hv : v2 ≤ v) (hF : ∀ x, F x = G x) : Res w0 w ok g vars most full ns nb2 K2 v2 G e w' := by
  obtain ⟨ns1, hd, hl, hk, hc⟩ := h
  refine ⟨ns1, hd, by omega, hk, ?_⟩
  rcases hc with ⟨m, he, hm, ht, hs, hbs⟩ | ⟨he, hm, hbs⟩
  · exact .inl ⟨m, he, hm, by omega, fun x => by rw [hs x, hF x], hbs.mono (fun k hk => hk) hn⟩
  · exact .inr ⟨he, hm, hbs.mono (fun k hk => hk) hn⟩
theorem Res.ret (h : Res w0 w ok g vars most full ns nb K v F e w') : ∃ val, e = .returned val ∧ Aside0 (Res w0 w ok g vars most full ns nb K v F (.returned val) w') := by
  obtain ⟨ns1, hd, hl, hk, hc⟩ := h
  rcases hc with ⟨m, rfl, hc⟩ | ⟨rfl, hc⟩
  · exact ⟨_, rfl, ⟨ns1, hd, hl, hk, .inl ⟨m, rfl, hc⟩⟩⟩
  · exact ⟨_, rfl, ⟨ns1, hd, hl, hk, .inr ⟨rfl, hc⟩⟩⟩
end
theorem num_ok {ns : List Nd} {a : Nat} (h : a < ns.length) : isNum ns (a : Int) = true := by
  unfold isNum
  rw [decide_eq_true (by omega), decide_eq_true (by omega)]
  rfl
theorem nums3 {ns : List Nd} {a b c : Nat} (h : a < ns.length ∧ b < ns.length ∧ c < ns.length) : [(a : Int), (b : Int), (c : Int)].all (isNum ns) = true := by
  simp [num_ok h.1, num_ok h.2.1, num_ok h.2.2]
theorem nums2 {ns : List Nd} {a b : Nat} (h : a < ns.length ∧ b < ns.length) : [(a : Int), (b : Int)].all (isNum ns) = true := by
  simp [num_ok h.1, num_ok h.2]
theorem ite_top {w0 w : World} {ok : Nat → Prop} {g vars most nb : Nat} {full : Bool} {ns : List Nd} {a b c : Nat} (h : BS w0 w ok g vars most full ns nb) (hl : a < ns.length ∧ b < ns.length ∧ c < ns.length) (hnb : nb + kk vars ≤ 1000000000000) :
    Calls Try.prog 36 #[.pointer (some ⟨g, 0, none⟩), .int .i64 (a : Int), .int .i64 (b : Int), .int .i64 (c : Int)] w (Res w0 w ok g vars most full ns (nb + kk vars) (kk vars) 0 (fun x => if sem ns a x then sem ns b x else sem ns c x)) :=
  bdd_ite.calls w0 g vars most vars a b c 0 nb full ns ok w h hl.1 hl.2.1 hl.2.2 (Nat.zero_le _) (Nat.zero_le _) (Nat.zero_le _) (by omega) hnb
set_option maxHeartbeats 8000000 in
set_option maxRecDepth 100000 in
theorem bdd_Ite.calls (a b c : Nat) (g vars most : Nat) (ok : Nat → Prop) (nb : Nat) (full : Bool) (ns : List Nd) (w0 w : World) (h : BS w0 w ok g vars most full ns nb) (hl : a < ns.length ∧ b < ns.length ∧ c < ns.length) (hnb : nb + kk vars ≤ 1000000000000) :
    Calls Try.prog 22 #[.pointer (some ⟨g, 0, none⟩), .int .i64 (a : Int), .int .i64 (b : Int), .int .i64 (c : Int)] w (Res w0 w ok g vars most full ns (nb + kk vars) (kk vars) 0 (fun x => if sem ns a x then sem ns b x else sem ns c x)) := by
  replace h := Aside0.mk h
  have HL := Aside0.mk hl
  have HNB := Aside0.mk hnb
  clear hl hnb
  go_enter Try.func22, Try.ntmps22
  go_wp2_with (first | (go_at_call 35; refine (bdd_known.calls (some ⟨w.heap.size, 0, none⟩) 3 [(a : Int), (b : Int), (c : Int)] g vars most ok nb full ns w0 _ (h.out.alloc _) ?kC (by simp)).mono ?_; (case kC => exact (Kd.R_reads' (Kd.R_of_own (own_lit w w.heap.size 3 .i64 [(a : Int), (b : Int), (c : Int)] (Nat.le_refl _) (by simp)) (ok := fun _ => True) (fun _ _ => trivial))).2.2); rintro e w1 ⟨rfl, rfl⟩; rw [nums3 HL.out]) | (go_at_call 36; refine (Calls.mono (ite_top (h.out.alloc (.cells #[.int .i64 (a : Int), .int .i64 (b : Int), .int .i64 (c : Int)] 3)) HL.out HNB.out) ?_); intro e w2 hr; obtain ⟨val, rfl, hv⟩ := (hr.from_ (below_alloc (Below.refl _ _) _)).ret))
  go_ret
  exact hv.out
set_option maxHeartbeats 8000000 in
set_option maxRecDepth 100000 in
theorem bdd_Not.calls (a : Nat) (g vars most : Nat) (ok : Nat → Prop) (nb : Nat) (full : Bool) (ns : List Nd) (w0 w : World) (h : BS w0 w ok g vars most full ns nb) (hl : a < ns.length) (hnb : nb + kk vars ≤ 1000000000000) :
    Calls Try.prog 21 #[.pointer (some ⟨g, 0, none⟩), .int .i64 (a : Int)] w (Res w0 w ok g vars most full ns (nb + kk vars) (kk vars) 0 (fun x => !sem ns a x)) := by
  have hI := bdd_Ite.calls a 0 1 g vars most ok nb full ns w0 w h ⟨hl, by have := h.inv.len; omega, by have := h.inv.len; omega⟩ hnb
  replace hI := Aside0.mk hI
  clear h hl hnb
  go_enter Try.func21, Try.ntmps21
  go_wp2_with (first | (go_at_call 22; refine (Calls.mono hI.out ?_); intro e w2 hr; obtain ⟨val, rfl, hv⟩ := hr.ret))
  go_ret
  exact hv.out.weak (Nat.le_refl _) (Nat.le_refl _) (Nat.le_refl _) (fun x => by rw [sem_zero, sem_one]; cases sem ns a x <;> rfl)
set_option maxHeartbeats 8000000 in
set_option maxRecDepth 100000 in
theorem bdd_And.calls (a b : Nat) (g vars most : Nat) (ok : Nat → Prop) (nb : Nat) (full : Bool) (ns : List Nd) (w0 w : World) (h : BS w0 w ok g vars most full ns nb) (hl : a < ns.length ∧ b < ns.length) (hnb : nb + kk vars ≤ 1000000000000) :
    Calls Try.prog 23 #[.pointer (some ⟨g, 0, none⟩), .int .i64 (a : Int), .int .i64 (b : Int)] w (Res w0 w ok g vars most full ns (nb + kk vars) (kk vars) 0 (fun x => sem ns a x && sem ns b x)) := by
  have HI := Aside0.mk (ite_top (h.alloc (.cells #[.int .i64 (a : Int), .int .i64 (b : Int)] 3)) (show a < ns.length ∧ b < ns.length ∧ 0 < ns.length from ⟨by have := h.inv.len; omega, by have := h.inv.len; omega, by have := h.inv.len; omega⟩) hnb)
  replace h := Aside0.mk h
  have HL := Aside0.mk hl
  clear hl hnb
  go_enter Try.func23, Try.ntmps23
  go_wp2_with (first | (go_at_call 35; refine (bdd_known.calls (some ⟨w.heap.size, 0, none⟩) 2 [(a : Int), (b : Int)] g vars most ok nb full ns w0 _ (h.out.alloc _) ?kC (by simp)).mono ?_; (case kC => exact (Kd.R_reads' (Kd.R_of_own (own_lit w w.heap.size 3 .i64 [(a : Int), (b : Int)] (Nat.le_refl _) (by simp)) (ok := fun _ => True) (fun _ _ => trivial))).2.2); rintro e w1 ⟨rfl, rfl⟩; rw [nums2 HL.out]) | (go_at_call 36; refine (Calls.mono HI.out ?_); intro e w2 hr; obtain ⟨val, rfl, hv⟩ := (hr.from_ (below_alloc (Below.refl _ _) _)).ret))
  go_ret
  exact hv.out.weak (Nat.le_refl _) (Nat.le_refl _) (Nat.le_refl _) (fun x => by rw [sem_zero]; cases sem ns a x <;> rfl)
set_option maxHeartbeats 8000000 in
set_option maxRecDepth 100000 in
theorem bdd_Or.calls (a b : Nat) (g vars most : Nat) (ok : Nat → Prop) (nb : Nat) (full : Bool) (ns : List Nd) (w0 w : World) (h : BS w0 w ok g vars most full ns nb) (hl : a < ns.length ∧ b < ns.length) (hnb : nb + kk vars ≤ 1000000000000) :
    Calls Try.prog 24 #[.pointer (some ⟨g, 0, none⟩), .int .i64 (a : Int), .int .i64 (b : Int)] w (Res w0 w ok g vars most full ns (nb + kk vars) (kk vars) 0 (fun x => sem ns a x || sem ns b x)) := by
  have HI := Aside0.mk (ite_top (h.alloc (.cells #[.int .i64 (a : Int), .int .i64 (b : Int)] 3)) (show a < ns.length ∧ 1 < ns.length ∧ b < ns.length from ⟨by have := h.inv.len; omega, by have := h.inv.len; omega, by have := h.inv.len; omega⟩) hnb)
  replace h := Aside0.mk h
  have HL := Aside0.mk hl
  clear hl hnb
  go_enter Try.func24, Try.ntmps24
  go_wp2_with (first | (go_at_call 35; refine (bdd_known.calls (some ⟨w.heap.size, 0, none⟩) 2 [(a : Int), (b : Int)] g vars most ok nb full ns w0 _ (h.out.alloc _) ?kC (by simp)).mono ?_; (case kC => exact (Kd.R_reads' (Kd.R_of_own (own_lit w w.heap.size 3 .i64 [(a : Int), (b : Int)] (Nat.le_refl _) (by simp)) (ok := fun _ => True) (fun _ _ => trivial))).2.2); rintro e w1 ⟨rfl, rfl⟩; rw [nums2 HL.out]) | (go_at_call 36; refine (Calls.mono HI.out ?_); intro e w2 hr; obtain ⟨val, rfl, hv⟩ := (hr.from_ (below_alloc (Below.refl _ _) _)).ret))
  go_ret
  exact hv.out.weak (Nat.le_refl _) (Nat.le_refl _) (Nat.le_refl _) (fun x => by rw [sem_one]; cases sem ns a x <;> rfl)
set_option maxHeartbeats 8000000 in
set_option maxRecDepth 100000 in
theorem bdd_Const.calls (g : Nat) (z : Bool) (w : World) :
    Calls Try.prog 26 #[.pointer (some ⟨g, 0, none⟩), .bool z] w fun e w' => e = .returned (.int .i64 (if z then 1 else 0)) ∧ w' = w := by
  cases z with
  | true =>
    go_enter Try.func26, Try.ntmps26
    go_wp2_with fail
    go_ret
    exact ⟨rfl, rfl⟩
  | false =>
    go_enter Try.func26, Try.ntmps26
    go_wp2_with fail
    go_ret
    exact ⟨rfl, rfl⟩
end Go.Proofs.Ytialbhkamlfccaa.PA
/- Xor, Var: what the calls come to. No condition but the hypotheses that each theorem states. -/
namespace Go.Proofs.Ytialbhkamlfccaa.PA
open Go.RowKit Go.Proofs.YtialbhkamlfccaaW.PrintWords Go.Proofs.YtialbhkamlfccaaW.PrintLast Go.Proofs.YtialbhkamlfccaaW.PrintMore Go.Proofs.Ytialbhkamlfccaa.Mp Go.Proofs.Ytialbhkamlfccaa.Dia
set_option linter.unusedVariables false
set_option linter.unusedSimpArgs false
theorem Res.then_ {w0 w W w' : World} {ok : Nat → Prop} {g vars most nb K1 K2 v : Nat} {full : Bool} {ns ns1 : List Nd} {F : (Nat → Bool) → Bool} {e : Ending} (hk : Kept w W ok) (hd : ∃ dd, ns1 = ns ++ dd) (hl : ns1.length ≤ ns.length + K1)
    (h : Res w0 W (fun k => ok k ∨ w.heap.size ≤ k) g vars most full ns1 nb K2 v F e w') : Res w0 w ok g vars most full ns nb (K1 + K2) v F e w' := by
  obtain ⟨dd, rfl⟩ := hd
  obtain ⟨ns2, ⟨d2, rfl⟩, hl2, hk2, hc⟩ := h
  have hok : ∀ k, ((ok k ∨ w.heap.size ≤ k) ∨ W.heap.size ≤ k) → (ok k ∨ w.heap.size ≤ k) := fun k h2 => h2.elim id (fun h3 => .inr (Nat.le_trans hk.1 h3))
  refine ⟨ns ++ dd ++ d2, ⟨dd ++ d2, by simp⟩, by omega, hk.then_ hk2 (fun k h2 => h2), ?_⟩
  rcases hc with ⟨m, he, hm, ht, hs, hbs⟩ | ⟨he, hm, hbs⟩
  · exact .inl ⟨m, he, hm, ht, hs, hbs.mono hok (Nat.le_refl _)⟩
  · exact .inr ⟨he, hm, hbs.mono hok (Nat.le_refl _)⟩
set_option maxHeartbeats 8000000 in
set_option maxRecDepth 100000 in
theorem bdd_Xor.calls (a b : Nat) (g vars most : Nat) (ok : Nat → Prop) (nb : Nat) (full : Bool) (ns : List Nd) (w0 w : World) (h : BS w0 w ok g vars most full ns nb) (hl : a < ns.length ∧ b < ns.length) (hnb : nb + kk vars + kk vars ≤ 1000000000000) :
    Calls Try.prog 25 #[.pointer (some ⟨g, 0, none⟩), .int .i64 (a : Int), .int .i64 (b : Int)] w (Res w0 w ok g vars most full ns (nb + kk vars + kk vars) (kk vars + kk vars) 0 (fun x => if sem ns a x then !sem ns b x else sem ns b x)) := by
  have HI := Aside0.mk (ite_top (h.alloc (.cells #[.int .i64 (a : Int), .int .i64 (b : Int)] 3)) (show b < ns.length ∧ 0 < ns.length ∧ 1 < ns.length from ⟨hl.2, by have := h.inv.len; omega, by have := h.inv.len; omega⟩) (by omega))
  replace h := Aside0.mk h
  have HL := Aside0.mk hl
  have HNB := Aside0.mk hnb
  clear hl hnb
  go_enter Try.func25, Try.ntmps25
  go_upto_region 3 with (first | (go_at_call 35; refine (bdd_known.calls (some ⟨w.heap.size, 0, none⟩) 2 [(a : Int), (b : Int)] g vars most ok nb full ns w0 _ (h.out.alloc _) ?kC (by simp)).mono ?_; (case kC => exact (Kd.R_reads' (Kd.R_of_own (own_lit w w.heap.size 3 .i64 [(a : Int), (b : Int)] (Nat.le_refl _) (by simp)) (ok := fun _ => True) (fun _ _ => trivial))).2.2); rintro e w1 ⟨rfl, rfl⟩; rw [nums2 HL.out]))
  go_cut [7] (fun v7 w' => Aside0 (Res w0 w ok g vars most full ns (nb + kk vars) (kk vars) 0 (fun x => if sem ns b x then sem ns 0 x else sem ns 1 x) (.returned v7) w'))
  case first =>
    go_wp2_with (first | (go_at_call 36; refine (Calls.mono HI.out ?_); intro e w2 hr; obtain ⟨val, rfl, hv⟩ := (hr.from_ (below_alloc (Below.refl _ _) _)).ret))
    go_meet
    case rel => exact hv
  case rest =>
    obtain ⟨ns1, ⟨dd, hdd⟩, hl1, hk, hc⟩ := hcut.out
    clear hcut
    rcases hc with ⟨m, he, hm, _, hs, hb⟩ | ⟨he, hm, hb⟩
    · injection he with he
      subst he
      have q0 : ((m : Int) < 0) = False := eq_false (by omega)
      have H2 := Aside0.mk (ite_top hb (show a < ns1.length ∧ m < ns1.length ∧ b < ns1.length from ⟨by rw [hdd, List.length_append]; have := HL.out; omega, hm, by rw [hdd, List.length_append]; have := HL.out; omega⟩) HNB.out)
      have HS := Aside0.mk hs
      have HD := Aside0.mk (And.intro hdd (And.intro hl1 hk))
      clear hb hm hs hdd hl1 hk
      go_wp2_with (first | (go_at_call 36; refine (Calls.mono H2.out ?_); intro e w2 hr; obtain ⟨val, rfl, hv⟩ := (Res.then_ HD.out.2.2 ⟨dd, HD.out.1⟩ HD.out.2.1 hr).ret))
      go_ret
      refine hv.out.weak (Nat.le_refl _) (Nat.le_refl _) (Nat.le_refl _) (fun x => ?_)
      rw [HS.out x, HD.out.1, sem_pre h.out.inv dd HL.out.1, sem_pre h.out.inv dd HL.out.2, sem_zero, sem_one]
      cases sem ns a x <;> cases sem ns b x <;> rfl
    · injection he with he
      subst he
      have HR := Aside0.mk (show Res w0 w ok g vars most full ns (nb + kk vars + kk vars) (kk vars + kk vars) 0 (fun x => if sem ns a x then !sem ns b x else sem ns b x) (.returned (.int .i64 (-1))) wc from ⟨ns1, ⟨dd, hdd⟩, by omega, hk, .inr ⟨rfl, hm, hb.mono (fun k h2 => h2) (Nat.le_add_right _ _)⟩⟩)
      clear hb hm hdd hl1 hk
      go_wp2_with fail
      go_ret
      exact HR.out
set_option maxHeartbeats 8000000 in
set_option maxRecDepth 100000 in
theorem Var_out (i : Int) (g vars most : Nat) (ok : Nat → Prop) (nb : Nat) (full : Bool) (ns : List Nd) (w0 w : World) (h : BS w0 w ok g vars most full ns nb) (hi : i < 0 ∨ (vars : Int) ≤ i) :
    Calls Try.prog 28 #[.pointer (some ⟨g, 0, none⟩), .int .i64 i] w fun e w' => e = .returned (.int .i64 (-1)) ∧ w' = w := by
  obtain ⟨A, c, mw, ma, hb, hC, hc⟩ := h.cells
  have z3 : w.cell? ⟨g, 3, none⟩ = some (.int .i64 (vars : Int)) := (cell_of_row _ _ 3 _ _ _ hb).trans rfl
  clear hb hC hc h
  by_cases h0 : i < 0
  · have q : decide (i < 0) = true := decide_eq_true h0
    clear hi
    go_enter Try.func28, Try.ntmps28
    go_wp2_with fail
    go_ret
    exact ⟨rfl, rfl⟩
  · have h1 : (vars : Int) ≤ i := by omega
    have q : decide (i < 0) = false := decide_eq_false h0
    clear hi
    go_enter Try.func28, Try.ntmps28
    go_wp2_with fail
    go_ret
    exact ⟨rfl, rfl⟩
set_option maxHeartbeats 8000000 in
set_option maxRecDepth 100000 in
theorem bdd_Var.calls (i : Nat) (g vars most : Nat) (ok : Nat → Prop) (nb : Nat) (full : Bool) (ns : List Nd) (w0 w : World) (h : BS w0 w ok g vars most full ns nb) (hi : i < vars) :
    Calls Try.prog 28 #[.pointer (some ⟨g, 0, none⟩), .int .i64 (i : Int)] w (Res w0 w ok g vars most full ns nb 1 0 (fun x => x i)) := by
  obtain ⟨A, c, mw, ma, hb, hC, hc⟩ := h.cells
  have z3 : w.cell? ⟨g, 3, none⟩ = some (.int .i64 (vars : Int)) := (cell_of_row _ _ 3 _ _ _ hb).trans rfl
  have hlen := h.inv.len
  have t0 := top_const h.inv (i := 0) (by omega)
  have t1 := top_const h.inv (i := 1) (by omega)
  have HI := Aside0.mk (bdd_put.calls ⟨i, 0, 1⟩ g vars most ok nb full ns w0 w h hi (by show 0 < ns.length; omega) (by show 1 < ns.length; omega) (by show i < top ns 0; omega) (by show i < top ns 1; omega))
  have q0 : ((i : Int) < 0) = False := eq_false (by omega)
  have q1 : ((vars : Int) ≤ (i : Int)) = False := eq_false (by omega)
  have q2 : (vars ≤ i) = False := eq_false (by omega)
  clear hb hC hc h hlen t0 t1 hi
  go_enter Try.func28, Try.ntmps28
  go_wp2_with (first | (go_at_call 37; refine (Calls.mono HI.out ?_); intro e w2 hr; obtain ⟨val, rfl, hv⟩ := hr.ret))
  go_ret
  refine hv.out.weak (Nat.le_refl _) (Nat.le_refl _) (Nat.zero_le _) (fun x => ?_)
  show (if x i = true then sem ns 1 x else sem ns 0 x) = x i
  rw [sem_zero, sem_one]
  cases x i <;> rfl
end Go.Proofs.Ytialbhkamlfccaa.PA
/- New: what the call comes to. No condition but the hypotheses that each theorem states. -/
namespace Go.Proofs.Ytialbhkamlfccaa.PA
open Go.RowKit Go.Proofs.YtialbhkamlfccaaW.PrintWords Go.Proofs.YtialbhkamlfccaaW.PrintLast Go.Proofs.YtialbhkamlfccaaW.PrintMore Go.Proofs.Ytialbhkamlfccaa.Mp Go.Proofs.Ytialbhkamlfccaa.Dia
set_option linter.unusedVariables false
set_option linter.unusedSimpArgs false
theorem where_base (vars : Nat) (a b c : Int) : whereOf [⟨vars, 0, 0⟩, ⟨vars, 1, 1⟩] a b c = none := by
  unfold whereOf
  rw [Option.map_eq_none_iff, List.find?_eq_none]
  intro i hi hp
  simp at hi
  simp only [Bool.and_eq_true, decide_eq_true_eq] at hp
  have := hp.1.1.1.1
  omega
theorem new_BS (w : World) (vars most : Nat) (hv : vars ≤ 512) (hm : 2 ≤ most ∧ most ≤ 262144) :
    BS w ((((w.alloc (.map #[] 0)).alloc (.map #[] 0)).alloc (.cells #[.slice (some ⟨w.heap.size + 1 + 1 + 1, 0, none⟩) 2 2, .map (some w.heap.size), .map (some (w.heap.size + 1)), .int .i64 (vars : Int), .int .i64 (most : Int), .bool false] 52)).alloc (.cells #[.int .i64 (vars : Int), .int .i64 0, .int .i64 0, .int .i64 (vars : Int), .int .i64 1, .int .i64 1] 54)) (fun k => w.heap.size ≤ k) (w.heap.size + 1 + 1) vars most false [⟨vars, 0, 0⟩, ⟨vars, 1, 1⟩] 0 ∧
    Below w.heap.size w ((((w.alloc (.map #[] 0)).alloc (.map #[] 0)).alloc (.cells #[.slice (some ⟨w.heap.size + 1 + 1 + 1, 0, none⟩) 2 2, .map (some w.heap.size), .map (some (w.heap.size + 1)), .int .i64 (vars : Int), .int .i64 (most : Int), .bool false] 52)).alloc (.cells #[.int .i64 (vars : Int), .int .i64 0, .int .i64 0, .int .i64 (vars : Int), .int .i64 1, .int .i64 1] 54)) := by
  obtain ⟨w1, e1⟩ : ∃ w1, w1 = w.alloc (.map #[] 0) := ⟨_, rfl⟩
  have s1 : w1.heap.size = w.heap.size + 1 := by rw [e1]; simp
  rw [← e1]
  obtain ⟨w2, e2⟩ : ∃ w2, w2 = w1.alloc (.map #[] 0) := ⟨_, rfl⟩
  have s2 : w2.heap.size = w.heap.size + 1 + 1 := by rw [e2]; simp [s1]
  rw [← e2]
  obtain ⟨w3, e3⟩ : ∃ w3, w3 = w2.alloc (.cells #[.slice (some ⟨w.heap.size + 1 + 1 + 1, 0, none⟩) 2 2, .map (some w.heap.size), .map (some (w.heap.size + 1)), .int .i64 (vars : Int), .int .i64 (most : Int), .bool false] 52) := ⟨_, rfl⟩
  have s3 : w3.heap.size = w.heap.size + 1 + 1 + 1 := by rw [e3]; simp [s2]
  rw [← e3]
  have m1 : w1.ownsMap Try.prog 54 (plainElem (H := Unit) Try.prog 3) w.heap.size 0 (.map []) := by rw [e1]; exact World.ownsMap_made w Try.prog 54 _
  have m2 : w2.ownsMap Try.prog 69 (plainElem (H := Unit) Try.prog 3) (w.heap.size + 1) 0 (.map []) := by rw [e2, ← s1]; exact World.ownsMap_made w1 Try.prog 69 _
  have m1' : w3.ownsMap Try.prog 54 (plainElem (H := Unit) Try.prog 3) w.heap.size 0 (.map []) := by rw [e3, e2]; exact (m1.alloc _).alloc _
  have m2' : w3.ownsMap Try.prog 69 (plainElem (H := Unit) Try.prog 3) (w.heap.size + 1) 0 (.map []) := by rw [e3]; exact m2.alloc _
  have hb : w3.heap[w.heap.size + 1 + 1]? = some (.cells #[.slice (some ⟨w.heap.size + 1 + 1 + 1, 0, none⟩) 2 2, .map (some w.heap.size), .map (some (w.heap.size + 1)), .int .i64 (vars : Int), .int .i64 (most : Int), .bool false] 52 (0, 0)) := by rw [e3, ← s2]; exact heap_alloc_new w2 _
  have hB : Below w.heap.size w w3 := by
    rw [e3, e2, e1]
    exact below_alloc (below_alloc (below_alloc (Below.refl _ _) _) _) _
  have hown := World.ownsRow_lit (base := w.heap.size) (e := 54) (size := 3) w3 #[.int .i64 (vars : Int), .int .i64 0, .int .i64 0, .int .i64 (vars : Int), .int .i64 1, .int .i64 1] 2 (by omega) (by decide) rfl
  rw [s3] at hown
  refine ⟨⟨Inv.base vars, ⟨by omega, by omega, by simp; omega⟩, by omega, _, w.heap.size, w.heap.size + 1, 0, 0, _, _, _, blk_alloc hb _, ⟨fun k hk => ?_, _, hown, rfl, fun j p hj => ?_⟩, ⟨by omega, by omega, by omega, by omega, by omega, by omega, by omega, by omega⟩, m1'.alloc _, m2'.alloc _, Reads.congr Reads.empty (fun a b c => where_base vars a b c), Reads.empty, (fun a b c n h => by cases h), by simp, Nat.le_refl _⟩, below_alloc hB _⟩
  · have hk2 : w.heap.size + 1 + 1 + 1 = k := by simpa [Value.ownBlock] using hk
    exact ⟨by omega, by omega, by omega, by omega⟩
  · match j, hj with
    | 0, hj =>
      simp at hj
      subst hj
      exact ⟨_, _, rfl, rfl, _, _, rfl, rfl, rfl⟩
    | 1, hj =>
      simp at hj
      subst hj
      exact ⟨_, _, rfl, rfl, _, _, rfl, rfl, rfl⟩
    | j + 2, hj => simp at hj
set_option maxHeartbeats 8000000 in
set_option maxRecDepth 100000 in
theorem bdd_New.calls (vars most : Nat) (w : World) (hv : vars ≤ 512) (hm : 2 ≤ most ∧ most ≤ 262144) :
    Calls Try.prog 7 #[.int .i64 (vars : Int), .int .i64 (most : Int)] w fun e w' => ∃ g, e = .returned (.pointer (some ⟨g, 0, none⟩)) ∧ BS w w' (fun k => w.heap.size ≤ k) g vars most false [⟨vars, 0, 0⟩, ⟨vars, 1, 1⟩] 0 ∧ Below w.heap.size w w' := by
  have q0 : ((vars : Int) < 0) = False := eq_false (by omega)
  have q1 : (512 < (vars : Int)) = False := eq_false (by omega)
  have q2 : ((most : Int) < 2) = False := eq_false (by omega)
  have q3 : (262144 < (most : Int)) = False := eq_false (by omega)
  have u54 := Try.underlying54
  have u52 := Try.underlying52
  have HV := Aside0.mk hv
  have HM := Aside0.mk hm
  clear hv hm
  have hmm := @run_makeMap Try.prog
  go_enter Try.func7, Try.ntmps7
  go_wp2_with fail
  go_ret
  exact ⟨_, rfl, new_BS w vars most HV.out HM.out⟩
end Go.Proofs.Ytialbhkamlfccaa.PA
/- Eval: what the call comes to. No condition but the hypotheses that each theorem states. -/
namespace Go.Proofs.Ytialbhkamlfccaa.PA
open Go.RowKit Go.Proofs.YtialbhkamlfccaaW.PrintWords Go.Proofs.YtialbhkamlfccaaW.PrintLast Go.Proofs.YtialbhkamlfccaaW.PrintMore Go.Proofs.Ytialbhkamlfccaa.Mp Go.Proofs.Ytialbhkamlfccaa.Dia
set_option linter.unusedVariables false
set_option linter.unusedSimpArgs false
def val (xs : List Bool) : Nat → Bool := fun i => xs.getD i false
set_option maxHeartbeats 8000000 in
set_option maxRecDepth 100000 in
theorem bdd_Eval.calls (a : Nat) (A1 : Option Addr) (c1 : Nat) (xs : List Bool) (g vars most : Nat) (ok : Nat → Prop) (nb : Nat) (full : Bool) (ns : List Nd) (w0 w : World) (h : BS w0 w ok g vars most full ns nb) (ha : a < ns.length) (hx : Kd.C Kd.bool w A1 xs.length xs) (hc : xs.length ≤ c1) :
    Calls Try.prog 12 #[.pointer (some ⟨g, 0, none⟩), .int .i64 (a : Int), .slice A1 xs.length c1] w fun e w' => e = .returned (.tuple #[.bool (sem ns a (val xs)), .bool true]) ∧ Below w.heap.size w w' := by
  have u54 := Try.underlying54
  have HX := Aside0.mk hx
  have HA := Aside0.mk ha
  have HS := Aside0.mk h
  have HB := Aside0.mk (Below.refl w.heap.size w)
  clear h ha hx hc
  go_enter Try.func12, Try.ntmps12
  go_wp2_with (first | (go_at_call 32; (refine (bdd_has.calls (a : Int) g vars most ok nb full ns w0 _ HS.out).mono ?_); rintro e w1 ⟨rfl, e1⟩; have e2 := e1.symm; subst e2; clear e1; rw [show (decide (0 ≤ (a : Int)) && decide ((a : Int) < (ns.length : Int))) = true from num_ok HA.out]))
  go_loopg [1] a (fun kq v1 w' => v1 = .int .i64 (kq : Int) ∧ Aside0 (kq < ns.length ∧ sem ns kq (val xs) = sem ns a (val xs)) ∧ Aside0 (Below w.heap.size w w'))
  case atStart => exact ⟨rfl, ⟨HA.out, rfl⟩, HB⟩
  case round =>
    obtain ⟨rfl, HK, HB2⟩ := hrel
    by_cases h1 : gk = 1
    · subst h1
      go_wp2_with fail
      go_ret2
      exact ⟨by rw [← HK.out.2, sem_one]; rfl, HB2.out⟩
    · by_cases h0 : gk = 0
      · subst h0
        go_wp2_with fail
        go_ret2
        exact ⟨by rw [← HK.out.2, sem_zero]; rfl, HB2.out⟩
      · have hbs := HS.out.below HB2.out
        obtain ⟨A, c, mw, ma, hb, hC, hc⟩ := hbs.cells
        have z0 : wr.cell? ⟨g, 0, none⟩ = some (.slice A ns.length c) := (cell_of_row _ _ 0 _ _ _ hb).trans rfl
        obtain ⟨ad, rfl, c0, c1, c2⟩ := at_Nd hC gk HK.out.1 HK.out.1
        have hgk := HK.out.1
        have hn : ns[gk]? = some ns[gk] := List.getElem?_eq_getElem HK.out.1
        have hlt := hbs.inv.lt gk _ hn (by omega)
        have hsn := sem_node hbs.inv hn (by omega) (val xs)
        rw [HK.out.2] at hsn
        have HC := Kd.C_below HX.out HB2.out
        generalize ns[gk] = n at c0 c1 c2 hn hlt hsn
        have i1 : ((gk : Int) < (ns.length : Int)) = True := eq_true (by have := HK.out; omega)
        have i0 : (0 ≤ (gk : Int)) = True := eq_true (by omega)
        have i2 : (gk < ns.length) = True := eq_true HK.out.1
        have g0 : ((gk : Int) = 0) = False := eq_false (by omega)
        have g1 : ((gk : Int) = 1) = False := eq_false (by omega)
        have g2 : (gk = 0) = False := eq_false h0
        have g3 : (gk = 1) = False := eq_false h1
        have HLT := Aside0.mk hlt
        have HSN := Aside0.mk hsn
        have g4 : ((gk : Int) != 0) = true := by simp; omega
        have g5 : ((gk : Int) != 1) = true := by simp; omega
        clear hbs hb hC hc hn hlt hsn h0 h1 hgk
        by_cases hv : n.v < xs.length
        · obtain ⟨ad2, e2, hxv⟩ := Kd.at_bool HC (n.v : Int) (by omega) (by omega)
          subst e2
          have hrd : rdOf false xs (n.v : Int) = val xs n.v := by unfold rdOf val; rw [Int.toNat_natCast]
          rw [hrd] at hxv
          have hx0 : wr.cell? (ad2.add n.v) = some (.bool (val xs n.v)) := hxv
          have v1 : ((n.v : Int) < (xs.length : Int)) = True := eq_true (by omega)
          have v2 : (n.v < xs.length) = True := eq_true hv
          have v0 : (0 ≤ (n.v : Int)) = True := eq_true (by omega)
          clear HC hxv hrd
          cases hb : val xs n.v with
          | true =>
            rw [hb] at hx0
            have hx1 : (wr.alloc (.cells #[.int .i64 (n.v : Int), .int .i64 (n.lo : Int), .int .i64 (n.hi : Int)] 54)).cell? (ad2.add n.v) = some (.bool true) := pw_cell_below (below_alloc (Below.refl _ _) _) hx0
            clear hx0
            have HBB := Aside0.mk hb
            clear hb hv
            go_wp2_with fail
            go_roundg n.hi
            case measure => exact HLT.out.2.2.2
            case rel => exact ⟨rfl, ⟨by have := HLT.out; have := HK.out; omega, by rw [HSN.out, HBB.out, if_pos rfl]⟩, ⟨below_alloc HB2.out _⟩⟩
          | false =>
            rw [hb] at hx0
            have hx1 : (wr.alloc (.cells #[.int .i64 (n.v : Int), .int .i64 (n.lo : Int), .int .i64 (n.hi : Int)] 54)).cell? (ad2.add n.v) = some (.bool false) := pw_cell_below (below_alloc (Below.refl _ _) _) hx0
            clear hx0
            have HBB := Aside0.mk hb
            clear hb hv
            go_wp2_with fail
            go_roundg n.lo
            case measure => exact HLT.out.2.2.1
            case rel => exact ⟨rfl, ⟨by have := HLT.out; have := HK.out; omega, by rw [HSN.out, HBB.out, if_neg (by decide)]⟩, ⟨below_alloc HB2.out _⟩⟩
        · have hb : val xs n.v = false := by unfold val; rw [List.getD_eq_getElem?_getD, List.getElem?_eq_none (by omega)]; rfl
          have v1 : ((n.v : Int) < (xs.length : Int)) = False := eq_false (by omega)
          have v2 : (n.v < xs.length) = False := eq_false hv
          have HBB := Aside0.mk hb
          clear hb hv HC
          go_wp2_with fail
          go_roundg n.lo
          case measure => exact HLT.out.2.2.1
          case rel => exact ⟨rfl, ⟨by have := HLT.out; have := HK.out; omega, by rw [HSN.out, HBB.out, if_neg (by decide)]⟩, ⟨below_alloc HB2.out _⟩⟩
end Go.Proofs.Ytialbhkamlfccaa.PA
