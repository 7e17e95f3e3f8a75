/- counts, Count, lives: what the calls come to. No condition but the hypotheses that each theorem states. -/
import Derived.Test.YtialbhkamlfccaaM5
import Derived.Test.YtialbhkamlfccaaM2
import Derived.Test.YtialbhkamlfccaaM1
import Derived.Deep.RegionHeld3
/- counts: what stands between its calls. No condition but the hypotheses that each theorem states. -/
namespace Go.Proofs.Ytialbhkamlfccaa.PA
open Go.RowKit Go.Proofs.YtialbhkamlfccaaW.PrintWords Go.Proofs.YtialbhkamlfccaaW.PrintLast Go.Proofs.YtialbhkamlfccaaW.PrintMore Go.Proofs.Ytialbhkamlfccaa.Mp Go.Proofs.Ytialbhkamlfccaa.Dia
set_option linter.unusedVariables false
set_option linter.unusedSimpArgs false
/-- What the map 'seen' holds is right. -/
def SeenOk (vars : Nat) (ns : List Nd) (f : Int → Option Int) : Prop := ∀ a c, f a = some c → ∃ i : Nat, a = i ∧ i < ns.length ∧ c = (cnt vars ns i : Int)
def Seen (w0 : World) (ok : Nat → Prop) (g vars most : Nat) (full : Bool) (ns : List Nd) (nb b n : Nat) (X : World) : Prop :=
  BS w0 X ok g vars most full ns nb ∧ ¬ ok b ∧ ∃ (D : DataW Unit) (f : Int → Option Int), X.ownsMap Try.prog 3 (plainElem Try.prog 36) b n D ∧ ReadsU D f ∧ SeenOk vars ns f
section
variable {w0 w X W : World} {ok : Nat → Prop} {g vars most nb b n n2 : Nat} {full : Bool} {ns : List Nd}
theorem map_kept {k e : TypeId} {S : Nat → Prop} {D : DataW Unit} (h : X.ownsMap Try.prog k (plainElem Try.prog e) b n D) (hk : Kept X W S) (hb : ¬ S b) : W.ownsMap Try.prog k (plainElem Try.prog e) b n D := by
  have hlt := h.lt
  obtain ⟨es, clock, hh, F, hs, hD⟩ := h
  exact ⟨es, clock, (hk.2.1 b hlt hb).trans hh, F, hs, hD⟩
theorem BS.kept {S : Nat → Prop} (h : BS w0 X ok g vars most full ns nb) (hk : Kept X W S) (hS : ∀ k, ok k → ¬ S k) : BS w0 W ok g vars most full ns nb := by
  obtain ⟨v, mw, ma, n1, n2, D1, D2, f, hbk, hR, hne, h1, h2, r1, r2, r3, r4, r5⟩ := h.at_
  exact ⟨h.inv, h.small, h.ge, v, mw, ma, n1, n2, D1, D2, f, blk_kept hbk hk (hS _ hne.2.2.2.2.2.1), Kd.R_kept hR hk.old (fun k h2 => hS k h2.1), hne, map_kept h1 hk (hS _ hne.2.2.2.2.2.2.1), map_kept h2 hk (hS _ hne.2.2.2.2.2.2.2), r1, r2, r3, r4, r5⟩
theorem Seen.below (h : Seen w0 ok g vars most full ns nb b n X) (hb : Below X.heap.size X W) : Seen w0 ok g vars most full ns nb b n W := by
  obtain ⟨h1, h2, D, f, h3, h4, h5⟩ := h
  exact ⟨h1.below hb, h2, D, f, h3.kept (grown_of_below hb none) (by simp), h4, h5⟩
theorem Seen.bs (h : Seen w0 ok g vars most full ns nb b n X) : BS w0 X ok g vars most full ns nb := h.1
theorem Seen.mono (h : Seen w0 ok g vars most full ns nb b n X) (hn : n ≤ n2) : Seen w0 ok g vars most full ns nb b n2 X := by
  obtain ⟨h1, h2, D, f, h3, h4, h5⟩ := h
  exact ⟨h1, h2, D, f, h3.mono hn, h4, h5⟩
theorem Seen.lt (h : Seen w0 ok g vars most full ns nb b n X) : b < X.heap.size := by
  obtain ⟨h1, h2, D, f, h3, h4, h5⟩ := h
  exact h3.lt
theorem wf_u64 {n : Nat} (h : n < 18446744073709551616) : (Lit.int .u64 (n : Int)).wf = true := by
  simp [Lit.wf, IntKind.min, IntKind.max, IntKind.bits, IntKind.signed]
  omega
/-- What is reckoned is put into 'seen'. -/
theorem Seen.put (h : Seen w0 ok g vars most full ns nb b n X) {i : Nat} (hi : i < ns.length) (hn : n < 4611686018427387904) (hc : cnt vars ns i < 18446744073709551616) (hm : i < 9223372036854775808) :
    ∃ X', (Instr.mapUpdate 63 (.map (some b)) (.int .i64 (i : Int)) (.int .u64 (cnt vars ns i : Int))).run Try.prog X = .ok () X' ∧ Seen w0 ok g vars most full ns nb b (n + 1) X' ∧ Kept X X' (fun k => k = b) := by
  obtain ⟨h1, h2, D, f, h3, h4, h5⟩ := h
  obtain ⟨X', D', hrun, ho, hr, hg⟩ := store_runU X h3 (by simp only [maxLen]; omega) h4 (wf_nat hm) _ (wf_u64 hc)
  have hk : Kept X X' (fun k => k = b) := Kept.of_grown hg (Kept.refl X _) (fun k hk => .inl (by injection hk with hk; exact hk.symm))
  refine ⟨X', hrun, ⟨h1.kept hk (fun k h6 e => h2 (e ▸ h6)), h2, D', _, ho, hr, fun a c hac => ?_⟩, hk⟩
  unfold upd1 at hac
  split at hac
  · rename_i he
    cases hac
    exact ⟨i, he, hi, rfl⟩
  · exact h5 a c hac
/-- What is looked up in it. -/
theorem Seen.look (h : Seen w0 ok g vars most full ns nb b n X) {i : Nat} (hm : i < 9223372036854775808) :
    (Instr.lookup 63 (.map (some b)) (.int .i64 (i : Int)) true).run Try.prog X = .ok (.tuple #[.int .u64 (cnt vars ns i : Int), .bool true]) X ∨ (Instr.lookup 63 (.map (some b)) (.int .i64 (i : Int)) true).run Try.prog X = .ok (.tuple #[.int .u64 0, .bool false]) X := by
  obtain ⟨h1, h2, D, f, h3, h4, h5⟩ := h
  have hl := look_runU X h3 h4 (wf_nat hm)
  cases hf : f (i : Int) with
  | none => rw [hf] at hl; exact .inr hl
  | some c =>
    rw [hf] at hl
    obtain ⟨j, hj, _, rfl⟩ := h5 _ _ hf
    obtain rfl : i = j := by omega
    exact .inl hl
end
/-- The cells of a node and of the two that it has, whatever is written into b. -/
theorem node_cells {w0 X : World} {ok : Nat → Prop} {g vars most nb b i : Nat} {full : Bool} {ns : List Nd} (h : BS w0 X ok g vars most full ns nb) (hb : ¬ ok b) :
    ∃ (ad : Addr) (c : Nat), ∀ W, Kept X W (fun k => k = b) → W.cell? ⟨g, 0, none⟩ = some (.slice (some ad) ns.length c) ∧ ∀ j (hj : j < ns.length), W.cell? (ad.add (j * 3)) = some (.int .i64 (ns[j].v : Int)) ∧ W.cell? ⟨(ad.add (j * 3)).block, (ad.add (j * 3)).off + 1, none⟩ = some (.int .i64 (ns[j].lo : Int)) ∧ W.cell? ⟨(ad.add (j * 3)).block, (ad.add (j * 3)).off + 2, none⟩ = some (.int .i64 (ns[j].hi : Int)) := by
  obtain ⟨v, mw, ma, n1, n2, D1, D2, f, hbk, hR, hne, h1, h2, r1, r2, r3, r4, r5⟩ := h.at_
  obtain ⟨A, c, rfl⟩ := Kd.R_slice hR
  have hlen := h.inv.len
  obtain ⟨ad, rfl, _⟩ := at_Nd (Kd.R_reads' hR).2.2 0 (by omega) (by omega)
  refine ⟨ad, c, fun W hk => ⟨(cell_of_row _ _ 0 _ _ _ (blk_kept hbk hk (fun e => hb (e ▸ hne.2.2.2.2.2.1)))).trans rfl, fun j hj => ?_⟩⟩
  have hR2 := Kd.R_kept hR hk.old (fun k h2 e => hb (e ▸ h2.1))
  obtain ⟨ad2, e2, c0, c1, c2⟩ := at_Nd (Kd.R_reads' hR2).2.2 j hj hj
  obtain rfl : ad = ad2 := by injection e2
  exact ⟨c0, c1, c2⟩
end Go.Proofs.Ytialbhkamlfccaa.PA
/- counts: what the call comes to. No condition but the hypotheses that each theorem states. -/
namespace Go.Proofs.Ytialbhkamlfccaa.PA
open Go.RowKit Go.Proofs.YtialbhkamlfccaaW.PrintWords Go.Proofs.YtialbhkamlfccaaW.PrintLast Go.Proofs.YtialbhkamlfccaaW.PrintMore Go.Proofs.Ytialbhkamlfccaa.Mp Go.Proofs.Ytialbhkamlfccaa.Dia
set_option linter.unusedVariables false
set_option linter.unusedSimpArgs false
def CntIH (w0 : World) (ok : Nat → Prop) (g vars most : Nat) (full : Bool) (ns : List Nd) (nb b d : Nat) : Prop :=
  ∀ (i n : Nat) (X : World), Seen w0 ok g vars most full ns nb b n X → i < ns.length → vars ≤ d + top ns i → n + kk d ≤ 4000000000000000000 →
    Calls Try.prog 33 #[.pointer (some ⟨g, 0, none⟩), .int .i64 (i : Int), .map (some b)] X fun e w' => e = .returned (.int .u64 (cnt vars ns i : Int)) ∧ Aside0 (Seen w0 ok g vars most full ns nb b (n + kk d) w') ∧ Aside0 (Kept X w' (fun k => k = b))
set_option maxHeartbeats 8000000 in
set_option maxRecDepth 100000 in
theorem counts_const (g vars b i : Nat) (ns : List Nd) (X : World) (h : Inv vars ns) (hi : i < 2) :
    Calls Try.prog 33 #[.pointer (some ⟨g, 0, none⟩), .int .i64 (i : Int), .map (some b)] X fun e w' => e = .returned (.int .u64 (cnt vars ns i : Int)) ∧ w' = X := by
  rcases (show i = 0 ∨ i = 1 by omega) with rfl | rfl
  · rw [cnt_zero]
    clear h hi
    go_enter Try.func33, Try.ntmps33
    go_wp2_with fail
    go_ret
    exact ⟨rfl, rfl⟩
  · rw [cnt_one h]
    clear h hi
    go_enter Try.func33, Try.ntmps33
    go_wp2_with fail
    go_ret
    exact ⟨rfl, rfl⟩
set_option maxHeartbeats 8000000 in
set_option maxRecDepth 100000 in
theorem counts_found (g b i : Nat) (c : Int) (X : World) (hl : (Instr.lookup 63 (.map (some b)) (.int .i64 (i : Int)) true).run Try.prog X = .ok (.tuple #[.int .u64 c, .bool true]) X) (hi : 2 ≤ i) :
    Calls Try.prog 33 #[.pointer (some ⟨g, 0, none⟩), .int .i64 (i : Int), .map (some b)] X fun e w' => e = .returned (.int .u64 c) ∧ w' = X := by
  have g0 : ((i : Int) = 0) = False := eq_false (by omega)
  have g1 : ((i : Int) = 1) = False := eq_false (by omega)
  have g2 : (i = 0) = False := eq_false (by omega)
  have g3 : (i = 1) = False := eq_false (by omega)
  have g4 : ((i : Int) == 0) = false := by rw [beq_eq_false_iff_ne]; omega
  have g5 : ((i : Int) == 1) = false := by rw [beq_eq_false_iff_ne]; omega
  clear hi
  go_enter Try.func33, Try.ntmps33
  go_wp2_with fail
  go_ret
  exact ⟨rfl, rfl⟩
theorem shl_nat (x t v : Nat) (hv : v < t) (ht : t ≤ 60) (hx : x * 2 ^ (t - v - 1) < 18446744073709551616) : Op.shift .shl .u64 (x : Int) .i64 (IntKind.i64.wrap (IntKind.i64.wrap ((t : Int) - (v : Int)) - 1)) = pure (.int .u64 ((x * 2 ^ (t - v - 1) : Nat) : Int)) := by
  have e1 : IntKind.i64.wrap ((t : Int) - (v : Int)) = (t : Int) - (v : Int) := by rw [IntKind.wrap_i64]; omega
  have e2 : IntKind.i64.wrap ((t : Int) - (v : Int) - 1) = ((t - v - 1 : Nat) : Int) := by rw [IntKind.wrap_i64]; omega
  rw [e1, e2, shift_shl_u64 _ _ _ (by omega) (by omega), Int.toNat_natCast]
  congr 2
  have e3 : (x : Int) * 2 ^ (t - v - 1) = ((x * 2 ^ (t - v - 1) : Nat) : Int) := by simp
  rw [e3, IntKind.wrap_u64]
  omega
theorem add_nat {x y z : Nat} (h : z = x + y) (hz : z < 18446744073709551616) : IntKind.u64.wrap ((x : Int) + (y : Int)) = (z : Int) := by
  rw [IntKind.wrap_u64]
  omega
set_option maxHeartbeats 8000000 in
set_option maxRecDepth 100000 in
theorem counts_deep (w0 : World) (ok : Nat → Prop) (g vars most : Nat) (full : Bool) (ns : List Nd) (nb b d i n : Nat) (X : World) (ih : CntIH w0 ok g vars most full ns nb b d) (h : Seen w0 ok g vars most full ns nb b n X) (hi : i < ns.length) (h2 : 2 ≤ i) (hd : vars ≤ d + 1 + top ns i) (hn : n + kk (d + 1) ≤ 4000000000000000000) (hv : vars ≤ 60)
    (hl : (Instr.lookup 63 (.map (some b)) (.int .i64 (i : Int)) true).run Try.prog X = .ok (.tuple #[.int .u64 0, .bool false]) X) :
    Calls Try.prog 33 #[.pointer (some ⟨g, 0, none⟩), .int .i64 (i : Int), .map (some b)] X fun e w' => e = .returned (.int .u64 (cnt vars ns i : Int)) ∧ Aside0 (Seen w0 ok g vars most full ns nb b (n + kk (d + 1)) w') ∧ Aside0 (Kept X w' (fun k => k = b)) := by
  have g0 : ((i : Int) = 0) = False := eq_false (by omega)
  have g1 : ((i : Int) = 1) = False := eq_false (by omega)
  have g2 : (i = 0) = False := eq_false (by omega)
  have g3 : (i = 1) = False := eq_false (by omega)
  have g4 : ((i : Int) == 0) = false := by rw [beq_eq_false_iff_ne]; omega
  have g5 : ((i : Int) == 1) = false := by rw [beq_eq_false_iff_ne]; omega
  have u54 := Try.underlying54
  have hinv := h.1.inv
  obtain ⟨ad, c, hcells⟩ := node_cells h.1 h.2.1 (i := i)
  have hn0 : ns[i]? = some ns[i] := List.getElem?_eq_getElem hi
  have hlt := hinv.lt i _ hn0 h2
  have hlo : ns[ns[i].lo]? = some ns[ns[i].lo] := List.getElem?_eq_getElem (by omega)
  have hhi : ns[ns[i].hi]? = some ns[ns[i].hi] := List.getElem?_eq_getElem (by omega)
  have u1 := hinv.up i _ _ hn0 h2 (.inl hlo)
  have u2 := hinv.up i _ _ hn0 h2 (.inr hhi)
  have hcn := cnt_node hinv hn0 h2
  have t1 := top_le hinv (i := ns[i].lo) (by omega)
  have t2 := top_le hinv (i := ns[i].hi) (by omega)
  rw [top_of hn0] at hd
  have hblt := h.lt
  obtain ⟨z0, z1, z2, z3⟩ : X.cell? ⟨g, 0, none⟩ = some (.slice (some ad) ns.length c) ∧ X.cell? (ad.add (i * 3)) = some (.int .i64 (ns[i].v : Int)) ∧ X.cell? ⟨(ad.add (i * 3)).block, (ad.add (i * 3)).off + 1, none⟩ = some (.int .i64 (ns[i].lo : Int)) ∧ X.cell? ⟨(ad.add (i * 3)).block, (ad.add (i * 3)).off + 2, none⟩ = some (.int .i64 (ns[i].hi : Int)) := by
    have hk := hcells X (Kept.refl X _)
    exact ⟨hk.1, hk.2 i hi⟩
  rw [← top_of hlo] at u1
  rw [← top_of hhi] at u2
  have hcl : ∀ W, Kept X W (fun k => k = b) → W.cell? ⟨g, 0, none⟩ = some (.slice (some ad) ns.length c) ∧ W.cell? (ad.add (ns[i].lo * 3)) = some (.int .i64 (top ns ns[i].lo : Int)) ∧ W.cell? (ad.add (ns[i].hi * 3)) = some (.int .i64 (top ns ns[i].hi : Int)) := by
    intro W hW
    have hk := hcells W hW
    rw [top_of hlo, top_of hhi]
    exact ⟨hk.1, (hk.2 _ _).1, (hk.2 _ _).1⟩
  have j1 : ((ns[i].lo : Int) < (ns.length : Int)) = True := eq_true (by omega)
  have j2 : ((ns[i].hi : Int) < (ns.length : Int)) = True := eq_true (by omega)
  have j3 : (ns[i].lo < ns.length) = True := eq_true (by omega)
  have j4 : (ns[i].hi < ns.length) = True := eq_true (by omega)
  have hlen2 : ns[i].lo < ns.length ∧ ns[i].hi < ns.length := ⟨by omega, by omega⟩
  clear hcells hn0 hlo hhi
  generalize ns[i] = nd at hlt hcn t1 t2 hd z1 z2 z3 u1 u2 hcl j1 j2 j3 j4 hlen2
  have i1 : ((i : Int) < (ns.length : Int)) = True := eq_true (by omega)
  have i0 : (0 ≤ (i : Int)) = True := eq_true (by omega)
  have i2 : (i < ns.length) = True := eq_true hi
  have j5 : (0 ≤ (nd.lo : Int)) = True := eq_true (by omega)
  have j6 : (0 ≤ (nd.hi : Int)) = True := eq_true (by omega)
  obtain ⟨tl, htl⟩ : ∃ t, t = top ns nd.lo := ⟨_, rfl⟩
  obtain ⟨th, hth⟩ : ∃ t, t = top ns nd.hi := ⟨_, rfl⟩
  rw [← htl, ← hth] at hcl
  rw [← htl] at t1 u1 hcn
  rw [← hth] at t2 u2 hcn
  have HCL := Aside0.mk hcl
  have HS := Aside0.mk h
  have HF := Aside0.mk (And.intro hlt (And.intro u1 (And.intro u2 (And.intro t1 (And.intro t2 (And.intro hd (And.intro hn (And.intro hv (And.intro htl hth)))))))))
  have HCN := Aside0.mk hcn
  have HI := Aside0.mk (And.intro hi h2)
  have HL2 := Aside0.mk hlen2
  have HIH := Aside0.mk ih
  have HB := Aside0.mk hblt
  clear hlt u1 u2 t1 t2 hd hn hv hcn hi h2 htl hth h hcl hlen2 ih hblt hinv
  go_enter Try.func33, Try.ntmps33
  go_wp2_with fail
  have C1 : Aside0 (∀ W, Seen w0 ok g vars most full ns nb b n W → Calls Try.prog 33 #[.pointer (some ⟨g, 0, none⟩), .int .i64 (nd.lo : Int), .map (some b)] W fun e w' => e = .returned (.int .u64 (cnt vars ns nd.lo : Int)) ∧ Aside0 (Seen w0 ok g vars most full ns nb b (n + kk d) w') ∧ Aside0 (Kept W w' (fun k => k = b))) :=
    ⟨fun W hW => HIH.out nd.lo n W hW HL2.out.1 (by have := HF.out; omega) (by have := HF.out.2.2.2.2.2.2.1; rw [kk_succ] at this; omega)⟩
  have C2 : Aside0 (∀ W, Seen w0 ok g vars most full ns nb b (n + kk d) W → Calls Try.prog 33 #[.pointer (some ⟨g, 0, none⟩), .int .i64 (nd.hi : Int), .map (some b)] W fun e w' => e = .returned (.int .u64 (cnt vars ns nd.hi : Int)) ∧ Aside0 (Seen w0 ok g vars most full ns nb b (n + kk d + kk d) w') ∧ Aside0 (Kept W w' (fun k => k = b))) :=
    ⟨fun W hW => HIH.out nd.hi (n + kk d) W hW HL2.out.2 (by have := HF.out; omega) (by have := HF.out.2.2.2.2.2.2.1; rw [kk_succ] at this; omega)⟩
  have HK : Aside0 (Kept X (X.alloc (.cells #[.int .i64 (nd.v : Int), .int .i64 (nd.lo : Int), .int .i64 (nd.hi : Int)] 54)).drew (fun k => k = b)) := ⟨((Kept.refl X _).alloc _).drew⟩
  have HBX : Aside0 ((X.alloc (.cells #[.int .i64 (nd.v : Int), .int .i64 (nd.lo : Int), .int .i64 (nd.hi : Int)] 54)).drew.heap[X.heap.size]? = some (.cells #[.int .i64 (nd.v : Int), .int .i64 (nd.lo : Int), .int .i64 (nd.hi : Int)] 54)) := ⟨blk_drew (heap_alloc_new X _)⟩
  have HS1 := Aside0.mk (HS.out.below (below_alloc (Below.refl _ _) (.cells #[.int .i64 (nd.v : Int), .int .i64 (nd.lo : Int), .int .i64 (nd.hi : Int)] 54)).drew)
  clear HS
  have HS := HS1
  have hbnd : cnt vars ns i < 18446744073709551616 := by
    have h1 := cnt_le (vars := vars) (ns := ns) i
    have h2 := Nat.pow_le_pow_right (show 0 < 2 by decide) (show vars - top ns i ≤ 60 by have := HF.out; omega)
    omega
  have hsh1 := shl_nat (cnt vars ns nd.lo) tl nd.v HF.out.2.1 (by have := HF.out; omega) (by have := HCN.out; omega)
  have hsh2 := shl_nat (cnt vars ns nd.hi) th nd.v HF.out.2.2.1 (by have := HF.out; omega) (by have := HCN.out; omega)
  have hadd := add_nat HCN.out hbnd
  obtain ⟨ca, hca⟩ : ∃ x, x = cnt vars ns nd.lo * 2 ^ (tl - nd.v - 1) := ⟨_, rfl⟩
  obtain ⟨cb, hcb⟩ : ∃ x, x = cnt vars ns nd.hi * 2 ^ (th - nd.v - 1) := ⟨_, rfl⟩
  rw [← hca] at hsh1 hadd
  rw [← hcb] at hsh2 hadd
  have HBN := Aside0.mk hbnd
  clear hca hcb hbnd
  clear HS1 z0 z1 z2 z3
  go_region_held3 (fun W => W.cell? ⟨g, 0, none⟩ = some (.slice (some ad) ns.length c) ∧ W.cell? (ad.add (nd.lo * 3)) = some (.int .i64 (tl : Int)) ∧ W.cell? (ad.add (nd.hi * 3)) = some (.int .i64 (th : Int)) ∧ W.cell? ⟨X.heap.size, 0, none⟩ = some (.int .i64 (nd.v : Int)) ∧ W.cell? ⟨X.heap.size, 1, none⟩ = some (.int .i64 (nd.lo : Int)) ∧ W.cell? ⟨X.heap.size, 2, none⟩ = some (.int .i64 (nd.hi : Int))) (exact ⟨(HCL.out _ HK.out).1, (HCL.out _ HK.out).2.1, (HCL.out _ HK.out).2.2, cells3 HBX.out⟩) (first | (go_at_call 33; (with_reducible refine (C1.out _ HS.out).mono ?_); rintro e w1 ⟨rfl, hs, hk⟩; have n0 := hs; have n1 := Aside0.mk (HK.out.then_ hk.out (fun _ h => .inl h)); have n2 := Aside0.mk (blk_kept HBX.out hk.out (Nat.ne_of_gt HB.out)); clear HS HK HBX hs hk; have HS := n0; have HK := n1; have HBX := n2; clear n0 n1 n2) | (go_at_call 33; (with_reducible refine (C2.out _ HS.out).mono ?_); rintro e w1 ⟨rfl, hs, hk⟩; have n0 := hs; have n1 := Aside0.mk (HK.out.then_ hk.out (fun _ h => .inl h)); have n2 := Aside0.mk (blk_kept HBX.out hk.out (Nat.ne_of_gt HB.out)); clear HS HK HBX hs hk; have HS := n0; have HK := n1; have HBX := n2; clear n0 n1 n2))
  obtain ⟨X', hrun, hs2, hk2⟩ := HS.out.put HI.out.1 (by have := HF.out.2.2.2.2.2.2.1; rw [kk_succ] at this; omega) HBN.out (by have := HI.out.1; have := HS.out.1.small; omega)
  have HS3 := Aside0.mk hs2
  have HK3 := Aside0.mk (HK.out.then_ hk2 (fun _ h => .inl h))
  clear hs2 hk2 HK HS HBX
  go_wp2_with fail
  go_ret
  exact ⟨rfl, ⟨HS3.out.mono (by rw [kk_succ]; omega)⟩, HK3⟩
theorem bdd_counts.calls (w0 : World) (ok : Nat → Prop) (g vars most : Nat) (full : Bool) (ns : List Nd) (nb b : Nat) (hv : vars ≤ 60) : ∀ d, CntIH w0 ok g vars most full ns nb b d := by
  intro d
  induction d with
  | zero =>
    intro i n X h hi hd hn
    refine (counts_const g vars b i ns X h.1.inv (top_vars h.1.inv hi (by omega))).mono ?_
    rintro e w' ⟨rfl, rfl⟩
    exact ⟨rfl, ⟨h⟩, ⟨Kept.refl _ _⟩⟩
  | succ d ih =>
    intro i n X h hi hd hn
    by_cases h2 : i < 2
    · refine (counts_const g vars b i ns X h.1.inv h2).mono ?_
      rintro e w' ⟨rfl, rfl⟩
      exact ⟨rfl, ⟨h.mono (by omega)⟩, ⟨Kept.refl _ _⟩⟩
    · rcases h.look (i := i) (by have := h.1.small; omega) with hl | hl
      · refine (counts_found g b i _ X hl (by omega)).mono ?_
        rintro e w' ⟨rfl, rfl⟩
        exact ⟨rfl, ⟨h.mono (by omega)⟩, ⟨Kept.refl _ _⟩⟩
      · exact counts_deep w0 ok g vars most full ns nb b d i n X ih h hi (by omega) hd hn hv hl
end Go.Proofs.Ytialbhkamlfccaa.PA
/- Count: what the call comes to. No condition but the hypotheses that each theorem states. -/
namespace Go.Proofs.Ytialbhkamlfccaa.PA
open Go.RowKit Go.Proofs.YtialbhkamlfccaaW.PrintWords Go.Proofs.YtialbhkamlfccaaW.PrintLast Go.Proofs.YtialbhkamlfccaaW.PrintMore Go.Proofs.Ytialbhkamlfccaa.Mp Go.Proofs.Ytialbhkamlfccaa.Dia
set_option linter.unusedVariables false
set_option linter.unusedSimpArgs false
theorem shl_one (x t : Nat) (ht : t ≤ 60) (hx : x * 2 ^ t < 18446744073709551616) : Op.shift .shl .u64 (x : Int) .i64 (t : Int) = pure (.int .u64 ((x * 2 ^ t : Nat) : Int)) := by
  rw [shift_shl_u64 _ _ _ (by omega) (by omega), Int.toNat_natCast]
  congr 2
  have e3 : (x : Int) * 2 ^ t = ((x * 2 ^ t : Nat) : Int) := by simp
  rw [e3, IntKind.wrap_u64]
  omega
theorem Seen.start {w0 w : World} {ok : Nat → Prop} {g vars most nb : Nat} {full : Bool} {ns : List Nd} (h : BS w0 w ok g vars most full ns nb) :
    Seen w0 (fun k => ok k ∧ w0.heap.size ≤ k ∧ k < w.heap.size) g vars most full ns nb w.heap.size 0 (w.alloc (.map #[] 0)) :=
  ⟨h.bound.alloc _, fun h2 => by omega, _, _, World.ownsMap_made w Try.prog 3 _, ReadsU.empty, fun a c hc => by cases hc⟩
set_option maxHeartbeats 8000000 in
set_option maxRecDepth 100000 in
theorem bdd_Count.calls (a : Nat) (g vars most : Nat) (ok : Nat → Prop) (nb : Nat) (full : Bool) (ns : List Nd) (w0 w : World) (h : BS w0 w ok g vars most full ns nb) (ha : a < ns.length) (hv : vars ≤ 60) :
    Calls Try.prog 14 #[.pointer (some ⟨g, 0, none⟩), .int .i64 (a : Int)] w fun e w' => e = .returned (.tuple #[.int .u64 ((cnt vars ns a * 2 ^ top ns a : Nat) : Int), .bool true]) ∧ Below w.heap.size w w' := by
  have hinv := h.inv
  have h0 := h.below (Below.refl w.heap.size w).drew
  have hst : Seen w0 (fun k => ok k ∧ w0.heap.size ≤ k ∧ k < w.heap.size) g vars most full ns nb w.heap.size 0 (w.alloc (.map #[] 0)).drew := Seen.start h0
  have hCT : ∀ W, Seen w0 (fun k => ok k ∧ w0.heap.size ≤ k ∧ k < w.heap.size) g vars most full ns nb w.heap.size 0 W → Calls Try.prog 33 #[.pointer (some ⟨g, 0, none⟩), .int .i64 (a : Int), .map (some w.heap.size)] W fun e w' => e = .returned (.int .u64 (cnt vars ns a : Int)) ∧ Aside0 (Seen w0 (fun k => ok k ∧ w0.heap.size ≤ k ∧ k < w.heap.size) g vars most full ns nb w.heap.size (0 + kk vars) w') ∧ Aside0 (Kept W w' (fun k => k = w.heap.size)) :=
    fun W hW => bdd_counts.calls w0 _ g vars most full ns nb w.heap.size hv vars a 0 W hW ha (by omega) (by
      have h2 := Nat.pow_le_pow_right (show 0 < 2 by decide) hv
      unfold kk
      omega)
  obtain ⟨ad, c, hcells⟩ := node_cells (b := w.heap.size) (i := a) h0.bound (fun h2 => by have h3 := h2.2.2; simp at h3)
  have han : ns[a]? = some ns[a] := List.getElem?_eq_getElem ha
  have hcl : ∀ W, Kept w.drew W (fun k => k = w.heap.size) → W.cell? ⟨g, 0, none⟩ = some (.slice (some ad) ns.length c) ∧ W.cell? (ad.add (a * 3)) = some (.int .i64 (top ns a : Int)) := by
    intro W hW
    have hk := hcells W hW
    rw [top_of han]
    exact ⟨hk.1, (hk.2 _ ha).1⟩
  have hz3 : w.cell? ⟨g, 3, none⟩ = some (.int .i64 (vars : Int)) := by
    obtain ⟨A, c, mw, ma, hb, hC, hc⟩ := h.cells
    exact (cell_of_row _ _ 3 _ _ _ hb).trans rfl
  have htp := top_le hinv ha
  have hbn : cnt vars ns a * 2 ^ top ns a < 18446744073709551616 := by
    have h1 := cnt_le (vars := vars) (ns := ns) a
    have h2 : cnt vars ns a * 2 ^ top ns a ≤ 2 ^ (vars - top ns a) * 2 ^ top ns a := Nat.mul_le_mul_right _ h1
    rw [← Nat.pow_add, show vars - top ns a + top ns a = vars by omega] at h2
    have h3 := Nat.pow_le_pow_right (show 0 < 2 by decide) hv
    omega
  have hsh := shl_one (cnt vars ns a) (top ns a) (by omega) hbn
  have q1 : (60 < (vars : Int)) = False := eq_false (by omega)
  have q2 : (60 < vars) = False := eq_false (by omega)
  have i1 : ((a : Int) < (ns.length : Int)) = True := eq_true (by omega)
  have i0 : (0 ≤ (a : Int)) = True := eq_true (by omega)
  have i2 : (a < ns.length) = True := eq_true ha
  have hmm := @run_makeMap Try.prog
  obtain ⟨t, ht⟩ : ∃ t, t = top ns a := ⟨_, rfl⟩
  rw [← ht] at hsh hcl ⊢
  obtain ⟨r, hr⟩ : ∃ r, r = cnt vars ns a * 2 ^ t := ⟨_, rfl⟩
  rw [← hr] at hsh ⊢
  have HS := Aside0.mk h
  have HA := Aside0.mk ha
  have HST := Aside0.mk hst
  have HCL := Aside0.mk hcl
  have HCT := Aside0.mk hCT
  have HK := Aside0.mk (Kept.refl w.drew (fun k => k = w.heap.size))
  clear hinv h0 hst hCT hcells han hcl htp hbn ha hv h ht hr
  go_enter Try.func14, Try.ntmps14
  go_wp2_with (first | (go_at_call 32; (refine (bdd_has.calls (a : Int) g vars most ok nb full ns w0 _ HS.out).mono ?_); rintro e w1 ⟨rfl, e1⟩; have e2 := e1.symm; subst e2; clear e1; rw [show (decide (0 ≤ (a : Int)) && decide ((a : Int) < (ns.length : Int))) = true from num_ok HA.out]))
  go_region_held3 (fun W => W.cell? ⟨g, 0, none⟩ = some (.slice (some ad) ns.length c) ∧ W.cell? (ad.add (a * 3)) = some (.int .i64 (t : Int))) (first | exact HCL.out _ HK.out | exact HCL.out _ (HK.out.alloc _)) (first | (go_at_call 33; (with_reducible refine (HCT.out _ HST.out).mono ?_); rintro e w1 ⟨rfl, hs, hk⟩; have n1 := Aside0.mk ((HK.out.alloc (.map #[] 0)).then_ hk.out (fun _ h => .inl h)); clear HK hs hk; have HK := n1; clear n1))
  go_wp2_with fail
  go_ret2
  have hk := HK.out
  exact ⟨rfl, (Kept.to_below (w := w) hk (fun k h2 => by omega))⟩
end Go.Proofs.Ytialbhkamlfccaa.PA
/- lives: what the call comes to. No condition but the hypotheses that each theorem states. -/
namespace Go.Proofs.Ytialbhkamlfccaa.PA
open Go.RowKit Go.Proofs.YtialbhkamlfccaaW.PrintWords Go.Proofs.YtialbhkamlfccaaW.PrintLast Go.Proofs.YtialbhkamlfccaaW.PrintMore Go.Proofs.Ytialbhkamlfccaa.Mp Go.Proofs.Ytialbhkamlfccaa.Dia
set_option linter.unusedVariables false
set_option linter.unusedSimpArgs false
/-- Where there is room a function is made. -/
theorem Res.win {w0 w w' : World} {ok : Nat → Prop} {g vars most nb K v : Nat} {full : Bool} {ns : List Nd} {F : (Nat → Bool) → Bool} {e : Ending} (h : Res w0 w ok g vars most full ns nb K v F e w') (hl : ns.length + K < most) :
    ∃ (m : Nat) (dd : List Nd), e = .returned (.int .i64 (m : Int)) ∧ Aside0 (m < (ns ++ dd).length ∧ (∀ x, sem (ns ++ dd) m x = F x) ∧ (ns ++ dd).length ≤ ns.length + K ∧ BS w0 w' (fun k => ok k ∨ w.heap.size ≤ k) g vars most full (ns ++ dd) nb ∧ Kept w w' ok) := by
  obtain ⟨ns1, ⟨dd, rfl⟩, h1, h2, hc⟩ := h
  rcases hc with ⟨m, rfl, hm, _, hs, hb⟩ | ⟨_, hm, _⟩
  · exact ⟨m, dd, rfl, ⟨hm, hs, h1, hb, h2⟩⟩
  · omega
/-- The set, made since w0, and nothing else is kept. -/
def Ev (w0 w : World) (g vars most : Nat) (full : Bool) (ns : List Nd) (nb : Nat) : Prop := BS w0 w (fun k => w0.heap.size ≤ k) g vars most full ns nb ∧ Below w0.heap.size w0 w
theorem Ev.bs {w0 w : World} {g vars most nb : Nat} {full : Bool} {ns : List Nd} (h : Ev w0 w g vars most full ns nb) : BS w0 w (fun k => w0.heap.size ≤ k) g vars most full ns nb := h.1
theorem Ev.next {w0 w w' : World} {g vars most nb nb' K v : Nat} {full : Bool} {ns : List Nd} {F : (Nat → Bool) → Bool} {e : Ending} (h : Ev w0 w g vars most full ns nb) (hr : Res w0 w (fun k => w0.heap.size ≤ k) g vars most full ns nb' K v F e w') (hl : ns.length + K < most) :
    ∃ (m : Nat) (dd : List Nd), e = .returned (.int .i64 (m : Int)) ∧ Aside0 (m < (ns ++ dd).length ∧ (∀ x, sem (ns ++ dd) m x = F x) ∧ (ns ++ dd).length ≤ ns.length + K ∧ Ev w0 w' g vars most full (ns ++ dd) nb') := by
  obtain ⟨m, dd, he, hm⟩ := hr.win hl
  obtain ⟨h1, h2, h3, h4, h5⟩ := hm.out
  exact ⟨m, dd, he, ⟨h1, h2, h3, h4.mono (fun k hk => hk.elim id (fun h6 => Nat.le_trans h.2.size h6)) (Nat.le_refl _), ((Kept.of_below h.2 (fun k => w0.heap.size ≤ k)).then_ h5 (fun k hk => .inl hk)).to_below (fun k hk => hk)⟩⟩
theorem Ev.below {w0 w w' : World} {g vars most nb : Nat} {full : Bool} {ns : List Nd} (h : Ev w0 w g vars most full ns nb) (hb : Below w.heap.size w w') : Ev w0 w' g vars most full ns nb := ⟨h.1.below hb, below_then h.2 h.2.size hb⟩
theorem var_gt {i m : Nat} {ns : List Nd} (hs : ∀ x : Nat → Bool, sem ns m x = x i) : 1 < m := by
  rcases Nat.lt_or_ge 1 m with h | h
  · exact h
  · rcases (show m = 0 ∨ m = 1 by omega) with rfl | rfl
    · have := hs (fun _ => true); rw [sem_zero] at this; cases this
    · have := hs (fun _ => false); rw [sem_one] at this; cases this
theorem or_count {ns : List Nd} {m : Nat} (h : Inv 2 ns) (hm : m < ns.length) (hs : ∀ x : Nat → Bool, sem ns m x = (x 0 || x 1)) : cnt 2 ns m * 2 ^ top ns m = 3 := by
  have e := cv_cnt h hm (n := 2) (by omega) (by omega) (fun _ => false)
  rw [Nat.sub_self, Nat.sub_zero] at e
  rw [← e]
  simp only [cv, hs, set1]
  rfl
theorem xor_zero {vars : Nat} {ns : List Nd} {m : Nat} (h : Inv vars ns) (hm : m < ns.length) {F : (Nat → Bool) → Bool} (hs : ∀ x : Nat → Bool, sem ns m x = if F x then !F x else F x) : m = 0 :=
  canon' h hm (by have := h.len; omega) (fun x => by rw [hs x, sem_zero]; cases F x <;> rfl)
set_option maxHeartbeats 8000000 in
set_option maxRecDepth 100000 in
theorem lives.calls (w : World) : Calls Try.prog 13 #[] w fun e w' => e = .returned (.bool true) ∧ Below w.heap.size w w' := by
  go_enter Try.func13, Try.ntmps13
  go_upto_region 2 with (first | (go_at_call 7; (refine (bdd_New.calls 2 100 w (by omega) (by omega)).mono ?_); rintro e w1 ⟨g, rfl, hb, hbl⟩; have HE := Aside0.mk (show Ev w w1 g 2 100 false [⟨2, 0, 0⟩, ⟨2, 1, 1⟩] 0 from ⟨hb, hbl⟩); clear hb hbl))
  obtain ⟨ns, hns⟩ : ∃ ns : List Nd, ns = [⟨2, 0, 0⟩, ⟨2, 1, 1⟩] := ⟨_, rfl⟩
  rw [← hns] at HE
  have HL := Aside0.mk (show ns.length = 2 by rw [hns]; rfl)
  clear hns
  go_upto_region 5 with (first | (go_at_call 28; (with_reducible refine Calls.mono (bdd_Var.calls 0 g 2 100 _ 0 false ns w _ (Ev.bs HE.out) (by omega)) ?_); intro e w2 hr; obtain ⟨ma, d1, rfl, h1⟩ := HE.out.next hr (by have := HL.out; omega); clear hr) | (go_at_call 28; (with_reducible refine Calls.mono (bdd_Var.calls 1 g 2 100 _ 0 false (ns ++ d1) w _ (Ev.bs h1.out.2.2.2) (by omega)) ?_); intro e w3 hr; obtain ⟨mb, d2, rfl, h2⟩ := h1.out.2.2.2.next hr (by have := HL.out; have := h1.out.2.2.1; omega); clear hr))
  obtain ⟨ns2, hns2⟩ : ∃ n, n = ns ++ d1 ++ d2 := ⟨_, rfl⟩
  have e2 := h2.out
  have i1 := h1.out.2.2.2.1.inv
  have sa : ∀ x, sem ns2 ma x = x 0 := fun x => by rw [hns2, sem_pre i1 d2 h1.out.1]; exact h1.out.2.1 x
  have sb : ∀ x, sem ns2 mb x = x 1 := fun x => by rw [hns2]; exact e2.2.1 x
  have ga := var_gt sa
  have gb := var_gt sb
  rw [← hns2] at e2
  have la : ma < ns2.length := by rw [hns2, List.length_append]; have := h1.out.1; omega
  have lb := e2.1
  have hl2 : ns2.length ≤ 4 := by have := e2.2.2.1; have := h1.out.2.2.1; have := HL.out; omega
  have HE2 := Aside0.mk e2.2.2.2
  have HA := Aside0.mk (And.intro la lb)
  have HS := Aside0.mk (And.intro sa sb)
  have HL2 := Aside0.mk hl2
  have q1 : (1 < (ma : Int)) = True := eq_true (by omega)
  have q2 : (1 < (mb : Int)) = True := eq_true (by omega)
  have q3 : (1 < ma) = True := eq_true ga
  have q4 : (1 < mb) = True := eq_true gb
  clear e2 i1 sa sb ga gb la lb hl2 h1 h2 hns2
  have hkk : kk 2 = 3 := rfl
  have HKK := Aside0.mk hkk
  clear hkk
  go_upto_region 6 with (first | (go_at_call 24; (with_reducible refine Calls.mono (bdd_Or.calls ma mb g 2 100 _ 0 false ns2 w _ (Ev.bs HE2.out) HA.out (by have := HKK.out; omega)) ?_); intro e w4 hr; obtain ⟨mo, d3, rfl, h3⟩ := HE2.out.next hr (by have := HL2.out; have := HKK.out; omega); clear hr) | (go_at_call 14; (with_reducible refine Calls.mono (bdd_Count.calls mo g 2 100 _ _ false (ns2 ++ d3) w _ (Ev.bs h3.out.2.2.2) h3.out.1 (by omega)) ?_); rintro e w5 ⟨rfl, hb5⟩; have HE3 := Aside0.mk (h3.out.2.2.2.below hb5); rw [or_count h3.out.2.2.2.1.inv h3.out.1 (fun x => by rw [h3.out.2.1 x, HS.out.1 x, HS.out.2 x])]; clear hb5))
  have hi3 := HE3.out.1.inv
  have HI3 := Aside0.mk (And.intro hi3 (show ma < (ns2 ++ d3).length by rw [List.length_append]; have := HA.out; omega))
  have HL3 := Aside0.mk h3.out.2.2.1
  clear hi3 h3
  go_wp2_with (first | (go_at_call 25; (with_reducible refine Calls.mono (bdd_Xor.calls ma ma g 2 100 _ _ false (ns2 ++ d3) w _ (Ev.bs HE3.out) ⟨HI3.out.2, HI3.out.2⟩ (by have := HKK.out; omega)) ?_); intro e w6 hr; obtain ⟨mx, d4, rfl, h4⟩ := HE3.out.next hr (by have := HL2.out; have := HL3.out; have := HKK.out; omega); clear hr; have hz := xor_zero h4.out.2.2.2.1.inv h4.out.1 h4.out.2.1; subst hz; have HB := Aside0.mk h4.out.2.2.2.2; clear h4))
  go_ret
  exact ⟨rfl, HB.out⟩
end Go.Proofs.Ytialbhkamlfccaa.PA
