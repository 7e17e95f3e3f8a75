/- Abbreviations of this session's own: that what holds in a world holds in a later one, the later one being found by instances. No condition beyond what each theorem states; no program in sight. -/
import Derived.Test.YtkcechbibabpjaaWWords
import Derived.Test.YtkcechbibabpjaaWLast
import Derived.Test.YtkcechbibabpjaaWMore
namespace Go.Proofs.Ytkcechbibabpjaa.Ab
open Go.RowKit Go.Proofs.YtkcechbibabpjaaW.PrintWords Go.Proofs.YtkcechbibabpjaaW.PrintLast Go.Proofs.YtkcechbibabpjaaW.PrintMore
/-- The second world is the first one, blocks having been made and orders drawn. -/
class Later (w w' : World) : Prop where out : Below w.heap.size w w'
instance (w : World) : Later w w := ⟨Below.refl _ _⟩
instance (w w' : World) (o : Obj) [h : Later w w'] : Later w (w'.alloc o) := ⟨below_alloc h.out o⟩
instance (w w' : World) (n : Nat) [h : Later w w'] : Later w (w'.drewN n) := ⟨pw_below_drewN h.out n⟩
instance (w w' : World) [h : Later w w'] : Later w w'.drew := ⟨below_drew1 h.out⟩
theorem rr_ {α : Type} {d : Kd α} {e : Nat} {w w' : World} {base : Nat} {ok : Nat → Prop} {v : Value} {xs : List α} (X : Aside0 (d.R e w base ok v xs)) [h : Later w w'] : d.R e w' base ok v xs := Kd.R_below X.out h.out
theorem rb_ {w w' : World} {g : Nat} {o : Obj} (X : Aside0 (w.heap[g]? = some o)) [h : Later w w'] : w'.heap[g]? = some o := blk_below X.out h.out
theorem rl_ {w0 w w' : World} (X : Aside0 (Below w0.heap.size w0 w)) [h : Later w w'] : Below w0.heap.size w0 w' := below_step X.out h.out
theorem rcb_ {α : Type} {d : Kd α} {w0 w w' : World} {A : Option Addr} {n : Nat} {xs : List α} (X : Aside0 (d.C w0 A n xs)) (HB : Aside0 (Below w0.heap.size w0 w)) [h : Later w w'] : d.C w' A n xs := Kd.C_below (Kd.C_below X.out HB.out) h.out
theorem rcr_ {α : Type} {d : Kd α} {e : Nat} {w w' : World} {base : Nat} {ok : Nat → Prop} {A : Option Addr} {n c : Nat} {xs : List α} (X : Aside0 (d.R e w base ok (.slice A n c) xs)) [h : Later w w'] : d.C w' A xs.length xs := Kd.C_below (Kd.R_reads' X.out).2.2 h.out
end Go.Proofs.Ytkcechbibabpjaa.Ab
