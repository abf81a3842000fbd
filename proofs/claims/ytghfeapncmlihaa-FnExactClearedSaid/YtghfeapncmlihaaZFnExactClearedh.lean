/- Words of this claim's own, behind the printer's: what the contracts' proofs say over and over. -/
import Derived.Test.YtghfeapncmlihaaZFnExactClearedx0
import Derived.Test.YtghfeapncmlihaaZFnExactClearedx2
import Derived.Test.YtghfeapncmlihaaZFnExactClearedx3
import Derived.Test.YtghfeapncmlihaaZFnExactClearedx4
import Derived.Test.YtghfeapncmlihaaZFnExactClearedx5
import Derived.Test.YtghfeapncmlihaaZFnExactClearedx6
import Derived.Test.YtghfeapncmlihaaZFnExactClearedx7
import Derived.Test.YtghfeapncmlihaaZFnExactClearedx8
import Derived.Test.YtghfeapncmlihaaZFnExactClearedx9
import Derived.Test.YtghfeapncmlihaaZFnExactClearedx10
import Derived.Test.YtghfeapncmlihaaZFnExactClearedx11
import Derived.Test.YtghfeapncmlihaaZFnExactClearedx12
import Derived.Test.YtghfeapncmlihaaZFnExactClearedx13
namespace Go.Proofs.YtghfeapncmlihaaW.PrintWords
open Go.RowKit Go.Proofs.YtghfeapncmlihaaW.PrintLast
set_option linter.unusedVariables false
/-- Words of this claim's own: what the contracts' proofs say over and over, each a theorem whose last step is a proof by default. -/
theorem bN {w : World} {g : Nat} {o : Obj} (h : w.heap[g]? = some o) (n : Nat) : (w.drewN n).heap[g]? = some o := h
theorem bD {w : World} {g : Nat} {o : Obj} (h : w.heap[g]? = some o) : w.drew.heap[g]? = some o := h
theorem bA {w : World} {g : Nat} {o : Obj} (h : w.heap[g]? = some o) (o' : Obj) : (w.alloc o').heap[g]? = some o := blk_alloc h o'
theorem bk {P Q : Prop} (h : Q) (e : Q → P := by intro h; (with_reducible repeat (first | apply bN | apply bD | apply bA)); exact h) : P := e h
theorem bl {P Q : Prop} (h : Q) (e : Q → P := by intro h; repeat (first | (with_reducible first | exact h | apply below_alloc | apply pw_below_drewN | apply below_drew1 | refine below_set ?_ (Aside0.out (by assumption))) | exact h)) : P := e h
theorem rk {P Q : Prop} (h : Q) (e : Q → P := by intro h; (with_reducible repeat (first | apply Kd.R_alloc | apply Kd.R_drewN | apply Kd.R_drew)); exact h) : P := e h
theorem kp {P Q : Prop} (h : Q) (e : Q → P := by intro h; repeat (first | (with_reducible first | exact h | apply KeepBut.set_ | apply keep_drewN | apply keep_drew | apply keep_alloc | refine keep_far ?_ (Aside0.out (by assumption)) _) | exact h)) : P := e h
theorem bb {w w1 w0 : World} {g : Nat} {o : Obj} (h : w0.heap[g]? = some o) (hb : Below w.heap.size w w1) (e : w0.heap[g]? = some o → w.heap[g]? = some o := by intro h; (with_reducible repeat (first | apply bN | apply bD | apply bA)); exact h) : w1.heap[g]? = some o := blk_below (e h) hb
theorem nl {w w0 : World} {g g' : Nat} {o : Obj} (h : w0.heap[g]? = some o) (hg : g' = w.heap.size) (e : w0.heap[g]? = some o → w.heap[g]? = some o := by intro h; (with_reducible repeat (first | apply bN | apply bD | apply bA)); exact h) : g ≠ g' := by rw [hg]; exact Nat.ne_of_lt (blk_lt (e h))
theorem ng {w w0 : World} {g g' : Nat} {o : Obj} (h : w0.heap[g]? = some o) (hg : g' = w.heap.size) (e : w0.heap[g]? = some o → w.heap[g]? = some o := by intro h; (with_reducible repeat (first | apply bN | apply bD | apply bA)); exact h) : g' ≠ g := by rw [hg]; exact Nat.ne_of_gt (blk_lt (e h))
theorem gs {w W W0 : World} {g : Nat} (h : Below w.heap.size w W0) (hg : g = W.heap.size) (e : Below w.heap.size w W0 → Below w.heap.size w W := by intro h; repeat (first | (with_reducible first | exact h | apply below_alloc | apply pw_below_drewN | apply below_drew1 | refine below_set ?_ (Aside0.out (by assumption))) | exact h)) : w.heap.size ≤ g := by rw [hg]; exact below_size (e h)
theorem bx {P : Program} {ops : Array Oper} {rest : List Oper} {o : Oper} {a : Act} {Q : Exit → Act → World → Prop} {W : World} {cs : Array Value} {t : TypeId} (h : ∀ g, g = W.heap.size → ∀ w1, w1.heap[g]? = some (.cells cs t (0, 0)) → Below W.heap.size W w1 → wpList P ops Q rest (a.put o.dst (.pointer (some ⟨g, 0, none⟩))) w1) (hgd : o.guard = none := by rfl) (hrun : (execOp a.eval o).run P W = .ok (.value (.pointer (some ⟨W.heap.size, 0, none⟩))) (W.alloc (.cells cs t (0, 0))) := by first | (go_simp; done) | (go_simp; rfl)) : wpList P ops Q (o :: rest) a W :=
  Kd.event_run hgd hrun (h _ rfl _ (blk_new W _) (below_alloc (Below.refl _ _) _))
end Go.Proofs.YtghfeapncmlihaaW.PrintWords
