/- The pure statement of the law FnExactColumnOk: its function answers true for all arguments that can be read; no further condition. -/
import Derived.Test.YtghfeapncmlihaaAx10
import Derived.Test.YtghfeapncmlihaaOp
import Derived.Test.YtghfeapncmlihaaL3
namespace Go.Proofs.Ytghfeapncmlihaa.A
open Go.RowKit Go.Proofs.YtghfeapncmlihaaW.PrintWords Go.Proofs.YtghfeapncmlihaaW.PrintLast Go.Proofs.YtghfeapncmlihaaW.PrintMore
set_option linter.unusedVariables false
set_option linter.unusedSimpArgs false

theorem pureFnExactColumnOk : ∀ (a0 : S25), ok25 a0 → ∃ k, laws_FnExactColumnOk.f k a0.f0 a0.f1 a0.f2 = some true := by
  rintro ⟨h, fx, bx⟩ ⟨_, ⟨hf, _⟩, ⟨hb, _⟩⟩
  dsimp only at hf hb ⊢
  unfold maxLen at hf hb
  refine Ev.get ?_
  unfold laws_FnExactColumnOk.f
  refine Ev.bind (Ev.const (szColumn_eq h fx bx 1048576 (by omega) (by omega) (by omega) (by omega))) ?_
  by_cases c : (1048576 : Int) < fx.length + bx.length
  · rw [if_pos c]
    exact Ev.pos (by omega) (Ev.ret _)
  · rw [if_neg c]
    refine Ev.neg (by omega) ?_
    refine Ev.bind (toColumn_ev h fx bx (by omega) (by omega)) ?_
    dsimp only
    have hl : (bx.map toI_Box).length ≤ 1048576 := by rw [List.length_map]; omega
    refine Ev.bind (colok_ev h fx (by omega) _ (by omega)) ?_
    refine Ev.bind (toColumn_ev h fx bx (by omega) (by omega)) ?_
    dsimp only
    refine Ev.bind (Ev.const rfl) ?_
    refine Ev.neg (by simp) ?_
    refine Ev.bind (toColumn_ev h fx bx (by omega) (by omega)) ?_
    dsimp only
    refine Ev.bind (eqColumn_ev _ _ _ (by omega) hl) ?_
    exact Ev.pos rfl (Ev.ret _)

end Go.Proofs.Ytghfeapncmlihaa.A
