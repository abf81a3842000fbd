/- Used by the law FnExactPlacesFor. -/
import Derived.Test.YtbpjidekjogfeaaZFnExactPlacesForx21
import Derived.Test.YtbpjidekjogfeaaZFnExactPlacesForx22
namespace Go.Proofs.Ytbpjidekjogfeaa.A
open Go.RowKit Go.Proofs.YtbpjidekjogfeaaW.PrintWords Go.Proofs.YtbpjidekjogfeaaW.PrintLast Go.Proofs.YtbpjidekjogfeaaW.PrintMore
set_option linter.unusedVariables false
set_option linter.unusedSimpArgs false
theorem pureFnExactPlacesFor : ∀ (l0 : List (S58)) (l1 : List Int), ok22 l0 → ok38 l1 → ∃ k, laws_FnExactPlacesFor.f k l0 l1 = some true := by
 rintro l sizes hl ⟨hz, _⟩
 unfold maxLen at hz
 refine Ev.get ?_
 unfold laws_FnExactPlacesFor.f
 by_cases c : (sizes.length : Int) > 1048576
 ·exact Ev.pos c (Ev.ret _)
 ·refine Ev.neg c ?_
  have hT2 := toIntS_ev sizes (by omega)
  rcases bank_begin l hl with ⟨r, h1, h2⟩ | ⟨⟨r, h1, h2⟩, hT, hs, hw⟩
  ·exact Ev.bind h1 (Ev.pos h2 (Ev.ret _))
  ·rw [← wtC_toI] at hw
   generalize l.map toI_Col = cs at hT hs hw
   obtain ⟨m, m0, m1, hM0⟩ := markColS_ev cs hs hw
   have hS := placesS_ev cs hs sizes (by omega)
   have hI := placesI_ev cs hs sizes (by omega)
   have hzl : (placesB cs sizes).1.length ≤ 1048576 := by
    unfold placesB
    split
    ·cases e : spreadP sizes (roomsG (bankG 0 cs)) with
     | none => simp [placesR]
     | some l =>
      have := spreadP_len _ _ _ e
      show l.length ≤ 1048576
      omega
    ·simp
   generalize placesB cs sizes = z at hS hI hzl
   obtain ⟨z, ok⟩ := z
   dsimp only at hzl
   have hE := eqIntS_ev z hzl
   have hM := markIntS_ev z hzl 1 (by omega) (by omega)
   have hH := heldIntS_ev z.length hzl 1 (by omega) (by omega)
   have hMs := markIntS_ev sizes (by omega) m m0 (by omega)
   refine Ev.bind h1 (Ev.neg (by omega) ?_)
   refine Ev.bind hT (Ev.bind hT2 (Ev.bind hS (Ev.bind hT (Ev.bind hT2 (Ev.bind hI (Ev.bind hE (Ev.pos (by trivial) ?_)))))))
   refine Ev.succ ?_
   simp only [laws_FnExactPlacesFor.j0]
   refine Ev.neg (by simp) ?_
   refine Ev.bind hT (Ev.bind (eqColumnS_ev cs hs) (Ev.pos (by trivial) (Ev.bind hT2 (Ev.bind (eqIntS_ev sizes (by omega)) (Ev.pos (by trivial) (Ev.bind hM0 (Ev.bind hMs ?_)))))))
   refine Ev.neg (by dsimp only; omega) (Ev.bind hE (Ev.pos (by trivial) ?_))
   refine Ev.succ ?_
   simp only [laws_FnExactPlacesFor.j1]
   refine Ev.neg (by simp) ?_
   refine Ev.bind hM (Ev.bind hH ?_)
   dsimp only
   refine Ev.neg (by omega) (Ev.pos (by trivial) ?_)
   refine Ev.bind hT (Ev.bind hT2 (Ev.bind hI (Ev.bind hE (Ev.pos (by trivial) ?_))))
   refine Ev.succ ?_
   simp only [laws_FnExactPlacesFor.j2]
   refine Ev.neg (by simp) ?_
   exact Ev.bind hH (Ev.neg (by omega) (Ev.pos (by trivial) (Ev.ret _)))
end Go.Proofs.Ytbpjidekjogfeaa.A
