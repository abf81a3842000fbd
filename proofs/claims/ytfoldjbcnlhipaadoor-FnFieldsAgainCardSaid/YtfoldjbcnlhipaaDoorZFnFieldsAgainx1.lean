/- What the proof of the law FnFieldsAgain uses: lemmas, the Lean functions of the Go functions that it reaches, their contracts, and the pure statement's proof. -/
import Derived.Maps.OwnOps
import Derived.Maps.OwnSet
import Derived.Below
import Derived.WalkKit
import Derived.Test.YtfoldjbcnlhipaaDoorZFnFieldsAgainx0
namespace Go.Proofs.YtfoldjbcnlhipaaDoor.A
open Go.RowKit Go.Maps Go.Proofs.YtfoldjbcnlhipaaDoorW.PrintWords
set_option linter.unusedVariables false
def MapSet (P : Program) (k e : TypeId) (w : World) (b : Nat) (S : List Int) : Prop :=
  ∃ D : DataW Unit, w.ownsMap P k (plainElem P e) b S.length D ∧ IsMap D ∧ ∀ x : Int, D.atKey (.int .i64 x) (.lit (.bool false)) = .lit (.bool (decide (x ∈ S)))
section
variable {P : Program} {k e t : TypeId} {w w1 : World} {b : Nat} {S : List Int}
theorem MapSet.kept {row : Option Nat} (h : MapSet P k e w b S) (hg : w.grownBy w1 row) (hne : some b ≠ row) : MapSet P k e w1 b S := by
  obtain ⟨D, ho, hm, hx⟩ := h
  exact ⟨D, ho.kept hg hne, hm, hx⟩
theorem MapSet.alloc (h : MapSet P k e w b S) (o : Obj) : MapSet P k e (w.alloc o) b S := h.kept (World.grownBy_alloc w o none) (by simp)
theorem MapSet.drew (h : MapSet P k e w b S) : MapSet P k e w.drew b S := h
theorem MapSet.drewN (h : MapSet P k e w b S) (n : Nat) : MapSet P k e (w.drewN n) b S := by
  induction n generalizing w with
  | zero => exact h
  | succ n ih => rw [← World.drew_drewN]; exact ih h.drew
theorem MapSet.below (h : MapSet P k e w b S) (hb : Below w.heap.size w w1) : MapSet P k e w1 b S := h.kept (grown_of_below hb none) (by simp)
theorem MapSet.setCell (h : MapSet P k e w b S) {a : Addr} (ha : b ≠ a.block) (u : Value) : MapSet P k e (w.setCell a u) b S := by
  obtain ⟨D, ho, hm, hx⟩ := h
  exact ⟨D, ho.setCell ha u, hm, hx⟩
theorem MapSet.put (h : MapSet P k e w b S) (hk : P.underlying k = some (.int .i64)) (he : P.underlying e = some .bool) (ht : P.underlying t = some (.map k e)) (hn : S.length < maxLen)
    (x : Int) (hx : (Lit.int .i64 x).wf = true) : ∃ w', (Instr.mapUpdate t (.map (some b)) (.int .i64 x) (.bool true)).run P w = .ok () w' ∧ MapSet P k e w' b (x :: S) ∧ w.grownBy w' (some b) := by
  obtain ⟨D, ho, hm, hat⟩ := h
  obtain ⟨w', hrun, ho', hg⟩ := ho.update (int_keyed hk) ht hn (keyOf_int_mk hk hx) (plainElem_bool he true)
  refine ⟨w', hrun, ⟨_, ho', hm.put _ _, fun y => ?_⟩, hg⟩
  by_cases hy : y = x
  · subst hy
    rw [atKey_put_same hm (show WideAt.IsKeyLit (.int .i64 y) from trivial)]
    simp
  · rw [atKey_put_other (by simpa using hy), hat y]
    simp [hy]
end
end Go.Proofs.YtfoldjbcnlhipaaDoor.A
