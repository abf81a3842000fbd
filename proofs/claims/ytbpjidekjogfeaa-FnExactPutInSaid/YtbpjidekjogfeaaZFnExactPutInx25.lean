/- What the proof of the law FnExactPutIn uses: lemmas, the Lean functions of the Go functions that it reaches, their contracts, and the pure statement's proof. -/
import Derived.Test.YtbpjidekjogfeaaZFnExactPutInx24
import Derived.Test.YtbpjidekjogfeaaZFnExactPutInx18
import Derived.Test.YtbpjidekjogfeaaZFnExactPutInx20
import Derived.Test.YtbpjidekjogfeaaZFnExactPutInx19
import Derived.Test.YtbpjidekjogfeaaZFnExactPutInx22
import Derived.Test.YtbpjidekjogfeaaZFnExactPutInx23
namespace Go.Proofs.Ytbpjidekjogfeaa.A
open Go.RowKit Go.Proofs.YtbpjidekjogfeaaW.PrintWords Go.Proofs.YtbpjidekjogfeaaW.PrintLast Go.Proofs.YtbpjidekjogfeaaW.PrintMore
set_option linter.unusedVariables false
set_option linter.unusedSimpArgs false
def outG : Option S50 → Int × Int × Int × Bool
 | none => (0, 0, 0, false)
 | some g => (g.f0, g.f1, g.f2, true)
theorem least_loop (l : List S50) (hl : l.length ≤ 1048576) (size : Int) : ∀ (rest : List S50) (i : Nat) (best : Option S50), l.drop i = rest → i ≤ l.length →
  Ev (fun k => impl_least.l0 k size (outG best).2.2.2 l (l.length : Int) (i : Int) (outG best).1 (outG best).2.1 (outG best).2.2.1) (outG (leastW size best rest))
 | [], i, best, hd, hi => by
  have he := drop_end hd hi
  refine Ev.succ ?_
  simp only [impl_least.l0, leastW]
  exact Ev.neg (by omega) (Ev.ret _)
 | g :: rest, i, best, hd, hi => by
  obtain ⟨h1, h2, h3⟩ := drop_step z50 hd
  have er : rd_T50 l (i : Int) = g := h2
  have ih := fun best => least_loop l hl size rest (i + 1) best h3 (by omega)
  have ih1 := ih (some g)
  have ih0 := ih best
  refine Ev.succ ?_
  simp only [impl_least.l0, er, leastW]
  rw [wsucc i (by omega)]
  refine Ev.pos (by omega) (Ev.pos (by omega) (Ev.pos (by omega) ?_))
  by_cases c : g.f2 ≥ size
  ·refine Ev.pos c ?_
   cases best with
   | none =>
    rw [if_pos ⟨c, fun b hb => by cases hb⟩]
    exact Ev.neg (by simp [outG]) ih1
   | some b =>
    refine Ev.pos (by simp [outG]) ?_
    by_cases d : g.f2 < b.f2
    ·rw [if_pos ⟨c, fun b' hb => by cases hb; exact d⟩]
     exact Ev.pos d ih1
    ·rw [if_neg (fun e => d (e.2 b rfl))]
     exact Ev.neg d ih0
  ·rw [if_neg (fun e => c e.1)]
   exact Ev.neg c ih0
theorem least_ev (l : List S50) (hl : l.length ≤ 1048576) (size : Int) : Ev (fun k => impl_least.f k l size) (outG (leastP size l)) := by
 unfold impl_least.f leastP
 by_cases c : size < 1
 ·rw [if_pos c]
  exact Ev.pos c (Ev.ret _)
 ·rw [if_neg c]
  exact Ev.neg c (least_loop l hl size l 0 none rfl (by omega))
structure LeastAt (size : Int) (l l1 : List S50) (g : S50) (l2 : List S50) : Prop where
 all : l = l1 ++ g :: l2
 enough : size ≤ g.f2
 ahead : ∀ x ∈ l1, x.f2 < size ∨ g.f2 < x.f2
 behind : ∀ x ∈ l2, x.f2 < size ∨ g.f2 ≤ x.f2
theorem LeastAt.uniq {size : Int} : ∀ {l1 l1' : List S50} {l : List S50} {g g' : S50} {l2 l2' : List S50}, LeastAt size l l1 g l2 → LeastAt size l l1' g' l2' → l1 = l1' ∧ g = g' ∧ l2 = l2'
 | [], [], l, g, g', l2, l2', h, h' => by
  have e := h.all.symm.trans h'.all
  simp at e
  exact ⟨rfl, e.1, e.2⟩
 | [], x :: l1', l, g, g', l2, l2', h, h' => by
  have e := h.all.symm.trans h'.all
  simp at e
  have a := h'.ahead x (by simp)
  have b := h.behind g' (by rw [e.2]; simp)
  have c := h.enough
  have d := h'.enough
  rw [← e.1] at a
  omega
 | x :: l1, [], l, g, g', l2, l2', h, h' => by
  have e := h.all.symm.trans h'.all
  simp at e
  have a := h.ahead x (by simp)
  have b := h'.behind g (by rw [← e.2]; simp)
  have c := h.enough
  have d := h'.enough
  rw [e.1] at a
  omega
 | x :: l1, y :: l1', l, g, g', l2, l2', h, h' => by
  have e := h.all.symm.trans h'.all
  simp at e
  have k : LeastAt size (l1 ++ g :: l2) l1 g l2 := ⟨rfl, h.enough, fun z hz => h.ahead z (by simp [hz]), h.behind⟩
  have k' : LeastAt size (l1 ++ g :: l2) l1' g' l2' := ⟨e.2, h'.enough, fun z hz => h'.ahead z (by simp [hz]), h'.behind⟩
  obtain ⟨a, b, c⟩ := LeastAt.uniq k k'
  exact ⟨by rw [e.1, a], b, c⟩
theorem leastW_at {size : Int} {l l1 : List S50} {g : S50} {l2 : List S50} (h : LeastAt size l l1 g l2) : leastW size none l = some g := by
 rcases leastW_none size l with ⟨_, h2⟩ | ⟨k1, y, k2, h0, h1, h2, h4, h5⟩
 ·have := h2 g (by rw [h.all]; simp)
  have := h.enough
  omega
 ·obtain ⟨_, e, _⟩ := LeastAt.uniq h ⟨h0, h2, h4, h5⟩
  rw [h1, e]
theorem leastW_not {size : Int} {l : List S50} (h : ∀ x ∈ l, x.f2 < size) : leastW size none l = none := by
 rcases leastW_none size l with ⟨h1, _⟩ | ⟨k1, y, k2, h0, h1, h2, h4, h5⟩
 ·exact h1
 ·have := h y (by rw [h0]; simp)
  omega
theorem leastS_loop (l : List S50) (hl : l.length ≤ 1048576) (size : Int) : ∀ (rest : List S50) (i : Nat) (x : Int), l.drop i = rest → i ≤ l.length →
  ((x = -1 ∧ ∀ y ∈ l.take i, y.f2 < size) ∨ ∃ l1 g l2, LeastAt size (l.take i) l1 g l2 ∧ x = (l1.length : Int)) →
  ∃ r : Int, Ev (fun k => spec_l02Least.l0 k l size x (i : Int)) r ∧ ((r = -1 ∧ ∀ y ∈ l, y.f2 < size) ∨ ∃ l1 g l2, LeastAt size l l1 g l2 ∧ r = (l1.length : Int))
 | [], i, x, hd, hi, hx => by
  have he := drop_end hd hi
  refine ⟨x, Ev.succ ?_, ?_⟩
  ·simp only [spec_l02Least.l0]
   exact Ev.neg (by omega) (Ev.ret _)
  ·rw [he, List.take_length] at hx
   exact hx
 | g :: rest, i, x, hd, hi, hx => by
  obtain ⟨h1, h2, h3⟩ := drop_step z50 hd
  have er : rd_T50 l (i : Int) = g := h2
  have et : l.take (i + 1) = l.take i ++ [g] := by
   rw [List.take_add_one, ← h2, List.getD_eq_getElem?_getD, List.getElem?_eq_getElem h1]
   rfl
  have ih := fun y => leastS_loop l hl size rest (i + 1) y h3 (by omega)
  
  have new : size ≤ g.f2 → (∀ y ∈ l.take i, y.f2 < size ∨ g.f2 < y.f2) → ((i : Int) = -1 ∧ ∀ y ∈ l.take (i + 1), y.f2 < size) ∨ ∃ l1 g' l2, LeastAt size (l.take (i + 1)) l1 g' l2 ∧ (i : Int) = (l1.length : Int) := by
   intro a b
   exact Or.inr ⟨l.take i, g, [], ⟨et, a, b, by simp⟩, by rw [List.length_take]; omega⟩
  rcases hx with ⟨hx, hn⟩ | ⟨l1, b, l2, hb, hx⟩
  ·by_cases c : g.f2 ≥ size
   ·obtain ⟨r, hr, hp⟩ := ih (i : Int) (new c (fun y hy => Or.inl (hn y hy)))
    refine ⟨r, Ev.succ ?_, hp⟩
    simp only [spec_l02Least.l0, er]
    rw [wsucc i (by omega)]
    exact Ev.pos (by omega) (Ev.pos (by omega) (Ev.pos c (Ev.pos (by omega) hr)))
   ·obtain ⟨r, hr, hp⟩ := ih x (Or.inl ⟨hx, fun y hy => by
     rw [et] at hy
     rcases List.mem_append.mp hy with hy | hy
     ·exact hn y hy
     ·rw [List.mem_singleton.mp hy]; omega⟩)
    refine ⟨r, Ev.succ ?_, hp⟩
    simp only [spec_l02Least.l0, er]
    rw [wsucc i (by omega)]
    exact Ev.pos (by omega) (Ev.pos (by omega) (Ev.neg c hr))
  ·have hlen : l1.length < i := by
    have := congrArg List.length hb.all
    rw [List.length_take] at this
    simp at this
    omega
   have eb : rd_T50 l x = b := by
    rw [hx]
    show l.getD l1.length _ = b
    have e1 : l.getD l1.length z50 = (l.take i).getD l1.length z50 := by
     rw [List.getD_eq_getElem?_getD, List.getD_eq_getElem?_getD, List.getElem?_take_of_lt hlen]
    rw [e1, hb.all, List.getD_eq_getElem?_getD, List.getElem?_append_right (Nat.le_refl _), Nat.sub_self]
    rfl
   have old : (g.f2 < size ∨ b.f2 ≤ g.f2) → (x = -1 ∧ ∀ y ∈ l.take (i + 1), y.f2 < size) ∨ ∃ l1 g' l2, LeastAt size (l.take (i + 1)) l1 g' l2 ∧ x = (l1.length : Int) := by
    intro a
    refine Or.inr ⟨l1, b, l2 ++ [g], ⟨by rw [et, hb.all]; simp, hb.enough, hb.ahead, fun y hy => ?_⟩, hx⟩
    rcases List.mem_append.mp hy with hy | hy
    ·exact hb.behind y hy
    ·rw [List.mem_singleton.mp hy]; exact a
   by_cases c : g.f2 ≥ size
   ·by_cases d : g.f2 < b.f2
    ·obtain ⟨r, hr, hp⟩ := ih (i : Int) (new c (fun y hy => by
      rw [hb.all] at hy
      rcases List.mem_append.mp hy with hy | hy
      ·have := hb.ahead y hy; omega
      ·rcases List.mem_cons.mp hy with rfl | hy
       ·exact Or.inr d
       ·have := hb.behind y hy; omega))
     refine ⟨r, Ev.succ ?_, hp⟩
     simp only [spec_l02Least.l0, er, eb]
     rw [wsucc i (by omega)]
     exact Ev.pos (by omega) (Ev.pos (by omega) (Ev.pos c (Ev.neg (by omega) (Ev.pos (by omega) (Ev.pos (by omega) (Ev.pos d hr))))))
    ·obtain ⟨r, hr, hp⟩ := ih x (old (by omega))
     refine ⟨r, Ev.succ ?_, hp⟩
     simp only [spec_l02Least.l0, er, eb]
     rw [wsucc i (by omega)]
     exact Ev.pos (by omega) (Ev.pos (by omega) (Ev.pos c (Ev.neg (by omega) (Ev.pos (by omega) (Ev.pos (by omega) (Ev.neg d hr))))))
   ·obtain ⟨r, hr, hp⟩ := ih x (old (by omega))
    refine ⟨r, Ev.succ ?_, hp⟩
    simp only [spec_l02Least.l0, er]
    rw [wsucc i (by omega)]
    exact Ev.pos (by omega) (Ev.pos (by omega) (Ev.neg c hr))
theorem leastS_ev (l : List S50) (hl : l.length ≤ 1048576) (size : Int) : ∃ r : Int, Ev (fun k => spec_l02Least.f k l size) r ∧ ((r = -1 ∧ ∀ y ∈ l, y.f2 < size) ∨ ∃ l1 g l2, LeastAt size l l1 g l2 ∧ r = (l1.length : Int)) := by
 unfold spec_l02Least.f
 exact leastS_loop l hl size l 0 (-1) rfl (by omega) (Or.inl ⟨rfl, by simp⟩)
theorem fitS_out (l : List S50) (hl : l.length ≤ 1048576) (size : Int) : ∃ r : Int, Ev (fun k => spec_l02Least.f k l size) r ∧
  Ev (fun _ => if size < 1 then some (0, 0, 0, false) else (if r < 0 then some (0, 0, 0, false) else (if 0 ≤ r then (if r < (l.length : Int) then some ((rd_T50 l r).f0, (rd_T50 l r).f1, (rd_T50 l r).f2, true) else none) else none))) (outG (leastP size l)) := by
 obtain ⟨r, h1, h2⟩ := leastS_ev l hl size
 refine ⟨r, h1, ?_⟩
 by_cases c : size < 1
 ·have e : leastP size l = none := by unfold leastP; rw [if_pos c]
  rw [e]
  exact Ev.pos c (Ev.ret _)
 ·refine Ev.neg c ?_
  have e : leastP size l = leastW size none l := by unfold leastP; rw [if_neg c]
  rw [e]
  rcases h2 with ⟨h2, h3⟩ | ⟨l1, g, l2, h2, h3⟩
  ·rw [leastW_not h3]
   exact Ev.pos (by omega) (Ev.ret _)
  ·rw [leastW_at h2]
   have hlen := congrArg List.length h2.all
   simp at hlen
   have eb : rd_T50 l r = g := by
    rw [h3]
    show l.getD l1.length _ = g
    rw [h2.all, List.getD_eq_getElem?_getD, List.getElem?_append_right (Nat.le_refl _), Nat.sub_self]
    rfl
   rw [eb]
   exact Ev.neg (by omega) (Ev.pos (by omega) (Ev.pos (by omega) (Ev.ret _)))
theorem fit_ev (h : Int) (fx : List Int) (hf : fx.length ≤ 1048576) (bx : List S98) (size : Int) : Ev (fun k => impl_FitOf.f k h fx bx size) (outG (leastP size (gapsP h fx bx))) := by
 unfold impl_FitOf.f
 refine Ev.bind (gaps_ev h fx hf bx) ?_
 have := gapsP_len h fx bx
 exact Ev.bind (least_ev _ (by omega) size) (Ev.ret _)
theorem fitS_ev (h : Int) (fx : List Int) (hf : fx.length ≤ 1048576) (bx : List S98) (hb : bx.length ≤ 1048576) (size : Int) : Ev (fun k => spec_FitOf.f k h fx bx size) (outG (leastP size (gapsP h fx bx))) := by
 unfold spec_FitOf.f
 refine Ev.bind (gapsS_ev h fx hf bx hb) ?_
 have := gapsP_len h fx bx
 obtain ⟨r, h1, h2⟩ := fitS_out (gapsP h fx bx) (by omega) size
 exact Ev.bind h1 h2
end Go.Proofs.Ytbpjidekjogfeaa.A

namespace Go.Proofs.Ytbpjidekjogfeaa.A
open Go.RowKit Go.Proofs.YtbpjidekjogfeaaW.PrintWords Go.Proofs.YtbpjidekjogfeaaW.PrintLast Go.Proofs.YtbpjidekjogfeaaW.PrintMore
set_option linter.unusedVariables false
set_option linter.unusedSimpArgs false
theorem putS_ev {h : Int} {fx : List Int} (hf : fx.length ≤ 1048576) {bx : List S98} (hb : bx.length ≤ 1048576) (p size : Int) : Ev (fun k => spec_PutIn.f k h fx bx p size) (h, fx, putP h fx bx p size) := by
 unfold spec_PutIn.f
 refine Ev.bind (fitS_ev h fx hf bx hb size) ?_
 have no : ∀ g0 g1 g2, Ev (fun k => spec_PutIn.j0 k p size true h fx bx g0 g1 g2) (h, fx, bx, -1, false) := by
  intro g0 g1 g2
  refine Ev.succ ?_
  simp only [spec_PutIn.j0]
  exact Ev.pos (by trivial) (Ev.bind (copyS_ev h fx bx (by omega) (by omega)) (Ev.ret _))
 unfold putP
 cases hg : leastP size (gapsP h fx bx) with
 | none => exact Ev.neg (by simp [outG]) (no _ _ _)
 | some g =>
  dsimp only
  refine Ev.pos (by simp [outG]) (Ev.bind (Ev.const (in_eq _ _ _)) ?_)
  by_cases c1 : 1 ≤ p ∧ p ≤ 999
  ·refine Ev.pos (decide_eq_true c1) (Ev.bind (box_ev h fx bx hb p) ?_)
   by_cases c2 : boxI bx p < 0
   ·rw [if_pos ⟨c1, c2⟩, decide_eq_false (by omega)]
    have hc : colP h fx bx = true := by
     apply Classical.byContradiction
     intro hc
     have : gapsP h fx bx = [] := by unfold gapsP; rw [if_neg hc]
     rw [this] at hg
     simp [leastP, leastW] at hg
    have v := (colP_iff _ _ _).mp hc
    obtain ⟨A, R, B, _, e, h1, h2, h3, h4, _⟩ := put_run v hg c1 c2
    have e1 : g.f1 = loR R := by rw [e]
    have e2 : g.f2 = sumB R := by rw [e]
    refine Ev.succ ?_
    simp only [spec_PutIn.j0]
    refine Ev.neg (by simp) ?_
    exact Ev.bind (fillS_ev h fx hf bx v.len g.f0 g.f1 g.f2 p size (by omega) (by omega) (by omega) (by omega) (by omega) (by omega)) (Ev.ret _)
   ·rw [if_neg (fun e => c2 e.2), decide_eq_true (by omega)]
    exact no _ _ _
  ·rw [if_neg (fun e => c1 e.1)]
   exact Ev.neg (by simpa using c1) (no _ _ _)
end Go.Proofs.Ytbpjidekjogfeaa.A

namespace Go.Proofs.Ytbpjidekjogfeaa.A
open Go.RowKit Go.Proofs.YtbpjidekjogfeaaW.PrintWords Go.Proofs.YtbpjidekjogfeaaW.PrintLast Go.Proofs.YtbpjidekjogfeaaW.PrintMore
set_option linter.unusedVariables false
set_option linter.unusedSimpArgs false
theorem placed_ev (h : Int) (fx : List Int) (hf : fx.length ≤ 1048576) (bx : List S98) (hl : bx.length ≤ 24) (hm : ∀ b ∈ bx, 1 ≤ b.f1 ∧ b.f1 ≤ 24) (g0 lo sz p size : Int) (h0 : 0 ≤ lo ∧ lo ≤ 1000) (h1 : 0 ≤ sz ∧ sz ≤ 1000) (h2 : 0 ≤ size ∧ size ≤ 1000) :
  Ev (fun k => impl_placed.f k h fx bx g0 lo sz p size) (h, fx, fillD lo (newB lo sz p size) bx (decs fx [] [] bx)) := by
 unfold impl_placed.f
 refine Ev.bind (Ev.ret _) ?_
 have hn := newB_len lo sz p size
 have hF := filled_ev h fx hf bx hl hm lo (newB lo sz p size) (by omega)
 by_cases c : sz > size
 ·refine Ev.pos c (Ev.pos (by simp) ?_)
  rw [wid (lo + size) (by omega) (by omega), wid (sz - size) (by omega) (by omega)]
  have e : newB lo sz p size = [⟨lo, size, p, false⟩] ++ [⟨lo + size, sz - size, 0, false⟩] := by unfold newB; rw [if_pos c]; rfl
  rw [e] at hF ⊢
  exact Ev.bind hF (Ev.ret _)
 ·refine Ev.neg c ?_
  have e : newB lo sz p size = [⟨lo, size, p, false⟩] := by unfold newB; rw [if_neg c]
  rw [e] at hF ⊢
  exact Ev.bind hF (Ev.ret _)
theorem put_ev {h : Int} {fx : List Int} (hf : fx.length ≤ 1048576) {bx : List S98} (hb : bx.length ≤ 1048576) (p size : Int) : Ev (fun k => impl_PutIn.f k h fx bx p size) (h, fx, putP h fx bx p size) := by
 unfold impl_PutIn.f
 refine Ev.bind (fit_ev h fx hf bx size) (Ev.bind (Ev.const rfl) ?_)
 have no : ∀ (s : Bool) g0 g1 g2, s = true → Ev (fun k => impl_PutIn.j0 k p size s h fx bx g0 g1 g2) (h, fx, bx, -1, false) := by
  intro s g0 g1 g2 hs
  subst hs
  refine Ev.succ ?_
  simp only [impl_PutIn.j0]
  exact Ev.pos (by trivial) (Ev.bind (copy_ev h fx bx (by omega) (by omega)) (Ev.ret _))
 by_cases hc : colP h fx bx = true
 ·refine Ev.pos hc (Ev.bind (Ev.const (within_is _ _ _)) ?_)
  have v := (colP_iff _ _ _).mp hc
  by_cases c1 : 1 ≤ p ∧ p ≤ 999
  ·refine Ev.pos (decide_eq_true c1) (Ev.bind (Ev.const rfl) ?_)
   have eI : boxI bx p = idxP bx p 0 := by unfold boxI; rw [if_pos (by omega)]
   by_cases c2 : idxP bx p 0 ≥ 0
   ·refine Ev.pos c2 ((no true _ _ _ rfl).to ?_)
    unfold putP
    cases hg : leastP size (gapsP h fx bx) with
    | none => rfl
    | some g => dsimp only; rw [if_neg (fun e => by have := e.2; rw [eI] at this; omega)]
   ·refine Ev.neg c2 ?_
    unfold putP
    cases hg : leastP size (gapsP h fx bx) with
    | none => exact no _ _ _ _ rfl
    | some g =>
     dsimp only
     have hb' : boxI bx p < 0 := by rw [eI]; omega
     rw [if_pos ⟨c1, hb'⟩]
     obtain ⟨A, R, B, _, e, h1, h2, h3, h4, f1, f2, _⟩ := put_run v hg c1 hb'
     have e1 : g.f1 = loR R := by rw [e]
     have e2 : g.f2 = sumB R := by rw [e]
     refine Ev.succ ?_
     simp only [impl_PutIn.j0]
     refine Ev.neg (by simp [outG]) ?_
     refine Ev.bind (placed_ev h fx hf bx v.len (fun b hb => by have := v.mem hb; omega) g.f0 g.f1 g.f2 p size (by omega) (by omega) (by omega)) ((Ev.ret _).to ?_)
     rw [f1, f2]
     rfl
  ·refine Ev.neg (by simpa using c1) ((no true _ _ _ rfl).to ?_)
   unfold putP
   cases hg : leastP size (gapsP h fx bx) with
   | none => rfl
   | some g => dsimp only; rw [if_neg (fun e => c1 e.1)]
 ·refine Ev.neg hc ((no true _ _ _ rfl).to ?_)
  have : gapsP h fx bx = [] := by unfold gapsP; rw [if_neg hc]
  unfold putP
  rw [this]
  have e : leastP size ([] : List S50) = none := by simp [leastP, leastW]
  rw [e]
theorem putP_len {h : Int} {fx : List Int} {bx : List S98} (hb : bx.length ≤ 1048576) (p size : Int) : (putP h fx bx p size).1.length ≤ 1048576 := by
 unfold putP
 cases hg : leastP size (gapsP h fx bx) with
 | none => exact hb
 | some g =>
  dsimp only
  by_cases c : (1 ≤ p ∧ p ≤ 999) ∧ boxI bx p < 0
  ·rw [if_pos c]
   have hc : colP h fx bx = true := by
    apply Classical.byContradiction
    intro hc
    have : gapsP h fx bx = [] := by unfold gapsP; rw [if_neg hc]
    rw [this] at hg
    simp [leastP, leastW] at hg
   obtain ⟨A, R, B, _, _, _, _, _, _, f1, _, hv, _⟩ := put_run ((colP_iff _ _ _).mp hc) hg c.1 c.2
   rw [f1]
   have := hv.len
   show (A ++ newB g.f1 g.f2 p size ++ B).length ≤ _
   omega
  ·rw [if_neg c]; exact hb
end Go.Proofs.Ytbpjidekjogfeaa.A

namespace Go.Proofs.Ytbpjidekjogfeaa.A
open Go.RowKit Go.Proofs.YtbpjidekjogfeaaW.PrintWords Go.Proofs.YtbpjidekjogfeaaW.PrintLast Go.Proofs.YtbpjidekjogfeaaW.PrintMore
set_option linter.unusedVariables false
set_option linter.unusedSimpArgs false
theorem pureFnExactPutIn : ∀ (a0 : S58) (a1 : Int) (a2 : Int), ok58 a0 → ok3 a1 → ok3 a2 → ∃ k, laws_FnExactPutIn.f k a0.f0 a0.f1 a0.f2 a1 a2 = some true := by
 rintro ⟨h, fx, bx⟩ p size ⟨_, ⟨hf, _⟩, ⟨hb, _⟩⟩ _ _
 dsimp only at hf hb ⊢
 unfold maxLen at hf hb
 refine Ev.get ?_
 unfold laws_FnExactPutIn.f
 refine Ev.bind (Ev.const (szColumn_eq h fx bx 1048576 (by omega) (by omega) (by omega) (by omega))) ?_
 by_cases c : (1048576 : Int) < fx.length + bx.length
 ·rw [if_pos c]
  exact Ev.pos (by omega) (Ev.ret _)
 ·rw [if_neg c]
  have hl : (bx.map toI_Box).length = bx.length := List.length_map _
  have hT := toColumn_ev h fx bx (by omega) (by omega)
  generalize hy : bx.map toI_Box = y at hl hT
  have hS := putS_ev (h := h) (fx := fx) (by omega) (bx := y) (by omega) p size
  have hI := put_ev (h := h) (fx := fx) (by omega) (bx := y) (by omega) p size
  have hr := putP_len (h := h) (fx := fx) (bx := y) (by omega) p size
  generalize putP h fx y p size = z at hS hI hr
  obtain ⟨z, low, ok⟩ := z
  dsimp only at hr
  have hE := eqColumn_ev h fx z (by omega) (by omega)
  have hEy := eqColumn_ev h fx y (by omega) (by omega)
  have hM := markColumn_ev h fx z (by omega) (by omega) 1 (by omega) (by omega)
  have hH := heldColumn_ev h fx.length z.length (by omega) (by omega) 1 (by omega) (by omega)
  refine Ev.neg (by omega) ?_
  refine Ev.bind hT (Ev.bind hS (Ev.bind hT (Ev.bind hI (Ev.bind hE (Ev.pos (by trivial) (Ev.pos (by trivial) ?_))))))
  refine Ev.succ ?_
  simp only [laws_FnExactPutIn.j0]
  refine Ev.neg (by simp) ?_
  refine Ev.bind hT (Ev.bind hEy (Ev.pos (by trivial) ?_))
  refine Ev.bind (markColumn_ev h fx y (by omega) (by omega) 1 (by omega) (by omega)) ?_
  dsimp only
  refine Ev.neg (by omega) ?_
  refine Ev.bind hE (Ev.pos (by trivial) (Ev.pos (by trivial) ?_))
  refine Ev.succ ?_
  simp only [laws_FnExactPutIn.j1]
  refine Ev.neg (by simp) ?_
  refine Ev.bind hM (Ev.bind hH ?_)
  dsimp only
  refine Ev.neg (by omega) (Ev.pos (by trivial) ?_)
  refine Ev.bind hT (Ev.bind hI (Ev.bind hE (Ev.pos (by trivial) (Ev.pos (by trivial) ?_))))
  refine Ev.succ ?_
  simp only [laws_FnExactPutIn.j2]
  refine Ev.neg (by simp) ?_
  exact Ev.bind hH (Ev.neg (by omega) (Ev.pos (by trivial) (Ev.ret _)))
end Go.Proofs.Ytbpjidekjogfeaa.A
