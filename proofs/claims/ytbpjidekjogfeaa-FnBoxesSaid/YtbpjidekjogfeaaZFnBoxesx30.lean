/- Used by the law FnBoxes. -/
import Derived.Test.YtbpjidekjogfeaaZFnBoxesx29
import Derived.Test.YtbpjidekjogfeaaZFnBoxesx20
import Derived.Test.YtbpjidekjogfeaaZFnBoxesx25
import Derived.Test.YtbpjidekjogfeaaZFnBoxesx21
import Derived.Test.YtbpjidekjogfeaaZFnBoxesx22
import Derived.Test.YtbpjidekjogfeaaZFnBoxesx24
import Derived.Test.YtbpjidekjogfeaaZFnBoxesx27
import Derived.Test.YtbpjidekjogfeaaZFnBoxesx28
namespace Go.Proofs.Ytbpjidekjogfeaa.A
open Go.RowKit Go.Proofs.YtbpjidekjogfeaaW.PrintWords Go.Proofs.YtbpjidekjogfeaaW.PrintLast Go.Proofs.YtbpjidekjogfeaaW.PrintMore
set_option linter.unusedVariables false
set_option linter.unusedSimpArgs false
def outG : Option S50 → Int × Int × Int × Bool
 | none => (0, 0, 0, false)
 | some g => (g.f0, g.f1, g.f2, true)
theorem least_loop (l : List S50) (hl : l.length ≤ 1048576) (size : Int) : ∀ (rest : List S50) (i : Nat) (best : Option S50), l.drop i = rest → i ≤ l.length →
  Ev (fun k => impl_least.l0 k size (outG best).2.2.2 l (l.length : Int) (i : Int) (outG best).1 (outG best).2.1 (outG best).2.2.1) (outG (leastW size best rest))
 | [], i, best, hd, hi => by
  have he := drop_end hd hi
  refine Ev.succ ?_
  simp only [impl_least.l0, leastW]
  exact Ev.neg (by omega) (Ev.ret _)
 | g :: rest, i, best, hd, hi => by
  obtain ⟨h1, h2, h3⟩ := drop_step z50 hd
  have er : rd_T50 l (i : Int) = g := h2
  have ih := fun best => least_loop l hl size rest (i + 1) best h3 (by omega)
  have ih1 := ih (some g)
  have ih0 := ih best
  refine Ev.succ ?_
  simp only [impl_least.l0, er, leastW]
  rw [wsucc i (by omega)]
  refine Ev.pos (by omega) (Ev.pos (by omega) (Ev.pos (by omega) ?_))
  by_cases c : g.f2 ≥ size
  ·refine Ev.pos c ?_
   cases best with
   | none =>
    rw [if_pos ⟨c, fun b hb => by cases hb⟩]
    exact Ev.neg (by simp [outG]) ih1
   | some b =>
    refine Ev.pos (by simp [outG]) ?_
    by_cases d : g.f2 < b.f2
    ·rw [if_pos ⟨c, fun b' hb => by cases hb; exact d⟩]
     exact Ev.pos d ih1
    ·rw [if_neg (fun e => d (e.2 b rfl))]
     exact Ev.neg d ih0
  ·rw [if_neg (fun e => c e.1)]
   exact Ev.neg c ih0
theorem least_ev (l : List S50) (hl : l.length ≤ 1048576) (size : Int) : Ev (fun k => impl_least.f k l size) (outG (leastP size l)) := by
 unfold impl_least.f leastP
 by_cases c : size < 1
 ·rw [if_pos c]
  exact Ev.pos c (Ev.ret _)
 ·rw [if_neg c]
  exact Ev.neg c (least_loop l hl size l 0 none rfl (by omega))
structure LeastAt (size : Int) (l l1 : List S50) (g : S50) (l2 : List S50) : Prop where
 all : l = l1 ++ g :: l2
 enough : size ≤ g.f2
 ahead : ∀ x ∈ l1, x.f2 < size ∨ g.f2 < x.f2
 behind : ∀ x ∈ l2, x.f2 < size ∨ g.f2 ≤ x.f2
theorem LeastAt.uniq {size : Int} : ∀ {l1 l1' : List S50} {l : List S50} {g g' : S50} {l2 l2' : List S50}, LeastAt size l l1 g l2 → LeastAt size l l1' g' l2' → l1 = l1' ∧ g = g' ∧ l2 = l2'
 | [], [], l, g, g', l2, l2', h, h' => by
  have e := h.all.symm.trans h'.all
  simp at e
  exact ⟨rfl, e.1, e.2⟩
 | [], x :: l1', l, g, g', l2, l2', h, h' => by
  have e := h.all.symm.trans h'.all
  simp at e
  have a := h'.ahead x (by simp)
  have b := h.behind g' (by rw [e.2]; simp)
  have c := h.enough
  have d := h'.enough
  rw [← e.1] at a
  omega
 | x :: l1, [], l, g, g', l2, l2', h, h' => by
  have e := h.all.symm.trans h'.all
  simp at e
  have a := h.ahead x (by simp)
  have b := h'.behind g (by rw [← e.2]; simp)
  have c := h.enough
  have d := h'.enough
  rw [e.1] at a
  omega
 | x :: l1, y :: l1', l, g, g', l2, l2', h, h' => by
  have e := h.all.symm.trans h'.all
  simp at e
  have k : LeastAt size (l1 ++ g :: l2) l1 g l2 := ⟨rfl, h.enough, fun z hz => h.ahead z (by simp [hz]), h.behind⟩
  have k' : LeastAt size (l1 ++ g :: l2) l1' g' l2' := ⟨e.2, h'.enough, fun z hz => h'.ahead z (by simp [hz]), h'.behind⟩
  obtain ⟨a, b, c⟩ := LeastAt.uniq k k'
  exact ⟨by rw [e.1, a], b, c⟩
theorem leastW_at {size : Int} {l l1 : List S50} {g : S50} {l2 : List S50} (h : LeastAt size l l1 g l2) : leastW size none l = some g := by
 rcases leastW_none size l with ⟨_, h2⟩ | ⟨k1, y, k2, h0, h1, h2, h4, h5⟩
 ·have := h2 g (by rw [h.all]; simp)
  have := h.enough
  omega
 ·obtain ⟨_, e, _⟩ := LeastAt.uniq h ⟨h0, h2, h4, h5⟩
  rw [h1, e]
theorem leastW_not {size : Int} {l : List S50} (h : ∀ x ∈ l, x.f2 < size) : leastW size none l = none := by
 rcases leastW_none size l with ⟨h1, _⟩ | ⟨k1, y, k2, h0, h1, h2, h4, h5⟩
 ·exact h1
 ·have := h y (by rw [h0]; simp)
  omega
theorem leastS_loop (l : List S50) (hl : l.length ≤ 1048576) (size : Int) : ∀ (rest : List S50) (i : Nat) (x : Int), l.drop i = rest → i ≤ l.length →
  ((x = -1 ∧ ∀ y ∈ l.take i, y.f2 < size) ∨ ∃ l1 g l2, LeastAt size (l.take i) l1 g l2 ∧ x = (l1.length : Int)) →
  ∃ r : Int, Ev (fun k => spec_l02Least.l0 k l size x (i : Int)) r ∧ ((r = -1 ∧ ∀ y ∈ l, y.f2 < size) ∨ ∃ l1 g l2, LeastAt size l l1 g l2 ∧ r = (l1.length : Int))
 | [], i, x, hd, hi, hx => by
  have he := drop_end hd hi
  refine ⟨x, Ev.succ ?_, ?_⟩
  ·simp only [spec_l02Least.l0]
   exact Ev.neg (by omega) (Ev.ret _)
  ·rw [he, List.take_length] at hx
   exact hx
 | g :: rest, i, x, hd, hi, hx => by
  obtain ⟨h1, h2, h3⟩ := drop_step z50 hd
  have er : rd_T50 l (i : Int) = g := h2
  have et : l.take (i + 1) = l.take i ++ [g] := by
   rw [List.take_add_one, ← h2, List.getD_eq_getElem?_getD, List.getElem?_eq_getElem h1]
   rfl
  have ih := fun y => leastS_loop l hl size rest (i + 1) y h3 (by omega)
  
  have new : size ≤ g.f2 → (∀ y ∈ l.take i, y.f2 < size ∨ g.f2 < y.f2) → ((i : Int) = -1 ∧ ∀ y ∈ l.take (i + 1), y.f2 < size) ∨ ∃ l1 g' l2, LeastAt size (l.take (i + 1)) l1 g' l2 ∧ (i : Int) = (l1.length : Int) := by
   intro a b
   exact Or.inr ⟨l.take i, g, [], ⟨et, a, b, by simp⟩, by rw [List.length_take]; omega⟩
  rcases hx with ⟨hx, hn⟩ | ⟨l1, b, l2, hb, hx⟩
  ·by_cases c : g.f2 ≥ size
   ·obtain ⟨r, hr, hp⟩ := ih (i : Int) (new c (fun y hy => Or.inl (hn y hy)))
    refine ⟨r, Ev.succ ?_, hp⟩
    simp only [spec_l02Least.l0, er]
    rw [wsucc i (by omega)]
    exact Ev.pos (by omega) (Ev.pos (by omega) (Ev.pos c (Ev.pos (by omega) hr)))
   ·obtain ⟨r, hr, hp⟩ := ih x (Or.inl ⟨hx, fun y hy => by
     rw [et] at hy
     rcases List.mem_append.mp hy with hy | hy
     ·exact hn y hy
     ·rw [List.mem_singleton.mp hy]; omega⟩)
    refine ⟨r, Ev.succ ?_, hp⟩
    simp only [spec_l02Least.l0, er]
    rw [wsucc i (by omega)]
    exact Ev.pos (by omega) (Ev.pos (by omega) (Ev.neg c hr))
  ·have hlen : l1.length < i := by
    have := congrArg List.length hb.all
    rw [List.length_take] at this
    simp at this
    omega
   have eb : rd_T50 l x = b := by
    rw [hx]
    show l.getD l1.length _ = b
    have e1 : l.getD l1.length z50 = (l.take i).getD l1.length z50 := by
     rw [List.getD_eq_getElem?_getD, List.getD_eq_getElem?_getD, List.getElem?_take_of_lt hlen]
    rw [e1, hb.all, List.getD_eq_getElem?_getD, List.getElem?_append_right (Nat.le_refl _), Nat.sub_self]
    rfl
   have old : (g.f2 < size ∨ b.f2 ≤ g.f2) → (x = -1 ∧ ∀ y ∈ l.take (i + 1), y.f2 < size) ∨ ∃ l1 g' l2, LeastAt size (l.take (i + 1)) l1 g' l2 ∧ x = (l1.length : Int) := by
    intro a
    refine Or.inr ⟨l1, b, l2 ++ [g], ⟨by rw [et, hb.all]; simp, hb.enough, hb.ahead, fun y hy => ?_⟩, hx⟩
    rcases List.mem_append.mp hy with hy | hy
    ·exact hb.behind y hy
    ·rw [List.mem_singleton.mp hy]; exact a
   by_cases c : g.f2 ≥ size
   ·by_cases d : g.f2 < b.f2
    ·obtain ⟨r, hr, hp⟩ := ih (i : Int) (new c (fun y hy => by
      rw [hb.all] at hy
      rcases List.mem_append.mp hy with hy | hy
      ·have := hb.ahead y hy; omega
      ·rcases List.mem_cons.mp hy with rfl | hy
       ·exact Or.inr d
       ·have := hb.behind y hy; omega))
     refine ⟨r, Ev.succ ?_, hp⟩
     simp only [spec_l02Least.l0, er, eb]
     rw [wsucc i (by omega)]
     exact Ev.pos (by omega) (Ev.pos (by omega) (Ev.pos c (Ev.neg (by omega) (Ev.pos (by omega) (Ev.pos (by omega) (Ev.pos d hr))))))
    ·obtain ⟨r, hr, hp⟩ := ih x (old (by omega))
     refine ⟨r, Ev.succ ?_, hp⟩
     simp only [spec_l02Least.l0, er, eb]
     rw [wsucc i (by omega)]
     exact Ev.pos (by omega) (Ev.pos (by omega) (Ev.pos c (Ev.neg (by omega) (Ev.pos (by omega) (Ev.pos (by omega) (Ev.neg d hr))))))
   ·obtain ⟨r, hr, hp⟩ := ih x (old (by omega))
    refine ⟨r, Ev.succ ?_, hp⟩
    simp only [spec_l02Least.l0, er]
    rw [wsucc i (by omega)]
    exact Ev.pos (by omega) (Ev.pos (by omega) (Ev.neg c hr))
theorem leastS_ev (l : List S50) (hl : l.length ≤ 1048576) (size : Int) : ∃ r : Int, Ev (fun k => spec_l02Least.f k l size) r ∧ ((r = -1 ∧ ∀ y ∈ l, y.f2 < size) ∨ ∃ l1 g l2, LeastAt size l l1 g l2 ∧ r = (l1.length : Int)) := by
 unfold spec_l02Least.f
 exact leastS_loop l hl size l 0 (-1) rfl (by omega) (Or.inl ⟨rfl, by simp⟩)
theorem fitS_out (l : List S50) (hl : l.length ≤ 1048576) (size : Int) : ∃ r : Int, Ev (fun k => spec_l02Least.f k l size) r ∧
  Ev (fun _ => if size < 1 then some (0, 0, 0, false) else (if r < 0 then some (0, 0, 0, false) else (if 0 ≤ r then (if r < (l.length : Int) then some ((rd_T50 l r).f0, (rd_T50 l r).f1, (rd_T50 l r).f2, true) else none) else none))) (outG (leastP size l)) := by
 obtain ⟨r, h1, h2⟩ := leastS_ev l hl size
 refine ⟨r, h1, ?_⟩
 by_cases c : size < 1
 ·have e : leastP size l = none := by unfold leastP; rw [if_pos c]
  rw [e]
  exact Ev.pos c (Ev.ret _)
 ·refine Ev.neg c ?_
  have e : leastP size l = leastW size none l := by unfold leastP; rw [if_neg c]
  rw [e]
  rcases h2 with ⟨h2, h3⟩ | ⟨l1, g, l2, h2, h3⟩
  ·rw [leastW_not h3]
   exact Ev.pos (by omega) (Ev.ret _)
  ·rw [leastW_at h2]
   have hlen := congrArg List.length h2.all
   simp at hlen
   have eb : rd_T50 l r = g := by
    rw [h3]
    show l.getD l1.length _ = g
    rw [h2.all, List.getD_eq_getElem?_getD, List.getElem?_append_right (Nat.le_refl _), Nat.sub_self]
    rfl
   rw [eb]
   exact Ev.neg (by omega) (Ev.pos (by omega) (Ev.pos (by omega) (Ev.ret _)))
theorem fit_ev (h : Int) (fx : List Int) (hf : fx.length ≤ 1048576) (bx : List S98) (size : Int) : Ev (fun k => impl_FitOf.f k h fx bx size) (outG (leastP size (gapsP h fx bx))) := by
 unfold impl_FitOf.f
 refine Ev.bind (gaps_ev h fx hf bx) ?_
 have := gapsP_len h fx bx
 exact Ev.bind (least_ev _ (by omega) size) (Ev.ret _)
theorem fitS_ev (h : Int) (fx : List Int) (hf : fx.length ≤ 1048576) (bx : List S98) (hb : bx.length ≤ 1048576) (size : Int) : Ev (fun k => spec_FitOf.f k h fx bx size) (outG (leastP size (gapsP h fx bx))) := by
 unfold spec_FitOf.f
 refine Ev.bind (gapsS_ev h fx hf bx hb) ?_
 have := gapsP_len h fx bx
 obtain ⟨r, h1, h2⟩ := fitS_out (gapsP h fx bx) (by omega) size
 exact Ev.bind h1 h2
end Go.Proofs.Ytbpjidekjogfeaa.A

namespace Go.Proofs.Ytbpjidekjogfeaa.A
open Go.RowKit Go.Proofs.YtbpjidekjogfeaaW.PrintWords Go.Proofs.YtbpjidekjogfeaaW.PrintLast Go.Proofs.YtbpjidekjogfeaaW.PrintMore
set_option linter.unusedVariables false
set_option linter.unusedSimpArgs false
theorem putS_ev {h : Int} {fx : List Int} (hf : fx.length ≤ 1048576) {bx : List S98} (hb : bx.length ≤ 1048576) (p size : Int) : Ev (fun k => spec_PutIn.f k h fx bx p size) (h, fx, putP h fx bx p size) := by
 unfold spec_PutIn.f
 refine Ev.bind (fitS_ev h fx hf bx hb size) ?_
 have no : ∀ g0 g1 g2, Ev (fun k => spec_PutIn.j0 k p size true h fx bx g0 g1 g2) (h, fx, bx, -1, false) := by
  intro g0 g1 g2
  refine Ev.succ ?_
  simp only [spec_PutIn.j0]
  exact Ev.pos (by trivial) (Ev.bind (copyS_ev h fx bx (by omega) (by omega)) (Ev.ret _))
 unfold putP
 cases hg : leastP size (gapsP h fx bx) with
 | none => exact Ev.neg (by simp [outG]) (no _ _ _)
 | some g =>
  dsimp only
  refine Ev.pos (by simp [outG]) (Ev.bind (Ev.const (in_eq _ _ _)) ?_)
  by_cases c1 : 1 ≤ p ∧ p ≤ 999
  ·refine Ev.pos (decide_eq_true c1) (Ev.bind (box_ev h fx bx hb p) ?_)
   by_cases c2 : boxI bx p < 0
   ·rw [if_pos ⟨c1, c2⟩, decide_eq_false (by omega)]
    have hc : colP h fx bx = true := by
     apply Classical.byContradiction
     intro hc
     have : gapsP h fx bx = [] := by unfold gapsP; rw [if_neg hc]
     rw [this] at hg
     simp [leastP, leastW] at hg
    have v := (colP_iff _ _ _).mp hc
    obtain ⟨A, R, B, _, e, h1, h2, h3, h4, _⟩ := put_run v hg c1 c2
    have e1 : g.f1 = loR R := by rw [e]
    have e2 : g.f2 = sumB R := by rw [e]
    refine Ev.succ ?_
    simp only [spec_PutIn.j0]
    refine Ev.neg (by simp) ?_
    exact Ev.bind (fillS_ev h fx hf bx v.len g.f0 g.f1 g.f2 p size (by omega) (by omega) (by omega) (by omega) (by omega) (by omega)) (Ev.ret _)
   ·rw [if_neg (fun e => c2 e.2), decide_eq_true (by omega)]
    exact no _ _ _
  ·rw [if_neg (fun e => c1 e.1)]
   exact Ev.neg (by simpa using c1) (no _ _ _)
end Go.Proofs.Ytbpjidekjogfeaa.A

namespace Go.Proofs.Ytbpjidekjogfeaa.A
open Go.RowKit Go.Proofs.YtbpjidekjogfeaaW.PrintWords Go.Proofs.YtbpjidekjogfeaaW.PrintLast Go.Proofs.YtbpjidekjogfeaaW.PrintMore
set_option linter.unusedVariables false
set_option linter.unusedSimpArgs false
def buildB : List Int → Int → List S98
 | [], _ => []
 | f :: fs, low => ⟨low, wrap64 (f - low), 0, false⟩ :: buildB fs f
def newP (h : Int) (fx : List Int) : Int × List Int × List S98 × Bool :=
 if colP h fx (buildB (fx ++ [h]) 0) = true then (h, fx, buildB (fx ++ [h]) 0, true) else (0, [], [], false)
def goodW : List Int → Int → Bool
 | [], _ => true
 | f :: fs, low => decide (low < f) && (decide (f ≤ 24) && goodW fs f)
theorem tile_goodW : ∀ (l : List Int) (low hi : Int), (∀ f ∈ l, -9223372036854775808 ≤ f ∧ f ≤ 9223372036854775807) → 0 ≤ low → low ≤ 24 → hi ≤ 24 → tile low (buildB l low) hi → goodW l low = true
 | [], _, _, _, _, _, _, _ => rfl
 | f :: l, low, hi, hr, h0, h1, h2, ht => by
  simp only [buildB, tile] at ht
  obtain ⟨_, h3, h4⟩ := ht
  have hs := tile_sum _ _ _ h4
  have hf := hr f (by simp)
  have e2 : low + wrap64 (f - low) = f ∧ low < f ∧ f ≤ 24 := by
   have hlen : (0 : Int) ≤ (buildB l f).length := by omega
   have : low + wrap64 (f - low) ≤ 24 := by omega
   unfold wrap64 at h3 this ⊢
   omega
  rw [e2.1] at h4
  have ih := tile_goodW l f hi (fun g hg => hr g (by simp [hg])) (by omega) (by omega) h2 h4
  simp only [goodW, Bool.and_eq_true, decide_eq_true_eq]
  exact ⟨e2.2.1, e2.2.2, ih⟩
theorem getD_app_l {l : List Int} {s d : Int} {i : Nat} (hi : i < l.length) : (l ++ [s]).getD i d = l.getD i d := by
 rw [List.getD_eq_getElem?_getD, List.getD_eq_getElem?_getD, List.getElem?_append_left hi]
theorem getD_app_e {l : List Int} {s d : Int} {i : Nat} (hi : i = l.length) : (l ++ [s]).getD i d = s := by
 subst hi
 rw [List.getD_eq_getElem?_getD, List.getElem?_append_right (Nat.le_refl _), Nat.sub_self]; rfl
theorem newS_loop_ev (h : Int) (fx : List Int) (hf : fx.length ≤ 1048576) : ∀ (rest : List Int) (i : Nat) (low : Int) (acc : List S98), (fx ++ [h]).drop i = rest → i ≤ fx.length + 1 → acc.length = i →
  Ev (fun k => spec_NewColumn.l0 k h fx low (i : Int) h fx acc) (if goodW rest low = true ∧ colP h fx (acc ++ buildB rest low) = true then (h, fx, acc ++ buildB rest low, true) else (0, [], [], false))
 | [], i, low, acc, hd, hi, ha => by
  have he := drop_end hd (by simp; omega)
  simp at he
  refine Ev.succ ?_
  simp only [spec_NewColumn.l0, buildB, goodW, List.append_nil]
  refine Ev.neg (by omega) ?_
  refine Ev.bind (colok_ev h fx (by omega) acc (by omega)) ?_
  refine Ev.to (Ev.ite (fun _ => Ev.ret _) (fun _ => Ev.ret _)) ?_
  by_cases c : colP h fx acc = true
  ·rw [if_pos c, if_pos ⟨by trivial, c⟩]
  ·rw [if_neg c, if_neg (fun e => c e.2)]
 | f :: rest, i, low, acc, hd, hi, ha => by
  obtain ⟨h1, h2, h3⟩ := drop_step 0 hd
  simp at h1
  have ih := newS_loop_ev h fx hf rest (i + 1) f (acc ++ [⟨low, wrap64 (f - low), 0, false⟩]) h3 (by omega) (by simp [ha])
  rw [List.append_assoc] at ih
  refine Ev.succ ?_
  simp only [spec_NewColumn.l0]
  refine Ev.pos (by omega) ?_
  have step : ∀ {F : Nat → Option (Int × List Int × List S98 × Bool)}, Ev F (if goodW rest f = true ∧ colP h fx (acc ++ buildB (f :: rest) low) = true then (h, fx, acc ++ buildB (f :: rest) low, true) else (0, [], [], false)) →
    Ev (fun k => if f ≤ low then some (0, [], [], false) else if f > 24 then some (0, [], [], false) else if acc.length < 4398046511104 then F k else none) (if goodW (f :: rest) low = true ∧ colP h fx (acc ++ buildB (f :: rest) low) = true then (h, fx, acc ++ buildB (f :: rest) low, true) else (0, [], [], false)) := by
   intro F hF
   by_cases c1 : f ≤ low
   ·refine Ev.pos c1 ((Ev.ret _).to ?_)
    rw [if_neg (fun e => by have := e.1; simp only [goodW, Bool.and_eq_true, decide_eq_true_eq] at this; omega)]
   ·refine Ev.neg c1 ?_
    by_cases c2 : f > 24
    ·refine Ev.pos c2 ((Ev.ret _).to ?_)
     rw [if_neg (fun e => by have := e.1; simp only [goodW, Bool.and_eq_true, decide_eq_true_eq] at this; omega)]
    ·refine Ev.neg c2 (Ev.pos (by omega) (hF.to ?_))
     have e : goodW (f :: rest) low = goodW rest f := by
      simp only [goodW]
      rw [decide_eq_true (show low < f by omega), decide_eq_true (show f ≤ 24 by omega), Bool.true_and, Bool.true_and]
     rw [e]
  have ih2 : Ev (fun k => spec_NewColumn.l0 k h fx f ((i + 1 : Nat) : Int) h fx (acc ++ [⟨low, wrap64 (f - low), 0, false⟩])) (if goodW rest f = true ∧ colP h fx (acc ++ buildB (f :: rest) low) = true then (h, fx, acc ++ buildB (f :: rest) low, true) else (0, [], [], false)) := ih
  by_cases c : i < fx.length
  ·have er : rd fx (i : Int) = f := by rw [← h2, getD_app_l c]; rfl
   refine Ev.pos (by omega) (Ev.pos (by omega) ?_)
   rw [er, wsucc i (by omega)]
   exact step ih2
  ·have er : h = f := by rw [← h2, getD_app_e (by omega)]
   refine Ev.neg (by omega) ?_
   rw [wsucc i (by omega)]
   subst er
   exact step ih2
theorem newS_ev (h : Int) (fx : List Int) (hf : fx.length ≤ 1048576) (hh : -9223372036854775808 ≤ h ∧ h ≤ 9223372036854775807) (hr : ∀ f ∈ fx, -9223372036854775808 ≤ f ∧ f ≤ 9223372036854775807) : Ev (fun k => spec_NewColumn.f k h fx) (newP h fx) := by
 unfold spec_NewColumn.f
 refine Ev.bind (Ev.ret _) (Ev.pos (by simp; omega) ?_)
 rw [List.nil_append]
 refine (newS_loop_ev h fx hf (fx ++ [h]) 0 0 [] rfl (by omega) rfl).to ?_
 unfold newP
 rw [List.nil_append]
 by_cases c : colP h fx (buildB (fx ++ [h]) 0) = true
 ·have v := (colP_iff _ _ _).mp c
  rw [if_pos c, if_pos ⟨tile_goodW _ 0 h (fun f hf => by
   rcases List.mem_append.mp hf with hf | hf
   ·exact hr f hf
   ·rw [List.mem_singleton.mp hf]; exact hh) (by omega) (by omega) v.hi.2 v.til, c⟩]
 ·rw [if_neg c, if_neg (fun e => c e.2)]
end Go.Proofs.Ytbpjidekjogfeaa.A

namespace Go.Proofs.Ytbpjidekjogfeaa.A
open Go.RowKit Go.Proofs.YtbpjidekjogfeaaW.PrintWords Go.Proofs.YtbpjidekjogfeaaW.PrintLast Go.Proofs.YtbpjidekjogfeaaW.PrintMore
set_option linter.unusedVariables false
set_option linter.unusedSimpArgs false
theorem and255 (n : Int) : Go.bits .and .i64 n 255 = n % 256 := by
 have h255 : (BitVec.ofInt 64 255).toNat = 2 ^ 8 - 1 := by decide
 have key : (BitVec.ofInt 64 n &&& BitVec.ofInt 64 255).toNat = (n % ((2 ^ 64 : Nat) : Int)).toNat % 2 ^ 8 := by
  rw [BitVec.toNat_and, BitVec.toNat_ofInt, h255, Nat.and_two_pow_sub_one_eq_mod]
 show IntKind.i64.wrap ((BitVec.ofInt 64 n &&& BitVec.ofInt 64 255).toNat : Nat) = n % 256
 rw [key, IntKind.wrap_i64]
 omega
theorem byte_some (l : List Int) (hl : l.length ≤ 140737488351232) (i h : Int) (hi : 0 ≤ i) : ∃ v i' h', spec_l01Byte.f l i h = some (v, i', h') ∧ 0 ≤ v ∧ v ≤ 255 ∧ 0 ≤ i' := by
 unfold spec_l01Byte.f
 simp only [and255]
 by_cases h1 : i < (l.length : Int)
 ·rw [if_pos h1, if_pos hi]
  have e : wrap64 (i + 1) = i + 1 := by unfold wrap64; omega
  rw [e]
  exact ⟨_, _, _, rfl, by omega, by omega, by omega⟩
 ·rw [if_neg h1]
  exact ⟨_, _, _, rfl, by omega, by omega, by omega⟩
theorem tmod_in (x n : Int) (hx : 0 ≤ x) (hn : 0 < n) : 0 ≤ Int.tmod x n ∧ Int.tmod x n < n :=
 ⟨Int.tmod_nonneg n hx, Int.tmod_lt_of_pos x hn⟩
theorem below_some (l : List Int) (hl : l.length ≤ 140737488351232) (i h n : Int) (hi : 0 ≤ i) : ∃ v i' h', spec_l01Below.f l i h n = some (v, i', h') ∧ 0 ≤ v ∧ (n ≤ 0 → v = 0) ∧ (0 < n → v < n) ∧ 0 ≤ i' := by
 unfold spec_l01Below.f
 by_cases h0 : n ≤ 0
 ·rw [if_pos h0]
  exact ⟨_, _, _, rfl, by omega, fun _ => rfl, fun _ => by omega, hi⟩
 ·rw [if_neg h0]
  have hne : ¬ n = 0 := by omega
  by_cases h1 : n ≤ 256
  ·rw [if_pos h1]
   obtain ⟨v, i1, x1, e1, a1, b1, c1⟩ := byte_some l hl i h hi
   rw [e1]
   simp only [Option.bind_some]
   rw [if_neg hne]
   exact ⟨_, _, _, rfl, (tmod_in v n a1 (by omega)).1, fun _ => by omega, fun _ => (tmod_in v n a1 (by omega)).2, c1⟩
  ·rw [if_neg h1]
   obtain ⟨v1, i1, x1, e1, a1, b1, c1⟩ := byte_some l hl i h hi
   rw [e1]
   simp only [Option.bind_some]
   obtain ⟨v2, i2, x2, e2, a2, b2, c2⟩ := byte_some l hl i1 x1 c1
   rw [e2]
   simp only [Option.bind_some]
   obtain ⟨v3, i3, x3, e3, a3, b3, c3⟩ := byte_some l hl i2 x2 c2
   rw [e3]
   simp only [Option.bind_some]
   obtain ⟨v4, i4, x4, e4, a4, b4, c4⟩ := byte_some l hl i3 x3 c3
   rw [e4]
   simp only [Option.bind_some]
   rw [if_neg hne]
   have w : wrap64 ((wrap64 ((wrap64 ((wrap64 (v1 * 16777216)) + (wrap64 (v2 * 65536)))) + (wrap64 (v3 * 256)))) + v4) = v1 * 16777216 + v2 * 65536 + v3 * 256 + v4 := by
    unfold wrap64; omega
   rw [w]
   exact ⟨_, _, _, rfl, (tmod_in _ n (by omega) (by omega)).1, fun _ => by omega, fun _ => (tmod_in _ n (by omega) (by omega)).2, c4⟩
theorem once_some (l : List Int) (hl : l.length ≤ 140737488351232) (i h n : Int) (hi : 0 ≤ i) : ∃ (b : Bool) (i' h' : Int), spec_l01Once.f l i h n = some (b, i', h') ∧ 0 ≤ i' := by
 obtain ⟨v, i1, x1, e1, _, _, _, c1⟩ := below_some l hl i h n hi
 unfold spec_l01Once.f
 rw [e1]
 exact ⟨_, _, _, rfl, c1⟩
theorem pickint_some (l : List Int) (hl : l.length ≤ 140737488351232) (i h : Int) (xs : List Int) (hx : 0 < xs.length) (hi : 0 ≤ i) : ∃ v i' h', spec_l01PickInt.f l i h xs = some (v, i', h') ∧ v ∈ xs ∧ 0 ≤ i' := by
 obtain ⟨v, i1, x1, e1, a1, _, b1, c1⟩ := below_some l hl i h (xs.length : Int) hi
 unfold spec_l01PickInt.f
 rw [e1]
 simp only [Option.bind_some]
 have b2 := b1 (by omega)
 rw [if_pos a1, if_pos b2]
 refine ⟨_, _, _, rfl, ?_, c1⟩
 unfold rd
 rw [getD_gen _ (show v.toNat < xs.length by omega)]
 exact List.getElem_mem _
theorem new_none {h : Int} (hh : 1 ≤ h ∧ h ≤ 24) : newP h [] = (h, [], [⟨0, h, 0, false⟩], true) := by
 have e : buildB ([] ++ [h]) 0 = [⟨0, h, 0, false⟩] := by
  show [(S98.mk 0 (wrap64 (h - 0)) 0 false)] = _
  rw [wid (h - 0) (by omega) (by omega)]
  simp
 unfold newP
 rw [e, if_pos]
 rw [colP_iff]
 exact ⟨hh, ⟨rfl, hh.1, by show 0 + h = h; omega⟩, by simp [parcs], rfl, by simp⟩
theorem new_one {h x : Int} (hh : 1 ≤ h ∧ h ≤ 24) (hx : 1 ≤ x ∧ x ≤ h - 1) : newP h [x] = (h, [x], [⟨0, x, 0, false⟩, ⟨x, h - x, 0, false⟩], true) := by
 have e : buildB ([x] ++ [h]) 0 = [⟨0, x, 0, false⟩, ⟨x, h - x, 0, false⟩] := by
  show [(S98.mk 0 (wrap64 (x - 0)) 0 false), (S98.mk x (wrap64 (h - x)) 0 false)] = _
  rw [wid (x - 0) (by omega) (by omega), wid (h - x) (by omega) (by omega)]
  simp
 unfold newP
 rw [e, if_pos]
 rw [colP_iff]
 refine ⟨hh, ⟨rfl, by show 1 ≤ x; omega, by show x = 0 + x; omega, by show 1 ≤ h - x; omega, by show 0 + x + (h - x) = h; omega⟩, by simp [parcs], ?_, ?_⟩
 ·simp [fixP, hx]
 ·intro f hf
  rw [List.mem_singleton.mp hf]
  exact ⟨⟨x, h - x, 0, false⟩, by simp, rfl⟩
theorem col_loop (l : List Int) (hl : l.length ≤ 140737488351232) (first height : Int) (hfirst : 0 ≤ first ∧ first ≤ 1000) : ∀ (n : Nat) (i y h : Int) (fx : List Int) (bx : List S98), n ≤ 100 → 0 ≤ i → fx.length ≤ 1 → ColV h fx bx → Par first bx →
  ∃ bx' i' y', Ev (fun k => spec_l02Column.l0 k first height (n : Int) l i y h fx bx) (h, fx, bx', i', y') ∧ ColV h fx bx' ∧ Par first bx' ∧ 0 ≤ i'
 | 0, i, y, h, fx, bx, _, hi, hf, v, hp => by
  refine ⟨bx, i, y, Ev.succ ?_, v, hp, hi⟩
  simp only [spec_l02Column.l0]
  exact Ev.neg (by omega) (Ev.ret _)
 | n + 1, i, y, h, fx, bx, hn, hi, hf, v, hp => by
  have hlen := v.len
  obtain ⟨a, i1, y1, e1, a0, _, a1, c1⟩ := below_some l hl i y 6 hi
  have a1 := a1 (by omega)
  obtain ⟨o, i2, y2, e2, o0, _, o1, c2⟩ := below_some l hl i1 y1 6 c1
  have ew : wrap64 (first + a) = first + a := wid _ (by omega) (by omega)
  have en : wrap64 (((n + 1 : Nat) : Int) - 1) = (n : Int) := by unfold wrap64; omega
  have go : ∀ s : Bool, ∃ bx' i' y', Ev (fun k => spec_l02Column.j2 k first height ((n + 1 : Nat) : Int) (first + a) o s l i2 y2 h fx bx) (h, fx, bx', i', y') ∧ ColV h fx bx' ∧ Par first bx' ∧ 0 ≤ i' := by
   intro s
   cases s with
   | true =>
    obtain ⟨bx', i', y', h1, h2, h3, h4⟩ := col_loop l hl first height hfirst n i2 y2 h fx _ (by omega) c2 hf (takeP_v v (first + a)) (takeP_par hp (first + a))
    refine ⟨bx', i', y', Ev.succ ?_, h2, h3, h4⟩
    simp only [spec_l02Column.j2]
    rw [en]
    exact Ev.pos (by trivial) (Ev.bind (takeS_ev h fx bx (by omega) (by omega) _) h1)
   | false =>
    by_cases c : o = 2
    ·obtain ⟨u, i3, y3, e3, _, _, _, c3⟩ := below_some l hl i2 y2 height c2
     obtain ⟨j, i4, y4, e4, c4⟩ := once_some l hl i3 y3 3 c3
     obtain ⟨bx', i', y', h1, h2, h3, h4⟩ := col_loop l hl first height hfirst n i4 y4 h fx _ (by omega) c4 hf (jamP_v v u j) (jamP_par hp u j)
     refine ⟨bx', i', y', Ev.succ ?_, h2, h3, h4⟩
     simp only [spec_l02Column.j2]
     rw [en]
     exact Ev.neg (by simp) (Ev.pos c (Ev.bind (Ev.const e3) (Ev.bind (Ev.const e4) (Ev.bind (jamS_ev h fx bx (by omega) (by omega) u j) h1))))
    ·obtain ⟨z, i3, y3, e3, z0, _, z1, c3⟩ := below_some l hl i2 y2 4 c2
     have z1 := z1 (by omega)
     have ez : wrap64 (1 + z) = 1 + z := wid _ (by omega) (by omega)
     obtain ⟨bx', i', y', h1, h2, h3, h4⟩ := col_loop l hl first height hfirst n i3 y3 h fx _ (by omega) c3 hf (putP_v v (first + a) (1 + z)) (putP_par (h := h) (fx := fx) hp (first + a) (1 + z) (by omega))
     refine ⟨bx', i', y', Ev.succ ?_, h2, h3, h4⟩
     simp only [spec_l02Column.j2]
     rw [en]
     refine Ev.neg (by simp) (Ev.neg c (Ev.bind (Ev.const e3) ?_))
     dsimp only
     rw [ez]
     exact Ev.bind (putS_ev (by omega) (by omega) _ _) h1
  obtain ⟨bx', i', y', h1, h2, h3, h4⟩ := go (if o = 0 then (o == 0) else (o == 1))
  refine ⟨bx', i', y', Ev.succ ?_, h2, h3, h4⟩
  simp only [spec_l02Column.l0]
  refine Ev.pos (by omega) (Ev.bind (Ev.const e1) (Ev.bind (Ev.const e2) ?_))
  dsimp only
  rw [ew]
  by_cases c : o = 0
  ·rw [if_pos c] at h1
   exact Ev.pos c h1
  ·rw [if_neg c] at h1
   exact Ev.neg c h1
theorem column_draw (l : List Int) (hl : l.length ≤ 140737488351232) (i y first : Int) (hfirst : 0 ≤ first ∧ first ≤ 1000) (hi : 0 ≤ i) :
  ∃ h fx bx i' y', Ev (fun k => spec_l02Column.f k l i y first) (h, fx, bx, i', y') ∧ ColV h fx bx ∧ Par first bx ∧ fx.length ≤ 1 ∧ 0 ≤ i' := by
 obtain ⟨a, i1, y1, e1, a0, _, a1, c1⟩ := below_some l hl i y 9 hi
 have a1 := a1 (by omega)
 obtain ⟨b, i2, y2, e2, c2⟩ := once_some l hl i1 y1 2 c1
 have ew : wrap64 (4 + a) = 4 + a := wid _ (by omega) (by omega)
 have fin : ∀ (i3 y3 : Int) (fx : List Int) (bx : List S98), 0 ≤ i3 → fx.length ≤ 1 → (∀ x ∈ fx, 1 ≤ x ∧ x ≤ 4 + a - 1) → newP (4 + a) fx = (4 + a, fx, bx, true) → ∃ bx' i' y', Ev (fun k => spec_l02Column.j0 k first (4 + a) fx l i3 y3) (4 + a, fx, bx', i', y') ∧ ColV (4 + a) fx bx' ∧ Par first bx' ∧ 0 ≤ i' := by
  intro i3 y3 fx bx hi3 hfx hr hnew
  obtain ⟨n, i4, y4, e4, n0, _, n1, c4⟩ := below_some l hl i3 y3 7 hi3
  have n1 := n1 (by omega)
  have hv : ColV (4 + a) fx bx := by
   have h0 := hnew
   unfold newP at h0
   split at h0
   ·next hc =>
    have h0 := congrArg (fun z : Int × List Int × List S98 × Bool => z.2.2.1) h0
    dsimp only at h0
    rw [h0] at hc
    exact (colP_iff _ _ _).mp hc
   ·simp at h0
  have hb0 : ∀ x ∈ bx, x.f2 = 0 := by
   have h0 := hnew
   unfold newP at h0
   split at h0
   ·have h0 := congrArg (fun z : Int × List Int × List S98 × Bool => z.2.2.1) h0
    dsimp only at h0
    rw [← h0]
    have bz : ∀ (ws : List Int) (low : Int), ∀ x ∈ buildB ws low, x.f2 = 0 := by
     intro ws
     induction ws with
     | nil => intro low x hx; simp [buildB] at hx
     | cons w ws ih =>
      intro low x hx
      rw [buildB] at hx
      rcases List.mem_cons.mp hx with rfl | hx
      ·rfl
      ·exact ih w x hx
    exact bz _ _
   ·simp at h0
  obtain ⟨bx', i', y', h1, h2, h3, h4⟩ := col_loop l hl first (4 + a) hfirst n.toNat i4 y4 (4 + a) fx bx (by omega) c4 hfx hv (fun x hx => Or.inl (hb0 x hx))
  rw [show ((n.toNat : Nat) : Int) = n by omega] at h1
  refine ⟨bx', i', y', Ev.succ ?_, h2, h3, h4⟩
  simp only [spec_l02Column.j0]
  have hN := newS_ev (4 + a) fx (by omega) (by omega) (fun x hx => by have := hr x hx; omega)
  rw [hnew] at hN
  exact Ev.bind hN (Ev.bind (Ev.const e4) h1)
 cases b with
 | false =>
  obtain ⟨bx', i', y', h1, h2, h3, h4⟩ := fin i2 y2 [] _ c2 (by simp) (by simp) (new_none (by omega))
  refine ⟨4 + a, [], bx', i', y', ?_, h2, h3, by simp, h4⟩
  unfold spec_l02Column.f
  refine Ev.bind (Ev.const e1) (Ev.bind (Ev.ret _) (Ev.bind (Ev.const e2) (Ev.neg (by simp) ?_)))
  dsimp only
  rw [ew]
  exact h1
 | true =>
  obtain ⟨x, i3, y3, e3, x0, _, x1, c3⟩ := below_some l hl i2 y2 (4 + a - 2) c2
  have x1 := x1 (by omega)
  have ex : wrap64 (1 + x) = 1 + x := wid _ (by omega) (by omega)
  have e22 : wrap64 (4 + a - 2) = 4 + a - 2 := wid _ (by omega) (by omega)
  obtain ⟨bx', i', y', h1, h2, h3, h4⟩ := fin i3 y3 [1 + x] _ c3 (by simp) (fun z hz => by rw [List.mem_singleton.mp hz]; omega) (new_one (by omega) (by omega))
  refine ⟨4 + a, [1 + x], bx', i', y', ?_, h2, h3, by simp, h4⟩
  unfold spec_l02Column.f
  refine Ev.bind (Ev.const e1) (Ev.bind (Ev.ret _) (Ev.bind (Ev.const e2) (Ev.pos (by trivial) ?_)))
  dsimp only
  rw [ew, e22]
  refine Ev.bind (Ev.const e3) (Ev.pos (by simp) ?_)
  dsimp only
  rw [ex]
  exact h1
theorem anyColumn_draw (l : List Int) (hl : l.length ≤ 140737488351232) (i y : Int) (hi : 0 ≤ i) :
  ∃ h fx bx i' y', Ev (fun k => spec_l02AnyColumn.f k l i y) (h, fx, bx, i', y') ∧ fx.length ≤ 2 ∧ bx.length ≤ 24 ∧ 0 ≤ i' ∧ (∀ x ∈ fx, -9223372036854775808 ≤ x ∧ x ≤ 9223372036854775807) := by
 obtain ⟨h, fx, bx, i1, y1, e1, v, _, hf, c1⟩ := column_draw l hl i y 1 (by omega) hi
 have hlen := v.len
 have hne := v.ne
 have hr : ∀ x ∈ fx, -9223372036854775808 ≤ x ∧ x ≤ 9223372036854775807 := by
  intro x hx
  obtain ⟨b, hb, e⟩ := v.low x hx
  have := v.mem hb
  omega
 obtain ⟨k, i2, y2, e2, k0, _, k1, c2⟩ := below_some l hl i1 y1 (bx.length : Int) c1
 have k1 := k1 (by omega)
 obtain ⟨o, i3, y3, e3, o0, _, o1, c3⟩ := below_some l hl i2 y2 14 c2
 have beg : ∀ {G : Nat → (Int × List Int × List S98 × Int × Int) → (Int × Int × Int) → (Int × Int × Int) → Option (Int × List Int × List S98 × Int × Int)} {r}, Ev (fun k' => G k' (h, fx, bx, i1, y1) (k, i2, y2) (o, i3, y3)) r →
   Ev (fun k' => (spec_l02Column.f k' l i y 1).bind fun bt => (spec_l01Below.f l bt.2.2.2.1 bt.2.2.2.2 (bt.2.2.1.length : Int)).bind fun bt2 => (spec_l01Below.f l bt2.2.1 bt2.2.2 14).bind fun bt3 => G k' bt bt2 bt3) r := by
  intro G r hG
  exact Ev.bind e1 (Ev.bind (Ev.const e2) (Ev.bind (Ev.const e3) hG))
 unfold spec_l02AnyColumn.f
 by_cases o_0 : o = 0
 ·obtain ⟨p, i4, y4, e4, _, c4⟩ := pickint_some l hl i3 y3 [0, 24, 25, wrap64 (h + 1)] (by simp) c3
  exact ⟨_, _, _, _, _, Ev.bind e1 (Ev.bind (Ev.const e2) (Ev.bind (Ev.const e3) (Ev.pos o_0 (Ev.bind (Ev.const e4) (Ev.ret _))))), (show fx.length ≤ 2 by omega), hlen, c4, hr⟩
 ·by_cases o_1 : o = 1
  ·obtain ⟨p, i4, y4, e4, _, c4⟩ := pickint_some l hl i3 y3 [(-1), 0, 1, 9223372036854775807] (by simp) c3
   exact ⟨_, _, _, _, _, Ev.bind e1 (Ev.bind (Ev.const e2) (Ev.bind (Ev.const e3) (Ev.neg o_0 (Ev.pos o_1 (Ev.bind (Ev.const e4) (Ev.pos k0 (Ev.pos k1 (Ev.ret _)))))))), (show fx.length ≤ 2 by omega), by rw [List.length_set]; exact hlen, c4, hr⟩
  ·by_cases o_2 : o = 2
   ·obtain ⟨p, i4, y4, e4, _, c4⟩ := pickint_some l hl i3 y3 [(-1), 1, 999, 1000] (by simp) c3
    exact ⟨_, _, _, _, _, Ev.bind e1 (Ev.bind (Ev.const e2) (Ev.bind (Ev.const e3) (Ev.neg o_0 (Ev.neg o_1 (Ev.pos o_2 (Ev.bind (Ev.const e4) (Ev.pos k0 (Ev.pos k1 (Ev.ret _))))))))), (show fx.length ≤ 2 by omega), by rw [List.length_set]; exact hlen, c4, hr⟩
   ·by_cases o_3 : o = 3
    ·obtain ⟨p, i4, y4, e4, p0, _, p1, c4⟩ := below_some l hl i3 y3 14 c3
     have p1 := p1 (by omega)
     refine ⟨_, _, _, _, _, Ev.bind e1 (Ev.bind (Ev.const e2) (Ev.bind (Ev.const e3) (Ev.neg o_0 (Ev.neg o_1 (Ev.neg o_2 (Ev.pos o_3 (Ev.bind (Ev.const e4) (Ev.pos ?_ (Ev.ret _))))))))), by simp; omega, hlen, c4, fun x hx => ?_⟩
     ·show fx.length < _; omega
     ·rcases List.mem_append.mp hx with hx | hx
      ·exact hr x hx
      ·rw [List.mem_singleton.mp hx]
       show -9223372036854775808 ≤ p ∧ p ≤ _
       omega
    ·by_cases o_4 : o = 4
     ·exact ⟨_, _, _, _, _, Ev.bind e1 (Ev.bind (Ev.const e2) (Ev.bind (Ev.const e3) (Ev.neg o_0 (Ev.neg o_1 (Ev.neg o_2 (Ev.neg o_3 (Ev.pos o_4 (Ev.ret _)))))))), (show fx.length ≤ 2 by omega), by simp, c3, hr⟩
     ·exact ⟨_, _, _, _, _, Ev.bind e1 (Ev.bind (Ev.const e2) (Ev.bind (Ev.const e3) (Ev.neg o_0 (Ev.neg o_1 (Ev.neg o_2 (Ev.neg o_3 (Ev.neg o_4 (Ev.ret _)))))))), (show fx.length ≤ 2 by omega), hlen, c3, hr⟩
theorem newEv_loop (l : List Int) (hl : l.length ≤ 140737488351232) : ∀ (d : Nat) (h i : Int), 0 ≤ i → (l.length : Int) - i ≤ d → ∃ h', Ev (fun k => spec_l01New.l0 k l h i) (l, 0, h')
 | 0, h, i, h0, hd => by
  refine ⟨h, Ev.succ ?_⟩
  simp only [spec_l01New.l0]
  exact Ev.neg (by omega) (Ev.ret _)
 | d + 1, h, i, h0, hd => by
  by_cases h1 : i < (l.length : Int)
  ·by_cases h2 : i < 4000
   ·have e : wrap64 (i + 1) = i + 1 := by unfold wrap64; omega
    obtain ⟨h', hh⟩ := newEv_loop l hl d (Go.bits .and .i64 (wrap64 ((wrap64 ((wrap64 (h * 131)) + (wrap64 (rd l i)))) + 7)) 1073741823) (i + 1) (by omega) (by omega)
    refine ⟨h', Ev.succ ?_⟩
    simp only [spec_l01New.l0, e]
    exact Ev.pos h1 (Ev.pos h2 (Ev.pos h0 hh))
   ·refine ⟨h, Ev.succ ?_⟩
    simp only [spec_l01New.l0]
    exact Ev.pos h1 (Ev.neg h2 (Ev.ret _))
  ·refine ⟨h, Ev.succ ?_⟩
   simp only [spec_l01New.l0]
   exact Ev.neg h1 (Ev.ret _)
theorem new_draw (l : List Int) (hl : l.length ≤ 140737488351232) : ∃ h', Ev (fun k => spec_l01New.f k l) (l, 0, h') :=
 newEv_loop l hl l.length _ 0 (by omega) (by omega)
end Go.Proofs.Ytbpjidekjogfeaa.A

namespace Go.Proofs.Ytbpjidekjogfeaa.A
open Go.RowKit Go.Proofs.YtbpjidekjogfeaaW.PrintWords Go.Proofs.YtbpjidekjogfeaaW.PrintLast Go.Proofs.YtbpjidekjogfeaaW.PrintMore
set_option linter.unusedVariables false
set_option linter.unusedSimpArgs false
theorem placed_ev (h : Int) (fx : List Int) (hf : fx.length ≤ 1048576) (bx : List S98) (hl : bx.length ≤ 24) (hm : ∀ b ∈ bx, 1 ≤ b.f1 ∧ b.f1 ≤ 24) (g0 lo sz p size : Int) (h0 : 0 ≤ lo ∧ lo ≤ 1000) (h1 : 0 ≤ sz ∧ sz ≤ 1000) (h2 : 0 ≤ size ∧ size ≤ 1000) :
  Ev (fun k => impl_placed.f k h fx bx g0 lo sz p size) (h, fx, fillD lo (newB lo sz p size) bx (decs fx [] [] bx)) := by
 unfold impl_placed.f
 refine Ev.bind (Ev.ret _) ?_
 have hn := newB_len lo sz p size
 have hF := filled_ev h fx hf bx hl hm lo (newB lo sz p size) (by omega)
 by_cases c : sz > size
 ·refine Ev.pos c (Ev.pos (by simp) ?_)
  rw [wid (lo + size) (by omega) (by omega), wid (sz - size) (by omega) (by omega)]
  have e : newB lo sz p size = [⟨lo, size, p, false⟩] ++ [⟨lo + size, sz - size, 0, false⟩] := by unfold newB; rw [if_pos c]; rfl
  rw [e] at hF ⊢
  exact Ev.bind hF (Ev.ret _)
 ·refine Ev.neg c ?_
  have e : newB lo sz p size = [⟨lo, size, p, false⟩] := by unfold newB; rw [if_neg c]
  rw [e] at hF ⊢
  exact Ev.bind hF (Ev.ret _)
theorem put_ev {h : Int} {fx : List Int} (hf : fx.length ≤ 1048576) {bx : List S98} (hb : bx.length ≤ 1048576) (p size : Int) : Ev (fun k => impl_PutIn.f k h fx bx p size) (h, fx, putP h fx bx p size) := by
 unfold impl_PutIn.f
 refine Ev.bind (fit_ev h fx hf bx size) (Ev.bind (Ev.const rfl) ?_)
 have no : ∀ (s : Bool) g0 g1 g2, s = true → Ev (fun k => impl_PutIn.j0 k p size s h fx bx g0 g1 g2) (h, fx, bx, -1, false) := by
  intro s g0 g1 g2 hs
  subst hs
  refine Ev.succ ?_
  simp only [impl_PutIn.j0]
  exact Ev.pos (by trivial) (Ev.bind (copy_ev h fx bx (by omega) (by omega)) (Ev.ret _))
 by_cases hc : colP h fx bx = true
 ·refine Ev.pos hc (Ev.bind (Ev.const (within_is _ _ _)) ?_)
  have v := (colP_iff _ _ _).mp hc
  by_cases c1 : 1 ≤ p ∧ p ≤ 999
  ·refine Ev.pos (decide_eq_true c1) (Ev.bind (Ev.const rfl) ?_)
   have eI : boxI bx p = idxP bx p 0 := by unfold boxI; rw [if_pos (by omega)]
   by_cases c2 : idxP bx p 0 ≥ 0
   ·refine Ev.pos c2 ((no true _ _ _ rfl).to ?_)
    unfold putP
    cases hg : leastP size (gapsP h fx bx) with
    | none => rfl
    | some g => dsimp only; rw [if_neg (fun e => by have := e.2; rw [eI] at this; omega)]
   ·refine Ev.neg c2 ?_
    unfold putP
    cases hg : leastP size (gapsP h fx bx) with
    | none => exact no _ _ _ _ rfl
    | some g =>
     dsimp only
     have hb' : boxI bx p < 0 := by rw [eI]; omega
     rw [if_pos ⟨c1, hb'⟩]
     obtain ⟨A, R, B, _, e, h1, h2, h3, h4, f1, f2, _⟩ := put_run v hg c1 hb'
     have e1 : g.f1 = loR R := by rw [e]
     have e2 : g.f2 = sumB R := by rw [e]
     refine Ev.succ ?_
     simp only [impl_PutIn.j0]
     refine Ev.neg (by simp [outG]) ?_
     refine Ev.bind (placed_ev h fx hf bx v.len (fun b hb => by have := v.mem hb; omega) g.f0 g.f1 g.f2 p size (by omega) (by omega) (by omega)) ((Ev.ret _).to ?_)
     rw [f1, f2]
     rfl
  ·refine Ev.neg (by simpa using c1) ((no true _ _ _ rfl).to ?_)
   unfold putP
   cases hg : leastP size (gapsP h fx bx) with
   | none => rfl
   | some g => dsimp only; rw [if_neg (fun e => c1 e.1)]
 ·refine Ev.neg hc ((no true _ _ _ rfl).to ?_)
  have : gapsP h fx bx = [] := by unfold gapsP; rw [if_neg hc]
  unfold putP
  rw [this]
  have e : leastP size ([] : List S50) = none := by simp [leastP, leastW]
  rw [e]
theorem putP_len {h : Int} {fx : List Int} {bx : List S98} (hb : bx.length ≤ 1048576) (p size : Int) : (putP h fx bx p size).1.length ≤ 1048576 := by
 unfold putP
 cases hg : leastP size (gapsP h fx bx) with
 | none => exact hb
 | some g =>
  dsimp only
  by_cases c : (1 ≤ p ∧ p ≤ 999) ∧ boxI bx p < 0
  ·rw [if_pos c]
   have hc : colP h fx bx = true := by
    apply Classical.byContradiction
    intro hc
    have : gapsP h fx bx = [] := by unfold gapsP; rw [if_neg hc]
    rw [this] at hg
    simp [leastP, leastW] at hg
   obtain ⟨A, R, B, _, _, _, _, _, _, f1, _, hv, _⟩ := put_run ((colP_iff _ _ _).mp hc) hg c.1 c.2
   rw [f1]
   have := hv.len
   show (A ++ newB g.f1 g.f2 p size ++ B).length ≤ _
   omega
  ·rw [if_neg c]; exact hb
end Go.Proofs.Ytbpjidekjogfeaa.A

namespace Go.Proofs.Ytbpjidekjogfeaa.A
open Go.RowKit Go.Proofs.YtbpjidekjogfeaaW.PrintWords Go.Proofs.YtbpjidekjogfeaaW.PrintLast Go.Proofs.YtbpjidekjogfeaaW.PrintMore
set_option linter.unusedVariables false
set_option linter.unusedSimpArgs false
theorem sameInts_ev (l : List Int) (hl : l.length ≤ 1048576) : Ev (fun k => laws_sameInts.f k l l) true := Ev.mk l.length (fun k hk => by
 unfold laws_sameInts.f
 rw [if_pos rfl]
 have h := all_loop (L := fun k i => laws_sameInts.l0 k l l i) (n := l.length) (P := fun _ => true) (fun k i hi => ?_) (fun k => ?_) l.length k 0 (by omega) hk
 ·have e : (List.range' 0 l.length).all (fun _ => true) = true := by simp
  rw [e] at h
  exact h
 ·simp only [laws_sameInts.l0]
  rw [if_pos (by omega), if_pos (by omega), if_pos (by omega)]
  simp only [if_true]
  rw [wsucc i (by omega)]
 ·simp only [laws_sameInts.l0]
  rw [if_neg (by omega)])
theorem sameBoxes_ev (l : List S98) (hl : l.length ≤ 1048576) : Ev (fun k => laws_sameBoxes.f k l l) true := Ev.mk l.length (fun k hk => by
 unfold laws_sameBoxes.f
 rw [if_pos rfl]
 have h := all_loop (L := fun k i => laws_sameBoxes.l0 k l l i) (n := l.length) (P := fun _ => true) (fun k i hi => ?_) (fun k => ?_) l.length k 0 (by omega) hk
 ·have e : (List.range' 0 l.length).all (fun _ => true) = true := by simp
  rw [e] at h
  exact h
 ·simp only [laws_sameBoxes.l0]
  rw [if_pos (by omega), if_pos (by omega), if_pos (by omega), if_neg (by simp), wsucc i (by omega)]
  simp only [if_true]
 ·simp only [laws_sameBoxes.l0]
  rw [if_neg (by omega)])
theorem sameColumn_ev (h : Int) (fx : List Int) (bx : List S98) (hf : fx.length ≤ 1048576) (hb : bx.length ≤ 1048576) : Ev (fun k => laws_sameColumn.f k h fx bx h fx bx) true := by
 unfold laws_sameColumn.f
 exact Ev.pos rfl (Ev.bind (sameInts_ev fx hf) (Ev.pos (by trivial) (Ev.bind (sameBoxes_ev bx hb) (Ev.ret _))))
def roomL : List S50 → Int
 | [] => 0
 | g :: l => g.f2 + roomL l
theorem roomL_app : ∀ (a b : List S50), roomL (a ++ b) = roomL a + roomL b
 | [], b => by simp [roomL]
 | g :: a, b => by rw [List.cons_append, roomL, roomL, roomL_app a b]; omega
theorem room_loop (l : List S50) (hl : l.length ≤ 1000) (hp : ∀ g ∈ l, 0 ≤ g.f2 ∧ g.f2 ≤ 1000) : ∀ (rest : List S50) (i : Nat) (n : Int), l.drop i = rest → i ≤ l.length → 0 ≤ n → n ≤ 1000 * i → Ev (fun k => laws_room.l0 k l n (i : Int)) (n + roomL rest)
 | [], i, n, hd, hi, h0, h1 => by
  have he := drop_end hd hi
  refine Ev.succ ?_
  simp only [laws_room.l0]
  exact Ev.neg (by omega) ((Ev.ret _).to (by simp [roomL]))
 | g :: rest, i, n, hd, hi, h0, h1 => by
  obtain ⟨h2, h3, h4⟩ := drop_step z50 hd
  have er : rd_T50 l (i : Int) = g := h3
  have hg : g ∈ l := by rw [← h3, getD_gen _ h2]; exact List.getElem_mem _
  have h5 := hp g hg
  refine Ev.succ ?_
  simp only [laws_room.l0, er]
  rw [wsucc i (by omega), wid (n + g.f2) (by omega) (by omega)]
  refine Ev.pos (by omega) (Ev.pos (by omega) ((room_loop l hl hp rest (i + 1) _ h4 (by omega) (by omega) (by omega)).to ?_))
  rw [roomL]
  omega
theorem room_ev (l : List S50) (hl : l.length ≤ 1000) (hp : ∀ g ∈ l, 0 ≤ g.f2 ∧ g.f2 ≤ 1000) : Ev (fun k => laws_room.f k l) (roomL l) := by
 unfold laws_room.f
 exact (room_loop l hl hp l 0 0 rfl (by omega) (by omega) (by omega)).to (by omega)
def openS : List S98 → Int
 | [] => 0
 | b :: l => (if opB b = true then b.f1 else 0) + openS l
theorem gapsW_room (fx : List Int) : ∀ (bs cur : List S98), roomL (gapsW fx cur bs) = sumB cur + openS bs
 | [], cur => by
  simp only [gapsW, emR, openS]
  split
  ·next h => subst h; rfl
  ·next h => rw [gapR_is h]; show sumB cur + 0 = _; rfl
 | b :: bs, cur => by
  have em : roomL (emR cur) = sumB cur := by
   unfold emR
   split
   ·next h => subst h; rfl
   ·next h => rw [gapR_is h]; exact Int.add_zero _
  have sb : sumB [b] = b.f1 := by rw [sumB_cons, sumB_nil]; omega
  simp only [gapsW, openS]
  split
  ·next hb =>
   split
   ·rw [gapsW_room fx bs (cur ++ [b]), sumB_app, sb]; omega
   ·rw [roomL_app, em, gapsW_room fx bs [b], sb]
  ·rw [roomL_app, em, gapsW_room fx bs [], sumB_nil]
theorem gapsB_room (fx : List Int) (bx : List S98) : roomL (gapsB fx bx) = openS bx := by
 unfold gapsB
 rw [gapsW_room, sumB_nil]; omega
theorem openS_app : ∀ (a b : List S98), openS (a ++ b) = openS a + openS b
 | [], b => by simp [openS]
 | x :: a, b => by rw [List.cons_append, openS, openS, openS_app a b]; omega
theorem openS_all : ∀ (l : List S98), (∀ b ∈ l, opB b = true) → openS l = sumB l
 | [], _ => rfl
 | b :: l, h => by
  rw [openS, sumB_cons, if_pos (h b (by simp)), openS_all l (fun x hx => h x (by simp [hx]))]
theorem gapsP_room {h : Int} {fx : List Int} {bx : List S98} (v : ColV h fx bx) : roomL (gapsP h fx bx) = openS bx := by
 unfold gapsP
 rw [if_pos ((colP_iff _ _ _).mpr v), gapsB_room]
theorem gapsP_roomEv {h : Int} {fx : List Int} (hf : fx.length ≤ 1048576) {bx : List S98} (v : ColV h fx bx) : Ev (fun k => laws_room.f k (gapsP h fx bx)) (openS bx) := by
 have hl := gapsP_len h fx bx
 have e : gapsP h fx bx = gapsB fx bx := by unfold gapsP; rw [if_pos ((colP_iff _ _ _).mpr v)]
 refine (room_ev _ (by omega) (fun g hg => ?_)).to (gapsP_room v)
 rw [e] at hg
 have := gapsB_pos fx bx 0 h v.til g hg
 have := v.hi
 omega
theorem openS_in {h : Int} {fx : List Int} {bx : List S98} (v : ColV h fx bx) : 0 ≤ openS bx ∧ openS bx ≤ 24 := by
 have go : ∀ (l : List S98), (∀ b ∈ l, 1 ≤ b.f1) → 0 ≤ openS l ∧ openS l ≤ sumB l := by
  intro l
  induction l with
  | nil => intro _; simp [openS, sumB_nil]
  | cons b l ih =>
   intro hb
   have := hb b (by simp)
   have := ih (fun x hx => hb x (by simp [hx]))
   rw [openS, sumB_cons]
   split <;> omega
 have := go bx (fun b hb => (v.mem hb).2.1)
 have := tile_sum _ _ _ v.til
 have := v.hi
 omega
theorem pureFnBoxes : ∀ (l0 : List Int), ok36 l0 → ∃ k, laws_FnBoxes.f k l0 = some true := by
 rintro l ⟨hl, _⟩
 unfold maxLen at hl
 refine Ev.get ?_
 unfold laws_FnBoxes.f
 refine Ev.bind (Ev.const rfl) ?_
 by_cases c : (l.length : Int) > 1048576
 ·exact Ev.pos (decide_eq_true c) (Ev.ret _)
 ·refine Ev.neg (by simpa using c) ?_
  obtain ⟨y0, e0⟩ := new_draw l (by omega)
  obtain ⟨h, fx, bx, i1, y1, e1, hf, hb, c1, _⟩ := anyColumn_draw l (by omega) 0 y0 (by omega)
  obtain ⟨p, i2, y2, e2, _, c2⟩ := pickint_some l (by omega) i1 y1 [1, 2, 3, 7, 8, 999, 1000, 0, (-1)] (by simp) c1
  obtain ⟨size, i3, y3, e3, s0, _, s1, _⟩ := below_some l (by omega) i2 y2 6 c2
  have s1 := s1 (by omega)
  refine Ev.bind (a := (h, fx, bx, p, size)) (by unfold spec_DrawPutIn.f; exact Ev.bind e0 (Ev.bind e1 (Ev.bind (Ev.const e2) (Ev.bind (Ev.const e3) (Ev.ret _))))) ?_
  have hS := putS_ev (h := h) (fx := fx) (by omega) (bx := bx) (by omega) p size
  have hI := put_ev (h := h) (fx := fx) (by omega) (bx := bx) (by omega) p size
  have hr := putP_len (h := h) (fx := fx) (bx := bx) (by omega) p size
  refine Ev.bind hI (Ev.bind hS (Ev.neg (by simp) (Ev.pos (by trivial) ?_)))
  refine Ev.bind (sameColumn_ev h fx _ (by omega) (by omega)) ?_
  refine Ev.succ ?_
  simp only [laws_FnBoxes.j0]
  refine Ev.neg (by simp) ?_
  have bad : putP h fx bx p size = (bx, -1, false) → Ev (fun k => if (putP h fx bx p size).2.2 = true then ((impl_TakeOut.f h fx (putP h fx bx p size).1 p).bind fun _ => none) else ((laws_sameColumn.f k h fx (putP h fx bx p size).1 h fx bx).bind fun t => (if t = true then (some ((putP h fx bx p size).2.1 == (-1))) else (some false)))) true := by
   intro e
   rw [e]
   exact Ev.neg (by simp) (Ev.bind (sameColumn_ev h fx bx (by omega) (by omega)) (Ev.pos (by trivial) (Ev.ret _)))
  have badE : putP h fx bx p size = (bx, -1, false) → ¬ (putP h fx bx p size).2.2 = true := fun e => by rw [e]; simp
  cases hg : leastP size (gapsP h fx bx) with
  | none =>
   have e : putP h fx bx p size = (bx, -1, false) := by unfold putP; rw [hg]
   refine Ev.neg (badE e) ?_
   rw [e]
   exact Ev.bind (sameColumn_ev h fx bx (by omega) (by omega)) (Ev.pos (by trivial) (Ev.ret _))
  | some g =>
   by_cases c3 : (1 ≤ p ∧ p ≤ 999) ∧ boxI bx p < 0
   ·have hc : colP h fx bx = true := by
     apply Classical.byContradiction
     intro hc
     have : gapsP h fx bx = [] := by unfold gapsP; rw [if_neg hc]
     rw [this] at hg
     simp [leastP, leastW] at hg
    have v := (colP_iff _ _ _).mp hc
    obtain ⟨A, R, B, hrun, e, h1, h2, h3, h4, f1, _, hv, hn⟩ := put_run v hg c3.1 c3.2
    have g1 : g.f1 = loR R := by rw [e]
    have g2 : g.f2 = sumB R := by rw [e]
    
    have eN : ∀ q, newB g.f1 g.f2 q size = (S98.mk g.f1 size q false) :: (if size < g.f2 then [(S98.mk (g.f1 + size) (g.f2 - size) 0 false)] else []) := fun q => rfl
    generalize hrest : (if size < g.f2 then [(S98.mk (g.f1 + size) (g.f2 - size) 0 false)] else []) = rest at eN
    have hrest0 : (∀ b ∈ rest, b.f2 = 0) ∧ openS rest = g.f2 - size := by
     rw [← hrest]
     split
     ·refine ⟨by simp, ?_⟩
      show (if opB (S98.mk (g.f1 + size) (g.f2 - size) 0 false) = true then (g.f2 - size) else 0) + 0 = _
      rw [if_pos (show opB (S98.mk (g.f1 + size) (g.f2 - size) 0 false) = true from rfl)]; omega
     ·refine ⟨by simp, ?_⟩
      show (0 : Int) = _
      rw [g2]; rw [g2] at *; omega
    have eP : putP h fx bx p size = (A ++ (S98.mk g.f1 size p false) :: (rest ++ B), g.f1, true) := by
     unfold putP
     rw [hg]
     dsimp only
     rw [if_pos c3, f1, eN p]
     simp
    rw [eP]
    dsimp only
    have hvy : ColV h fx (A ++ (S98.mk g.f1 size p false) :: (rest ++ B)) := by
     rw [eN p] at hv
     simpa using hv
    have hnA : ∀ x ∈ A, x.f2 ≠ p := fun x hx => hn x (by simp [hx])
    have hnR : ∀ x ∈ rest ++ B, x.f2 ≠ p := fun x hx => by
     rcases List.mem_append.mp hx with hx | hx
     ·rw [hrest0.1 x hx]; omega
     ·exact hn x (by simp [hx])
    have ly := hvy.len
    
    have idx1 : idxP (A ++ (S98.mk g.f1 size p false) :: (rest ++ B)) p 0 = A.length := by
     rcases idxP_cases (A ++ (S98.mk g.f1 size p false) :: (rest ++ B)) p with ⟨_, hno⟩ | ⟨l1, b, l2, q1, q2, q3, q4⟩
     ·exact absurd rfl (hno (S98.mk g.f1 size p false) (by simp))
     ·rw [q4]
      have : ∀ (A l1 : List S98) (x b : S98) (r l2 : List S98), A ++ x :: r = l1 ++ b :: l2 → (∀ y ∈ A, y.f2 ≠ p) → (∀ y ∈ l1, y.f2 ≠ p) → x.f2 = p → b.f2 = p → l1.length = A.length := by
       intro A
       induction A with
       | nil =>
        intro l1 x b r l2 e _ hl1 hx _
        cases l1 with
        | nil => rfl
        | cons z l1 =>
         simp at e
         exact absurd hx (by rw [e.1]; exact hl1 z (by simp))
       | cons a A ih =>
        intro l1 x b r l2 e hA hl1 hx hb
        cases l1 with
        | nil =>
         simp at e
         exact absurd hb (by rw [← e.1]; exact hA a (by simp))
        | cons z l1 =>
         simp at e
         have := ih l1 x b r l2 e.2 (fun y hy => hA y (by simp [hy])) (fun y hy => hl1 y (by simp [hy])) hx hb
         simp [this]
      rw [this A l1 _ b _ l2 q1 hnA q3 rfl q2]
    have eT : takeP h fx (A ++ (S98.mk g.f1 size p false) :: (rest ++ B)) p = (A ++ (S98.mk g.f1 size 0 false) :: (rest ++ B), true) := by
     rw [takeP_yes ⟨(colP_iff _ _ _).mpr hvy, by omega, by rw [idx1]; omega, by rw [idx1, rd_app]⟩, idx1, rd_app, Int.toNat_natCast, set_app]
    have hvz : ColV h fx (A ++ (S98.mk g.f1 size 0 false) :: (rest ++ B)) := by
     have := takeP_v hvy p
     rw [eT] at this
     exact this
    have lz := hvz.len
    have eT2 : takeP h fx (A ++ (S98.mk g.f1 size 0 false) :: (rest ++ B)) p = (A ++ (S98.mk g.f1 size 0 false) :: (rest ++ B), false) := by
     refine takeP_no (fun q => ?_)
     rcases idxP_cases (A ++ (S98.mk g.f1 size 0 false) :: (rest ++ B)) p with ⟨q1, _⟩ | ⟨l1, b, l2, q1, q2, _, _⟩
     ·have := q.2.2.1; omega
     ·have hb : b ∈ A ++ (S98.mk g.f1 size 0 false) :: (rest ++ B) := by rw [q1]; simp
      rcases List.mem_append.mp hb with hb | hb
      ·exact hnA b hb q2
      ·rcases List.mem_cons.mp hb with rfl | hb
       ·have q2 : (0 : Int) = p := q2
        omega
       ·exact hnR b hb q2
    
    have oB : openS bx = openS A + g.f2 + openS B := by
     rw [← hrun.all, openS_app, openS_app, openS_all R hrun.opn, g2]
    have oY : openS (A ++ (S98.mk g.f1 size p false) :: (rest ++ B)) = openS A + (g.f2 - size) + openS B := by
     rw [openS_app, openS, openS_app, hrest0.2]
     have : opB (S98.mk g.f1 size p false) = false := by
      unfold opB
      dsimp only
      rw [decide_eq_false (by omega)]; rfl
     rw [this]
     simp
     omega
    have oZ : openS (A ++ (S98.mk g.f1 size 0 false) :: (rest ++ B)) = openS A + g.f2 + openS B := by
     rw [openS_app, openS, openS_app, hrest0.2]
     have : opB (S98.mk g.f1 size 0 false) = true := rfl
     rw [this]
     simp
     omega
    have hin := openS_in v
    have hTy := take_ev h fx (A ++ (S98.mk g.f1 size p false) :: (rest ++ B)) (by omega) (by omega) p
    rw [eT] at hTy
    have hTz := take_ev h fx (A ++ (S98.mk g.f1 size 0 false) :: (rest ++ B)) (by omega) (by omega) p
    rw [eT2] at hTz
    have hFit := fit_ev h fx (by omega) bx size
    rw [hg] at hFit
    refine Ev.pos (by trivial) (Ev.bind hTy (Ev.bind hTz (Ev.bind hFit (Ev.bind (Ev.const rfl) ?_))))
    refine Ev.pos ((colP_iff _ _ _).mpr hvy) (Ev.pos (by trivial) (Ev.neg (by simp) (Ev.bind (Ev.const rfl) (Ev.pos ((colP_iff _ _ _).mpr hvz) ?_))))
    refine Ev.pos (by simp [outG]) (Ev.pos (by simp [outG]) (Ev.pos (by simp only [outG]; omega) ?_))
    refine Ev.bind (gapsS_ev h fx (by omega) _ (by omega)) (Ev.bind (gapsP_roomEv (by omega) hvy) (Ev.bind (gapsS_ev h fx (by omega) bx (by omega)) (Ev.bind (gapsP_roomEv (by omega) v) ?_)))
    refine Ev.pos (by rw [oY, oB, wid _ (by omega) (by omega)]; omega) ?_
    refine Ev.bind (gapsS_ev h fx (by omega) _ (Nat.le_trans lz (by omega))) (Ev.bind (gapsP_roomEv (by omega) hvz) (Ev.bind (gapsS_ev h fx (by omega) bx (by omega)) (Ev.bind (gapsP_roomEv (by omega) v) ((Ev.ret _).to ?_))))
    simp only [beq_iff_eq]
    omega
   ·have e : putP h fx bx p size = (bx, -1, false) := by unfold putP; rw [hg]; dsimp only; rw [if_neg c3]
    refine Ev.neg (badE e) ?_
    rw [e]
    exact Ev.bind (sameColumn_ev h fx bx (by omega) (by omega)) (Ev.pos (by trivial) (Ev.ret _))
end Go.Proofs.Ytbpjidekjogfeaa.A
