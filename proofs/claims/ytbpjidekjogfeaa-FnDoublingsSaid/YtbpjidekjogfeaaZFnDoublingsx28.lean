/- Used by the law FnDoublings. -/
import Derived.Test.YtbpjidekjogfeaaZFnDoublingsx27
import Derived.Test.YtbpjidekjogfeaaZFnDoublingsx21
import Derived.Test.YtbpjidekjogfeaaZFnDoublingsx24
import Derived.Test.YtbpjidekjogfeaaZFnDoublingsx26
import Derived.Test.YtbpjidekjogfeaaZFnDoublingsx22
import Derived.Test.YtbpjidekjogfeaaZFnDoublingsx25
import Derived.Test.YtbpjidekjogfeaaZFnDoublingsx16
import Derived.Test.YtbpjidekjogfeaaZFnDoublingsx17
import Derived.Test.YtbpjidekjogfeaaZFnDoublingsx23
import Derived.Test.YtbpjidekjogfeaaZFnDoublingsx20
namespace Go.Proofs.Ytbpjidekjogfeaa.A
open Go.RowKit Go.Proofs.YtbpjidekjogfeaaW.PrintWords Go.Proofs.YtbpjidekjogfeaaW.PrintLast Go.Proofs.YtbpjidekjogfeaaW.PrintMore
set_option linter.unusedVariables false
set_option linter.unusedSimpArgs false
def outG : Option S50 → Int × Int × Int × Bool
 | none => (0, 0, 0, false)
 | some g => (g.f0, g.f1, g.f2, true)
theorem least_loop (l : List S50) (hl : l.length ≤ 1048576) (size : Int) : ∀ (rest : List S50) (i : Nat) (best : Option S50), l.drop i = rest → i ≤ l.length →
  Ev (fun k => impl_least.l0 k size (outG best).2.2.2 l (l.length : Int) (i : Int) (outG best).1 (outG best).2.1 (outG best).2.2.1) (outG (leastW size best rest))
 | [], i, best, hd, hi => by
  have he := drop_end hd hi
  refine Ev.succ ?_
  simp only [impl_least.l0, leastW]
  exact Ev.neg (by omega) (Ev.ret _)
 | g :: rest, i, best, hd, hi => by
  obtain ⟨h1, h2, h3⟩ := drop_step z50 hd
  have er : rd_T50 l (i : Int) = g := h2
  have ih := fun best => least_loop l hl size rest (i + 1) best h3 (by omega)
  have ih1 := ih (some g)
  have ih0 := ih best
  refine Ev.succ ?_
  simp only [impl_least.l0, er, leastW]
  rw [wsucc i (by omega)]
  refine Ev.pos (by omega) (Ev.pos (by omega) (Ev.pos (by omega) ?_))
  by_cases c : g.f2 ≥ size
  ·refine Ev.pos c ?_
   cases best with
   | none =>
    rw [if_pos ⟨c, fun b hb => by cases hb⟩]
    exact Ev.neg (by simp [outG]) ih1
   | some b =>
    refine Ev.pos (by simp [outG]) ?_
    by_cases d : g.f2 < b.f2
    ·rw [if_pos ⟨c, fun b' hb => by cases hb; exact d⟩]
     exact Ev.pos d ih1
    ·rw [if_neg (fun e => d (e.2 b rfl))]
     exact Ev.neg d ih0
  ·rw [if_neg (fun e => c e.1)]
   exact Ev.neg c ih0
theorem least_ev (l : List S50) (hl : l.length ≤ 1048576) (size : Int) : Ev (fun k => impl_least.f k l size) (outG (leastP size l)) := by
 unfold impl_least.f leastP
 by_cases c : size < 1
 ·rw [if_pos c]
  exact Ev.pos c (Ev.ret _)
 ·rw [if_neg c]
  exact Ev.neg c (least_loop l hl size l 0 none rfl (by omega))
structure LeastAt (size : Int) (l l1 : List S50) (g : S50) (l2 : List S50) : Prop where
 all : l = l1 ++ g :: l2
 enough : size ≤ g.f2
 ahead : ∀ x ∈ l1, x.f2 < size ∨ g.f2 < x.f2
 behind : ∀ x ∈ l2, x.f2 < size ∨ g.f2 ≤ x.f2
theorem LeastAt.uniq {size : Int} : ∀ {l1 l1' : List S50} {l : List S50} {g g' : S50} {l2 l2' : List S50}, LeastAt size l l1 g l2 → LeastAt size l l1' g' l2' → l1 = l1' ∧ g = g' ∧ l2 = l2'
 | [], [], l, g, g', l2, l2', h, h' => by
  have e := h.all.symm.trans h'.all
  simp at e
  exact ⟨rfl, e.1, e.2⟩
 | [], x :: l1', l, g, g', l2, l2', h, h' => by
  have e := h.all.symm.trans h'.all
  simp at e
  have a := h'.ahead x (by simp)
  have b := h.behind g' (by rw [e.2]; simp)
  have c := h.enough
  have d := h'.enough
  rw [← e.1] at a
  omega
 | x :: l1, [], l, g, g', l2, l2', h, h' => by
  have e := h.all.symm.trans h'.all
  simp at e
  have a := h.ahead x (by simp)
  have b := h'.behind g (by rw [← e.2]; simp)
  have c := h.enough
  have d := h'.enough
  rw [e.1] at a
  omega
 | x :: l1, y :: l1', l, g, g', l2, l2', h, h' => by
  have e := h.all.symm.trans h'.all
  simp at e
  have k : LeastAt size (l1 ++ g :: l2) l1 g l2 := ⟨rfl, h.enough, fun z hz => h.ahead z (by simp [hz]), h.behind⟩
  have k' : LeastAt size (l1 ++ g :: l2) l1' g' l2' := ⟨e.2, h'.enough, fun z hz => h'.ahead z (by simp [hz]), h'.behind⟩
  obtain ⟨a, b, c⟩ := LeastAt.uniq k k'
  exact ⟨by rw [e.1, a], b, c⟩
theorem leastW_at {size : Int} {l l1 : List S50} {g : S50} {l2 : List S50} (h : LeastAt size l l1 g l2) : leastW size none l = some g := by
 rcases leastW_none size l with ⟨_, h2⟩ | ⟨k1, y, k2, h0, h1, h2, h4, h5⟩
 ·have := h2 g (by rw [h.all]; simp)
  have := h.enough
  omega
 ·obtain ⟨_, e, _⟩ := LeastAt.uniq h ⟨h0, h2, h4, h5⟩
  rw [h1, e]
theorem leastW_not {size : Int} {l : List S50} (h : ∀ x ∈ l, x.f2 < size) : leastW size none l = none := by
 rcases leastW_none size l with ⟨h1, _⟩ | ⟨k1, y, k2, h0, h1, h2, h4, h5⟩
 ·exact h1
 ·have := h y (by rw [h0]; simp)
  omega
theorem leastS_loop (l : List S50) (hl : l.length ≤ 1048576) (size : Int) : ∀ (rest : List S50) (i : Nat) (x : Int), l.drop i = rest → i ≤ l.length →
  ((x = -1 ∧ ∀ y ∈ l.take i, y.f2 < size) ∨ ∃ l1 g l2, LeastAt size (l.take i) l1 g l2 ∧ x = (l1.length : Int)) →
  ∃ r : Int, Ev (fun k => spec_l02Least.l0 k l size x (i : Int)) r ∧ ((r = -1 ∧ ∀ y ∈ l, y.f2 < size) ∨ ∃ l1 g l2, LeastAt size l l1 g l2 ∧ r = (l1.length : Int))
 | [], i, x, hd, hi, hx => by
  have he := drop_end hd hi
  refine ⟨x, Ev.succ ?_, ?_⟩
  ·simp only [spec_l02Least.l0]
   exact Ev.neg (by omega) (Ev.ret _)
  ·rw [he, List.take_length] at hx
   exact hx
 | g :: rest, i, x, hd, hi, hx => by
  obtain ⟨h1, h2, h3⟩ := drop_step z50 hd
  have er : rd_T50 l (i : Int) = g := h2
  have et : l.take (i + 1) = l.take i ++ [g] := by
   rw [List.take_add_one, ← h2, List.getD_eq_getElem?_getD, List.getElem?_eq_getElem h1]
   rfl
  have ih := fun y => leastS_loop l hl size rest (i + 1) y h3 (by omega)
  
  have new : size ≤ g.f2 → (∀ y ∈ l.take i, y.f2 < size ∨ g.f2 < y.f2) → ((i : Int) = -1 ∧ ∀ y ∈ l.take (i + 1), y.f2 < size) ∨ ∃ l1 g' l2, LeastAt size (l.take (i + 1)) l1 g' l2 ∧ (i : Int) = (l1.length : Int) := by
   intro a b
   exact Or.inr ⟨l.take i, g, [], ⟨et, a, b, by simp⟩, by rw [List.length_take]; omega⟩
  rcases hx with ⟨hx, hn⟩ | ⟨l1, b, l2, hb, hx⟩
  ·by_cases c : g.f2 ≥ size
   ·obtain ⟨r, hr, hp⟩ := ih (i : Int) (new c (fun y hy => Or.inl (hn y hy)))
    refine ⟨r, Ev.succ ?_, hp⟩
    simp only [spec_l02Least.l0, er]
    rw [wsucc i (by omega)]
    exact Ev.pos (by omega) (Ev.pos (by omega) (Ev.pos c (Ev.pos (by omega) hr)))
   ·obtain ⟨r, hr, hp⟩ := ih x (Or.inl ⟨hx, fun y hy => by
     rw [et] at hy
     rcases List.mem_append.mp hy with hy | hy
     ·exact hn y hy
     ·rw [List.mem_singleton.mp hy]; omega⟩)
    refine ⟨r, Ev.succ ?_, hp⟩
    simp only [spec_l02Least.l0, er]
    rw [wsucc i (by omega)]
    exact Ev.pos (by omega) (Ev.pos (by omega) (Ev.neg c hr))
  ·have hlen : l1.length < i := by
    have := congrArg List.length hb.all
    rw [List.length_take] at this
    simp at this
    omega
   have eb : rd_T50 l x = b := by
    rw [hx]
    show l.getD l1.length _ = b
    have e1 : l.getD l1.length z50 = (l.take i).getD l1.length z50 := by
     rw [List.getD_eq_getElem?_getD, List.getD_eq_getElem?_getD, List.getElem?_take_of_lt hlen]
    rw [e1, hb.all, List.getD_eq_getElem?_getD, List.getElem?_append_right (Nat.le_refl _), Nat.sub_self]
    rfl
   have old : (g.f2 < size ∨ b.f2 ≤ g.f2) → (x = -1 ∧ ∀ y ∈ l.take (i + 1), y.f2 < size) ∨ ∃ l1 g' l2, LeastAt size (l.take (i + 1)) l1 g' l2 ∧ x = (l1.length : Int) := by
    intro a
    refine Or.inr ⟨l1, b, l2 ++ [g], ⟨by rw [et, hb.all]; simp, hb.enough, hb.ahead, fun y hy => ?_⟩, hx⟩
    rcases List.mem_append.mp hy with hy | hy
    ·exact hb.behind y hy
    ·rw [List.mem_singleton.mp hy]; exact a
   by_cases c : g.f2 ≥ size
   ·by_cases d : g.f2 < b.f2
    ·obtain ⟨r, hr, hp⟩ := ih (i : Int) (new c (fun y hy => by
      rw [hb.all] at hy
      rcases List.mem_append.mp hy with hy | hy
      ·have := hb.ahead y hy; omega
      ·rcases List.mem_cons.mp hy with rfl | hy
       ·exact Or.inr d
       ·have := hb.behind y hy; omega))
     refine ⟨r, Ev.succ ?_, hp⟩
     simp only [spec_l02Least.l0, er, eb]
     rw [wsucc i (by omega)]
     exact Ev.pos (by omega) (Ev.pos (by omega) (Ev.pos c (Ev.neg (by omega) (Ev.pos (by omega) (Ev.pos (by omega) (Ev.pos d hr))))))
    ·obtain ⟨r, hr, hp⟩ := ih x (old (by omega))
     refine ⟨r, Ev.succ ?_, hp⟩
     simp only [spec_l02Least.l0, er, eb]
     rw [wsucc i (by omega)]
     exact Ev.pos (by omega) (Ev.pos (by omega) (Ev.pos c (Ev.neg (by omega) (Ev.pos (by omega) (Ev.pos (by omega) (Ev.neg d hr))))))
   ·obtain ⟨r, hr, hp⟩ := ih x (old (by omega))
    refine ⟨r, Ev.succ ?_, hp⟩
    simp only [spec_l02Least.l0, er]
    rw [wsucc i (by omega)]
    exact Ev.pos (by omega) (Ev.pos (by omega) (Ev.neg c hr))
theorem leastS_ev (l : List S50) (hl : l.length ≤ 1048576) (size : Int) : ∃ r : Int, Ev (fun k => spec_l02Least.f k l size) r ∧ ((r = -1 ∧ ∀ y ∈ l, y.f2 < size) ∨ ∃ l1 g l2, LeastAt size l l1 g l2 ∧ r = (l1.length : Int)) := by
 unfold spec_l02Least.f
 exact leastS_loop l hl size l 0 (-1) rfl (by omega) (Or.inl ⟨rfl, by simp⟩)
theorem fitS_out (l : List S50) (hl : l.length ≤ 1048576) (size : Int) : ∃ r : Int, Ev (fun k => spec_l02Least.f k l size) r ∧
  Ev (fun _ => if size < 1 then some (0, 0, 0, false) else (if r < 0 then some (0, 0, 0, false) else (if 0 ≤ r then (if r < (l.length : Int) then some ((rd_T50 l r).f0, (rd_T50 l r).f1, (rd_T50 l r).f2, true) else none) else none))) (outG (leastP size l)) := by
 obtain ⟨r, h1, h2⟩ := leastS_ev l hl size
 refine ⟨r, h1, ?_⟩
 by_cases c : size < 1
 ·have e : leastP size l = none := by unfold leastP; rw [if_pos c]
  rw [e]
  exact Ev.pos c (Ev.ret _)
 ·refine Ev.neg c ?_
  have e : leastP size l = leastW size none l := by unfold leastP; rw [if_neg c]
  rw [e]
  rcases h2 with ⟨h2, h3⟩ | ⟨l1, g, l2, h2, h3⟩
  ·rw [leastW_not h3]
   exact Ev.pos (by omega) (Ev.ret _)
  ·rw [leastW_at h2]
   have hlen := congrArg List.length h2.all
   simp at hlen
   have eb : rd_T50 l r = g := by
    rw [h3]
    show l.getD l1.length _ = g
    rw [h2.all, List.getD_eq_getElem?_getD, List.getElem?_append_right (Nat.le_refl _), Nat.sub_self]
    rfl
   rw [eb]
   exact Ev.neg (by omega) (Ev.pos (by omega) (Ev.pos (by omega) (Ev.ret _)))
theorem fitS_ev (h : Int) (fx : List Int) (hf : fx.length ≤ 1048576) (bx : List S98) (hb : bx.length ≤ 1048576) (size : Int) : Ev (fun k => spec_FitOf.f k h fx bx size) (outG (leastP size (gapsP h fx bx))) := by
 unfold spec_FitOf.f
 refine Ev.bind (gapsS_ev h fx hf bx hb) ?_
 have := gapsP_len h fx bx
 obtain ⟨r, h1, h2⟩ := fitS_out (gapsP h fx bx) (by omega) size
 exact Ev.bind h1 h2
end Go.Proofs.Ytbpjidekjogfeaa.A

namespace Go.Proofs.Ytbpjidekjogfeaa.A
open Go.RowKit Go.Proofs.YtbpjidekjogfeaaW.PrintWords Go.Proofs.YtbpjidekjogfeaaW.PrintLast Go.Proofs.YtbpjidekjogfeaaW.PrintMore
set_option linter.unusedVariables false
set_option linter.unusedSimpArgs false
def minR (s : Int) : List Int → Option Int
 | [] => none
 | r :: l => match minR s l with
  | none => if s ≤ r then some r else none
  | some m => if s ≤ r ∧ r ≤ m then some r else some m
theorem minR_spec (s : Int) : ∀ (l : List Int), (minR s l = none ∧ ∀ x ∈ l, x < s) ∨ ∃ m, minR s l = some m ∧ m ∈ l ∧ s ≤ m ∧ ∀ x ∈ l, s ≤ x → m ≤ x
 | [] => Or.inl ⟨rfl, by simp⟩
 | r :: l => by
  simp only [minR]
  rcases minR_spec s l with ⟨h1, h2⟩ | ⟨m, h1, h2, h3, h4⟩
  ·rw [h1]
   dsimp only
   by_cases c : s ≤ r
   ·rw [if_pos c]
    refine Or.inr ⟨r, rfl, by simp, c, fun x hx hs => ?_⟩
    rcases List.mem_cons.mp hx with rfl | hx
    ·exact Int.le_refl _
    ·have := h2 x hx; omega
   ·rw [if_neg c]
    refine Or.inl ⟨rfl, fun x hx => ?_⟩
    rcases List.mem_cons.mp hx with rfl | hx
    ·omega
    ·exact h2 x hx
  ·rw [h1]
   dsimp only
   by_cases c : s ≤ r ∧ r ≤ m
   ·rw [if_pos c]
    refine Or.inr ⟨r, rfl, by simp, c.1, fun x hx hs => ?_⟩
    rcases List.mem_cons.mp hx with rfl | hx
    ·exact Int.le_refl _
    ·have := h4 x hx hs; omega
   ·rw [if_neg c]
    refine Or.inr ⟨m, rfl, by simp [h2], h3, fun x hx hs => ?_⟩
    rcases List.mem_cons.mp hx with rfl | hx
    ·omega
    ·exact h4 x hx hs
theorem minR_of {s : Int} {l : List Int} {m : Int} (hm : m ∈ l) (h : s ≤ m) (hmin : ∀ x ∈ l, s ≤ x → m ≤ x) : minR s l = some m := by
 rcases minR_spec s l with ⟨_, h2⟩ | ⟨k, h1, h2, h3, h4⟩
 ·have := h2 m hm; omega
 ·have := h4 m hm h
  have := hmin k h2 h3
  rw [h1, show k = m by omega]
theorem minR_no {s : Int} {l : List Int} (h : ∀ x ∈ l, x < s) : minR s l = none := by
 rcases minR_spec s l with ⟨h1, _⟩ | ⟨k, h1, h2, h3, h4⟩
 ·exact h1
 ·have := h k h2; omega
def redR (s m : Int) : List Int → List Int
 | [] => []
 | r :: l => if r = m then (r - s) :: l else r :: redR s m l
theorem redR_at {s m : Int} : ∀ {l1 l2 : List Int}, (∀ x ∈ l1, x ≠ m) → redR s m (l1 ++ m :: l2) = l1 ++ (m - s) :: l2
 | [], l2, _ => by simp [redR]
 | x :: l1, l2, h => by
  rw [List.cons_append, redR, if_neg (h x (by simp)), redR_at (fun y hy => h y (by simp [hy]))]
  rfl
theorem redR_split {m : Int} (s : Int) : ∀ {l : List Int}, m ∈ l → ∃ l1 l2, l = l1 ++ m :: l2 ∧ (∀ x ∈ l1, x ≠ m) ∧ redR s m l = l1 ++ (m - s) :: l2
 | [], h => absurd h (by simp)
 | x :: l, h => by
  by_cases c : x = m
  ·subst c
   exact ⟨[], l, rfl, by simp, by simp [redR]⟩
  ·obtain ⟨l1, l2, h1, h2, h3⟩ := redR_split s (l := l) (by rcases List.mem_cons.mp h with h | h; exact absurd h.symm c; exact h)
   refine ⟨x :: l1, l2, by rw [h1]; rfl, fun y hy => ?_, by rw [redR, if_neg c, h3]; rfl⟩
   rcases List.mem_cons.mp hy with rfl | hy
   ·exact c
   ·exact h2 y hy
def heldR : List Int → List Int → Nat
 | [], _ => 0
 | s :: ss, rooms => match minR s rooms with
  | none => 0
  | some m => 1 + heldR ss (redR s m rooms)
def posR (l : List Int) : List Int := l.filter (fun x => decide (0 < x))
theorem posR_mem {l : List Int} {x : Int} : x ∈ posR l ↔ x ∈ l ∧ 0 < x := by
 unfold posR
 rw [List.mem_filter, decide_eq_true_iff]
theorem minR_pos {s : Int} (hs : 1 ≤ s) (l : List Int) : minR s (posR l) = minR s l := by
 rcases minR_spec s l with ⟨h1, h2⟩ | ⟨m, h1, h2, h3, h4⟩
 ·rw [h1]
  exact minR_no (fun x hx => h2 x (posR_mem.mp hx).1)
 ·rw [h1]
  exact minR_of (posR_mem.mpr ⟨h2, by omega⟩) h3 (fun x hx hs => h4 x (posR_mem.mp hx).1 hs)
theorem redR_pos {s m : Int} (hm : 0 < m) : ∀ (l : List Int), posR (redR s m (posR l)) = posR (redR s m l)
 | [] => rfl
 | x :: l => by
  have ih := redR_pos (s := s) hm l
  by_cases c : 0 < x
  ·have e : posR (x :: l) = x :: posR l := by unfold posR; rw [List.filter_cons_of_pos (by simpa using c)]
   rw [e]
   simp only [redR]
   by_cases d : x = m
   ·rw [if_pos d, if_pos d]
    have pp : posR (posR l) = posR l := by unfold posR; rw [List.filter_filter]; simp
    unfold posR at *
    by_cases f : 0 < x - s
    ·rw [List.filter_cons_of_pos (by simpa using f), List.filter_cons_of_pos (by simpa using f), pp]
    ·rw [List.filter_cons_of_neg (by simpa using f), List.filter_cons_of_neg (by simpa using f), pp]
   ·rw [if_neg d, if_neg d]
    unfold posR at *
    rw [List.filter_cons_of_pos (by simpa using c), List.filter_cons_of_pos (by simpa using c), ih]
  ·have e : posR (x :: l) = posR l := by unfold posR; rw [List.filter_cons_of_neg (by simpa using c)]
   rw [e, ih]
   simp only [redR]
   rw [if_neg (by omega)]
   unfold posR
   rw [List.filter_cons_of_neg (by simpa using c)]
theorem heldR_pos : ∀ (ss rooms : List Int), (∀ s ∈ ss, 1 ≤ s) → heldR ss (posR rooms) = heldR ss rooms
 | [], _, _ => rfl
 | s :: ss, rooms, h => by
  have hs := h s (by simp)
  have hss : ∀ x ∈ ss, 1 ≤ x := fun x hx => h x (by simp [hx])
  simp only [heldR]
  rw [minR_pos hs]
  rcases minR_spec s rooms with ⟨h1, _⟩ | ⟨m, h1, h2, h3, h4⟩
  ·rw [h1]
  ·rw [h1]
   dsimp only
   rw [← heldR_pos ss (redR s m (posR rooms)) hss, redR_pos (by omega), heldR_pos ss (redR s m rooms) hss]
def roomsG (gs : List S50) : List Int := gs.map (fun g => g.f2)
theorem least_min {size : Int} (hs : 1 ≤ size) {l l1 : List S50} {g : S50} {l2 : List S50} (h : LeastAt size l l1 g l2) : minR size (roomsG l) = some g.f2 ∧ redR size g.f2 (roomsG l) = roomsG l1 ++ (g.f2 - size) :: roomsG l2 := by
 have e : roomsG l = roomsG l1 ++ g.f2 :: roomsG l2 := by rw [h.all]; simp [roomsG]
 have ha : ∀ x ∈ roomsG l1, x < size ∨ g.f2 < x := by
  intro x hx
  obtain ⟨y, hy, rfl⟩ := List.mem_map.mp hx
  exact h.ahead y hy
 have hb : ∀ x ∈ roomsG l2, x < size ∨ g.f2 ≤ x := by
  intro x hx
  obtain ⟨y, hy, rfl⟩ := List.mem_map.mp hx
  exact h.behind y hy
 have he := h.enough
 rw [e]
 refine ⟨minR_of (by simp) he (fun x hx hs => ?_), redR_at (fun x hx => by have := ha x hx; omega)⟩
 rcases List.mem_append.mp hx with hx | hx
 ·have := ha x hx; omega
 ·rcases List.mem_cons.mp hx with rfl | hx
  ·exact Int.le_refl _
  ·have := hb x hx; omega
theorem least_minNo {size : Int} {l : List S50} (h : ∀ x ∈ l, x.f2 < size) : minR size (roomsG l) = none :=
 minR_no (fun x hx => by obtain ⟨y, hy, rfl⟩ := List.mem_map.mp hx; exact h y hy)
def GapLt (a b : S50) : Prop := a.f0 < b.f0 ∨ (a.f0 = b.f0 ∧ a.f1 < b.f1)
theorem bankG_ge : ∀ (cs : List S41) (k : Int), ∀ g ∈ bankG k cs, k ≤ g.f0
 | [], _, g, hg => by simp [bankG] at hg
 | c :: cs, k, g, hg => by
  rw [bankG] at hg
  rcases List.mem_append.mp hg with hg | hg
  ·obtain ⟨x, _, rfl⟩ := List.mem_map.mp hg
   exact Int.le_refl _
  ·have := bankG_ge cs (k + 1) g hg; omega
theorem bankG_asc : ∀ (cs : List S41) (k : Int), (∀ c ∈ cs, ∃ h, tile 0 c.f2 h) → (bankG k cs).Pairwise GapLt
 | [], _, _ => List.Pairwise.nil
 | c :: cs, k, h => by
  obtain ⟨hi, ht⟩ := h c (by simp)
  rw [bankG, List.pairwise_append]
  refine ⟨?_, bankG_asc cs (k + 1) (fun d hd => h d (by simp [hd])), fun a ha b hb => ?_⟩
  ·rw [List.pairwise_map]
   have := (gapsW_asc c.f1 c.f2 [] 0 hi ht (fun c => absurd rfl c)).1
   exact List.Pairwise.imp (fun hab => Or.inr ⟨rfl, hab⟩) this
  ·obtain ⟨x, _, rfl⟩ := List.mem_map.mp ha
   have := bankG_ge cs (k + 1) b hb
   exact Or.inl (by show k < b.f0; omega)
theorem bankG_app : ∀ (a b : List S41) (k : Int), bankG k (a ++ b) = bankG k a ++ bankG (k + a.length) b
 | [], b, k => by simp [bankG]
 | c :: a, b, k => by
  rw [List.cons_append, bankG, bankG, bankG_app a b (k + 1), List.append_assoc, List.length_cons]
  congr 3
  omega
theorem gapsW_zero (fx : List Int) : ∀ (bs cur : List S98), ∀ g ∈ gapsW fx cur bs, g.f0 = 0
 | [], cur, g, hg => by
  simp only [gapsW, emR] at hg
  split at hg
  ·simp at hg
  ·next h => rw [List.mem_singleton.mp hg, gapR_is h]
 | b :: bs, cur, g, hg => by
  have em : ∀ g ∈ emR cur, g.f0 = 0 := by
   intro g hg
   unfold emR at hg
   split at hg
   ·simp at hg
   ·next h => rw [List.mem_singleton.mp hg, gapR_is h]
  simp only [gapsW] at hg
  split at hg
  ·split at hg
   ·exact gapsW_zero fx bs _ g hg
   ·rcases List.mem_append.mp hg with hg | hg
    ·exact em g hg
    ·exact gapsW_zero fx bs _ g hg
  ·rcases List.mem_append.mp hg with hg | hg
   ·exact em g hg
   ·exact gapsW_zero fx bs _ g hg
theorem bankG_mem : ∀ (cs : List S41) (k : Int) (g : S50), g ∈ bankG k cs → ∃ C1 c C2, cs = C1 ++ c :: C2 ∧ g.f0 = k + C1.length ∧ (S50.mk 0 g.f1 g.f2) ∈ gapsB c.f1 c.f2
 | [], _, g, hg => by simp [bankG] at hg
 | c :: cs, k, g, hg => by
  rw [bankG] at hg
  rcases List.mem_append.mp hg with hg | hg
  ·obtain ⟨x, hx, rfl⟩ := List.mem_map.mp hg
   refine ⟨[], c, cs, rfl, by simp, ?_⟩
   have := gapsW_zero c.f1 c.f2 [] x hx
   have e : (S50.mk 0 x.f1 x.f2) = x := by rw [← this]
   rw [e]; exact hx
  ·obtain ⟨C1, d, C2, h1, h2, h3⟩ := bankG_mem cs (k + 1) g hg
   exact ⟨c :: C1, d, C2, by rw [h1]; rfl, by rw [h2, List.length_cons]; omega, h3⟩
structure Geo (cs : List S41) : Prop where
 len : cs.length ≤ 6
 fix : ∀ c ∈ cs, c.f1.length ≤ 1048576
 til : ∀ c ∈ cs, ∃ h, h ≤ 24 ∧ tile 0 c.f2 h
theorem Geo.flat {cs : List S41} (g : Geo cs) : Flat cs := by
 refine ⟨g.len, g.fix, fun c hc => ?_, fun c hc b hb => ?_⟩
 ·obtain ⟨h, h1, h2⟩ := g.til c hc
  have := tile_sum _ _ _ h2
  omega
 ·obtain ⟨h, h1, h2⟩ := g.til c hc
  have := tile_mem _ _ _ h2 b hb
  omega
theorem BankV.geo {cs : List S41} (v : BankV cs) (hs : Small cs) : Geo cs :=
 ⟨by have := v.len; omega, fun c hc => (hs.2 c hc).1, fun c hc => ⟨c.f0, ((colP_iff _ _ _).mp (v.col c hc)).hi.2, ((colP_iff _ _ _).mp (v.col c hc)).til⟩⟩
def putC (g : S50) (p s : Int) (c : S41) : S41 := ⟨c.f0, c.f1, fillD g.f1 (newB g.f1 g.f2 p s) c.f2 (decs c.f1 [] [] c.f2)⟩
def restG (g : S50) (s : Int) : List S50 := if s < g.f2 then [⟨g.f0, g.f1 + s, g.f2 - s⟩] else []
theorem bank_put {cs : List S41} (hg : Geo cs) {g : S50} (hm : g ∈ bankG 0 cs) {p s : Int} (hp : p ≠ 0) (hs : 1 ≤ s) (hle : s ≤ g.f2) :
  ∃ C1 c C2 P Q A R B h, cs = C1 ++ c :: C2 ∧ g.f0 = C1.length ∧ bankG 0 cs = P ++ g :: Q ∧ bankG 0 (C1 ++ putC g p s c :: C2) = P ++ restG g s ++ Q ∧ Geo (C1 ++ putC g p s c :: C2) ∧ g ∉ P ∧
   (0 ≤ g.f1 ∧ g.f1 + g.f2 ≤ 24) ∧ RunAt c.f1 c.f2 A R B ∧ g.f1 = loR R ∧ g.f2 = sumB R ∧ tile 0 c.f2 h ∧ (putC g p s c).f2 = A ++ newB g.f1 g.f2 p s ++ B ∧ (∀ N, fillB g.f1 g.f2 N c.f2 = A ++ N ++ B) := by
 obtain ⟨C1, c, C2, h1, h2, h3⟩ := bankG_mem cs 0 g hm
 have hc : c ∈ cs := by rw [h1]; simp
 obtain ⟨h, hh, ht⟩ := hg.til c hc
 obtain ⟨A, R, B, hr, e, f1, f2⟩ := gap_run c.f1 c.f2 0 h ht _ h3
 simp only [S50.mk.injEq] at e
 obtain ⟨_, e1, e2⟩ := e
 dsimp only at f1 f2
 have hN : tile (loR R) (newB g.f1 g.f2 p s) (loR R + sumB R) := by rw [← e1, ← e2]; exact newB_tile hs hle
 have ecut : Cut c.f1 (newB g.f1 g.f2 p s) := by
  unfold newB
  refine Or.inl ?_
  unfold opB
  dsimp only
  rw [decide_eq_false hp]
  rfl
 have eGN : gapsB c.f1 (newB g.f1 g.f2 p s) = if s < g.f2 then [⟨0, g.f1 + s, g.f2 - s⟩] else [] := by
  have o1 : opB (S98.mk g.f1 s p false) = false := by
   unfold opB; dsimp only; rw [decide_eq_false hp]; rfl
  have o2 : opB (S98.mk (g.f1 + s) (g.f2 - s) 0 false) = true := rfl
  have em1 : emR [] = [] := rfl
  unfold gapsB newB
  by_cases d : s < g.f2
  ·rw [if_pos d, if_pos d]
   simp only [gapsW]
   rw [if_neg (by rw [o1]; simp), if_pos o2, if_neg (fun c => c.1 rfl), em1]
   have em2 : emR [(S98.mk (g.f1 + s) (g.f2 - s) 0 false)] = [gapR [(S98.mk (g.f1 + s) (g.f2 - s) 0 false)]] := by unfold emR; rw [if_neg (by simp)]
   have es : sumB [(S98.mk (g.f1 + s) (g.f2 - s) 0 false)] = g.f2 - s := by rw [sumB_cons, sumB_nil]; exact Int.add_zero _
   rw [em2, gapR_is (by simp), es]
   rfl
  ·rw [if_neg d, if_neg d]
   simp only [gapsW]
   rw [if_neg (by rw [o1]; simp), em1]
   rfl
 have eput : (putC g p s c).f2 = A ++ newB g.f1 g.f2 p s ++ B := f2 _
 have egap : gapsB c.f1 (putC g p s c).f2 = gapsB c.f1 A ++ (if s < g.f2 then [⟨0, g.f1 + s, g.f2 - s⟩] else []) ++ gapsB c.f1 B := by
  rw [eput, run_put hr _ (by unfold newB; simp) (Or.inr ecut), eGN]
 have eg : (S50.mk g.f0 g.f1 g.f2) = g := rfl
 have hbank : ∀ d : S41, bankG 0 (C1 ++ d :: C2) = bankG 0 C1 ++ (gapsB d.f1 d.f2).map (fun x => ⟨g.f0, x.f1, x.f2⟩) ++ bankG (g.f0 + 1) C2 := by
  intro d
  rw [bankG_app, bankG, h2, List.append_assoc]
 have hP : bankG 0 cs = (bankG 0 C1 ++ (gapsB c.f1 A).map (fun x => ⟨g.f0, x.f1, x.f2⟩)) ++ g :: ((gapsB c.f1 B).map (fun x => ⟨g.f0, x.f1, x.f2⟩) ++ bankG (g.f0 + 1) C2) := by
  rw [h1, hbank, run_gaps hr, gapR_is hr.ne, ← e1, ← e2]
  simp
 refine ⟨C1, c, C2, _, _, A, R, B, h, h1, by rw [h2]; omega, hP, ?_, ⟨?_, ?_, ?_⟩, ?_, ?_, hr, e1, e2, ht, eput, f1⟩
 ·rw [hbank, show (putC g p s c).f1 = c.f1 from rfl, egap]
  unfold restG
  split <;> simp
 ·have := hg.len; rw [h1] at this; simpa using this
 ·intro d hd
  rcases List.mem_append.mp hd with hd | hd
  ·exact hg.fix d (by rw [h1]; simp [hd])
  ·rcases List.mem_cons.mp hd with rfl | hd
   ·exact hg.fix c hc
   ·exact hg.fix d (by rw [h1]; simp [hd])
 ·intro d hd
  rcases List.mem_append.mp hd with hd | hd
  ·exact hg.til d (by rw [h1]; simp [hd])
  ·rcases List.mem_cons.mp hd with rfl | hd
   ·refine ⟨h, hh, ?_⟩
    rw [eput]
    have ht2 := ht
    rw [← hr.all] at ht2
    exact tile_swap ht2 hr.ne hN
   ·exact hg.til d (by rw [h1]; simp [hd])
 ·intro hin
  have hasc := bankG_asc cs 0 (fun d hd => by obtain ⟨x, _, hx⟩ := hg.til d hd; exact ⟨x, hx⟩)
  rw [hP, List.pairwise_append] at hasc
  have := hasc.2.2 g hin g (by simp)
  unfold GapLt at this
  omega
 ·have ht2 := ht
  rw [← hr.all, tile_app, tile_app] at ht2
  obtain ⟨⟨ha, hb⟩, hc2⟩ := ht2
  have s1 := tile_sum _ _ _ ha
  have s3 := tile_sum _ _ _ hc2
  rw [sumB_app] at s3
  have er : loR R = 0 + sumB A := by
   have hne := hr.ne
   cases R with
   | nil => exact absurd rfl hne
   | cons x R => exact hb.1
  rw [e1, e2]
  omega
theorem first_uniq {α : Type} {g : α} : ∀ {P Q l1 l2 : List α}, P ++ g :: Q = l1 ++ g :: l2 → g ∉ P → g ∉ l1 → P = l1 ∧ Q = l2
 | [], Q, [], l2, e, _, _ => by simp at e; exact ⟨rfl, e⟩
 | [], Q, x :: l1, l2, e, _, h => by simp at e; exact absurd (by rw [e.1]; simp) h
 | x :: P, Q, [], l2, e, h, _ => by simp at e; exact absurd (by rw [e.1]; simp) h
 | x :: P, Q, y :: l1, l2, e, h, h' => by
  simp at e
  obtain ⟨a, b⟩ := first_uniq e.2 (fun hh => h (by simp [hh])) (fun hh => h' (by simp [hh]))
  exact ⟨by rw [e.1, a], b⟩
end Go.Proofs.Ytbpjidekjogfeaa.A

namespace Go.Proofs.Ytbpjidekjogfeaa.A
open Go.RowKit Go.Proofs.YtbpjidekjogfeaaW.PrintWords Go.Proofs.YtbpjidekjogfeaaW.PrintLast Go.Proofs.YtbpjidekjogfeaaW.PrintMore
set_option linter.unusedVariables false
set_option linter.unusedSimpArgs false
theorem putS_ev {h : Int} {fx : List Int} (hf : fx.length ≤ 1048576) {bx : List S98} (hb : bx.length ≤ 1048576) (p size : Int) : Ev (fun k => spec_PutIn.f k h fx bx p size) (h, fx, putP h fx bx p size) := by
 unfold spec_PutIn.f
 refine Ev.bind (fitS_ev h fx hf bx hb size) ?_
 have no : ∀ g0 g1 g2, Ev (fun k => spec_PutIn.j0 k p size true h fx bx g0 g1 g2) (h, fx, bx, -1, false) := by
  intro g0 g1 g2
  refine Ev.succ ?_
  simp only [spec_PutIn.j0]
  exact Ev.pos (by trivial) (Ev.bind (copyS_ev h fx bx (by omega) (by omega)) (Ev.ret _))
 unfold putP
 cases hg : leastP size (gapsP h fx bx) with
 | none => exact Ev.neg (by simp [outG]) (no _ _ _)
 | some g =>
  dsimp only
  refine Ev.pos (by simp [outG]) (Ev.bind (Ev.const (in_eq _ _ _)) ?_)
  by_cases c1 : 1 ≤ p ∧ p ≤ 999
  ·refine Ev.pos (decide_eq_true c1) (Ev.bind (box_ev h fx bx hb p) ?_)
   by_cases c2 : boxI bx p < 0
   ·rw [if_pos ⟨c1, c2⟩, decide_eq_false (by omega)]
    have hc : colP h fx bx = true := by
     apply Classical.byContradiction
     intro hc
     have : gapsP h fx bx = [] := by unfold gapsP; rw [if_neg hc]
     rw [this] at hg
     simp [leastP, leastW] at hg
    have v := (colP_iff _ _ _).mp hc
    obtain ⟨A, R, B, _, e, h1, h2, h3, h4, _⟩ := put_run v hg c1 c2
    have e1 : g.f1 = loR R := by rw [e]
    have e2 : g.f2 = sumB R := by rw [e]
    refine Ev.succ ?_
    simp only [spec_PutIn.j0]
    refine Ev.neg (by simp) ?_
    exact Ev.bind (fillS_ev h fx hf bx v.len g.f0 g.f1 g.f2 p size (by omega) (by omega) (by omega) (by omega) (by omega) (by omega)) (Ev.ret _)
   ·rw [if_neg (fun e => c2 e.2), decide_eq_true (by omega)]
    exact no _ _ _
  ·rw [if_neg (fun e => c1 e.1)]
   exact Ev.neg (by simpa using c1) (no _ _ _)
end Go.Proofs.Ytbpjidekjogfeaa.A

namespace Go.Proofs.Ytbpjidekjogfeaa.A
open Go.RowKit Go.Proofs.YtbpjidekjogfeaaW.PrintWords Go.Proofs.YtbpjidekjogfeaaW.PrintLast Go.Proofs.YtbpjidekjogfeaaW.PrintMore
set_option linter.unusedVariables false
set_option linter.unusedSimpArgs false
theorem placed_ev (h : Int) (fx : List Int) (hf : fx.length ≤ 1048576) (bx : List S98) (hl : bx.length ≤ 24) (hm : ∀ b ∈ bx, 1 ≤ b.f1 ∧ b.f1 ≤ 24) (g0 lo sz p size : Int) (h0 : 0 ≤ lo ∧ lo ≤ 1000) (h1 : 0 ≤ sz ∧ sz ≤ 1000) (h2 : 0 ≤ size ∧ size ≤ 1000) :
  Ev (fun k => impl_placed.f k h fx bx g0 lo sz p size) (h, fx, fillD lo (newB lo sz p size) bx (decs fx [] [] bx)) := by
 unfold impl_placed.f
 refine Ev.bind (Ev.ret _) ?_
 have hn := newB_len lo sz p size
 have hF := filled_ev h fx hf bx hl hm lo (newB lo sz p size) (by omega)
 by_cases c : sz > size
 ·refine Ev.pos c (Ev.pos (by simp) ?_)
  rw [wid (lo + size) (by omega) (by omega), wid (sz - size) (by omega) (by omega)]
  have e : newB lo sz p size = [⟨lo, size, p, false⟩] ++ [⟨lo + size, sz - size, 0, false⟩] := by unfold newB; rw [if_pos c]; rfl
  rw [e] at hF ⊢
  exact Ev.bind hF (Ev.ret _)
 ·refine Ev.neg c ?_
  have e : newB lo sz p size = [⟨lo, size, p, false⟩] := by unfold newB; rw [if_neg c]
  rw [e] at hF ⊢
  exact Ev.bind hF (Ev.ret _)
end Go.Proofs.Ytbpjidekjogfeaa.A

namespace Go.Proofs.Ytbpjidekjogfeaa.A
open Go.RowKit Go.Proofs.YtbpjidekjogfeaaW.PrintWords Go.Proofs.YtbpjidekjogfeaaW.PrintLast Go.Proofs.YtbpjidekjogfeaaW.PrintMore
set_option linter.unusedVariables false
set_option linter.unusedSimpArgs false
def sizesP (l : List Int) : Bool := l.all (fun s => decide (1 ≤ s)) && decide (l.length ≤ 8)
theorem sizesP_iff (l : List Int) : sizesP l = true ↔ (∀ s ∈ l, 1 ≤ s) ∧ l.length ≤ 8 := by
 unfold sizesP
 rw [Bool.and_eq_true, List.all_eq_true, decide_eq_true_iff]
 constructor
 ·rintro ⟨h1, h2⟩; exact ⟨fun s hs => of_decide_eq_true (h1 s hs), h2⟩
 ·rintro ⟨h1, h2⟩; exact ⟨fun s hs => decide_eq_true (h1 s hs), h2⟩
theorem sizes_loop (l : List Int) (hl : l.length ≤ 1048576) : ∀ (rest : List Int) (i : Nat), l.drop i = rest → i ≤ l.length → Ev (fun k => impl_sizesOk.l0 k l l (l.length : Int) (i : Int)) (rest.all (fun s => decide (1 ≤ s)) && decide (l.length ≤ 8))
 | [], i, hd, hi => by
  have he := drop_end hd hi
  refine Ev.succ ?_
  simp only [impl_sizesOk.l0]
  refine Ev.neg (by omega) ((Ev.ret _).to ?_)
  rw [List.all_nil, Bool.true_and, decide_eq_decide]
  omega
 | s :: rest, i, hd, hi => by
  obtain ⟨h1, h2, h3⟩ := drop_step 0 hd
  have er : rd l (i : Int) = s := h2
  refine Ev.succ ?_
  simp only [impl_sizesOk.l0, er]
  rw [wsucc i (by omega), List.all_cons]
  refine Ev.pos (by omega) (Ev.pos (by omega) (Ev.pos (by omega) ?_))
  by_cases c : s < 1
  ·refine Ev.pos c ((Ev.ret _).to ?_)
   rw [decide_eq_false (by omega), Bool.false_and, Bool.false_and]
  ·refine Ev.neg c ((sizes_loop l hl rest (i + 1) h3 (by omega)).to ?_)
   rw [decide_eq_true (show 1 ≤ s by omega), Bool.true_and]
theorem sizes_ev (l : List Int) (hl : l.length ≤ 1048576) : Ev (fun k => impl_sizesOk.f k l) (sizesP l) := by
 unfold impl_sizesOk.f sizesP
 exact sizes_loop l hl l 0 rfl (by omega)
theorem copyBank_loop (cs : List S41) (hs : Small cs) : ∀ (rest : List S41) (i : Nat) (acc : List S41), cs.drop i = rest → i ≤ cs.length → acc.length = i → Ev (fun k => impl_copyBank.l0 k acc cs (cs.length : Int) (i : Int)) (acc ++ rest)
 | [], i, acc, hd, hi, ha => by
  have he := drop_end hd hi
  have hl := hs.1
  refine Ev.succ ?_
  simp only [impl_copyBank.l0]
  exact Ev.neg (by omega) ((Ev.ret _).to (by simp))
 | c :: rest, i, acc, hd, hi, ha => by
  obtain ⟨h1, h2, h3⟩ := drop_step z41 hd
  have er : rd_T41 cs (i : Int) = c := h2
  have hc : c ∈ cs := by rw [← h2, getD_gen _ h1]; exact List.getElem_mem _
  have hcs := hs.2 c hc
  have hl := hs.1
  refine Ev.succ ?_
  simp only [impl_copyBank.l0, er]
  rw [wsucc i (by omega)]
  refine Ev.pos (by omega) (Ev.pos (by omega) (Ev.pos (by omega) (Ev.bind (copy_ev c.f0 c.f1 c.f2 (by omega) (by omega)) (Ev.pos (by omega) ?_))))
  refine (copyBank_loop cs hs rest (i + 1) (acc ++ [c]) h3 (by omega) (by simp [ha])).to ?_
  simp
theorem copyBank_ev (cs : List S41) (hs : Small cs) : Ev (fun k => impl_copyBank.f k cs) cs := by
 unfold impl_copyBank.f
 exact copyBank_loop cs hs cs 0 [] rfl (by omega) rfl
def heldP (cs : List S41) (sizes : List Int) : Int := if bankP cs = true ∧ sizesP sizes = true then (heldR sizes (roomsG (bankG 0 cs)) : Int) else 0
theorem roomsG_len (gs : List S50) : (roomsG gs).length = gs.length := List.length_map _
theorem rd_col {A B : List S41} {c : S41} {r : Int} (h : r = A.length) : rd_T41 (A ++ c :: B) r = c := by
 subst h
 show (A ++ c :: B).getD A.length _ = c
 rw [List.getD_eq_getElem?_getD, List.getElem?_append_right (Nat.le_refl _), Nat.sub_self]
 rfl
theorem set_col {A B : List S41} {c d : S41} {r : Int} (h : r = A.length) : (A ++ c :: B).set r.toNat d = A ++ d :: B := by
 subst h
 rw [Int.toNat_natCast, List.set_append_right _ _ (Nat.le_refl _), Nat.sub_self]
 rfl
theorem held_loop_ev (sizes : List Int) (hl : sizes.length ≤ 8) (hs1 : ∀ s ∈ sizes, 1 ≤ s) : ∀ (rest : List Int) (i : Nat) (cs : List S41), sizes.drop i = rest → i ≤ sizes.length → Geo cs →
  Ev (fun k => impl_HeldInOrder.l0 k sizes cs sizes (sizes.length : Int) (i : Int)) ((i : Int) + (heldR rest (roomsG (bankG 0 cs)) : Int))
 | [], i, cs, hd, hi, hgeo => by
  have he := drop_end hd hi
  refine Ev.succ ?_
  simp only [impl_HeldInOrder.l0]
  refine Ev.neg (by omega) ((Ev.ret _).to ?_)
  simp only [heldR]
  omega
 | s :: rest, i, cs, hd, hi, hgeo => by
  obtain ⟨h1, h2, h3⟩ := drop_step 0 hd
  have er : rd sizes (i : Int) = s := h2
  have hs : 1 ≤ s := hs1 s (by rw [← h2, getD_gen _ h1]; exact List.getElem_mem _)
  have hrest : ∀ x ∈ rest, 1 ≤ x := fun x hx => hs1 x (by
   have : x ∈ sizes.drop i := by rw [hd]; simp [hx]
   exact List.mem_of_mem_drop this)
  have hfl := hgeo.flat
  have hgl := bankG_len cs 0 hfl.box
  have hcl := hfl.len
  refine Ev.succ ?_
  simp only [impl_HeldInOrder.l0, er]
  refine Ev.pos (by omega) (Ev.pos (by omega) (Ev.pos (by omega) (Ev.bind (bankG_ev cs hfl) (Ev.bind (least_ev _ (by omega) s) ?_))))
  have eP : leastP s (bankG 0 cs) = leastW s none (bankG 0 cs) := by unfold leastP; rw [if_neg (by omega)]
  simp only [heldR]
  rw [eP]
  rcases leastW_none s (bankG 0 cs) with ⟨q1, q2⟩ | ⟨l1, g, l2, q0, q1, q2, q3, q4⟩
  ·rw [q1, least_minNo q2]
   exact Ev.neg (by simp [outG]) ((Ev.ret _).to (by simp))
  ·have hat : LeastAt s (bankG 0 cs) l1 g l2 := ⟨q0, q2, q3, q4⟩
   obtain ⟨m1, m2⟩ := least_min hs hat
   rw [q1, m1]
   dsimp only
   rw [m2]
   have hgm : g ∈ bankG 0 cs := by rw [q0]; simp
   obtain ⟨C1, c, C2, P, Q, A, R, B, h, e1, e2, e3, e4, e5, e6, e7, e8, e9, e10, e11, _⟩ := bank_put hgeo hgm (p := -1) (s := s) (by omega) hs q2
   have hni : g ∉ l1 := fun hin => by have := q3 g hin; omega
   obtain ⟨rfl, rfl⟩ := first_uniq (e3.symm.trans q0) e6 hni
   have hc : c ∈ cs := by rw [e1]; simp
   refine Ev.pos (by simp [outG]) ?_
   have x0 : (outG (some g)).1 = g.f0 := rfl
   have x1 : (outG (some g)).2.1 = g.f1 := rfl
   have x2 : (outG (some g)).2.2.1 = g.f2 := rfl
   rw [x0, x1, x2]
   have lc := congrArg List.length e1
   simp at lc
   have er2 : rd_T41 cs g.f0 = c := by rw [e1]; exact rd_col e2
   rw [er2]
   refine Ev.pos (by omega) (Ev.pos (by omega) (Ev.bind (placed_ev c.f0 c.f1 (hgeo.fix c hc) c.f2 (hfl.box c hc) (hfl.sz c hc) g.f0 g.f1 g.f2 (-1) s (by omega) (by omega) (by omega)) ?_))
   have es : cs.set g.f0.toNat ⟨c.f0, c.f1, fillD g.f1 (newB g.f1 g.f2 (-1) s) c.f2 (decs c.f1 [] [] c.f2)⟩ = C1 ++ putC g (-1) s c :: C2 := by
    rw [e1]; exact set_col e2
   dsimp only
   rw [es, wsucc i (by omega)]
   refine (held_loop_ev sizes hl hs1 rest (i + 1) _ h3 (by omega) e5).to ?_
   have hpos : ∀ x ∈ bankG 0 cs, 1 ≤ x.f2 := fun x hx => (bankG_pos cs 0 (fun d hd => by obtain ⟨y, y1, y2⟩ := hgeo.til d hd; exact ⟨y, y2, y1⟩) x hx).1
   have e : heldR rest (roomsG (bankG 0 (C1 ++ putC g (-1) s c :: C2))) = heldR rest (roomsG P ++ (g.f2 - s) :: roomsG Q) := by
    rw [← heldR_pos rest (roomsG P ++ (g.f2 - s) :: roomsG Q) hrest, e4]
    congr 1
    have fP : posR (roomsG P) = roomsG P := by
     unfold posR
     rw [List.filter_eq_self]
     intro x hx
     obtain ⟨y, hy, rfl⟩ := List.mem_map.mp hx
     have := hpos y (by rw [e3]; simp [hy])
     exact decide_eq_true (by omega)
    have fQ : posR (roomsG Q) = roomsG Q := by
     unfold posR
     rw [List.filter_eq_self]
     intro x hx
     obtain ⟨y, hy, rfl⟩ := List.mem_map.mp hx
     have := hpos y (by rw [e3]; simp [hy])
     exact decide_eq_true (by omega)
    have ea : posR (roomsG P ++ (g.f2 - s) :: roomsG Q) = posR (roomsG P) ++ posR ((g.f2 - s) :: roomsG Q) := by unfold posR; rw [List.filter_append]
    rw [ea, fP]
    unfold restG
    by_cases d : s < g.f2
    ·rw [if_pos d]
     have eb : posR ((g.f2 - s) :: roomsG Q) = (g.f2 - s) :: posR (roomsG Q) := by unfold posR; rw [List.filter_cons_of_pos (by simpa using d)]
     rw [eb, fQ]
     simp [roomsG]
    ·rw [if_neg d]
     have eb : posR ((g.f2 - s) :: roomsG Q) = posR (roomsG Q) := by unfold posR; rw [List.filter_cons_of_neg (by simpa using d)]
     rw [eb, fQ]
     simp [roomsG]
   rw [e]
   omega
theorem held_ev (cs : List S41) (hs : Small cs) (sizes : List Int) (hl : sizes.length ≤ 1048576) : Ev (fun k => impl_HeldInOrder.f k cs sizes) (heldP cs sizes) := by
 unfold impl_HeldInOrder.f
 have no : Ev (fun k => impl_HeldInOrder.j0 k cs sizes true) 0 := by
  refine Ev.succ ?_
  simp only [impl_HeldInOrder.j0]
  exact Ev.pos (by trivial) (Ev.ret _)
 refine Ev.bind (Ev.const rfl) ?_
 by_cases hb : bankP cs = true
 ·refine Ev.pos hb (Ev.bind (sizes_ev sizes hl) ?_)
  by_cases hz : sizesP sizes = true
  ·have e : heldP cs sizes = (heldR sizes (roomsG (bankG 0 cs)) : Int) := by unfold heldP; rw [if_pos ⟨hb, hz⟩]
   have hsz := (sizesP_iff sizes).mp hz
   have v := (bankP_iff cs).mp hb
   rw [e, hz]
   refine Ev.succ ?_
   simp only [impl_HeldInOrder.j0]
   refine Ev.neg (by simp) (Ev.bind (copyBank_ev cs hs) ?_)
   refine (held_loop_ev sizes hsz.2 hsz.1 sizes 0 cs rfl (by omega) (v.geo hs)).to ?_
   simp
  ·have e : heldP cs sizes = 0 := by unfold heldP; rw [if_neg (fun h => hz h.2)]
   have hz2 : sizesP sizes = false := by simpa using hz
   rw [e, hz2]
   exact no
 ·have e : heldP cs sizes = 0 := by unfold heldP; rw [if_neg (fun h => hb h.1)]
  rw [e]
  exact Ev.neg hb no
end Go.Proofs.Ytbpjidekjogfeaa.A

namespace Go.Proofs.Ytbpjidekjogfeaa.A
open Go.RowKit Go.Proofs.YtbpjidekjogfeaaW.PrintWords Go.Proofs.YtbpjidekjogfeaaW.PrintLast Go.Proofs.YtbpjidekjogfeaaW.PrintMore
set_option linter.unusedVariables false
set_option linter.unusedSimpArgs false
def tryP (s : Int) (rec : List Int → Option (List Int)) (rs : List Int) : Nat → List Int → Option (List Int)
 | 0, _ => none
 | m + 1, tr => if rs.getD (rs.length - (m + 1)) 0 < s ∨ rs.getD (rs.length - (m + 1)) 0 ∈ tr then tryP s rec rs m tr else match rec (rs.set (rs.length - (m + 1)) (rs.getD (rs.length - (m + 1)) 0 - s)) with | some l => some (((rs.length - (m + 1) : Nat) : Int) :: l) | none => tryP s rec rs m (rs.getD (rs.length - (m + 1)) 0 :: tr)
def spreadP : List Int → List Int → Option (List Int)
 | [], _ => some []
 | s :: ss, rs => tryP s (spreadP ss) rs rs.length []
theorem tryP_len (s : Int) (rec : List Int → Option (List Int)) (rs : List Int) (n : Nat) (h : ∀ r l, rec r = some l → l.length = n) : ∀ m tr l, tryP s rec rs m tr = some l → l.length = n + 1
 | 0, tr, l, e => by simp [tryP] at e
 | m + 1, tr, l, e => by
  unfold tryP at e
  split at e
  ·exact tryP_len s rec rs n h m _ l e
  ·split at e
   ·next l' hl => rw [← Option.some.inj e, List.length_cons, h _ _ hl]
   ·exact tryP_len s rec rs n h m _ l e
theorem spreadP_len : ∀ (ss rs l : List Int), spreadP ss rs = some l → l.length = ss.length
 | [], rs, l, e => by simp [spreadP] at e; rw [← e]
 | s :: ss, rs, l, e => tryP_len s _ rs ss.length (fun r l h => spreadP_len ss r l h) _ _ l e
def Feas : List Int → List Int → Prop
 | [], _ => True
 | s :: ss, rs => ∃ x rest, rs.Perm (x :: rest) ∧ s ≤ x ∧ Feas ss ((x - s) :: rest)
theorem Feas.perm : ∀ {ss rs rs' : List Int}, Feas ss rs → rs.Perm rs' → Feas ss rs'
 | [], _, _, _, _ => trivial
 | _ :: _, _, _, ⟨x, rest, h1, h2, h3⟩, hp => ⟨x, rest, hp.symm.trans h1, h2, h3⟩
theorem split_at (rs : List Int) (i : Nat) (hi : i < rs.length) (y : Int) : ∃ rest, rs.Perm (rs.getD i 0 :: rest) ∧ (rs.set i y).Perm (y :: rest) := by
 induction rs generalizing i with
 | nil => simp at hi
 | cons a t ih =>
  cases i with
  | zero => exact ⟨t, List.Perm.refl _, List.Perm.refl _⟩
  | succ j =>
   obtain ⟨rest, h1, h2⟩ := ih j (by simpa using hi)
   refine ⟨a :: rest, ?_, ?_⟩
   ·exact (List.Perm.cons a h1).trans (List.Perm.swap _ _ _)
   ·exact (List.Perm.cons a h2).trans (List.Perm.swap _ _ _)
theorem tryP_none (s : Int) (ss : List Int) (rec : List Int → Option (List Int)) (rs : List Int) (hr : ∀ r, (rec r).isSome = true ↔ Feas ss r) :
  ∀ m tr, m ≤ rs.length → (∀ x ∈ tr, ∀ rest, rs.Perm (x :: rest) → ¬ Feas ss ((x - s) :: rest)) → tryP s rec rs m tr = none → ∀ i, rs.length - m ≤ i → i < rs.length → s ≤ rs.getD i 0 → ∀ rest, rs.Perm (rs.getD i 0 :: rest) → ¬ Feas ss ((rs.getD i 0 - s) :: rest)
 | 0, tr, hm, ht, e, i, h1, h2, _, _, _ => by omega
 | m + 1, tr, hm, ht, e, i, h1, h2, h3, rest, hp => by
  unfold tryP at e
  have hlt : rs.length - (m + 1) < rs.length := by omega
  by_cases hi : i = rs.length - (m + 1)
  ·subst hi
   by_cases c : rs.getD (rs.length - (m + 1)) 0 < s ∨ rs.getD (rs.length - (m + 1)) 0 ∈ tr
   ·rcases c with c | c
    ·omega
    ·exact ht _ c rest hp
   ·rw [if_neg c] at e
    split at e
    ·simp at e
    ·next hn =>
     obtain ⟨rest', q1, q2⟩ := split_at rs _ hlt (rs.getD (rs.length - (m + 1)) 0 - s)
     intro hf
     have hpp : rest.Perm rest' := (hp.symm.trans q1).cons_inv
     have := (hr _).mpr (hf.perm (((List.Perm.cons _ hpp)).trans q2.symm))
     rw [hn] at this
     simp at this
  ·have hge : rs.length - m ≤ i := by omega
   by_cases c : rs.getD (rs.length - (m + 1)) 0 < s ∨ rs.getD (rs.length - (m + 1)) 0 ∈ tr
   ·rw [if_pos c] at e
    exact tryP_none s ss rec rs hr m tr (by omega) ht e i hge h2 h3 rest hp
   ·rw [if_neg c] at e
    split at e
    ·simp at e
    ·next hn =>
     refine tryP_none s ss rec rs hr m _ (by omega) (fun x hx rest2 hp2 hf => ?_) e i hge h2 h3 rest hp
     rcases List.mem_cons.mp hx with rfl | hx
     ·obtain ⟨rest', q1, q2⟩ := split_at rs _ hlt (rs.getD (rs.length - (m + 1)) 0 - s)
      have hpp : rest2.Perm rest' := (hp2.symm.trans q1).cons_inv
      have := (hr _).mpr (hf.perm (((List.Perm.cons _ hpp)).trans q2.symm))
      rw [hn] at this
      simp at this
     ·exact ht x hx rest2 hp2 hf
theorem tryP_some (s : Int) (ss : List Int) (rec : List Int → Option (List Int)) (rs : List Int) (hr : ∀ r, (rec r).isSome = true ↔ Feas ss r) :
  ∀ m tr l, m ≤ rs.length → tryP s rec rs m tr = some l → Feas (s :: ss) rs
 | 0, tr, l, hm, e => by simp [tryP] at e
 | m + 1, tr, l, hm, e => by
  unfold tryP at e
  by_cases c : rs.getD (rs.length - (m + 1)) 0 < s ∨ rs.getD (rs.length - (m + 1)) 0 ∈ tr
  ·rw [if_pos c] at e
   exact tryP_some s ss rec rs hr m tr l (by omega) e
  ·rw [if_neg c] at e
   split at e
   ·next l' hl =>
    obtain ⟨rest', q1, q2⟩ := split_at rs _ (show rs.length - (m + 1) < rs.length by omega) (rs.getD (rs.length - (m + 1)) 0 - s)
    exact ⟨_, rest', q1, by omega, ((hr _).mp (by rw [hl]; rfl)).perm q2⟩
   ·exact tryP_some s ss rec rs hr m _ l (by omega) e
theorem spread_feas : ∀ (ss rs : List Int), (spreadP ss rs).isSome = true ↔ Feas ss rs
 | [], rs => by simp [spreadP, Feas]
 | s :: ss, rs => by
  have ih := fun r => spread_feas ss r
  unfold spreadP
  constructor
  ·intro h
   obtain ⟨l, hl⟩ := Option.isSome_iff_exists.mp h
   exact tryP_some s ss _ rs ih _ _ l (Nat.le_refl _) hl
  ·intro ⟨x, rest, h1, h2, h3⟩
   cases e : tryP s (spreadP ss) rs rs.length [] with
   | some l => rfl
   | none =>
    have hx : x ∈ rs := h1.mem_iff.mpr List.mem_cons_self
    obtain ⟨i, hi, rfl⟩ := List.getElem_of_mem hx
    have eg : rs.getD i 0 = rs[i] := by rw [List.getD_eq_getElem?_getD, List.getElem?_eq_getElem hi]; rfl
    have := tryP_none s ss _ rs ih rs.length [] (Nat.le_refl _) (by simp) e i (by omega) hi (by rw [eg]; exact h2) rest (by rw [eg]; exact h1)
    rw [eg] at this
    exact absurd h3 this
def fill (s : Int) : List Int → Int
 | [] => 0
 | r :: rs => r / s + fill s rs
theorem fill_perm (s : Int) {a b : List Int} (h : a.Perm b) : fill s a = fill s b := by
 induction h with
 | nil => rfl
 | cons x _ ih => simp only [fill]; omega
 | swap x y l => simp only [fill]; omega
 | trans _ _ h1 h2 => exact h1.trans h2
theorem fill_ge (s : Int) (hs : 1 ≤ s) : ∀ (rs : List Int), (∀ r ∈ rs, 0 ≤ r) → 0 ≤ fill s rs
 | [], _ => by simp [fill]
 | r :: rs, h => by
  have h1 := fill_ge s hs rs (fun x hx => h x (List.mem_cons_of_mem _ hx))
  have h2 : 0 ≤ r / s := Int.ediv_nonneg (h r List.mem_cons_self) (by omega)
  simp only [fill]; omega
theorem fill_some (s : Int) (hs : 1 ≤ s) : ∀ (rs : List Int), (∀ r ∈ rs, 0 ≤ r) → 1 ≤ fill s rs → ∃ x ∈ rs, s ≤ x
 | [], _, h => by simp [fill] at h
 | r :: rs, hr, h => by
  by_cases c : s ≤ r
  ·exact ⟨r, List.mem_cons_self, c⟩
  ·have h0 : r / s = 0 := Int.ediv_eq_zero_of_lt (hr r List.mem_cons_self) (by omega)
   simp only [fill] at h
   obtain ⟨x, hx, h2⟩ := fill_some s hs rs (fun x hx => hr x (List.mem_cons_of_mem _ hx)) (by omega)
   exact ⟨x, List.mem_cons_of_mem _ hx, h2⟩
theorem fill_sub (s x : Int) (rest : List Int) (hs : 1 ≤ s) : fill s ((x - s) :: rest) = fill s (x :: rest) - 1 := by
 simp only [fill]
 have : (x - s) / s = x / s - 1 := by
  have h := Int.add_mul_ediv_right x (-1) (show s ≠ 0 by omega)
  rw [show x + -1 * s = x - s by omega] at h
  omega
 omega
def spreadR (o : Option (List Int)) (rs : List Int) : List Int × Bool × List Int := match o with | some l => (l, true, rs) | none => ([], false, rs)
theorem rd_nat (l : List Int) (i : Nat) : rd l (i : Int) = l.getD i 0 := rfl
theorem set_getD_ (l : List Int) (i : Nat) (h : i < l.length) (v : Int) : (l.set i v).getD i 0 = v := by
 rw [List.getD_eq_getElem?_getD, List.getElem?_set_self h]; rfl
theorem set_back_ (l : List Int) (i : Nat) (h : i < l.length) : l.set i (l.getD i 0) = l := by
 rw [List.getD_eq_getElem?_getD, List.getElem?_eq_getElem h]
 exact List.set_getElem_self h
theorem spread_loop (s : Int) (ss rs : List Int) (hs : 1 ≤ s) (hr : ∀ r ∈ rs, 0 ≤ r ∧ r ≤ 1000000000) (hl : rs.length ≤ 1000) (hss : ss.length ≤ 1000)
  (ih : ∀ r' : List Int, (∀ r ∈ r', 0 ≤ r ∧ r ≤ 1000000000) → r'.length ≤ 1000 → Ev (fun k => impl_spread.f k r' ss) (spreadR (spreadP ss r') r')) :
  ∀ (m : Nat) (tr : List Int) (i : Nat), m ≤ rs.length → i = rs.length - m → tr.length ≤ i → Ev (fun k => impl_spread.l0 k rs (s :: ss) (rs.length : Int) (i : Int) tr) (spreadR (tryP s (spreadP ss) rs m tr) rs)
 | 0, tr, i, hm, hi, ht => by
  refine Ev.succ ?_
  simp only [impl_spread.l0]
  exact Ev.neg (by omega) (Ev.ret _)
 | m + 1, tr, i, hm, hi, ht => by
  have hlt : i < rs.length := by omega
  have hx : rs.getD i 0 ∈ rs := by
   rw [List.getD_eq_getElem?_getD, List.getElem?_eq_getElem hlt]
   exact List.getElem_mem hlt
  have hb := hr _ hx
  have hc0 : (0 : Int) < ((s :: ss).length : Int) := by rw [List.length_cons]; omega
  have hw : wrap64 ((i : Int) + 1) = ((i + 1 : Nat) : Int) := wsucc i (by omega)
  refine Ev.succ ?_
  simp only [impl_spread.l0]
  refine Ev.pos (by omega) (Ev.pos (by omega) (Ev.pos (by omega) (Ev.pos ?_ (Ev.pos hc0 ?_))))
  ·rw [rd_nat]; exact ⟨by omega, by omega⟩
  rw [rd_nat, show rd (s :: ss) 0 = s from rfl]
  by_cases c : rs.getD i 0 < s
  ·refine Ev.pos c (Ev.succ ?_)
   simp only [impl_spread.j1]
   refine Ev.pos trivial ?_
   rw [hw]
   refine (spread_loop s ss rs hs hr hl hss ih m tr (i + 1) (by omega) (by omega) (by omega)).to ?_
   rw [tryP, ← hi, if_pos (Or.inl c)]
  ·refine Ev.neg c (Ev.succ ?_)
   simp only [impl_spread.j1]
   by_cases c2 : rs.getD i 0 ∈ tr
   ·refine Ev.pos (decide_eq_true c2) ?_
    rw [hw]
    refine (spread_loop s ss rs hs hr hl hss ih m tr (i + 1) (by omega) (by omega) (by omega)).to ?_
    rw [tryP, ← hi, if_pos (Or.inr c2)]
   ·refine Ev.neg (by rw [decide_eq_false c2]; simp) (Ev.pos (by omega) (Ev.pos (by omega) (Ev.pos hc0 ?_)))
    rw [rd_nat, show rd (s :: ss) 0 = s from rfl, show wrap64 (rs.getD i 0 - s) = rs.getD i 0 - s by unfold wrap64; omega, Int.toNat_natCast, show (s :: ss).drop 1 = ss from rfl]
    have hset : ∀ r ∈ rs.set i (rs.getD i 0 - s), 0 ≤ r ∧ r ≤ 1000000000 := by
     intro r h
     rcases List.mem_or_eq_of_mem_set h with h | h
     ·exact hr r h
     ·omega
    have hback : (rs.set i (rs.getD i 0 - s)).set i (wrap64 (rd (rs.set i (rs.getD i 0 - s)) (i : Int) + s)) = rs := by
     rw [rd_nat, set_getD_ rs i hlt, List.set_set, show wrap64 (rs.getD i 0 - s + s) = rs.getD i 0 by unfold wrap64; omega, set_back_ rs i hlt]
    refine Ev.bind (ih _ hset (by rw [List.length_set]; exact hl)) ?_
    cases e : spreadP ss (rs.set i (rs.getD i 0 - s)) with
    | some l =>
     have hle := spreadP_len ss _ l e
     refine Ev.of_eq (F := fun _ => some ((i : Int) :: l, true, rs)) ?_ ?_
     ·refine (Ev.ret _).to ?_
      rw [tryP, ← hi, if_neg (by intro h; rcases h with h | h; exact c h; exact c2 h), e]
      rfl
     ·intro k
      simp only [spreadR, Option.bind_some, if_true]
      refine Eq.trans (if_pos (by rw [List.length_singleton]; omega)) ?_
      rw [hback]
      rfl
    | none =>
     refine Ev.of_eq (F := fun k => impl_spread.l0 k rs (s :: ss) (rs.length : Int) (((i + 1 : Nat)) : Int) (rs.getD i 0 :: tr)) ?_ ?_
     ·refine (spread_loop s ss rs hs hr hl hss ih m (rs.getD i 0 :: tr) (i + 1) (by omega) (by omega) (by rw [List.length_cons]; omega)).to ?_
      rw [tryP, ← hi, if_neg (by intro h; rcases h with h | h; exact c h; exact c2 h), e]
     ·intro k
      simp only [spreadR, Option.bind_some, Bool.false_eq_true, if_false]
      rw [hw, hback]
theorem spread_ev : ∀ (ss rs : List Int), (∀ s ∈ ss, 1 ≤ s) → (∀ r ∈ rs, 0 ≤ r ∧ r ≤ 1000000000) → rs.length ≤ 1000 → ss.length ≤ 1000 → Ev (fun k => impl_spread.f k rs ss) (spreadR (spreadP ss rs) rs)
 | [], rs, hs, hr, hl, hss => by
  refine Ev.succ ?_
  simp only [impl_spread.f]
  exact Ev.pos rfl (Ev.ret _)
 | s :: ss, rs, hs, hr, hl, hss => by
  have hss' : ss.length ≤ 1000 := by rw [List.length_cons] at hss; omega
  refine Ev.succ ?_
  simp only [impl_spread.f]
  refine Ev.neg (by rw [List.length_cons]; omega) ?_
  exact spread_loop s ss rs (hs s List.mem_cons_self) hr hl hss' (fun r' h1 h2 => spread_ev ss r' (fun x hx => hs x (List.mem_cons_of_mem _ hx)) h1 h2 hss') rs.length [] 0 (Nat.le_refl _) (by omega) (by simp)
end Go.Proofs.Ytbpjidekjogfeaa.A

namespace Go.Proofs.Ytbpjidekjogfeaa.A
open Go.RowKit Go.Proofs.YtbpjidekjogfeaaW.PrintWords Go.Proofs.YtbpjidekjogfeaaW.PrintLast Go.Proofs.YtbpjidekjogfeaaW.PrintMore
set_option linter.unusedVariables false
set_option linter.unusedSimpArgs false
def buildB : List Int → Int → List S98
 | [], _ => []
 | f :: fs, low => ⟨low, wrap64 (f - low), 0, false⟩ :: buildB fs f
def newP (h : Int) (fx : List Int) : Int × List Int × List S98 × Bool :=
 if colP h fx (buildB (fx ++ [h]) 0) = true then (h, fx, buildB (fx ++ [h]) 0, true) else (0, [], [], false)
def goodW : List Int → Int → Bool
 | [], _ => true
 | f :: fs, low => decide (low < f) && (decide (f ≤ 24) && goodW fs f)
theorem tile_goodW : ∀ (l : List Int) (low hi : Int), (∀ f ∈ l, -9223372036854775808 ≤ f ∧ f ≤ 9223372036854775807) → 0 ≤ low → low ≤ 24 → hi ≤ 24 → tile low (buildB l low) hi → goodW l low = true
 | [], _, _, _, _, _, _, _ => rfl
 | f :: l, low, hi, hr, h0, h1, h2, ht => by
  simp only [buildB, tile] at ht
  obtain ⟨_, h3, h4⟩ := ht
  have hs := tile_sum _ _ _ h4
  have hf := hr f (by simp)
  have e2 : low + wrap64 (f - low) = f ∧ low < f ∧ f ≤ 24 := by
   have hlen : (0 : Int) ≤ (buildB l f).length := by omega
   have : low + wrap64 (f - low) ≤ 24 := by omega
   unfold wrap64 at h3 this ⊢
   omega
  rw [e2.1] at h4
  have ih := tile_goodW l f hi (fun g hg => hr g (by simp [hg])) (by omega) (by omega) h2 h4
  simp only [goodW, Bool.and_eq_true, decide_eq_true_eq]
  exact ⟨e2.2.1, e2.2.2, ih⟩
theorem getD_app_l {l : List Int} {s d : Int} {i : Nat} (hi : i < l.length) : (l ++ [s]).getD i d = l.getD i d := by
 rw [List.getD_eq_getElem?_getD, List.getD_eq_getElem?_getD, List.getElem?_append_left hi]
theorem getD_app_e {l : List Int} {s d : Int} {i : Nat} (hi : i = l.length) : (l ++ [s]).getD i d = s := by
 subst hi
 rw [List.getD_eq_getElem?_getD, List.getElem?_append_right (Nat.le_refl _), Nat.sub_self]; rfl
theorem newS_loop_ev (h : Int) (fx : List Int) (hf : fx.length ≤ 1048576) : ∀ (rest : List Int) (i : Nat) (low : Int) (acc : List S98), (fx ++ [h]).drop i = rest → i ≤ fx.length + 1 → acc.length = i →
  Ev (fun k => spec_NewColumn.l0 k h fx low (i : Int) h fx acc) (if goodW rest low = true ∧ colP h fx (acc ++ buildB rest low) = true then (h, fx, acc ++ buildB rest low, true) else (0, [], [], false))
 | [], i, low, acc, hd, hi, ha => by
  have he := drop_end hd (by simp; omega)
  simp at he
  refine Ev.succ ?_
  simp only [spec_NewColumn.l0, buildB, goodW, List.append_nil]
  refine Ev.neg (by omega) ?_
  refine Ev.bind (colok_ev h fx (by omega) acc (by omega)) ?_
  refine Ev.to (Ev.ite (fun _ => Ev.ret _) (fun _ => Ev.ret _)) ?_
  by_cases c : colP h fx acc = true
  ·rw [if_pos c, if_pos ⟨by trivial, c⟩]
  ·rw [if_neg c, if_neg (fun e => c e.2)]
 | f :: rest, i, low, acc, hd, hi, ha => by
  obtain ⟨h1, h2, h3⟩ := drop_step 0 hd
  simp at h1
  have ih := newS_loop_ev h fx hf rest (i + 1) f (acc ++ [⟨low, wrap64 (f - low), 0, false⟩]) h3 (by omega) (by simp [ha])
  rw [List.append_assoc] at ih
  refine Ev.succ ?_
  simp only [spec_NewColumn.l0]
  refine Ev.pos (by omega) ?_
  have step : ∀ {F : Nat → Option (Int × List Int × List S98 × Bool)}, Ev F (if goodW rest f = true ∧ colP h fx (acc ++ buildB (f :: rest) low) = true then (h, fx, acc ++ buildB (f :: rest) low, true) else (0, [], [], false)) →
    Ev (fun k => if f ≤ low then some (0, [], [], false) else if f > 24 then some (0, [], [], false) else if acc.length < 4398046511104 then F k else none) (if goodW (f :: rest) low = true ∧ colP h fx (acc ++ buildB (f :: rest) low) = true then (h, fx, acc ++ buildB (f :: rest) low, true) else (0, [], [], false)) := by
   intro F hF
   by_cases c1 : f ≤ low
   ·refine Ev.pos c1 ((Ev.ret _).to ?_)
    rw [if_neg (fun e => by have := e.1; simp only [goodW, Bool.and_eq_true, decide_eq_true_eq] at this; omega)]
   ·refine Ev.neg c1 ?_
    by_cases c2 : f > 24
    ·refine Ev.pos c2 ((Ev.ret _).to ?_)
     rw [if_neg (fun e => by have := e.1; simp only [goodW, Bool.and_eq_true, decide_eq_true_eq] at this; omega)]
    ·refine Ev.neg c2 (Ev.pos (by omega) (hF.to ?_))
     have e : goodW (f :: rest) low = goodW rest f := by
      simp only [goodW]
      rw [decide_eq_true (show low < f by omega), decide_eq_true (show f ≤ 24 by omega), Bool.true_and, Bool.true_and]
     rw [e]
  have ih2 : Ev (fun k => spec_NewColumn.l0 k h fx f ((i + 1 : Nat) : Int) h fx (acc ++ [⟨low, wrap64 (f - low), 0, false⟩])) (if goodW rest f = true ∧ colP h fx (acc ++ buildB (f :: rest) low) = true then (h, fx, acc ++ buildB (f :: rest) low, true) else (0, [], [], false)) := ih
  by_cases c : i < fx.length
  ·have er : rd fx (i : Int) = f := by rw [← h2, getD_app_l c]; rfl
   refine Ev.pos (by omega) (Ev.pos (by omega) ?_)
   rw [er, wsucc i (by omega)]
   exact step ih2
  ·have er : h = f := by rw [← h2, getD_app_e (by omega)]
   refine Ev.neg (by omega) ?_
   rw [wsucc i (by omega)]
   subst er
   exact step ih2
theorem newS_ev (h : Int) (fx : List Int) (hf : fx.length ≤ 1048576) (hh : -9223372036854775808 ≤ h ∧ h ≤ 9223372036854775807) (hr : ∀ f ∈ fx, -9223372036854775808 ≤ f ∧ f ≤ 9223372036854775807) : Ev (fun k => spec_NewColumn.f k h fx) (newP h fx) := by
 unfold spec_NewColumn.f
 refine Ev.bind (Ev.ret _) (Ev.pos (by simp; omega) ?_)
 rw [List.nil_append]
 refine (newS_loop_ev h fx hf (fx ++ [h]) 0 0 [] rfl (by omega) rfl).to ?_
 unfold newP
 rw [List.nil_append]
 by_cases c : colP h fx (buildB (fx ++ [h]) 0) = true
 ·have v := (colP_iff _ _ _).mp c
  rw [if_pos c, if_pos ⟨tile_goodW _ 0 h (fun f hf => by
   rcases List.mem_append.mp hf with hf | hf
   ·exact hr f hf
   ·rw [List.mem_singleton.mp hf]; exact hh) (by omega) (by omega) v.hi.2 v.til, c⟩]
 ·rw [if_neg c, if_neg (fun e => c e.2)]
end Go.Proofs.Ytbpjidekjogfeaa.A

namespace Go.Proofs.Ytbpjidekjogfeaa.A
open Go.RowKit Go.Proofs.YtbpjidekjogfeaaW.PrintWords Go.Proofs.YtbpjidekjogfeaaW.PrintLast Go.Proofs.YtbpjidekjogfeaaW.PrintMore
set_option linter.unusedVariables false
set_option linter.unusedSimpArgs false
theorem and255 (n : Int) : Go.bits .and .i64 n 255 = n % 256 := by
 have h255 : (BitVec.ofInt 64 255).toNat = 2 ^ 8 - 1 := by decide
 have key : (BitVec.ofInt 64 n &&& BitVec.ofInt 64 255).toNat = (n % ((2 ^ 64 : Nat) : Int)).toNat % 2 ^ 8 := by
  rw [BitVec.toNat_and, BitVec.toNat_ofInt, h255, Nat.and_two_pow_sub_one_eq_mod]
 show IntKind.i64.wrap ((BitVec.ofInt 64 n &&& BitVec.ofInt 64 255).toNat : Nat) = n % 256
 rw [key, IntKind.wrap_i64]
 omega
theorem new_loop (l : List Int) (hl : l.length ≤ 140737488351232) (d : Nat) : ∀ (k : Nat) (h i : Int), 0 ≤ i → (l.length : Int) - i ≤ d → d < k → ∃ h', spec_l01New.l0 k l h i = some (l, 0, h') := by
 induction d with
 | zero =>
  intro k h i h0 hd hk
  obtain ⟨k, rfl⟩ : ∃ m, k = m + 1 := ⟨k - 1, by omega⟩
  simp only [spec_l01New.l0]
  rw [if_neg (by omega)]
  exact ⟨_, rfl⟩
 | succ d ih =>
  intro k h i h0 hd hk
  obtain ⟨k, rfl⟩ : ∃ m, k = m + 1 := ⟨k - 1, by omega⟩
  simp only [spec_l01New.l0]
  by_cases h1 : i < (l.length : Int)
  ·rw [if_pos h1]
   by_cases h2 : i < 4000
   ·rw [if_pos h2, if_pos h0]
    have e : wrap64 (i + 1) = i + 1 := by unfold wrap64; omega
    rw [e]
    exact ih k _ _ (by omega) (by omega) (by omega)
   ·rw [if_neg h2]
    exact ⟨_, rfl⟩
  ·rw [if_neg h1]
   exact ⟨_, rfl⟩
theorem new_some (l : List Int) (hl : l.length ≤ 140737488351232) (k : Nat) (hk : l.length < k) : ∃ h', spec_l01New.f k l = some (l, 0, h') :=
 new_loop l hl l.length k _ 0 (by omega) (by omega) hk
theorem byte_some (l : List Int) (hl : l.length ≤ 140737488351232) (i h : Int) (hi : 0 ≤ i) : ∃ v i' h', spec_l01Byte.f l i h = some (v, i', h') ∧ 0 ≤ v ∧ v ≤ 255 ∧ 0 ≤ i' := by
 unfold spec_l01Byte.f
 simp only [and255]
 by_cases h1 : i < (l.length : Int)
 ·rw [if_pos h1, if_pos hi]
  have e : wrap64 (i + 1) = i + 1 := by unfold wrap64; omega
  rw [e]
  exact ⟨_, _, _, rfl, by omega, by omega, by omega⟩
 ·rw [if_neg h1]
  exact ⟨_, _, _, rfl, by omega, by omega, by omega⟩
theorem tmod_in (x n : Int) (hx : 0 ≤ x) (hn : 0 < n) : 0 ≤ Int.tmod x n ∧ Int.tmod x n < n :=
 ⟨Int.tmod_nonneg n hx, Int.tmod_lt_of_pos x hn⟩
theorem below_some (l : List Int) (hl : l.length ≤ 140737488351232) (i h n : Int) (hi : 0 ≤ i) : ∃ v i' h', spec_l01Below.f l i h n = some (v, i', h') ∧ 0 ≤ v ∧ (n ≤ 0 → v = 0) ∧ (0 < n → v < n) ∧ 0 ≤ i' := by
 unfold spec_l01Below.f
 by_cases h0 : n ≤ 0
 ·rw [if_pos h0]
  exact ⟨_, _, _, rfl, by omega, fun _ => rfl, fun _ => by omega, hi⟩
 ·rw [if_neg h0]
  have hne : ¬ n = 0 := by omega
  by_cases h1 : n ≤ 256
  ·rw [if_pos h1]
   obtain ⟨v, i1, x1, e1, a1, b1, c1⟩ := byte_some l hl i h hi
   rw [e1]
   simp only [Option.bind_some]
   rw [if_neg hne]
   exact ⟨_, _, _, rfl, (tmod_in v n a1 (by omega)).1, fun _ => by omega, fun _ => (tmod_in v n a1 (by omega)).2, c1⟩
  ·rw [if_neg h1]
   obtain ⟨v1, i1, x1, e1, a1, b1, c1⟩ := byte_some l hl i h hi
   rw [e1]
   simp only [Option.bind_some]
   obtain ⟨v2, i2, x2, e2, a2, b2, c2⟩ := byte_some l hl i1 x1 c1
   rw [e2]
   simp only [Option.bind_some]
   obtain ⟨v3, i3, x3, e3, a3, b3, c3⟩ := byte_some l hl i2 x2 c2
   rw [e3]
   simp only [Option.bind_some]
   obtain ⟨v4, i4, x4, e4, a4, b4, c4⟩ := byte_some l hl i3 x3 c3
   rw [e4]
   simp only [Option.bind_some]
   rw [if_neg hne]
   have w : wrap64 ((wrap64 ((wrap64 ((wrap64 (v1 * 16777216)) + (wrap64 (v2 * 65536)))) + (wrap64 (v3 * 256)))) + v4) = v1 * 16777216 + v2 * 65536 + v3 * 256 + v4 := by
    unfold wrap64; omega
   rw [w]
   exact ⟨_, _, _, rfl, (tmod_in _ n (by omega) (by omega)).1, fun _ => by omega, fun _ => (tmod_in _ n (by omega) (by omega)).2, c4⟩
theorem once_some (l : List Int) (hl : l.length ≤ 140737488351232) (i h n : Int) (hi : 0 ≤ i) : ∃ (b : Bool) (i' h' : Int), spec_l01Once.f l i h n = some (b, i', h') ∧ 0 ≤ i' := by
 obtain ⟨v, i1, x1, e1, _, _, _, c1⟩ := below_some l hl i h n hi
 unfold spec_l01Once.f
 rw [e1]
 exact ⟨_, _, _, rfl, c1⟩
theorem new_none {h : Int} (hh : 1 ≤ h ∧ h ≤ 24) : newP h [] = (h, [], [⟨0, h, 0, false⟩], true) := by
 have e : buildB ([] ++ [h]) 0 = [⟨0, h, 0, false⟩] := by
  show [(S98.mk 0 (wrap64 (h - 0)) 0 false)] = _
  rw [wid (h - 0) (by omega) (by omega)]
  simp
 unfold newP
 rw [e, if_pos]
 rw [colP_iff]
 exact ⟨hh, ⟨rfl, hh.1, by show 0 + h = h; omega⟩, by simp [parcs], rfl, by simp⟩
theorem new_one {h x : Int} (hh : 1 ≤ h ∧ h ≤ 24) (hx : 1 ≤ x ∧ x ≤ h - 1) : newP h [x] = (h, [x], [⟨0, x, 0, false⟩, ⟨x, h - x, 0, false⟩], true) := by
 have e : buildB ([x] ++ [h]) 0 = [⟨0, x, 0, false⟩, ⟨x, h - x, 0, false⟩] := by
  show [(S98.mk 0 (wrap64 (x - 0)) 0 false), (S98.mk x (wrap64 (h - x)) 0 false)] = _
  rw [wid (x - 0) (by omega) (by omega), wid (h - x) (by omega) (by omega)]
  simp
 unfold newP
 rw [e, if_pos]
 rw [colP_iff]
 refine ⟨hh, ⟨rfl, by show 1 ≤ x; omega, by show x = 0 + x; omega, by show 1 ≤ h - x; omega, by show 0 + x + (h - x) = h; omega⟩, by simp [parcs], ?_, ?_⟩
 ·simp [fixP, hx]
 ·intro f hf
  rw [List.mem_singleton.mp hf]
  exact ⟨⟨x, h - x, 0, false⟩, by simp, rfl⟩
theorem col_loop (l : List Int) (hl : l.length ≤ 140737488351232) (first height : Int) (hfirst : 0 ≤ first ∧ first ≤ 1000) : ∀ (n : Nat) (i y h : Int) (fx : List Int) (bx : List S98), n ≤ 100 → 0 ≤ i → fx.length ≤ 1 → ColV h fx bx → Par first bx →
  ∃ bx' i' y', Ev (fun k => spec_l02Column.l0 k first height (n : Int) l i y h fx bx) (h, fx, bx', i', y') ∧ ColV h fx bx' ∧ Par first bx' ∧ 0 ≤ i'
 | 0, i, y, h, fx, bx, _, hi, hf, v, hp => by
  refine ⟨bx, i, y, Ev.succ ?_, v, hp, hi⟩
  simp only [spec_l02Column.l0]
  exact Ev.neg (by omega) (Ev.ret _)
 | n + 1, i, y, h, fx, bx, hn, hi, hf, v, hp => by
  have hlen := v.len
  obtain ⟨a, i1, y1, e1, a0, _, a1, c1⟩ := below_some l hl i y 6 hi
  have a1 := a1 (by omega)
  obtain ⟨o, i2, y2, e2, o0, _, o1, c2⟩ := below_some l hl i1 y1 6 c1
  have ew : wrap64 (first + a) = first + a := wid _ (by omega) (by omega)
  have en : wrap64 (((n + 1 : Nat) : Int) - 1) = (n : Int) := by unfold wrap64; omega
  have go : ∀ s : Bool, ∃ bx' i' y', Ev (fun k => spec_l02Column.j2 k first height ((n + 1 : Nat) : Int) (first + a) o s l i2 y2 h fx bx) (h, fx, bx', i', y') ∧ ColV h fx bx' ∧ Par first bx' ∧ 0 ≤ i' := by
   intro s
   cases s with
   | true =>
    obtain ⟨bx', i', y', h1, h2, h3, h4⟩ := col_loop l hl first height hfirst n i2 y2 h fx _ (by omega) c2 hf (takeP_v v (first + a)) (takeP_par hp (first + a))
    refine ⟨bx', i', y', Ev.succ ?_, h2, h3, h4⟩
    simp only [spec_l02Column.j2]
    rw [en]
    exact Ev.pos (by trivial) (Ev.bind (takeS_ev h fx bx (by omega) (by omega) _) h1)
   | false =>
    by_cases c : o = 2
    ·obtain ⟨u, i3, y3, e3, _, _, _, c3⟩ := below_some l hl i2 y2 height c2
     obtain ⟨j, i4, y4, e4, c4⟩ := once_some l hl i3 y3 3 c3
     obtain ⟨bx', i', y', h1, h2, h3, h4⟩ := col_loop l hl first height hfirst n i4 y4 h fx _ (by omega) c4 hf (jamP_v v u j) (jamP_par hp u j)
     refine ⟨bx', i', y', Ev.succ ?_, h2, h3, h4⟩
     simp only [spec_l02Column.j2]
     rw [en]
     exact Ev.neg (by simp) (Ev.pos c (Ev.bind (Ev.const e3) (Ev.bind (Ev.const e4) (Ev.bind (jamS_ev h fx bx (by omega) (by omega) u j) h1))))
    ·obtain ⟨z, i3, y3, e3, z0, _, z1, c3⟩ := below_some l hl i2 y2 4 c2
     have z1 := z1 (by omega)
     have ez : wrap64 (1 + z) = 1 + z := wid _ (by omega) (by omega)
     obtain ⟨bx', i', y', h1, h2, h3, h4⟩ := col_loop l hl first height hfirst n i3 y3 h fx _ (by omega) c3 hf (putP_v v (first + a) (1 + z)) (putP_par (h := h) (fx := fx) hp (first + a) (1 + z) (by omega))
     refine ⟨bx', i', y', Ev.succ ?_, h2, h3, h4⟩
     simp only [spec_l02Column.j2]
     rw [en]
     refine Ev.neg (by simp) (Ev.neg c (Ev.bind (Ev.const e3) ?_))
     dsimp only
     rw [ez]
     exact Ev.bind (putS_ev (by omega) (by omega) _ _) h1
  obtain ⟨bx', i', y', h1, h2, h3, h4⟩ := go (if o = 0 then (o == 0) else (o == 1))
  refine ⟨bx', i', y', Ev.succ ?_, h2, h3, h4⟩
  simp only [spec_l02Column.l0]
  refine Ev.pos (by omega) (Ev.bind (Ev.const e1) (Ev.bind (Ev.const e2) ?_))
  dsimp only
  rw [ew]
  by_cases c : o = 0
  ·rw [if_pos c] at h1
   exact Ev.pos c h1
  ·rw [if_neg c] at h1
   exact Ev.neg c h1
theorem column_draw (l : List Int) (hl : l.length ≤ 140737488351232) (i y first : Int) (hfirst : 0 ≤ first ∧ first ≤ 1000) (hi : 0 ≤ i) :
  ∃ h fx bx i' y', Ev (fun k => spec_l02Column.f k l i y first) (h, fx, bx, i', y') ∧ ColV h fx bx ∧ Par first bx ∧ fx.length ≤ 1 ∧ 0 ≤ i' := by
 obtain ⟨a, i1, y1, e1, a0, _, a1, c1⟩ := below_some l hl i y 9 hi
 have a1 := a1 (by omega)
 obtain ⟨b, i2, y2, e2, c2⟩ := once_some l hl i1 y1 2 c1
 have ew : wrap64 (4 + a) = 4 + a := wid _ (by omega) (by omega)
 have fin : ∀ (i3 y3 : Int) (fx : List Int) (bx : List S98), 0 ≤ i3 → fx.length ≤ 1 → (∀ x ∈ fx, 1 ≤ x ∧ x ≤ 4 + a - 1) → newP (4 + a) fx = (4 + a, fx, bx, true) → ∃ bx' i' y', Ev (fun k => spec_l02Column.j0 k first (4 + a) fx l i3 y3) (4 + a, fx, bx', i', y') ∧ ColV (4 + a) fx bx' ∧ Par first bx' ∧ 0 ≤ i' := by
  intro i3 y3 fx bx hi3 hfx hr hnew
  obtain ⟨n, i4, y4, e4, n0, _, n1, c4⟩ := below_some l hl i3 y3 7 hi3
  have n1 := n1 (by omega)
  have hv : ColV (4 + a) fx bx := by
   have h0 := hnew
   unfold newP at h0
   split at h0
   ·next hc =>
    have h0 := congrArg (fun z : Int × List Int × List S98 × Bool => z.2.2.1) h0
    dsimp only at h0
    rw [h0] at hc
    exact (colP_iff _ _ _).mp hc
   ·simp at h0
  have hb0 : ∀ x ∈ bx, x.f2 = 0 := by
   have h0 := hnew
   unfold newP at h0
   split at h0
   ·have h0 := congrArg (fun z : Int × List Int × List S98 × Bool => z.2.2.1) h0
    dsimp only at h0
    rw [← h0]
    have bz : ∀ (ws : List Int) (low : Int), ∀ x ∈ buildB ws low, x.f2 = 0 := by
     intro ws
     induction ws with
     | nil => intro low x hx; simp [buildB] at hx
     | cons w ws ih =>
      intro low x hx
      rw [buildB] at hx
      rcases List.mem_cons.mp hx with rfl | hx
      ·rfl
      ·exact ih w x hx
    exact bz _ _
   ·simp at h0
  obtain ⟨bx', i', y', h1, h2, h3, h4⟩ := col_loop l hl first (4 + a) hfirst n.toNat i4 y4 (4 + a) fx bx (by omega) c4 hfx hv (fun x hx => Or.inl (hb0 x hx))
  rw [show ((n.toNat : Nat) : Int) = n by omega] at h1
  refine ⟨bx', i', y', Ev.succ ?_, h2, h3, h4⟩
  simp only [spec_l02Column.j0]
  have hN := newS_ev (4 + a) fx (by omega) (by omega) (fun x hx => by have := hr x hx; omega)
  rw [hnew] at hN
  exact Ev.bind hN (Ev.bind (Ev.const e4) h1)
 cases b with
 | false =>
  obtain ⟨bx', i', y', h1, h2, h3, h4⟩ := fin i2 y2 [] _ c2 (by simp) (by simp) (new_none (by omega))
  refine ⟨4 + a, [], bx', i', y', ?_, h2, h3, by simp, h4⟩
  unfold spec_l02Column.f
  refine Ev.bind (Ev.const e1) (Ev.bind (Ev.ret _) (Ev.bind (Ev.const e2) (Ev.neg (by simp) ?_)))
  dsimp only
  rw [ew]
  exact h1
 | true =>
  obtain ⟨x, i3, y3, e3, x0, _, x1, c3⟩ := below_some l hl i2 y2 (4 + a - 2) c2
  have x1 := x1 (by omega)
  have ex : wrap64 (1 + x) = 1 + x := wid _ (by omega) (by omega)
  have e22 : wrap64 (4 + a - 2) = 4 + a - 2 := wid _ (by omega) (by omega)
  obtain ⟨bx', i', y', h1, h2, h3, h4⟩ := fin i3 y3 [1 + x] _ c3 (by simp) (fun z hz => by rw [List.mem_singleton.mp hz]; omega) (new_one (by omega) (by omega))
  refine ⟨4 + a, [1 + x], bx', i', y', ?_, h2, h3, by simp, h4⟩
  unfold spec_l02Column.f
  refine Ev.bind (Ev.const e1) (Ev.bind (Ev.ret _) (Ev.bind (Ev.const e2) (Ev.pos (by trivial) ?_)))
  dsimp only
  rw [ew, e22]
  refine Ev.bind (Ev.const e3) (Ev.pos (by simp) ?_)
  dsimp only
  rw [ex]
  exact h1
theorem newEv_loop (l : List Int) (hl : l.length ≤ 140737488351232) : ∀ (d : Nat) (h i : Int), 0 ≤ i → (l.length : Int) - i ≤ d → ∃ h', Ev (fun k => spec_l01New.l0 k l h i) (l, 0, h')
 | 0, h, i, h0, hd => by
  refine ⟨h, Ev.succ ?_⟩
  simp only [spec_l01New.l0]
  exact Ev.neg (by omega) (Ev.ret _)
 | d + 1, h, i, h0, hd => by
  by_cases h1 : i < (l.length : Int)
  ·by_cases h2 : i < 4000
   ·have e : wrap64 (i + 1) = i + 1 := by unfold wrap64; omega
    obtain ⟨h', hh⟩ := newEv_loop l hl d (Go.bits .and .i64 (wrap64 ((wrap64 ((wrap64 (h * 131)) + (wrap64 (rd l i)))) + 7)) 1073741823) (i + 1) (by omega) (by omega)
    refine ⟨h', Ev.succ ?_⟩
    simp only [spec_l01New.l0, e]
    exact Ev.pos h1 (Ev.pos h2 (Ev.pos h0 hh))
   ·refine ⟨h, Ev.succ ?_⟩
    simp only [spec_l01New.l0]
    exact Ev.pos h1 (Ev.neg h2 (Ev.ret _))
  ·refine ⟨h, Ev.succ ?_⟩
   simp only [spec_l01New.l0]
   exact Ev.neg h1 (Ev.ret _)
theorem new_draw (l : List Int) (hl : l.length ≤ 140737488351232) : ∃ h', Ev (fun k => spec_l01New.f k l) (l, 0, h') :=
 newEv_loop l hl l.length _ 0 (by omega) (by omega)
end Go.Proofs.Ytbpjidekjogfeaa.A

namespace Go.Proofs.Ytbpjidekjogfeaa.A
open Go.RowKit Go.Proofs.YtbpjidekjogfeaaW.PrintWords Go.Proofs.YtbpjidekjogfeaaW.PrintLast Go.Proofs.YtbpjidekjogfeaaW.PrintMore
set_option linter.unusedVariables false
set_option linter.unusedSimpArgs false
def canP (cs : List S41) (sizes : List Int) : Bool := bankP cs && sizesP sizes && (spreadP sizes (roomsG (bankG 0 cs))).isSome
def placesR (o : Option (List Int)) : List Int × Bool := match o with | some l => (l, true) | none => ([], false)
theorem places_loop_ev (sizes : List Int) (gs : List S50) (hl : gs.length ≤ 144) (hp : ∀ g ∈ gs, 0 ≤ g.f2 ∧ g.f2 ≤ 24) (hs : ∀ s ∈ sizes, 1 ≤ s) (hz : sizes.length ≤ 8) : ∀ (rest : List S50) (i : Nat), gs.drop i = rest → i ≤ gs.length →
  Ev (fun k => impl_PlacesFor.l0 k sizes (roomsG (gs.take i)) gs (gs.length : Int) (i : Int)) (placesR (spreadP sizes (roomsG gs)))
 | [], i, hd, hi => by
  have he := drop_end hd hi
  refine Ev.succ ?_
  simp only [impl_PlacesFor.l0]
  rw [show gs.take i = gs from List.take_of_length_le (by omega)]
  refine Ev.neg (by omega) (Ev.bind (spread_ev sizes (roomsG gs) hs (fun r hr => ?_) (by rw [roomsG_len]; omega) (by omega)) ((Ev.ret _).to ?_))
  ·obtain ⟨g, hg, rfl⟩ := List.mem_map.mp hr
   have := hp g hg
   omega
  ·cases spreadP sizes (roomsG gs) <;> rfl
 | g :: rest, i, hd, hi => by
  obtain ⟨h1, h2, h3⟩ := drop_step z50 hd
  have er : rd_T50 gs (i : Int) = g := h2
  have hlt : i < gs.length := h1
  refine Ev.succ ?_
  simp only [impl_PlacesFor.l0, er]
  rw [wsucc i (by omega)]
  refine Ev.pos (by omega) (Ev.pos (by omega) (Ev.pos (by omega) (Ev.pos ?_ ?_)))
  ·rw [roomsG_len, List.length_take]; omega
  ·refine (places_loop_ev sizes gs hl hp hs hz rest (i + 1) h3 (by omega)).of_eq (fun k => ?_)
   have eg : gs[i]? = some g := by
    have := congrArg (fun l => l[0]?) hd
    simpa [List.getElem?_drop] using this
   rw [List.take_add_one, eg]
   simp [roomsG]
theorem can_ev (cs : List S41) (hs : Small cs) (sizes : List Int) (hl : sizes.length ≤ 1048576) : Ev (fun k => impl_CanHold.f k cs sizes) (canP cs sizes) := by
 unfold impl_CanHold.f
 have no : Ev (fun k => impl_PlacesFor.j0 k cs sizes true) ([], false) := by
  refine Ev.succ ?_
  simp only [impl_PlacesFor.j0]
  exact Ev.pos (by trivial) (Ev.ret _)
 have key : Ev (fun k => impl_PlacesFor.f k cs sizes) (if bankP cs = true ∧ sizesP sizes = true then placesR (spreadP sizes (roomsG (bankG 0 cs))) else ([], false)) := by
  unfold impl_PlacesFor.f
  refine Ev.bind (Ev.const rfl) ?_
  by_cases hb : bankP cs = true
  ·refine Ev.pos hb (Ev.bind (sizes_ev sizes hl) ?_)
   by_cases hz : sizesP sizes = true
   ·have hsz := (sizesP_iff sizes).mp hz
    have v := (bankP_iff cs).mp hb
    rw [if_pos ⟨hb, hz⟩, hz]
    refine Ev.succ ?_
    simp only [impl_PlacesFor.j0]
    have e : bankGP cs = bankG 0 cs := by unfold bankGP; rw [if_pos hb]
    refine Ev.neg (by simp) (Ev.bind (bankG_ev cs (v.flat hs)) ?_)
    exact places_loop_ev sizes (bankG 0 cs) (e ▸ bankGP_len cs) (fun g hg => by have := bankGP_pos cs g (e ▸ hg); omega) hsz.1 hsz.2 _ 0 rfl (by omega)
   ·rw [if_neg (fun h => hz h.2), show sizesP sizes = false by simpa using hz]
    exact no
  ·rw [if_neg (fun h => hb h.1)]
   exact Ev.neg hb no
 refine Ev.bind key ((Ev.ret _).to ?_)
 unfold canP
 by_cases h : bankP cs = true ∧ sizesP sizes = true
 ·rw [if_pos h, h.1, h.2]
  cases spreadP sizes (roomsG (bankG 0 cs)) <;> rfl
 ·rw [if_neg h]
  by_cases hb : bankP cs = true
  ·rw [hb, show sizesP sizes = false by simpa using fun hz => h ⟨hb, hz⟩]; rfl
  ·rw [show bankP cs = false by simpa using hb]; rfl
def DrawnB (cs : List S41) : Prop := ∀ (j : Nat) (c : S41), cs[j]? = some c → ColV c.f0 c.f1 c.f2 ∧ Par (1 + 6 * (j : Int)) c.f2 ∧ c.f1.length ≤ 1
theorem DrawnB.app {cs : List S41} (h : DrawnB cs) {c : S41} (h1 : ColV c.f0 c.f1 c.f2) (h2 : Par (1 + 6 * (cs.length : Int)) c.f2) (h3 : c.f1.length ≤ 1) : DrawnB (cs ++ [c]) := by
 intro j d e
 by_cases hj : j < cs.length
 ·rw [List.getElem?_append_left hj] at e
  exact h j d e
 ·rw [List.getElem?_append_right (by omega)] at e
  by_cases hz : j - cs.length = 0
  ·rw [hz] at e
   have e2 : c = d := by simpa using e
   subst e2
   rw [show j = cs.length by omega]
   exact ⟨h1, h2, h3⟩
  ·rw [List.getElem?_eq_none (by simp; omega)] at e
   cases e
theorem DrawnB.bank {cs : List S41} (h : DrawnB cs) (hl : 1 ≤ cs.length ∧ cs.length ≤ 3) : BankV cs ∧ Small cs := by
 have hm : ∀ c ∈ cs, ∃ j : Nat, cs[j]? = some c := by
  intro c hc
  obtain ⟨j, hj, e⟩ := List.getElem_of_mem hc
  exact ⟨j, by rw [List.getElem?_eq_getElem hj, e]⟩
 refine ⟨⟨by omega, fun c hc => ?_, ?_⟩, by omega, fun c hc => ?_⟩
 ·obtain ⟨j, e⟩ := hm c hc
  exact (colP_iff _ _ _).mpr (h j c e).1
 ·rw [List.pairwise_iff_getElem]
  intro i j hi hj hij a ha b hb h0 e
  have p1 := (h i _ (List.getElem?_eq_getElem hi)).2.1 a ha
  have p2 := (h j _ (List.getElem?_eq_getElem hj)).2.1 b hb
  omega
 ·obtain ⟨j, e⟩ := hm c hc
  obtain ⟨v, _, h3⟩ := h j c e
  have := v.len
  omega
theorem bank_loop (l : List Int) (hl : l.length ≤ 140737488351232) : ∀ (n : Nat) (cs : List S41) (i y : Int), cs.length + n ≤ 3 → 0 ≤ i → DrawnB cs →
  ∃ out i' y', Ev (fun k => spec_l02Bank.l0 k cs (n : Int) l i y) (out, i', y') ∧ DrawnB out ∧ out.length = cs.length + n ∧ 0 ≤ i'
 | 0, cs, i, y, hn, hi, hd => by
  refine ⟨cs, i, y, Ev.succ ?_, hd, by omega, hi⟩
  simp only [spec_l02Bank.l0]
  exact Ev.neg (by omega) (Ev.ret _)
 | n + 1, cs, i, y, hn, hi, hd => by
  obtain ⟨h, fx, bx, i1, y1, e1, v, hp, hf, h1⟩ := column_draw l hl i y (1 + 6 * (cs.length : Int)) (by omega) hi
  obtain ⟨out, i2, y2, e2, g1, g2, g3⟩ := bank_loop l hl n (cs ++ [⟨h, fx, bx⟩]) i1 y1 (by rw [List.length_append, List.length_singleton]; omega) h1 (hd.app (c := ⟨h, fx, bx⟩) v hp hf)
  refine ⟨out, i2, y2, Ev.succ ?_, g1, by rw [g2, List.length_append, List.length_singleton]; omega, g3⟩
  simp only [spec_l02Bank.l0]
  rw [wid (6 * (cs.length : Int)) (by omega) (by omega), wid (1 + 6 * (cs.length : Int)) (by omega) (by omega), wpred (n + 1) (by omega) (by omega), show n + 1 - 1 = n from rfl]
  refine Ev.pos (by omega) (Ev.bind e1 (Ev.pos (by omega) e2))
theorem bank_draw (l : List Int) (hl : l.length ≤ 140737488351232) : ∃ cs, Ev (fun k => spec_DrawBank.f k l) cs ∧ BankV cs ∧ Small cs := by
 obtain ⟨y0, e0⟩ := new_draw l hl
 obtain ⟨v, i1, y1, e1, a0, _, a1, c1⟩ := below_some l hl 0 y0 3 (by omega)
 have a1 := a1 (by omega)
 obtain ⟨out, i2, y2, e2, g1, g2, g3⟩ := bank_loop l hl (1 + v.toNat) [] i1 y1 (by simp; omega) c1 (fun j c e => by simp at e)
 obtain ⟨b1, b2⟩ := g1.bank (by rw [g2, List.length_nil]; omega)
 refine ⟨out, ?_, b1, b2⟩
 unfold spec_DrawBank.f
 refine Ev.bind e0 (Ev.bind (a := (out, i2, y2)) ?_ (Ev.ret _))
 unfold spec_l02Bank.f
 refine Ev.bind (Ev.const e1) ?_
 rw [wid (1 + v) (by omega) (by omega), show 1 + v = ((1 + v.toNat : Nat) : Int) by omega]
 exact e2
end Go.Proofs.Ytbpjidekjogfeaa.A

namespace Go.Proofs.Ytbpjidekjogfeaa.A
open Go.RowKit Go.Proofs.YtbpjidekjogfeaaW.PrintWords Go.Proofs.YtbpjidekjogfeaaW.PrintLast Go.Proofs.YtbpjidekjogfeaaW.PrintMore
set_option linter.unusedVariables false
set_option linter.unusedSimpArgs false
def mostL (size : Int) : List S50 → Int
 | [] => 0
 | g :: l => Int.tdiv g.f2 size + mostL size l
theorem tdiv_in {a n M : Int} (h0 : 0 ≤ a) (h1 : a ≤ M) (h2 : 1 ≤ n) : 0 ≤ Int.tdiv a n ∧ Int.tdiv a n ≤ M := by
 rw [Int.tdiv_eq_ediv_of_nonneg h0]
 exact ⟨Int.ediv_nonneg h0 (by omega), Int.le_trans (Int.ediv_le_self n h0) h1⟩
theorem mostL_in (size : Int) (hs : 1 ≤ size) : ∀ (l : List S50), (∀ g ∈ l, 1 ≤ g.f2 ∧ g.f2 ≤ 24) → 0 ≤ mostL size l ∧ mostL size l ≤ 24 * l.length
 | [], _ => by simp [mostL]
 | g :: l, h => by
  have h1 := h g (by simp)
  have h2 := tdiv_in (M := 24) (show 0 ≤ g.f2 by omega) h1.2 hs
  have h3 := mostL_in size hs l (fun x hx => h x (by simp [hx]))
  rw [mostL, List.length_cons]
  omega
theorem most_loop (size : Int) (hs : 1 ≤ size) (l : List S50) (hl : l.length ≤ 144) (hp : ∀ g ∈ l, 1 ≤ g.f2 ∧ g.f2 ≤ 24) : ∀ (rest : List S50) (i : Nat) (n : Int), l.drop i = rest → i ≤ l.length → 0 ≤ n → n ≤ 24 * i → Ev (fun k => impl_MostOf.l0 k size n l (l.length : Int) (i : Int)) (n + mostL size rest)
 | [], i, n, hd, hi, h0, h1 => by
  have he := drop_end hd hi
  refine Ev.succ ?_
  simp only [impl_MostOf.l0]
  exact Ev.neg (by omega) ((Ev.ret _).to (by simp [mostL]))
 | g :: rest, i, n, hd, hi, h0, h1 => by
  obtain ⟨h2, h3, h4⟩ := drop_step z50 hd
  have er : rd_T50 l (i : Int) = g := h3
  have hg : g ∈ l := by rw [← h3, getD_gen _ h2]; exact List.getElem_mem _
  have h5 := hp g hg
  have h6 := tdiv_in (M := 24) (show 0 ≤ g.f2 by omega) h5.2 hs
  refine Ev.succ ?_
  simp only [impl_MostOf.l0, er]
  rw [wsucc i (by omega), wid (Int.tdiv g.f2 size) (by omega) (by omega), wid (n + Int.tdiv g.f2 size) (by omega) (by omega)]
  refine Ev.pos (by omega) (Ev.pos (by omega) (Ev.pos (by omega) (Ev.neg (by omega) ((most_loop size hs l hl hp rest (i + 1) _ h4 (by omega) (by omega) (by omega)).to ?_))))
  rw [mostL]
  omega
def mostP (cs : List S41) (size : Int) : Int := if 1 ≤ size then mostL size (bankGP cs) else 0
theorem most_ev (cs : List S41) (hs : Small cs) (size : Int) : Ev (fun k => impl_MostOf.f k cs size) (mostP cs size) := by
 unfold impl_MostOf.f mostP
 by_cases c : 1 ≤ size
 ·rw [if_pos c]
  refine Ev.pos c (Ev.bind (bankGaps_ev cs hs) ?_)
  refine (most_loop size c _ (bankGP_len cs) (bankGP_pos cs) _ 0 0 rfl (by omega) (by omega) (by omega)).to ?_
  rw [Int.zero_add]
  rfl
 ·rw [if_neg c]
  exact Ev.neg (by omega) (Ev.ret _)
end Go.Proofs.Ytbpjidekjogfeaa.A

namespace Go.Proofs.Ytbpjidekjogfeaa.A
open Go.RowKit Go.Proofs.YtbpjidekjogfeaaW.PrintWords Go.Proofs.YtbpjidekjogfeaaW.PrintLast Go.Proofs.YtbpjidekjogfeaaW.PrintMore
set_option linter.unusedVariables false
set_option linter.unusedSimpArgs false
theorem places_loop (l : List Int) (hl : l.length ≤ 140737488351232) : ∀ (d k : Nat) (out : List Int) (n i h : Int), 0 ≤ n → (12 - n).toNat = d → (out.length : Int) = n → n ≤ 12 → d < k → 0 ≤ i → (∀ x ∈ out, 0 ≤ x ∧ x < 10000) → ∃ o, spec_DrawPlaces.l0 k out n l i h = some o ∧ o.length = 12 ∧ ∀ x ∈ o, 0 ≤ x ∧ x < 10000
 | 0, k, out, n, i, h, n0, hd, ho, n1, hk, hi, hx => by
  obtain ⟨k, rfl⟩ : ∃ m, k = m + 1 := ⟨k - 1, by omega⟩
  simp only [spec_DrawPlaces.l0]
  rw [if_neg (by omega)]
  exact ⟨_, rfl, by omega, hx⟩
 | d + 1, k, out, n, i, h, n0, hd, ho, n1, hk, hi, hx => by
  obtain ⟨k, rfl⟩ : ∃ m, k = m + 1 := ⟨k - 1, by omega⟩
  simp only [spec_DrawPlaces.l0]
  rw [if_pos (by omega)]
  obtain ⟨v, i1, y1, e1, v0, _, v1, c1⟩ := below_some l hl i h 10000 hi
  have v2 := v1 (by omega)
  rw [e1]
  simp only [Option.bind_some]
  rw [if_pos (by omega), wid (n + 1) (by omega) (by omega)]
  refine places_loop l hl d k _ _ _ _ (by omega) (by omega) (by simp; omega) (by omega) (by omega) c1 (fun x hx' => ?_)
  rcases List.mem_append.mp hx' with hx' | hx'
  ·exact hx x hx'
  ·simp at hx'
   subst hx'
   exact ⟨v0, v2⟩
theorem drawPlaces_some (l : List Int) (hl : l.length ≤ 140737488351232) (k : Nat) (hk : l.length + 30 < k) : ∃ o, spec_DrawPlaces.f k l = some o ∧ o.length = 12 ∧ ∀ i, i < 12 → 0 ≤ rd o ((i : Nat) : Int) ∧ rd o ((i : Nat) : Int) < 10000 := by
 unfold spec_DrawPlaces.f
 obtain ⟨x0, e0⟩ := new_some l hl k (by omega)
 rw [e0]
 simp only [Option.bind_some]
 obtain ⟨o, e, h1, h2⟩ := places_loop l hl 12 k [] 0 0 x0 (by omega) (by omega) (by simp) (by omega) (by omega) (by omega) (by simp)
 refine ⟨o, e, h1, fun i hi => ?_⟩
 have e2 : rd o ((i : Nat) : Int) = o.getD i 0 := rfl
 rw [e2, getD_gen 0 (by omega)]
 exact h2 _ (List.getElem_mem _)
theorem Ev.of_mono {α : Type} {F : Nat → Option α} {r : α} (hm : ∀ k, LeO (F k) (F (k + 1))) {k0 : Nat} (h : F k0 = some r) : Ev F r := by
 refine ⟨k0, fun k hk => ?_⟩
 obtain ⟨d, rfl⟩ : ∃ d, k = k0 + d := ⟨k - k0, by omega⟩
 clear hk
 induction d with
 | zero => exact h
 | succ d ih => exact hm _ _ ih
theorem places_ev (l : List Int) (hl : l.length ≤ 140737488351232) : ∃ o, Ev (fun k => spec_DrawPlaces.f k l) o ∧ o.length = 12 ∧ ∀ i, i < 12 → 0 ≤ rd o ((i : Nat) : Int) ∧ rd o ((i : Nat) : Int) < 10000 := by
 obtain ⟨o, e, h1, h2⟩ := drawPlaces_some l hl (l.length + 31) (by omega)
 exact ⟨o, Ev.of_mono (fun k => spec_DrawPlaces.mono l k) e, h1, h2⟩
theorem most_fill (s : Int) (hs : 1 ≤ s) : ∀ (gs : List S50), (∀ g ∈ gs, 0 ≤ g.f2) → mostL s gs = fill s (roomsG gs)
 | [], _ => rfl
 | g :: gs, h => by
  have ih := most_fill s hs gs (fun x hx => h x (List.mem_cons_of_mem _ hx))
  show Int.tdiv g.f2 s + mostL s gs = g.f2 / s + fill s (roomsG gs)
  rw [ih, Int.tdiv_eq_ediv_of_nonneg (h g List.mem_cons_self)]
end Go.Proofs.Ytbpjidekjogfeaa.A

namespace Go.Proofs.Ytbpjidekjogfeaa.A
open Go.RowKit Go.Proofs.YtbpjidekjogfeaaW.PrintWords Go.Proofs.YtbpjidekjogfeaaW.PrintLast Go.Proofs.YtbpjidekjogfeaaW.PrintMore
set_option linter.unusedVariables false
set_option linter.unusedSimpArgs false
def Cond : Int → List Int → List Int → Prop
 | _, [], _ => True
 | a, s :: ss, rs => a + s ≤ s * fill s rs ∧ Cond (a + s) ss rs
theorem cond_put {s x : Int} {rest rs rs' : List Int} (h1 : rs.Perm (x :: rest)) (h2 : rs'.Perm ((x - s) :: rest)) : ∀ (ss : List Int) (a : Int), (∀ t ∈ ss, 1 ≤ t ∧ ∃ q, s = t * q) → (Cond a ss rs' ↔ Cond (a + s) ss rs)
 | [], a, _ => Iff.rfl
 | t :: ss, a, h => by
  obtain ⟨ht, q, hq⟩ := h t List.mem_cons_self
  have ih := cond_put h1 h2 ss (a + t) (fun y hy => h y (List.mem_cons_of_mem _ hy))
  have hf : fill t rs' = fill t rs - q := by
   rw [fill_perm t h1, fill_perm t h2]
   simp only [fill]
   have e : (x - s) / t = x / t - q := by
    have := Int.add_mul_ediv_right x (-q) (show t ≠ 0 by omega)
    rw [show x + -q * t = x - s by rw [hq, Int.neg_mul, Int.mul_comm q t]; omega] at this
    omega
   omega
  simp only [Cond]
  rw [hf, ih, show a + t + s = a + s + t by omega, Int.mul_sub, ← hq]
  constructor
  ·rintro ⟨h3, h4⟩; exact ⟨by omega, h4⟩
  ·rintro ⟨h3, h4⟩; exact ⟨by omega, h4⟩
def Chain : List Int → Prop
 | [] => True
 | s :: ss => 1 ≤ s ∧ (∀ t ∈ ss, 1 ≤ t ∧ ∃ q, s = t * q) ∧ Chain ss
theorem cond_head {s : Int} (hs : 1 ≤ s) {rs : List Int} (h : ∀ r ∈ rs, 0 ≤ r) : (∃ x ∈ rs, s ≤ x) ↔ 0 + s ≤ s * fill s rs := by
 constructor
 ·rintro ⟨x, hx, hsx⟩
  obtain ⟨a, b, rfl⟩ := List.append_of_mem hx
  have h1 : fill s (a ++ x :: b) = fill s ((x - s) :: (a ++ b)) + 1 := by
   rw [fill_perm s (List.perm_middle (a := x) (l₁ := a) (l₂ := b)), fill_sub s x _ hs]; omega
  have h2 := fill_ge s hs ((x - s) :: (a ++ b)) (fun r hr => by
   rcases List.mem_cons.mp hr with rfl | hr
   ·omega
   ·exact h r (List.perm_middle.mem_iff.mpr (List.mem_cons_of_mem _ hr)))
  have h3 : s * 1 ≤ s * fill s (a ++ x :: b) := Int.mul_le_mul_of_nonneg_left (by omega) (by omega)
  omega
 ·intro hf
  refine fill_some s hs rs h ?_
  have hg := fill_ge s hs rs h
  by_cases c : fill s rs = 0
  ·rw [c, Int.mul_zero] at hf; omega
  ·omega
theorem nonneg_put {s x : Int} {rest rs rs' : List Int} (h1 : rs.Perm (x :: rest)) (h2 : rs'.Perm ((x - s) :: rest)) (hx : s ≤ x) (h : ∀ r ∈ rs, 0 ≤ r) : ∀ r ∈ rs', 0 ≤ r := by
 intro r hr
 rcases List.mem_cons.mp (h2.mem_iff.mp hr) with rfl | hr
 ·omega
 ·exact h r (h1.mem_iff.mpr (List.mem_cons_of_mem _ hr))
theorem feas_cond : ∀ (ss rs : List Int), Chain ss → (∀ r ∈ rs, 0 ≤ r) → (Feas ss rs ↔ Cond 0 ss rs)
 | [], rs, _, _ => Iff.rfl
 | s :: ss, rs, ⟨hs, hd, hc⟩, h => by
  have key : ∀ x rest, rs.Perm (x :: rest) → s ≤ x → (Feas ss ((x - s) :: rest) ↔ Cond (0 + s) ss rs) := by
   intro x rest hp hx
   rw [feas_cond ss _ hc (nonneg_put hp (List.Perm.refl _) hx h)]
   exact cond_put hp (List.Perm.refl _) ss 0 hd
  simp only [Feas, Cond]
  constructor
  ·rintro ⟨x, rest, hp, hx, hf⟩
   exact ⟨(cond_head hs h).mp ⟨x, hp.mem_iff.mpr List.mem_cons_self, hx⟩, (key x rest hp hx).mp hf⟩
  ·rintro ⟨h1, h2⟩
   obtain ⟨x, hx, hsx⟩ := (cond_head hs h).mpr h1
   obtain ⟨a, b, rfl⟩ := List.append_of_mem hx
   exact ⟨x, a ++ b, List.perm_middle, hsx, (key x (a ++ b) List.perm_middle hsx).mpr h2⟩
theorem heldR_cond : ∀ (ss rs : List Int), Chain ss → (∀ r ∈ rs, 0 ≤ r) → (heldR ss rs = ss.length ↔ Cond 0 ss rs) ∧ heldR ss rs ≤ ss.length
 | [], rs, _, _ => ⟨⟨fun _ => trivial, fun _ => rfl⟩, Nat.le_refl _⟩
 | s :: ss, rs, ⟨hs, hd, hc⟩, h => by
  rcases minR_spec s rs with ⟨h1, h2⟩ | ⟨m, h1, h2, h3, _⟩
  ·have e : heldR (s :: ss) rs = 0 := by rw [heldR, h1]
   rw [e, List.length_cons]
   refine ⟨⟨fun h => by omega, fun hcd => ?_⟩, by omega⟩
   obtain ⟨x, hx, hsx⟩ := (cond_head hs h).mpr hcd.1
   have := h2 x hx
   omega
  ·obtain ⟨l1, l2, e, _, e2⟩ := redR_split s h2
   have hp : rs.Perm (m :: (l1 ++ l2)) := by rw [e]; exact List.perm_middle
   have hp2 : (redR s m rs).Perm ((m - s) :: (l1 ++ l2)) := by rw [e2]; exact List.perm_middle
   obtain ⟨i1, i2⟩ := heldR_cond ss (redR s m rs) hc (nonneg_put hp hp2 h3 h)
   have e3 : heldR (s :: ss) rs = 1 + heldR ss (redR s m rs) := by rw [heldR, h1]
   rw [e3, List.length_cons]
   refine ⟨?_, by omega⟩
   have hcp := cond_put hp hp2 ss 0 hd
   simp only [Cond]
   constructor
   ·intro hl
    exact ⟨(cond_head hs h).mp ⟨m, h2, h3⟩, hcp.mp (i1.mp (by omega))⟩
   ·rintro ⟨_, h4⟩
    have := i1.mpr (hcp.mpr h4)
    omega
end Go.Proofs.Ytbpjidekjogfeaa.A

namespace Go.Proofs.Ytbpjidekjogfeaa.A
open Go.RowKit Go.Proofs.YtbpjidekjogfeaaW.PrintWords Go.Proofs.YtbpjidekjogfeaaW.PrintLast Go.Proofs.YtbpjidekjogfeaaW.PrintMore
set_option linter.unusedVariables false
set_option linter.unusedSimpArgs false
theorem chain_app : ∀ (a : List Int) (s : Int), Chain a → 1 ≤ s → (∀ t ∈ a, ∃ q, t = s * q) → Chain (a ++ [s])
 | [], s, _, hs, _ => ⟨hs, by simp, trivial⟩
 | x :: a, s, ⟨h1, h2, h3⟩, hs, hm => by
  refine ⟨h1, fun t ht => ?_, chain_app a s h3 hs (fun t ht => hm t (List.mem_cons_of_mem _ ht))⟩
  rcases List.mem_append.mp ht with ht | ht
  ·exact h2 t ht
  ·rw [List.mem_singleton.mp ht]
   exact ⟨hs, hm x List.mem_cons_self⟩
theorem chain_pos : ∀ (a : List Int), Chain a → ∀ t ∈ a, 1 ≤ t
 | [], _, t, ht => by simp at ht
 | x :: a, ⟨h1, _, h3⟩, t, ht => by
  rcases List.mem_cons.mp ht with rfl | ht
  ·exact h1
  ·exact chain_pos a h3 t ht
def condB : Int → List Int → List Int → Bool
 | _, [], _ => true
 | a, s :: ss, rs => decide (a + s ≤ s * fill s rs) && condB (a + s) ss rs
theorem condB_iff : ∀ (ss : List Int) (a : Int) (rs : List Int), condB a ss rs = true ↔ Cond a ss rs
 | [], a, rs => by simp [condB, Cond]
 | s :: ss, a, rs => by
  have ih := condB_iff ss (a + s) rs
  simp only [condB, Cond, Bool.and_eq_true, decide_eq_true_iff, ih]
theorem rooms_pos {cs : List S41} (hb : bankP cs = true) : ∀ r ∈ roomsG (bankG 0 cs), 0 ≤ r := by
 have e : bankGP cs = bankG 0 cs := by unfold bankGP; rw [if_pos hb]
 intro r hr
 obtain ⟨g, hg, rfl⟩ := List.mem_map.mp hr
 have := bankGP_pos cs g (e ▸ hg)
 omega
theorem most_in {cs : List S41} (hb : bankP cs = true) (s : Int) (h1 : 1 ≤ s) : mostP cs s = fill s (roomsG (bankG 0 cs)) ∧ 0 ≤ mostP cs s ∧ mostP cs s ≤ 3456 := by
 have e : bankGP cs = bankG 0 cs := by unfold bankGP; rw [if_pos hb]
 have hi := mostL_in s h1 (bankGP cs) (bankGP_pos cs)
 have hl := bankGP_len cs
 unfold mostP
 rw [if_pos h1]
 refine ⟨?_, by omega, by omega⟩
 rw [e]
 exact most_fill s h1 _ (fun g hg => by have := bankGP_pos cs g (e ▸ hg); omega)
theorem dbl2 (cs : List S41) (hs : Small cs) (hb : bankP cs = true) (sizes : List Int) (hz : ∀ s ∈ sizes, 1 ≤ s ∧ s ≤ 8) (hl : sizes.length ≤ 8) (b : Bool) (h : Int)
  (hc : Ev (fun k => impl_CanHold.f k cs sizes) b) (hh : Ev (fun k => impl_HeldInOrder.f k cs sizes) h) : ∀ (rest : List Int) (i : Nat) (fits : Bool) (sum : Int), sizes.drop i = rest → i ≤ sizes.length → 0 ≤ sum → sum ≤ 8 * i →
  Ev (fun k => laws_FnDoublings.l2 k cs sizes fits sum (i : Int)) (if (b == (fits && condB sum rest (roomsG (bankG 0 cs)))) = true then ((h == (sizes.length : Int)) == (fits && condB sum rest (roomsG (bankG 0 cs)))) else false)
 | [], i, fits, sum, hd, hi, h0, h1 => by
  have he := drop_end hd hi
  refine Ev.succ ?_
  simp only [laws_FnDoublings.l2]
  rw [show condB sum [] (roomsG (bankG 0 cs)) = true from rfl, Bool.and_true]
  exact Ev.neg (by omega) (Ev.bind hc (Ev.ite (fun _ => Ev.bind hh (Ev.ret _)) (fun _ => Ev.ret _)))
 | s :: rest, i, fits, sum, hd, hi, h0, h1 => by
  obtain ⟨h2, h3, h4⟩ := drop_step 0 hd
  have er : rd sizes (i : Int) = s := h3
  have hg : s ∈ sizes := by rw [← h3, getD_gen _ h2]; exact List.getElem_mem _
  have h5 := hz s hg
  have hm := most_in hb s h5.1
  refine Ev.succ ?_
  simp only [laws_FnDoublings.l2, er]
  rw [wsucc i (by omega), wid (sum + s) (by omega) (by omega)]
  refine Ev.pos (by omega) (Ev.pos (by omega) ?_)
  cases fits with
  | true =>
   have hm0 : 0 ≤ s * mostP cs s := Int.mul_nonneg (by omega) hm.2.1
   have hm1 : s * mostP cs s ≤ 8 * 3456 := Int.mul_le_mul h5.2 hm.2.2 hm.2.1 (by omega)
   refine Ev.pos rfl (Ev.bind (most_ev cs hs s) ?_)
   rw [wid (s * mostP cs s) (by omega) (by omega)]
   refine (dbl2 cs hs hb sizes hz hl b h hc hh rest (i + 1) _ (sum + s) h4 (by omega) (by omega) (by omega)).to ?_
   rw [hm.1]
   rfl
  | false =>
   refine Ev.neg (by simp) ?_
   exact dbl2 cs hs hb sizes hz hl b h hc hh rest (i + 1) false (sum + s) h4 (by omega) (by omega) (by omega)
theorem dblEnd (cs : List S41) (hs : Small cs) (hb : bankP cs = true) (l : List Int) (a : List Int) (h1 : Chain a) (h2 : a.length ≤ 8) (h3 : ∀ t ∈ a, t ≤ 8) : Ev (fun k => laws_FnDoublings.l0 k cs l a 0) true := by
 have hp := chain_pos a h1
 have hrp := rooms_pos hb
 have hz : sizesP a = true := (sizesP_iff a).mpr ⟨hp, h2⟩
 refine Ev.succ ?_
 simp only [laws_FnDoublings.l0]
 refine Ev.neg (by omega) ?_
 refine (dbl2 cs hs hb a (fun s hx => ⟨hp s hx, h3 s hx⟩) h2 _ _ (can_ev cs hs a (by omega)) (held_ev cs hs a (by omega)) a 0 true 0 rfl (by omega) (by omega) (by omega)).to ?_
 have e1 : canP cs a = condB 0 a (roomsG (bankG 0 cs)) := by
  unfold canP
  rw [hb, hz, Bool.true_and, Bool.true_and, Bool.eq_iff_iff, spread_feas, feas_cond a _ h1 hrp, condB_iff]
 have e2 : (heldP cs a == (a.length : Int)) = condB 0 a (roomsG (bankG 0 cs)) := by
  unfold heldP
  rw [if_pos ⟨hb, hz⟩, Bool.eq_iff_iff, beq_iff_eq, condB_iff, ← (heldR_cond a _ h1 hrp).1]
  omega
 rw [e1, e2, Bool.true_and]
 simp
theorem dbl1 (cs : List S41) (l : List Int) (s : Int) (hs : 1 ≤ s ∧ s ≤ 8) (next : ∀ a, Chain a → a.length ≤ 8 → (∀ t ∈ a, t ≤ 8 ∧ ∃ q, t = s * q) → Ev (fun k => laws_FnDoublings.l0 k cs l a (wrap64 (Int.tdiv s 2))) true) : ∀ (n : Nat) (a : List Int), n ≤ 100 → Chain a → a.length ≤ 8 → (∀ t ∈ a, t ≤ 8 ∧ ∃ q, t = s * q) → Ev (fun k => laws_FnDoublings.l1 k cs l a s (n : Int)) true
 | 0, a, hn, h1, h2, h3 => by
  refine Ev.succ ?_
  simp only [laws_FnDoublings.l1]
  exact Ev.neg (by omega) (next a h1 h2 h3)
 | n + 1, a, hn, h1, h2, h3 => by
  refine Ev.succ ?_
  simp only [laws_FnDoublings.l1]
  refine Ev.pos (by omega) ?_
  by_cases c : (a.length : Int) < 8
  ·refine Ev.pos c (Ev.pos (by omega) ?_)
   rw [show wrap64 (((n + 1 : Nat) : Int) - 1) = (n : Int) by unfold wrap64; omega]
   refine dbl1 cs l s hs next n (a ++ [s]) (by omega) (chain_app a s h1 hs.1 (fun t ht => (h3 t ht).2)) (by simp; omega) (fun t ht => ?_)
   rcases List.mem_append.mp ht with ht | ht
   ·exact h3 t ht
   ·rw [List.mem_singleton.mp ht]
    exact ⟨hs.2, 1, by omega⟩
  ·exact Ev.neg c (next a h1 h2 h3)
theorem dbl0 (cs : List S41) (l : List Int) (hl : l.length = 12) (s s2 : Int) (hs : 1 ≤ s ∧ s ≤ 8) (h2 : Int.tdiv s 2 = s2) (hr : 0 ≤ rd l s ∧ rd l s < 10000) (next : ∀ a, Chain a → a.length ≤ 8 → (∀ t ∈ a, t ≤ 8 ∧ ∃ q, t = s * q) → Ev (fun k => laws_FnDoublings.l0 k cs l a s2) true)
  (a : List Int) (h3 : Chain a) (h4 : a.length ≤ 8) (h5 : ∀ t ∈ a, t ≤ 8 ∧ ∃ q, t = s * q) : Ev (fun k => laws_FnDoublings.l0 k cs l a s) true := by
 have ht := tmod_in (rd l s) 3 hr.1 (by omega)
 obtain ⟨n, hn⟩ : ∃ n : Nat, Int.tmod (rd l s) 3 = n := ⟨(Int.tmod (rd l s) 3).toNat, by omega⟩
 have hs2 : wrap64 (Int.tdiv s 2) = s2 := by
  have := tdiv_in (M := 8) (show 0 ≤ s by omega) hs.2 (show (1 : Int) ≤ 2 by omega)
  rw [wid _ (by omega) (by omega), h2]
 refine Ev.succ ?_
 simp only [laws_FnDoublings.l0]
 refine Ev.pos (by omega) (Ev.pos (by omega) (Ev.pos (by omega) ?_))
 rw [hn]
 exact dbl1 cs l s hs (by rw [hs2]; exact next) n a (by omega) h3 h4 h5
theorem half_mult {a : List Int} {s s2 : Int} (h : ∀ t ∈ a, t ≤ 8 ∧ ∃ q, t = s * q) (e : s = s2 * 2) : ∀ t ∈ a, t ≤ 8 ∧ ∃ q, t = s2 * q := by
 intro t ht
 obtain ⟨h1, q, h2⟩ := h t ht
 exact ⟨h1, 2 * q, by rw [h2, e, Int.mul_assoc]⟩
theorem pureFnDoublings : ∀ (l0 : List Int), ok36 l0 → ∃ k, laws_FnDoublings.f k l0 = some true := by
 rintro l ⟨hl, _⟩
 unfold maxLen at hl
 refine Ev.get ?_
 unfold laws_FnDoublings.f
 refine Ev.bind (Ev.const rfl) ?_
 by_cases c : (l.length : Int) > 1048576
 ·exact Ev.pos (decide_eq_true c) (Ev.ret _)
 ·refine Ev.neg (by simpa using c) ?_
  obtain ⟨cs, e1, v, hs⟩ := bank_draw l (by omega)
  obtain ⟨o, e2, h12, hx⟩ := places_ev l (by omega)
  have hb : bankP cs = true := (bankP_iff cs).mpr v
  refine Ev.bind e1 (Ev.bind e2 ?_)
  have d1 := dbl0 cs o h12 1 0 ⟨by omega, by omega⟩ (by decide) (hx 1 (by omega)) (fun a h1 h2 h3 => dblEnd cs hs hb o a h1 h2 (fun t ht => (h3 t ht).1))
  have d2 := dbl0 cs o h12 2 1 ⟨by omega, by omega⟩ (by decide) (hx 2 (by omega)) (fun a h1 h2 h3 => d1 a h1 h2 (half_mult h3 (by omega)))
  have d4 := dbl0 cs o h12 4 2 ⟨by omega, by omega⟩ (by decide) (hx 4 (by omega)) (fun a h1 h2 h3 => d2 a h1 h2 (half_mult h3 (by omega)))
  have d8 := dbl0 cs o h12 8 4 ⟨by omega, by omega⟩ (by decide) (hx 8 (by omega)) (fun a h1 h2 h3 => d4 a h1 h2 (half_mult h3 (by omega)))
  exact d8 [] trivial (by simp) (by simp)
end Go.Proofs.Ytbpjidekjogfeaa.A
