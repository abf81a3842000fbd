/- Used by the law FnExactCanHold. -/
import Derived.Test.YtbpjidekjogfeaaZFnExactCanHoldx20
import Derived.Test.YtbpjidekjogfeaaZFnExactCanHoldx12
import Derived.Test.YtbpjidekjogfeaaZFnExactCanHoldx13
import Derived.Test.YtbpjidekjogfeaaZFnExactCanHoldx15
import Derived.Test.YtbpjidekjogfeaaZFnExactCanHoldx16
import Derived.Test.YtbpjidekjogfeaaZFnExactCanHoldx19
import Derived.Test.YtbpjidekjogfeaaZFnExactCanHoldx14
import Derived.Test.YtbpjidekjogfeaaZFnExactCanHoldx18
import Derived.Test.YtbpjidekjogfeaaZFnExactCanHoldx17
namespace Go.Proofs.Ytbpjidekjogfeaa.A
open Go.RowKit Go.Proofs.YtbpjidekjogfeaaW.PrintWords Go.Proofs.YtbpjidekjogfeaaW.PrintLast Go.Proofs.YtbpjidekjogfeaaW.PrintMore
set_option linter.unusedVariables false
set_option linter.unusedSimpArgs false
def sizesP (l : List Int) : Bool := l.all (fun s => decide (1 ≤ s)) && decide (l.length ≤ 8)
theorem sizesP_iff (l : List Int) : sizesP l = true ↔ (∀ s ∈ l, 1 ≤ s) ∧ l.length ≤ 8 := by
 unfold sizesP
 rw [Bool.and_eq_true, List.all_eq_true, decide_eq_true_iff]
 constructor
 ·rintro ⟨h1, h2⟩; exact ⟨fun s hs => of_decide_eq_true (h1 s hs), h2⟩
 ·rintro ⟨h1, h2⟩; exact ⟨fun s hs => decide_eq_true (h1 s hs), h2⟩
theorem sizes_loop (l : List Int) (hl : l.length ≤ 1048576) : ∀ (rest : List Int) (i : Nat), l.drop i = rest → i ≤ l.length → Ev (fun k => impl_sizesOk.l0 k l l (l.length : Int) (i : Int)) (rest.all (fun s => decide (1 ≤ s)) && decide (l.length ≤ 8))
 | [], i, hd, hi => by
  have he := drop_end hd hi
  refine Ev.succ ?_
  simp only [impl_sizesOk.l0]
  refine Ev.neg (by omega) ((Ev.ret _).to ?_)
  rw [List.all_nil, Bool.true_and, decide_eq_decide]
  omega
 | s :: rest, i, hd, hi => by
  obtain ⟨h1, h2, h3⟩ := drop_step 0 hd
  have er : rd l (i : Int) = s := h2
  refine Ev.succ ?_
  simp only [impl_sizesOk.l0, er]
  rw [wsucc i (by omega), List.all_cons]
  refine Ev.pos (by omega) (Ev.pos (by omega) (Ev.pos (by omega) ?_))
  by_cases c : s < 1
  ·refine Ev.pos c ((Ev.ret _).to ?_)
   rw [decide_eq_false (by omega), Bool.false_and, Bool.false_and]
  ·refine Ev.neg c ((sizes_loop l hl rest (i + 1) h3 (by omega)).to ?_)
   rw [decide_eq_true (show 1 ≤ s by omega), Bool.true_and]
theorem sizes_ev (l : List Int) (hl : l.length ≤ 1048576) : Ev (fun k => impl_sizesOk.f k l) (sizesP l) := by
 unfold impl_sizesOk.f sizesP
 exact sizes_loop l hl l 0 rfl (by omega)
theorem sizesS_loop (l : List Int) (hl : l.length ≤ 1048576) : ∀ (rest : List Int) (i : Nat), l.drop i = rest → i ≤ l.length → i ≤ 9 → Ev (fun k => spec_l02Sizes.l0 k l (i : Int)) (rest.all (fun s => decide (1 ≤ s)) && decide (l.length ≤ 8))
 | [], i, hd, hi, h9 => by
  have he := drop_end hd hi
  refine Ev.succ ?_
  simp only [spec_l02Sizes.l0]
  refine Ev.neg (by omega) (Ev.succ ?_)
  simp only [spec_l02Sizes.j1]
  refine Ev.neg (by simp) ((Ev.ret _).to ?_)
  rw [List.all_nil, Bool.true_and, decide_eq_decide]
  omega
 | s :: rest, i, hd, hi, h9 => by
  obtain ⟨h1, h2, h3⟩ := drop_step 0 hd
  have er : rd l (i : Int) = s := h2
  refine Ev.succ ?_
  simp only [spec_l02Sizes.l0]
  refine Ev.pos (by omega) (Ev.succ ?_)
  simp only [spec_l02Sizes.j1, er]
  rw [wsucc i (by omega), List.all_cons]
  by_cases c8 : (i : Int) ≤ 8
  ·refine Ev.pos (decide_eq_true c8) (Ev.pos (by omega) (Ev.pos (by omega) ?_))
   by_cases c : s < 1
   ·refine Ev.pos c ((Ev.ret _).to ?_)
    rw [decide_eq_false (by omega), Bool.false_and, Bool.false_and]
   ·refine Ev.neg c ((sizesS_loop l hl rest (i + 1) h3 (by omega) (by omega)).to ?_)
    rw [decide_eq_true (show 1 ≤ s by omega), Bool.true_and]
  ·refine Ev.neg (by simpa using c8) ((Ev.ret _).to ?_)
   rw [decide_eq_false (show ¬ (l.length : Int) ≤ 8 by omega), decide_eq_false (show ¬ l.length ≤ 8 by omega), Bool.and_false]
theorem sizesS_ev (l : List Int) (hl : l.length ≤ 1048576) : Ev (fun k => spec_l02Sizes.f k l) (sizesP l) := by
 unfold spec_l02Sizes.f sizesP
 exact sizesS_loop l hl l 0 rfl (by omega) (by omega)
theorem roomsG_len (gs : List S50) : (roomsG gs).length = gs.length := List.length_map _
end Go.Proofs.Ytbpjidekjogfeaa.A

namespace Go.Proofs.Ytbpjidekjogfeaa.A
open Go.RowKit Go.Proofs.YtbpjidekjogfeaaW.PrintWords Go.Proofs.YtbpjidekjogfeaaW.PrintLast Go.Proofs.YtbpjidekjogfeaaW.PrintMore
set_option linter.unusedVariables false
set_option linter.unusedSimpArgs false
def tryP (s : Int) (rec : List Int → Option (List Int)) (rs : List Int) : Nat → List Int → Option (List Int)
 | 0, _ => none
 | m + 1, tr => if rs.getD (rs.length - (m + 1)) 0 < s ∨ rs.getD (rs.length - (m + 1)) 0 ∈ tr then tryP s rec rs m tr else match rec (rs.set (rs.length - (m + 1)) (rs.getD (rs.length - (m + 1)) 0 - s)) with | some l => some (((rs.length - (m + 1) : Nat) : Int) :: l) | none => tryP s rec rs m (rs.getD (rs.length - (m + 1)) 0 :: tr)
def spreadP : List Int → List Int → Option (List Int)
 | [], _ => some []
 | s :: ss, rs => tryP s (spreadP ss) rs rs.length []
theorem tryP_len (s : Int) (rec : List Int → Option (List Int)) (rs : List Int) (n : Nat) (h : ∀ r l, rec r = some l → l.length = n) : ∀ m tr l, tryP s rec rs m tr = some l → l.length = n + 1
 | 0, tr, l, e => by simp [tryP] at e
 | m + 1, tr, l, e => by
  unfold tryP at e
  split at e
  ·exact tryP_len s rec rs n h m _ l e
  ·split at e
   ·next l' hl => rw [← Option.some.inj e, List.length_cons, h _ _ hl]
   ·exact tryP_len s rec rs n h m _ l e
theorem spreadP_len : ∀ (ss rs l : List Int), spreadP ss rs = some l → l.length = ss.length
 | [], rs, l, e => by simp [spreadP] at e; rw [← e]
 | s :: ss, rs, l, e => tryP_len s _ rs ss.length (fun r l h => spreadP_len ss r l h) _ _ l e
def Feas : List Int → List Int → Prop
 | [], _ => True
 | s :: ss, rs => ∃ x rest, rs.Perm (x :: rest) ∧ s ≤ x ∧ Feas ss ((x - s) :: rest)
theorem Feas.perm : ∀ {ss rs rs' : List Int}, Feas ss rs → rs.Perm rs' → Feas ss rs'
 | [], _, _, _, _ => trivial
 | _ :: _, _, _, ⟨x, rest, h1, h2, h3⟩, hp => ⟨x, rest, hp.symm.trans h1, h2, h3⟩
theorem split_at (rs : List Int) (i : Nat) (hi : i < rs.length) (y : Int) : ∃ rest, rs.Perm (rs.getD i 0 :: rest) ∧ (rs.set i y).Perm (y :: rest) := by
 induction rs generalizing i with
 | nil => simp at hi
 | cons a t ih =>
  cases i with
  | zero => exact ⟨t, List.Perm.refl _, List.Perm.refl _⟩
  | succ j =>
   obtain ⟨rest, h1, h2⟩ := ih j (by simpa using hi)
   refine ⟨a :: rest, ?_, ?_⟩
   ·exact (List.Perm.cons a h1).trans (List.Perm.swap _ _ _)
   ·exact (List.Perm.cons a h2).trans (List.Perm.swap _ _ _)
theorem tryP_none (s : Int) (ss : List Int) (rec : List Int → Option (List Int)) (rs : List Int) (hr : ∀ r, (rec r).isSome = true ↔ Feas ss r) :
  ∀ m tr, m ≤ rs.length → (∀ x ∈ tr, ∀ rest, rs.Perm (x :: rest) → ¬ Feas ss ((x - s) :: rest)) → tryP s rec rs m tr = none → ∀ i, rs.length - m ≤ i → i < rs.length → s ≤ rs.getD i 0 → ∀ rest, rs.Perm (rs.getD i 0 :: rest) → ¬ Feas ss ((rs.getD i 0 - s) :: rest)
 | 0, tr, hm, ht, e, i, h1, h2, _, _, _ => by omega
 | m + 1, tr, hm, ht, e, i, h1, h2, h3, rest, hp => by
  unfold tryP at e
  have hlt : rs.length - (m + 1) < rs.length := by omega
  by_cases hi : i = rs.length - (m + 1)
  ·subst hi
   by_cases c : rs.getD (rs.length - (m + 1)) 0 < s ∨ rs.getD (rs.length - (m + 1)) 0 ∈ tr
   ·rcases c with c | c
    ·omega
    ·exact ht _ c rest hp
   ·rw [if_neg c] at e
    split at e
    ·simp at e
    ·next hn =>
     obtain ⟨rest', q1, q2⟩ := split_at rs _ hlt (rs.getD (rs.length - (m + 1)) 0 - s)
     intro hf
     have hpp : rest.Perm rest' := (hp.symm.trans q1).cons_inv
     have := (hr _).mpr (hf.perm (((List.Perm.cons _ hpp)).trans q2.symm))
     rw [hn] at this
     simp at this
  ·have hge : rs.length - m ≤ i := by omega
   by_cases c : rs.getD (rs.length - (m + 1)) 0 < s ∨ rs.getD (rs.length - (m + 1)) 0 ∈ tr
   ·rw [if_pos c] at e
    exact tryP_none s ss rec rs hr m tr (by omega) ht e i hge h2 h3 rest hp
   ·rw [if_neg c] at e
    split at e
    ·simp at e
    ·next hn =>
     refine tryP_none s ss rec rs hr m _ (by omega) (fun x hx rest2 hp2 hf => ?_) e i hge h2 h3 rest hp
     rcases List.mem_cons.mp hx with rfl | hx
     ·obtain ⟨rest', q1, q2⟩ := split_at rs _ hlt (rs.getD (rs.length - (m + 1)) 0 - s)
      have hpp : rest2.Perm rest' := (hp2.symm.trans q1).cons_inv
      have := (hr _).mpr (hf.perm (((List.Perm.cons _ hpp)).trans q2.symm))
      rw [hn] at this
      simp at this
     ·exact ht x hx rest2 hp2 hf
theorem tryP_some (s : Int) (ss : List Int) (rec : List Int → Option (List Int)) (rs : List Int) (hr : ∀ r, (rec r).isSome = true ↔ Feas ss r) :
  ∀ m tr l, m ≤ rs.length → tryP s rec rs m tr = some l → Feas (s :: ss) rs
 | 0, tr, l, hm, e => by simp [tryP] at e
 | m + 1, tr, l, hm, e => by
  unfold tryP at e
  by_cases c : rs.getD (rs.length - (m + 1)) 0 < s ∨ rs.getD (rs.length - (m + 1)) 0 ∈ tr
  ·rw [if_pos c] at e
   exact tryP_some s ss rec rs hr m tr l (by omega) e
  ·rw [if_neg c] at e
   split at e
   ·next l' hl =>
    obtain ⟨rest', q1, q2⟩ := split_at rs _ (show rs.length - (m + 1) < rs.length by omega) (rs.getD (rs.length - (m + 1)) 0 - s)
    exact ⟨_, rest', q1, by omega, ((hr _).mp (by rw [hl]; rfl)).perm q2⟩
   ·exact tryP_some s ss rec rs hr m _ l (by omega) e
theorem spread_feas : ∀ (ss rs : List Int), (spreadP ss rs).isSome = true ↔ Feas ss rs
 | [], rs => by simp [spreadP, Feas]
 | s :: ss, rs => by
  have ih := fun r => spread_feas ss r
  unfold spreadP
  constructor
  ·intro h
   obtain ⟨l, hl⟩ := Option.isSome_iff_exists.mp h
   exact tryP_some s ss _ rs ih _ _ l (Nat.le_refl _) hl
  ·intro ⟨x, rest, h1, h2, h3⟩
   cases e : tryP s (spreadP ss) rs rs.length [] with
   | some l => rfl
   | none =>
    have hx : x ∈ rs := h1.mem_iff.mpr List.mem_cons_self
    obtain ⟨i, hi, rfl⟩ := List.getElem_of_mem hx
    have eg : rs.getD i 0 = rs[i] := by rw [List.getD_eq_getElem?_getD, List.getElem?_eq_getElem hi]; rfl
    have := tryP_none s ss _ rs ih rs.length [] (Nat.le_refl _) (by simp) e i (by omega) hi (by rw [eg]; exact h2) rest (by rw [eg]; exact h1)
    rw [eg] at this
    exact absurd h3 this
def spreadR (o : Option (List Int)) (rs : List Int) : List Int × Bool × List Int := match o with | some l => (l, true, rs) | none => ([], false, rs)
theorem rd_nat (l : List Int) (i : Nat) : rd l (i : Int) = l.getD i 0 := rfl
theorem set_getD_ (l : List Int) (i : Nat) (h : i < l.length) (v : Int) : (l.set i v).getD i 0 = v := by
 rw [List.getD_eq_getElem?_getD, List.getElem?_set_self h]; rfl
theorem set_back_ (l : List Int) (i : Nat) (h : i < l.length) : l.set i (l.getD i 0) = l := by
 rw [List.getD_eq_getElem?_getD, List.getElem?_eq_getElem h]
 exact List.set_getElem_self h
theorem spread_loop (s : Int) (ss rs : List Int) (hs : 1 ≤ s) (hr : ∀ r ∈ rs, 0 ≤ r ∧ r ≤ 1000000000) (hl : rs.length ≤ 1000) (hss : ss.length ≤ 1000)
  (ih : ∀ r' : List Int, (∀ r ∈ r', 0 ≤ r ∧ r ≤ 1000000000) → r'.length ≤ 1000 → Ev (fun k => impl_spread.f k r' ss) (spreadR (spreadP ss r') r')) :
  ∀ (m : Nat) (tr : List Int) (i : Nat), m ≤ rs.length → i = rs.length - m → tr.length ≤ i → Ev (fun k => impl_spread.l0 k rs (s :: ss) (rs.length : Int) (i : Int) tr) (spreadR (tryP s (spreadP ss) rs m tr) rs)
 | 0, tr, i, hm, hi, ht => by
  refine Ev.succ ?_
  simp only [impl_spread.l0]
  exact Ev.neg (by omega) (Ev.ret _)
 | m + 1, tr, i, hm, hi, ht => by
  have hlt : i < rs.length := by omega
  have hx : rs.getD i 0 ∈ rs := by
   rw [List.getD_eq_getElem?_getD, List.getElem?_eq_getElem hlt]
   exact List.getElem_mem hlt
  have hb := hr _ hx
  have hc0 : (0 : Int) < ((s :: ss).length : Int) := by rw [List.length_cons]; omega
  have hw : wrap64 ((i : Int) + 1) = ((i + 1 : Nat) : Int) := wsucc i (by omega)
  refine Ev.succ ?_
  simp only [impl_spread.l0]
  refine Ev.pos (by omega) (Ev.pos (by omega) (Ev.pos (by omega) (Ev.pos ?_ (Ev.pos hc0 ?_))))
  ·rw [rd_nat]; exact ⟨by omega, by omega⟩
  rw [rd_nat, show rd (s :: ss) 0 = s from rfl]
  by_cases c : rs.getD i 0 < s
  ·refine Ev.pos c (Ev.succ ?_)
   simp only [impl_spread.j1]
   refine Ev.pos trivial ?_
   rw [hw]
   refine (spread_loop s ss rs hs hr hl hss ih m tr (i + 1) (by omega) (by omega) (by omega)).to ?_
   rw [tryP, ← hi, if_pos (Or.inl c)]
  ·refine Ev.neg c (Ev.succ ?_)
   simp only [impl_spread.j1]
   by_cases c2 : rs.getD i 0 ∈ tr
   ·refine Ev.pos (decide_eq_true c2) ?_
    rw [hw]
    refine (spread_loop s ss rs hs hr hl hss ih m tr (i + 1) (by omega) (by omega) (by omega)).to ?_
    rw [tryP, ← hi, if_pos (Or.inr c2)]
   ·refine Ev.neg (by rw [decide_eq_false c2]; simp) (Ev.pos (by omega) (Ev.pos (by omega) (Ev.pos hc0 ?_)))
    rw [rd_nat, show rd (s :: ss) 0 = s from rfl, show wrap64 (rs.getD i 0 - s) = rs.getD i 0 - s by unfold wrap64; omega, Int.toNat_natCast, show (s :: ss).drop 1 = ss from rfl]
    have hset : ∀ r ∈ rs.set i (rs.getD i 0 - s), 0 ≤ r ∧ r ≤ 1000000000 := by
     intro r h
     rcases List.mem_or_eq_of_mem_set h with h | h
     ·exact hr r h
     ·omega
    have hback : (rs.set i (rs.getD i 0 - s)).set i (wrap64 (rd (rs.set i (rs.getD i 0 - s)) (i : Int) + s)) = rs := by
     rw [rd_nat, set_getD_ rs i hlt, List.set_set, show wrap64 (rs.getD i 0 - s + s) = rs.getD i 0 by unfold wrap64; omega, set_back_ rs i hlt]
    refine Ev.bind (ih _ hset (by rw [List.length_set]; exact hl)) ?_
    cases e : spreadP ss (rs.set i (rs.getD i 0 - s)) with
    | some l =>
     have hle := spreadP_len ss _ l e
     refine Ev.of_eq (F := fun _ => some ((i : Int) :: l, true, rs)) ?_ ?_
     ·refine (Ev.ret _).to ?_
      rw [tryP, ← hi, if_neg (by intro h; rcases h with h | h; exact c h; exact c2 h), e]
      rfl
     ·intro k
      simp only [spreadR, Option.bind_some, if_true]
      refine Eq.trans (if_pos (by rw [List.length_singleton]; omega)) ?_
      rw [hback]
      rfl
    | none =>
     refine Ev.of_eq (F := fun k => impl_spread.l0 k rs (s :: ss) (rs.length : Int) (((i + 1 : Nat)) : Int) (rs.getD i 0 :: tr)) ?_ ?_
     ·refine (spread_loop s ss rs hs hr hl hss ih m (rs.getD i 0 :: tr) (i + 1) (by omega) (by omega) (by rw [List.length_cons]; omega)).to ?_
      rw [tryP, ← hi, if_neg (by intro h; rcases h with h | h; exact c h; exact c2 h), e]
     ·intro k
      simp only [spreadR, Option.bind_some, Bool.false_eq_true, if_false]
      rw [hw, hback]
theorem spread_ev : ∀ (ss rs : List Int), (∀ s ∈ ss, 1 ≤ s) → (∀ r ∈ rs, 0 ≤ r ∧ r ≤ 1000000000) → rs.length ≤ 1000 → ss.length ≤ 1000 → Ev (fun k => impl_spread.f k rs ss) (spreadR (spreadP ss rs) rs)
 | [], rs, hs, hr, hl, hss => by
  refine Ev.succ ?_
  simp only [impl_spread.f]
  exact Ev.pos rfl (Ev.ret _)
 | s :: ss, rs, hs, hr, hl, hss => by
  have hss' : ss.length ≤ 1000 := by rw [List.length_cons] at hss; omega
  refine Ev.succ ?_
  simp only [impl_spread.f]
  refine Ev.neg (by rw [List.length_cons]; omega) ?_
  exact spread_loop s ss rs (hs s List.mem_cons_self) hr hl hss' (fun r' h1 h2 => spread_ev ss r' (fun x hx => hs x (List.mem_cons_of_mem _ hx)) h1 h2 hss') rs.length [] 0 (Nat.le_refl _) (by omega) (by simp)
end Go.Proofs.Ytbpjidekjogfeaa.A

namespace Go.Proofs.Ytbpjidekjogfeaa.A
open Go.RowKit Go.Proofs.YtbpjidekjogfeaaW.PrintWords Go.Proofs.YtbpjidekjogfeaaW.PrintLast Go.Proofs.YtbpjidekjogfeaaW.PrintMore
set_option linter.unusedVariables false
set_option linter.unusedSimpArgs false
def canP (cs : List S41) (sizes : List Int) : Bool := bankP cs && sizesP sizes && (spreadP sizes (roomsG (bankG 0 cs))).isSome
def placesR (o : Option (List Int)) : List Int × Bool := match o with | some l => (l, true) | none => ([], false)
theorem places_loop_ev (sizes : List Int) (gs : List S50) (hl : gs.length ≤ 144) (hp : ∀ g ∈ gs, 0 ≤ g.f2 ∧ g.f2 ≤ 24) (hs : ∀ s ∈ sizes, 1 ≤ s) (hz : sizes.length ≤ 8) : ∀ (rest : List S50) (i : Nat), gs.drop i = rest → i ≤ gs.length →
  Ev (fun k => impl_PlacesFor.l0 k sizes (roomsG (gs.take i)) gs (gs.length : Int) (i : Int)) (placesR (spreadP sizes (roomsG gs)))
 | [], i, hd, hi => by
  have he := drop_end hd hi
  refine Ev.succ ?_
  simp only [impl_PlacesFor.l0]
  rw [show gs.take i = gs from List.take_of_length_le (by omega)]
  refine Ev.neg (by omega) (Ev.bind (spread_ev sizes (roomsG gs) hs (fun r hr => ?_) (by rw [roomsG_len]; omega) (by omega)) ((Ev.ret _).to ?_))
  ·obtain ⟨g, hg, rfl⟩ := List.mem_map.mp hr
   have := hp g hg
   omega
  ·cases spreadP sizes (roomsG gs) <;> rfl
 | g :: rest, i, hd, hi => by
  obtain ⟨h1, h2, h3⟩ := drop_step z50 hd
  have er : rd_T50 gs (i : Int) = g := h2
  have hlt : i < gs.length := h1
  refine Ev.succ ?_
  simp only [impl_PlacesFor.l0, er]
  rw [wsucc i (by omega)]
  refine Ev.pos (by omega) (Ev.pos (by omega) (Ev.pos (by omega) (Ev.pos ?_ ?_)))
  ·rw [roomsG_len, List.length_take]; omega
  ·refine (places_loop_ev sizes gs hl hp hs hz rest (i + 1) h3 (by omega)).of_eq (fun k => ?_)
   have eg : gs[i]? = some g := by
    have := congrArg (fun l => l[0]?) hd
    simpa [List.getElem?_drop] using this
   rw [List.take_add_one, eg]
   simp [roomsG]
def placesB (cs : List S41) (sizes : List Int) : List Int × Bool := if bankP cs = true ∧ sizesP sizes = true then placesR (spreadP sizes (roomsG (bankG 0 cs))) else ([], false)
theorem placesI_ev (cs : List S41) (hs : Small cs) (sizes : List Int) (hl : sizes.length ≤ 1048576) : Ev (fun k => impl_PlacesFor.f k cs sizes) (placesB cs sizes) := by
 have no : Ev (fun k => impl_PlacesFor.j0 k cs sizes true) ([], false) := by
  refine Ev.succ ?_
  simp only [impl_PlacesFor.j0]
  exact Ev.pos (by trivial) (Ev.ret _)
 unfold impl_PlacesFor.f placesB
 refine Ev.bind (Ev.const rfl) ?_
 by_cases hb : bankP cs = true
 ·refine Ev.pos hb (Ev.bind (sizes_ev sizes hl) ?_)
  by_cases hz : sizesP sizes = true
  ·have hsz := (sizesP_iff sizes).mp hz
   have v := (bankP_iff cs).mp hb
   rw [if_pos ⟨hb, hz⟩, hz]
   refine Ev.succ ?_
   simp only [impl_PlacesFor.j0]
   have e : bankGP cs = bankG 0 cs := by unfold bankGP; rw [if_pos hb]
   refine Ev.neg (by simp) (Ev.bind (bankG_ev cs (v.flat hs)) ?_)
   exact places_loop_ev sizes (bankG 0 cs) (e ▸ bankGP_len cs) (fun g hg => by have := bankGP_pos cs g (e ▸ hg); omega) hsz.1 hsz.2 _ 0 rfl (by omega)
  ·rw [if_neg (fun h => hz h.2), show sizesP sizes = false by simpa using hz]
   exact no
 ·rw [if_neg (fun h => hb h.1)]
  exact Ev.neg hb no
theorem can_ev (cs : List S41) (hs : Small cs) (sizes : List Int) (hl : sizes.length ≤ 1048576) : Ev (fun k => impl_CanHold.f k cs sizes) (canP cs sizes) := by
 unfold impl_CanHold.f
 refine Ev.bind (placesI_ev cs hs sizes hl) ((Ev.ret _).to ?_)
 unfold placesB canP
 by_cases h : bankP cs = true ∧ sizesP sizes = true
 ·rw [if_pos h, h.1, h.2]
  cases spreadP sizes (roomsG (bankG 0 cs)) <;> rfl
 ·rw [if_neg h]
  by_cases hb : bankP cs = true
  ·rw [hb, show sizesP sizes = false by simpa using fun hz => h ⟨hb, hz⟩]; rfl
  ·rw [show bankP cs = false by simpa using hb]; rfl
end Go.Proofs.Ytbpjidekjogfeaa.A

namespace Go.Proofs.Ytbpjidekjogfeaa.A
open Go.RowKit Go.Proofs.YtbpjidekjogfeaaW.PrintWords Go.Proofs.YtbpjidekjogfeaaW.PrintLast Go.Proofs.YtbpjidekjogfeaaW.PrintMore
set_option linter.unusedVariables false
set_option linter.unusedSimpArgs false
theorem less_is (rs : List Int) (i : Nat) (s : Int) (hi : i < rs.length) (hl : rs.length ≤ 1000000) (h0 : 0 ≤ rs.getD i 0 - s) (h1 : rs.getD i 0 - s ≤ 1000000000) : spec_l02Less.f rs (i : Int) s = some (rs.set i (rs.getD i 0 - s)) := by
 unfold spec_l02Less.f
 simp only [Option.bind_some, List.nil_append, List.length_nil]
 rw [if_pos (by omega), if_pos (by omega), if_pos (by omega), rd_nat, wid _ (by omega) (by omega), Int.toNat_natCast]
theorem hasH_loop (l : List Int) (x : Int) (hl : l.length ≤ 1000000) : ∀ (rest : List Int) (i : Nat), l.drop i = rest → i ≤ l.length → Ev (fun k => spec_l02Has.l0 k l x (i : Int)) (decide (x ∈ rest))
 | [], i, hd, hi => by
  have he := drop_end hd hi
  refine Ev.succ ?_
  simp only [spec_l02Has.l0]
  exact Ev.neg (by omega) ((Ev.ret _).to (by simp))
 | b :: rest, i, hd, hi => by
  obtain ⟨h2, h3, h4⟩ := drop_step 0 hd
  have er : rd l (i : Int) = b := h3
  refine Ev.succ ?_
  simp only [spec_l02Has.l0, er]
  rw [wsucc i (by omega)]
  refine Ev.pos (by omega) (Ev.pos (by omega) ?_)
  by_cases c : b = x
  ·refine Ev.pos c ((Ev.ret _).to ?_)
   simp [c]
  ·refine Ev.neg c ((hasH_loop l x hl rest (i + 1) h4 (by omega)).to ?_)
   rw [decide_eq_decide, List.mem_cons]
   exact ⟨Or.inr, fun h => h.elim (fun e => absurd e.symm c) id⟩
theorem hasH_ev (l : List Int) (x : Int) (hl : l.length ≤ 1000000) : Ev (fun k => spec_l02Has.f k l x) (decide (x ∈ l)) := hasH_loop l x hl l 0 rfl (by omega)
theorem holds_loop (s : Int) (ss rs : List Int) (hs : 1 ≤ s) (hr : ∀ r ∈ rs, 0 ≤ r ∧ r ≤ 1000000000) (hl : rs.length ≤ 1000) (hss : ss.length ≤ 1000)
  (ih : ∀ r' : List Int, (∀ r ∈ r', 0 ≤ r ∧ r ≤ 1000000000) → r'.length ≤ 1000 → Ev (fun k => spec_l02Holds.f k r' ss) (spreadP ss r').isSome) :
  ∀ (m : Nat) (tr : List Int) (i : Nat), m ≤ rs.length → i = rs.length - m → tr.length ≤ i → Ev (fun k => spec_l02Holds.l0 k rs (s :: ss) tr.reverse (i : Int)) (tryP s (spreadP ss) rs m tr).isSome
 | 0, tr, i, hm, hi, ht => by
  refine Ev.succ ?_
  simp only [spec_l02Holds.l0]
  exact Ev.neg (by omega) ((Ev.ret _).to (by simp [tryP]))
 | m + 1, tr, i, hm, hi, ht => by
  have hlt : i < rs.length := by omega
  have hx : rs.getD i 0 ∈ rs := by
   rw [List.getD_eq_getElem?_getD, List.getElem?_eq_getElem hlt]
   exact List.getElem_mem hlt
  have hb := hr _ hx
  have hc0 : (0 : Int) < ((s :: ss).length : Int) := by rw [List.length_cons]; omega
  have hc1 : (1 : Int) ≤ ((s :: ss).length : Int) := by omega
  have hlr : tr.reverse.length = tr.length := List.length_reverse
  refine Ev.succ ?_
  simp only [spec_l02Holds.l0]
  rw [rd_nat, show rd (s :: ss) 0 = s from rfl]
  refine Ev.pos (by omega) (Ev.pos (by omega) (Ev.pos hc0 ?_))
  by_cases c : rs.getD i 0 < s
  ·refine Ev.pos c (Ev.succ ?_)
   simp only [spec_l02Holds.j1]
   rw [wsucc i (by omega)]
   refine Ev.pos trivial ((holds_loop s ss rs hs hr hl hss ih m tr (i + 1) (by omega) (by omega) (by omega)).to ?_)
   rw [tryP, ← hi, if_pos (Or.inl c)]
  ·refine Ev.neg c (Ev.bind (hasH_ev tr.reverse (rs.getD i 0) (by omega)) (Ev.succ ?_))
   simp only [spec_l02Holds.j1]
   rw [wsucc i (by omega)]
   by_cases c2 : rs.getD i 0 ∈ tr
   ·refine Ev.pos (decide_eq_true (List.mem_reverse.mpr c2)) ((holds_loop s ss rs hs hr hl hss ih m tr (i + 1) (by omega) (by omega) (by omega)).to ?_)
    rw [tryP, ← hi, if_pos (Or.inr c2)]
   ·have hset : ∀ r ∈ rs.set i (rs.getD i 0 - s), 0 ≤ r ∧ r ≤ 1000000000 := by
     intro r h
     rcases List.mem_or_eq_of_mem_set h with h | h
     ·exact hr r h
     ·omega
    refine Ev.neg (by rw [decide_eq_false (fun h => c2 (List.mem_reverse.mp h))]; simp) (Ev.pos (by omega) (Ev.pos (by omega) (Ev.pos (by omega) (Ev.pos hc0 (Ev.bind (Ev.const ?_) (Ev.pos hc1 (Ev.bind (ih _ hset (by rw [List.length_set]; exact hl)) ?_)))))))
    ·rw [show rd (s :: ss) 0 = s from rfl]
     exact less_is rs i s hlt (by omega) (by omega) (by omega)
    ·rw [rd_nat]
     cases e : spreadP ss (rs.set i (rs.getD i 0 - s)) with
     | some l =>
      refine Ev.pos rfl ((Ev.ret _).to ?_)
      rw [tryP, ← hi, if_neg (by intro h; rcases h with h | h; exact c h; exact c2 h), e]
      rfl
     | none =>
      have hh := holds_loop s ss rs hs hr hl hss ih m (rs.getD i 0 :: tr) (i + 1) (by omega) (by omega) (by rw [List.length_cons]; omega)
      rw [List.reverse_cons] at hh
      refine Ev.neg (by simp) (hh.to ?_)
      rw [tryP, ← hi, if_neg (by intro h; rcases h with h | h; exact c h; exact c2 h), e]
theorem holds_ev : ∀ (ss rs : List Int), (∀ s ∈ ss, 1 ≤ s) → (∀ r ∈ rs, 0 ≤ r ∧ r ≤ 1000000000) → rs.length ≤ 1000 → ss.length ≤ 1000 → Ev (fun k => spec_l02Holds.f k rs ss) (spreadP ss rs).isSome
 | [], rs, hs, hr, hl, hss => by
  refine Ev.succ ?_
  simp only [spec_l02Holds.f]
  exact Ev.pos rfl (Ev.ret _)
 | s :: ss, rs, hs, hr, hl, hss => by
  have hss' : ss.length ≤ 1000 := by rw [List.length_cons] at hss; omega
  refine Ev.succ ?_
  simp only [spec_l02Holds.f]
  refine Ev.neg (by rw [List.length_cons]; omega) ?_
  exact holds_loop s ss rs (hs s List.mem_cons_self) hr hl hss' (fun r' h1 h2 => holds_ev ss r' (fun x hx => hs x (List.mem_cons_of_mem _ hx)) h1 h2 hss') rs.length [] 0 (Nat.le_refl _) (by omega) (by simp)
theorem swap_perm (l : List Int) (i j : Nat) (hi : i < l.length) (hj : j < l.length) : ((l.set i (l.getD j 0)).set j (l.getD i 0)).Perm l := by
 have e1 : l.getD j 0 = l[j] := by rw [List.getD_eq_getElem?_getD, List.getElem?_eq_getElem hj]; rfl
 have e2 : l.getD i 0 = l[i] := by rw [List.getD_eq_getElem?_getD, List.getElem?_eq_getElem hi]; rfl
 rw [e1, e2]
 exact List.set_set_perm hi hj
theorem down_in (x0 : List Int) (i : Nat) (rest : List Int) (hi : i ≤ 1000000) (next : ∀ out : List Int, out.length = i + 1 → ∃ o, Ev (fun k => spec_l02Down.l0 k x0 out ((i + 1 : Nat) : Int)) o ∧ o.Perm (out ++ rest)) :
  ∀ (k : Nat) (out : List Int), k < out.length → out.length = i + 1 → ∃ o, Ev (fun n => spec_l02Down.l1 n x0 out (i : Int) (k : Int)) o ∧ o.Perm (out ++ rest)
 | 0, out, hk, ho => by
  obtain ⟨o, e, hp⟩ := next out ho
  refine ⟨o, Ev.succ ?_, hp⟩
  simp only [spec_l02Down.l1]
  rw [wsucc i (by omega)]
  exact Ev.neg (by omega) e
 | k + 1, out, hk, ho => by
  by_cases c : out.getD k 0 < out.getD (k + 1) 0
  ·obtain ⟨o, e, hp⟩ := down_in x0 i rest hi next k ((out.set (k + 1) (out.getD k 0)).set k (out.getD (k + 1) 0)) (by rw [List.length_set, List.length_set]; omega) (by rw [List.length_set, List.length_set]; omega)
   refine ⟨o, Ev.succ ?_, hp.trans (List.Perm.append_right _ (swap_perm out (k + 1) k hk (by omega)))⟩
   simp only [spec_l02Down.l1]
   rw [show wrap64 (((k + 1 : Nat) : Int) - 1) = (k : Int) by unfold wrap64; omega, Int.toNat_natCast, Int.toNat_natCast, rd_nat, rd_nat]
   exact Ev.pos (by omega) (Ev.pos (by omega) (Ev.pos (by omega) (Ev.pos (by omega) (Ev.pos (by omega) (Ev.pos c e)))))
  ·obtain ⟨o, e, hp⟩ := next out ho
   refine ⟨o, Ev.succ ?_, hp⟩
   simp only [spec_l02Down.l1]
   rw [show wrap64 (((k + 1 : Nat) : Int) - 1) = (k : Int) by unfold wrap64; omega, rd_nat, rd_nat, wsucc i (by omega)]
   exact Ev.pos (by omega) (Ev.pos (by omega) (Ev.pos (by omega) (Ev.pos (by omega) (Ev.pos (by omega) (Ev.neg c e)))))
theorem down_loop (x0 : List Int) (hl : x0.length ≤ 1000000) : ∀ (rest : List Int) (i : Nat) (out : List Int), x0.drop i = rest → i ≤ x0.length → out.length = i → ∃ o, Ev (fun k => spec_l02Down.l0 k x0 out (i : Int)) o ∧ o.Perm (out ++ rest)
 | [], i, out, hd, hi, ho => by
  have he := drop_end hd hi
  refine ⟨out, Ev.succ ?_, by rw [List.append_nil]⟩
  simp only [spec_l02Down.l0]
  exact Ev.neg (by omega) (Ev.ret _)
 | b :: rest, i, out, hd, hi, ho => by
  obtain ⟨h2, h3, h4⟩ := drop_step 0 hd
  have er : rd x0 (i : Int) = b := h3
  obtain ⟨o, e, hp⟩ := down_in x0 i rest (by omega) (fun out' h' => down_loop x0 hl rest (i + 1) out' h4 (by omega) h') i (out ++ [b]) (by simp; omega) (by simp; omega)
  refine ⟨o, Ev.succ ?_, by rw [List.append_assoc] at hp; exact hp⟩
  simp only [spec_l02Down.l0, er]
  refine Ev.pos (by omega) (Ev.pos (by omega) (Ev.pos (by omega) (Ev.bind (Ev.const rfl) ?_)))
  rw [show wrap64 (((out ++ [b]).length : Int) - 1) = (i : Int) by rw [List.length_append, List.length_singleton]; unfold wrap64; omega]
  exact e
theorem down_ev (l : List Int) (hl : l.length ≤ 1000000) : ∃ o, Ev (fun k => spec_l02Down.f k l) o ∧ o.Perm l := down_loop l hl l 0 [] rfl (by omega) rfl
theorem feas_swap {a b : Int} {ss rs : List Int} (ha : 0 ≤ a) (h : Feas (a :: b :: ss) rs) : Feas (b :: a :: ss) rs := by
 obtain ⟨x, rest, h1, h2, y, rest2, h3, h4, h5⟩ := h
 by_cases c : y = x - a
 ·subst c
  refine ⟨x, rest, h1, by omega, x - b, rest, List.Perm.refl _, by omega, ?_⟩
  refine h5.perm ?_
  rw [show x - b - a = x - a - b by omega]
  exact List.Perm.cons _ h3.cons_inv.symm
 ·have hy : y ∈ rest := by
   rcases List.mem_cons.mp (h3.mem_iff.mpr List.mem_cons_self) with h | h
   ·exact absurd h c
   ·exact h
  obtain ⟨p, q, rfl⟩ := List.append_of_mem hy
  have hp : (p ++ y :: q).Perm (y :: (p ++ q)) := List.perm_middle
  have h6 : (y :: rest2).Perm (y :: ((x - a) :: (p ++ q))) := h3.symm.trans ((List.Perm.cons _ hp).trans (List.Perm.swap _ _ _))
  have h7 := h6.cons_inv
  refine ⟨y, x :: (p ++ q), h1.trans ((List.Perm.cons _ hp).trans (List.Perm.swap _ _ _)), h4, x, (y - b) :: (p ++ q), List.Perm.swap _ _ _, h2, ?_⟩
  exact h5.perm ((List.Perm.cons _ h7).trans (List.Perm.swap _ _ _))
theorem feas_perm {ss ss' : List Int} (hp : ss.Perm ss') : ∀ {rs : List Int}, (∀ s ∈ ss, 0 ≤ s) → Feas ss rs → Feas ss' rs := by
 induction hp with
 | nil => intro rs _ h; exact h
 | cons x _ ih =>
  intro rs h0 h
  obtain ⟨y, rest, h1, h2, h3⟩ := h
  exact ⟨y, rest, h1, h2, ih (fun s hs => h0 s (List.mem_cons_of_mem _ hs)) h3⟩
 | swap x y l => intro rs h0 h; exact feas_swap (h0 y List.mem_cons_self) h
 | trans p1 _ ih1 ih2 => intro rs h0 h; exact ih2 (fun s hs => h0 s (p1.mem_iff.mpr hs)) (ih1 h0 h)
theorem perm_sum {l l' : List Int} (h : l.Perm l') : l.sum = l'.sum := by
 induction h with
 | nil => rfl
 | cons x _ ih => rw [List.sum_cons, List.sum_cons, ih]
 | swap x y l => rw [List.sum_cons, List.sum_cons, List.sum_cons, List.sum_cons]; omega
 | trans _ _ i1 i2 => exact i1.trans i2
theorem sum_pos : ∀ (rs : List Int), (∀ r ∈ rs, 0 ≤ r) → 0 ≤ rs.sum
 | [], _ => by simp
 | r :: rs, h => by
  have h1 := h r List.mem_cons_self
  have h2 := sum_pos rs (fun x hx => h x (List.mem_cons_of_mem _ hx))
  rw [List.sum_cons]
  omega
theorem feas_sum : ∀ (ss rs : List Int), (∀ r ∈ rs, 0 ≤ r) → Feas ss rs → ss.sum ≤ rs.sum
 | [], rs, h, _ => by
  rw [List.sum_nil]
  exact sum_pos rs h
 | s :: ss, rs, h, ⟨x, rest, h1, h2, h3⟩ => by
  have hn : ∀ r ∈ (x - s) :: rest, 0 ≤ r := by
   intro r hr
   rcases List.mem_cons.mp hr with rfl | hr
   ·omega
   ·exact h r (h1.mem_iff.mpr (List.mem_cons_of_mem _ hr))
  have ih := feas_sum ss _ hn h3
  rw [perm_sum h1, List.sum_cons, List.sum_cons]
  rw [List.sum_cons] at ih
  omega
end Go.Proofs.Ytbpjidekjogfeaa.A

namespace Go.Proofs.Ytbpjidekjogfeaa.A
open Go.RowKit Go.Proofs.YtbpjidekjogfeaaW.PrintWords Go.Proofs.YtbpjidekjogfeaaW.PrintLast Go.Proofs.YtbpjidekjogfeaaW.PrintMore
set_option linter.unusedVariables false
set_option linter.unusedSimpArgs false
theorem tryP_find (s : Int) (ss : List Int) (rec : List Int → Option (List Int)) (rs : List Int) (hr : ∀ r, (rec r).isSome = true ↔ Feas ss r) :
  ∀ m tr l', m ≤ rs.length → (∀ x ∈ tr, ∀ rest, rs.Perm (x :: rest) → ¬ Feas ss ((x - s) :: rest)) → tryP s rec rs m tr = some l' →
   ∃ (n : Nat) (l : List Int), l' = (n : Int) :: l ∧ rs.length - m ≤ n ∧ n < rs.length ∧ s ≤ rs.getD n 0 ∧ rec (rs.set n (rs.getD n 0 - s)) = some l ∧ ∀ i, rs.length - m ≤ i → i < n → rs.getD i 0 < s ∨ ¬ Feas ss (rs.set i (rs.getD i 0 - s))
 | 0, tr, l', hm, ht, e => by simp [tryP] at e
 | m + 1, tr, l', hm, ht, e => by
  unfold tryP at e
  have hlt : rs.length - (m + 1) < rs.length := by omega
  by_cases c : rs.getD (rs.length - (m + 1)) 0 < s ∨ rs.getD (rs.length - (m + 1)) 0 ∈ tr
  ·rw [if_pos c] at e
   obtain ⟨n, l, h1, h2, h3, h4, h5, h6⟩ := tryP_find s ss rec rs hr m tr l' (by omega) ht e
   refine ⟨n, l, h1, by omega, h3, h4, h5, fun i i1 i2 => ?_⟩
   by_cases hi : i = rs.length - (m + 1)
   ·subst hi
    rcases c with c | c
    ·exact Or.inl c
    ·obtain ⟨rest', q1, q2⟩ := split_at rs _ hlt (rs.getD (rs.length - (m + 1)) 0 - s)
     exact Or.inr (fun hf => ht _ c rest' q1 (hf.perm q2))
   ·exact h6 i (by omega) i2
  ·rw [if_neg c] at e
   split at e
   ·next l hl =>
    exact ⟨_, l, (Option.some.inj e).symm, Nat.le_refl _, hlt, by omega, hl, fun i i1 i2 => by omega⟩
   ·next hn =>
    have hno : ¬ Feas ss (rs.set (rs.length - (m + 1)) (rs.getD (rs.length - (m + 1)) 0 - s)) := by
     intro hf
     have := (hr _).mpr hf
     rw [hn] at this
     simp at this
    obtain ⟨n, l, h1, h2, h3, h4, h5, h6⟩ := tryP_find s ss rec rs hr m _ l' (by omega) (fun x hx rest2 hp2 hf => by
     rcases List.mem_cons.mp hx with rfl | hx
     ·obtain ⟨rest', q1, q2⟩ := split_at rs _ hlt (rs.getD (rs.length - (m + 1)) 0 - s)
      have hpp : rest2.Perm rest' := (hp2.symm.trans q1).cons_inv
      exact hno (hf.perm (((List.Perm.cons _ hpp)).trans q2.symm))
     ·exact ht x hx rest2 hp2 hf) e
    refine ⟨n, l, h1, by omega, h3, h4, h5, fun i i1 i2 => ?_⟩
    by_cases hi : i = rs.length - (m + 1)
    ·subst hi
     exact Or.inr hno
    ·exact h6 i (by omega) i2
theorem some_iff_bool {a b : Bool} (h : a = true ↔ b = true) : a = b := by cases a <;> cases b <;> simp_all
theorem spread_perm {ss ss' : List Int} (rs : List Int) (h : ss'.Perm ss) (h0 : ∀ s ∈ ss, 1 ≤ s) : (spreadP ss' rs).isSome = (spreadP ss rs).isSome := by
 have h1 : ∀ s ∈ ss, 0 ≤ s := fun s hs => by have := h0 s hs; omega
 have h2 : ∀ s ∈ ss', 0 ≤ s := fun s hs => h1 s (h.mem_iff.mp hs)
 exact some_iff_bool ((spread_feas ss' rs).trans (Iff.trans ⟨fun f => feas_perm h h2 f, fun f => feas_perm h.symm h1 f⟩ (spread_feas ss rs).symm))
theorem pick_loop (sz : List Int) (c : Nat) (s : Int) (ss : List Int) (hd : sz.drop c = s :: ss) (hc : sz.length ≤ 1000) (hs : ∀ x ∈ s :: ss, 1 ≤ x) (rs : List Int) (hr : ∀ r ∈ rs, 0 ≤ r ∧ r ≤ 1000000000) (hl : rs.length ≤ 1000) (acc : List Int) (ha : acc.length ≤ 1000)
  (n : Nat) (hn : n < rs.length) (h4 : s ≤ rs.getD n 0) (h5 : (spreadP ss (rs.set n (rs.getD n 0 - s))).isSome = true) (h6 : ∀ i, i < n → rs.getD i 0 < s ∨ ¬ Feas ss (rs.set i (rs.getD i 0 - s))) {R : List Int × Bool}
  (next : Ev (fun k => spec_PlacesFor.l2 k sz (rs.set n (rs.getD n 0 - s)) (acc ++ [(n : Int)]) ((c + 1 : Nat) : Int)) R) :
  ∀ (d i : Nat), i + d = n → Ev (fun k => spec_PlacesFor.l3 k sz rs acc (c : Int) (i : Int)) R := by
 intro d
 obtain ⟨q1, q2, q3⟩ := drop_step 0 hd
 have er : rd sz (c : Int) = s := q2
 have hs1 := hs s List.mem_cons_self
 have hs2 : ∀ x ∈ ss, 1 ≤ x := fun x hx => hs x (List.mem_cons_of_mem _ hx)
 have hsl : ss.length ≤ 1000 := by
  have := congrArg List.length q3
  rw [List.length_drop] at this
  omega
 obtain ⟨o, eo, po⟩ := down_ev ss (by omega)
 have held : ∀ i, i < rs.length → s ≤ rs.getD i 0 → Ev (fun k => spec_l02Holds.f k (rs.set i (rs.getD i 0 - s)) o) (spreadP ss (rs.set i (rs.getD i 0 - s))).isSome := by
  intro i hi h
  have hx : rs.getD i 0 ∈ rs := by
   rw [List.getD_eq_getElem?_getD, List.getElem?_eq_getElem hi]
   exact List.getElem_mem hi
  have hb := hr _ hx
  refine (holds_ev o _ (fun x hx => hs2 x (po.mem_iff.mp hx)) (fun r h => ?_) (by rw [List.length_set]; exact hl) (by rw [po.length_eq]; exact hsl)).to (spread_perm _ po hs2)
  rcases List.mem_or_eq_of_mem_set h with h | h
  ·exact hr r h
  ·omega
 have less : ∀ i, i < rs.length → s ≤ rs.getD i 0 → spec_l02Less.f rs (i : Int) s = some (rs.set i (rs.getD i 0 - s)) := by
  intro i hi h
  have hx : rs.getD i 0 ∈ rs := by
   rw [List.getD_eq_getElem?_getD, List.getElem?_eq_getElem hi]
   exact List.getElem_mem hi
  have hb := hr _ hx
  exact less_is rs i s hi (by omega) (by omega) (by omega)
 induction d with
 | zero =>
  intro i hi
  have hin : i = n := by omega
  subst hin
  refine Ev.succ ?_
  simp only [spec_PlacesFor.l3, er]
  rw [rd_nat, wsucc c (by omega), Int.toNat_natCast, q3]
  refine Ev.pos (by omega) (Ev.pos (by omega) (Ev.pos (by omega) (Ev.pos (by omega) (Ev.neg (by omega) (Ev.bind (Ev.const (less i hn h4)) (Ev.pos (by omega) (Ev.pos (by omega) (Ev.bind eo (Ev.bind (held i hn h4) (Ev.pos h5 (Ev.bind (Ev.const (less i hn h4)) (Ev.pos (by omega) next))))))))))))
 | succ d ih =>
  intro i hi
  refine Ev.succ ?_
  simp only [spec_PlacesFor.l3, er]
  rw [rd_nat, wsucc c (by omega), wsucc i (by omega), Int.toNat_natCast, q3]
  refine Ev.pos (by omega) (Ev.pos (by omega) (Ev.pos (by omega) (Ev.pos (by omega) ?_)))
  by_cases cc : rs.getD i 0 < s
  ·exact Ev.pos cc (ih (i + 1) (by omega))
  ·have hno : ¬ (spreadP ss (rs.set i (rs.getD i 0 - s))).isSome = true := by
    intro h
    rcases h6 i (by omega) with h' | h'
    ·exact cc h'
    ·exact h' ((spread_feas _ _).mp h)
   exact Ev.neg cc (Ev.bind (Ev.const (less i (by omega) (by omega))) (Ev.pos (by omega) (Ev.pos (by omega) (Ev.bind eo (Ev.bind (held i (by omega) (by omega)) (Ev.neg hno (ih (i + 1) (by omega))))))))
theorem give_loop (sz : List Int) (hc : sz.length ≤ 1000) : ∀ (rest : List Int) (c : Nat) (rs acc l : List Int), sz.drop c = rest → c ≤ sz.length → (∀ x ∈ rest, 1 ≤ x) → (∀ r ∈ rs, 0 ≤ r ∧ r ≤ 1000000000) → rs.length ≤ 1000 → acc.length ≤ c → spreadP rest rs = some l → Ev (fun k => spec_PlacesFor.l2 k sz rs acc (c : Int)) (acc ++ l, true)
 | [], c, rs, acc, l, hd, hcl, hs, hr, hl, ha, e => by
  have he := drop_end hd hcl
  simp [spreadP] at e
  subst e
  refine Ev.succ ?_
  simp only [spec_PlacesFor.l2]
  exact Ev.neg (by omega) ((Ev.ret _).to (by simp))
 | s :: ss, c, rs, acc, l', hd, hcl, hs, hr, hl, ha, e => by
  obtain ⟨q1, q2, q3⟩ := drop_step 0 hd
  have e' : tryP s (spreadP ss) rs rs.length [] = some l' := e
  obtain ⟨n, l, h1, h2, h3, h4, h5, h6⟩ := tryP_find s ss (spreadP ss) rs (fun r => spread_feas ss r) rs.length [] l' (Nat.le_refl _) (by simp) e'
  have hx : rs.getD n 0 ∈ rs := by
   rw [List.getD_eq_getElem?_getD, List.getElem?_eq_getElem h3]
   exact List.getElem_mem h3
  have hb := hr _ hx
  have hs1 := hs s List.mem_cons_self
  have next := give_loop sz hc ss (c + 1) (rs.set n (rs.getD n 0 - s)) (acc ++ [(n : Int)]) l q3 (by omega) (fun x hx => hs x (List.mem_cons_of_mem _ hx)) (fun r h => by
   rcases List.mem_or_eq_of_mem_set h with h | h
   ·exact hr r h
   ·omega) (by rw [List.length_set]; exact hl) (by rw [List.length_append, List.length_singleton]; omega) h5
  refine Ev.succ ?_
  simp only [spec_PlacesFor.l2]
  refine Ev.pos (by omega) ?_
  refine (pick_loop sz c s ss hd hc hs rs hr hl acc (by omega) n h3 h4 (by rw [h5]; rfl) (fun i hi => h6 i (by omega) hi) next n 0 (by omega)).to ?_
  rw [h1, List.append_assoc]
  rfl
theorem total_loop (sz : List Int) (hc : sz.length ≤ 1000) (hs : ∀ x ∈ sz, 1 ≤ x) (rs : List Int) (hr : ∀ r ∈ rs, 0 ≤ r ∧ r ≤ 1000000000) (hl : rs.length ≤ 1000) : ∀ (rest : List Int) (i : Nat) (tot : Int), sz.drop i = rest → i ≤ sz.length → 0 ≤ tot → tot ≤ 1000000000 → (∀ x ∈ rest, 1 ≤ x) → sz.sum - rest.sum = rs.sum - tot → Ev (fun k => spec_PlacesFor.l1 k sz rs tot (i : Int)) (placesR (spreadP sz rs))
 | [], i, tot, hd, hi, h0, h1, hp, hsum => by
  have he := drop_end hd hi
  obtain ⟨o, eo, po⟩ := down_ev sz (by omega)
  have hh := (holds_ev o rs (fun x hx => hs x (po.mem_iff.mp hx)) hr hl (by rw [po.length_eq]; exact hc)).to (spread_perm rs po hs)
  refine Ev.succ ?_
  simp only [spec_PlacesFor.l1]
  refine Ev.neg (by omega) (Ev.bind eo (Ev.bind hh ?_))
  cases e : spreadP sz rs with
  | some l => exact Ev.pos rfl ((give_loop sz hc sz 0 rs [] l rfl (by omega) hs hr hl (by simp) e).to rfl)
  | none => exact Ev.neg (by simp) (Ev.ret _)
 | s :: rest, i, tot, hd, hi, h0, h1, hp, hsum => by
  obtain ⟨q1, q2, q3⟩ := drop_step 0 hd
  have er : rd sz (i : Int) = s := q2
  have hs1 := hp s List.mem_cons_self
  rw [List.sum_cons] at hsum
  refine Ev.succ ?_
  simp only [spec_PlacesFor.l1, er]
  rw [wsucc i (by omega)]
  refine Ev.pos (by omega) (Ev.pos (by omega) ?_)
  by_cases c : s > tot
  ·refine Ev.pos c ((Ev.ret _).to ?_)
   cases e : spreadP sz rs with
   | none => rfl
   | some l =>
    have hf := (spread_feas sz rs).mp (by rw [e]; rfl)
    have h2 := feas_sum sz rs (fun r h => (hr r h).1) hf
    have h3 := sum_pos rest (fun x hx => by have := hp x (List.mem_cons_of_mem _ hx); omega)
    exfalso
    omega
  ·refine Ev.neg c ?_
   rw [wid _ (by omega) (by omega)]
   exact total_loop sz hc hs rs hr hl rest (i + 1) (tot - s) q3 (by omega) (by omega) (by omega) (fun x hx => hp x (List.mem_cons_of_mem _ hx)) (by omega)
theorem room_loop (sz : List Int) (gs : List S50) (hl : gs.length ≤ 144) (hp : ∀ g ∈ gs, 0 ≤ g.f2 ∧ g.f2 ≤ 24) {R : List Int × Bool} (next : (roomsG gs).sum ≤ 24 * 144 → Ev (fun k => spec_PlacesFor.l1 k sz (roomsG gs) (roomsG gs).sum 0) R) : ∀ (rest : List S50) (i : Nat) (acc : List Int) (tot : Int), gs.drop i = rest → i ≤ gs.length → acc ++ roomsG rest = roomsG gs → tot + (roomsG rest).sum = (roomsG gs).sum → acc.length ≤ i → 0 ≤ tot → tot ≤ 24 * (i : Int) → Ev (fun k => spec_PlacesFor.l0 k sz acc tot gs (i : Int)) R
 | [], i, acc, tot, hd, hi, ha, ht, hal, h0, h1 => by
  have he := drop_end hd hi
  have e1 : acc = roomsG gs := by simpa [roomsG] using ha
  have e2 : tot = (roomsG gs).sum := by simpa [roomsG] using ht
  refine Ev.succ ?_
  simp only [spec_PlacesFor.l0]
  refine Ev.neg (by omega) ?_
  rw [e1, e2]
  exact next (by omega)
 | g :: rest, i, acc, tot, hd, hi, ha, ht, hal, h0, h1 => by
  obtain ⟨q1, q2, q3⟩ := drop_step z50 hd
  have er : rd_T50 gs (i : Int) = g := q2
  have hm : g ∈ gs := by rw [← q2, getD_gen _ q1]; exact List.getElem_mem _
  have hg := hp g hm
  have e3 : roomsG (g :: rest) = g.f2 :: roomsG rest := rfl
  rw [e3] at ha ht
  rw [List.sum_cons] at ht
  refine Ev.succ ?_
  simp only [spec_PlacesFor.l0, er]
  rw [wsucc i (by omega), wid _ (by omega) (by omega)]
  exact Ev.pos (by omega) (Ev.pos (by omega) (Ev.pos (by omega) (room_loop sz gs hl hp next rest (i + 1) (acc ++ [g.f2]) (tot + g.f2) q3 (by omega) (by rw [← ha, List.append_assoc]; rfl) (by omega) (by rw [List.length_append, List.length_singleton]; omega) (by omega) (by omega))))
theorem placesS_ev (cs : List S41) (hs : Small cs) (sizes : List Int) (hl : sizes.length ≤ 1048576) : Ev (fun k => spec_PlacesFor.f k cs sizes) (placesB cs sizes) := by
 have no : Ev (fun k => spec_PlacesFor.j0 k cs sizes true) ([], false) := by
  refine Ev.succ ?_
  simp only [spec_PlacesFor.j0]
  exact Ev.pos (by trivial) (Ev.ret _)
 unfold spec_PlacesFor.f placesB
 refine Ev.bind (bankok_ev cs hs) ?_
 by_cases hb : bankP cs = true
 ·refine Ev.pos hb (Ev.bind (sizesS_ev sizes hl) ?_)
  by_cases hz : sizesP sizes = true
  ·have hsz := (sizesP_iff sizes).mp hz
   rw [if_pos ⟨hb, hz⟩, hz]
   refine Ev.succ ?_
   simp only [spec_PlacesFor.j0]
   have e : bankGP cs = bankG 0 cs := by unfold bankGP; rw [if_pos hb]
   have hlen := e ▸ bankGP_len cs
   have hpos : ∀ g ∈ bankG 0 cs, 0 ≤ g.f2 ∧ g.f2 ≤ 24 := fun g hg => by have := bankGP_pos cs g (e ▸ hg); omega
   refine Ev.neg (by simp) (Ev.bind ((bankGapsS_ev cs hs).to e) ?_)
   refine room_loop sizes (bankG 0 cs) hlen hpos (fun hsum => ?_) (bankG 0 cs) 0 [] 0 rfl (by omega) rfl (by simp) (by simp) (by omega) (by omega)
   have hrr : ∀ r ∈ roomsG (bankG 0 cs), 0 ≤ r ∧ r ≤ 1000000000 := fun r hr => by
    obtain ⟨g, hg, rfl⟩ := List.mem_map.mp hr
    have := hpos g hg
    omega
   exact total_loop sizes (by omega) hsz.1 (roomsG (bankG 0 cs)) hrr (by rw [roomsG_len]; omega) sizes 0 _ rfl (by omega) (sum_pos _ (fun r h => (hrr r h).1)) (by omega) hsz.1 (by omega)
  ·rw [if_neg (fun h => hz h.2), show sizesP sizes = false by simpa using hz]
   exact no
 ·rw [if_neg (fun h => hb h.1)]
  exact Ev.neg hb no
theorem canS_ev (cs : List S41) (hs : Small cs) (sizes : List Int) (hl : sizes.length ≤ 1048576) : Ev (fun k => spec_CanHold.f k cs sizes) (canP cs sizes) := by
 unfold spec_CanHold.f
 refine Ev.bind (placesS_ev cs hs sizes hl) ((Ev.ret _).to ?_)
 unfold placesB canP
 by_cases h : bankP cs = true ∧ sizesP sizes = true
 ·rw [if_pos h, h.1, h.2]
  cases spreadP sizes (roomsG (bankG 0 cs)) <;> rfl
 ·rw [if_neg h]
  by_cases hb : bankP cs = true
  ·rw [hb, show sizesP sizes = false by simpa using fun hz => h ⟨hb, hz⟩]; rfl
  ·rw [show bankP cs = false by simpa using hb]; rfl
end Go.Proofs.Ytbpjidekjogfeaa.A

namespace Go.Proofs.Ytbpjidekjogfeaa.A
open Go.RowKit Go.Proofs.YtbpjidekjogfeaaW.PrintWords Go.Proofs.YtbpjidekjogfeaaW.PrintLast Go.Proofs.YtbpjidekjogfeaaW.PrintMore
set_option linter.unusedVariables false
set_option linter.unusedSimpArgs false
theorem pureFnExactCanHold : ∀ (l0 : List (S58)) (l1 : List Int), ok22 l0 → ok38 l1 → ∃ k, laws_FnExactCanHold.f k l0 l1 = some true := by
 rintro l sizes hl ⟨hz, _⟩
 unfold maxLen at hz
 refine Ev.get ?_
 unfold laws_FnExactCanHold.f
 by_cases c : (sizes.length : Int) > 1048576
 ·exact Ev.pos c (Ev.ret _)
 ·refine Ev.neg c ?_
  have hT2 := toIntS_ev sizes (by omega)
  rcases bank_begin l hl with ⟨r, h1, h2⟩ | ⟨⟨r, h1, h2⟩, hT, hs, _⟩
  ·exact Ev.bind h1 (Ev.pos h2 (Ev.ret _))
  ·refine Ev.bind h1 (Ev.neg (by omega) ?_)
   refine Ev.bind hT (Ev.bind hT2 (Ev.bind (canS_ev _ hs sizes (by omega)) (Ev.bind hT (Ev.bind hT2 (Ev.bind (can_ev _ hs sizes (by omega)) (Ev.neg (by simp) ?_))))))
   exact Ev.bind hT (Ev.bind (eqColumnS_ev _ hs) (Ev.pos (by trivial) (Ev.bind hT2 (Ev.bind (eqIntS_ev sizes (by omega)) (Ev.pos (by trivial) (Ev.ret _))))))
end Go.Proofs.Ytbpjidekjogfeaa.A
