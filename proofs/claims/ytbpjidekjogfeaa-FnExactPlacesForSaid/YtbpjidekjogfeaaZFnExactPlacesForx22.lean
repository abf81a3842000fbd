/- Used by the law FnExactPlacesFor. -/
import Derived.Test.YtbpjidekjogfeaaZFnExactPlacesForx21
import Derived.Test.YtbpjidekjogfeaaZFnExactPlacesForx12
import Derived.Test.YtbpjidekjogfeaaZFnExactPlacesForx17
import Derived.Test.YtbpjidekjogfeaaZFnExactPlacesForx15
import Derived.Test.YtbpjidekjogfeaaZFnExactPlacesForx13
import Derived.Test.YtbpjidekjogfeaaZFnExactPlacesForx14
import Derived.Test.YtbpjidekjogfeaaZFnExactPlacesForx16
import Derived.Test.YtbpjidekjogfeaaZFnExactPlacesForx19
import Derived.Test.YtbpjidekjogfeaaZFnExactPlacesForx20
import Derived.Test.YtbpjidekjogfeaaZFnExactPlacesForh
namespace Go.Proofs.Ytbpjidekjogfeaa.A
open Go.RowKit Go.Proofs.YtbpjidekjogfeaaW.PrintWords Go.Proofs.YtbpjidekjogfeaaW.PrintLast Go.Proofs.YtbpjidekjogfeaaW.PrintMore
set_option linter.unusedVariables false
set_option linter.unusedSimpArgs false
theorem idxP_add : ∀ (l : List S98) (p i : Int), 0 ≤ i → (idxP l p i = -1 ∧ ∀ b ∈ l, b.f2 ≠ p) ∨ ∃ l1 b l2, l = l1 ++ b :: l2 ∧ b.f2 = p ∧ (∀ x ∈ l1, x.f2 ≠ p) ∧ idxP l p i = i + l1.length
 | [], p, i, _ => Or.inl ⟨rfl, by simp⟩
 | b :: l, p, i, hi => by
  simp only [idxP]
  by_cases c : b.f2 = p
  ·rw [if_pos c]
   exact Or.inr ⟨[], b, l, rfl, c, by simp, by simp⟩
  ·rw [if_neg c]
   rcases idxP_add l p (i + 1) (by omega) with ⟨h1, h2⟩ | ⟨l1, x, l2, h1, h2, h3, h4⟩
   ·exact Or.inl ⟨h1, fun y hy => by
     rcases List.mem_cons.mp hy with rfl | hy
     ·exact c
     ·exact h2 y hy⟩
   ·refine Or.inr ⟨b :: l1, x, l2, by rw [h1]; rfl, h2, fun y hy => ?_, by rw [h4, List.length_cons]; omega⟩
    rcases List.mem_cons.mp hy with rfl | hy
    ·exact c
    ·exact h3 y hy
theorem idxP_cases (l : List S98) (p : Int) : (idxP l p 0 = -1 ∧ ∀ b ∈ l, b.f2 ≠ p) ∨ ∃ l1 b l2, l = l1 ++ b :: l2 ∧ b.f2 = p ∧ (∀ x ∈ l1, x.f2 ≠ p) ∧ idxP l p 0 = l1.length := by
 rcases idxP_add l p 0 (Int.le_refl _) with h | ⟨l1, b, l2, h1, h2, h3, h4⟩
 ·exact Or.inl h
 ·exact Or.inr ⟨l1, b, l2, h1, h2, h3, by rw [h4]; omega⟩
def boxI (l : List S98) (p : Int) : Int := if 0 < p then idxP l p 0 else -1
theorem box_loop (h : Int) (fx : List Int) (bx : List S98) (hl : bx.length ≤ 1048576) (p : Int) : ∀ (rest : List S98) (i : Nat), bx.drop i = rest → i ≤ bx.length → Ev (fun k => spec_l02Box.l0 k p (i : Int) h fx bx) (if 0 < p then idxP rest p (i : Int) else -1)
 | [], i, hd, hi => by
  have he := drop_end hd hi
  refine Ev.succ ?_
  simp only [spec_l02Box.l0]
  refine Ev.neg (by omega) ?_
  refine Ev.to (Ev.ret _) ?_
  simp [idxP]
 | b :: rest, i, hd, hi => by
  obtain ⟨h1, h2, h3⟩ := drop_step z98 hd
  have er : rd_T98 bx (i : Int) = b := h2
  have ih := box_loop h fx bx hl p rest (i + 1) h3 (by omega)
  refine Ev.succ ?_
  simp only [spec_l02Box.l0, er]
  refine Ev.pos (by omega) ?_
  refine Ev.pos (by omega) ?_
  rw [wsucc i (by omega)]
  by_cases c : b.f2 = p
  ·refine Ev.pos c ?_
   by_cases d : p > 0
   ·refine Ev.pos d (Ev.to (Ev.ret _) ?_)
    rw [if_pos d]
    simp only [idxP]
    rw [if_pos c]
   ·refine Ev.neg d (Ev.to ih ?_)
    rw [if_neg d, if_neg d]
  ·refine Ev.neg c (Ev.to ih ?_)
   simp only [idxP]
   rw [if_neg c]
   rfl
theorem box_ev (h : Int) (fx : List Int) (bx : List S98) (hl : bx.length ≤ 1048576) (p : Int) : Ev (fun k => spec_l02Box.f k h fx bx p) (boxI bx p) := by
 unfold spec_l02Box.f
 exact box_loop h fx bx hl p bx 0 rfl (by omega)
end Go.Proofs.Ytbpjidekjogfeaa.A

namespace Go.Proofs.Ytbpjidekjogfeaa.A
open Go.RowKit Go.Proofs.YtbpjidekjogfeaaW.PrintWords Go.Proofs.YtbpjidekjogfeaaW.PrintLast Go.Proofs.YtbpjidekjogfeaaW.PrintMore
set_option linter.unusedVariables false
set_option linter.unusedSimpArgs false
def Small (cs : List S41) : Prop := cs.length ≤ 1048576 ∧ ∀ c ∈ cs, c.f1.length ≤ 1048576 ∧ c.f2.length ≤ 1048576
def crossP (c d : S41) : Bool := d.f2.all (fun b => decide (boxI c.f2 b.f2 < 0))
def bankS : List S41 → List S41 → Bool
 | _, [] => true
 | pre, c :: rest => colP c.f0 c.f1 c.f2 && (pre.all (fun p => crossP p c) && bankS (pre ++ [c]) rest)
theorem bank2_loop (cs : List S41) (hs : Small cs) (i j : Nat) (hi : i < cs.length) (hj : j < i) (r : Bool) (hr : Ev (fun k => spec_BankOk.l1 k cs (i : Int) ((j + 1 : Nat) : Int)) r) :
  ∀ (rest : List S98) (n : Nat), (cs.getD i z41).f2.drop n = rest → n ≤ (cs.getD i z41).f2.length → Ev (fun k => spec_BankOk.l2 k cs (i : Int) (j : Int) (n : Int)) (rest.all (fun b => decide (boxI (cs.getD j z41).f2 b.f2 < 0)) && r)
 | [], n, hd, hn => by
  have he := drop_end hd hn
  have er : rd_T41 cs (i : Int) = cs.getD i z41 := rfl
  have hl := hs.1
  refine Ev.succ ?_
  simp only [spec_BankOk.l2, er]
  refine Ev.pos (by omega) (Ev.pos (by omega) (Ev.neg (by omega) ?_))
  rw [wsucc j (by omega)]
  exact hr
 | b :: rest, n, hd, hn => by
  obtain ⟨h1, h2, h3⟩ := drop_step z98 hd
  have er : rd_T41 cs (i : Int) = cs.getD i z41 := rfl
  have er2 : rd_T41 cs (j : Int) = cs.getD j z41 := rfl
  have eb : rd_T98 (cs.getD i z41).f2 (n : Int) = b := h2
  have hl := hs.1
  have hmem : cs.getD i z41 ∈ cs := by rw [getD_gen _ hi]; exact List.getElem_mem _
  have hmem2 : cs.getD j z41 ∈ cs := by rw [getD_gen _ (show j < cs.length by omega)]; exact List.getElem_mem _
  have hl2 := (hs.2 _ hmem).2
  have hl3 := (hs.2 _ hmem2).2
  have ih := bank2_loop cs hs i j hi hj r hr rest (n + 1) h3 (by omega)
  refine Ev.succ ?_
  simp only [spec_BankOk.l2, er, er2, eb, List.all_cons]
  refine Ev.pos (by omega) (Ev.pos (by omega) (Ev.pos (by omega) (Ev.pos (by omega) (Ev.pos (by omega) (Ev.pos (by omega) ?_)))))
  refine Ev.bind (box_ev _ _ _ hl3 _) ?_
  rw [wsucc n (by omega)]
  by_cases c : boxI (cs.getD j z41).f2 b.f2 < 0
  ·refine Ev.neg (by omega) ?_
   rw [decide_eq_true c, Bool.true_and]
   exact ih
  ·refine Ev.pos (by omega) ?_
   rw [decide_eq_false c, Bool.false_and, Bool.false_and]
   exact Ev.ret _
theorem bank1_loop (cs : List S41) (hs : Small cs) (i : Nat) (hi : i < cs.length) (r : Bool) (hr : Ev (fun k => spec_BankOk.l0 k cs ((i + 1 : Nat) : Int)) r) :
  ∀ (d j : Nat), j + d = i → Ev (fun k => spec_BankOk.l1 k cs (i : Int) (j : Int)) (((cs.take i).drop j).all (fun p => crossP p (cs.getD i z41)) && r)
 | 0, j, hj => by
  have hl := hs.1
  refine Ev.succ ?_
  simp only [spec_BankOk.l1]
  refine Ev.neg (by omega) ?_
  rw [wsucc i (by omega), List.drop_eq_nil_of_le (by rw [List.length_take]; omega), List.all_nil, Bool.true_and]
  exact hr
 | d + 1, j, hj => by
  have hl := hs.1
  have ih := bank1_loop cs hs i hi r hr d (j + 1) (by omega)
  have h2 := bank2_loop cs hs i j hi (by omega) _ ih (cs.getD i z41).f2 0 rfl (by omega)
  refine Ev.succ ?_
  simp only [spec_BankOk.l1]
  refine Ev.pos (by omega) (h2.to ?_)
  have e : (cs.take i).drop j = cs.getD j z41 :: (cs.take i).drop (j + 1) := by
   have hj2 : j < (cs.take i).length := by rw [List.length_take]; omega
   rw [drop_cons _ z41 j hj2, List.getD_eq_getElem?_getD, List.getElem?_take_of_lt (by omega), ← List.getD_eq_getElem?_getD]
  rw [e, List.all_cons, Bool.and_assoc]
  rfl
theorem bank0_loop (cs : List S41) (hs : Small cs) : ∀ (rest : List S41) (i : Nat), cs.drop i = rest → i ≤ cs.length → Ev (fun k => spec_BankOk.l0 k cs (i : Int)) (bankS (cs.take i) rest)
 | [], i, hd, hi => by
  have he := drop_end hd hi
  refine Ev.succ ?_
  simp only [spec_BankOk.l0, bankS]
  exact Ev.neg (by omega) (Ev.ret _)
 | c :: rest, i, hd, hi => by
  obtain ⟨h1, h2, h3⟩ := drop_step z41 hd
  have er : rd_T41 cs (i : Int) = c := h2
  have hc : c ∈ cs := by rw [← h2, getD_gen _ h1]; exact List.getElem_mem _
  have hcs := hs.2 c hc
  have ih := bank0_loop cs hs rest (i + 1) h3 (by omega)
  have hi1 := bank1_loop cs hs i h1 _ ih i 0 (by omega)
  refine Ev.succ ?_
  simp only [spec_BankOk.l0, er, bankS]
  refine Ev.pos (by omega) (Ev.pos (by omega) (Ev.bind (colok_ev _ _ (by omega) _ (by omega)) ?_))
  have et : cs.take (i + 1) = cs.take i ++ [c] := by
   rw [List.take_add_one, ← h2, List.getD_eq_getElem?_getD, List.getElem?_eq_getElem h1]
   rfl
  by_cases d : colP c.f0 c.f1 c.f2 = true
  ·refine Ev.pos d (hi1.to ?_)
   rw [d, Bool.true_and, List.drop_zero, h2, et]
  ·refine Ev.neg d ((Ev.ret _).to ?_)
   have : colP c.f0 c.f1 c.f2 = false := by simpa using d
   rw [this, Bool.false_and]
def crossV (c d : S41) : Prop := ∀ a ∈ c.f2, ∀ b ∈ d.f2, 0 < b.f2 → a.f2 ≠ b.f2
theorem boxI_neg (l : List S98) (p : Int) : boxI l p < 0 ↔ (0 < p → ∀ a ∈ l, a.f2 ≠ p) := by
 unfold boxI
 by_cases h : 0 < p
 ·rw [if_pos h]
  rcases idxP_cases l p with ⟨h1, h2⟩ | ⟨l1, b, l2, h1, h2, h3, h4⟩
  ·rw [h1]
   exact ⟨fun _ _ => h2, fun _ => by omega⟩
  ·rw [h4]
   constructor
   ·intro c; omega
   ·intro c
    exact absurd h2 (c h b (by rw [h1]; simp))
 ·rw [if_neg h]
  exact ⟨fun _ c => absurd c h, fun _ => by omega⟩
theorem crossP_iff (c d : S41) : crossP c d = true ↔ crossV c d := by
 unfold crossP crossV
 rw [List.all_eq_true]
 constructor
 ·intro h a ha b hb h0
  have := of_decide_eq_true (h b hb)
  exact (boxI_neg _ _).mp this h0 a ha
 ·intro h b hb
  exact decide_eq_true ((boxI_neg _ _).mpr (fun h0 a ha => h a ha b hb h0))
theorem bankS_iff : ∀ (rest pre : List S41), bankS pre rest = true ↔ (∀ c ∈ rest, colP c.f0 c.f1 c.f2 = true) ∧ (∀ p ∈ pre, ∀ c ∈ rest, crossV p c) ∧ rest.Pairwise crossV
 | [], pre => by simp [bankS]
 | c :: rest, pre => by
  simp only [bankS, Bool.and_eq_true]
  rw [bankS_iff rest, List.all_eq_true]
  constructor
  ·rintro ⟨h1, h2, h3, h4, h5⟩
   refine ⟨fun d hd => ?_, fun p hp d hd => ?_, List.pairwise_cons.mpr ⟨fun d hd => h4 c (by simp) d hd, h5⟩⟩
   ·rcases List.mem_cons.mp hd with rfl | hd
    ·exact h1
    ·exact h3 d hd
   ·rcases List.mem_cons.mp hd with rfl | hd
    ·exact (crossP_iff _ _).mp (h2 p hp)
    ·exact h4 p (by simp [hp]) d hd
  ·rintro ⟨h1, h2, h3⟩
   obtain ⟨h4, h5⟩ := List.pairwise_cons.mp h3
   refine ⟨h1 c (by simp), fun p hp => (crossP_iff _ _).mpr (h2 p hp c (by simp)), fun d hd => h1 d (by simp [hd]), fun p hp d hd => ?_, h5⟩
   rcases List.mem_append.mp hp with hp | hp
   ·exact h2 p hp d (by simp [hd])
   ·rw [List.mem_singleton.mp hp]; exact h4 d hd
theorem parP_iff : ∀ (bs : List S98) (ps : List Int), bs.Pairwise (fun a b => 0 < b.f2 → a.f2 ≠ b.f2) →
  ((∀ b ∈ bs, 0 < b.f2 → b.f2 ∉ ps) ∧ ∃ qs, parP bs ps = some qs ∧ ∀ x, x ∈ qs ↔ x ∈ ps ∨ ∃ b ∈ bs, b.f2 = x) ∨ (¬ (∀ b ∈ bs, 0 < b.f2 → b.f2 ∉ ps) ∧ parP bs ps = none)
 | [], ps, _ => Or.inl ⟨by simp, ps, rfl, by simp⟩
 | b :: bs, ps, hp => by
  obtain ⟨h1, h2⟩ := List.pairwise_cons.mp hp
  simp only [parP]
  by_cases c : 0 < b.f2 ∧ b.f2 ∈ ps
  ·rw [if_pos c]
   exact Or.inr ⟨fun h => h b (by simp) c.1 c.2, rfl⟩
  ·rw [if_neg c]
   rcases parP_iff bs (b.f2 :: ps) h2 with ⟨h3, qs, h4, h5⟩ | ⟨h3, h4⟩
   ·refine Or.inl ⟨fun x hx h0 => ?_, qs, h4, fun x => ?_⟩
    ·rcases List.mem_cons.mp hx with rfl | hx
     ·exact fun h => c ⟨h0, h⟩
     ·exact fun h => h3 x hx h0 (by simp [h])
    ·rw [h5 x, List.mem_cons]
     constructor
     ·rintro ((h | h) | ⟨y, hy, e⟩)
      ·exact Or.inr ⟨b, by simp, h.symm⟩
      ·exact Or.inl h
      ·exact Or.inr ⟨y, by simp [hy], e⟩
     ·rintro (h | ⟨y, hy, e⟩)
      ·exact Or.inl (Or.inr h)
      ·rcases List.mem_cons.mp hy with rfl | hy
       ·exact Or.inl (Or.inl e.symm)
       ·exact Or.inr ⟨y, hy, e⟩
   ·refine Or.inr ⟨fun h => h3 (fun x hx h0 hm => ?_), h4⟩
    rcases List.mem_cons.mp hm with e | hm
    ·exact h1 x hx h0 e.symm
    ·exact h x (by simp [hx]) h0 hm
theorem bankL_iff : ∀ (cs : List S41) (ps : List Int), bankL cs ps = true ↔ (∀ c ∈ cs, colP c.f0 c.f1 c.f2 = true) ∧ (∀ c ∈ cs, ∀ b ∈ c.f2, 0 < b.f2 → b.f2 ∉ ps) ∧ cs.Pairwise crossV
 | [], ps => by simp [bankL]
 | c :: cs, ps => by
  simp only [bankL, Bool.and_eq_true]
  by_cases hc : colP c.f0 c.f1 c.f2 = true
  ·have v := (colP_iff _ _ _).mp hc
   rcases parP_iff c.f2 ps ((parcs_iff _ _).mp v.par).2.2 with ⟨h3, qs, h4, h5⟩ | ⟨h3, h4⟩
   ·rw [h4]
    dsimp only
    rw [bankL_iff cs qs]
    constructor
    ·rintro ⟨_, g1, g2, g3⟩
     refine ⟨fun d hd => ?_, fun d hd b hb h0 => ?_, List.pairwise_cons.mpr ⟨fun d hd a ha b hb h0 e => g2 d hd b hb h0 ((h5 _).mpr (Or.inr ⟨a, ha, e⟩)), g3⟩⟩
     ·rcases List.mem_cons.mp hd with rfl | hd
      ·exact hc
      ·exact g1 d hd
     ·rcases List.mem_cons.mp hd with rfl | hd
      ·exact h3 b hb h0
      ·exact fun h => g2 d hd b hb h0 ((h5 _).mpr (Or.inl h))
    ·rintro ⟨g1, g2, g3⟩
     obtain ⟨g4, g5⟩ := List.pairwise_cons.mp g3
     refine ⟨hc, fun d hd => g1 d (by simp [hd]), fun d hd b hb h0 h => ?_, g5⟩
     rcases (h5 _).mp h with h | ⟨a, ha, e⟩
     ·exact g2 d (by simp [hd]) b hb h0 h
     ·exact g4 d hd a ha b hb h0 e
   ·rw [h4]
    dsimp only
    constructor
    ·rintro ⟨_, h⟩; simp at h
    ·rintro ⟨_, g2, _⟩
     exact absurd (fun b hb h0 => g2 c (by simp) b hb h0) h3
  ·constructor
   ·rintro ⟨h, _⟩; exact absurd h hc
   ·rintro ⟨h, _⟩; exact absurd (h c (by simp)) hc
structure BankV (cs : List S41) : Prop where
 len : 1 ≤ (cs.length : Int) ∧ (cs.length : Int) ≤ 6
 col : ∀ c ∈ cs, colP c.f0 c.f1 c.f2 = true
 cross : cs.Pairwise crossV
theorem bankP_iff (cs : List S41) : bankP cs = true ↔ BankV cs := by
 unfold bankP
 rw [Bool.and_eq_true, decide_eq_true_iff, bankL_iff]
 constructor
 ·rintro ⟨h1, h2, _, h3⟩; exact ⟨h1, h2, h3⟩
 ·rintro ⟨h1, h2, h3⟩; exact ⟨h1, h2, fun _ _ _ _ _ => by simp, h3⟩
theorem bankok_ev (cs : List S41) (hs : Small cs) : Ev (fun k => spec_BankOk.f k cs) (bankP cs) := by
 unfold spec_BankOk.f
 refine Ev.bind (Ev.const (in_eq _ _ _)) ?_
 by_cases c : 1 ≤ (cs.length : Int) ∧ (cs.length : Int) ≤ 6
 ·refine Ev.pos (decide_eq_true c) ?_
  refine (bank0_loop cs hs cs 0 rfl (by omega)).to ?_
  have e : bankS [] cs = bankL cs [] := by
   rw [Bool.eq_iff_iff, bankS_iff, bankL_iff]
   constructor
   ·rintro ⟨h1, _, h3⟩; exact ⟨h1, fun _ _ _ _ _ => by simp, h3⟩
   ·rintro ⟨h1, _, h3⟩; exact ⟨h1, fun p hp => absurd hp (by simp), h3⟩
  unfold bankP
  rw [decide_eq_true c, Bool.true_and, ← e]
  rfl
 ·refine Ev.neg (by simpa using c) ((Ev.ret _).to ?_)
  unfold bankP
  rw [decide_eq_false c, Bool.false_and]
def toI_Col (c : S58) : S41 := ⟨c.f0, c.f1, c.f2.map toI_Box⟩
def wt (l : List S58) : Int := (l.map (fun c => ((c.f1.length : Int) + c.f2.length))).foldr (· + ·) 0
theorem wt_nonneg : ∀ (l : List S58), 0 ≤ wt l
 | [] => Int.le_refl _
 | c :: l => by
  have := wt_nonneg l
  show 0 ≤ ((c.f1.length : Int) + c.f2.length) + wt l
  omega
theorem wt_mem : ∀ (l : List S58) (c : S58), c ∈ l → (c.f1.length : Int) + c.f2.length ≤ wt l
 | [], c, h => absurd h (by simp)
 | d :: l, c, h => by
  have hn := wt_nonneg l
  show _ ≤ ((d.f1.length : Int) + d.f2.length) + wt l
  rcases List.mem_cons.mp h with rfl | h
  ·omega
  ·have := wt_mem l c h; omega
theorem szS_loop (l : List S58) (hl : l.length ≤ 1048576) (hm : ∀ c ∈ l, c.f1.length ≤ 9223372036854775807 ∧ c.f2.length ≤ 9223372036854775807) : ∀ (rest : List S58) (i : Nat) (a : Int), l.drop i = rest → i ≤ l.length → 0 ≤ a → a ≤ 1048576 → Ev (fun k => laws_szColumnS.l0 k l a (i : Int)) (if a < wt rest then -1 else a - wt rest)
 | [], i, a, hd, hi, h0, h1 => by
  have he := drop_end hd hi
  refine Ev.succ ?_
  simp only [laws_szColumnS.l0]
  refine Ev.neg (by omega) ((Ev.ret _).to ?_)
  have : wt [] = 0 := rfl
  rw [this, if_neg (by omega)]
  omega
 | c :: rest, i, a, hd, hi, h0, h1 => by
  obtain ⟨h2, h3, h4⟩ := drop_step z58 hd
  have er : rd_T58 l (i : Int) = c := h3
  have hc : c ∈ l := by rw [← h3, getD_gen _ h2]; exact List.getElem_mem _
  have hn := wt_nonneg rest
  have ew : wt (c :: rest) = ((c.f1.length : Int) + c.f2.length) + wt rest := rfl
  refine Ev.succ ?_
  simp only [laws_szColumnS.l0, er]
  refine Ev.pos (by omega) (Ev.pos (by omega) (Ev.bind (Ev.const (szColumn_eq _ _ _ a h0 h1 (hm c hc).1 (hm c hc).2)) ?_))
  by_cases d : a < (c.f1.length : Int) + c.f2.length
  ·rw [if_pos d, if_pos (by omega)]
   exact Ev.pos (by omega) (Ev.ret _)
  ·rw [if_neg d, wsucc i (by omega)]
   refine Ev.neg (by omega) ((szS_loop l hl hm rest (i + 1) _ h4 (by omega) (by omega) (by omega)).to ?_)
   by_cases e : a < wt (c :: rest)
   ·rw [if_pos e, if_pos (by omega)]
   ·rw [if_neg e, if_neg (by omega)]
    omega
theorem szS_ev (l : List S58) (hl : l.length ≤ 9223372036854775807) (hm : ∀ c ∈ l, c.f1.length ≤ 9223372036854775807 ∧ c.f2.length ≤ 9223372036854775807) : ∃ r : Int, Ev (fun k => laws_szColumnS.f k l 1048576) r ∧ (r < 0 ∨ (0 ≤ r ∧ (l.length : Int) + wt l ≤ 1048576)) := by
 have hn := wt_nonneg l
 unfold laws_szColumnS.f
 rw [wid (1048576 - (l.length : Int)) (by omega) (by omega)]
 by_cases c : 1048576 - (l.length : Int) < 0
 ·exact ⟨-1, Ev.pos c (Ev.ret _), Or.inl (by omega)⟩
 ·refine ⟨_, Ev.neg c (szS_loop l (by omega) hm l 0 _ rfl (by omega) (by omega) (by omega)), ?_⟩
  by_cases d : 1048576 - (l.length : Int) < wt l
  ·rw [if_pos d]; exact Or.inl (by omega)
  ·rw [if_neg d]; exact Or.inr ⟨by omega, by omega⟩
theorem map_ev {α β : Type} {L : Nat → List β → Int → Option (List β)} {xs : List α} {g : α → β} (d0 : α)
  (h : ∀ acc (i : Nat) r, i < xs.length → acc.length = xs.length → Ev (fun k => L k (acc.set i (g (xs.getD i d0))) ((i + 1 : Nat) : Int)) r → Ev (fun k => L k acc (i : Int)) r)
  (he : ∀ acc, Ev (fun k => L k acc (xs.length : Int)) acc) : ∀ (d : Nat) acc i, i + d = xs.length → acc.length = xs.length → (∀ j, j < i → acc[j]? = (xs.map g)[j]?) → Ev (fun k => L k acc (i : Int)) (xs.map g)
 | 0, acc, i, hi, hl, hp => by
  obtain rfl : i = xs.length := by omega
  refine (he acc).to ?_
  apply List.ext_getElem?
  intro j
  by_cases hj : j < xs.length
  ·exact hp j hj
  ·rw [List.getElem?_eq_none (by omega), List.getElem?_eq_none (by simp; omega)]
 | d + 1, acc, i, hi, hl, hp => by
  refine h acc i _ (by omega) hl (map_ev d0 h he d _ (i + 1) (by omega) (by simp [hl]) (fun j hj => ?_))
  by_cases e : i = j
  ·subst e
   rw [List.getElem?_set_self (by omega), List.getElem?_map, List.getElem?_eq_getElem (show i < xs.length by omega), List.getD_eq_getElem?_getD, List.getElem?_eq_getElem (show i < xs.length by omega)]
   rfl
  ·rw [List.getElem?_set_ne e]
   exact hp j (by omega)
theorem toColumnS_ev (l : List S58) (hl : l.length ≤ 1048576) (hm : ∀ c ∈ l, c.f1.length ≤ 1048576 ∧ c.f2.length ≤ 1048576) : Ev (fun k => laws_toColumnS.f k l) (l.map toI_Col) := by
 unfold laws_toColumnS.f
 refine Ev.pos (by omega) (Ev.pos (by omega) ?_)
 refine map_ev (L := fun k acc i => laws_toColumnS.l0 k l acc i) z58 (fun acc i r hi ha ih => ?_) (fun acc => ?_) l.length _ 0 (by omega) (by simp) (fun j hj => by omega)
 ·refine Ev.succ ?_
  simp only [laws_toColumnS.l0]
  have er : rd_T58 l (i : Int) = l.getD i z58 := rfl
  have hc : l.getD i z58 ∈ l := by rw [getD_gen _ hi]; exact List.getElem_mem _
  rw [er, wsucc i (by omega)]
  refine Ev.pos (by omega) (Ev.pos (by omega) (Ev.bind (toColumn_ev _ _ _ (hm _ hc).1 (hm _ hc).2) (Ev.pos (by omega) ?_)))
  exact ih
 ·refine Ev.succ ?_
  simp only [laws_toColumnS.l0]
  exact Ev.neg (by omega) (Ev.ret _)
theorem eqColumnS_ev (l : List S41) (hs : Small l) : Ev (fun k => laws_eqColumnS.f k l l) true := by
 have hl := hs.1
 have go : ∀ (rest : List S41) (i : Nat), l.drop i = rest → i ≤ l.length → Ev (fun k => laws_eqColumnS.l0 k l l (i : Int)) true := by
  intro rest
  induction rest with
  | nil =>
   intro i hd hi
   have he := drop_end hd hi
   refine Ev.succ ?_
   simp only [laws_eqColumnS.l0]
   exact Ev.neg (by omega) (Ev.ret _)
  | cons c rest ih =>
   intro i hd hi
   obtain ⟨h1, h2, h3⟩ := drop_step z41 hd
   have er : rd_T41 l (i : Int) = c := h2
   have hc : c ∈ l := by rw [← h2, getD_gen _ h1]; exact List.getElem_mem _
   refine Ev.succ ?_
   simp only [laws_eqColumnS.l0, er]
   rw [wsucc i (by omega)]
   exact Ev.pos (by omega) (Ev.pos (by omega) (Ev.pos (by omega) (Ev.bind (eqColumn_ev _ _ _ (hs.2 c hc).1 (hs.2 c hc).2) (Ev.pos (by trivial) (ih (i + 1) h3 (by omega))))))
 unfold laws_eqColumnS.f
 exact Ev.pos rfl (go l 0 rfl (by omega))
theorem bank_begin (l : List S58) (hl : ok22 l) : (∃ r : Int, Ev (fun k => laws_szColumnS.f k l 1048576) r ∧ r < 0) ∨ (∃ r : Int, Ev (fun k => laws_szColumnS.f k l 1048576) r ∧ 0 ≤ r) ∧ Ev (fun k => laws_toColumnS.f k l) (l.map toI_Col) ∧ Small (l.map toI_Col) ∧ (l.length : Int) + wt l ≤ 1048576 := by
 obtain ⟨h1, h2⟩ := hl
 unfold maxLen at h1
 obtain ⟨r, hr, h3⟩ := szS_ev l (by omega) (fun c hc => by
  obtain ⟨_, ⟨h4, _⟩, ⟨h5, _⟩⟩ := h2 c hc
  unfold maxLen at h4 h5
  exact ⟨by omega, by omega⟩)
 rcases h3 with h3 | ⟨h3, h4⟩
 ·exact Or.inl ⟨r, hr, h3⟩
 ·have hn := wt_nonneg l
  have hm : ∀ c ∈ l, c.f1.length ≤ 1048576 ∧ c.f2.length ≤ 1048576 := fun c hc => by
   have := wt_mem l c hc
   omega
  refine Or.inr ⟨⟨r, hr, h3⟩, toColumnS_ev l (by omega) hm, ⟨by rw [List.length_map]; omega, fun c hc => ?_⟩, h4⟩
  obtain ⟨d, hd, rfl⟩ := List.mem_map.mp hc
  have := hm d hd
  exact ⟨this.1, by show (d.f2.map toI_Box).length ≤ _; rw [List.length_map]; exact this.2⟩
end Go.Proofs.Ytbpjidekjogfeaa.A

namespace Go.Proofs.Ytbpjidekjogfeaa.A
open Go.RowKit Go.Proofs.YtbpjidekjogfeaaW.PrintWords Go.Proofs.YtbpjidekjogfeaaW.PrintLast Go.Proofs.YtbpjidekjogfeaaW.PrintMore
attribute [local go_sem] max2_int min2_int max_two min_two max_three min_three max_four min_four   
set_option linter.unusedVariables false
set_option linter.unusedSimpArgs false
def IsS116 (w0 W : World) (g : Nat) (f0 : List Int) (f1 : Int) (f2 : Int) : Prop := ∃ A0 c0, W.heap[g]? = some (.cells #[.slice A0 f0.length c0, .int .i64 f1, .int .i64 f2] 116 (0, 0)) ∧ w0.heap.size ≤ g ∧ Kd.C (Kd.int .u8) w0 A0 f0.length f0
theorem IsS116.grown {w0 W : World} {g : Nat} {f0 : List Int} {f1 : Int} {f2 : Int} {W1 : World} {row : Option Nat} (h : IsS116 w0 W g f0 f1 f2) (hw : W.grownBy W1 row) (hne : some g ≠ row) : IsS116 w0 W1 g f0 f1 f2 := by
 obtain ⟨A0, c0, hb, hg, hr0⟩ := h
 exact ⟨A0, c0, blk_grown hb hw hne, hg, hr0⟩
theorem IsS116.kept {w0 W : World} {g : Nat} {f0 : List Int} {f1 : Int} {f2 : Int} {W1 : World} {S : Nat → Prop} (h : IsS116 w0 W g f0 f1 f2) (hk : Kept W W1 S) (hne : ¬ S g) : IsS116 w0 W1 g f0 f1 f2 := by
 obtain ⟨A0, c0, hb, hg, hr0⟩ := h
 exact ⟨A0, c0, blk_kept hb hk hne, hg, hr0⟩
theorem IsS116.below {w0 W : World} {g : Nat} {f0 : List Int} {f1 : Int} {f2 : Int} {W1 : World} (h : IsS116 w0 W g f0 f1 f2) (hw : Below W.heap.size W W1) : IsS116 w0 W1 g f0 f1 f2 := h.grown (grown_of_below hw none) (by simp)
theorem IsS116.alloc {w0 W : World} {g : Nat} {f0 : List Int} {f1 : Int} {f2 : Int} (h : IsS116 w0 W g f0 f1 f2) (o : Obj) : IsS116 w0 (W.alloc o) g f0 f1 f2 := h.below (below_alloc (Below.refl _ _) o)
theorem IsS116.drewN {w0 W : World} {g : Nat} {f0 : List Int} {f1 : Int} {f2 : Int} (h : IsS116 w0 W g f0 f1 f2) (m : Nat) : IsS116 w0 (W.drewN m) g f0 f1 f2 := h
theorem IsS116.drew {w0 W : World} {g : Nat} {f0 : List Int} {f1 : Int} {f2 : Int} (h : IsS116 w0 W g f0 f1 f2) : IsS116 w0 W.drew g f0 f1 f2 := h
theorem IsS116.at_ {w0 W : World} {g : Nat} {f0 : List Int} {f1 : Int} {f2 : Int} {w' : World} {m : Nat} (hq : W.drewN m = w') (h : IsS116 w0 W g f0 f1 f2) : IsS116 w0 w' g f0 f1 f2 := by subst hq; exact IsS116.drewN h m
theorem IsS116.apart {w0 W : World} {g : Nat} {f0 : List Int} {f1 : Int} {f2 : Int} {α : Type} {d : Kd α} {e : Nat} {base : Nat} {ok : Nat → Prop} {v : Value} {xs : List α} (h : IsS116 w0 W g f0 f1 f2) (ho : d.R e W base ok v xs) (ht : ∀ q, q ∈ e :: d.E → q ≠ 116) : d.R e W base (fun k => ok k ∧ k ≠ g) v xs := by
 obtain ⟨A0, c0, hb, hg, hr0⟩ := h
 exact Kd.R_types ho hb ht
theorem IsS116.own_ne {w0 W : World} {g : Nat} {f0 : List Int} {f1 : Int} {f2 : Int} {α : Type} {d : Kd α} {e : Nat} {base : Nat} {ok : Nat → Prop} {v : Value} {xs : List α} (h : IsS116 w0 W g f0 f1 f2) (ho : d.R e W base ok v xs) (ht : e ≠ 116) : some g ≠ v.ownBlock := by
 obtain ⟨A0, c0, hb, hg, hr0⟩ := h
 exact Kd.R_ne ho hb ht
theorem IsS116.lt {w0 W : World} {g : Nat} {f0 : List Int} {f1 : Int} {f2 : Int} (h : IsS116 w0 W g f0 f1 f2) : g < W.heap.size := by
 obtain ⟨A0, c0, hb, hg, hr0⟩ := h
 exact blk_lt hb
theorem IsS116.ge {w0 W : World} {g : Nat} {f0 : List Int} {f1 : Int} {f2 : Int} (h : IsS116 w0 W g f0 f1 f2) : w0.heap.size ≤ g := by
 obtain ⟨A0, c0, hb, hg, hr0⟩ := h
 exact hg
theorem IsS116.far {w0 W : World} {g : Nat} {f0 : List Int} {f1 : Int} {f2 : Int} {p : Addr} (h : IsS116 w0 W g f0 f1 f2) (hne : g ≠ p.block) (u : Value) : IsS116 w0 (W.setCell p u) g f0 f1 f2 := by
 obtain ⟨A0, c0, hb, hg, hr0⟩ := h
 exact ⟨A0, c0, blk_far hb hne u, hg, hr0⟩
theorem IsS116.set_1 {w0 W : World} {g : Nat} {f0 : List Int} {f1 : Int} {f2 : Int} (h : IsS116 w0 W g f0 f1 f2) (x : Int) : IsS116 w0 (W.setCell ⟨g, 1, none⟩ (.int .i64 x)) g f0 x f2 := by
 obtain ⟨A0, c0, hb, hg, hr0⟩ := h
 exact ⟨A0, c0, by simpa using blk_set hb 1 (.int .i64 x), hg, hr0⟩
theorem IsS116.set_2 {w0 W : World} {g : Nat} {f0 : List Int} {f1 : Int} {f2 : Int} (h : IsS116 w0 W g f0 f1 f2) (x : Int) : IsS116 w0 (W.setCell ⟨g, 2, none⟩ (.int .i64 x)) g f0 f1 x := by
 obtain ⟨A0, c0, hb, hg, hr0⟩ := h
 exact ⟨A0, c0, by simpa using blk_set hb 2 (.int .i64 x), hg, hr0⟩
theorem IsS116.new (w0 W : World) (A0 : Option Addr) (c0 : Nat) (f0 : List Int) (f1 : Int) (f2 : Int) (hB : Below w0.heap.size w0 W) (hr0 : Kd.C (Kd.int .u8) w0 A0 f0.length f0) : IsS116 w0 (W.alloc (.cells #[.slice A0 f0.length c0, .int .i64 f1, .int .i64 f2] 116)) W.heap.size f0 f1 f2 := ⟨A0, c0, by simpa using heap_alloc_new W _, hB.size, hr0⟩
end Go.Proofs.Ytbpjidekjogfeaa.A

namespace Go.Proofs.Ytbpjidekjogfeaa.A
open Go.RowKit Go.Proofs.YtbpjidekjogfeaaW.PrintWords Go.Proofs.YtbpjidekjogfeaaW.PrintLast Go.Proofs.YtbpjidekjogfeaaW.PrintMore
set_option linter.unusedVariables false
set_option linter.unusedSimpArgs false
theorem has_loop (l : List Int) (hl : l.length ≤ 1048576) (x : Int) : ∀ (rest : List Int) (i : Nat), l.drop i = rest → i ≤ l.length → Ev (fun k => spec_l02Has.l0 k l x (i : Int)) (decide (x ∈ rest))
 | [], i, hd, hi => by
  have he := drop_end hd hi
  refine Ev.succ ?_
  simp only [spec_l02Has.l0]
  exact Ev.neg (by omega) ((Ev.ret _).to (by simp))
 | b :: rest, i, hd, hi => by
  obtain ⟨h1, h2, h3⟩ := drop_step 0 hd
  have er : rd l (i : Int) = b := h2
  have ih := has_loop l hl x rest (i + 1) h3 (by omega)
  refine Ev.succ ?_
  simp only [spec_l02Has.l0, er]
  refine Ev.pos (by omega) (Ev.pos (by omega) ?_)
  rw [wsucc i (by omega)]
  by_cases c : b = x
  ·exact Ev.pos c ((Ev.ret _).to (by simp [c]))
  ·refine Ev.neg c (ih.to ?_)
   rw [decide_eq_decide, List.mem_cons]
   constructor
   ·exact Or.inr
   ·rintro (h | h)
    ·exact absurd h.symm c
    ·exact h
theorem has_ev (l : List Int) (hl : l.length ≤ 1048576) (x : Int) : Ev (fun k => spec_l02Has.f k l x) (decide (x ∈ l)) := by
 unfold spec_l02Has.f
 exact has_loop l hl x l 0 rfl (by omega)
theorem index_loop (l : List Int) (hl : l.length ≤ 1048576) (x : Int) : ∀ (rest : List Int) (i : Nat), l.drop i = rest → i ≤ l.length → ∃ r : Int, Ev (fun k => slices_Index_int_int.l0 k l x (l.length : Int) (i : Int)) r ∧ (0 ≤ r ↔ x ∈ rest)
 | [], i, hd, hi => by
  have he := drop_end hd hi
  refine ⟨-1, Ev.succ ?_, by simp⟩
  simp only [slices_Index_int_int.l0]
  exact Ev.neg (by omega) (Ev.ret _)
 | b :: rest, i, hd, hi => by
  obtain ⟨h1, h2, h3⟩ := drop_step 0 hd
  have er : rd l (i : Int) = b := h2
  by_cases c : x = b
  ·refine ⟨(i : Int), Ev.succ ?_, by simp [c]⟩
   simp only [slices_Index_int_int.l0, er]
   exact Ev.pos (by omega) (Ev.pos (by omega) (Ev.pos (by omega) (Ev.pos c (Ev.ret _))))
  ·obtain ⟨r, h4, h5⟩ := index_loop l hl x rest (i + 1) h3 (by omega)
   refine ⟨r, Ev.succ ?_, by rw [h5, List.mem_cons]; constructor; exact Or.inr; rintro (h | h); exact absurd h c; exact h⟩
   simp only [slices_Index_int_int.l0, er]
   refine Ev.pos (by omega) (Ev.pos (by omega) (Ev.pos (by omega) (Ev.neg c ?_)))
   rw [wsucc i (by omega)]
   exact h4
theorem contains_ev (l : List Int) (hl : l.length ≤ 1048576) (x : Int) : Ev (fun k => slices_Contains_int_int.f k l x) (decide (x ∈ l)) := by
 obtain ⟨r, h1, h2⟩ := index_loop l hl x l 0 rfl (by omega)
 unfold slices_Contains_int_int.f slices_Index_int_int.f
 refine Ev.bind h1 ((Ev.ret _).to ?_)
 rw [decide_eq_decide]
 exact h2
def toRun (d : List S98 × List S98 × List S98) : S113 := ⟨gapR d.2.1, (d.1.length : Int), (d.1.length : Int) + (d.2.1.length : Int)⟩
def emT (pre cur : List S98) : List S113 := if cur = [] then [] else [⟨gapR cur, (pre.length : Int), (pre.length : Int) + (cur.length : Int)⟩]
theorem emD_run (pre cur bs : List S98) : (emD pre cur bs).map toRun = emT pre cur := by
 unfold emD emT; split <;> rfl
theorem emT_len (pre cur : List S98) : (emT pre cur).length ≤ 1 ∧ (cur = [] → emT pre cur = []) := by
 unfold emT; split
 ·next h => exact ⟨by simp, fun _ => rfl⟩
 ·next h => exact ⟨by simp, fun c => absurd c h⟩
theorem gapR_snoc {cur : List S98} (h : cur ≠ []) (b : S98) : gapR (cur ++ [b]) = ⟨(gapR cur).f0, (gapR cur).f1, (gapR cur).f2 + b.f1⟩ := by
 cases cur with
 | nil => exact absurd rfl h
 | cons x cur =>
  show (S50.mk 0 x.f0 (sumB (x :: cur ++ [b]))) = S50.mk 0 x.f0 (sumB (x :: cur) + b.f1)
  rw [sumB_app]
  have : sumB [b] = b.f1 := by rw [sumB_cons, sumB_nil]; omega
  rw [this]
theorem getD_end {α : Type} (l : List α) (s d : α) : (l ++ [s]).getD l.length d = s := by
 rw [List.getD_eq_getElem?_getD, List.getElem?_append_right (Nat.le_refl _), Nat.sub_self]; rfl
theorem set_end {α : Type} (l : List α) (s t : α) : (l ++ [s]).set l.length t = l ++ [t] := by
 rw [List.set_append_right _ _ (Nat.le_refl _), Nat.sub_self]; rfl
theorem runs_loop (h : Int) (fx : List Int) (hf : fx.length ≤ 1048576) (bx : List S98) (hl : bx.length ≤ 24) (hm : ∀ b ∈ bx, 1 ≤ b.f1 ∧ b.f1 ≤ 24) :
  ∀ (rest : List S98) (i : Nat) (pre cur : List S98) (done : List S113), bx.drop i = rest → i ≤ bx.length → pre.length + cur.length = i → done.length ≤ i → 0 ≤ sumB cur → sumB cur ≤ 24 * (i : Int) →
  Ev (fun k => impl_runsOf.l0 k (done ++ emT pre cur) (decide (cur ≠ [])) bx (bx.length : Int) (i : Int) h fx bx) (done ++ (decs fx pre cur rest).map toRun)
 | [], i, pre, cur, done, hd, hi, hp, hn, s0, s1 => by
  have he := drop_end hd hi
  refine Ev.succ ?_
  simp only [impl_runsOf.l0, decs]
  rw [emD_run]
  exact Ev.neg (by omega) (Ev.ret _)
 | b :: rest, i, pre, cur, done, hd, hi, hp, hn, s0, s1 => by
  obtain ⟨h1, h2, h3⟩ := drop_step z98 hd
  have er : rd_T98 bx (i : Int) = b := h2
  have hb : b ∈ bx := by rw [← h2, getD_gen _ h1]; exact List.getElem_mem _
  have hbb := hm b hb
  have hl1 := emT_len pre cur
  refine Ev.succ ?_
  simp only [impl_runsOf.l0, er]
  refine Ev.pos (by omega) (Ev.pos (by omega) (Ev.pos (by omega) ?_))
  have go : ∀ (s : Bool), s = !opB b → Ev (fun k => impl_runsOf.j1 k (done ++ emT pre cur) (decide (cur ≠ [])) (i : Int) bx (bx.length : Int) (i : Int) s h fx bx b.f0 b.f1 b.f2 b.f3) (done ++ (decs fx pre cur (b :: rest)).map toRun) := by
   intro s hs
   refine Ev.succ ?_
   simp only [impl_runsOf.j1, decs]
   rw [wsucc i (by omega)]
   cases hob : opB b with
   | false =>
    rw [hob] at hs
    subst hs
    rw [if_neg (by simp), List.map_append, emD_run, ← List.append_assoc]
    have ih := runs_loop h fx hf bx hl hm rest (i + 1) (pre ++ cur ++ [b]) [] (done ++ emT pre cur) h3 (by omega) (by simp; omega) (by simp; omega) (by rw [sumB_nil]; omega) (by rw [sumB_nil]; omega)
    rw [(emT_len _ _).2 rfl, List.append_nil] at ih
    exact Ev.pos (by trivial) (ih.to rfl)
   | true =>
    rw [hob] at hs
    subst hs
    refine Ev.neg (by simp) ?_
    rw [if_pos rfl]
    have new : (cur ≠ [] → b.f0 ∈ fx) → Ev (fun k => if (done ++ emT pre cur).length < 3518437208883 then impl_runsOf.l0 k (done ++ emT pre cur ++ [⟨⟨0, b.f0, b.f1⟩, (i : Int), ((i + 1 : Nat) : Int)⟩]) true bx (bx.length : Int) ((i + 1 : Nat) : Int) h fx bx else none) (done ++ (if cur ≠ [] ∧ b.f0 ∉ fx then decs fx pre (cur ++ [b]) rest else emD pre cur (b :: rest) ++ decs fx (pre ++ cur) [b] rest).map toRun) := by
     intro hc
     rw [if_neg (fun e => e.2 (hc e.1)), List.map_append, emD_run, ← List.append_assoc]
     have sb : sumB [b] = b.f1 := by rw [sumB_cons, sumB_nil]; omega
     have ih := runs_loop h fx hf bx hl hm rest (i + 1) (pre ++ cur) [b] (done ++ emT pre cur) h3 (by omega) (by simp; omega) (by simp; omega) (by rw [sb]; omega) (by rw [sb]; omega)
     refine Ev.pos (by simp; omega) (Ev.of_eq ih (fun k => ?_))
     have e : emT (pre ++ cur) [b] = [⟨⟨0, b.f0, b.f1⟩, (i : Int), ((i + 1 : Nat) : Int)⟩] := by
      unfold emT
      rw [if_neg (by simp)]
      show [(S113.mk (S50.mk 0 b.f0 (sumB [b])) _ _)] = _
      rw [sb, List.length_append, hp]
      rfl
     rw [e]
     rfl
    by_cases hc : cur = []
    ·have e : decide (cur ≠ []) = false := by simp [hc]
     rw [e]
     refine Ev.neg (by simp) ?_
     exact new (fun c => absurd hc c)
    ·have e : decide (cur ≠ []) = true := by simp [hc]
     rw [e]
     refine Ev.pos rfl ?_
     refine Ev.bind (contains_ev fx hf b.f0) ?_
     by_cases hfx : b.f0 ∈ fx
     ·refine Ev.pos (decide_eq_true hfx) ?_
      exact new (fun _ => hfx)
     ·refine Ev.neg (by simpa using hfx) ?_
      rw [if_pos ⟨hc, hfx⟩]
      have eT : emT pre cur = [⟨gapR cur, (pre.length : Int), (pre.length : Int) + (cur.length : Int)⟩] := by unfold emT; rw [if_neg hc]
      have ih := runs_loop h fx hf bx hl hm rest (i + 1) pre (cur ++ [b]) done h3 (by omega) (by simp; omega) (by omega) (by rw [sumB_app, sumB_cons, sumB_nil]; omega) (by rw [sumB_app, sumB_cons, sumB_nil]; omega)
      have eT2 : emT pre (cur ++ [b]) = [⟨⟨(gapR cur).f0, (gapR cur).f1, (gapR cur).f2 + b.f1⟩, (pre.length : Int), (i : Int) + 1⟩] := by
       unfold emT
       rw [if_neg (by simp), gapR_snoc hc, List.length_append]
       simp
       omega
      rw [eT2] at ih
      rw [eT]
      have hw : wrap64 (((done ++ [(S113.mk (gapR cur) (pre.length : Int) ((pre.length : Int) + (cur.length : Int)))]).length : Int) - 1) = (done.length : Int) := by
       simp; unfold wrap64; omega
      have hg : (gapR cur).f2 = sumB cur := by cases cur with | nil => exact absurd rfl hc | cons x cur => rfl
      rw [hw]
      have hrd : ∀ v : S113, rd_T113 (done ++ [v]) (done.length : Int) = v := fun v => getD_end done v _
      refine Ev.pos (by omega) (Ev.pos (by simp; omega) ?_)
      simp only [hrd, Int.toNat_natCast, set_end, Option.bind_some]
      refine Ev.of_eq ih (fun k => ?_)
      rw [wid ((gapR cur).f2 + b.f1) (by omega) (by omega), show (pre.length : Int) + (cur.length : Int) = (i : Int) by omega, wid ((i : Int) + 1) (by omega) (by omega)]
      have e2 : decide (cur ++ [b] ≠ []) = true := by simp
      rw [e2]
  by_cases c2 : b.f2 = 0
  ·refine Ev.pos c2 (go b.f3 ?_)
   unfold opB
   rw [decide_eq_true c2, Bool.true_and, Bool.not_not]
  ·refine Ev.neg c2 (go true ?_)
   unfold opB
   rw [decide_eq_false c2]
   rfl
theorem runs_ev (h : Int) (fx : List Int) (hf : fx.length ≤ 1048576) (bx : List S98) (hl : bx.length ≤ 24) (hm : ∀ b ∈ bx, 1 ≤ b.f1 ∧ b.f1 ≤ 24) : Ev (fun k => impl_runsOf.f k h fx bx) ((decs fx [] [] bx).map toRun) := by
 unfold impl_runsOf.f
 exact runs_loop h fx hf bx hl hm bx 0 [] [] [] rfl (by omega) rfl (by simp) (by rw [sumB_nil]; omega) (by rw [sumB_nil]; omega)
theorem gapsW_len (fx : List Int) : ∀ (bs cur : List S98), (gapsW fx cur bs).length ≤ bs.length + (emR cur).length
 | [], cur => by simp [gapsW]
 | b :: bs, cur => by
  have e1 : ∀ (x : List S98), (emR x).length ≤ 1 := fun x => by unfold emR; split <;> simp
  have e0 : emR [] = [] := rfl
  simp only [gapsW]
  split
  ·split
   ·next h =>
    have := gapsW_len fx bs (cur ++ [b])
    have e2 : (emR cur).length = 1 := by unfold emR; rw [if_neg h.1]; rfl
    have := e1 (cur ++ [b])
    simp; omega
   ·have := gapsW_len fx bs [b]
    have := e1 [b]
    simp; omega
  ·have := gapsW_len fx bs []
   rw [e0] at this
   simp at this ⊢; omega
theorem gapsB_len (fx : List Int) (bx : List S98) : (gapsB fx bx).length ≤ bx.length := by
 have := gapsW_len fx bx []
 have e0 : emR [] = [] := rfl
 rw [e0] at this
 unfold gapsB
 simpa using this
def gapsP (h : Int) (fx : List Int) (bx : List S98) : List S50 := if colP h fx bx = true then gapsB fx bx else []
theorem open_eq (a b c : Int) (d : Bool) : spec_l02Open.f a b c d = some (opB ⟨a, b, c, d⟩) := by
 unfold spec_l02Open.f opB
 dsimp only
 by_cases h : c = 0
 ·rw [if_pos h, decide_eq_true h, Bool.true_and]
 ·rw [if_neg h, decide_eq_false h, Bool.false_and]
theorem gapsS_loop (h : Int) (fx : List Int) (hf : fx.length ≤ 1048576) (bx : List S98) (hl : bx.length ≤ 24) (hm : ∀ b ∈ bx, 1 ≤ b.f1 ∧ b.f1 ≤ 24) :
  ∀ (rest : List S98) (i : Nat) (cur : List S98) (done : List S50), bx.drop i = rest → i ≤ bx.length → done.length ≤ i → 0 ≤ sumB cur → sumB cur ≤ 24 * (i : Int) → (cur ≠ [] ↔ 0 < i ∧ opB (bx.getD (i - 1) z98) = true) →
  Ev (fun k => spec_GapsOf.l0 k (done ++ emR cur) (i : Int) h fx bx) (done ++ gapsW fx cur rest)
 | [], i, cur, done, hd, hi, hn, s0, s1, hc => by
  have he := drop_end hd hi
  refine Ev.succ ?_
  simp only [spec_GapsOf.l0, gapsW]
  exact Ev.neg (by omega) (Ev.ret _)
 | b :: rest, i, cur, done, hd, hi, hn, s0, s1, hc => by
  obtain ⟨h1, h2, h3⟩ := drop_step z98 hd
  have er : rd_T98 bx (i : Int) = b := h2
  have hb : b ∈ bx := by rw [← h2, getD_gen _ h1]; exact List.getElem_mem _
  have hbb := hm b hb
  have eb : (S98.mk b.f0 b.f1 b.f2 b.f3) = b := rfl
  have hl1 : (emR cur).length ≤ 1 := by unfold emR; split <;> simp
  refine Ev.succ ?_
  simp only [spec_GapsOf.l0, er, gapsW]
  rw [wsucc i (by omega)]
  refine Ev.pos (by omega) (Ev.pos (by omega) ?_)
  refine Ev.bind (Ev.const (open_eq _ _ _ _)) ?_
  rw [eb]
  have nxt : opB (bx.getD (i + 1 - 1) z98) = opB b := by rw [Nat.add_sub_cancel, h2]
  cases hob : opB b with
  | false =>
   refine Ev.neg (by simp) ?_
   rw [if_neg (by simp), ← List.append_assoc]
   have ih := gapsS_loop h fx hf bx hl hm rest (i + 1) [] (done ++ emR cur) h3 (by omega) (by simp; omega) (by rw [sumB_nil]; omega) (by rw [sumB_nil]; omega) ⟨fun c => absurd rfl c, fun c => by rw [nxt, hob] at c; simp at c⟩
   have e0 : emR [] = [] := rfl
   rw [e0, List.append_nil] at ih
   exact ih
  | true =>
   refine Ev.pos (by trivial) ?_
   rw [if_pos rfl]
   have sb : sumB [b] = b.f1 := by rw [sumB_cons, sumB_nil]; omega
   have new : (cur ≠ [] → b.f0 ∈ fx) → Ev (fun k => if (done ++ emR cur).length < 5864062014805 then spec_GapsOf.l0 k (done ++ emR cur ++ [⟨0, b.f0, b.f1⟩]) ((i + 1 : Nat) : Int) h fx bx else none) (done ++ (if cur ≠ [] ∧ b.f0 ∉ fx then gapsW fx (cur ++ [b]) rest else emR cur ++ gapsW fx [b] rest)) := by
    intro hcf
    rw [if_neg (fun e => e.2 (hcf e.1)), ← List.append_assoc]
    have ih := gapsS_loop h fx hf bx hl hm rest (i + 1) [b] (done ++ emR cur) h3 (by omega) (by simp; omega) (by rw [sb]; omega) (by rw [sb]; omega) ⟨fun _ => ⟨by omega, by rw [nxt, hob]⟩, fun _ => by simp⟩
    refine Ev.pos (by simp; omega) (Ev.of_eq ih (fun k => ?_))
    have e : emR [b] = [⟨0, b.f0, b.f1⟩] := by
     unfold emR
     rw [if_neg (by simp)]
     show [(S50.mk 0 b.f0 (sumB [b]))] = _
     rw [sb]
    rw [e]
   by_cases hcur : cur = []
   ·have hno : ¬ (0 < i ∧ opB (bx.getD (i - 1) z98) = true) := fun c => hc.mpr c hcur
    by_cases ci : (i : Int) > 0
    ·refine Ev.pos ci ?_
     rw [wpred i (by omega) (by omega)]
     have er2 : rd_T98 bx ((i - 1 : Nat) : Int) = bx.getD (i - 1) z98 := rfl
     refine Ev.pos (by omega) (Ev.pos (by omega) (Ev.bind (Ev.const (open_eq _ _ _ _)) ?_))
     rw [er2]
     refine Ev.neg (fun c => hno ⟨by omega, c⟩) ?_
     exact new (fun c => absurd hcur c)
    ·refine Ev.neg ci ?_
     exact new (fun c => absurd hcur c)
   ·obtain ⟨ci, co⟩ := hc.mp hcur
    refine Ev.pos (by omega) ?_
    rw [wpred i (by omega) (by omega)]
    have er2 : rd_T98 bx ((i - 1 : Nat) : Int) = bx.getD (i - 1) z98 := rfl
    refine Ev.pos (by omega) (Ev.pos (by omega) (Ev.bind (Ev.const (open_eq _ _ _ _)) ?_))
    rw [er2]
    refine Ev.pos co ?_
    refine Ev.bind (has_ev fx hf b.f0) ?_
    by_cases hfx : b.f0 ∈ fx
    ·refine Ev.pos (decide_eq_true hfx) ?_
     exact new (fun _ => hfx)
    ·refine Ev.neg (by simpa using hfx) ?_
     rw [if_pos ⟨hcur, hfx⟩]
     have eT : emR cur = [gapR cur] := by unfold emR; rw [if_neg hcur]
     have ih := gapsS_loop h fx hf bx hl hm rest (i + 1) (cur ++ [b]) done h3 (by omega) (by omega) (by rw [sumB_app, sb]; omega) (by rw [sumB_app, sb]; omega) ⟨fun _ => ⟨by omega, by rw [nxt, hob]⟩, fun _ => by simp⟩
     have eT2 : emR (cur ++ [b]) = [⟨(gapR cur).f0, (gapR cur).f1, (gapR cur).f2 + b.f1⟩] := by
      unfold emR
      rw [if_neg (by simp), gapR_snoc hcur]
     rw [eT2] at ih
     rw [eT]
     have hg : (gapR cur).f2 = sumB cur := by cases cur with | nil => exact absurd rfl hcur | cons x cur => rfl
     have hw : wrap64 (((done ++ [gapR cur]).length : Int) - 1) = (done.length : Int) := by
      simp; unfold wrap64; omega
     rw [hw]
     have hrd : ∀ v : S50, rd_T50 (done ++ [v]) (done.length : Int) = v := fun v => getD_end done v _
     refine Ev.pos (by omega) (Ev.pos (by simp; omega) ?_)
     simp only [hrd, Int.toNat_natCast, set_end]
     rw [wid ((gapR cur).f2 + b.f1) (by omega) (by omega)]
     exact ih
theorem gapsS_ev (h : Int) (fx : List Int) (hf : fx.length ≤ 1048576) (bx : List S98) (hb : bx.length ≤ 1048576) : Ev (fun k => spec_GapsOf.f k h fx bx) (gapsP h fx bx) := by
 unfold spec_GapsOf.f gapsP
 refine Ev.bind (Ev.ret _) (Ev.bind (colok_ev h fx (by omega) bx (by omega)) ?_)
 by_cases c : colP h fx bx = true
 ·have v := (colP_iff h fx bx).mp c
  rw [if_pos c]
  refine Ev.pos c ?_
  exact gapsS_loop h fx hf bx v.len (fun b hb => by have := v.mem hb; omega) bx 0 [] [] rfl (by omega) (by simp) (by rw [sumB_nil]; omega) (by rw [sumB_nil]; omega) ⟨fun c => absurd rfl c, fun c => absurd c.1 (by omega)⟩
 ·rw [if_neg c]
  exact Ev.neg c (Ev.ret _)
end Go.Proofs.Ytbpjidekjogfeaa.A

namespace Go.Proofs.Ytbpjidekjogfeaa.A
open Go.RowKit Go.Proofs.YtbpjidekjogfeaaW.PrintWords Go.Proofs.YtbpjidekjogfeaaW.PrintLast Go.Proofs.YtbpjidekjogfeaaW.PrintMore
set_option linter.unusedVariables false
set_option linter.unusedSimpArgs false
def bankG : Int → List S41 → List S50
 | _, [] => []
 | k, c :: cs => (gapsB c.f1 c.f2).map (fun g => ⟨k, g.f1, g.f2⟩) ++ bankG (k + 1) cs
def bankGP (cs : List S41) : List S50 := if bankP cs = true then bankG 0 cs else []
structure Flat (cs : List S41) : Prop where
 len : cs.length ≤ 6
 fix : ∀ c ∈ cs, c.f1.length ≤ 1048576
 box : ∀ c ∈ cs, c.f2.length ≤ 24
 sz : ∀ c ∈ cs, ∀ b ∈ c.f2, 1 ≤ b.f1 ∧ b.f1 ≤ 24
theorem BankV.flat {cs : List S41} (v : BankV cs) (hs : Small cs) : Flat cs :=
 ⟨by have := v.len; omega, fun c hc => (hs.2 c hc).1, fun c hc => ((colP_iff _ _ _).mp (v.col c hc)).len, fun c hc b hb => by have := ((colP_iff _ _ _).mp (v.col c hc)).mem hb; omega⟩
theorem bgS_inner {r' : List S50} (cs : List S41) (i : Nat) (hi : i ≤ 1048576) (gs : List S50) (hg : gs.length ≤ 24) (M : Nat) (hM : M ≤ 1048576) (res : List S50)
  (hr : Ev (fun k => spec_BankGaps.l0 k cs res ((i + 1 : Nat) : Int)) r') : ∀ (rest : List S50) (n : Nat) (acc : List S50), gs.drop n = rest → n ≤ gs.length → acc.length ≤ M + n → acc ++ rest.map (fun g => ⟨(i : Int), g.f1, g.f2⟩) = res → Ev (fun k => spec_BankGaps.l1 k cs acc (i : Int) gs (n : Int)) r'
 | [], n, acc, hd, hn, ha, he2 => by
  have he := drop_end hd hn
  refine Ev.succ ?_
  simp only [spec_BankGaps.l1]
  rw [wsucc i (by omega)]
  simp at he2
  subst he2
  exact Ev.neg (by omega) hr
 | g :: rest, n, acc, hd, hn, ha, he2 => by
  obtain ⟨h1, h2, h3⟩ := drop_step z50 hd
  have er : rd_T50 gs (n : Int) = g := h2
  refine Ev.succ ?_
  simp only [spec_BankGaps.l1, er]
  rw [wsucc n (by omega)]
  exact Ev.pos (by omega) (Ev.pos (by omega) (Ev.pos (by omega) (bgS_inner cs i hi gs hg M hM res hr rest (n + 1) _ h3 (by omega) (by simp; omega) (by rw [← he2]; simp))))
theorem bgS_loop (cs : List S41) (hf : Flat cs) (hc : ∀ c ∈ cs, colP c.f0 c.f1 c.f2 = true) : ∀ (rest : List S41) (i : Nat) (acc : List S50), cs.drop i = rest → i ≤ cs.length → acc.length ≤ 24 * i → Ev (fun k => spec_BankGaps.l0 k cs acc (i : Int)) (acc ++ bankG (i : Int) rest)
 | [], i, acc, hd, hi, ha => by
  have he := drop_end hd hi
  have hl := hf.len
  refine Ev.succ ?_
  simp only [spec_BankGaps.l0]
  exact Ev.neg (by omega) ((Ev.ret _).to (by simp [bankG]))
 | c :: rest, i, acc, hd, hi, ha => by
  obtain ⟨h1, h2, h3⟩ := drop_step z41 hd
  have er : rd_T41 cs (i : Int) = c := h2
  have hm : c ∈ cs := by rw [← h2, getD_gen _ h1]; exact List.getElem_mem _
  have hl := hf.len
  have hb := hf.box c hm
  have hg : gapsP c.f0 c.f1 c.f2 = gapsB c.f1 c.f2 := by unfold gapsP; rw [if_pos (hc c hm)]
  have hgl := gapsB_len c.f1 c.f2
  have ih := bgS_loop cs hf hc rest (i + 1) (acc ++ (gapsB c.f1 c.f2).map (fun g => ⟨(i : Int), g.f1, g.f2⟩)) h3 (by omega) (by simp; omega)
  refine Ev.succ ?_
  simp only [spec_BankGaps.l0, er]
  refine Ev.pos (by omega) (Ev.pos (by omega) (Ev.bind (gapsS_ev c.f0 c.f1 (hf.fix c hm) c.f2 (by omega)) ?_))
  rw [hg]
  refine bgS_inner cs i (by omega) _ (by omega) (24 * i) (by omega) _ (ih.to ?_) _ 0 acc rfl (by omega) (by omega) rfl
  rw [bankG, List.append_assoc]
  rfl
theorem bankGapsS_ev (cs : List S41) (hs : Small cs) : Ev (fun k => spec_BankGaps.f k cs) (bankGP cs) := by
 unfold spec_BankGaps.f bankGP
 refine Ev.bind (Ev.ret _) (Ev.bind (bankok_ev cs hs) ?_)
 by_cases hb : bankP cs = true
 ·rw [if_pos hb]
  have v := (bankP_iff cs).mp hb
  exact Ev.pos hb (bgS_loop cs (v.flat hs) v.col cs 0 [] rfl (by omega) (by simp))
 ·rw [if_neg hb]
  exact Ev.neg hb (Ev.ret _)
theorem bg_inner (cs : List S41) (hcs : cs.length ≤ 6) (i : Nat) (hi : i < cs.length) (rs : List S113) (hg : rs.length ≤ 24) (M : Nat) (hM : M ≤ 1048576) (res : List S50) {r' : List S50}
  (hr : Ev (fun k => impl_bankGaps.l0 k res cs (cs.length : Int) ((i + 1 : Nat) : Int)) r') : ∀ (rest : List S113) (n : Nat) (acc : List S50), rs.drop n = rest → n ≤ rs.length → acc.length ≤ M + n → acc ++ rest.map (fun r => ⟨(i : Int), r.f0.f1, r.f0.f2⟩) = res → Ev (fun k => impl_bankGaps.l1 k acc (i : Int) cs (cs.length : Int) (i : Int) rs (rs.length : Int) (n : Int)) r'
 | [], n, acc, hd, hn, ha, he2 => by
  have he := drop_end hd hn
  refine Ev.succ ?_
  simp only [impl_bankGaps.l1]
  rw [wsucc i (by omega)]
  simp at he2
  subst he2
  exact Ev.neg (by omega) hr
 | g :: rest, n, acc, hd, hn, ha, he2 => by
  obtain ⟨h1, h2, h3⟩ := drop_step z113 hd
  have er : rd_T113 rs (n : Int) = g := h2
  refine Ev.succ ?_
  simp only [impl_bankGaps.l1, er]
  rw [wsucc n (by omega)]
  exact Ev.pos (by omega) (Ev.pos (by omega) (Ev.pos (by omega) (Ev.pos (by omega) (bg_inner cs hcs i hi rs hg M hM res hr rest (n + 1) _ h3 (by omega) (by simp; omega) (by rw [← he2]; simp)))))
theorem bg_loop (cs : List S41) (hf : Flat cs) : ∀ (rest : List S41) (i : Nat) (acc : List S50), cs.drop i = rest → i ≤ cs.length → acc.length ≤ 24 * i → Ev (fun k => impl_bankGaps.l0 k acc cs (cs.length : Int) (i : Int)) (acc ++ bankG (i : Int) rest)
 | [], i, acc, hd, hi, ha => by
  have he := drop_end hd hi
  have hl := hf.len
  refine Ev.succ ?_
  simp only [impl_bankGaps.l0]
  exact Ev.neg (by omega) ((Ev.ret _).to (by simp [bankG]))
 | c :: rest, i, acc, hd, hi, ha => by
  obtain ⟨h1, h2, h3⟩ := drop_step z41 hd
  have er : rd_T41 cs (i : Int) = c := h2
  have hm : c ∈ cs := by rw [← h2, getD_gen _ h1]; exact List.getElem_mem _
  have hl := hf.len
  have hb := hf.box c hm
  have hgl := gapsB_len c.f1 c.f2
  have hdl : ((decs c.f1 [] [] c.f2).map toRun).length ≤ 24 := by
   have h2 := congrArg List.length (decs_gaps c.f1 c.f2 [] [])
   rw [List.length_map] at h2 ⊢
   unfold gapsB at hgl
   omega
  have ih := bg_loop cs hf rest (i + 1) (acc ++ (gapsB c.f1 c.f2).map (fun g => ⟨(i : Int), g.f1, g.f2⟩)) h3 (by omega) (by simp; omega)
  refine Ev.succ ?_
  simp only [impl_bankGaps.l0, er]
  refine Ev.pos (by omega) (Ev.pos (by omega) (Ev.pos (by omega) (Ev.bind (runs_ev c.f0 c.f1 (hf.fix c hm) c.f2 hb (hf.sz c hm)) ?_)))
  refine bg_inner cs hl i h1 _ hdl (24 * i) (by omega) _ (ih.to ?_) _ 0 acc rfl (by omega) (by omega) ?_
  ·rw [bankG, List.append_assoc]
   rfl
  ·rw [List.drop_zero, List.map_map]
   unfold gapsB
   rw [← decs_gaps c.f1 c.f2 [] [], List.map_map]
   rfl
theorem bankG_ev (cs : List S41) (hf : Flat cs) : Ev (fun k => impl_bankGaps.f k cs) (bankG 0 cs) := by
 unfold impl_bankGaps.f
 exact bg_loop cs hf cs 0 [] rfl (by omega) (by simp)
theorem bankG_len : ∀ (cs : List S41) (k : Int), (∀ c ∈ cs, c.f2.length ≤ 24) → (bankG k cs).length ≤ 24 * cs.length
 | [], _, _ => by simp [bankG]
 | c :: cs, k, h => by
  have := bankG_len cs (k + 1) (fun d hd => h d (by simp [hd]))
  have := gapsB_len c.f1 c.f2
  have := h c (by simp)
  rw [bankG]
  simp
  omega
theorem bankGP_len (cs : List S41) : (bankGP cs).length ≤ 144 := by
 unfold bankGP
 split
 ·next hb =>
  have v := (bankP_iff cs).mp hb
  have := bankG_len cs 0 (fun c hc => ((colP_iff _ _ _).mp (v.col c hc)).len)
  have := v.len
  omega
 ·simp
theorem gapsW_pos (fx : List Int) : ∀ (bs cur : List S98) (M : Int), (∀ b ∈ bs, 1 ≤ b.f1) → (cur ≠ [] → 1 ≤ sumB cur) → sumB cur + sumB bs ≤ M → ∀ g ∈ gapsW fx cur bs, 1 ≤ g.f2 ∧ g.f2 ≤ M
 | [], cur, M, _, hc, hM, g, hg => by
  simp only [gapsW, emR] at hg
  split at hg
  ·simp at hg
  ·next h =>
   rw [List.mem_singleton.mp hg]
   have hg0 : (gapR cur).f2 = sumB cur := by cases cur with | nil => exact absurd rfl h | cons x cur => rfl
   have := hc h
   rw [sumB_nil] at hM
   omega
 | b :: bs, cur, M, hb, hc, hM, g, hg => by
  have hb1 := hb b (by simp)
  have hbs : ∀ x ∈ bs, 1 ≤ x.f1 := fun x hx => hb x (by simp [hx])
  have sb : sumB [b] = b.f1 := by rw [sumB_cons, sumB_nil]; omega
  have sn : ∀ l : List S98, (∀ x ∈ l, 1 ≤ x.f1) → 0 ≤ sumB l := by
   intro l
   induction l with
   | nil => intro _; exact Int.le_refl _
   | cons x l ih => intro h; rw [sumB_cons]; have := h x (by simp); have := ih (fun y hy => h y (by simp [hy])); omega
  have s0 := sn bs hbs
  have sc : 0 ≤ sumB cur := by
   by_cases h : cur = []
   ·subst h; exact Int.le_refl _
   ·have := hc h; omega
  rw [sumB_cons] at hM
  have em : ∀ g ∈ emR cur, 1 ≤ g.f2 ∧ g.f2 ≤ M := by
   intro g hg
   unfold emR at hg
   split at hg
   ·simp at hg
   ·next h =>
    rw [List.mem_singleton.mp hg]
    have hg0 : (gapR cur).f2 = sumB cur := by cases cur with | nil => exact absurd rfl h | cons x cur => rfl
    have := hc h
    omega
  simp only [gapsW] at hg
  split at hg
  ·split at hg
   ·exact gapsW_pos fx bs (cur ++ [b]) M hbs (fun _ => by rw [sumB_app, sb]; omega) (by rw [sumB_app, sb]; omega) g hg
   ·rcases List.mem_append.mp hg with hg | hg
    ·exact em g hg
    ·exact gapsW_pos fx bs [b] M hbs (fun _ => by rw [sb]; omega) (by rw [sb]; omega) g hg
  ·rcases List.mem_append.mp hg with hg | hg
   ·exact em g hg
   ·exact gapsW_pos fx bs [] M hbs (fun h => absurd rfl h) (by rw [sumB_nil]; omega) g hg
theorem gapsB_pos (fx : List Int) (bx : List S98) (lo hi : Int) (ht : tile lo bx hi) : ∀ g ∈ gapsB fx bx, 1 ≤ g.f2 ∧ g.f2 ≤ hi - lo := by
 have := tile_sum _ _ _ ht
 exact gapsW_pos fx bx [] (hi - lo) (fun b hb => (tile_mem _ _ _ ht b hb).2.1) (fun h => absurd rfl h) (by rw [sumB_nil]; omega)
theorem bankG_pos : ∀ (cs : List S41) (k : Int), (∀ c ∈ cs, ∃ h, tile 0 c.f2 h ∧ h ≤ 24) → ∀ g ∈ bankG k cs, 1 ≤ g.f2 ∧ g.f2 ≤ 24
 | [], _, _, g, hg => by simp [bankG] at hg
 | c :: cs, k, h, g, hg => by
  rw [bankG] at hg
  rcases List.mem_append.mp hg with hg | hg
  ·obtain ⟨x, hx, rfl⟩ := List.mem_map.mp hg
   obtain ⟨e, ht, he⟩ := h c (by simp)
   have := gapsB_pos c.f1 c.f2 0 e ht x hx
   exact ⟨this.1, by show x.f2 ≤ 24; omega⟩
  ·exact bankG_pos cs (k + 1) (fun d hd => h d (by simp [hd])) g hg
theorem bankGP_pos (cs : List S41) : ∀ g ∈ bankGP cs, 1 ≤ g.f2 ∧ g.f2 ≤ 24 := by
 unfold bankGP
 split
 ·next hb =>
  have v := (bankP_iff cs).mp hb
  exact bankG_pos cs 0 (fun c hc => ⟨c.f0, ((colP_iff _ _ _).mp (v.col c hc)).til, ((colP_iff _ _ _).mp (v.col c hc)).hi.2⟩)
 ·intro g hg; simp at hg
end Go.Proofs.Ytbpjidekjogfeaa.A

namespace Go.Proofs.Ytbpjidekjogfeaa.A
open Go.RowKit Go.Proofs.YtbpjidekjogfeaaW.PrintWords Go.Proofs.YtbpjidekjogfeaaW.PrintLast Go.Proofs.YtbpjidekjogfeaaW.PrintMore
set_option linter.unusedVariables false
set_option linter.unusedSimpArgs false
def fillD (lo : Int) (N : List S98) : List S98 → List (List S98 × List S98 × List S98) → List S98
 | acc, [] => acc
 | acc, d :: ds => fillD lo N (if loR d.2.1 = lo then d.1 ++ N ++ d.2.2 else acc) ds
theorem gapR_is {R : List S98} (h : R ≠ []) : gapR R = ⟨0, loR R, sumB R⟩ := by
 cases R with
 | nil => exact absurd rfl h
 | cons x R => rfl
theorem fillD_none (lo : Int) (N : List S98) : ∀ (D : List (List S98 × List S98 × List S98)) (acc : List S98), (∀ d ∈ D, loR d.2.1 ≠ lo) → fillD lo N acc D = acc
 | [], _, _ => rfl
 | d :: D, acc, h => by
  rw [fillD, if_neg (h d (by simp))]
  exact fillD_none lo N D acc (fun x hx => h x (by simp [hx]))
theorem fillD_one (lo : Int) (N : List S98) : ∀ (D : List (List S98 × List S98 × List S98)) (acc : List S98) (d : List S98 × List S98 × List S98), d ∈ D → D.Pairwise (fun a b => loR a.2.1 < loR b.2.1) → loR d.2.1 = lo → fillD lo N acc D = d.1 ++ N ++ d.2.2
 | [], _, d, hd, _, _ => absurd hd (by simp)
 | x :: D, acc, d, hd, hp, hl => by
  obtain ⟨h1, h2⟩ := List.pairwise_cons.mp hp
  rw [fillD]
  rcases List.mem_cons.mp hd with rfl | hd
  ·rw [if_pos hl]
   exact fillD_none lo N D _ (fun y hy => by have := h1 y hy; omega)
  ·exact fillD_one lo N D _ d hd h2 hl
theorem decs_asc (fx : List Int) (bx : List S98) (lo hi : Int) (ht : tile lo bx hi) : (decs fx [] [] bx).Pairwise (fun a b => loR a.2.1 < loR b.2.1) := by
 have h1 := (gapsW_asc fx bx [] lo hi ht (fun c => absurd rfl c)).1
 rw [← decs_gaps fx bx [] [], List.pairwise_map] at h1
 refine List.Pairwise.imp_of_mem (fun ha hb h => ?_) h1
 rw [gapR_is (decs_top fx bx _ ha).ne, gapR_is (decs_top fx bx _ hb).ne] at h
 exact h
theorem gap_run (fx : List Int) (bx : List S98) (lo hi : Int) (ht : tile lo bx hi) (g : S50) (hg : g ∈ gapsB fx bx) : ∃ A R B, RunAt fx bx A R B ∧ g = ⟨0, loR R, sumB R⟩ ∧ (∀ N, fillB g.f1 g.f2 N bx = A ++ N ++ B) ∧ ∀ N, fillD g.f1 N bx (decs fx [] [] bx) = A ++ N ++ B := by
 unfold gapsB at hg
 rw [← decs_gaps fx bx [] []] at hg
 obtain ⟨d, hd, rfl⟩ := List.mem_map.mp hg
 have hr := decs_top fx bx d hd
 have e := gapR_is hr.ne
 refine ⟨d.1, d.2.1, d.2.2, hr, e, fun N => ?_, fun N => ?_⟩
 ·rw [e]
  have h2 := hr.all
  have h3 : tile lo (d.1 ++ d.2.1 ++ d.2.2) hi := by rw [h2]; exact ht
  have := fillB_run h3 hr.ne N
  rw [h2] at this
  exact this
 ·rw [e]
  exact fillD_one _ N _ bx d hd (decs_asc fx bx lo hi ht) rfl
theorem tile_swap {A R B N : List S98} {lo hi : Int} (h : tile lo (A ++ R ++ B) hi) (hR : R ≠ []) (hN : tile (loR R) N (loR R + sumB R)) : tile lo (A ++ N ++ B) hi := by
 rw [tile_app, tile_app] at h ⊢
 obtain ⟨⟨h1, h2⟩, h3⟩ := h
 have e : loR R = lo + sumB A := by
  cases R with
  | nil => exact absurd rfl hR
  | cons x R => exact h2.1
 have s := (tile_sum _ _ _ hN).1
 rw [sumB_app] at h3 ⊢
 have e2 : sumB N = sumB R := by omega
 rw [e2]
 refine ⟨⟨h1, ?_⟩, h3⟩
 rw [e] at hN
 rw [← Int.add_assoc]
 exact hN
def newB (lo sz parcel size : Int) : List S98 := ⟨lo, size, parcel, false⟩ :: (if size < sz then [⟨lo + size, sz - size, 0, false⟩] else [])
def clear1 (bx : List S98) (g : S50) : List S98 := fillB g.f1 g.f2 (newB g.f1 g.f2 0 g.f2) bx
theorem newB_full (lo sz p : Int) : newB lo sz p sz = [⟨lo, sz, p, false⟩] := by unfold newB; rw [if_neg (by omega)]
structure Clr (h : Int) (fx : List Int) (G : List S50) (bx : List S98) : Prop where
 hi : h ≤ 24
 til : tile 0 bx h
 gaps : gapsB fx bx = G
theorem Clr.len {h : Int} {fx : List Int} {G : List S50} {bx : List S98} (c : Clr h fx G bx) : bx.length ≤ 24 ∧ (∀ b ∈ bx, 1 ≤ b.f1 ∧ b.f1 ≤ 24) := by
 have := tile_sum _ _ _ c.til
 have := c.hi
 refine ⟨by omega, fun b hb => ?_⟩
 have := tile_mem _ _ _ c.til b hb
 omega
theorem Clr.step {h : Int} {fx : List Int} {G : List S50} {bx : List S98} (c : Clr h fx G bx) (g : S50) (hg : g ∈ G) :
  Clr h fx G (clear1 bx g) ∧ (0 ≤ g.f1 ∧ 1 ≤ g.f2 ∧ g.f1 + g.f2 ≤ 24) ∧ fillD g.f1 [⟨g.f1, g.f2, 0, false⟩] bx (decs fx [] [] bx) = clear1 bx g := by
 have hg' : g ∈ gapsB fx bx := by rw [c.gaps]; exact hg
 obtain ⟨A, R, B, hr, e, h1, h2⟩ := gap_run fx bx 0 h c.til g hg'
 have hp := gapsB_pos fx bx 0 h c.til g hg'
 have ec : clear1 bx g = A ++ [⟨g.f1, g.f2, 0, false⟩] ++ B := by
  unfold clear1
  rw [newB_full, h1]
 have e1 : g.f1 = loR R := by rw [e]
 have e2 : g.f2 = sumB R := by rw [e]
 have ht := c.til
 rw [← hr.all] at ht
 have hN : tile (loR R) [⟨g.f1, g.f2, 0, false⟩] (loR R + sumB R) := ⟨e1, hp.1, by show loR R + g.f2 = _; rw [e2]⟩
 refine ⟨⟨c.hi, ?_, ?_⟩, ?_, ?_⟩
 ·rw [ec]
  exact tile_swap ht hr.ne hN
 ·rw [ec, run_put hr [(S98.mk g.f1 g.f2 0 false)] (by simp) (Or.inl e1)]
  have eg : gapsB fx [(S98.mk g.f1 g.f2 0 false)] = [gapR R] := by
   have eo : opB (S98.mk g.f1 g.f2 0 false) = true := rfl
   unfold gapsB
   simp only [gapsW]
   rw [if_pos eo, if_neg (fun c => c.1 rfl)]
   have em1 : emR [] = [] := rfl
   have em2 : emR [(S98.mk g.f1 g.f2 0 false)] = [gapR [(S98.mk g.f1 g.f2 0 false)]] := by unfold emR; rw [if_neg (by simp)]
   have es : sumB [(S98.mk g.f1 g.f2 0 false)] = g.f2 := by rw [sumB_cons, sumB_nil]; exact Int.add_zero _
   rw [em1, em2, List.nil_append, gapR_is (by simp), gapR_is hr.ne, es, ← e2, ← e1]
   rfl
  rw [eg, ← run_gaps hr]
  exact c.gaps
 ·have hm := tile_mem _ _ _ ht
  rw [tile_app, tile_app] at ht
  obtain ⟨⟨ha, hb⟩, hc⟩ := ht
  have s1 := tile_sum _ _ _ ha
  have s3 := tile_sum _ _ _ hc
  rw [sumB_app] at s3
  have hR := hr.ne
  have er : loR R = 0 + sumB A := by
   cases R with
   | nil => exact absurd rfl hR
   | cons x R => exact hb.1
  have := c.hi
  have hBn : (0 : Int) ≤ (B.length : Int) := by omega
  omega
 ·rw [h2, ec]
end Go.Proofs.Ytbpjidekjogfeaa.A

namespace Go.Proofs.Ytbpjidekjogfeaa.A
open Go.RowKit Go.Proofs.YtbpjidekjogfeaaW.PrintWords Go.Proofs.YtbpjidekjogfeaaW.PrintLast Go.Proofs.YtbpjidekjogfeaaW.PrintMore
set_option linter.unusedVariables false
set_option linter.unusedSimpArgs false
theorem parcs_top (l : List S98) : parcs [] l ↔ (∀ b ∈ l, 0 ≤ b.f2 ∧ b.f2 ≤ 999) ∧ l.Pairwise (fun a b => 0 < b.f2 → a.f2 ≠ b.f2) := by
 rw [parcs_iff]
 constructor
 ·rintro ⟨h1, _, h3⟩; exact ⟨h1, h3⟩
 ·rintro ⟨h1, h3⟩; exact ⟨h1, fun _ _ _ => by simp, h3⟩
theorem parcs_mid {A N B : List S98} (hN : ∀ b ∈ N, b.f2 = 0) : parcs [] (A ++ N ++ B) ↔ parcs [] (A ++ B) := by
 rw [parcs_top, parcs_top, List.append_assoc, List.pairwise_append, List.pairwise_append, List.pairwise_append]
 constructor
 ·rintro ⟨h1, h2, ⟨_, h3, _⟩, h4⟩
  refine ⟨fun b hb => h1 b ?_, h2, h3, fun a ha b hb => h4 a ha b (by simp [hb])⟩
  rcases List.mem_append.mp hb with hb | hb <;> simp [hb]
 ·rintro ⟨h1, h2, h3, h4⟩
  refine ⟨fun b hb => ?_, h2, ⟨?_, h3, fun a ha b hb h0 => ?_⟩, fun a ha b hb h0 => ?_⟩
  ·rcases List.mem_append.mp hb with hb | hb
   ·exact h1 b (by simp [hb])
   ·rcases List.mem_append.mp hb with hb | hb
    ·rw [hN b hb]; omega
    ·exact h1 b (by simp [hb])
  ·exact List.pairwise_of_forall_mem_list (fun a ha b hb h0 => by rw [hN b hb] at h0; omega)
  ·rw [hN a ha]; omega
  ·rcases List.mem_append.mp hb with hb | hb
   ·rw [hN b hb] at h0; omega
   ·exact h4 a ha b hb h0
theorem ColV.put {h : Int} {fx : List Int} {bx A R B N : List S98} (v : ColV h fx bx) (hr : RunAt fx bx A R B) (hN : tile (loR R) N (loR R + sumB R)) (hne : N ≠ []) (hp : parcs [] (A ++ N ++ B)) : ColV h fx (A ++ N ++ B) := by
 have ht := v.til
 rw [← hr.all] at ht
 refine ⟨v.hi, tile_swap ht hr.ne hN, hp, v.fix, fun f hf => ?_⟩
 obtain ⟨b, hb, e⟩ := v.low f hf
 rw [← hr.all] at hb
 rcases List.mem_append.mp hb with hb | hb
 ·rcases List.mem_append.mp hb with hb | hb
  ·exact ⟨b, by simp [hb], e⟩
  ·have hfree := hr.free
   have hlo : loR R = f := by
    cases R with
    | nil => exact absurd rfl hr.ne
    | cons r R =>
     rcases List.mem_cons.mp hb with rfl | hb
     ·exact e
     ·exact absurd (by rw [e]; exact hf) (hfree b hb)
   cases N with
   | nil => exact absurd rfl hne
   | cons n N => exact ⟨n, by simp, by rw [hN.1, hlo]⟩
 ·exact ⟨b, by simp [hb], e⟩
theorem RunAt.zero {fx : List Int} {bx A R B : List S98} (hr : RunAt fx bx A R B) : ∀ b ∈ R, b.f2 = 0 := by
 intro b hb
 have := hr.opn b hb
 unfold opB at this
 simp only [Bool.and_eq_true, decide_eq_true_eq] at this
 exact this.1
theorem RunAt.parcs {h : Int} {fx : List Int} {bx A R B : List S98} (v : ColV h fx bx) (hr : RunAt fx bx A R B) : parcs [] (A ++ B) := by
 have := v.par
 rw [← hr.all] at this
 exact (parcs_mid hr.zero).mp this
theorem ColV.ne {h : Int} {fx : List Int} {bx : List S98} (v : ColV h fx bx) : 0 < bx.length := by
 cases bx with
 | nil =>
  have := v.til
  have := v.hi
  simp only [tile] at *
  omega
 | cons x l => simp
end Go.Proofs.Ytbpjidekjogfeaa.A

namespace Go.Proofs.Ytbpjidekjogfeaa.A
open Go.RowKit Go.Proofs.YtbpjidekjogfeaaW.PrintWords Go.Proofs.YtbpjidekjogfeaaW.PrintLast Go.Proofs.YtbpjidekjogfeaaW.PrintMore
set_option linter.unusedVariables false
set_option linter.unusedSimpArgs false
def roomsG (gs : List S50) : List Int := gs.map (fun g => g.f2)
structure Geo (cs : List S41) : Prop where
 len : cs.length ≤ 6
 fix : ∀ c ∈ cs, c.f1.length ≤ 1048576
 til : ∀ c ∈ cs, ∃ h, h ≤ 24 ∧ tile 0 c.f2 h
theorem Geo.flat {cs : List S41} (g : Geo cs) : Flat cs := by
 refine ⟨g.len, g.fix, fun c hc => ?_, fun c hc b hb => ?_⟩
 ·obtain ⟨h, h1, h2⟩ := g.til c hc
  have := tile_sum _ _ _ h2
  omega
 ·obtain ⟨h, h1, h2⟩ := g.til c hc
  have := tile_mem _ _ _ h2 b hb
  omega
end Go.Proofs.Ytbpjidekjogfeaa.A

namespace Go.Proofs.Ytbpjidekjogfeaa.A
open Go.RowKit Go.Proofs.YtbpjidekjogfeaaW.PrintWords Go.Proofs.YtbpjidekjogfeaaW.PrintLast Go.Proofs.YtbpjidekjogfeaaW.PrintMore
set_option linter.unusedVariables false
set_option linter.unusedSimpArgs false
def sizesP (l : List Int) : Bool := l.all (fun s => decide (1 ≤ s)) && decide (l.length ≤ 8)
theorem sizesP_iff (l : List Int) : sizesP l = true ↔ (∀ s ∈ l, 1 ≤ s) ∧ l.length ≤ 8 := by
 unfold sizesP
 rw [Bool.and_eq_true, List.all_eq_true, decide_eq_true_iff]
 constructor
 ·rintro ⟨h1, h2⟩; exact ⟨fun s hs => of_decide_eq_true (h1 s hs), h2⟩
 ·rintro ⟨h1, h2⟩; exact ⟨fun s hs => decide_eq_true (h1 s hs), h2⟩
theorem sizes_loop (l : List Int) (hl : l.length ≤ 1048576) : ∀ (rest : List Int) (i : Nat), l.drop i = rest → i ≤ l.length → Ev (fun k => impl_sizesOk.l0 k l l (l.length : Int) (i : Int)) (rest.all (fun s => decide (1 ≤ s)) && decide (l.length ≤ 8))
 | [], i, hd, hi => by
  have he := drop_end hd hi
  refine Ev.succ ?_
  simp only [impl_sizesOk.l0]
  refine Ev.neg (by omega) ((Ev.ret _).to ?_)
  rw [List.all_nil, Bool.true_and, decide_eq_decide]
  omega
 | s :: rest, i, hd, hi => by
  obtain ⟨h1, h2, h3⟩ := drop_step 0 hd
  have er : rd l (i : Int) = s := h2
  refine Ev.succ ?_
  simp only [impl_sizesOk.l0, er]
  rw [wsucc i (by omega), List.all_cons]
  refine Ev.pos (by omega) (Ev.pos (by omega) (Ev.pos (by omega) ?_))
  by_cases c : s < 1
  ·refine Ev.pos c ((Ev.ret _).to ?_)
   rw [decide_eq_false (by omega), Bool.false_and, Bool.false_and]
  ·refine Ev.neg c ((sizes_loop l hl rest (i + 1) h3 (by omega)).to ?_)
   rw [decide_eq_true (show 1 ≤ s by omega), Bool.true_and]
theorem sizes_ev (l : List Int) (hl : l.length ≤ 1048576) : Ev (fun k => impl_sizesOk.f k l) (sizesP l) := by
 unfold impl_sizesOk.f sizesP
 exact sizes_loop l hl l 0 rfl (by omega)
theorem sizesS_loop (l : List Int) (hl : l.length ≤ 1048576) : ∀ (rest : List Int) (i : Nat), l.drop i = rest → i ≤ l.length → i ≤ 9 → Ev (fun k => spec_l02Sizes.l0 k l (i : Int)) (rest.all (fun s => decide (1 ≤ s)) && decide (l.length ≤ 8))
 | [], i, hd, hi, h9 => by
  have he := drop_end hd hi
  refine Ev.succ ?_
  simp only [spec_l02Sizes.l0]
  refine Ev.neg (by omega) (Ev.succ ?_)
  simp only [spec_l02Sizes.j1]
  refine Ev.neg (by simp) ((Ev.ret _).to ?_)
  rw [List.all_nil, Bool.true_and, decide_eq_decide]
  omega
 | s :: rest, i, hd, hi, h9 => by
  obtain ⟨h1, h2, h3⟩ := drop_step 0 hd
  have er : rd l (i : Int) = s := h2
  refine Ev.succ ?_
  simp only [spec_l02Sizes.l0]
  refine Ev.pos (by omega) (Ev.succ ?_)
  simp only [spec_l02Sizes.j1, er]
  rw [wsucc i (by omega), List.all_cons]
  by_cases c8 : (i : Int) ≤ 8
  ·refine Ev.pos (decide_eq_true c8) (Ev.pos (by omega) (Ev.pos (by omega) ?_))
   by_cases c : s < 1
   ·refine Ev.pos c ((Ev.ret _).to ?_)
    rw [decide_eq_false (by omega), Bool.false_and, Bool.false_and]
   ·refine Ev.neg c ((sizesS_loop l hl rest (i + 1) h3 (by omega) (by omega)).to ?_)
    rw [decide_eq_true (show 1 ≤ s by omega), Bool.true_and]
  ·refine Ev.neg (by simpa using c8) ((Ev.ret _).to ?_)
   rw [decide_eq_false (show ¬ (l.length : Int) ≤ 8 by omega), decide_eq_false (show ¬ l.length ≤ 8 by omega), Bool.and_false]
theorem sizesS_ev (l : List Int) (hl : l.length ≤ 1048576) : Ev (fun k => spec_l02Sizes.f k l) (sizesP l) := by
 unfold spec_l02Sizes.f sizesP
 exact sizesS_loop l hl l 0 rfl (by omega) (by omega)
theorem roomsG_len (gs : List S50) : (roomsG gs).length = gs.length := List.length_map _
end Go.Proofs.Ytbpjidekjogfeaa.A

namespace Go.Proofs.Ytbpjidekjogfeaa.A
open Go.RowKit Go.Proofs.YtbpjidekjogfeaaW.PrintWords Go.Proofs.YtbpjidekjogfeaaW.PrintLast Go.Proofs.YtbpjidekjogfeaaW.PrintMore
set_option linter.unusedVariables false
set_option linter.unusedSimpArgs false
def tryP (s : Int) (rec : List Int → Option (List Int)) (rs : List Int) : Nat → List Int → Option (List Int)
 | 0, _ => none
 | m + 1, tr => if rs.getD (rs.length - (m + 1)) 0 < s ∨ rs.getD (rs.length - (m + 1)) 0 ∈ tr then tryP s rec rs m tr else match rec (rs.set (rs.length - (m + 1)) (rs.getD (rs.length - (m + 1)) 0 - s)) with | some l => some (((rs.length - (m + 1) : Nat) : Int) :: l) | none => tryP s rec rs m (rs.getD (rs.length - (m + 1)) 0 :: tr)
def spreadP : List Int → List Int → Option (List Int)
 | [], _ => some []
 | s :: ss, rs => tryP s (spreadP ss) rs rs.length []
theorem tryP_len (s : Int) (rec : List Int → Option (List Int)) (rs : List Int) (n : Nat) (h : ∀ r l, rec r = some l → l.length = n) : ∀ m tr l, tryP s rec rs m tr = some l → l.length = n + 1
 | 0, tr, l, e => by simp [tryP] at e
 | m + 1, tr, l, e => by
  unfold tryP at e
  split at e
  ·exact tryP_len s rec rs n h m _ l e
  ·split at e
   ·next l' hl => rw [← Option.some.inj e, List.length_cons, h _ _ hl]
   ·exact tryP_len s rec rs n h m _ l e
theorem spreadP_len : ∀ (ss rs l : List Int), spreadP ss rs = some l → l.length = ss.length
 | [], rs, l, e => by simp [spreadP] at e; rw [← e]
 | s :: ss, rs, l, e => tryP_len s _ rs ss.length (fun r l h => spreadP_len ss r l h) _ _ l e
def Feas : List Int → List Int → Prop
 | [], _ => True
 | s :: ss, rs => ∃ x rest, rs.Perm (x :: rest) ∧ s ≤ x ∧ Feas ss ((x - s) :: rest)
theorem Feas.perm : ∀ {ss rs rs' : List Int}, Feas ss rs → rs.Perm rs' → Feas ss rs'
 | [], _, _, _, _ => trivial
 | _ :: _, _, _, ⟨x, rest, h1, h2, h3⟩, hp => ⟨x, rest, hp.symm.trans h1, h2, h3⟩
theorem split_at (rs : List Int) (i : Nat) (hi : i < rs.length) (y : Int) : ∃ rest, rs.Perm (rs.getD i 0 :: rest) ∧ (rs.set i y).Perm (y :: rest) := by
 induction rs generalizing i with
 | nil => simp at hi
 | cons a t ih =>
  cases i with
  | zero => exact ⟨t, List.Perm.refl _, List.Perm.refl _⟩
  | succ j =>
   obtain ⟨rest, h1, h2⟩ := ih j (by simpa using hi)
   refine ⟨a :: rest, ?_, ?_⟩
   ·exact (List.Perm.cons a h1).trans (List.Perm.swap _ _ _)
   ·exact (List.Perm.cons a h2).trans (List.Perm.swap _ _ _)
theorem tryP_none (s : Int) (ss : List Int) (rec : List Int → Option (List Int)) (rs : List Int) (hr : ∀ r, (rec r).isSome = true ↔ Feas ss r) :
  ∀ m tr, m ≤ rs.length → (∀ x ∈ tr, ∀ rest, rs.Perm (x :: rest) → ¬ Feas ss ((x - s) :: rest)) → tryP s rec rs m tr = none → ∀ i, rs.length - m ≤ i → i < rs.length → s ≤ rs.getD i 0 → ∀ rest, rs.Perm (rs.getD i 0 :: rest) → ¬ Feas ss ((rs.getD i 0 - s) :: rest)
 | 0, tr, hm, ht, e, i, h1, h2, _, _, _ => by omega
 | m + 1, tr, hm, ht, e, i, h1, h2, h3, rest, hp => by
  unfold tryP at e
  have hlt : rs.length - (m + 1) < rs.length := by omega
  by_cases hi : i = rs.length - (m + 1)
  ·subst hi
   by_cases c : rs.getD (rs.length - (m + 1)) 0 < s ∨ rs.getD (rs.length - (m + 1)) 0 ∈ tr
   ·rcases c with c | c
    ·omega
    ·exact ht _ c rest hp
   ·rw [if_neg c] at e
    split at e
    ·simp at e
    ·next hn =>
     obtain ⟨rest', q1, q2⟩ := split_at rs _ hlt (rs.getD (rs.length - (m + 1)) 0 - s)
     intro hf
     have hpp : rest.Perm rest' := (hp.symm.trans q1).cons_inv
     have := (hr _).mpr (hf.perm (((List.Perm.cons _ hpp)).trans q2.symm))
     rw [hn] at this
     simp at this
  ·have hge : rs.length - m ≤ i := by omega
   by_cases c : rs.getD (rs.length - (m + 1)) 0 < s ∨ rs.getD (rs.length - (m + 1)) 0 ∈ tr
   ·rw [if_pos c] at e
    exact tryP_none s ss rec rs hr m tr (by omega) ht e i hge h2 h3 rest hp
   ·rw [if_neg c] at e
    split at e
    ·simp at e
    ·next hn =>
     refine tryP_none s ss rec rs hr m _ (by omega) (fun x hx rest2 hp2 hf => ?_) e i hge h2 h3 rest hp
     rcases List.mem_cons.mp hx with rfl | hx
     ·obtain ⟨rest', q1, q2⟩ := split_at rs _ hlt (rs.getD (rs.length - (m + 1)) 0 - s)
      have hpp : rest2.Perm rest' := (hp2.symm.trans q1).cons_inv
      have := (hr _).mpr (hf.perm (((List.Perm.cons _ hpp)).trans q2.symm))
      rw [hn] at this
      simp at this
     ·exact ht x hx rest2 hp2 hf
theorem tryP_some (s : Int) (ss : List Int) (rec : List Int → Option (List Int)) (rs : List Int) (hr : ∀ r, (rec r).isSome = true ↔ Feas ss r) :
  ∀ m tr l, m ≤ rs.length → tryP s rec rs m tr = some l → Feas (s :: ss) rs
 | 0, tr, l, hm, e => by simp [tryP] at e
 | m + 1, tr, l, hm, e => by
  unfold tryP at e
  by_cases c : rs.getD (rs.length - (m + 1)) 0 < s ∨ rs.getD (rs.length - (m + 1)) 0 ∈ tr
  ·rw [if_pos c] at e
   exact tryP_some s ss rec rs hr m tr l (by omega) e
  ·rw [if_neg c] at e
   split at e
   ·next l' hl =>
    obtain ⟨rest', q1, q2⟩ := split_at rs _ (show rs.length - (m + 1) < rs.length by omega) (rs.getD (rs.length - (m + 1)) 0 - s)
    exact ⟨_, rest', q1, by omega, ((hr _).mp (by rw [hl]; rfl)).perm q2⟩
   ·exact tryP_some s ss rec rs hr m _ l (by omega) e
theorem spread_feas : ∀ (ss rs : List Int), (spreadP ss rs).isSome = true ↔ Feas ss rs
 | [], rs => by simp [spreadP, Feas]
 | s :: ss, rs => by
  have ih := fun r => spread_feas ss r
  unfold spreadP
  constructor
  ·intro h
   obtain ⟨l, hl⟩ := Option.isSome_iff_exists.mp h
   exact tryP_some s ss _ rs ih _ _ l (Nat.le_refl _) hl
  ·intro ⟨x, rest, h1, h2, h3⟩
   cases e : tryP s (spreadP ss) rs rs.length [] with
   | some l => rfl
   | none =>
    have hx : x ∈ rs := h1.mem_iff.mpr List.mem_cons_self
    obtain ⟨i, hi, rfl⟩ := List.getElem_of_mem hx
    have eg : rs.getD i 0 = rs[i] := by rw [List.getD_eq_getElem?_getD, List.getElem?_eq_getElem hi]; rfl
    have := tryP_none s ss _ rs ih rs.length [] (Nat.le_refl _) (by simp) e i (by omega) hi (by rw [eg]; exact h2) rest (by rw [eg]; exact h1)
    rw [eg] at this
    exact absurd h3 this
def spreadR (o : Option (List Int)) (rs : List Int) : List Int × Bool × List Int := match o with | some l => (l, true, rs) | none => ([], false, rs)
theorem rd_nat (l : List Int) (i : Nat) : rd l (i : Int) = l.getD i 0 := rfl
theorem set_getD_ (l : List Int) (i : Nat) (h : i < l.length) (v : Int) : (l.set i v).getD i 0 = v := by
 rw [List.getD_eq_getElem?_getD, List.getElem?_set_self h]; rfl
theorem set_back_ (l : List Int) (i : Nat) (h : i < l.length) : l.set i (l.getD i 0) = l := by
 rw [List.getD_eq_getElem?_getD, List.getElem?_eq_getElem h]
 exact List.set_getElem_self h
theorem spread_loop (s : Int) (ss rs : List Int) (hs : 1 ≤ s) (hr : ∀ r ∈ rs, 0 ≤ r ∧ r ≤ 1000000000) (hl : rs.length ≤ 1000) (hss : ss.length ≤ 1000)
  (ih : ∀ r' : List Int, (∀ r ∈ r', 0 ≤ r ∧ r ≤ 1000000000) → r'.length ≤ 1000 → Ev (fun k => impl_spread.f k r' ss) (spreadR (spreadP ss r') r')) :
  ∀ (m : Nat) (tr : List Int) (i : Nat), m ≤ rs.length → i = rs.length - m → tr.length ≤ i → Ev (fun k => impl_spread.l0 k rs (s :: ss) (rs.length : Int) (i : Int) tr) (spreadR (tryP s (spreadP ss) rs m tr) rs)
 | 0, tr, i, hm, hi, ht => by
  refine Ev.succ ?_
  simp only [impl_spread.l0]
  exact Ev.neg (by omega) (Ev.ret _)
 | m + 1, tr, i, hm, hi, ht => by
  have hlt : i < rs.length := by omega
  have hx : rs.getD i 0 ∈ rs := by
   rw [List.getD_eq_getElem?_getD, List.getElem?_eq_getElem hlt]
   exact List.getElem_mem hlt
  have hb := hr _ hx
  have hc0 : (0 : Int) < ((s :: ss).length : Int) := by rw [List.length_cons]; omega
  have hw : wrap64 ((i : Int) + 1) = ((i + 1 : Nat) : Int) := wsucc i (by omega)
  refine Ev.succ ?_
  simp only [impl_spread.l0]
  refine Ev.pos (by omega) (Ev.pos (by omega) (Ev.pos (by omega) (Ev.pos ?_ (Ev.pos hc0 ?_))))
  ·rw [rd_nat]; exact ⟨by omega, by omega⟩
  rw [rd_nat, show rd (s :: ss) 0 = s from rfl]
  by_cases c : rs.getD i 0 < s
  ·refine Ev.pos c (Ev.succ ?_)
   simp only [impl_spread.j1]
   refine Ev.pos trivial ?_
   rw [hw]
   refine (spread_loop s ss rs hs hr hl hss ih m tr (i + 1) (by omega) (by omega) (by omega)).to ?_
   rw [tryP, ← hi, if_pos (Or.inl c)]
  ·refine Ev.neg c (Ev.succ ?_)
   simp only [impl_spread.j1]
   by_cases c2 : rs.getD i 0 ∈ tr
   ·refine Ev.pos (decide_eq_true c2) ?_
    rw [hw]
    refine (spread_loop s ss rs hs hr hl hss ih m tr (i + 1) (by omega) (by omega) (by omega)).to ?_
    rw [tryP, ← hi, if_pos (Or.inr c2)]
   ·refine Ev.neg (by rw [decide_eq_false c2]; simp) (Ev.pos (by omega) (Ev.pos (by omega) (Ev.pos hc0 ?_)))
    rw [rd_nat, show rd (s :: ss) 0 = s from rfl, show wrap64 (rs.getD i 0 - s) = rs.getD i 0 - s by unfold wrap64; omega, Int.toNat_natCast, show (s :: ss).drop 1 = ss from rfl]
    have hset : ∀ r ∈ rs.set i (rs.getD i 0 - s), 0 ≤ r ∧ r ≤ 1000000000 := by
     intro r h
     rcases List.mem_or_eq_of_mem_set h with h | h
     ·exact hr r h
     ·omega
    have hback : (rs.set i (rs.getD i 0 - s)).set i (wrap64 (rd (rs.set i (rs.getD i 0 - s)) (i : Int) + s)) = rs := by
     rw [rd_nat, set_getD_ rs i hlt, List.set_set, show wrap64 (rs.getD i 0 - s + s) = rs.getD i 0 by unfold wrap64; omega, set_back_ rs i hlt]
    refine Ev.bind (ih _ hset (by rw [List.length_set]; exact hl)) ?_
    cases e : spreadP ss (rs.set i (rs.getD i 0 - s)) with
    | some l =>
     have hle := spreadP_len ss _ l e
     refine Ev.of_eq (F := fun _ => some ((i : Int) :: l, true, rs)) ?_ ?_
     ·refine (Ev.ret _).to ?_
      rw [tryP, ← hi, if_neg (by intro h; rcases h with h | h; exact c h; exact c2 h), e]
      rfl
     ·intro k
      simp only [spreadR, Option.bind_some, if_true]
      refine Eq.trans (if_pos (by rw [List.length_singleton]; omega)) ?_
      rw [hback]
      rfl
    | none =>
     refine Ev.of_eq (F := fun k => impl_spread.l0 k rs (s :: ss) (rs.length : Int) (((i + 1 : Nat)) : Int) (rs.getD i 0 :: tr)) ?_ ?_
     ·refine (spread_loop s ss rs hs hr hl hss ih m (rs.getD i 0 :: tr) (i + 1) (by omega) (by omega) (by rw [List.length_cons]; omega)).to ?_
      rw [tryP, ← hi, if_neg (by intro h; rcases h with h | h; exact c h; exact c2 h), e]
     ·intro k
      simp only [spreadR, Option.bind_some, Bool.false_eq_true, if_false]
      rw [hw, hback]
theorem spread_ev : ∀ (ss rs : List Int), (∀ s ∈ ss, 1 ≤ s) → (∀ r ∈ rs, 0 ≤ r ∧ r ≤ 1000000000) → rs.length ≤ 1000 → ss.length ≤ 1000 → Ev (fun k => impl_spread.f k rs ss) (spreadR (spreadP ss rs) rs)
 | [], rs, hs, hr, hl, hss => by
  refine Ev.succ ?_
  simp only [impl_spread.f]
  exact Ev.pos rfl (Ev.ret _)
 | s :: ss, rs, hs, hr, hl, hss => by
  have hss' : ss.length ≤ 1000 := by rw [List.length_cons] at hss; omega
  refine Ev.succ ?_
  simp only [impl_spread.f]
  refine Ev.neg (by rw [List.length_cons]; omega) ?_
  exact spread_loop s ss rs (hs s List.mem_cons_self) hr hl hss' (fun r' h1 h2 => spread_ev ss r' (fun x hx => hs x (List.mem_cons_of_mem _ hx)) h1 h2 hss') rs.length [] 0 (Nat.le_refl _) (by omega) (by simp)
end Go.Proofs.Ytbpjidekjogfeaa.A

namespace Go.Proofs.Ytbpjidekjogfeaa.A
open Go.RowKit Go.Proofs.YtbpjidekjogfeaaW.PrintWords Go.Proofs.YtbpjidekjogfeaaW.PrintLast Go.Proofs.YtbpjidekjogfeaaW.PrintMore
set_option linter.unusedVariables false
set_option linter.unusedSimpArgs false
def placesR (o : Option (List Int)) : List Int × Bool := match o with | some l => (l, true) | none => ([], false)
theorem places_loop_ev (sizes : List Int) (gs : List S50) (hl : gs.length ≤ 144) (hp : ∀ g ∈ gs, 0 ≤ g.f2 ∧ g.f2 ≤ 24) (hs : ∀ s ∈ sizes, 1 ≤ s) (hz : sizes.length ≤ 8) : ∀ (rest : List S50) (i : Nat), gs.drop i = rest → i ≤ gs.length →
  Ev (fun k => impl_PlacesFor.l0 k sizes (roomsG (gs.take i)) gs (gs.length : Int) (i : Int)) (placesR (spreadP sizes (roomsG gs)))
 | [], i, hd, hi => by
  have he := drop_end hd hi
  refine Ev.succ ?_
  simp only [impl_PlacesFor.l0]
  rw [show gs.take i = gs from List.take_of_length_le (by omega)]
  refine Ev.neg (by omega) (Ev.bind (spread_ev sizes (roomsG gs) hs (fun r hr => ?_) (by rw [roomsG_len]; omega) (by omega)) ((Ev.ret _).to ?_))
  ·obtain ⟨g, hg, rfl⟩ := List.mem_map.mp hr
   have := hp g hg
   omega
  ·cases spreadP sizes (roomsG gs) <;> rfl
 | g :: rest, i, hd, hi => by
  obtain ⟨h1, h2, h3⟩ := drop_step z50 hd
  have er : rd_T50 gs (i : Int) = g := h2
  have hlt : i < gs.length := h1
  refine Ev.succ ?_
  simp only [impl_PlacesFor.l0, er]
  rw [wsucc i (by omega)]
  refine Ev.pos (by omega) (Ev.pos (by omega) (Ev.pos (by omega) (Ev.pos ?_ ?_)))
  ·rw [roomsG_len, List.length_take]; omega
  ·refine (places_loop_ev sizes gs hl hp hs hz rest (i + 1) h3 (by omega)).of_eq (fun k => ?_)
   have eg : gs[i]? = some g := by
    have := congrArg (fun l => l[0]?) hd
    simpa [List.getElem?_drop] using this
   rw [List.take_add_one, eg]
   simp [roomsG]
def placesB (cs : List S41) (sizes : List Int) : List Int × Bool := if bankP cs = true ∧ sizesP sizes = true then placesR (spreadP sizes (roomsG (bankG 0 cs))) else ([], false)
theorem placesI_ev (cs : List S41) (hs : Small cs) (sizes : List Int) (hl : sizes.length ≤ 1048576) : Ev (fun k => impl_PlacesFor.f k cs sizes) (placesB cs sizes) := by
 have no : Ev (fun k => impl_PlacesFor.j0 k cs sizes true) ([], false) := by
  refine Ev.succ ?_
  simp only [impl_PlacesFor.j0]
  exact Ev.pos (by trivial) (Ev.ret _)
 unfold impl_PlacesFor.f placesB
 refine Ev.bind (Ev.const rfl) ?_
 by_cases hb : bankP cs = true
 ·refine Ev.pos hb (Ev.bind (sizes_ev sizes hl) ?_)
  by_cases hz : sizesP sizes = true
  ·have hsz := (sizesP_iff sizes).mp hz
   have v := (bankP_iff cs).mp hb
   rw [if_pos ⟨hb, hz⟩, hz]
   refine Ev.succ ?_
   simp only [impl_PlacesFor.j0]
   have e : bankGP cs = bankG 0 cs := by unfold bankGP; rw [if_pos hb]
   refine Ev.neg (by simp) (Ev.bind (bankG_ev cs (v.flat hs)) ?_)
   exact places_loop_ev sizes (bankG 0 cs) (e ▸ bankGP_len cs) (fun g hg => by have := bankGP_pos cs g (e ▸ hg); omega) hsz.1 hsz.2 _ 0 rfl (by omega)
  ·rw [if_neg (fun h => hz h.2), show sizesP sizes = false by simpa using hz]
   exact no
 ·rw [if_neg (fun h => hb h.1)]
  exact Ev.neg hb no
end Go.Proofs.Ytbpjidekjogfeaa.A

namespace Go.Proofs.Ytbpjidekjogfeaa.A
open Go.RowKit Go.Proofs.YtbpjidekjogfeaaW.PrintWords Go.Proofs.YtbpjidekjogfeaaW.PrintLast Go.Proofs.YtbpjidekjogfeaaW.PrintMore
set_option linter.unusedVariables false
set_option linter.unusedSimpArgs false
theorem less_is (rs : List Int) (i : Nat) (s : Int) (hi : i < rs.length) (hl : rs.length ≤ 1000000) (h0 : 0 ≤ rs.getD i 0 - s) (h1 : rs.getD i 0 - s ≤ 1000000000) : spec_l02Less.f rs (i : Int) s = some (rs.set i (rs.getD i 0 - s)) := by
 unfold spec_l02Less.f
 simp only [Option.bind_some, List.nil_append, List.length_nil]
 rw [if_pos (by omega), if_pos (by omega), if_pos (by omega), rd_nat, wid _ (by omega) (by omega), Int.toNat_natCast]
theorem hasH_loop (l : List Int) (x : Int) (hl : l.length ≤ 1000000) : ∀ (rest : List Int) (i : Nat), l.drop i = rest → i ≤ l.length → Ev (fun k => spec_l02Has.l0 k l x (i : Int)) (decide (x ∈ rest))
 | [], i, hd, hi => by
  have he := drop_end hd hi
  refine Ev.succ ?_
  simp only [spec_l02Has.l0]
  exact Ev.neg (by omega) ((Ev.ret _).to (by simp))
 | b :: rest, i, hd, hi => by
  obtain ⟨h2, h3, h4⟩ := drop_step 0 hd
  have er : rd l (i : Int) = b := h3
  refine Ev.succ ?_
  simp only [spec_l02Has.l0, er]
  rw [wsucc i (by omega)]
  refine Ev.pos (by omega) (Ev.pos (by omega) ?_)
  by_cases c : b = x
  ·refine Ev.pos c ((Ev.ret _).to ?_)
   simp [c]
  ·refine Ev.neg c ((hasH_loop l x hl rest (i + 1) h4 (by omega)).to ?_)
   rw [decide_eq_decide, List.mem_cons]
   exact ⟨Or.inr, fun h => h.elim (fun e => absurd e.symm c) id⟩
theorem hasH_ev (l : List Int) (x : Int) (hl : l.length ≤ 1000000) : Ev (fun k => spec_l02Has.f k l x) (decide (x ∈ l)) := hasH_loop l x hl l 0 rfl (by omega)
theorem holds_loop (s : Int) (ss rs : List Int) (hs : 1 ≤ s) (hr : ∀ r ∈ rs, 0 ≤ r ∧ r ≤ 1000000000) (hl : rs.length ≤ 1000) (hss : ss.length ≤ 1000)
  (ih : ∀ r' : List Int, (∀ r ∈ r', 0 ≤ r ∧ r ≤ 1000000000) → r'.length ≤ 1000 → Ev (fun k => spec_l02Holds.f k r' ss) (spreadP ss r').isSome) :
  ∀ (m : Nat) (tr : List Int) (i : Nat), m ≤ rs.length → i = rs.length - m → tr.length ≤ i → Ev (fun k => spec_l02Holds.l0 k rs (s :: ss) tr.reverse (i : Int)) (tryP s (spreadP ss) rs m tr).isSome
 | 0, tr, i, hm, hi, ht => by
  refine Ev.succ ?_
  simp only [spec_l02Holds.l0]
  exact Ev.neg (by omega) ((Ev.ret _).to (by simp [tryP]))
 | m + 1, tr, i, hm, hi, ht => by
  have hlt : i < rs.length := by omega
  have hx : rs.getD i 0 ∈ rs := by
   rw [List.getD_eq_getElem?_getD, List.getElem?_eq_getElem hlt]
   exact List.getElem_mem hlt
  have hb := hr _ hx
  have hc0 : (0 : Int) < ((s :: ss).length : Int) := by rw [List.length_cons]; omega
  have hc1 : (1 : Int) ≤ ((s :: ss).length : Int) := by omega
  have hlr : tr.reverse.length = tr.length := List.length_reverse
  refine Ev.succ ?_
  simp only [spec_l02Holds.l0]
  rw [rd_nat, show rd (s :: ss) 0 = s from rfl]
  refine Ev.pos (by omega) (Ev.pos (by omega) (Ev.pos hc0 ?_))
  by_cases c : rs.getD i 0 < s
  ·refine Ev.pos c (Ev.succ ?_)
   simp only [spec_l02Holds.j1]
   rw [wsucc i (by omega)]
   refine Ev.pos trivial ((holds_loop s ss rs hs hr hl hss ih m tr (i + 1) (by omega) (by omega) (by omega)).to ?_)
   rw [tryP, ← hi, if_pos (Or.inl c)]
  ·refine Ev.neg c (Ev.bind (hasH_ev tr.reverse (rs.getD i 0) (by omega)) (Ev.succ ?_))
   simp only [spec_l02Holds.j1]
   rw [wsucc i (by omega)]
   by_cases c2 : rs.getD i 0 ∈ tr
   ·refine Ev.pos (decide_eq_true (List.mem_reverse.mpr c2)) ((holds_loop s ss rs hs hr hl hss ih m tr (i + 1) (by omega) (by omega) (by omega)).to ?_)
    rw [tryP, ← hi, if_pos (Or.inr c2)]
   ·have hset : ∀ r ∈ rs.set i (rs.getD i 0 - s), 0 ≤ r ∧ r ≤ 1000000000 := by
     intro r h
     rcases List.mem_or_eq_of_mem_set h with h | h
     ·exact hr r h
     ·omega
    refine Ev.neg (by rw [decide_eq_false (fun h => c2 (List.mem_reverse.mp h))]; simp) (Ev.pos (by omega) (Ev.pos (by omega) (Ev.pos (by omega) (Ev.pos hc0 (Ev.bind (Ev.const ?_) (Ev.pos hc1 (Ev.bind (ih _ hset (by rw [List.length_set]; exact hl)) ?_)))))))
    ·rw [show rd (s :: ss) 0 = s from rfl]
     exact less_is rs i s hlt (by omega) (by omega) (by omega)
    ·rw [rd_nat]
     cases e : spreadP ss (rs.set i (rs.getD i 0 - s)) with
     | some l =>
      refine Ev.pos rfl ((Ev.ret _).to ?_)
      rw [tryP, ← hi, if_neg (by intro h; rcases h with h | h; exact c h; exact c2 h), e]
      rfl
     | none =>
      have hh := holds_loop s ss rs hs hr hl hss ih m (rs.getD i 0 :: tr) (i + 1) (by omega) (by omega) (by rw [List.length_cons]; omega)
      rw [List.reverse_cons] at hh
      refine Ev.neg (by simp) (hh.to ?_)
      rw [tryP, ← hi, if_neg (by intro h; rcases h with h | h; exact c h; exact c2 h), e]
theorem holds_ev : ∀ (ss rs : List Int), (∀ s ∈ ss, 1 ≤ s) → (∀ r ∈ rs, 0 ≤ r ∧ r ≤ 1000000000) → rs.length ≤ 1000 → ss.length ≤ 1000 → Ev (fun k => spec_l02Holds.f k rs ss) (spreadP ss rs).isSome
 | [], rs, hs, hr, hl, hss => by
  refine Ev.succ ?_
  simp only [spec_l02Holds.f]
  exact Ev.pos rfl (Ev.ret _)
 | s :: ss, rs, hs, hr, hl, hss => by
  have hss' : ss.length ≤ 1000 := by rw [List.length_cons] at hss; omega
  refine Ev.succ ?_
  simp only [spec_l02Holds.f]
  refine Ev.neg (by rw [List.length_cons]; omega) ?_
  exact holds_loop s ss rs (hs s List.mem_cons_self) hr hl hss' (fun r' h1 h2 => holds_ev ss r' (fun x hx => hs x (List.mem_cons_of_mem _ hx)) h1 h2 hss') rs.length [] 0 (Nat.le_refl _) (by omega) (by simp)
theorem swap_perm (l : List Int) (i j : Nat) (hi : i < l.length) (hj : j < l.length) : ((l.set i (l.getD j 0)).set j (l.getD i 0)).Perm l := by
 have e1 : l.getD j 0 = l[j] := by rw [List.getD_eq_getElem?_getD, List.getElem?_eq_getElem hj]; rfl
 have e2 : l.getD i 0 = l[i] := by rw [List.getD_eq_getElem?_getD, List.getElem?_eq_getElem hi]; rfl
 rw [e1, e2]
 exact List.set_set_perm hi hj
theorem down_in (x0 : List Int) (i : Nat) (rest : List Int) (hi : i ≤ 1000000) (next : ∀ out : List Int, out.length = i + 1 → ∃ o, Ev (fun k => spec_l02Down.l0 k x0 out ((i + 1 : Nat) : Int)) o ∧ o.Perm (out ++ rest)) :
  ∀ (k : Nat) (out : List Int), k < out.length → out.length = i + 1 → ∃ o, Ev (fun n => spec_l02Down.l1 n x0 out (i : Int) (k : Int)) o ∧ o.Perm (out ++ rest)
 | 0, out, hk, ho => by
  obtain ⟨o, e, hp⟩ := next out ho
  refine ⟨o, Ev.succ ?_, hp⟩
  simp only [spec_l02Down.l1]
  rw [wsucc i (by omega)]
  exact Ev.neg (by omega) e
 | k + 1, out, hk, ho => by
  by_cases c : out.getD k 0 < out.getD (k + 1) 0
  ·obtain ⟨o, e, hp⟩ := down_in x0 i rest hi next k ((out.set (k + 1) (out.getD k 0)).set k (out.getD (k + 1) 0)) (by rw [List.length_set, List.length_set]; omega) (by rw [List.length_set, List.length_set]; omega)
   refine ⟨o, Ev.succ ?_, hp.trans (List.Perm.append_right _ (swap_perm out (k + 1) k hk (by omega)))⟩
   simp only [spec_l02Down.l1]
   rw [show wrap64 (((k + 1 : Nat) : Int) - 1) = (k : Int) by unfold wrap64; omega, Int.toNat_natCast, Int.toNat_natCast, rd_nat, rd_nat]
   exact Ev.pos (by omega) (Ev.pos (by omega) (Ev.pos (by omega) (Ev.pos (by omega) (Ev.pos (by omega) (Ev.pos c e)))))
  ·obtain ⟨o, e, hp⟩ := next out ho
   refine ⟨o, Ev.succ ?_, hp⟩
   simp only [spec_l02Down.l1]
   rw [show wrap64 (((k + 1 : Nat) : Int) - 1) = (k : Int) by unfold wrap64; omega, rd_nat, rd_nat, wsucc i (by omega)]
   exact Ev.pos (by omega) (Ev.pos (by omega) (Ev.pos (by omega) (Ev.pos (by omega) (Ev.pos (by omega) (Ev.neg c e)))))
theorem down_loop (x0 : List Int) (hl : x0.length ≤ 1000000) : ∀ (rest : List Int) (i : Nat) (out : List Int), x0.drop i = rest → i ≤ x0.length → out.length = i → ∃ o, Ev (fun k => spec_l02Down.l0 k x0 out (i : Int)) o ∧ o.Perm (out ++ rest)
 | [], i, out, hd, hi, ho => by
  have he := drop_end hd hi
  refine ⟨out, Ev.succ ?_, by rw [List.append_nil]⟩
  simp only [spec_l02Down.l0]
  exact Ev.neg (by omega) (Ev.ret _)
 | b :: rest, i, out, hd, hi, ho => by
  obtain ⟨h2, h3, h4⟩ := drop_step 0 hd
  have er : rd x0 (i : Int) = b := h3
  obtain ⟨o, e, hp⟩ := down_in x0 i rest (by omega) (fun out' h' => down_loop x0 hl rest (i + 1) out' h4 (by omega) h') i (out ++ [b]) (by simp; omega) (by simp; omega)
  refine ⟨o, Ev.succ ?_, by rw [List.append_assoc] at hp; exact hp⟩
  simp only [spec_l02Down.l0, er]
  refine Ev.pos (by omega) (Ev.pos (by omega) (Ev.pos (by omega) (Ev.bind (Ev.const rfl) ?_)))
  rw [show wrap64 (((out ++ [b]).length : Int) - 1) = (i : Int) by rw [List.length_append, List.length_singleton]; unfold wrap64; omega]
  exact e
theorem down_ev (l : List Int) (hl : l.length ≤ 1000000) : ∃ o, Ev (fun k => spec_l02Down.f k l) o ∧ o.Perm l := down_loop l hl l 0 [] rfl (by omega) rfl
theorem feas_swap {a b : Int} {ss rs : List Int} (ha : 0 ≤ a) (h : Feas (a :: b :: ss) rs) : Feas (b :: a :: ss) rs := by
 obtain ⟨x, rest, h1, h2, y, rest2, h3, h4, h5⟩ := h
 by_cases c : y = x - a
 ·subst c
  refine ⟨x, rest, h1, by omega, x - b, rest, List.Perm.refl _, by omega, ?_⟩
  refine h5.perm ?_
  rw [show x - b - a = x - a - b by omega]
  exact List.Perm.cons _ h3.cons_inv.symm
 ·have hy : y ∈ rest := by
   rcases List.mem_cons.mp (h3.mem_iff.mpr List.mem_cons_self) with h | h
   ·exact absurd h c
   ·exact h
  obtain ⟨p, q, rfl⟩ := List.append_of_mem hy
  have hp : (p ++ y :: q).Perm (y :: (p ++ q)) := List.perm_middle
  have h6 : (y :: rest2).Perm (y :: ((x - a) :: (p ++ q))) := h3.symm.trans ((List.Perm.cons _ hp).trans (List.Perm.swap _ _ _))
  have h7 := h6.cons_inv
  refine ⟨y, x :: (p ++ q), h1.trans ((List.Perm.cons _ hp).trans (List.Perm.swap _ _ _)), h4, x, (y - b) :: (p ++ q), List.Perm.swap _ _ _, h2, ?_⟩
  exact h5.perm ((List.Perm.cons _ h7).trans (List.Perm.swap _ _ _))
theorem feas_perm {ss ss' : List Int} (hp : ss.Perm ss') : ∀ {rs : List Int}, (∀ s ∈ ss, 0 ≤ s) → Feas ss rs → Feas ss' rs := by
 induction hp with
 | nil => intro rs _ h; exact h
 | cons x _ ih =>
  intro rs h0 h
  obtain ⟨y, rest, h1, h2, h3⟩ := h
  exact ⟨y, rest, h1, h2, ih (fun s hs => h0 s (List.mem_cons_of_mem _ hs)) h3⟩
 | swap x y l => intro rs h0 h; exact feas_swap (h0 y List.mem_cons_self) h
 | trans p1 _ ih1 ih2 => intro rs h0 h; exact ih2 (fun s hs => h0 s (p1.mem_iff.mpr hs)) (ih1 h0 h)
theorem perm_sum {l l' : List Int} (h : l.Perm l') : l.sum = l'.sum := by
 induction h with
 | nil => rfl
 | cons x _ ih => rw [List.sum_cons, List.sum_cons, ih]
 | swap x y l => rw [List.sum_cons, List.sum_cons, List.sum_cons, List.sum_cons]; omega
 | trans _ _ i1 i2 => exact i1.trans i2
theorem sum_pos : ∀ (rs : List Int), (∀ r ∈ rs, 0 ≤ r) → 0 ≤ rs.sum
 | [], _ => by simp
 | r :: rs, h => by
  have h1 := h r List.mem_cons_self
  have h2 := sum_pos rs (fun x hx => h x (List.mem_cons_of_mem _ hx))
  rw [List.sum_cons]
  omega
theorem feas_sum : ∀ (ss rs : List Int), (∀ r ∈ rs, 0 ≤ r) → Feas ss rs → ss.sum ≤ rs.sum
 | [], rs, h, _ => by
  rw [List.sum_nil]
  exact sum_pos rs h
 | s :: ss, rs, h, ⟨x, rest, h1, h2, h3⟩ => by
  have hn : ∀ r ∈ (x - s) :: rest, 0 ≤ r := by
   intro r hr
   rcases List.mem_cons.mp hr with rfl | hr
   ·omega
   ·exact h r (h1.mem_iff.mpr (List.mem_cons_of_mem _ hr))
  have ih := feas_sum ss _ hn h3
  rw [perm_sum h1, List.sum_cons, List.sum_cons]
  rw [List.sum_cons] at ih
  omega
end Go.Proofs.Ytbpjidekjogfeaa.A

namespace Go.Proofs.Ytbpjidekjogfeaa.A
open Go.RowKit Go.Proofs.YtbpjidekjogfeaaW.PrintWords Go.Proofs.YtbpjidekjogfeaaW.PrintLast Go.Proofs.YtbpjidekjogfeaaW.PrintMore
set_option linter.unusedVariables false
set_option linter.unusedSimpArgs false
theorem tryP_find (s : Int) (ss : List Int) (rec : List Int → Option (List Int)) (rs : List Int) (hr : ∀ r, (rec r).isSome = true ↔ Feas ss r) :
  ∀ m tr l', m ≤ rs.length → (∀ x ∈ tr, ∀ rest, rs.Perm (x :: rest) → ¬ Feas ss ((x - s) :: rest)) → tryP s rec rs m tr = some l' →
   ∃ (n : Nat) (l : List Int), l' = (n : Int) :: l ∧ rs.length - m ≤ n ∧ n < rs.length ∧ s ≤ rs.getD n 0 ∧ rec (rs.set n (rs.getD n 0 - s)) = some l ∧ ∀ i, rs.length - m ≤ i → i < n → rs.getD i 0 < s ∨ ¬ Feas ss (rs.set i (rs.getD i 0 - s))
 | 0, tr, l', hm, ht, e => by simp [tryP] at e
 | m + 1, tr, l', hm, ht, e => by
  unfold tryP at e
  have hlt : rs.length - (m + 1) < rs.length := by omega
  by_cases c : rs.getD (rs.length - (m + 1)) 0 < s ∨ rs.getD (rs.length - (m + 1)) 0 ∈ tr
  ·rw [if_pos c] at e
   obtain ⟨n, l, h1, h2, h3, h4, h5, h6⟩ := tryP_find s ss rec rs hr m tr l' (by omega) ht e
   refine ⟨n, l, h1, by omega, h3, h4, h5, fun i i1 i2 => ?_⟩
   by_cases hi : i = rs.length - (m + 1)
   ·subst hi
    rcases c with c | c
    ·exact Or.inl c
    ·obtain ⟨rest', q1, q2⟩ := split_at rs _ hlt (rs.getD (rs.length - (m + 1)) 0 - s)
     exact Or.inr (fun hf => ht _ c rest' q1 (hf.perm q2))
   ·exact h6 i (by omega) i2
  ·rw [if_neg c] at e
   split at e
   ·next l hl =>
    exact ⟨_, l, (Option.some.inj e).symm, Nat.le_refl _, hlt, by omega, hl, fun i i1 i2 => by omega⟩
   ·next hn =>
    have hno : ¬ Feas ss (rs.set (rs.length - (m + 1)) (rs.getD (rs.length - (m + 1)) 0 - s)) := by
     intro hf
     have := (hr _).mpr hf
     rw [hn] at this
     simp at this
    obtain ⟨n, l, h1, h2, h3, h4, h5, h6⟩ := tryP_find s ss rec rs hr m _ l' (by omega) (fun x hx rest2 hp2 hf => by
     rcases List.mem_cons.mp hx with rfl | hx
     ·obtain ⟨rest', q1, q2⟩ := split_at rs _ hlt (rs.getD (rs.length - (m + 1)) 0 - s)
      have hpp : rest2.Perm rest' := (hp2.symm.trans q1).cons_inv
      exact hno (hf.perm (((List.Perm.cons _ hpp)).trans q2.symm))
     ·exact ht x hx rest2 hp2 hf) e
    refine ⟨n, l, h1, by omega, h3, h4, h5, fun i i1 i2 => ?_⟩
    by_cases hi : i = rs.length - (m + 1)
    ·subst hi
     exact Or.inr hno
    ·exact h6 i (by omega) i2
theorem some_iff_bool {a b : Bool} (h : a = true ↔ b = true) : a = b := by cases a <;> cases b <;> simp_all
theorem spread_perm {ss ss' : List Int} (rs : List Int) (h : ss'.Perm ss) (h0 : ∀ s ∈ ss, 1 ≤ s) : (spreadP ss' rs).isSome = (spreadP ss rs).isSome := by
 have h1 : ∀ s ∈ ss, 0 ≤ s := fun s hs => by have := h0 s hs; omega
 have h2 : ∀ s ∈ ss', 0 ≤ s := fun s hs => h1 s (h.mem_iff.mp hs)
 exact some_iff_bool ((spread_feas ss' rs).trans (Iff.trans ⟨fun f => feas_perm h h2 f, fun f => feas_perm h.symm h1 f⟩ (spread_feas ss rs).symm))
theorem pick_loop (sz : List Int) (c : Nat) (s : Int) (ss : List Int) (hd : sz.drop c = s :: ss) (hc : sz.length ≤ 1000) (hs : ∀ x ∈ s :: ss, 1 ≤ x) (rs : List Int) (hr : ∀ r ∈ rs, 0 ≤ r ∧ r ≤ 1000000000) (hl : rs.length ≤ 1000) (acc : List Int) (ha : acc.length ≤ 1000)
  (n : Nat) (hn : n < rs.length) (h4 : s ≤ rs.getD n 0) (h5 : (spreadP ss (rs.set n (rs.getD n 0 - s))).isSome = true) (h6 : ∀ i, i < n → rs.getD i 0 < s ∨ ¬ Feas ss (rs.set i (rs.getD i 0 - s))) {R : List Int × Bool}
  (next : Ev (fun k => spec_PlacesFor.l2 k sz (rs.set n (rs.getD n 0 - s)) (acc ++ [(n : Int)]) ((c + 1 : Nat) : Int)) R) :
  ∀ (d i : Nat), i + d = n → Ev (fun k => spec_PlacesFor.l3 k sz rs acc (c : Int) (i : Int)) R := by
 intro d
 obtain ⟨q1, q2, q3⟩ := drop_step 0 hd
 have er : rd sz (c : Int) = s := q2
 have hs1 := hs s List.mem_cons_self
 have hs2 : ∀ x ∈ ss, 1 ≤ x := fun x hx => hs x (List.mem_cons_of_mem _ hx)
 have hsl : ss.length ≤ 1000 := by
  have := congrArg List.length q3
  rw [List.length_drop] at this
  omega
 obtain ⟨o, eo, po⟩ := down_ev ss (by omega)
 have held : ∀ i, i < rs.length → s ≤ rs.getD i 0 → Ev (fun k => spec_l02Holds.f k (rs.set i (rs.getD i 0 - s)) o) (spreadP ss (rs.set i (rs.getD i 0 - s))).isSome := by
  intro i hi h
  have hx : rs.getD i 0 ∈ rs := by
   rw [List.getD_eq_getElem?_getD, List.getElem?_eq_getElem hi]
   exact List.getElem_mem hi
  have hb := hr _ hx
  refine (holds_ev o _ (fun x hx => hs2 x (po.mem_iff.mp hx)) (fun r h => ?_) (by rw [List.length_set]; exact hl) (by rw [po.length_eq]; exact hsl)).to (spread_perm _ po hs2)
  rcases List.mem_or_eq_of_mem_set h with h | h
  ·exact hr r h
  ·omega
 have less : ∀ i, i < rs.length → s ≤ rs.getD i 0 → spec_l02Less.f rs (i : Int) s = some (rs.set i (rs.getD i 0 - s)) := by
  intro i hi h
  have hx : rs.getD i 0 ∈ rs := by
   rw [List.getD_eq_getElem?_getD, List.getElem?_eq_getElem hi]
   exact List.getElem_mem hi
  have hb := hr _ hx
  exact less_is rs i s hi (by omega) (by omega) (by omega)
 induction d with
 | zero =>
  intro i hi
  have hin : i = n := by omega
  subst hin
  refine Ev.succ ?_
  simp only [spec_PlacesFor.l3, er]
  rw [rd_nat, wsucc c (by omega), Int.toNat_natCast, q3]
  refine Ev.pos (by omega) (Ev.pos (by omega) (Ev.pos (by omega) (Ev.pos (by omega) (Ev.neg (by omega) (Ev.bind (Ev.const (less i hn h4)) (Ev.pos (by omega) (Ev.pos (by omega) (Ev.bind eo (Ev.bind (held i hn h4) (Ev.pos h5 (Ev.bind (Ev.const (less i hn h4)) (Ev.pos (by omega) next))))))))))))
 | succ d ih =>
  intro i hi
  refine Ev.succ ?_
  simp only [spec_PlacesFor.l3, er]
  rw [rd_nat, wsucc c (by omega), wsucc i (by omega), Int.toNat_natCast, q3]
  refine Ev.pos (by omega) (Ev.pos (by omega) (Ev.pos (by omega) (Ev.pos (by omega) ?_)))
  by_cases cc : rs.getD i 0 < s
  ·exact Ev.pos cc (ih (i + 1) (by omega))
  ·have hno : ¬ (spreadP ss (rs.set i (rs.getD i 0 - s))).isSome = true := by
    intro h
    rcases h6 i (by omega) with h' | h'
    ·exact cc h'
    ·exact h' ((spread_feas _ _).mp h)
   exact Ev.neg cc (Ev.bind (Ev.const (less i (by omega) (by omega))) (Ev.pos (by omega) (Ev.pos (by omega) (Ev.bind eo (Ev.bind (held i (by omega) (by omega)) (Ev.neg hno (ih (i + 1) (by omega))))))))
theorem give_loop (sz : List Int) (hc : sz.length ≤ 1000) : ∀ (rest : List Int) (c : Nat) (rs acc l : List Int), sz.drop c = rest → c ≤ sz.length → (∀ x ∈ rest, 1 ≤ x) → (∀ r ∈ rs, 0 ≤ r ∧ r ≤ 1000000000) → rs.length ≤ 1000 → acc.length ≤ c → spreadP rest rs = some l → Ev (fun k => spec_PlacesFor.l2 k sz rs acc (c : Int)) (acc ++ l, true)
 | [], c, rs, acc, l, hd, hcl, hs, hr, hl, ha, e => by
  have he := drop_end hd hcl
  simp [spreadP] at e
  subst e
  refine Ev.succ ?_
  simp only [spec_PlacesFor.l2]
  exact Ev.neg (by omega) ((Ev.ret _).to (by simp))
 | s :: ss, c, rs, acc, l', hd, hcl, hs, hr, hl, ha, e => by
  obtain ⟨q1, q2, q3⟩ := drop_step 0 hd
  have e' : tryP s (spreadP ss) rs rs.length [] = some l' := e
  obtain ⟨n, l, h1, h2, h3, h4, h5, h6⟩ := tryP_find s ss (spreadP ss) rs (fun r => spread_feas ss r) rs.length [] l' (Nat.le_refl _) (by simp) e'
  have hx : rs.getD n 0 ∈ rs := by
   rw [List.getD_eq_getElem?_getD, List.getElem?_eq_getElem h3]
   exact List.getElem_mem h3
  have hb := hr _ hx
  have hs1 := hs s List.mem_cons_self
  have next := give_loop sz hc ss (c + 1) (rs.set n (rs.getD n 0 - s)) (acc ++ [(n : Int)]) l q3 (by omega) (fun x hx => hs x (List.mem_cons_of_mem _ hx)) (fun r h => by
   rcases List.mem_or_eq_of_mem_set h with h | h
   ·exact hr r h
   ·omega) (by rw [List.length_set]; exact hl) (by rw [List.length_append, List.length_singleton]; omega) h5
  refine Ev.succ ?_
  simp only [spec_PlacesFor.l2]
  refine Ev.pos (by omega) ?_
  refine (pick_loop sz c s ss hd hc hs rs hr hl acc (by omega) n h3 h4 (by rw [h5]; rfl) (fun i hi => h6 i (by omega) hi) next n 0 (by omega)).to ?_
  rw [h1, List.append_assoc]
  rfl
theorem total_loop (sz : List Int) (hc : sz.length ≤ 1000) (hs : ∀ x ∈ sz, 1 ≤ x) (rs : List Int) (hr : ∀ r ∈ rs, 0 ≤ r ∧ r ≤ 1000000000) (hl : rs.length ≤ 1000) : ∀ (rest : List Int) (i : Nat) (tot : Int), sz.drop i = rest → i ≤ sz.length → 0 ≤ tot → tot ≤ 1000000000 → (∀ x ∈ rest, 1 ≤ x) → sz.sum - rest.sum = rs.sum - tot → Ev (fun k => spec_PlacesFor.l1 k sz rs tot (i : Int)) (placesR (spreadP sz rs))
 | [], i, tot, hd, hi, h0, h1, hp, hsum => by
  have he := drop_end hd hi
  obtain ⟨o, eo, po⟩ := down_ev sz (by omega)
  have hh := (holds_ev o rs (fun x hx => hs x (po.mem_iff.mp hx)) hr hl (by rw [po.length_eq]; exact hc)).to (spread_perm rs po hs)
  refine Ev.succ ?_
  simp only [spec_PlacesFor.l1]
  refine Ev.neg (by omega) (Ev.bind eo (Ev.bind hh ?_))
  cases e : spreadP sz rs with
  | some l => exact Ev.pos rfl ((give_loop sz hc sz 0 rs [] l rfl (by omega) hs hr hl (by simp) e).to rfl)
  | none => exact Ev.neg (by simp) (Ev.ret _)
 | s :: rest, i, tot, hd, hi, h0, h1, hp, hsum => by
  obtain ⟨q1, q2, q3⟩ := drop_step 0 hd
  have er : rd sz (i : Int) = s := q2
  have hs1 := hp s List.mem_cons_self
  rw [List.sum_cons] at hsum
  refine Ev.succ ?_
  simp only [spec_PlacesFor.l1, er]
  rw [wsucc i (by omega)]
  refine Ev.pos (by omega) (Ev.pos (by omega) ?_)
  by_cases c : s > tot
  ·refine Ev.pos c ((Ev.ret _).to ?_)
   cases e : spreadP sz rs with
   | none => rfl
   | some l =>
    have hf := (spread_feas sz rs).mp (by rw [e]; rfl)
    have h2 := feas_sum sz rs (fun r h => (hr r h).1) hf
    have h3 := sum_pos rest (fun x hx => by have := hp x (List.mem_cons_of_mem _ hx); omega)
    exfalso
    omega
  ·refine Ev.neg c ?_
   rw [wid _ (by omega) (by omega)]
   exact total_loop sz hc hs rs hr hl rest (i + 1) (tot - s) q3 (by omega) (by omega) (by omega) (fun x hx => hp x (List.mem_cons_of_mem _ hx)) (by omega)
theorem room_loop (sz : List Int) (gs : List S50) (hl : gs.length ≤ 144) (hp : ∀ g ∈ gs, 0 ≤ g.f2 ∧ g.f2 ≤ 24) {R : List Int × Bool} (next : (roomsG gs).sum ≤ 24 * 144 → Ev (fun k => spec_PlacesFor.l1 k sz (roomsG gs) (roomsG gs).sum 0) R) : ∀ (rest : List S50) (i : Nat) (acc : List Int) (tot : Int), gs.drop i = rest → i ≤ gs.length → acc ++ roomsG rest = roomsG gs → tot + (roomsG rest).sum = (roomsG gs).sum → acc.length ≤ i → 0 ≤ tot → tot ≤ 24 * (i : Int) → Ev (fun k => spec_PlacesFor.l0 k sz acc tot gs (i : Int)) R
 | [], i, acc, tot, hd, hi, ha, ht, hal, h0, h1 => by
  have he := drop_end hd hi
  have e1 : acc = roomsG gs := by simpa [roomsG] using ha
  have e2 : tot = (roomsG gs).sum := by simpa [roomsG] using ht
  refine Ev.succ ?_
  simp only [spec_PlacesFor.l0]
  refine Ev.neg (by omega) ?_
  rw [e1, e2]
  exact next (by omega)
 | g :: rest, i, acc, tot, hd, hi, ha, ht, hal, h0, h1 => by
  obtain ⟨q1, q2, q3⟩ := drop_step z50 hd
  have er : rd_T50 gs (i : Int) = g := q2
  have hm : g ∈ gs := by rw [← q2, getD_gen _ q1]; exact List.getElem_mem _
  have hg := hp g hm
  have e3 : roomsG (g :: rest) = g.f2 :: roomsG rest := rfl
  rw [e3] at ha ht
  rw [List.sum_cons] at ht
  refine Ev.succ ?_
  simp only [spec_PlacesFor.l0, er]
  rw [wsucc i (by omega), wid _ (by omega) (by omega)]
  exact Ev.pos (by omega) (Ev.pos (by omega) (Ev.pos (by omega) (room_loop sz gs hl hp next rest (i + 1) (acc ++ [g.f2]) (tot + g.f2) q3 (by omega) (by rw [← ha, List.append_assoc]; rfl) (by omega) (by rw [List.length_append, List.length_singleton]; omega) (by omega) (by omega))))
theorem placesS_ev (cs : List S41) (hs : Small cs) (sizes : List Int) (hl : sizes.length ≤ 1048576) : Ev (fun k => spec_PlacesFor.f k cs sizes) (placesB cs sizes) := by
 have no : Ev (fun k => spec_PlacesFor.j0 k cs sizes true) ([], false) := by
  refine Ev.succ ?_
  simp only [spec_PlacesFor.j0]
  exact Ev.pos (by trivial) (Ev.ret _)
 unfold spec_PlacesFor.f placesB
 refine Ev.bind (bankok_ev cs hs) ?_
 by_cases hb : bankP cs = true
 ·refine Ev.pos hb (Ev.bind (sizesS_ev sizes hl) ?_)
  by_cases hz : sizesP sizes = true
  ·have hsz := (sizesP_iff sizes).mp hz
   rw [if_pos ⟨hb, hz⟩, hz]
   refine Ev.succ ?_
   simp only [spec_PlacesFor.j0]
   have e : bankGP cs = bankG 0 cs := by unfold bankGP; rw [if_pos hb]
   have hlen := e ▸ bankGP_len cs
   have hpos : ∀ g ∈ bankG 0 cs, 0 ≤ g.f2 ∧ g.f2 ≤ 24 := fun g hg => by have := bankGP_pos cs g (e ▸ hg); omega
   refine Ev.neg (by simp) (Ev.bind ((bankGapsS_ev cs hs).to e) ?_)
   refine room_loop sizes (bankG 0 cs) hlen hpos (fun hsum => ?_) (bankG 0 cs) 0 [] 0 rfl (by omega) rfl (by simp) (by simp) (by omega) (by omega)
   have hrr : ∀ r ∈ roomsG (bankG 0 cs), 0 ≤ r ∧ r ≤ 1000000000 := fun r hr => by
    obtain ⟨g, hg, rfl⟩ := List.mem_map.mp hr
    have := hpos g hg
    omega
   exact total_loop sizes (by omega) hsz.1 (roomsG (bankG 0 cs)) hrr (by rw [roomsG_len]; omega) sizes 0 _ rfl (by omega) (sum_pos _ (fun r h => (hrr r h).1)) (by omega) hsz.1 (by omega)
  ·rw [if_neg (fun h => hz h.2), show sizesP sizes = false by simpa using hz]
   exact no
 ·rw [if_neg (fun h => hb h.1)]
  exact Ev.neg hb no
end Go.Proofs.Ytbpjidekjogfeaa.A

namespace Go.Proofs.Ytbpjidekjogfeaa.A
open Go.RowKit Go.Proofs.YtbpjidekjogfeaaW.PrintWords Go.Proofs.YtbpjidekjogfeaaW.PrintLast Go.Proofs.YtbpjidekjogfeaaW.PrintMore
set_option linter.unusedVariables false
set_option linter.unusedSimpArgs false
def wtC : List S41 → Int
 | [] => 0
 | c :: cs => 1 + (c.f1.length : Int) + (c.f2.length : Int) + wtC cs
theorem wtC_nonneg : ∀ cs : List S41, 0 ≤ wtC cs
 | [] => by simp [wtC]
 | c :: cs => by
  have := wtC_nonneg cs
  rw [wtC]
  omega
theorem markColS_loop (cs : List S41) (hl : cs.length ≤ 1048576) (hc : ∀ c ∈ cs, c.f1.length ≤ 1048576 ∧ c.f2.length ≤ 1048576) : ∀ (rest : List S41) (i : Nat) (a : Int), cs.drop i = rest → i ≤ cs.length → 0 ≤ a → a + 5 * wtC rest ≤ 10000000 → ∃ r, 0 ≤ r ∧ r ≤ 10000000 ∧ Ev (fun k => laws_markColumnS.l0 k cs a (i : Int)) r
 | [], i, a, hd, hi, h0, h1 => by
  have he := drop_end hd hi
  refine ⟨a, h0, by rw [wtC] at h1; omega, Ev.succ ?_⟩
  simp only [laws_markColumnS.l0]
  exact Ev.neg (by omega) (Ev.ret _)
 | c :: rest, i, a, hd, hi, h0, h1 => by
  obtain ⟨q1, q2, q3⟩ := drop_step z41 hd
  have er : rd_T41 cs (i : Int) = c := q2
  have hw := wtC_nonneg rest
  have hm : c ∈ cs := by rw [← q2, getD_gen _ q1]; exact List.getElem_mem _
  rw [wtC] at h1
  obtain ⟨r, r1, r2, e⟩ := markColS_loop cs hl hc rest (i + 1) (a + 1 + (c.f1.length : Int) + 4 * (c.f2.length : Int)) q3 (by omega) (by omega) (by omega)
  refine ⟨r, r1, r2, Ev.succ ?_⟩
  simp only [laws_markColumnS.l0, er]
  rw [wid (a + 1) (by omega) (by omega), wsucc i (by omega)]
  refine Ev.pos (by omega) (Ev.pos (by omega) (Ev.bind (markIntS_ev c.f1 (hc c hm).1 (a + 1) (by omega) (by omega)) (Ev.bind (markBoxS_ev c.f2 (hc c hm).2 (a + 1 + (c.f1.length : Int)) (by omega) (by omega)) e)))
theorem markColS_ev (cs : List S41) (hs : Small cs) (hw : wtC cs ≤ 1048576) : ∃ r, 0 ≤ r ∧ r ≤ 10000000 ∧ Ev (fun k => laws_markColumnS.f k cs 1) r :=
 markColS_loop cs hs.1 hs.2 cs 0 1 rfl (by omega) (by omega) (by omega)
theorem wtC_toI : ∀ (l : List S58), wtC (l.map toI_Col) = (l.length : Int) + wt l
 | [] => by simp [wtC, wt]
 | c :: l => by
  have ih := wtC_toI l
  have e0 : wt (c :: l) = ((c.f1.length : Int) + c.f2.length) + wt l := rfl
  rw [List.map_cons, wtC, ih, e0, List.length_cons]
  have e1 : (toI_Col c).f1.length = c.f1.length := by simp [toI_Col]
  have e2 : (toI_Col c).f2.length = c.f2.length := by simp [toI_Col]
  omega
end Go.Proofs.Ytbpjidekjogfeaa.A
