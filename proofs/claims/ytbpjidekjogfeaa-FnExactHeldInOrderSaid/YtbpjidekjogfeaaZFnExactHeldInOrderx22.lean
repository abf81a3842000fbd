/- What the proof of the law FnExactHeldInOrder uses: lemmas, the Lean functions of the Go functions that it reaches, their contracts, and the pure statement's proof. -/
import Derived.Test.YtbpjidekjogfeaaZFnExactHeldInOrderx21
import Derived.Test.YtbpjidekjogfeaaZFnExactHeldInOrderx15
import Derived.Test.YtbpjidekjogfeaaZFnExactHeldInOrderx17
import Derived.Test.YtbpjidekjogfeaaZFnExactHeldInOrderx16
import Derived.Test.YtbpjidekjogfeaaZFnExactHeldInOrderx14
import Derived.Test.YtbpjidekjogfeaaZFnExactHeldInOrderx19
import Derived.Test.YtbpjidekjogfeaaZFnExactHeldInOrderx18
import Derived.Test.YtbpjidekjogfeaaZFnExactHeldInOrderx20
namespace Go.Proofs.Ytbpjidekjogfeaa.A
open Go.RowKit Go.Proofs.YtbpjidekjogfeaaW.PrintWords Go.Proofs.YtbpjidekjogfeaaW.PrintLast Go.Proofs.YtbpjidekjogfeaaW.PrintMore
set_option linter.unusedVariables false
set_option linter.unusedSimpArgs false
def Small (cs : List S41) : Prop := cs.length ≤ 1048576 ∧ ∀ c ∈ cs, c.f1.length ≤ 1048576 ∧ c.f2.length ≤ 1048576
def crossP (c d : S41) : Bool := d.f2.all (fun b => decide (boxI c.f2 b.f2 < 0))
def bankS : List S41 → List S41 → Bool
 | _, [] => true
 | pre, c :: rest => colP c.f0 c.f1 c.f2 && (pre.all (fun p => crossP p c) && bankS (pre ++ [c]) rest)
theorem bank2_loop (cs : List S41) (hs : Small cs) (i j : Nat) (hi : i < cs.length) (hj : j < i) (r : Bool) (hr : Ev (fun k => spec_BankOk.l1 k cs (i : Int) ((j + 1 : Nat) : Int)) r) :
  ∀ (rest : List S98) (n : Nat), (cs.getD i z41).f2.drop n = rest → n ≤ (cs.getD i z41).f2.length → Ev (fun k => spec_BankOk.l2 k cs (i : Int) (j : Int) (n : Int)) (rest.all (fun b => decide (boxI (cs.getD j z41).f2 b.f2 < 0)) && r)
 | [], n, hd, hn => by
  have he := drop_end hd hn
  have er : rd_T41 cs (i : Int) = cs.getD i z41 := rfl
  have hl := hs.1
  refine Ev.succ ?_
  simp only [spec_BankOk.l2, er]
  refine Ev.pos (by omega) (Ev.pos (by omega) (Ev.neg (by omega) ?_))
  rw [wsucc j (by omega)]
  exact hr
 | b :: rest, n, hd, hn => by
  obtain ⟨h1, h2, h3⟩ := drop_step z98 hd
  have er : rd_T41 cs (i : Int) = cs.getD i z41 := rfl
  have er2 : rd_T41 cs (j : Int) = cs.getD j z41 := rfl
  have eb : rd_T98 (cs.getD i z41).f2 (n : Int) = b := h2
  have hl := hs.1
  have hmem : cs.getD i z41 ∈ cs := by rw [getD_gen _ hi]; exact List.getElem_mem _
  have hmem2 : cs.getD j z41 ∈ cs := by rw [getD_gen _ (show j < cs.length by omega)]; exact List.getElem_mem _
  have hl2 := (hs.2 _ hmem).2
  have hl3 := (hs.2 _ hmem2).2
  have ih := bank2_loop cs hs i j hi hj r hr rest (n + 1) h3 (by omega)
  refine Ev.succ ?_
  simp only [spec_BankOk.l2, er, er2, eb, List.all_cons]
  refine Ev.pos (by omega) (Ev.pos (by omega) (Ev.pos (by omega) (Ev.pos (by omega) (Ev.pos (by omega) (Ev.pos (by omega) ?_)))))
  refine Ev.bind (box_ev _ _ _ hl3 _) ?_
  rw [wsucc n (by omega)]
  by_cases c : boxI (cs.getD j z41).f2 b.f2 < 0
  ·refine Ev.neg (by omega) ?_
   rw [decide_eq_true c, Bool.true_and]
   exact ih
  ·refine Ev.pos (by omega) ?_
   rw [decide_eq_false c, Bool.false_and, Bool.false_and]
   exact Ev.ret _
theorem bank1_loop (cs : List S41) (hs : Small cs) (i : Nat) (hi : i < cs.length) (r : Bool) (hr : Ev (fun k => spec_BankOk.l0 k cs ((i + 1 : Nat) : Int)) r) :
  ∀ (d j : Nat), j + d = i → Ev (fun k => spec_BankOk.l1 k cs (i : Int) (j : Int)) (((cs.take i).drop j).all (fun p => crossP p (cs.getD i z41)) && r)
 | 0, j, hj => by
  have hl := hs.1
  refine Ev.succ ?_
  simp only [spec_BankOk.l1]
  refine Ev.neg (by omega) ?_
  rw [wsucc i (by omega), List.drop_eq_nil_of_le (by rw [List.length_take]; omega), List.all_nil, Bool.true_and]
  exact hr
 | d + 1, j, hj => by
  have hl := hs.1
  have ih := bank1_loop cs hs i hi r hr d (j + 1) (by omega)
  have h2 := bank2_loop cs hs i j hi (by omega) _ ih (cs.getD i z41).f2 0 rfl (by omega)
  refine Ev.succ ?_
  simp only [spec_BankOk.l1]
  refine Ev.pos (by omega) (h2.to ?_)
  have e : (cs.take i).drop j = cs.getD j z41 :: (cs.take i).drop (j + 1) := by
   have hj2 : j < (cs.take i).length := by rw [List.length_take]; omega
   rw [drop_cons _ z41 j hj2, List.getD_eq_getElem?_getD, List.getElem?_take_of_lt (by omega), ← List.getD_eq_getElem?_getD]
  rw [e, List.all_cons, Bool.and_assoc]
  rfl
theorem bank0_loop (cs : List S41) (hs : Small cs) : ∀ (rest : List S41) (i : Nat), cs.drop i = rest → i ≤ cs.length → Ev (fun k => spec_BankOk.l0 k cs (i : Int)) (bankS (cs.take i) rest)
 | [], i, hd, hi => by
  have he := drop_end hd hi
  refine Ev.succ ?_
  simp only [spec_BankOk.l0, bankS]
  exact Ev.neg (by omega) (Ev.ret _)
 | c :: rest, i, hd, hi => by
  obtain ⟨h1, h2, h3⟩ := drop_step z41 hd
  have er : rd_T41 cs (i : Int) = c := h2
  have hc : c ∈ cs := by rw [← h2, getD_gen _ h1]; exact List.getElem_mem _
  have hcs := hs.2 c hc
  have ih := bank0_loop cs hs rest (i + 1) h3 (by omega)
  have hi1 := bank1_loop cs hs i h1 _ ih i 0 (by omega)
  refine Ev.succ ?_
  simp only [spec_BankOk.l0, er, bankS]
  refine Ev.pos (by omega) (Ev.pos (by omega) (Ev.bind (colok_ev _ _ (by omega) _ (by omega)) ?_))
  have et : cs.take (i + 1) = cs.take i ++ [c] := by
   rw [List.take_add_one, ← h2, List.getD_eq_getElem?_getD, List.getElem?_eq_getElem h1]
   rfl
  by_cases d : colP c.f0 c.f1 c.f2 = true
  ·refine Ev.pos d (hi1.to ?_)
   rw [d, Bool.true_and, List.drop_zero, h2, et]
  ·refine Ev.neg d ((Ev.ret _).to ?_)
   have : colP c.f0 c.f1 c.f2 = false := by simpa using d
   rw [this, Bool.false_and]
def crossV (c d : S41) : Prop := ∀ a ∈ c.f2, ∀ b ∈ d.f2, 0 < b.f2 → a.f2 ≠ b.f2
theorem boxI_neg (l : List S98) (p : Int) : boxI l p < 0 ↔ (0 < p → ∀ a ∈ l, a.f2 ≠ p) := by
 unfold boxI
 by_cases h : 0 < p
 ·rw [if_pos h]
  rcases idxP_cases l p with ⟨h1, h2⟩ | ⟨l1, b, l2, h1, h2, h3, h4⟩
  ·rw [h1]
   exact ⟨fun _ _ => h2, fun _ => by omega⟩
  ·rw [h4]
   constructor
   ·intro c; omega
   ·intro c
    exact absurd h2 (c h b (by rw [h1]; simp))
 ·rw [if_neg h]
  exact ⟨fun _ c => absurd c h, fun _ => by omega⟩
theorem crossP_iff (c d : S41) : crossP c d = true ↔ crossV c d := by
 unfold crossP crossV
 rw [List.all_eq_true]
 constructor
 ·intro h a ha b hb h0
  have := of_decide_eq_true (h b hb)
  exact (boxI_neg _ _).mp this h0 a ha
 ·intro h b hb
  exact decide_eq_true ((boxI_neg _ _).mpr (fun h0 a ha => h a ha b hb h0))
theorem bankS_iff : ∀ (rest pre : List S41), bankS pre rest = true ↔ (∀ c ∈ rest, colP c.f0 c.f1 c.f2 = true) ∧ (∀ p ∈ pre, ∀ c ∈ rest, crossV p c) ∧ rest.Pairwise crossV
 | [], pre => by simp [bankS]
 | c :: rest, pre => by
  simp only [bankS, Bool.and_eq_true]
  rw [bankS_iff rest, List.all_eq_true]
  constructor
  ·rintro ⟨h1, h2, h3, h4, h5⟩
   refine ⟨fun d hd => ?_, fun p hp d hd => ?_, List.pairwise_cons.mpr ⟨fun d hd => h4 c (by simp) d hd, h5⟩⟩
   ·rcases List.mem_cons.mp hd with rfl | hd
    ·exact h1
    ·exact h3 d hd
   ·rcases List.mem_cons.mp hd with rfl | hd
    ·exact (crossP_iff _ _).mp (h2 p hp)
    ·exact h4 p (by simp [hp]) d hd
  ·rintro ⟨h1, h2, h3⟩
   obtain ⟨h4, h5⟩ := List.pairwise_cons.mp h3
   refine ⟨h1 c (by simp), fun p hp => (crossP_iff _ _).mpr (h2 p hp c (by simp)), fun d hd => h1 d (by simp [hd]), fun p hp d hd => ?_, h5⟩
   rcases List.mem_append.mp hp with hp | hp
   ·exact h2 p hp d (by simp [hd])
   ·rw [List.mem_singleton.mp hp]; exact h4 d hd
theorem parP_iff : ∀ (bs : List S98) (ps : List Int), bs.Pairwise (fun a b => 0 < b.f2 → a.f2 ≠ b.f2) →
  ((∀ b ∈ bs, 0 < b.f2 → b.f2 ∉ ps) ∧ ∃ qs, parP bs ps = some qs ∧ ∀ x, x ∈ qs ↔ x ∈ ps ∨ ∃ b ∈ bs, b.f2 = x) ∨ (¬ (∀ b ∈ bs, 0 < b.f2 → b.f2 ∉ ps) ∧ parP bs ps = none)
 | [], ps, _ => Or.inl ⟨by simp, ps, rfl, by simp⟩
 | b :: bs, ps, hp => by
  obtain ⟨h1, h2⟩ := List.pairwise_cons.mp hp
  simp only [parP]
  by_cases c : 0 < b.f2 ∧ b.f2 ∈ ps
  ·rw [if_pos c]
   exact Or.inr ⟨fun h => h b (by simp) c.1 c.2, rfl⟩
  ·rw [if_neg c]
   rcases parP_iff bs (b.f2 :: ps) h2 with ⟨h3, qs, h4, h5⟩ | ⟨h3, h4⟩
   ·refine Or.inl ⟨fun x hx h0 => ?_, qs, h4, fun x => ?_⟩
    ·rcases List.mem_cons.mp hx with rfl | hx
     ·exact fun h => c ⟨h0, h⟩
     ·exact fun h => h3 x hx h0 (by simp [h])
    ·rw [h5 x, List.mem_cons]
     constructor
     ·rintro ((h | h) | ⟨y, hy, e⟩)
      ·exact Or.inr ⟨b, by simp, h.symm⟩
      ·exact Or.inl h
      ·exact Or.inr ⟨y, by simp [hy], e⟩
     ·rintro (h | ⟨y, hy, e⟩)
      ·exact Or.inl (Or.inr h)
      ·rcases List.mem_cons.mp hy with rfl | hy
       ·exact Or.inl (Or.inl e.symm)
       ·exact Or.inr ⟨y, hy, e⟩
   ·refine Or.inr ⟨fun h => h3 (fun x hx h0 hm => ?_), h4⟩
    rcases List.mem_cons.mp hm with e | hm
    ·exact h1 x hx h0 e.symm
    ·exact h x (by simp [hx]) h0 hm
theorem bankL_iff : ∀ (cs : List S41) (ps : List Int), bankL cs ps = true ↔ (∀ c ∈ cs, colP c.f0 c.f1 c.f2 = true) ∧ (∀ c ∈ cs, ∀ b ∈ c.f2, 0 < b.f2 → b.f2 ∉ ps) ∧ cs.Pairwise crossV
 | [], ps => by simp [bankL]
 | c :: cs, ps => by
  simp only [bankL, Bool.and_eq_true]
  by_cases hc : colP c.f0 c.f1 c.f2 = true
  ·have v := (colP_iff _ _ _).mp hc
   rcases parP_iff c.f2 ps ((parcs_iff _ _).mp v.par).2.2 with ⟨h3, qs, h4, h5⟩ | ⟨h3, h4⟩
   ·rw [h4]
    dsimp only
    rw [bankL_iff cs qs]
    constructor
    ·rintro ⟨_, g1, g2, g3⟩
     refine ⟨fun d hd => ?_, fun d hd b hb h0 => ?_, List.pairwise_cons.mpr ⟨fun d hd a ha b hb h0 e => g2 d hd b hb h0 ((h5 _).mpr (Or.inr ⟨a, ha, e⟩)), g3⟩⟩
     ·rcases List.mem_cons.mp hd with rfl | hd
      ·exact hc
      ·exact g1 d hd
     ·rcases List.mem_cons.mp hd with rfl | hd
      ·exact h3 b hb h0
      ·exact fun h => g2 d hd b hb h0 ((h5 _).mpr (Or.inl h))
    ·rintro ⟨g1, g2, g3⟩
     obtain ⟨g4, g5⟩ := List.pairwise_cons.mp g3
     refine ⟨hc, fun d hd => g1 d (by simp [hd]), fun d hd b hb h0 h => ?_, g5⟩
     rcases (h5 _).mp h with h | ⟨a, ha, e⟩
     ·exact g2 d (by simp [hd]) b hb h0 h
     ·exact g4 d hd a ha b hb h0 e
   ·rw [h4]
    dsimp only
    constructor
    ·rintro ⟨_, h⟩; simp at h
    ·rintro ⟨_, g2, _⟩
     exact absurd (fun b hb h0 => g2 c (by simp) b hb h0) h3
  ·constructor
   ·rintro ⟨h, _⟩; exact absurd h hc
   ·rintro ⟨h, _⟩; exact absurd (h c (by simp)) hc
structure BankV (cs : List S41) : Prop where
 len : 1 ≤ (cs.length : Int) ∧ (cs.length : Int) ≤ 6
 col : ∀ c ∈ cs, colP c.f0 c.f1 c.f2 = true
 cross : cs.Pairwise crossV
theorem bankP_iff (cs : List S41) : bankP cs = true ↔ BankV cs := by
 unfold bankP
 rw [Bool.and_eq_true, decide_eq_true_iff, bankL_iff]
 constructor
 ·rintro ⟨h1, h2, _, h3⟩; exact ⟨h1, h2, h3⟩
 ·rintro ⟨h1, h2, h3⟩; exact ⟨h1, h2, fun _ _ _ _ _ => by simp, h3⟩
theorem bankok_ev (cs : List S41) (hs : Small cs) : Ev (fun k => spec_BankOk.f k cs) (bankP cs) := by
 unfold spec_BankOk.f
 refine Ev.bind (Ev.const (in_eq _ _ _)) ?_
 by_cases c : 1 ≤ (cs.length : Int) ∧ (cs.length : Int) ≤ 6
 ·refine Ev.pos (decide_eq_true c) ?_
  refine (bank0_loop cs hs cs 0 rfl (by omega)).to ?_
  have e : bankS [] cs = bankL cs [] := by
   rw [Bool.eq_iff_iff, bankS_iff, bankL_iff]
   constructor
   ·rintro ⟨h1, _, h3⟩; exact ⟨h1, fun _ _ _ _ _ => by simp, h3⟩
   ·rintro ⟨h1, _, h3⟩; exact ⟨h1, fun p hp => absurd hp (by simp), h3⟩
  unfold bankP
  rw [decide_eq_true c, Bool.true_and, ← e]
  rfl
 ·refine Ev.neg (by simpa using c) ((Ev.ret _).to ?_)
  unfold bankP
  rw [decide_eq_false c, Bool.false_and]
def toI_Col (c : S58) : S41 := ⟨c.f0, c.f1, c.f2.map toI_Box⟩
def wt (l : List S58) : Int := (l.map (fun c => ((c.f1.length : Int) + c.f2.length))).foldr (· + ·) 0
theorem wt_nonneg : ∀ (l : List S58), 0 ≤ wt l
 | [] => Int.le_refl _
 | c :: l => by
  have := wt_nonneg l
  show 0 ≤ ((c.f1.length : Int) + c.f2.length) + wt l
  omega
theorem wt_mem : ∀ (l : List S58) (c : S58), c ∈ l → (c.f1.length : Int) + c.f2.length ≤ wt l
 | [], c, h => absurd h (by simp)
 | d :: l, c, h => by
  have hn := wt_nonneg l
  show _ ≤ ((d.f1.length : Int) + d.f2.length) + wt l
  rcases List.mem_cons.mp h with rfl | h
  ·omega
  ·have := wt_mem l c h; omega
theorem szS_loop (l : List S58) (hl : l.length ≤ 1048576) (hm : ∀ c ∈ l, c.f1.length ≤ 9223372036854775807 ∧ c.f2.length ≤ 9223372036854775807) : ∀ (rest : List S58) (i : Nat) (a : Int), l.drop i = rest → i ≤ l.length → 0 ≤ a → a ≤ 1048576 → Ev (fun k => laws_szColumnS.l0 k l a (i : Int)) (if a < wt rest then -1 else a - wt rest)
 | [], i, a, hd, hi, h0, h1 => by
  have he := drop_end hd hi
  refine Ev.succ ?_
  simp only [laws_szColumnS.l0]
  refine Ev.neg (by omega) ((Ev.ret _).to ?_)
  have : wt [] = 0 := rfl
  rw [this, if_neg (by omega)]
  omega
 | c :: rest, i, a, hd, hi, h0, h1 => by
  obtain ⟨h2, h3, h4⟩ := drop_step z58 hd
  have er : rd_T58 l (i : Int) = c := h3
  have hc : c ∈ l := by rw [← h3, getD_gen _ h2]; exact List.getElem_mem _
  have hn := wt_nonneg rest
  have ew : wt (c :: rest) = ((c.f1.length : Int) + c.f2.length) + wt rest := rfl
  refine Ev.succ ?_
  simp only [laws_szColumnS.l0, er]
  refine Ev.pos (by omega) (Ev.pos (by omega) (Ev.bind (Ev.const (szColumn_eq _ _ _ a h0 h1 (hm c hc).1 (hm c hc).2)) ?_))
  by_cases d : a < (c.f1.length : Int) + c.f2.length
  ·rw [if_pos d, if_pos (by omega)]
   exact Ev.pos (by omega) (Ev.ret _)
  ·rw [if_neg d, wsucc i (by omega)]
   refine Ev.neg (by omega) ((szS_loop l hl hm rest (i + 1) _ h4 (by omega) (by omega) (by omega)).to ?_)
   by_cases e : a < wt (c :: rest)
   ·rw [if_pos e, if_pos (by omega)]
   ·rw [if_neg e, if_neg (by omega)]
    omega
theorem szS_ev (l : List S58) (hl : l.length ≤ 9223372036854775807) (hm : ∀ c ∈ l, c.f1.length ≤ 9223372036854775807 ∧ c.f2.length ≤ 9223372036854775807) : ∃ r : Int, Ev (fun k => laws_szColumnS.f k l 1048576) r ∧ (r < 0 ∨ (0 ≤ r ∧ (l.length : Int) + wt l ≤ 1048576)) := by
 have hn := wt_nonneg l
 unfold laws_szColumnS.f
 rw [wid (1048576 - (l.length : Int)) (by omega) (by omega)]
 by_cases c : 1048576 - (l.length : Int) < 0
 ·exact ⟨-1, Ev.pos c (Ev.ret _), Or.inl (by omega)⟩
 ·refine ⟨_, Ev.neg c (szS_loop l (by omega) hm l 0 _ rfl (by omega) (by omega) (by omega)), ?_⟩
  by_cases d : 1048576 - (l.length : Int) < wt l
  ·rw [if_pos d]; exact Or.inl (by omega)
  ·rw [if_neg d]; exact Or.inr ⟨by omega, by omega⟩
theorem map_ev {α β : Type} {L : Nat → List β → Int → Option (List β)} {xs : List α} {g : α → β} (d0 : α)
  (h : ∀ acc (i : Nat) r, i < xs.length → acc.length = xs.length → Ev (fun k => L k (acc.set i (g (xs.getD i d0))) ((i + 1 : Nat) : Int)) r → Ev (fun k => L k acc (i : Int)) r)
  (he : ∀ acc, Ev (fun k => L k acc (xs.length : Int)) acc) : ∀ (d : Nat) acc i, i + d = xs.length → acc.length = xs.length → (∀ j, j < i → acc[j]? = (xs.map g)[j]?) → Ev (fun k => L k acc (i : Int)) (xs.map g)
 | 0, acc, i, hi, hl, hp => by
  obtain rfl : i = xs.length := by omega
  refine (he acc).to ?_
  apply List.ext_getElem?
  intro j
  by_cases hj : j < xs.length
  ·exact hp j hj
  ·rw [List.getElem?_eq_none (by omega), List.getElem?_eq_none (by simp; omega)]
 | d + 1, acc, i, hi, hl, hp => by
  refine h acc i _ (by omega) hl (map_ev d0 h he d _ (i + 1) (by omega) (by simp [hl]) (fun j hj => ?_))
  by_cases e : i = j
  ·subst e
   rw [List.getElem?_set_self (by omega), List.getElem?_map, List.getElem?_eq_getElem (show i < xs.length by omega), List.getD_eq_getElem?_getD, List.getElem?_eq_getElem (show i < xs.length by omega)]
   rfl
  ·rw [List.getElem?_set_ne e]
   exact hp j (by omega)
theorem toColumnS_ev (l : List S58) (hl : l.length ≤ 1048576) (hm : ∀ c ∈ l, c.f1.length ≤ 1048576 ∧ c.f2.length ≤ 1048576) : Ev (fun k => laws_toColumnS.f k l) (l.map toI_Col) := by
 unfold laws_toColumnS.f
 refine Ev.pos (by omega) (Ev.pos (by omega) ?_)
 refine map_ev (L := fun k acc i => laws_toColumnS.l0 k l acc i) z58 (fun acc i r hi ha ih => ?_) (fun acc => ?_) l.length _ 0 (by omega) (by simp) (fun j hj => by omega)
 ·refine Ev.succ ?_
  simp only [laws_toColumnS.l0]
  have er : rd_T58 l (i : Int) = l.getD i z58 := rfl
  have hc : l.getD i z58 ∈ l := by rw [getD_gen _ hi]; exact List.getElem_mem _
  rw [er, wsucc i (by omega)]
  refine Ev.pos (by omega) (Ev.pos (by omega) (Ev.bind (toColumn_ev _ _ _ (hm _ hc).1 (hm _ hc).2) (Ev.pos (by omega) ?_)))
  exact ih
 ·refine Ev.succ ?_
  simp only [laws_toColumnS.l0]
  exact Ev.neg (by omega) (Ev.ret _)
theorem eqColumnS_ev (l : List S41) (hs : Small l) : Ev (fun k => laws_eqColumnS.f k l l) true := by
 have hl := hs.1
 have go : ∀ (rest : List S41) (i : Nat), l.drop i = rest → i ≤ l.length → Ev (fun k => laws_eqColumnS.l0 k l l (i : Int)) true := by
  intro rest
  induction rest with
  | nil =>
   intro i hd hi
   have he := drop_end hd hi
   refine Ev.succ ?_
   simp only [laws_eqColumnS.l0]
   exact Ev.neg (by omega) (Ev.ret _)
  | cons c rest ih =>
   intro i hd hi
   obtain ⟨h1, h2, h3⟩ := drop_step z41 hd
   have er : rd_T41 l (i : Int) = c := h2
   have hc : c ∈ l := by rw [← h2, getD_gen _ h1]; exact List.getElem_mem _
   refine Ev.succ ?_
   simp only [laws_eqColumnS.l0, er]
   rw [wsucc i (by omega)]
   exact Ev.pos (by omega) (Ev.pos (by omega) (Ev.pos (by omega) (Ev.bind (eqColumn_ev _ _ _ (hs.2 c hc).1 (hs.2 c hc).2) (Ev.pos (by trivial) (ih (i + 1) h3 (by omega))))))
 unfold laws_eqColumnS.f
 exact Ev.pos rfl (go l 0 rfl (by omega))
theorem bank_begin (l : List S58) (hl : ok22 l) : (∃ r : Int, Ev (fun k => laws_szColumnS.f k l 1048576) r ∧ r < 0) ∨ (∃ r : Int, Ev (fun k => laws_szColumnS.f k l 1048576) r ∧ 0 ≤ r) ∧ Ev (fun k => laws_toColumnS.f k l) (l.map toI_Col) ∧ Small (l.map toI_Col) ∧ (l.length : Int) + wt l ≤ 1048576 := by
 obtain ⟨h1, h2⟩ := hl
 unfold maxLen at h1
 obtain ⟨r, hr, h3⟩ := szS_ev l (by omega) (fun c hc => by
  obtain ⟨_, ⟨h4, _⟩, ⟨h5, _⟩⟩ := h2 c hc
  unfold maxLen at h4 h5
  exact ⟨by omega, by omega⟩)
 rcases h3 with h3 | ⟨h3, h4⟩
 ·exact Or.inl ⟨r, hr, h3⟩
 ·have hn := wt_nonneg l
  have hm : ∀ c ∈ l, c.f1.length ≤ 1048576 ∧ c.f2.length ≤ 1048576 := fun c hc => by
   have := wt_mem l c hc
   omega
  refine Or.inr ⟨⟨r, hr, h3⟩, toColumnS_ev l (by omega) hm, ⟨by rw [List.length_map]; omega, fun c hc => ?_⟩, h4⟩
  obtain ⟨d, hd, rfl⟩ := List.mem_map.mp hc
  have := hm d hd
  exact ⟨this.1, by show (d.f2.map toI_Box).length ≤ _; rw [List.length_map]; exact this.2⟩
end Go.Proofs.Ytbpjidekjogfeaa.A

namespace Go.Proofs.Ytbpjidekjogfeaa.A
open Go.RowKit Go.Proofs.YtbpjidekjogfeaaW.PrintWords Go.Proofs.YtbpjidekjogfeaaW.PrintLast Go.Proofs.YtbpjidekjogfeaaW.PrintMore
set_option linter.unusedVariables false
set_option linter.unusedSimpArgs false
theorem has_loop (l : List Int) (hl : l.length ≤ 1048576) (x : Int) : ∀ (rest : List Int) (i : Nat), l.drop i = rest → i ≤ l.length → Ev (fun k => spec_l02Has.l0 k l x (i : Int)) (decide (x ∈ rest))
 | [], i, hd, hi => by
  have he := drop_end hd hi
  refine Ev.succ ?_
  simp only [spec_l02Has.l0]
  exact Ev.neg (by omega) ((Ev.ret _).to (by simp))
 | b :: rest, i, hd, hi => by
  obtain ⟨h1, h2, h3⟩ := drop_step 0 hd
  have er : rd l (i : Int) = b := h2
  have ih := has_loop l hl x rest (i + 1) h3 (by omega)
  refine Ev.succ ?_
  simp only [spec_l02Has.l0, er]
  refine Ev.pos (by omega) (Ev.pos (by omega) ?_)
  rw [wsucc i (by omega)]
  by_cases c : b = x
  ·exact Ev.pos c ((Ev.ret _).to (by simp [c]))
  ·refine Ev.neg c (ih.to ?_)
   rw [decide_eq_decide, List.mem_cons]
   constructor
   ·exact Or.inr
   ·rintro (h | h)
    ·exact absurd h.symm c
    ·exact h
theorem has_ev (l : List Int) (hl : l.length ≤ 1048576) (x : Int) : Ev (fun k => spec_l02Has.f k l x) (decide (x ∈ l)) := by
 unfold spec_l02Has.f
 exact has_loop l hl x l 0 rfl (by omega)
theorem index_loop (l : List Int) (hl : l.length ≤ 1048576) (x : Int) : ∀ (rest : List Int) (i : Nat), l.drop i = rest → i ≤ l.length → ∃ r : Int, Ev (fun k => slices_Index_int_int.l0 k l x (l.length : Int) (i : Int)) r ∧ (0 ≤ r ↔ x ∈ rest)
 | [], i, hd, hi => by
  have he := drop_end hd hi
  refine ⟨-1, Ev.succ ?_, by simp⟩
  simp only [slices_Index_int_int.l0]
  exact Ev.neg (by omega) (Ev.ret _)
 | b :: rest, i, hd, hi => by
  obtain ⟨h1, h2, h3⟩ := drop_step 0 hd
  have er : rd l (i : Int) = b := h2
  by_cases c : x = b
  ·refine ⟨(i : Int), Ev.succ ?_, by simp [c]⟩
   simp only [slices_Index_int_int.l0, er]
   exact Ev.pos (by omega) (Ev.pos (by omega) (Ev.pos (by omega) (Ev.pos c (Ev.ret _))))
  ·obtain ⟨r, h4, h5⟩ := index_loop l hl x rest (i + 1) h3 (by omega)
   refine ⟨r, Ev.succ ?_, by rw [h5, List.mem_cons]; constructor; exact Or.inr; rintro (h | h); exact absurd h c; exact h⟩
   simp only [slices_Index_int_int.l0, er]
   refine Ev.pos (by omega) (Ev.pos (by omega) (Ev.pos (by omega) (Ev.neg c ?_)))
   rw [wsucc i (by omega)]
   exact h4
theorem contains_ev (l : List Int) (hl : l.length ≤ 1048576) (x : Int) : Ev (fun k => slices_Contains_int_int.f k l x) (decide (x ∈ l)) := by
 obtain ⟨r, h1, h2⟩ := index_loop l hl x l 0 rfl (by omega)
 unfold slices_Contains_int_int.f slices_Index_int_int.f
 refine Ev.bind h1 ((Ev.ret _).to ?_)
 rw [decide_eq_decide]
 exact h2
def toRun (d : List S98 × List S98 × List S98) : S113 := ⟨gapR d.2.1, (d.1.length : Int), (d.1.length : Int) + (d.2.1.length : Int)⟩
def emT (pre cur : List S98) : List S113 := if cur = [] then [] else [⟨gapR cur, (pre.length : Int), (pre.length : Int) + (cur.length : Int)⟩]
theorem emD_run (pre cur bs : List S98) : (emD pre cur bs).map toRun = emT pre cur := by
 unfold emD emT; split <;> rfl
theorem emT_len (pre cur : List S98) : (emT pre cur).length ≤ 1 ∧ (cur = [] → emT pre cur = []) := by
 unfold emT; split
 ·next h => exact ⟨by simp, fun _ => rfl⟩
 ·next h => exact ⟨by simp, fun c => absurd c h⟩
theorem gapR_snoc {cur : List S98} (h : cur ≠ []) (b : S98) : gapR (cur ++ [b]) = ⟨(gapR cur).f0, (gapR cur).f1, (gapR cur).f2 + b.f1⟩ := by
 cases cur with
 | nil => exact absurd rfl h
 | cons x cur =>
  show (S50.mk 0 x.f0 (sumB (x :: cur ++ [b]))) = S50.mk 0 x.f0 (sumB (x :: cur) + b.f1)
  rw [sumB_app]
  have : sumB [b] = b.f1 := by rw [sumB_cons, sumB_nil]; omega
  rw [this]
theorem getD_end {α : Type} (l : List α) (s d : α) : (l ++ [s]).getD l.length d = s := by
 rw [List.getD_eq_getElem?_getD, List.getElem?_append_right (Nat.le_refl _), Nat.sub_self]; rfl
theorem set_end {α : Type} (l : List α) (s t : α) : (l ++ [s]).set l.length t = l ++ [t] := by
 rw [List.set_append_right _ _ (Nat.le_refl _), Nat.sub_self]; rfl
theorem runs_loop (h : Int) (fx : List Int) (hf : fx.length ≤ 1048576) (bx : List S98) (hl : bx.length ≤ 24) (hm : ∀ b ∈ bx, 1 ≤ b.f1 ∧ b.f1 ≤ 24) :
  ∀ (rest : List S98) (i : Nat) (pre cur : List S98) (done : List S113), bx.drop i = rest → i ≤ bx.length → pre.length + cur.length = i → done.length ≤ i → 0 ≤ sumB cur → sumB cur ≤ 24 * (i : Int) →
  Ev (fun k => impl_runsOf.l0 k (done ++ emT pre cur) (decide (cur ≠ [])) bx (bx.length : Int) (i : Int) h fx bx) (done ++ (decs fx pre cur rest).map toRun)
 | [], i, pre, cur, done, hd, hi, hp, hn, s0, s1 => by
  have he := drop_end hd hi
  refine Ev.succ ?_
  simp only [impl_runsOf.l0, decs]
  rw [emD_run]
  exact Ev.neg (by omega) (Ev.ret _)
 | b :: rest, i, pre, cur, done, hd, hi, hp, hn, s0, s1 => by
  obtain ⟨h1, h2, h3⟩ := drop_step z98 hd
  have er : rd_T98 bx (i : Int) = b := h2
  have hb : b ∈ bx := by rw [← h2, getD_gen _ h1]; exact List.getElem_mem _
  have hbb := hm b hb
  have hl1 := emT_len pre cur
  refine Ev.succ ?_
  simp only [impl_runsOf.l0, er]
  refine Ev.pos (by omega) (Ev.pos (by omega) (Ev.pos (by omega) ?_))
  have go : ∀ (s : Bool), s = !opB b → Ev (fun k => impl_runsOf.j1 k (done ++ emT pre cur) (decide (cur ≠ [])) (i : Int) bx (bx.length : Int) (i : Int) s h fx bx b.f0 b.f1 b.f2 b.f3) (done ++ (decs fx pre cur (b :: rest)).map toRun) := by
   intro s hs
   refine Ev.succ ?_
   simp only [impl_runsOf.j1, decs]
   rw [wsucc i (by omega)]
   cases hob : opB b with
   | false =>
    rw [hob] at hs
    subst hs
    rw [if_neg (by simp), List.map_append, emD_run, ← List.append_assoc]
    have ih := runs_loop h fx hf bx hl hm rest (i + 1) (pre ++ cur ++ [b]) [] (done ++ emT pre cur) h3 (by omega) (by simp; omega) (by simp; omega) (by rw [sumB_nil]; omega) (by rw [sumB_nil]; omega)
    rw [(emT_len _ _).2 rfl, List.append_nil] at ih
    exact Ev.pos (by trivial) (ih.to rfl)
   | true =>
    rw [hob] at hs
    subst hs
    refine Ev.neg (by simp) ?_
    rw [if_pos rfl]
    have new : (cur ≠ [] → b.f0 ∈ fx) → Ev (fun k => if (done ++ emT pre cur).length < 3518437208883 then impl_runsOf.l0 k (done ++ emT pre cur ++ [⟨⟨0, b.f0, b.f1⟩, (i : Int), ((i + 1 : Nat) : Int)⟩]) true bx (bx.length : Int) ((i + 1 : Nat) : Int) h fx bx else none) (done ++ (if cur ≠ [] ∧ b.f0 ∉ fx then decs fx pre (cur ++ [b]) rest else emD pre cur (b :: rest) ++ decs fx (pre ++ cur) [b] rest).map toRun) := by
     intro hc
     rw [if_neg (fun e => e.2 (hc e.1)), List.map_append, emD_run, ← List.append_assoc]
     have sb : sumB [b] = b.f1 := by rw [sumB_cons, sumB_nil]; omega
     have ih := runs_loop h fx hf bx hl hm rest (i + 1) (pre ++ cur) [b] (done ++ emT pre cur) h3 (by omega) (by simp; omega) (by simp; omega) (by rw [sb]; omega) (by rw [sb]; omega)
     refine Ev.pos (by simp; omega) (Ev.of_eq ih (fun k => ?_))
     have e : emT (pre ++ cur) [b] = [⟨⟨0, b.f0, b.f1⟩, (i : Int), ((i + 1 : Nat) : Int)⟩] := by
      unfold emT
      rw [if_neg (by simp)]
      show [(S113.mk (S50.mk 0 b.f0 (sumB [b])) _ _)] = _
      rw [sb, List.length_append, hp]
      rfl
     rw [e]
     rfl
    by_cases hc : cur = []
    ·have e : decide (cur ≠ []) = false := by simp [hc]
     rw [e]
     refine Ev.neg (by simp) ?_
     exact new (fun c => absurd hc c)
    ·have e : decide (cur ≠ []) = true := by simp [hc]
     rw [e]
     refine Ev.pos rfl ?_
     refine Ev.bind (contains_ev fx hf b.f0) ?_
     by_cases hfx : b.f0 ∈ fx
     ·refine Ev.pos (decide_eq_true hfx) ?_
      exact new (fun _ => hfx)
     ·refine Ev.neg (by simpa using hfx) ?_
      rw [if_pos ⟨hc, hfx⟩]
      have eT : emT pre cur = [⟨gapR cur, (pre.length : Int), (pre.length : Int) + (cur.length : Int)⟩] := by unfold emT; rw [if_neg hc]
      have ih := runs_loop h fx hf bx hl hm rest (i + 1) pre (cur ++ [b]) done h3 (by omega) (by simp; omega) (by omega) (by rw [sumB_app, sumB_cons, sumB_nil]; omega) (by rw [sumB_app, sumB_cons, sumB_nil]; omega)
      have eT2 : emT pre (cur ++ [b]) = [⟨⟨(gapR cur).f0, (gapR cur).f1, (gapR cur).f2 + b.f1⟩, (pre.length : Int), (i : Int) + 1⟩] := by
       unfold emT
       rw [if_neg (by simp), gapR_snoc hc, List.length_append]
       simp
       omega
      rw [eT2] at ih
      rw [eT]
      have hw : wrap64 (((done ++ [(S113.mk (gapR cur) (pre.length : Int) ((pre.length : Int) + (cur.length : Int)))]).length : Int) - 1) = (done.length : Int) := by
       simp; unfold wrap64; omega
      have hg : (gapR cur).f2 = sumB cur := by cases cur with | nil => exact absurd rfl hc | cons x cur => rfl
      rw [hw]
      have hrd : ∀ v : S113, rd_T113 (done ++ [v]) (done.length : Int) = v := fun v => getD_end done v _
      refine Ev.pos (by omega) (Ev.pos (by simp; omega) ?_)
      simp only [hrd, Int.toNat_natCast, set_end, Option.bind_some]
      refine Ev.of_eq ih (fun k => ?_)
      rw [wid ((gapR cur).f2 + b.f1) (by omega) (by omega), show (pre.length : Int) + (cur.length : Int) = (i : Int) by omega, wid ((i : Int) + 1) (by omega) (by omega)]
      have e2 : decide (cur ++ [b] ≠ []) = true := by simp
      rw [e2]
  by_cases c2 : b.f2 = 0
  ·refine Ev.pos c2 (go b.f3 ?_)
   unfold opB
   rw [decide_eq_true c2, Bool.true_and, Bool.not_not]
  ·refine Ev.neg c2 (go true ?_)
   unfold opB
   rw [decide_eq_false c2]
   rfl
theorem runs_ev (h : Int) (fx : List Int) (hf : fx.length ≤ 1048576) (bx : List S98) (hl : bx.length ≤ 24) (hm : ∀ b ∈ bx, 1 ≤ b.f1 ∧ b.f1 ≤ 24) : Ev (fun k => impl_runsOf.f k h fx bx) ((decs fx [] [] bx).map toRun) := by
 unfold impl_runsOf.f
 exact runs_loop h fx hf bx hl hm bx 0 [] [] [] rfl (by omega) rfl (by simp) (by rw [sumB_nil]; omega) (by rw [sumB_nil]; omega)
theorem gapsW_len (fx : List Int) : ∀ (bs cur : List S98), (gapsW fx cur bs).length ≤ bs.length + (emR cur).length
 | [], cur => by simp [gapsW]
 | b :: bs, cur => by
  have e1 : ∀ (x : List S98), (emR x).length ≤ 1 := fun x => by unfold emR; split <;> simp
  have e0 : emR [] = [] := rfl
  simp only [gapsW]
  split
  ·split
   ·next h =>
    have := gapsW_len fx bs (cur ++ [b])
    have e2 : (emR cur).length = 1 := by unfold emR; rw [if_neg h.1]; rfl
    have := e1 (cur ++ [b])
    simp; omega
   ·have := gapsW_len fx bs [b]
    have := e1 [b]
    simp; omega
  ·have := gapsW_len fx bs []
   rw [e0] at this
   simp at this ⊢; omega
theorem gapsB_len (fx : List Int) (bx : List S98) : (gapsB fx bx).length ≤ bx.length := by
 have := gapsW_len fx bx []
 have e0 : emR [] = [] := rfl
 rw [e0] at this
 unfold gapsB
 simpa using this
def gapsP (h : Int) (fx : List Int) (bx : List S98) : List S50 := if colP h fx bx = true then gapsB fx bx else []
theorem open_eq (a b c : Int) (d : Bool) : spec_l02Open.f a b c d = some (opB ⟨a, b, c, d⟩) := by
 unfold spec_l02Open.f opB
 dsimp only
 by_cases h : c = 0
 ·rw [if_pos h, decide_eq_true h, Bool.true_and]
 ·rw [if_neg h, decide_eq_false h, Bool.false_and]
theorem gapsS_loop (h : Int) (fx : List Int) (hf : fx.length ≤ 1048576) (bx : List S98) (hl : bx.length ≤ 24) (hm : ∀ b ∈ bx, 1 ≤ b.f1 ∧ b.f1 ≤ 24) :
  ∀ (rest : List S98) (i : Nat) (cur : List S98) (done : List S50), bx.drop i = rest → i ≤ bx.length → done.length ≤ i → 0 ≤ sumB cur → sumB cur ≤ 24 * (i : Int) → (cur ≠ [] ↔ 0 < i ∧ opB (bx.getD (i - 1) z98) = true) →
  Ev (fun k => spec_GapsOf.l0 k (done ++ emR cur) (i : Int) h fx bx) (done ++ gapsW fx cur rest)
 | [], i, cur, done, hd, hi, hn, s0, s1, hc => by
  have he := drop_end hd hi
  refine Ev.succ ?_
  simp only [spec_GapsOf.l0, gapsW]
  exact Ev.neg (by omega) (Ev.ret _)
 | b :: rest, i, cur, done, hd, hi, hn, s0, s1, hc => by
  obtain ⟨h1, h2, h3⟩ := drop_step z98 hd
  have er : rd_T98 bx (i : Int) = b := h2
  have hb : b ∈ bx := by rw [← h2, getD_gen _ h1]; exact List.getElem_mem _
  have hbb := hm b hb
  have eb : (S98.mk b.f0 b.f1 b.f2 b.f3) = b := rfl
  have hl1 : (emR cur).length ≤ 1 := by unfold emR; split <;> simp
  refine Ev.succ ?_
  simp only [spec_GapsOf.l0, er, gapsW]
  rw [wsucc i (by omega)]
  refine Ev.pos (by omega) (Ev.pos (by omega) ?_)
  refine Ev.bind (Ev.const (open_eq _ _ _ _)) ?_
  rw [eb]
  have nxt : opB (bx.getD (i + 1 - 1) z98) = opB b := by rw [Nat.add_sub_cancel, h2]
  cases hob : opB b with
  | false =>
   refine Ev.neg (by simp) ?_
   rw [if_neg (by simp), ← List.append_assoc]
   have ih := gapsS_loop h fx hf bx hl hm rest (i + 1) [] (done ++ emR cur) h3 (by omega) (by simp; omega) (by rw [sumB_nil]; omega) (by rw [sumB_nil]; omega) ⟨fun c => absurd rfl c, fun c => by rw [nxt, hob] at c; simp at c⟩
   have e0 : emR [] = [] := rfl
   rw [e0, List.append_nil] at ih
   exact ih
  | true =>
   refine Ev.pos (by trivial) ?_
   rw [if_pos rfl]
   have sb : sumB [b] = b.f1 := by rw [sumB_cons, sumB_nil]; omega
   have new : (cur ≠ [] → b.f0 ∈ fx) → Ev (fun k => if (done ++ emR cur).length < 5864062014805 then spec_GapsOf.l0 k (done ++ emR cur ++ [⟨0, b.f0, b.f1⟩]) ((i + 1 : Nat) : Int) h fx bx else none) (done ++ (if cur ≠ [] ∧ b.f0 ∉ fx then gapsW fx (cur ++ [b]) rest else emR cur ++ gapsW fx [b] rest)) := by
    intro hcf
    rw [if_neg (fun e => e.2 (hcf e.1)), ← List.append_assoc]
    have ih := gapsS_loop h fx hf bx hl hm rest (i + 1) [b] (done ++ emR cur) h3 (by omega) (by simp; omega) (by rw [sb]; omega) (by rw [sb]; omega) ⟨fun _ => ⟨by omega, by rw [nxt, hob]⟩, fun _ => by simp⟩
    refine Ev.pos (by simp; omega) (Ev.of_eq ih (fun k => ?_))
    have e : emR [b] = [⟨0, b.f0, b.f1⟩] := by
     unfold emR
     rw [if_neg (by simp)]
     show [(S50.mk 0 b.f0 (sumB [b]))] = _
     rw [sb]
    rw [e]
   by_cases hcur : cur = []
   ·have hno : ¬ (0 < i ∧ opB (bx.getD (i - 1) z98) = true) := fun c => hc.mpr c hcur
    by_cases ci : (i : Int) > 0
    ·refine Ev.pos ci ?_
     rw [wpred i (by omega) (by omega)]
     have er2 : rd_T98 bx ((i - 1 : Nat) : Int) = bx.getD (i - 1) z98 := rfl
     refine Ev.pos (by omega) (Ev.pos (by omega) (Ev.bind (Ev.const (open_eq _ _ _ _)) ?_))
     rw [er2]
     refine Ev.neg (fun c => hno ⟨by omega, c⟩) ?_
     exact new (fun c => absurd hcur c)
    ·refine Ev.neg ci ?_
     exact new (fun c => absurd hcur c)
   ·obtain ⟨ci, co⟩ := hc.mp hcur
    refine Ev.pos (by omega) ?_
    rw [wpred i (by omega) (by omega)]
    have er2 : rd_T98 bx ((i - 1 : Nat) : Int) = bx.getD (i - 1) z98 := rfl
    refine Ev.pos (by omega) (Ev.pos (by omega) (Ev.bind (Ev.const (open_eq _ _ _ _)) ?_))
    rw [er2]
    refine Ev.pos co ?_
    refine Ev.bind (has_ev fx hf b.f0) ?_
    by_cases hfx : b.f0 ∈ fx
    ·refine Ev.pos (decide_eq_true hfx) ?_
     exact new (fun _ => hfx)
    ·refine Ev.neg (by simpa using hfx) ?_
     rw [if_pos ⟨hcur, hfx⟩]
     have eT : emR cur = [gapR cur] := by unfold emR; rw [if_neg hcur]
     have ih := gapsS_loop h fx hf bx hl hm rest (i + 1) (cur ++ [b]) done h3 (by omega) (by omega) (by rw [sumB_app, sb]; omega) (by rw [sumB_app, sb]; omega) ⟨fun _ => ⟨by omega, by rw [nxt, hob]⟩, fun _ => by simp⟩
     have eT2 : emR (cur ++ [b]) = [⟨(gapR cur).f0, (gapR cur).f1, (gapR cur).f2 + b.f1⟩] := by
      unfold emR
      rw [if_neg (by simp), gapR_snoc hcur]
     rw [eT2] at ih
     rw [eT]
     have hg : (gapR cur).f2 = sumB cur := by cases cur with | nil => exact absurd rfl hcur | cons x cur => rfl
     have hw : wrap64 (((done ++ [gapR cur]).length : Int) - 1) = (done.length : Int) := by
      simp; unfold wrap64; omega
     rw [hw]
     have hrd : ∀ v : S50, rd_T50 (done ++ [v]) (done.length : Int) = v := fun v => getD_end done v _
     refine Ev.pos (by omega) (Ev.pos (by simp; omega) ?_)
     simp only [hrd, Int.toNat_natCast, set_end]
     rw [wid ((gapR cur).f2 + b.f1) (by omega) (by omega)]
     exact ih
theorem gapsS_ev (h : Int) (fx : List Int) (hf : fx.length ≤ 1048576) (bx : List S98) (hb : bx.length ≤ 1048576) : Ev (fun k => spec_GapsOf.f k h fx bx) (gapsP h fx bx) := by
 unfold spec_GapsOf.f gapsP
 refine Ev.bind (Ev.ret _) (Ev.bind (colok_ev h fx (by omega) bx (by omega)) ?_)
 by_cases c : colP h fx bx = true
 ·have v := (colP_iff h fx bx).mp c
  rw [if_pos c]
  refine Ev.pos c ?_
  exact gapsS_loop h fx hf bx v.len (fun b hb => by have := v.mem hb; omega) bx 0 [] [] rfl (by omega) (by simp) (by rw [sumB_nil]; omega) (by rw [sumB_nil]; omega) ⟨fun c => absurd rfl c, fun c => absurd c.1 (by omega)⟩
 ·rw [if_neg c]
  exact Ev.neg c (Ev.ret _)
end Go.Proofs.Ytbpjidekjogfeaa.A

namespace Go.Proofs.Ytbpjidekjogfeaa.A
open Go.RowKit Go.Proofs.YtbpjidekjogfeaaW.PrintWords Go.Proofs.YtbpjidekjogfeaaW.PrintLast Go.Proofs.YtbpjidekjogfeaaW.PrintMore
set_option linter.unusedVariables false
set_option linter.unusedSimpArgs false
def bankG : Int → List S41 → List S50
 | _, [] => []
 | k, c :: cs => (gapsB c.f1 c.f2).map (fun g => ⟨k, g.f1, g.f2⟩) ++ bankG (k + 1) cs
def bankGP (cs : List S41) : List S50 := if bankP cs = true then bankG 0 cs else []
structure Flat (cs : List S41) : Prop where
 len : cs.length ≤ 6
 fix : ∀ c ∈ cs, c.f1.length ≤ 1048576
 box : ∀ c ∈ cs, c.f2.length ≤ 24
 sz : ∀ c ∈ cs, ∀ b ∈ c.f2, 1 ≤ b.f1 ∧ b.f1 ≤ 24
theorem BankV.flat {cs : List S41} (v : BankV cs) (hs : Small cs) : Flat cs :=
 ⟨by have := v.len; omega, fun c hc => (hs.2 c hc).1, fun c hc => ((colP_iff _ _ _).mp (v.col c hc)).len, fun c hc b hb => by have := ((colP_iff _ _ _).mp (v.col c hc)).mem hb; omega⟩
theorem bgS_inner {r' : List S50} (cs : List S41) (i : Nat) (hi : i ≤ 1048576) (gs : List S50) (hg : gs.length ≤ 24) (M : Nat) (hM : M ≤ 1048576) (res : List S50)
  (hr : Ev (fun k => spec_BankGaps.l0 k cs res ((i + 1 : Nat) : Int)) r') : ∀ (rest : List S50) (n : Nat) (acc : List S50), gs.drop n = rest → n ≤ gs.length → acc.length ≤ M + n → acc ++ rest.map (fun g => ⟨(i : Int), g.f1, g.f2⟩) = res → Ev (fun k => spec_BankGaps.l1 k cs acc (i : Int) gs (n : Int)) r'
 | [], n, acc, hd, hn, ha, he2 => by
  have he := drop_end hd hn
  refine Ev.succ ?_
  simp only [spec_BankGaps.l1]
  rw [wsucc i (by omega)]
  simp at he2
  subst he2
  exact Ev.neg (by omega) hr
 | g :: rest, n, acc, hd, hn, ha, he2 => by
  obtain ⟨h1, h2, h3⟩ := drop_step z50 hd
  have er : rd_T50 gs (n : Int) = g := h2
  refine Ev.succ ?_
  simp only [spec_BankGaps.l1, er]
  rw [wsucc n (by omega)]
  exact Ev.pos (by omega) (Ev.pos (by omega) (Ev.pos (by omega) (bgS_inner cs i hi gs hg M hM res hr rest (n + 1) _ h3 (by omega) (by simp; omega) (by rw [← he2]; simp))))
theorem bgS_loop (cs : List S41) (hf : Flat cs) (hc : ∀ c ∈ cs, colP c.f0 c.f1 c.f2 = true) : ∀ (rest : List S41) (i : Nat) (acc : List S50), cs.drop i = rest → i ≤ cs.length → acc.length ≤ 24 * i → Ev (fun k => spec_BankGaps.l0 k cs acc (i : Int)) (acc ++ bankG (i : Int) rest)
 | [], i, acc, hd, hi, ha => by
  have he := drop_end hd hi
  have hl := hf.len
  refine Ev.succ ?_
  simp only [spec_BankGaps.l0]
  exact Ev.neg (by omega) ((Ev.ret _).to (by simp [bankG]))
 | c :: rest, i, acc, hd, hi, ha => by
  obtain ⟨h1, h2, h3⟩ := drop_step z41 hd
  have er : rd_T41 cs (i : Int) = c := h2
  have hm : c ∈ cs := by rw [← h2, getD_gen _ h1]; exact List.getElem_mem _
  have hl := hf.len
  have hb := hf.box c hm
  have hg : gapsP c.f0 c.f1 c.f2 = gapsB c.f1 c.f2 := by unfold gapsP; rw [if_pos (hc c hm)]
  have hgl := gapsB_len c.f1 c.f2
  have ih := bgS_loop cs hf hc rest (i + 1) (acc ++ (gapsB c.f1 c.f2).map (fun g => ⟨(i : Int), g.f1, g.f2⟩)) h3 (by omega) (by simp; omega)
  refine Ev.succ ?_
  simp only [spec_BankGaps.l0, er]
  refine Ev.pos (by omega) (Ev.pos (by omega) (Ev.bind (gapsS_ev c.f0 c.f1 (hf.fix c hm) c.f2 (by omega)) ?_))
  rw [hg]
  refine bgS_inner cs i (by omega) _ (by omega) (24 * i) (by omega) _ (ih.to ?_) _ 0 acc rfl (by omega) (by omega) rfl
  rw [bankG, List.append_assoc]
  rfl
theorem bankGapsS_ev (cs : List S41) (hs : Small cs) : Ev (fun k => spec_BankGaps.f k cs) (bankGP cs) := by
 unfold spec_BankGaps.f bankGP
 refine Ev.bind (Ev.ret _) (Ev.bind (bankok_ev cs hs) ?_)
 by_cases hb : bankP cs = true
 ·rw [if_pos hb]
  have v := (bankP_iff cs).mp hb
  exact Ev.pos hb (bgS_loop cs (v.flat hs) v.col cs 0 [] rfl (by omega) (by simp))
 ·rw [if_neg hb]
  exact Ev.neg hb (Ev.ret _)
theorem bg_inner (cs : List S41) (hcs : cs.length ≤ 6) (i : Nat) (hi : i < cs.length) (rs : List S113) (hg : rs.length ≤ 24) (M : Nat) (hM : M ≤ 1048576) (res : List S50) {r' : List S50}
  (hr : Ev (fun k => impl_bankGaps.l0 k res cs (cs.length : Int) ((i + 1 : Nat) : Int)) r') : ∀ (rest : List S113) (n : Nat) (acc : List S50), rs.drop n = rest → n ≤ rs.length → acc.length ≤ M + n → acc ++ rest.map (fun r => ⟨(i : Int), r.f0.f1, r.f0.f2⟩) = res → Ev (fun k => impl_bankGaps.l1 k acc (i : Int) cs (cs.length : Int) (i : Int) rs (rs.length : Int) (n : Int)) r'
 | [], n, acc, hd, hn, ha, he2 => by
  have he := drop_end hd hn
  refine Ev.succ ?_
  simp only [impl_bankGaps.l1]
  rw [wsucc i (by omega)]
  simp at he2
  subst he2
  exact Ev.neg (by omega) hr
 | g :: rest, n, acc, hd, hn, ha, he2 => by
  obtain ⟨h1, h2, h3⟩ := drop_step z113 hd
  have er : rd_T113 rs (n : Int) = g := h2
  refine Ev.succ ?_
  simp only [impl_bankGaps.l1, er]
  rw [wsucc n (by omega)]
  exact Ev.pos (by omega) (Ev.pos (by omega) (Ev.pos (by omega) (Ev.pos (by omega) (bg_inner cs hcs i hi rs hg M hM res hr rest (n + 1) _ h3 (by omega) (by simp; omega) (by rw [← he2]; simp)))))
theorem bg_loop (cs : List S41) (hf : Flat cs) : ∀ (rest : List S41) (i : Nat) (acc : List S50), cs.drop i = rest → i ≤ cs.length → acc.length ≤ 24 * i → Ev (fun k => impl_bankGaps.l0 k acc cs (cs.length : Int) (i : Int)) (acc ++ bankG (i : Int) rest)
 | [], i, acc, hd, hi, ha => by
  have he := drop_end hd hi
  have hl := hf.len
  refine Ev.succ ?_
  simp only [impl_bankGaps.l0]
  exact Ev.neg (by omega) ((Ev.ret _).to (by simp [bankG]))
 | c :: rest, i, acc, hd, hi, ha => by
  obtain ⟨h1, h2, h3⟩ := drop_step z41 hd
  have er : rd_T41 cs (i : Int) = c := h2
  have hm : c ∈ cs := by rw [← h2, getD_gen _ h1]; exact List.getElem_mem _
  have hl := hf.len
  have hb := hf.box c hm
  have hgl := gapsB_len c.f1 c.f2
  have hdl : ((decs c.f1 [] [] c.f2).map toRun).length ≤ 24 := by
   have h2 := congrArg List.length (decs_gaps c.f1 c.f2 [] [])
   rw [List.length_map] at h2 ⊢
   unfold gapsB at hgl
   omega
  have ih := bg_loop cs hf rest (i + 1) (acc ++ (gapsB c.f1 c.f2).map (fun g => ⟨(i : Int), g.f1, g.f2⟩)) h3 (by omega) (by simp; omega)
  refine Ev.succ ?_
  simp only [impl_bankGaps.l0, er]
  refine Ev.pos (by omega) (Ev.pos (by omega) (Ev.pos (by omega) (Ev.bind (runs_ev c.f0 c.f1 (hf.fix c hm) c.f2 hb (hf.sz c hm)) ?_)))
  refine bg_inner cs hl i h1 _ hdl (24 * i) (by omega) _ (ih.to ?_) _ 0 acc rfl (by omega) (by omega) ?_
  ·rw [bankG, List.append_assoc]
   rfl
  ·rw [List.drop_zero, List.map_map]
   unfold gapsB
   rw [← decs_gaps c.f1 c.f2 [] [], List.map_map]
   rfl
theorem bankG_ev (cs : List S41) (hf : Flat cs) : Ev (fun k => impl_bankGaps.f k cs) (bankG 0 cs) := by
 unfold impl_bankGaps.f
 exact bg_loop cs hf cs 0 [] rfl (by omega) (by simp)
theorem bankG_len : ∀ (cs : List S41) (k : Int), (∀ c ∈ cs, c.f2.length ≤ 24) → (bankG k cs).length ≤ 24 * cs.length
 | [], _, _ => by simp [bankG]
 | c :: cs, k, h => by
  have := bankG_len cs (k + 1) (fun d hd => h d (by simp [hd]))
  have := gapsB_len c.f1 c.f2
  have := h c (by simp)
  rw [bankG]
  simp
  omega
theorem bankGP_len (cs : List S41) : (bankGP cs).length ≤ 144 := by
 unfold bankGP
 split
 ·next hb =>
  have v := (bankP_iff cs).mp hb
  have := bankG_len cs 0 (fun c hc => ((colP_iff _ _ _).mp (v.col c hc)).len)
  have := v.len
  omega
 ·simp
theorem gapsW_pos (fx : List Int) : ∀ (bs cur : List S98) (M : Int), (∀ b ∈ bs, 1 ≤ b.f1) → (cur ≠ [] → 1 ≤ sumB cur) → sumB cur + sumB bs ≤ M → ∀ g ∈ gapsW fx cur bs, 1 ≤ g.f2 ∧ g.f2 ≤ M
 | [], cur, M, _, hc, hM, g, hg => by
  simp only [gapsW, emR] at hg
  split at hg
  ·simp at hg
  ·next h =>
   rw [List.mem_singleton.mp hg]
   have hg0 : (gapR cur).f2 = sumB cur := by cases cur with | nil => exact absurd rfl h | cons x cur => rfl
   have := hc h
   rw [sumB_nil] at hM
   omega
 | b :: bs, cur, M, hb, hc, hM, g, hg => by
  have hb1 := hb b (by simp)
  have hbs : ∀ x ∈ bs, 1 ≤ x.f1 := fun x hx => hb x (by simp [hx])
  have sb : sumB [b] = b.f1 := by rw [sumB_cons, sumB_nil]; omega
  have sn : ∀ l : List S98, (∀ x ∈ l, 1 ≤ x.f1) → 0 ≤ sumB l := by
   intro l
   induction l with
   | nil => intro _; exact Int.le_refl _
   | cons x l ih => intro h; rw [sumB_cons]; have := h x (by simp); have := ih (fun y hy => h y (by simp [hy])); omega
  have s0 := sn bs hbs
  have sc : 0 ≤ sumB cur := by
   by_cases h : cur = []
   ·subst h; exact Int.le_refl _
   ·have := hc h; omega
  rw [sumB_cons] at hM
  have em : ∀ g ∈ emR cur, 1 ≤ g.f2 ∧ g.f2 ≤ M := by
   intro g hg
   unfold emR at hg
   split at hg
   ·simp at hg
   ·next h =>
    rw [List.mem_singleton.mp hg]
    have hg0 : (gapR cur).f2 = sumB cur := by cases cur with | nil => exact absurd rfl h | cons x cur => rfl
    have := hc h
    omega
  simp only [gapsW] at hg
  split at hg
  ·split at hg
   ·exact gapsW_pos fx bs (cur ++ [b]) M hbs (fun _ => by rw [sumB_app, sb]; omega) (by rw [sumB_app, sb]; omega) g hg
   ·rcases List.mem_append.mp hg with hg | hg
    ·exact em g hg
    ·exact gapsW_pos fx bs [b] M hbs (fun _ => by rw [sb]; omega) (by rw [sb]; omega) g hg
  ·rcases List.mem_append.mp hg with hg | hg
   ·exact em g hg
   ·exact gapsW_pos fx bs [] M hbs (fun h => absurd rfl h) (by rw [sumB_nil]; omega) g hg
theorem gapsB_pos (fx : List Int) (bx : List S98) (lo hi : Int) (ht : tile lo bx hi) : ∀ g ∈ gapsB fx bx, 1 ≤ g.f2 ∧ g.f2 ≤ hi - lo := by
 have := tile_sum _ _ _ ht
 exact gapsW_pos fx bx [] (hi - lo) (fun b hb => (tile_mem _ _ _ ht b hb).2.1) (fun h => absurd rfl h) (by rw [sumB_nil]; omega)
theorem bankG_pos : ∀ (cs : List S41) (k : Int), (∀ c ∈ cs, ∃ h, tile 0 c.f2 h ∧ h ≤ 24) → ∀ g ∈ bankG k cs, 1 ≤ g.f2 ∧ g.f2 ≤ 24
 | [], _, _, g, hg => by simp [bankG] at hg
 | c :: cs, k, h, g, hg => by
  rw [bankG] at hg
  rcases List.mem_append.mp hg with hg | hg
  ·obtain ⟨x, hx, rfl⟩ := List.mem_map.mp hg
   obtain ⟨e, ht, he⟩ := h c (by simp)
   have := gapsB_pos c.f1 c.f2 0 e ht x hx
   exact ⟨this.1, by show x.f2 ≤ 24; omega⟩
  ·exact bankG_pos cs (k + 1) (fun d hd => h d (by simp [hd])) g hg
theorem bankGP_pos (cs : List S41) : ∀ g ∈ bankGP cs, 1 ≤ g.f2 ∧ g.f2 ≤ 24 := by
 unfold bankGP
 split
 ·next hb =>
  have v := (bankP_iff cs).mp hb
  exact bankG_pos cs 0 (fun c hc => ⟨c.f0, ((colP_iff _ _ _).mp (v.col c hc)).til, ((colP_iff _ _ _).mp (v.col c hc)).hi.2⟩)
 ·intro g hg; simp at hg
end Go.Proofs.Ytbpjidekjogfeaa.A

namespace Go.Proofs.Ytbpjidekjogfeaa.A
open Go.RowKit Go.Proofs.YtbpjidekjogfeaaW.PrintWords Go.Proofs.YtbpjidekjogfeaaW.PrintLast Go.Proofs.YtbpjidekjogfeaaW.PrintMore
set_option linter.unusedVariables false
set_option linter.unusedSimpArgs false
def totB : List (List S98) → Nat
 | [] => 0
 | l :: ls => l.length + totB ls
theorem concat1_loop (ls : List (List S98)) (hl : ls.length ≤ 1048576) : ∀ (rest : List (List S98)) (i : Nat) (acc : List S98), ls.drop i = rest → i ≤ ls.length → acc.length + totB rest ≤ 1048576 →
  Ev (fun k => impl_Box_126.l1 k acc ls (ls.length : Int) (i : Int)) (acc ++ rest.flatten)
 | [], i, acc, hd, hi, ha => by
  have he := drop_end hd hi
  refine Ev.succ ?_
  simp only [impl_Box_126.l1]
  exact Ev.neg (by omega) ((Ev.ret _).to (by simp))
 | b :: rest, i, acc, hd, hi, ha => by
  obtain ⟨h1, h2, h3⟩ := drop_step [] hd
  have er : rd_L8 ls (i : Int) = b := h2
  rw [totB] at ha
  refine Ev.succ ?_
  simp only [impl_Box_126.l1, er]
  rw [wsucc i (by omega)]
  refine Ev.pos (by omega) (Ev.pos (by omega) (Ev.pos (by omega) (Ev.pos (by omega) ?_)))
  refine (concat1_loop ls hl rest (i + 1) (acc ++ b) h3 (by omega) (by simp; omega)).to ?_
  simp
theorem concat0_loop (ls : List (List S98)) (hl : ls.length ≤ 1048576) (ht : totB ls ≤ 1048576) : ∀ (rest : List (List S98)) (i : Nat) (s : Nat), ls.drop i = rest → i ≤ ls.length → s + totB rest = totB ls →
  Ev (fun k => impl_Box_126.l0 k ls (s : Int) ls (ls.length : Int) (i : Int)) ls.flatten
 | [], i, s, hd, hi, ha => by
  have he := drop_end hd hi
  rw [totB] at ha
  refine Ev.succ ?_
  simp only [impl_Box_126.l0]
  refine Ev.neg (by omega) ?_
  refine Ev.bind (a := []) (Ev.const (by unfold impl_Box_128.f; rw [if_pos (by omega)])) ?_
  have := concat1_loop ls hl ls 0 [] rfl (by omega) (by simp; omega)
  exact this
 | b :: rest, i, s, hd, hi, ha => by
  obtain ⟨h1, h2, h3⟩ := drop_step [] hd
  have er : rd_L8 ls (i : Int) = b := h2
  rw [totB] at ha
  refine Ev.succ ?_
  simp only [impl_Box_126.l0, er]
  rw [wsucc i (by omega), wid ((s : Int) + (b.length : Int)) (by omega) (by omega)]
  refine Ev.pos (by omega) (Ev.pos (by omega) (Ev.pos (by omega) (Ev.neg (by omega) ?_)))
  exact concat0_loop ls hl ht rest (i + 1) (s + b.length) h3 (by omega) (by omega)
theorem concat_ev (ls : List (List S98)) (hl : ls.length ≤ 1048576) (ht : totB ls ≤ 1048576) : Ev (fun k => impl_Box_126.f k ls) ls.flatten := by
 unfold impl_Box_126.f
 exact concat0_loop ls hl ht ls 0 0 rfl (by omega) (by omega)
def fillD (lo : Int) (N : List S98) : List S98 → List (List S98 × List S98 × List S98) → List S98
 | acc, [] => acc
 | acc, d :: ds => fillD lo N (if loR d.2.1 = lo then d.1 ++ N ++ d.2.2 else acc) ds
theorem filled_loop (h : Int) (fx : List Int) (bx : List S98) (hl : bx.length ≤ 24) (lo : Int) (N : List S98) (hN : N.length ≤ 24) (D : List (List S98 × List S98 × List S98)) (hD : D.length ≤ 24) (hD2 : ∀ d ∈ D, d.1 ++ d.2.1 ++ d.2.2 = bx ∧ d.2.1 ≠ []) :
  ∀ (rest : List (List S98 × List S98 × List S98)) (i : Nat) (acc : List S98), D.drop i = rest → i ≤ D.length → Ev (fun k => impl_filled.l0 k lo N (D.map toRun) ((D.map toRun).length : Int) (i : Int) h fx bx h fx acc) (h, fx, fillD lo N acc rest)
 | [], i, acc, hd, hi => by
  have he := drop_end hd hi
  refine Ev.succ ?_
  simp only [impl_filled.l0, List.length_map]
  exact Ev.neg (by omega) (Ev.ret _)
 | d :: rest, i, acc, hd, hi => by
  obtain ⟨h1, h2, h3⟩ := drop_step ([], [], []) hd
  have hm : d ∈ D := by rw [← h2, getD_gen _ h1]; exact List.getElem_mem _
  have er : rd_T113 (D.map toRun) (i : Int) = toRun d := by
   show (D.map toRun).getD i _ = _
   rw [List.getD_eq_getElem?_getD, List.getElem?_map, List.getElem?_eq_getElem h1, ← h2, getD_gen _ h1]
   rfl
  obtain ⟨hall, hne⟩ := hD2 d hm
  have hlen := congrArg List.length hall
  simp at hlen
  have elo : (toRun d).f0.f1 = loR d.2.1 := by
   unfold toRun
   cases hR : d.2.1 with
   | nil => exact absurd hR hne
   | cons x xs => rfl
  have ef : (toRun d).f1 = (d.1.length : Int) := rfl
  have et : (toRun d).f2 = (d.1.length : Int) + (d.2.1.length : Int) := rfl
  have ih := fun acc => filled_loop h fx bx hl lo N hN D hD hD2 rest (i + 1) acc h3 (by omega)
  refine Ev.succ ?_
  simp only [impl_filled.l0, er, elo, ef, et, fillD]
  rw [wsucc i (by omega)]
  refine Ev.pos (by rw [List.length_map]; omega) (Ev.pos (by omega) (Ev.pos (by rw [List.length_map]; omega) ?_))
  by_cases c : loR d.2.1 = lo
  ·rw [if_pos c]
   refine Ev.pos c (Ev.pos (by omega) (Ev.pos (by omega) (Ev.pos (by omega) (Ev.pos (by omega) ?_))))
   have e1 : bx.take ((d.1.length : Int)).toNat = d.1 := by
    rw [Int.toNat_natCast, ← hall, List.append_assoc, List.take_left']
    rfl
   have e2 : bx.drop ((d.1.length : Int) + (d.2.1.length : Int)).toNat = d.2.2 := by
    rw [show ((d.1.length : Int) + (d.2.1.length : Int)).toNat = (d.1 ++ d.2.1).length by rw [List.length_append]; omega, ← hall, List.drop_left']
    rfl
   rw [e1, e2]
   refine Ev.bind (concat_ev _ (by simp) (by simp only [totB]; omega)) ?_
   refine (ih _).to ?_
   simp
  ·rw [if_neg c]
   exact Ev.neg c (ih acc)
theorem filled_ev (h : Int) (fx : List Int) (hf : fx.length ≤ 1048576) (bx : List S98) (hl : bx.length ≤ 24) (hm : ∀ b ∈ bx, 1 ≤ b.f1 ∧ b.f1 ≤ 24) (lo : Int) (N : List S98) (hN : N.length ≤ 24) : Ev (fun k => impl_filled.f k h fx bx lo N) (h, fx, fillD lo N bx (decs fx [] [] bx)) := by
 unfold impl_filled.f
 refine Ev.bind (copy_ev h fx bx (by omega) (by omega)) (Ev.bind (runs_ev h fx hf bx hl hm) ?_)
 have hD : (decs fx [] [] bx).length ≤ 24 := by
  have h2 := congrArg List.length (decs_gaps fx bx [] [])
  have h1 := gapsB_len fx bx
  rw [List.length_map] at h2
  unfold gapsB at h1
  omega
 exact filled_loop h fx bx hl lo N hN _ hD (fun d hd => ⟨(decs_top fx bx d hd).all, (decs_top fx bx d hd).ne⟩) _ 0 bx rfl (by omega)
theorem gapR_is {R : List S98} (h : R ≠ []) : gapR R = ⟨0, loR R, sumB R⟩ := by
 cases R with
 | nil => exact absurd rfl h
 | cons x R => rfl
theorem fillD_none (lo : Int) (N : List S98) : ∀ (D : List (List S98 × List S98 × List S98)) (acc : List S98), (∀ d ∈ D, loR d.2.1 ≠ lo) → fillD lo N acc D = acc
 | [], _, _ => rfl
 | d :: D, acc, h => by
  rw [fillD, if_neg (h d (by simp))]
  exact fillD_none lo N D acc (fun x hx => h x (by simp [hx]))
theorem fillD_one (lo : Int) (N : List S98) : ∀ (D : List (List S98 × List S98 × List S98)) (acc : List S98) (d : List S98 × List S98 × List S98), d ∈ D → D.Pairwise (fun a b => loR a.2.1 < loR b.2.1) → loR d.2.1 = lo → fillD lo N acc D = d.1 ++ N ++ d.2.2
 | [], _, d, hd, _, _ => absurd hd (by simp)
 | x :: D, acc, d, hd, hp, hl => by
  obtain ⟨h1, h2⟩ := List.pairwise_cons.mp hp
  rw [fillD]
  rcases List.mem_cons.mp hd with rfl | hd
  ·rw [if_pos hl]
   exact fillD_none lo N D _ (fun y hy => by have := h1 y hy; omega)
  ·exact fillD_one lo N D _ d hd h2 hl
theorem decs_asc (fx : List Int) (bx : List S98) (lo hi : Int) (ht : tile lo bx hi) : (decs fx [] [] bx).Pairwise (fun a b => loR a.2.1 < loR b.2.1) := by
 have h1 := (gapsW_asc fx bx [] lo hi ht (fun c => absurd rfl c)).1
 rw [← decs_gaps fx bx [] [], List.pairwise_map] at h1
 refine List.Pairwise.imp_of_mem (fun ha hb h => ?_) h1
 rw [gapR_is (decs_top fx bx _ ha).ne, gapR_is (decs_top fx bx _ hb).ne] at h
 exact h
theorem gap_run (fx : List Int) (bx : List S98) (lo hi : Int) (ht : tile lo bx hi) (g : S50) (hg : g ∈ gapsB fx bx) : ∃ A R B, RunAt fx bx A R B ∧ g = ⟨0, loR R, sumB R⟩ ∧ (∀ N, fillB g.f1 g.f2 N bx = A ++ N ++ B) ∧ ∀ N, fillD g.f1 N bx (decs fx [] [] bx) = A ++ N ++ B := by
 unfold gapsB at hg
 rw [← decs_gaps fx bx [] []] at hg
 obtain ⟨d, hd, rfl⟩ := List.mem_map.mp hg
 have hr := decs_top fx bx d hd
 have e := gapR_is hr.ne
 refine ⟨d.1, d.2.1, d.2.2, hr, e, fun N => ?_, fun N => ?_⟩
 ·rw [e]
  have h2 := hr.all
  have h3 : tile lo (d.1 ++ d.2.1 ++ d.2.2) hi := by rw [h2]; exact ht
  have := fillB_run h3 hr.ne N
  rw [h2] at this
  exact this
 ·rw [e]
  exact fillD_one _ N _ bx d hd (decs_asc fx bx lo hi ht) rfl
theorem tile_swap {A R B N : List S98} {lo hi : Int} (h : tile lo (A ++ R ++ B) hi) (hR : R ≠ []) (hN : tile (loR R) N (loR R + sumB R)) : tile lo (A ++ N ++ B) hi := by
 rw [tile_app, tile_app] at h ⊢
 obtain ⟨⟨h1, h2⟩, h3⟩ := h
 have e : loR R = lo + sumB A := by
  cases R with
  | nil => exact absurd rfl hR
  | cons x R => exact h2.1
 have s := (tile_sum _ _ _ hN).1
 rw [sumB_app] at h3 ⊢
 have e2 : sumB N = sumB R := by omega
 rw [e2]
 refine ⟨⟨h1, ?_⟩, h3⟩
 rw [e] at hN
 rw [← Int.add_assoc]
 exact hN
def newB (lo sz parcel size : Int) : List S98 := ⟨lo, size, parcel, false⟩ :: (if size < sz then [⟨lo + size, sz - size, 0, false⟩] else [])
theorem newB_len (lo sz parcel size : Int) : (newB lo sz parcel size).length ≤ 2 := by
 unfold newB; split <;> simp
def clear1 (bx : List S98) (g : S50) : List S98 := fillB g.f1 g.f2 (newB g.f1 g.f2 0 g.f2) bx
theorem newB_full (lo sz p : Int) : newB lo sz p sz = [⟨lo, sz, p, false⟩] := by unfold newB; rw [if_neg (by omega)]
structure Clr (h : Int) (fx : List Int) (G : List S50) (bx : List S98) : Prop where
 hi : h ≤ 24
 til : tile 0 bx h
 gaps : gapsB fx bx = G
theorem Clr.len {h : Int} {fx : List Int} {G : List S50} {bx : List S98} (c : Clr h fx G bx) : bx.length ≤ 24 ∧ (∀ b ∈ bx, 1 ≤ b.f1 ∧ b.f1 ≤ 24) := by
 have := tile_sum _ _ _ c.til
 have := c.hi
 refine ⟨by omega, fun b hb => ?_⟩
 have := tile_mem _ _ _ c.til b hb
 omega
theorem Clr.step {h : Int} {fx : List Int} {G : List S50} {bx : List S98} (c : Clr h fx G bx) (g : S50) (hg : g ∈ G) :
  Clr h fx G (clear1 bx g) ∧ (0 ≤ g.f1 ∧ 1 ≤ g.f2 ∧ g.f1 + g.f2 ≤ 24) ∧ fillD g.f1 [⟨g.f1, g.f2, 0, false⟩] bx (decs fx [] [] bx) = clear1 bx g := by
 have hg' : g ∈ gapsB fx bx := by rw [c.gaps]; exact hg
 obtain ⟨A, R, B, hr, e, h1, h2⟩ := gap_run fx bx 0 h c.til g hg'
 have hp := gapsB_pos fx bx 0 h c.til g hg'
 have ec : clear1 bx g = A ++ [⟨g.f1, g.f2, 0, false⟩] ++ B := by
  unfold clear1
  rw [newB_full, h1]
 have e1 : g.f1 = loR R := by rw [e]
 have e2 : g.f2 = sumB R := by rw [e]
 have ht := c.til
 rw [← hr.all] at ht
 have hN : tile (loR R) [⟨g.f1, g.f2, 0, false⟩] (loR R + sumB R) := ⟨e1, hp.1, by show loR R + g.f2 = _; rw [e2]⟩
 refine ⟨⟨c.hi, ?_, ?_⟩, ?_, ?_⟩
 ·rw [ec]
  exact tile_swap ht hr.ne hN
 ·rw [ec, run_put hr [(S98.mk g.f1 g.f2 0 false)] (by simp) (Or.inl e1)]
  have eg : gapsB fx [(S98.mk g.f1 g.f2 0 false)] = [gapR R] := by
   have eo : opB (S98.mk g.f1 g.f2 0 false) = true := rfl
   unfold gapsB
   simp only [gapsW]
   rw [if_pos eo, if_neg (fun c => c.1 rfl)]
   have em1 : emR [] = [] := rfl
   have em2 : emR [(S98.mk g.f1 g.f2 0 false)] = [gapR [(S98.mk g.f1 g.f2 0 false)]] := by unfold emR; rw [if_neg (by simp)]
   have es : sumB [(S98.mk g.f1 g.f2 0 false)] = g.f2 := by rw [sumB_cons, sumB_nil]; exact Int.add_zero _
   rw [em1, em2, List.nil_append, gapR_is (by simp), gapR_is hr.ne, es, ← e2, ← e1]
   rfl
  rw [eg, ← run_gaps hr]
  exact c.gaps
 ·have hm := tile_mem _ _ _ ht
  rw [tile_app, tile_app] at ht
  obtain ⟨⟨ha, hb⟩, hc⟩ := ht
  have s1 := tile_sum _ _ _ ha
  have s3 := tile_sum _ _ _ hc
  rw [sumB_app] at s3
  have hR := hr.ne
  have er : loR R = 0 + sumB A := by
   cases R with
   | nil => exact absurd rfl hR
   | cons x R => exact hb.1
  have := c.hi
  have hBn : (0 : Int) ≤ (B.length : Int) := by omega
  omega
 ·rw [h2, ec]
end Go.Proofs.Ytbpjidekjogfeaa.A

namespace Go.Proofs.Ytbpjidekjogfeaa.A
open Go.RowKit Go.Proofs.YtbpjidekjogfeaaW.PrintWords Go.Proofs.YtbpjidekjogfeaaW.PrintLast Go.Proofs.YtbpjidekjogfeaaW.PrintMore
set_option linter.unusedVariables false
set_option linter.unusedSimpArgs false
theorem parcs_top (l : List S98) : parcs [] l ↔ (∀ b ∈ l, 0 ≤ b.f2 ∧ b.f2 ≤ 999) ∧ l.Pairwise (fun a b => 0 < b.f2 → a.f2 ≠ b.f2) := by
 rw [parcs_iff]
 constructor
 ·rintro ⟨h1, _, h3⟩; exact ⟨h1, h3⟩
 ·rintro ⟨h1, h3⟩; exact ⟨h1, fun _ _ _ => by simp, h3⟩
theorem parcs_mid {A N B : List S98} (hN : ∀ b ∈ N, b.f2 = 0) : parcs [] (A ++ N ++ B) ↔ parcs [] (A ++ B) := by
 rw [parcs_top, parcs_top, List.append_assoc, List.pairwise_append, List.pairwise_append, List.pairwise_append]
 constructor
 ·rintro ⟨h1, h2, ⟨_, h3, _⟩, h4⟩
  refine ⟨fun b hb => h1 b ?_, h2, h3, fun a ha b hb => h4 a ha b (by simp [hb])⟩
  rcases List.mem_append.mp hb with hb | hb <;> simp [hb]
 ·rintro ⟨h1, h2, h3, h4⟩
  refine ⟨fun b hb => ?_, h2, ⟨?_, h3, fun a ha b hb h0 => ?_⟩, fun a ha b hb h0 => ?_⟩
  ·rcases List.mem_append.mp hb with hb | hb
   ·exact h1 b (by simp [hb])
   ·rcases List.mem_append.mp hb with hb | hb
    ·rw [hN b hb]; omega
    ·exact h1 b (by simp [hb])
  ·exact List.pairwise_of_forall_mem_list (fun a ha b hb h0 => by rw [hN b hb] at h0; omega)
  ·rw [hN a ha]; omega
  ·rcases List.mem_append.mp hb with hb | hb
   ·rw [hN b hb] at h0; omega
   ·exact h4 a ha b hb h0
theorem ColV.put {h : Int} {fx : List Int} {bx A R B N : List S98} (v : ColV h fx bx) (hr : RunAt fx bx A R B) (hN : tile (loR R) N (loR R + sumB R)) (hne : N ≠ []) (hp : parcs [] (A ++ N ++ B)) : ColV h fx (A ++ N ++ B) := by
 have ht := v.til
 rw [← hr.all] at ht
 refine ⟨v.hi, tile_swap ht hr.ne hN, hp, v.fix, fun f hf => ?_⟩
 obtain ⟨b, hb, e⟩ := v.low f hf
 rw [← hr.all] at hb
 rcases List.mem_append.mp hb with hb | hb
 ·rcases List.mem_append.mp hb with hb | hb
  ·exact ⟨b, by simp [hb], e⟩
  ·have hfree := hr.free
   have hlo : loR R = f := by
    cases R with
    | nil => exact absurd rfl hr.ne
    | cons r R =>
     rcases List.mem_cons.mp hb with rfl | hb
     ·exact e
     ·exact absurd (by rw [e]; exact hf) (hfree b hb)
   cases N with
   | nil => exact absurd rfl hne
   | cons n N => exact ⟨n, by simp, by rw [hN.1, hlo]⟩
 ·exact ⟨b, by simp [hb], e⟩
theorem RunAt.zero {fx : List Int} {bx A R B : List S98} (hr : RunAt fx bx A R B) : ∀ b ∈ R, b.f2 = 0 := by
 intro b hb
 have := hr.opn b hb
 unfold opB at this
 simp only [Bool.and_eq_true, decide_eq_true_eq] at this
 exact this.1
theorem RunAt.parcs {h : Int} {fx : List Int} {bx A R B : List S98} (v : ColV h fx bx) (hr : RunAt fx bx A R B) : parcs [] (A ++ B) := by
 have := v.par
 rw [← hr.all] at this
 exact (parcs_mid hr.zero).mp this
theorem newB_tile {lo sz p size : Int} (h1 : 1 ≤ size) (h2 : size ≤ sz) : tile lo (newB lo sz p size) (lo + sz) := by
 unfold newB
 by_cases c : size < sz
 ·rw [if_pos c]
  exact ⟨rfl, h1, rfl, by show 1 ≤ sz - size; omega, by show lo + size + (sz - size) = _; omega⟩
 ·rw [if_neg c]
  exact ⟨rfl, h1, by show lo + size = _; omega⟩
theorem ColV.ne {h : Int} {fx : List Int} {bx : List S98} (v : ColV h fx bx) : 0 < bx.length := by
 cases bx with
 | nil =>
  have := v.til
  have := v.hi
  simp only [tile] at *
  omega
 | cons x l => simp
end Go.Proofs.Ytbpjidekjogfeaa.A

namespace Go.Proofs.Ytbpjidekjogfeaa.A
open Go.RowKit Go.Proofs.YtbpjidekjogfeaaW.PrintWords Go.Proofs.YtbpjidekjogfeaaW.PrintLast Go.Proofs.YtbpjidekjogfeaaW.PrintMore
set_option linter.unusedVariables false
set_option linter.unusedSimpArgs false
def outG : Option S50 → Int × Int × Int × Bool
 | none => (0, 0, 0, false)
 | some g => (g.f0, g.f1, g.f2, true)
theorem least_loop (l : List S50) (hl : l.length ≤ 1048576) (size : Int) : ∀ (rest : List S50) (i : Nat) (best : Option S50), l.drop i = rest → i ≤ l.length →
  Ev (fun k => impl_least.l0 k size (outG best).2.2.2 l (l.length : Int) (i : Int) (outG best).1 (outG best).2.1 (outG best).2.2.1) (outG (leastW size best rest))
 | [], i, best, hd, hi => by
  have he := drop_end hd hi
  refine Ev.succ ?_
  simp only [impl_least.l0, leastW]
  exact Ev.neg (by omega) (Ev.ret _)
 | g :: rest, i, best, hd, hi => by
  obtain ⟨h1, h2, h3⟩ := drop_step z50 hd
  have er : rd_T50 l (i : Int) = g := h2
  have ih := fun best => least_loop l hl size rest (i + 1) best h3 (by omega)
  have ih1 := ih (some g)
  have ih0 := ih best
  refine Ev.succ ?_
  simp only [impl_least.l0, er, leastW]
  rw [wsucc i (by omega)]
  refine Ev.pos (by omega) (Ev.pos (by omega) (Ev.pos (by omega) ?_))
  by_cases c : g.f2 ≥ size
  ·refine Ev.pos c ?_
   cases best with
   | none =>
    rw [if_pos ⟨c, fun b hb => by cases hb⟩]
    exact Ev.neg (by simp [outG]) ih1
   | some b =>
    refine Ev.pos (by simp [outG]) ?_
    by_cases d : g.f2 < b.f2
    ·rw [if_pos ⟨c, fun b' hb => by cases hb; exact d⟩]
     exact Ev.pos d ih1
    ·rw [if_neg (fun e => d (e.2 b rfl))]
     exact Ev.neg d ih0
  ·rw [if_neg (fun e => c e.1)]
   exact Ev.neg c ih0
theorem least_ev (l : List S50) (hl : l.length ≤ 1048576) (size : Int) : Ev (fun k => impl_least.f k l size) (outG (leastP size l)) := by
 unfold impl_least.f leastP
 by_cases c : size < 1
 ·rw [if_pos c]
  exact Ev.pos c (Ev.ret _)
 ·rw [if_neg c]
  exact Ev.neg c (least_loop l hl size l 0 none rfl (by omega))
structure LeastAt (size : Int) (l l1 : List S50) (g : S50) (l2 : List S50) : Prop where
 all : l = l1 ++ g :: l2
 enough : size ≤ g.f2
 ahead : ∀ x ∈ l1, x.f2 < size ∨ g.f2 < x.f2
 behind : ∀ x ∈ l2, x.f2 < size ∨ g.f2 ≤ x.f2
theorem leastS_loop (l : List S50) (hl : l.length ≤ 1048576) (size : Int) : ∀ (rest : List S50) (i : Nat) (x : Int), l.drop i = rest → i ≤ l.length →
  ((x = -1 ∧ ∀ y ∈ l.take i, y.f2 < size) ∨ ∃ l1 g l2, LeastAt size (l.take i) l1 g l2 ∧ x = (l1.length : Int)) →
  ∃ r : Int, Ev (fun k => spec_l02Least.l0 k l size x (i : Int)) r ∧ ((r = -1 ∧ ∀ y ∈ l, y.f2 < size) ∨ ∃ l1 g l2, LeastAt size l l1 g l2 ∧ r = (l1.length : Int))
 | [], i, x, hd, hi, hx => by
  have he := drop_end hd hi
  refine ⟨x, Ev.succ ?_, ?_⟩
  ·simp only [spec_l02Least.l0]
   exact Ev.neg (by omega) (Ev.ret _)
  ·rw [he, List.take_length] at hx
   exact hx
 | g :: rest, i, x, hd, hi, hx => by
  obtain ⟨h1, h2, h3⟩ := drop_step z50 hd
  have er : rd_T50 l (i : Int) = g := h2
  have et : l.take (i + 1) = l.take i ++ [g] := by
   rw [List.take_add_one, ← h2, List.getD_eq_getElem?_getD, List.getElem?_eq_getElem h1]
   rfl
  have ih := fun y => leastS_loop l hl size rest (i + 1) y h3 (by omega)
  
  have new : size ≤ g.f2 → (∀ y ∈ l.take i, y.f2 < size ∨ g.f2 < y.f2) → ((i : Int) = -1 ∧ ∀ y ∈ l.take (i + 1), y.f2 < size) ∨ ∃ l1 g' l2, LeastAt size (l.take (i + 1)) l1 g' l2 ∧ (i : Int) = (l1.length : Int) := by
   intro a b
   exact Or.inr ⟨l.take i, g, [], ⟨et, a, b, by simp⟩, by rw [List.length_take]; omega⟩
  rcases hx with ⟨hx, hn⟩ | ⟨l1, b, l2, hb, hx⟩
  ·by_cases c : g.f2 ≥ size
   ·obtain ⟨r, hr, hp⟩ := ih (i : Int) (new c (fun y hy => Or.inl (hn y hy)))
    refine ⟨r, Ev.succ ?_, hp⟩
    simp only [spec_l02Least.l0, er]
    rw [wsucc i (by omega)]
    exact Ev.pos (by omega) (Ev.pos (by omega) (Ev.pos c (Ev.pos (by omega) hr)))
   ·obtain ⟨r, hr, hp⟩ := ih x (Or.inl ⟨hx, fun y hy => by
     rw [et] at hy
     rcases List.mem_append.mp hy with hy | hy
     ·exact hn y hy
     ·rw [List.mem_singleton.mp hy]; omega⟩)
    refine ⟨r, Ev.succ ?_, hp⟩
    simp only [spec_l02Least.l0, er]
    rw [wsucc i (by omega)]
    exact Ev.pos (by omega) (Ev.pos (by omega) (Ev.neg c hr))
  ·have hlen : l1.length < i := by
    have := congrArg List.length hb.all
    rw [List.length_take] at this
    simp at this
    omega
   have eb : rd_T50 l x = b := by
    rw [hx]
    show l.getD l1.length _ = b
    have e1 : l.getD l1.length z50 = (l.take i).getD l1.length z50 := by
     rw [List.getD_eq_getElem?_getD, List.getD_eq_getElem?_getD, List.getElem?_take_of_lt hlen]
    rw [e1, hb.all, List.getD_eq_getElem?_getD, List.getElem?_append_right (Nat.le_refl _), Nat.sub_self]
    rfl
   have old : (g.f2 < size ∨ b.f2 ≤ g.f2) → (x = -1 ∧ ∀ y ∈ l.take (i + 1), y.f2 < size) ∨ ∃ l1 g' l2, LeastAt size (l.take (i + 1)) l1 g' l2 ∧ x = (l1.length : Int) := by
    intro a
    refine Or.inr ⟨l1, b, l2 ++ [g], ⟨by rw [et, hb.all]; simp, hb.enough, hb.ahead, fun y hy => ?_⟩, hx⟩
    rcases List.mem_append.mp hy with hy | hy
    ·exact hb.behind y hy
    ·rw [List.mem_singleton.mp hy]; exact a
   by_cases c : g.f2 ≥ size
   ·by_cases d : g.f2 < b.f2
    ·obtain ⟨r, hr, hp⟩ := ih (i : Int) (new c (fun y hy => by
      rw [hb.all] at hy
      rcases List.mem_append.mp hy with hy | hy
      ·have := hb.ahead y hy; omega
      ·rcases List.mem_cons.mp hy with rfl | hy
       ·exact Or.inr d
       ·have := hb.behind y hy; omega))
     refine ⟨r, Ev.succ ?_, hp⟩
     simp only [spec_l02Least.l0, er, eb]
     rw [wsucc i (by omega)]
     exact Ev.pos (by omega) (Ev.pos (by omega) (Ev.pos c (Ev.neg (by omega) (Ev.pos (by omega) (Ev.pos (by omega) (Ev.pos d hr))))))
    ·obtain ⟨r, hr, hp⟩ := ih x (old (by omega))
     refine ⟨r, Ev.succ ?_, hp⟩
     simp only [spec_l02Least.l0, er, eb]
     rw [wsucc i (by omega)]
     exact Ev.pos (by omega) (Ev.pos (by omega) (Ev.pos c (Ev.neg (by omega) (Ev.pos (by omega) (Ev.pos (by omega) (Ev.neg d hr))))))
   ·obtain ⟨r, hr, hp⟩ := ih x (old (by omega))
    refine ⟨r, Ev.succ ?_, hp⟩
    simp only [spec_l02Least.l0, er]
    rw [wsucc i (by omega)]
    exact Ev.pos (by omega) (Ev.pos (by omega) (Ev.neg c hr))
theorem leastS_ev (l : List S50) (hl : l.length ≤ 1048576) (size : Int) : ∃ r : Int, Ev (fun k => spec_l02Least.f k l size) r ∧ ((r = -1 ∧ ∀ y ∈ l, y.f2 < size) ∨ ∃ l1 g l2, LeastAt size l l1 g l2 ∧ r = (l1.length : Int)) := by
 unfold spec_l02Least.f
 exact leastS_loop l hl size l 0 (-1) rfl (by omega) (Or.inl ⟨rfl, by simp⟩)
end Go.Proofs.Ytbpjidekjogfeaa.A

namespace Go.Proofs.Ytbpjidekjogfeaa.A
open Go.RowKit Go.Proofs.YtbpjidekjogfeaaW.PrintWords Go.Proofs.YtbpjidekjogfeaaW.PrintLast Go.Proofs.YtbpjidekjogfeaaW.PrintMore
set_option linter.unusedVariables false
set_option linter.unusedSimpArgs false
def minR (s : Int) : List Int → Option Int
 | [] => none
 | r :: l => match minR s l with
  | none => if s ≤ r then some r else none
  | some m => if s ≤ r ∧ r ≤ m then some r else some m
theorem minR_spec (s : Int) : ∀ (l : List Int), (minR s l = none ∧ ∀ x ∈ l, x < s) ∨ ∃ m, minR s l = some m ∧ m ∈ l ∧ s ≤ m ∧ ∀ x ∈ l, s ≤ x → m ≤ x
 | [] => Or.inl ⟨rfl, by simp⟩
 | r :: l => by
  simp only [minR]
  rcases minR_spec s l with ⟨h1, h2⟩ | ⟨m, h1, h2, h3, h4⟩
  ·rw [h1]
   dsimp only
   by_cases c : s ≤ r
   ·rw [if_pos c]
    refine Or.inr ⟨r, rfl, by simp, c, fun x hx hs => ?_⟩
    rcases List.mem_cons.mp hx with rfl | hx
    ·exact Int.le_refl _
    ·have := h2 x hx; omega
   ·rw [if_neg c]
    refine Or.inl ⟨rfl, fun x hx => ?_⟩
    rcases List.mem_cons.mp hx with rfl | hx
    ·omega
    ·exact h2 x hx
  ·rw [h1]
   dsimp only
   by_cases c : s ≤ r ∧ r ≤ m
   ·rw [if_pos c]
    refine Or.inr ⟨r, rfl, by simp, c.1, fun x hx hs => ?_⟩
    rcases List.mem_cons.mp hx with rfl | hx
    ·exact Int.le_refl _
    ·have := h4 x hx hs; omega
   ·rw [if_neg c]
    refine Or.inr ⟨m, rfl, by simp [h2], h3, fun x hx hs => ?_⟩
    rcases List.mem_cons.mp hx with rfl | hx
    ·omega
    ·exact h4 x hx hs
theorem minR_of {s : Int} {l : List Int} {m : Int} (hm : m ∈ l) (h : s ≤ m) (hmin : ∀ x ∈ l, s ≤ x → m ≤ x) : minR s l = some m := by
 rcases minR_spec s l with ⟨_, h2⟩ | ⟨k, h1, h2, h3, h4⟩
 ·have := h2 m hm; omega
 ·have := h4 m hm h
  have := hmin k h2 h3
  rw [h1, show k = m by omega]
theorem minR_no {s : Int} {l : List Int} (h : ∀ x ∈ l, x < s) : minR s l = none := by
 rcases minR_spec s l with ⟨h1, _⟩ | ⟨k, h1, h2, h3, h4⟩
 ·exact h1
 ·have := h k h2; omega
def redR (s m : Int) : List Int → List Int
 | [] => []
 | r :: l => if r = m then (r - s) :: l else r :: redR s m l
theorem redR_at {s m : Int} : ∀ {l1 l2 : List Int}, (∀ x ∈ l1, x ≠ m) → redR s m (l1 ++ m :: l2) = l1 ++ (m - s) :: l2
 | [], l2, _ => by simp [redR]
 | x :: l1, l2, h => by
  rw [List.cons_append, redR, if_neg (h x (by simp)), redR_at (fun y hy => h y (by simp [hy]))]
  rfl
def heldR : List Int → List Int → Nat
 | [], _ => 0
 | s :: ss, rooms => match minR s rooms with
  | none => 0
  | some m => 1 + heldR ss (redR s m rooms)
def posR (l : List Int) : List Int := l.filter (fun x => decide (0 < x))
theorem posR_mem {l : List Int} {x : Int} : x ∈ posR l ↔ x ∈ l ∧ 0 < x := by
 unfold posR
 rw [List.mem_filter, decide_eq_true_iff]
theorem minR_pos {s : Int} (hs : 1 ≤ s) (l : List Int) : minR s (posR l) = minR s l := by
 rcases minR_spec s l with ⟨h1, h2⟩ | ⟨m, h1, h2, h3, h4⟩
 ·rw [h1]
  exact minR_no (fun x hx => h2 x (posR_mem.mp hx).1)
 ·rw [h1]
  exact minR_of (posR_mem.mpr ⟨h2, by omega⟩) h3 (fun x hx hs => h4 x (posR_mem.mp hx).1 hs)
theorem redR_pos {s m : Int} (hm : 0 < m) : ∀ (l : List Int), posR (redR s m (posR l)) = posR (redR s m l)
 | [] => rfl
 | x :: l => by
  have ih := redR_pos (s := s) hm l
  by_cases c : 0 < x
  ·have e : posR (x :: l) = x :: posR l := by unfold posR; rw [List.filter_cons_of_pos (by simpa using c)]
   rw [e]
   simp only [redR]
   by_cases d : x = m
   ·rw [if_pos d, if_pos d]
    have pp : posR (posR l) = posR l := by unfold posR; rw [List.filter_filter]; simp
    unfold posR at *
    by_cases f : 0 < x - s
    ·rw [List.filter_cons_of_pos (by simpa using f), List.filter_cons_of_pos (by simpa using f), pp]
    ·rw [List.filter_cons_of_neg (by simpa using f), List.filter_cons_of_neg (by simpa using f), pp]
   ·rw [if_neg d, if_neg d]
    unfold posR at *
    rw [List.filter_cons_of_pos (by simpa using c), List.filter_cons_of_pos (by simpa using c), ih]
  ·have e : posR (x :: l) = posR l := by unfold posR; rw [List.filter_cons_of_neg (by simpa using c)]
   rw [e, ih]
   simp only [redR]
   rw [if_neg (by omega)]
   unfold posR
   rw [List.filter_cons_of_neg (by simpa using c)]
theorem heldR_pos : ∀ (ss rooms : List Int), (∀ s ∈ ss, 1 ≤ s) → heldR ss (posR rooms) = heldR ss rooms
 | [], _, _ => rfl
 | s :: ss, rooms, h => by
  have hs := h s (by simp)
  have hss : ∀ x ∈ ss, 1 ≤ x := fun x hx => h x (by simp [hx])
  simp only [heldR]
  rw [minR_pos hs]
  rcases minR_spec s rooms with ⟨h1, _⟩ | ⟨m, h1, h2, h3, h4⟩
  ·rw [h1]
  ·rw [h1]
   dsimp only
   rw [← heldR_pos ss (redR s m (posR rooms)) hss, redR_pos (by omega), heldR_pos ss (redR s m rooms) hss]
def roomsG (gs : List S50) : List Int := gs.map (fun g => g.f2)
theorem least_min {size : Int} (hs : 1 ≤ size) {l l1 : List S50} {g : S50} {l2 : List S50} (h : LeastAt size l l1 g l2) : minR size (roomsG l) = some g.f2 ∧ redR size g.f2 (roomsG l) = roomsG l1 ++ (g.f2 - size) :: roomsG l2 := by
 have e : roomsG l = roomsG l1 ++ g.f2 :: roomsG l2 := by rw [h.all]; simp [roomsG]
 have ha : ∀ x ∈ roomsG l1, x < size ∨ g.f2 < x := by
  intro x hx
  obtain ⟨y, hy, rfl⟩ := List.mem_map.mp hx
  exact h.ahead y hy
 have hb : ∀ x ∈ roomsG l2, x < size ∨ g.f2 ≤ x := by
  intro x hx
  obtain ⟨y, hy, rfl⟩ := List.mem_map.mp hx
  exact h.behind y hy
 have he := h.enough
 rw [e]
 refine ⟨minR_of (by simp) he (fun x hx hs => ?_), redR_at (fun x hx => by have := ha x hx; omega)⟩
 rcases List.mem_append.mp hx with hx | hx
 ·have := ha x hx; omega
 ·rcases List.mem_cons.mp hx with rfl | hx
  ·exact Int.le_refl _
  ·have := hb x hx; omega
theorem least_minNo {size : Int} {l : List S50} (h : ∀ x ∈ l, x.f2 < size) : minR size (roomsG l) = none :=
 minR_no (fun x hx => by obtain ⟨y, hy, rfl⟩ := List.mem_map.mp hx; exact h y hy)
def GapLt (a b : S50) : Prop := a.f0 < b.f0 ∨ (a.f0 = b.f0 ∧ a.f1 < b.f1)
theorem bankG_ge : ∀ (cs : List S41) (k : Int), ∀ g ∈ bankG k cs, k ≤ g.f0
 | [], _, g, hg => by simp [bankG] at hg
 | c :: cs, k, g, hg => by
  rw [bankG] at hg
  rcases List.mem_append.mp hg with hg | hg
  ·obtain ⟨x, _, rfl⟩ := List.mem_map.mp hg
   exact Int.le_refl _
  ·have := bankG_ge cs (k + 1) g hg; omega
theorem bankG_asc : ∀ (cs : List S41) (k : Int), (∀ c ∈ cs, ∃ h, tile 0 c.f2 h) → (bankG k cs).Pairwise GapLt
 | [], _, _ => List.Pairwise.nil
 | c :: cs, k, h => by
  obtain ⟨hi, ht⟩ := h c (by simp)
  rw [bankG, List.pairwise_append]
  refine ⟨?_, bankG_asc cs (k + 1) (fun d hd => h d (by simp [hd])), fun a ha b hb => ?_⟩
  ·rw [List.pairwise_map]
   have := (gapsW_asc c.f1 c.f2 [] 0 hi ht (fun c => absurd rfl c)).1
   exact List.Pairwise.imp (fun hab => Or.inr ⟨rfl, hab⟩) this
  ·obtain ⟨x, _, rfl⟩ := List.mem_map.mp ha
   have := bankG_ge cs (k + 1) b hb
   exact Or.inl (by show k < b.f0; omega)
theorem bankG_app : ∀ (a b : List S41) (k : Int), bankG k (a ++ b) = bankG k a ++ bankG (k + a.length) b
 | [], b, k => by simp [bankG]
 | c :: a, b, k => by
  rw [List.cons_append, bankG, bankG, bankG_app a b (k + 1), List.append_assoc, List.length_cons]
  congr 3
  omega
theorem gapsW_zero (fx : List Int) : ∀ (bs cur : List S98), ∀ g ∈ gapsW fx cur bs, g.f0 = 0
 | [], cur, g, hg => by
  simp only [gapsW, emR] at hg
  split at hg
  ·simp at hg
  ·next h => rw [List.mem_singleton.mp hg, gapR_is h]
 | b :: bs, cur, g, hg => by
  have em : ∀ g ∈ emR cur, g.f0 = 0 := by
   intro g hg
   unfold emR at hg
   split at hg
   ·simp at hg
   ·next h => rw [List.mem_singleton.mp hg, gapR_is h]
  simp only [gapsW] at hg
  split at hg
  ·split at hg
   ·exact gapsW_zero fx bs _ g hg
   ·rcases List.mem_append.mp hg with hg | hg
    ·exact em g hg
    ·exact gapsW_zero fx bs _ g hg
  ·rcases List.mem_append.mp hg with hg | hg
   ·exact em g hg
   ·exact gapsW_zero fx bs _ g hg
theorem bankG_mem : ∀ (cs : List S41) (k : Int) (g : S50), g ∈ bankG k cs → ∃ C1 c C2, cs = C1 ++ c :: C2 ∧ g.f0 = k + C1.length ∧ (S50.mk 0 g.f1 g.f2) ∈ gapsB c.f1 c.f2
 | [], _, g, hg => by simp [bankG] at hg
 | c :: cs, k, g, hg => by
  rw [bankG] at hg
  rcases List.mem_append.mp hg with hg | hg
  ·obtain ⟨x, hx, rfl⟩ := List.mem_map.mp hg
   refine ⟨[], c, cs, rfl, by simp, ?_⟩
   have := gapsW_zero c.f1 c.f2 [] x hx
   have e : (S50.mk 0 x.f1 x.f2) = x := by rw [← this]
   rw [e]; exact hx
  ·obtain ⟨C1, d, C2, h1, h2, h3⟩ := bankG_mem cs (k + 1) g hg
   exact ⟨c :: C1, d, C2, by rw [h1]; rfl, by rw [h2, List.length_cons]; omega, h3⟩
structure Geo (cs : List S41) : Prop where
 len : cs.length ≤ 6
 fix : ∀ c ∈ cs, c.f1.length ≤ 1048576
 til : ∀ c ∈ cs, ∃ h, h ≤ 24 ∧ tile 0 c.f2 h
theorem Geo.flat {cs : List S41} (g : Geo cs) : Flat cs := by
 refine ⟨g.len, g.fix, fun c hc => ?_, fun c hc b hb => ?_⟩
 ·obtain ⟨h, h1, h2⟩ := g.til c hc
  have := tile_sum _ _ _ h2
  omega
 ·obtain ⟨h, h1, h2⟩ := g.til c hc
  have := tile_mem _ _ _ h2 b hb
  omega
theorem BankV.geo {cs : List S41} (v : BankV cs) (hs : Small cs) : Geo cs :=
 ⟨by have := v.len; omega, fun c hc => (hs.2 c hc).1, fun c hc => ⟨c.f0, ((colP_iff _ _ _).mp (v.col c hc)).hi.2, ((colP_iff _ _ _).mp (v.col c hc)).til⟩⟩
def putC (g : S50) (p s : Int) (c : S41) : S41 := ⟨c.f0, c.f1, fillD g.f1 (newB g.f1 g.f2 p s) c.f2 (decs c.f1 [] [] c.f2)⟩
def restG (g : S50) (s : Int) : List S50 := if s < g.f2 then [⟨g.f0, g.f1 + s, g.f2 - s⟩] else []
theorem bank_put {cs : List S41} (hg : Geo cs) {g : S50} (hm : g ∈ bankG 0 cs) {p s : Int} (hp : p ≠ 0) (hs : 1 ≤ s) (hle : s ≤ g.f2) :
  ∃ C1 c C2 P Q A R B h, cs = C1 ++ c :: C2 ∧ g.f0 = C1.length ∧ bankG 0 cs = P ++ g :: Q ∧ bankG 0 (C1 ++ putC g p s c :: C2) = P ++ restG g s ++ Q ∧ Geo (C1 ++ putC g p s c :: C2) ∧ g ∉ P ∧
   (0 ≤ g.f1 ∧ g.f1 + g.f2 ≤ 24) ∧ RunAt c.f1 c.f2 A R B ∧ g.f1 = loR R ∧ g.f2 = sumB R ∧ tile 0 c.f2 h ∧ (putC g p s c).f2 = A ++ newB g.f1 g.f2 p s ++ B ∧ (∀ N, fillB g.f1 g.f2 N c.f2 = A ++ N ++ B) := by
 obtain ⟨C1, c, C2, h1, h2, h3⟩ := bankG_mem cs 0 g hm
 have hc : c ∈ cs := by rw [h1]; simp
 obtain ⟨h, hh, ht⟩ := hg.til c hc
 obtain ⟨A, R, B, hr, e, f1, f2⟩ := gap_run c.f1 c.f2 0 h ht _ h3
 simp only [S50.mk.injEq] at e
 obtain ⟨_, e1, e2⟩ := e
 dsimp only at f1 f2
 have hN : tile (loR R) (newB g.f1 g.f2 p s) (loR R + sumB R) := by rw [← e1, ← e2]; exact newB_tile hs hle
 have ecut : Cut c.f1 (newB g.f1 g.f2 p s) := by
  unfold newB
  refine Or.inl ?_
  unfold opB
  dsimp only
  rw [decide_eq_false hp]
  rfl
 have eGN : gapsB c.f1 (newB g.f1 g.f2 p s) = if s < g.f2 then [⟨0, g.f1 + s, g.f2 - s⟩] else [] := by
  have o1 : opB (S98.mk g.f1 s p false) = false := by
   unfold opB; dsimp only; rw [decide_eq_false hp]; rfl
  have o2 : opB (S98.mk (g.f1 + s) (g.f2 - s) 0 false) = true := rfl
  have em1 : emR [] = [] := rfl
  unfold gapsB newB
  by_cases d : s < g.f2
  ·rw [if_pos d, if_pos d]
   simp only [gapsW]
   rw [if_neg (by rw [o1]; simp), if_pos o2, if_neg (fun c => c.1 rfl), em1]
   have em2 : emR [(S98.mk (g.f1 + s) (g.f2 - s) 0 false)] = [gapR [(S98.mk (g.f1 + s) (g.f2 - s) 0 false)]] := by unfold emR; rw [if_neg (by simp)]
   have es : sumB [(S98.mk (g.f1 + s) (g.f2 - s) 0 false)] = g.f2 - s := by rw [sumB_cons, sumB_nil]; exact Int.add_zero _
   rw [em2, gapR_is (by simp), es]
   rfl
  ·rw [if_neg d, if_neg d]
   simp only [gapsW]
   rw [if_neg (by rw [o1]; simp), em1]
   rfl
 have eput : (putC g p s c).f2 = A ++ newB g.f1 g.f2 p s ++ B := f2 _
 have egap : gapsB c.f1 (putC g p s c).f2 = gapsB c.f1 A ++ (if s < g.f2 then [⟨0, g.f1 + s, g.f2 - s⟩] else []) ++ gapsB c.f1 B := by
  rw [eput, run_put hr _ (by unfold newB; simp) (Or.inr ecut), eGN]
 have eg : (S50.mk g.f0 g.f1 g.f2) = g := rfl
 have hbank : ∀ d : S41, bankG 0 (C1 ++ d :: C2) = bankG 0 C1 ++ (gapsB d.f1 d.f2).map (fun x => ⟨g.f0, x.f1, x.f2⟩) ++ bankG (g.f0 + 1) C2 := by
  intro d
  rw [bankG_app, bankG, h2, List.append_assoc]
 have hP : bankG 0 cs = (bankG 0 C1 ++ (gapsB c.f1 A).map (fun x => ⟨g.f0, x.f1, x.f2⟩)) ++ g :: ((gapsB c.f1 B).map (fun x => ⟨g.f0, x.f1, x.f2⟩) ++ bankG (g.f0 + 1) C2) := by
  rw [h1, hbank, run_gaps hr, gapR_is hr.ne, ← e1, ← e2]
  simp
 refine ⟨C1, c, C2, _, _, A, R, B, h, h1, by rw [h2]; omega, hP, ?_, ⟨?_, ?_, ?_⟩, ?_, ?_, hr, e1, e2, ht, eput, f1⟩
 ·rw [hbank, show (putC g p s c).f1 = c.f1 from rfl, egap]
  unfold restG
  split <;> simp
 ·have := hg.len; rw [h1] at this; simpa using this
 ·intro d hd
  rcases List.mem_append.mp hd with hd | hd
  ·exact hg.fix d (by rw [h1]; simp [hd])
  ·rcases List.mem_cons.mp hd with rfl | hd
   ·exact hg.fix c hc
   ·exact hg.fix d (by rw [h1]; simp [hd])
 ·intro d hd
  rcases List.mem_append.mp hd with hd | hd
  ·exact hg.til d (by rw [h1]; simp [hd])
  ·rcases List.mem_cons.mp hd with rfl | hd
   ·refine ⟨h, hh, ?_⟩
    rw [eput]
    have ht2 := ht
    rw [← hr.all] at ht2
    exact tile_swap ht2 hr.ne hN
   ·exact hg.til d (by rw [h1]; simp [hd])
 ·intro hin
  have hasc := bankG_asc cs 0 (fun d hd => by obtain ⟨x, _, hx⟩ := hg.til d hd; exact ⟨x, hx⟩)
  rw [hP, List.pairwise_append] at hasc
  have := hasc.2.2 g hin g (by simp)
  unfold GapLt at this
  omega
 ·have ht2 := ht
  rw [← hr.all, tile_app, tile_app] at ht2
  obtain ⟨⟨ha, hb⟩, hc2⟩ := ht2
  have s1 := tile_sum _ _ _ ha
  have s3 := tile_sum _ _ _ hc2
  rw [sumB_app] at s3
  have er : loR R = 0 + sumB A := by
   have hne := hr.ne
   cases R with
   | nil => exact absurd rfl hne
   | cons x R => exact hb.1
  rw [e1, e2]
  omega
theorem first_uniq {α : Type} {g : α} : ∀ {P Q l1 l2 : List α}, P ++ g :: Q = l1 ++ g :: l2 → g ∉ P → g ∉ l1 → P = l1 ∧ Q = l2
 | [], Q, [], l2, e, _, _ => by simp at e; exact ⟨rfl, e⟩
 | [], Q, x :: l1, l2, e, _, h => by simp at e; exact absurd (by rw [e.1]; simp) h
 | x :: P, Q, [], l2, e, h, _ => by simp at e; exact absurd (by rw [e.1]; simp) h
 | x :: P, Q, y :: l1, l2, e, h, h' => by
  simp at e
  obtain ⟨a, b⟩ := first_uniq e.2 (fun hh => h (by simp [hh])) (fun hh => h' (by simp [hh]))
  exact ⟨by rw [e.1, a], b⟩
end Go.Proofs.Ytbpjidekjogfeaa.A

namespace Go.Proofs.Ytbpjidekjogfeaa.A
open Go.RowKit Go.Proofs.YtbpjidekjogfeaaW.PrintWords Go.Proofs.YtbpjidekjogfeaaW.PrintLast Go.Proofs.YtbpjidekjogfeaaW.PrintMore
set_option linter.unusedVariables false
set_option linter.unusedSimpArgs false
theorem placed_ev (h : Int) (fx : List Int) (hf : fx.length ≤ 1048576) (bx : List S98) (hl : bx.length ≤ 24) (hm : ∀ b ∈ bx, 1 ≤ b.f1 ∧ b.f1 ≤ 24) (g0 lo sz p size : Int) (h0 : 0 ≤ lo ∧ lo ≤ 1000) (h1 : 0 ≤ sz ∧ sz ≤ 1000) (h2 : 0 ≤ size ∧ size ≤ 1000) :
  Ev (fun k => impl_placed.f k h fx bx g0 lo sz p size) (h, fx, fillD lo (newB lo sz p size) bx (decs fx [] [] bx)) := by
 unfold impl_placed.f
 refine Ev.bind (Ev.ret _) ?_
 have hn := newB_len lo sz p size
 have hF := filled_ev h fx hf bx hl hm lo (newB lo sz p size) (by omega)
 by_cases c : sz > size
 ·refine Ev.pos c (Ev.pos (by simp) ?_)
  rw [wid (lo + size) (by omega) (by omega), wid (sz - size) (by omega) (by omega)]
  have e : newB lo sz p size = [⟨lo, size, p, false⟩] ++ [⟨lo + size, sz - size, 0, false⟩] := by unfold newB; rw [if_pos c]; rfl
  rw [e] at hF ⊢
  exact Ev.bind hF (Ev.ret _)
 ·refine Ev.neg c ?_
  have e : newB lo sz p size = [⟨lo, size, p, false⟩] := by unfold newB; rw [if_neg c]
  rw [e] at hF ⊢
  exact Ev.bind hF (Ev.ret _)
end Go.Proofs.Ytbpjidekjogfeaa.A

namespace Go.Proofs.Ytbpjidekjogfeaa.A
open Go.RowKit Go.Proofs.YtbpjidekjogfeaaW.PrintWords Go.Proofs.YtbpjidekjogfeaaW.PrintLast Go.Proofs.YtbpjidekjogfeaaW.PrintMore
set_option linter.unusedVariables false
set_option linter.unusedSimpArgs false
def sizesP (l : List Int) : Bool := l.all (fun s => decide (1 ≤ s)) && decide (l.length ≤ 8)
theorem sizesP_iff (l : List Int) : sizesP l = true ↔ (∀ s ∈ l, 1 ≤ s) ∧ l.length ≤ 8 := by
 unfold sizesP
 rw [Bool.and_eq_true, List.all_eq_true, decide_eq_true_iff]
 constructor
 ·rintro ⟨h1, h2⟩; exact ⟨fun s hs => of_decide_eq_true (h1 s hs), h2⟩
 ·rintro ⟨h1, h2⟩; exact ⟨fun s hs => decide_eq_true (h1 s hs), h2⟩
theorem sizes_loop (l : List Int) (hl : l.length ≤ 1048576) : ∀ (rest : List Int) (i : Nat), l.drop i = rest → i ≤ l.length → Ev (fun k => impl_sizesOk.l0 k l l (l.length : Int) (i : Int)) (rest.all (fun s => decide (1 ≤ s)) && decide (l.length ≤ 8))
 | [], i, hd, hi => by
  have he := drop_end hd hi
  refine Ev.succ ?_
  simp only [impl_sizesOk.l0]
  refine Ev.neg (by omega) ((Ev.ret _).to ?_)
  rw [List.all_nil, Bool.true_and, decide_eq_decide]
  omega
 | s :: rest, i, hd, hi => by
  obtain ⟨h1, h2, h3⟩ := drop_step 0 hd
  have er : rd l (i : Int) = s := h2
  refine Ev.succ ?_
  simp only [impl_sizesOk.l0, er]
  rw [wsucc i (by omega), List.all_cons]
  refine Ev.pos (by omega) (Ev.pos (by omega) (Ev.pos (by omega) ?_))
  by_cases c : s < 1
  ·refine Ev.pos c ((Ev.ret _).to ?_)
   rw [decide_eq_false (by omega), Bool.false_and, Bool.false_and]
  ·refine Ev.neg c ((sizes_loop l hl rest (i + 1) h3 (by omega)).to ?_)
   rw [decide_eq_true (show 1 ≤ s by omega), Bool.true_and]
theorem sizes_ev (l : List Int) (hl : l.length ≤ 1048576) : Ev (fun k => impl_sizesOk.f k l) (sizesP l) := by
 unfold impl_sizesOk.f sizesP
 exact sizes_loop l hl l 0 rfl (by omega)
theorem sizesS_loop (l : List Int) (hl : l.length ≤ 1048576) : ∀ (rest : List Int) (i : Nat), l.drop i = rest → i ≤ l.length → i ≤ 9 → Ev (fun k => spec_l02Sizes.l0 k l (i : Int)) (rest.all (fun s => decide (1 ≤ s)) && decide (l.length ≤ 8))
 | [], i, hd, hi, h9 => by
  have he := drop_end hd hi
  refine Ev.succ ?_
  simp only [spec_l02Sizes.l0]
  refine Ev.neg (by omega) (Ev.succ ?_)
  simp only [spec_l02Sizes.j1]
  refine Ev.neg (by simp) ((Ev.ret _).to ?_)
  rw [List.all_nil, Bool.true_and, decide_eq_decide]
  omega
 | s :: rest, i, hd, hi, h9 => by
  obtain ⟨h1, h2, h3⟩ := drop_step 0 hd
  have er : rd l (i : Int) = s := h2
  refine Ev.succ ?_
  simp only [spec_l02Sizes.l0]
  refine Ev.pos (by omega) (Ev.succ ?_)
  simp only [spec_l02Sizes.j1, er]
  rw [wsucc i (by omega), List.all_cons]
  by_cases c8 : (i : Int) ≤ 8
  ·refine Ev.pos (decide_eq_true c8) (Ev.pos (by omega) (Ev.pos (by omega) ?_))
   by_cases c : s < 1
   ·refine Ev.pos c ((Ev.ret _).to ?_)
    rw [decide_eq_false (by omega), Bool.false_and, Bool.false_and]
   ·refine Ev.neg c ((sizesS_loop l hl rest (i + 1) h3 (by omega) (by omega)).to ?_)
    rw [decide_eq_true (show 1 ≤ s by omega), Bool.true_and]
  ·refine Ev.neg (by simpa using c8) ((Ev.ret _).to ?_)
   rw [decide_eq_false (show ¬ (l.length : Int) ≤ 8 by omega), decide_eq_false (show ¬ l.length ≤ 8 by omega), Bool.and_false]
theorem sizesS_ev (l : List Int) (hl : l.length ≤ 1048576) : Ev (fun k => spec_l02Sizes.f k l) (sizesP l) := by
 unfold spec_l02Sizes.f sizesP
 exact sizesS_loop l hl l 0 rfl (by omega) (by omega)
theorem copyBank_loop (cs : List S41) (hs : Small cs) : ∀ (rest : List S41) (i : Nat) (acc : List S41), cs.drop i = rest → i ≤ cs.length → acc.length = i → Ev (fun k => impl_copyBank.l0 k acc cs (cs.length : Int) (i : Int)) (acc ++ rest)
 | [], i, acc, hd, hi, ha => by
  have he := drop_end hd hi
  have hl := hs.1
  refine Ev.succ ?_
  simp only [impl_copyBank.l0]
  exact Ev.neg (by omega) ((Ev.ret _).to (by simp))
 | c :: rest, i, acc, hd, hi, ha => by
  obtain ⟨h1, h2, h3⟩ := drop_step z41 hd
  have er : rd_T41 cs (i : Int) = c := h2
  have hc : c ∈ cs := by rw [← h2, getD_gen _ h1]; exact List.getElem_mem _
  have hcs := hs.2 c hc
  have hl := hs.1
  refine Ev.succ ?_
  simp only [impl_copyBank.l0, er]
  rw [wsucc i (by omega)]
  refine Ev.pos (by omega) (Ev.pos (by omega) (Ev.pos (by omega) (Ev.bind (copy_ev c.f0 c.f1 c.f2 (by omega) (by omega)) (Ev.pos (by omega) ?_))))
  refine (copyBank_loop cs hs rest (i + 1) (acc ++ [c]) h3 (by omega) (by simp [ha])).to ?_
  simp
theorem copyBank_ev (cs : List S41) (hs : Small cs) : Ev (fun k => impl_copyBank.f k cs) cs := by
 unfold impl_copyBank.f
 exact copyBank_loop cs hs cs 0 [] rfl (by omega) rfl
def heldP (cs : List S41) (sizes : List Int) : Int := if bankP cs = true ∧ sizesP sizes = true then (heldR sizes (roomsG (bankG 0 cs)) : Int) else 0
theorem heldS_loop (sizes : List Int) (hl : sizes.length ≤ 8) (hs1 : ∀ s ∈ sizes, 1 ≤ s) : ∀ (rest : List Int) (i : Nat) (gs : List S50), sizes.drop i = rest → i ≤ sizes.length → gs.length ≤ 144 → (∀ g ∈ gs, 0 ≤ g.f2 ∧ g.f2 ≤ 24) →
  Ev (fun k => spec_HeldInOrder.l0 k sizes gs (i : Int)) ((i : Int) + (heldR rest (roomsG gs) : Int))
 | [], i, gs, hd, hi, hgl, hgp => by
  have he := drop_end hd hi
  refine Ev.succ ?_
  simp only [spec_HeldInOrder.l0]
  refine Ev.neg (by omega) ((Ev.ret _).to ?_)
  simp only [heldR]
  omega
 | s :: rest, i, gs, hd, hi, hgl, hgp => by
  obtain ⟨h1, h2, h3⟩ := drop_step 0 hd
  have er : rd sizes (i : Int) = s := h2
  have hs : 1 ≤ s := hs1 s (by rw [← h2, getD_gen _ h1]; exact List.getElem_mem _)
  obtain ⟨r, hr, hcase⟩ := leastS_ev gs (by omega) s
  refine Ev.succ ?_
  simp only [spec_HeldInOrder.l0, er]
  refine Ev.pos (by omega) (Ev.pos (by omega) (Ev.bind hr ?_))
  simp only [heldR]
  rcases hcase with ⟨hr1, hno⟩ | ⟨l1, g, l2, hat, hr1⟩
  ·rw [least_minNo hno]
   exact Ev.pos (by omega) ((Ev.ret _).to (by simp))
  ·obtain ⟨m1, m2⟩ := least_min hs hat
   rw [m1]
   dsimp only
   rw [m2]
   have hlen := congrArg List.length hat.all
   simp at hlen
   have hg : g ∈ gs := by rw [hat.all]; simp
   have hgb := hgp g hg
   have hen := hat.enough
   have eb : rd_T50 gs r = g := by
    rw [hr1]
    show gs.getD l1.length _ = g
    rw [hat.all, List.getD_eq_getElem?_getD, List.getElem?_append_right (Nat.le_refl _), Nat.sub_self]
    rfl
   rw [eb, wsucc i (by omega), wid (g.f2 - s) (by omega) (by omega)]
   refine Ev.neg (by omega) (Ev.pos (by omega) (Ev.pos (by omega) ?_))
   have es : gs.set r.toNat ⟨g.f0, g.f1, g.f2 - s⟩ = l1 ++ ⟨g.f0, g.f1, g.f2 - s⟩ :: l2 := by
    rw [hr1, Int.toNat_natCast, hat.all, List.set_append_right _ _ (Nat.le_refl _), Nat.sub_self]
    rfl
   rw [es]
   refine (heldS_loop sizes hl hs1 rest (i + 1) (l1 ++ ⟨g.f0, g.f1, g.f2 - s⟩ :: l2) h3 (by omega) (by simp; omega) (fun x hx => ?_)).to ?_
   ·rcases List.mem_append.mp hx with hx | hx
    ·exact hgp x (by rw [hat.all]; simp [hx])
    ·rcases List.mem_cons.mp hx with rfl | hx
     ·show 0 ≤ g.f2 - s ∧ g.f2 - s ≤ 24
      omega
     ·exact hgp x (by rw [hat.all]; simp [hx])
   ·have e : roomsG (l1 ++ (S50.mk g.f0 g.f1 (g.f2 - s)) :: l2) = roomsG l1 ++ (g.f2 - s) :: roomsG l2 := by simp [roomsG]
    rw [e]
    omega
theorem heldS_ev (cs : List S41) (hs : Small cs) (sizes : List Int) (hl : sizes.length ≤ 1048576) : Ev (fun k => spec_HeldInOrder.f k cs sizes) (heldP cs sizes) := by
 unfold spec_HeldInOrder.f
 have no : Ev (fun k => spec_HeldInOrder.j0 k cs sizes true) 0 := by
  refine Ev.succ ?_
  simp only [spec_HeldInOrder.j0]
  exact Ev.pos (by trivial) (Ev.ret _)
 refine Ev.bind (bankok_ev cs hs) ?_
 by_cases hb : bankP cs = true
 ·refine Ev.pos hb (Ev.bind (sizesS_ev sizes hl) ?_)
  by_cases hz : sizesP sizes = true
  ·have e : heldP cs sizes = (heldR sizes (roomsG (bankG 0 cs)) : Int) := by unfold heldP; rw [if_pos ⟨hb, hz⟩]
   have hsz := (sizesP_iff sizes).mp hz
   have eg : bankGP cs = bankG 0 cs := by unfold bankGP; rw [if_pos hb]
   have hp := bankGP_pos cs
   have hlen := bankGP_len cs
   rw [e, hz]
   refine Ev.succ ?_
   simp only [spec_HeldInOrder.j0]
   refine Ev.neg (by simp) (Ev.bind (bankGapsS_ev cs hs) ?_)
   rw [eg] at hp hlen ⊢
   refine (heldS_loop sizes hsz.2 hsz.1 sizes 0 _ rfl (by omega) (by omega) (fun g hg => by have := hp g hg; omega)).to ?_
   simp
  ·have e : heldP cs sizes = 0 := by unfold heldP; rw [if_neg (fun h => hz h.2)]
   have hz2 : sizesP sizes = false := by simpa using hz
   rw [e, hz2]
   exact no
 ·have e : heldP cs sizes = 0 := by unfold heldP; rw [if_neg (fun h => hb h.1)]
  rw [e]
  exact Ev.neg hb no
theorem rd_col {A B : List S41} {c : S41} {r : Int} (h : r = A.length) : rd_T41 (A ++ c :: B) r = c := by
 subst h
 show (A ++ c :: B).getD A.length _ = c
 rw [List.getD_eq_getElem?_getD, List.getElem?_append_right (Nat.le_refl _), Nat.sub_self]
 rfl
theorem set_col {A B : List S41} {c d : S41} {r : Int} (h : r = A.length) : (A ++ c :: B).set r.toNat d = A ++ d :: B := by
 subst h
 rw [Int.toNat_natCast, List.set_append_right _ _ (Nat.le_refl _), Nat.sub_self]
 rfl
theorem held_loop_ev (sizes : List Int) (hl : sizes.length ≤ 8) (hs1 : ∀ s ∈ sizes, 1 ≤ s) : ∀ (rest : List Int) (i : Nat) (cs : List S41), sizes.drop i = rest → i ≤ sizes.length → Geo cs →
  Ev (fun k => impl_HeldInOrder.l0 k sizes cs sizes (sizes.length : Int) (i : Int)) ((i : Int) + (heldR rest (roomsG (bankG 0 cs)) : Int))
 | [], i, cs, hd, hi, hgeo => by
  have he := drop_end hd hi
  refine Ev.succ ?_
  simp only [impl_HeldInOrder.l0]
  refine Ev.neg (by omega) ((Ev.ret _).to ?_)
  simp only [heldR]
  omega
 | s :: rest, i, cs, hd, hi, hgeo => by
  obtain ⟨h1, h2, h3⟩ := drop_step 0 hd
  have er : rd sizes (i : Int) = s := h2
  have hs : 1 ≤ s := hs1 s (by rw [← h2, getD_gen _ h1]; exact List.getElem_mem _)
  have hrest : ∀ x ∈ rest, 1 ≤ x := fun x hx => hs1 x (by
   have : x ∈ sizes.drop i := by rw [hd]; simp [hx]
   exact List.mem_of_mem_drop this)
  have hfl := hgeo.flat
  have hgl := bankG_len cs 0 hfl.box
  have hcl := hfl.len
  refine Ev.succ ?_
  simp only [impl_HeldInOrder.l0, er]
  refine Ev.pos (by omega) (Ev.pos (by omega) (Ev.pos (by omega) (Ev.bind (bankG_ev cs hfl) (Ev.bind (least_ev _ (by omega) s) ?_))))
  have eP : leastP s (bankG 0 cs) = leastW s none (bankG 0 cs) := by unfold leastP; rw [if_neg (by omega)]
  simp only [heldR]
  rw [eP]
  rcases leastW_none s (bankG 0 cs) with ⟨q1, q2⟩ | ⟨l1, g, l2, q0, q1, q2, q3, q4⟩
  ·rw [q1, least_minNo q2]
   exact Ev.neg (by simp [outG]) ((Ev.ret _).to (by simp))
  ·have hat : LeastAt s (bankG 0 cs) l1 g l2 := ⟨q0, q2, q3, q4⟩
   obtain ⟨m1, m2⟩ := least_min hs hat
   rw [q1, m1]
   dsimp only
   rw [m2]
   have hgm : g ∈ bankG 0 cs := by rw [q0]; simp
   obtain ⟨C1, c, C2, P, Q, A, R, B, h, e1, e2, e3, e4, e5, e6, e7, e8, e9, e10, e11, _⟩ := bank_put hgeo hgm (p := -1) (s := s) (by omega) hs q2
   have hni : g ∉ l1 := fun hin => by have := q3 g hin; omega
   obtain ⟨rfl, rfl⟩ := first_uniq (e3.symm.trans q0) e6 hni
   have hc : c ∈ cs := by rw [e1]; simp
   refine Ev.pos (by simp [outG]) ?_
   have x0 : (outG (some g)).1 = g.f0 := rfl
   have x1 : (outG (some g)).2.1 = g.f1 := rfl
   have x2 : (outG (some g)).2.2.1 = g.f2 := rfl
   rw [x0, x1, x2]
   have lc := congrArg List.length e1
   simp at lc
   have er2 : rd_T41 cs g.f0 = c := by rw [e1]; exact rd_col e2
   rw [er2]
   refine Ev.pos (by omega) (Ev.pos (by omega) (Ev.bind (placed_ev c.f0 c.f1 (hgeo.fix c hc) c.f2 (hfl.box c hc) (hfl.sz c hc) g.f0 g.f1 g.f2 (-1) s (by omega) (by omega) (by omega)) ?_))
   have es : cs.set g.f0.toNat ⟨c.f0, c.f1, fillD g.f1 (newB g.f1 g.f2 (-1) s) c.f2 (decs c.f1 [] [] c.f2)⟩ = C1 ++ putC g (-1) s c :: C2 := by
    rw [e1]; exact set_col e2
   dsimp only
   rw [es, wsucc i (by omega)]
   refine (held_loop_ev sizes hl hs1 rest (i + 1) _ h3 (by omega) e5).to ?_
   have hpos : ∀ x ∈ bankG 0 cs, 1 ≤ x.f2 := fun x hx => (bankG_pos cs 0 (fun d hd => by obtain ⟨y, y1, y2⟩ := hgeo.til d hd; exact ⟨y, y2, y1⟩) x hx).1
   have e : heldR rest (roomsG (bankG 0 (C1 ++ putC g (-1) s c :: C2))) = heldR rest (roomsG P ++ (g.f2 - s) :: roomsG Q) := by
    rw [← heldR_pos rest (roomsG P ++ (g.f2 - s) :: roomsG Q) hrest, e4]
    congr 1
    have fP : posR (roomsG P) = roomsG P := by
     unfold posR
     rw [List.filter_eq_self]
     intro x hx
     obtain ⟨y, hy, rfl⟩ := List.mem_map.mp hx
     have := hpos y (by rw [e3]; simp [hy])
     exact decide_eq_true (by omega)
    have fQ : posR (roomsG Q) = roomsG Q := by
     unfold posR
     rw [List.filter_eq_self]
     intro x hx
     obtain ⟨y, hy, rfl⟩ := List.mem_map.mp hx
     have := hpos y (by rw [e3]; simp [hy])
     exact decide_eq_true (by omega)
    have ea : posR (roomsG P ++ (g.f2 - s) :: roomsG Q) = posR (roomsG P) ++ posR ((g.f2 - s) :: roomsG Q) := by unfold posR; rw [List.filter_append]
    rw [ea, fP]
    unfold restG
    by_cases d : s < g.f2
    ·rw [if_pos d]
     have eb : posR ((g.f2 - s) :: roomsG Q) = (g.f2 - s) :: posR (roomsG Q) := by unfold posR; rw [List.filter_cons_of_pos (by simpa using d)]
     rw [eb, fQ]
     simp [roomsG]
    ·rw [if_neg d]
     have eb : posR ((g.f2 - s) :: roomsG Q) = posR (roomsG Q) := by unfold posR; rw [List.filter_cons_of_neg (by simpa using d)]
     rw [eb, fQ]
     simp [roomsG]
   rw [e]
   omega
theorem held_ev (cs : List S41) (hs : Small cs) (sizes : List Int) (hl : sizes.length ≤ 1048576) : Ev (fun k => impl_HeldInOrder.f k cs sizes) (heldP cs sizes) := by
 unfold impl_HeldInOrder.f
 have no : Ev (fun k => impl_HeldInOrder.j0 k cs sizes true) 0 := by
  refine Ev.succ ?_
  simp only [impl_HeldInOrder.j0]
  exact Ev.pos (by trivial) (Ev.ret _)
 refine Ev.bind (Ev.const rfl) ?_
 by_cases hb : bankP cs = true
 ·refine Ev.pos hb (Ev.bind (sizes_ev sizes hl) ?_)
  by_cases hz : sizesP sizes = true
  ·have e : heldP cs sizes = (heldR sizes (roomsG (bankG 0 cs)) : Int) := by unfold heldP; rw [if_pos ⟨hb, hz⟩]
   have hsz := (sizesP_iff sizes).mp hz
   have v := (bankP_iff cs).mp hb
   rw [e, hz]
   refine Ev.succ ?_
   simp only [impl_HeldInOrder.j0]
   refine Ev.neg (by simp) (Ev.bind (copyBank_ev cs hs) ?_)
   refine (held_loop_ev sizes hsz.2 hsz.1 sizes 0 cs rfl (by omega) (v.geo hs)).to ?_
   simp
  ·have e : heldP cs sizes = 0 := by unfold heldP; rw [if_neg (fun h => hz h.2)]
   have hz2 : sizesP sizes = false := by simpa using hz
   rw [e, hz2]
   exact no
 ·have e : heldP cs sizes = 0 := by unfold heldP; rw [if_neg (fun h => hb h.1)]
  rw [e]
  exact Ev.neg hb no
end Go.Proofs.Ytbpjidekjogfeaa.A

namespace Go.Proofs.Ytbpjidekjogfeaa.A
open Go.RowKit Go.Proofs.YtbpjidekjogfeaaW.PrintWords Go.Proofs.YtbpjidekjogfeaaW.PrintLast Go.Proofs.YtbpjidekjogfeaaW.PrintMore
set_option linter.unusedVariables false
set_option linter.unusedSimpArgs false
theorem pureFnExactHeldInOrder : ∀ (l0 : List (S58)) (l1 : List Int), ok22 l0 → ok38 l1 → ∃ k, laws_FnExactHeldInOrder.f k l0 l1 = some true := by
 rintro l sizes hl ⟨hz, _⟩
 unfold maxLen at hz
 refine Ev.get ?_
 unfold laws_FnExactHeldInOrder.f
 by_cases c : (sizes.length : Int) > 1048576
 ·exact Ev.pos c (Ev.ret _)
 ·refine Ev.neg c ?_
  have hT2 := toIntS_ev sizes (by omega)
  rcases bank_begin l hl with ⟨r, h1, h2⟩ | ⟨⟨r, h1, h2⟩, hT, hs, _⟩
  ·exact Ev.bind h1 (Ev.pos h2 (Ev.ret _))
  ·refine Ev.bind h1 (Ev.neg (by omega) ?_)
   refine Ev.bind hT (Ev.bind hT2 (Ev.bind (heldS_ev _ hs sizes (by omega)) (Ev.bind hT (Ev.bind hT2 (Ev.bind (held_ev _ hs sizes (by omega)) (Ev.pos (by trivial) ?_))))))
   exact Ev.bind hT (Ev.bind (eqColumnS_ev _ hs) (Ev.pos (by trivial) (Ev.bind hT2 (Ev.bind (eqIntS_ev sizes (by omega)) (Ev.pos (by trivial) (Ev.ret _))))))
end Go.Proofs.Ytbpjidekjogfeaa.A
