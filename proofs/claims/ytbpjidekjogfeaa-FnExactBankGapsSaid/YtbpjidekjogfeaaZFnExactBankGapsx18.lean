/- Used by the law FnExactBankGaps. -/
import Derived.Test.YtbpjidekjogfeaaZFnExactBankGapsx17
import Derived.Test.YtbpjidekjogfeaaZFnExactBankGapsx12
import Derived.Test.YtbpjidekjogfeaaZFnExactBankGapsx14
import Derived.Test.YtbpjidekjogfeaaZFnExactBankGapsx13
import Derived.Test.YtbpjidekjogfeaaZFnExactBankGapsx11
import Derived.Test.YtbpjidekjogfeaaZFnExactBankGapsx16
import Derived.Test.YtbpjidekjogfeaaZFnExactBankGapsx15
import Derived.Test.YtbpjidekjogfeaaZFnExactBankGapsh
namespace Go.Proofs.Ytbpjidekjogfeaa.A
open Go.RowKit Go.Proofs.YtbpjidekjogfeaaW.PrintWords Go.Proofs.YtbpjidekjogfeaaW.PrintLast Go.Proofs.YtbpjidekjogfeaaW.PrintMore
set_option linter.unusedVariables false
set_option linter.unusedSimpArgs false
def Small (cs : List S41) : Prop := cs.length ≤ 1048576 ∧ ∀ c ∈ cs, c.f1.length ≤ 1048576 ∧ c.f2.length ≤ 1048576
def crossP (c d : S41) : Bool := d.f2.all (fun b => decide (boxI c.f2 b.f2 < 0))
def bankS : List S41 → List S41 → Bool
 | _, [] => true
 | pre, c :: rest => colP c.f0 c.f1 c.f2 && (pre.all (fun p => crossP p c) && bankS (pre ++ [c]) rest)
theorem bank2_loop (cs : List S41) (hs : Small cs) (i j : Nat) (hi : i < cs.length) (hj : j < i) (r : Bool) (hr : Ev (fun k => spec_BankOk.l1 k cs (i : Int) ((j + 1 : Nat) : Int)) r) :
  ∀ (rest : List S98) (n : Nat), (cs.getD i z41).f2.drop n = rest → n ≤ (cs.getD i z41).f2.length → Ev (fun k => spec_BankOk.l2 k cs (i : Int) (j : Int) (n : Int)) (rest.all (fun b => decide (boxI (cs.getD j z41).f2 b.f2 < 0)) && r)
 | [], n, hd, hn => by
  have he := drop_end hd hn
  have er : rd_T41 cs (i : Int) = cs.getD i z41 := rfl
  have hl := hs.1
  refine Ev.succ ?_
  simp only [spec_BankOk.l2, er]
  refine Ev.pos (by omega) (Ev.pos (by omega) (Ev.neg (by omega) ?_))
  rw [wsucc j (by omega)]
  exact hr
 | b :: rest, n, hd, hn => by
  obtain ⟨h1, h2, h3⟩ := drop_step z98 hd
  have er : rd_T41 cs (i : Int) = cs.getD i z41 := rfl
  have er2 : rd_T41 cs (j : Int) = cs.getD j z41 := rfl
  have eb : rd_T98 (cs.getD i z41).f2 (n : Int) = b := h2
  have hl := hs.1
  have hmem : cs.getD i z41 ∈ cs := by rw [getD_gen _ hi]; exact List.getElem_mem _
  have hmem2 : cs.getD j z41 ∈ cs := by rw [getD_gen _ (show j < cs.length by omega)]; exact List.getElem_mem _
  have hl2 := (hs.2 _ hmem).2
  have hl3 := (hs.2 _ hmem2).2
  have ih := bank2_loop cs hs i j hi hj r hr rest (n + 1) h3 (by omega)
  refine Ev.succ ?_
  simp only [spec_BankOk.l2, er, er2, eb, List.all_cons]
  refine Ev.pos (by omega) (Ev.pos (by omega) (Ev.pos (by omega) (Ev.pos (by omega) (Ev.pos (by omega) (Ev.pos (by omega) ?_)))))
  refine Ev.bind (box_ev _ _ _ hl3 _) ?_
  rw [wsucc n (by omega)]
  by_cases c : boxI (cs.getD j z41).f2 b.f2 < 0
  ·refine Ev.neg (by omega) ?_
   rw [decide_eq_true c, Bool.true_and]
   exact ih
  ·refine Ev.pos (by omega) ?_
   rw [decide_eq_false c, Bool.false_and, Bool.false_and]
   exact Ev.ret _
theorem bank1_loop (cs : List S41) (hs : Small cs) (i : Nat) (hi : i < cs.length) (r : Bool) (hr : Ev (fun k => spec_BankOk.l0 k cs ((i + 1 : Nat) : Int)) r) :
  ∀ (d j : Nat), j + d = i → Ev (fun k => spec_BankOk.l1 k cs (i : Int) (j : Int)) (((cs.take i).drop j).all (fun p => crossP p (cs.getD i z41)) && r)
 | 0, j, hj => by
  have hl := hs.1
  refine Ev.succ ?_
  simp only [spec_BankOk.l1]
  refine Ev.neg (by omega) ?_
  rw [wsucc i (by omega), List.drop_eq_nil_of_le (by rw [List.length_take]; omega), List.all_nil, Bool.true_and]
  exact hr
 | d + 1, j, hj => by
  have hl := hs.1
  have ih := bank1_loop cs hs i hi r hr d (j + 1) (by omega)
  have h2 := bank2_loop cs hs i j hi (by omega) _ ih (cs.getD i z41).f2 0 rfl (by omega)
  refine Ev.succ ?_
  simp only [spec_BankOk.l1]
  refine Ev.pos (by omega) (h2.to ?_)
  have e : (cs.take i).drop j = cs.getD j z41 :: (cs.take i).drop (j + 1) := by
   have hj2 : j < (cs.take i).length := by rw [List.length_take]; omega
   rw [drop_cons _ z41 j hj2, List.getD_eq_getElem?_getD, List.getElem?_take_of_lt (by omega), ← List.getD_eq_getElem?_getD]
  rw [e, List.all_cons, Bool.and_assoc]
  rfl
theorem bank0_loop (cs : List S41) (hs : Small cs) : ∀ (rest : List S41) (i : Nat), cs.drop i = rest → i ≤ cs.length → Ev (fun k => spec_BankOk.l0 k cs (i : Int)) (bankS (cs.take i) rest)
 | [], i, hd, hi => by
  have he := drop_end hd hi
  refine Ev.succ ?_
  simp only [spec_BankOk.l0, bankS]
  exact Ev.neg (by omega) (Ev.ret _)
 | c :: rest, i, hd, hi => by
  obtain ⟨h1, h2, h3⟩ := drop_step z41 hd
  have er : rd_T41 cs (i : Int) = c := h2
  have hc : c ∈ cs := by rw [← h2, getD_gen _ h1]; exact List.getElem_mem _
  have hcs := hs.2 c hc
  have ih := bank0_loop cs hs rest (i + 1) h3 (by omega)
  have hi1 := bank1_loop cs hs i h1 _ ih i 0 (by omega)
  refine Ev.succ ?_
  simp only [spec_BankOk.l0, er, bankS]
  refine Ev.pos (by omega) (Ev.pos (by omega) (Ev.bind (colok_ev _ _ (by omega) _ (by omega)) ?_))
  have et : cs.take (i + 1) = cs.take i ++ [c] := by
   rw [List.take_add_one, ← h2, List.getD_eq_getElem?_getD, List.getElem?_eq_getElem h1]
   rfl
  by_cases d : colP c.f0 c.f1 c.f2 = true
  ·refine Ev.pos d (hi1.to ?_)
   rw [d, Bool.true_and, List.drop_zero, h2, et]
  ·refine Ev.neg d ((Ev.ret _).to ?_)
   have : colP c.f0 c.f1 c.f2 = false := by simpa using d
   rw [this, Bool.false_and]
def crossV (c d : S41) : Prop := ∀ a ∈ c.f2, ∀ b ∈ d.f2, 0 < b.f2 → a.f2 ≠ b.f2
theorem boxI_neg (l : List S98) (p : Int) : boxI l p < 0 ↔ (0 < p → ∀ a ∈ l, a.f2 ≠ p) := by
 unfold boxI
 by_cases h : 0 < p
 ·rw [if_pos h]
  rcases idxP_cases l p with ⟨h1, h2⟩ | ⟨l1, b, l2, h1, h2, h3, h4⟩
  ·rw [h1]
   exact ⟨fun _ _ => h2, fun _ => by omega⟩
  ·rw [h4]
   constructor
   ·intro c; omega
   ·intro c
    exact absurd h2 (c h b (by rw [h1]; simp))
 ·rw [if_neg h]
  exact ⟨fun _ c => absurd c h, fun _ => by omega⟩
theorem crossP_iff (c d : S41) : crossP c d = true ↔ crossV c d := by
 unfold crossP crossV
 rw [List.all_eq_true]
 constructor
 ·intro h a ha b hb h0
  have := of_decide_eq_true (h b hb)
  exact (boxI_neg _ _).mp this h0 a ha
 ·intro h b hb
  exact decide_eq_true ((boxI_neg _ _).mpr (fun h0 a ha => h a ha b hb h0))
theorem bankS_iff : ∀ (rest pre : List S41), bankS pre rest = true ↔ (∀ c ∈ rest, colP c.f0 c.f1 c.f2 = true) ∧ (∀ p ∈ pre, ∀ c ∈ rest, crossV p c) ∧ rest.Pairwise crossV
 | [], pre => by simp [bankS]
 | c :: rest, pre => by
  simp only [bankS, Bool.and_eq_true]
  rw [bankS_iff rest, List.all_eq_true]
  constructor
  ·rintro ⟨h1, h2, h3, h4, h5⟩
   refine ⟨fun d hd => ?_, fun p hp d hd => ?_, List.pairwise_cons.mpr ⟨fun d hd => h4 c (by simp) d hd, h5⟩⟩
   ·rcases List.mem_cons.mp hd with rfl | hd
    ·exact h1
    ·exact h3 d hd
   ·rcases List.mem_cons.mp hd with rfl | hd
    ·exact (crossP_iff _ _).mp (h2 p hp)
    ·exact h4 p (by simp [hp]) d hd
  ·rintro ⟨h1, h2, h3⟩
   obtain ⟨h4, h5⟩ := List.pairwise_cons.mp h3
   refine ⟨h1 c (by simp), fun p hp => (crossP_iff _ _).mpr (h2 p hp c (by simp)), fun d hd => h1 d (by simp [hd]), fun p hp d hd => ?_, h5⟩
   rcases List.mem_append.mp hp with hp | hp
   ·exact h2 p hp d (by simp [hd])
   ·rw [List.mem_singleton.mp hp]; exact h4 d hd
theorem parP_iff : ∀ (bs : List S98) (ps : List Int), bs.Pairwise (fun a b => 0 < b.f2 → a.f2 ≠ b.f2) →
  ((∀ b ∈ bs, 0 < b.f2 → b.f2 ∉ ps) ∧ ∃ qs, parP bs ps = some qs ∧ ∀ x, x ∈ qs ↔ x ∈ ps ∨ ∃ b ∈ bs, b.f2 = x) ∨ (¬ (∀ b ∈ bs, 0 < b.f2 → b.f2 ∉ ps) ∧ parP bs ps = none)
 | [], ps, _ => Or.inl ⟨by simp, ps, rfl, by simp⟩
 | b :: bs, ps, hp => by
  obtain ⟨h1, h2⟩ := List.pairwise_cons.mp hp
  simp only [parP]
  by_cases c : 0 < b.f2 ∧ b.f2 ∈ ps
  ·rw [if_pos c]
   exact Or.inr ⟨fun h => h b (by simp) c.1 c.2, rfl⟩
  ·rw [if_neg c]
   rcases parP_iff bs (b.f2 :: ps) h2 with ⟨h3, qs, h4, h5⟩ | ⟨h3, h4⟩
   ·refine Or.inl ⟨fun x hx h0 => ?_, qs, h4, fun x => ?_⟩
    ·rcases List.mem_cons.mp hx with rfl | hx
     ·exact fun h => c ⟨h0, h⟩
     ·exact fun h => h3 x hx h0 (by simp [h])
    ·rw [h5 x, List.mem_cons]
     constructor
     ·rintro ((h | h) | ⟨y, hy, e⟩)
      ·exact Or.inr ⟨b, by simp, h.symm⟩
      ·exact Or.inl h
      ·exact Or.inr ⟨y, by simp [hy], e⟩
     ·rintro (h | ⟨y, hy, e⟩)
      ·exact Or.inl (Or.inr h)
      ·rcases List.mem_cons.mp hy with rfl | hy
       ·exact Or.inl (Or.inl e.symm)
       ·exact Or.inr ⟨y, hy, e⟩
   ·refine Or.inr ⟨fun h => h3 (fun x hx h0 hm => ?_), h4⟩
    rcases List.mem_cons.mp hm with e | hm
    ·exact h1 x hx h0 e.symm
    ·exact h x (by simp [hx]) h0 hm
theorem bankL_iff : ∀ (cs : List S41) (ps : List Int), bankL cs ps = true ↔ (∀ c ∈ cs, colP c.f0 c.f1 c.f2 = true) ∧ (∀ c ∈ cs, ∀ b ∈ c.f2, 0 < b.f2 → b.f2 ∉ ps) ∧ cs.Pairwise crossV
 | [], ps => by simp [bankL]
 | c :: cs, ps => by
  simp only [bankL, Bool.and_eq_true]
  by_cases hc : colP c.f0 c.f1 c.f2 = true
  ·have v := (colP_iff _ _ _).mp hc
   rcases parP_iff c.f2 ps ((parcs_iff _ _).mp v.par).2.2 with ⟨h3, qs, h4, h5⟩ | ⟨h3, h4⟩
   ·rw [h4]
    dsimp only
    rw [bankL_iff cs qs]
    constructor
    ·rintro ⟨_, g1, g2, g3⟩
     refine ⟨fun d hd => ?_, fun d hd b hb h0 => ?_, List.pairwise_cons.mpr ⟨fun d hd a ha b hb h0 e => g2 d hd b hb h0 ((h5 _).mpr (Or.inr ⟨a, ha, e⟩)), g3⟩⟩
     ·rcases List.mem_cons.mp hd with rfl | hd
      ·exact hc
      ·exact g1 d hd
     ·rcases List.mem_cons.mp hd with rfl | hd
      ·exact h3 b hb h0
      ·exact fun h => g2 d hd b hb h0 ((h5 _).mpr (Or.inl h))
    ·rintro ⟨g1, g2, g3⟩
     obtain ⟨g4, g5⟩ := List.pairwise_cons.mp g3
     refine ⟨hc, fun d hd => g1 d (by simp [hd]), fun d hd b hb h0 h => ?_, g5⟩
     rcases (h5 _).mp h with h | ⟨a, ha, e⟩
     ·exact g2 d (by simp [hd]) b hb h0 h
     ·exact g4 d hd a ha b hb h0 e
   ·rw [h4]
    dsimp only
    constructor
    ·rintro ⟨_, h⟩; simp at h
    ·rintro ⟨_, g2, _⟩
     exact absurd (fun b hb h0 => g2 c (by simp) b hb h0) h3
  ·constructor
   ·rintro ⟨h, _⟩; exact absurd h hc
   ·rintro ⟨h, _⟩; exact absurd (h c (by simp)) hc
structure BankV (cs : List S41) : Prop where
 len : 1 ≤ (cs.length : Int) ∧ (cs.length : Int) ≤ 6
 col : ∀ c ∈ cs, colP c.f0 c.f1 c.f2 = true
 cross : cs.Pairwise crossV
theorem bankP_iff (cs : List S41) : bankP cs = true ↔ BankV cs := by
 unfold bankP
 rw [Bool.and_eq_true, decide_eq_true_iff, bankL_iff]
 constructor
 ·rintro ⟨h1, h2, _, h3⟩; exact ⟨h1, h2, h3⟩
 ·rintro ⟨h1, h2, h3⟩; exact ⟨h1, h2, fun _ _ _ _ _ => by simp, h3⟩
theorem bankok_ev (cs : List S41) (hs : Small cs) : Ev (fun k => spec_BankOk.f k cs) (bankP cs) := by
 unfold spec_BankOk.f
 refine Ev.bind (Ev.const (in_eq _ _ _)) ?_
 by_cases c : 1 ≤ (cs.length : Int) ∧ (cs.length : Int) ≤ 6
 ·refine Ev.pos (decide_eq_true c) ?_
  refine (bank0_loop cs hs cs 0 rfl (by omega)).to ?_
  have e : bankS [] cs = bankL cs [] := by
   rw [Bool.eq_iff_iff, bankS_iff, bankL_iff]
   constructor
   ·rintro ⟨h1, _, h3⟩; exact ⟨h1, fun _ _ _ _ _ => by simp, h3⟩
   ·rintro ⟨h1, _, h3⟩; exact ⟨h1, fun p hp => absurd hp (by simp), h3⟩
  unfold bankP
  rw [decide_eq_true c, Bool.true_and, ← e]
  rfl
 ·refine Ev.neg (by simpa using c) ((Ev.ret _).to ?_)
  unfold bankP
  rw [decide_eq_false c, Bool.false_and]
def toI_Col (c : S58) : S41 := ⟨c.f0, c.f1, c.f2.map toI_Box⟩
def wt (l : List S58) : Int := (l.map (fun c => ((c.f1.length : Int) + c.f2.length))).foldr (· + ·) 0
theorem wt_nonneg : ∀ (l : List S58), 0 ≤ wt l
 | [] => Int.le_refl _
 | c :: l => by
  have := wt_nonneg l
  show 0 ≤ ((c.f1.length : Int) + c.f2.length) + wt l
  omega
theorem wt_mem : ∀ (l : List S58) (c : S58), c ∈ l → (c.f1.length : Int) + c.f2.length ≤ wt l
 | [], c, h => absurd h (by simp)
 | d :: l, c, h => by
  have hn := wt_nonneg l
  show _ ≤ ((d.f1.length : Int) + d.f2.length) + wt l
  rcases List.mem_cons.mp h with rfl | h
  ·omega
  ·have := wt_mem l c h; omega
theorem szS_loop (l : List S58) (hl : l.length ≤ 1048576) (hm : ∀ c ∈ l, c.f1.length ≤ 9223372036854775807 ∧ c.f2.length ≤ 9223372036854775807) : ∀ (rest : List S58) (i : Nat) (a : Int), l.drop i = rest → i ≤ l.length → 0 ≤ a → a ≤ 1048576 → Ev (fun k => laws_szColumnS.l0 k l a (i : Int)) (if a < wt rest then -1 else a - wt rest)
 | [], i, a, hd, hi, h0, h1 => by
  have he := drop_end hd hi
  refine Ev.succ ?_
  simp only [laws_szColumnS.l0]
  refine Ev.neg (by omega) ((Ev.ret _).to ?_)
  have : wt [] = 0 := rfl
  rw [this, if_neg (by omega)]
  omega
 | c :: rest, i, a, hd, hi, h0, h1 => by
  obtain ⟨h2, h3, h4⟩ := drop_step z58 hd
  have er : rd_T58 l (i : Int) = c := h3
  have hc : c ∈ l := by rw [← h3, getD_gen _ h2]; exact List.getElem_mem _
  have hn := wt_nonneg rest
  have ew : wt (c :: rest) = ((c.f1.length : Int) + c.f2.length) + wt rest := rfl
  refine Ev.succ ?_
  simp only [laws_szColumnS.l0, er]
  refine Ev.pos (by omega) (Ev.pos (by omega) (Ev.bind (Ev.const (szColumn_eq _ _ _ a h0 h1 (hm c hc).1 (hm c hc).2)) ?_))
  by_cases d : a < (c.f1.length : Int) + c.f2.length
  ·rw [if_pos d, if_pos (by omega)]
   exact Ev.pos (by omega) (Ev.ret _)
  ·rw [if_neg d, wsucc i (by omega)]
   refine Ev.neg (by omega) ((szS_loop l hl hm rest (i + 1) _ h4 (by omega) (by omega) (by omega)).to ?_)
   by_cases e : a < wt (c :: rest)
   ·rw [if_pos e, if_pos (by omega)]
   ·rw [if_neg e, if_neg (by omega)]
    omega
theorem szS_ev (l : List S58) (hl : l.length ≤ 9223372036854775807) (hm : ∀ c ∈ l, c.f1.length ≤ 9223372036854775807 ∧ c.f2.length ≤ 9223372036854775807) : ∃ r : Int, Ev (fun k => laws_szColumnS.f k l 1048576) r ∧ (r < 0 ∨ (0 ≤ r ∧ (l.length : Int) + wt l ≤ 1048576)) := by
 have hn := wt_nonneg l
 unfold laws_szColumnS.f
 rw [wid (1048576 - (l.length : Int)) (by omega) (by omega)]
 by_cases c : 1048576 - (l.length : Int) < 0
 ·exact ⟨-1, Ev.pos c (Ev.ret _), Or.inl (by omega)⟩
 ·refine ⟨_, Ev.neg c (szS_loop l (by omega) hm l 0 _ rfl (by omega) (by omega) (by omega)), ?_⟩
  by_cases d : 1048576 - (l.length : Int) < wt l
  ·rw [if_pos d]; exact Or.inl (by omega)
  ·rw [if_neg d]; exact Or.inr ⟨by omega, by omega⟩
theorem map_ev {α β : Type} {L : Nat → List β → Int → Option (List β)} {xs : List α} {g : α → β} (d0 : α)
  (h : ∀ acc (i : Nat) r, i < xs.length → acc.length = xs.length → Ev (fun k => L k (acc.set i (g (xs.getD i d0))) ((i + 1 : Nat) : Int)) r → Ev (fun k => L k acc (i : Int)) r)
  (he : ∀ acc, Ev (fun k => L k acc (xs.length : Int)) acc) : ∀ (d : Nat) acc i, i + d = xs.length → acc.length = xs.length → (∀ j, j < i → acc[j]? = (xs.map g)[j]?) → Ev (fun k => L k acc (i : Int)) (xs.map g)
 | 0, acc, i, hi, hl, hp => by
  obtain rfl : i = xs.length := by omega
  refine (he acc).to ?_
  apply List.ext_getElem?
  intro j
  by_cases hj : j < xs.length
  ·exact hp j hj
  ·rw [List.getElem?_eq_none (by omega), List.getElem?_eq_none (by simp; omega)]
 | d + 1, acc, i, hi, hl, hp => by
  refine h acc i _ (by omega) hl (map_ev d0 h he d _ (i + 1) (by omega) (by simp [hl]) (fun j hj => ?_))
  by_cases e : i = j
  ·subst e
   rw [List.getElem?_set_self (by omega), List.getElem?_map, List.getElem?_eq_getElem (show i < xs.length by omega), List.getD_eq_getElem?_getD, List.getElem?_eq_getElem (show i < xs.length by omega)]
   rfl
  ·rw [List.getElem?_set_ne e]
   exact hp j (by omega)
theorem toColumnS_ev (l : List S58) (hl : l.length ≤ 1048576) (hm : ∀ c ∈ l, c.f1.length ≤ 1048576 ∧ c.f2.length ≤ 1048576) : Ev (fun k => laws_toColumnS.f k l) (l.map toI_Col) := by
 unfold laws_toColumnS.f
 refine Ev.pos (by omega) (Ev.pos (by omega) ?_)
 refine map_ev (L := fun k acc i => laws_toColumnS.l0 k l acc i) z58 (fun acc i r hi ha ih => ?_) (fun acc => ?_) l.length _ 0 (by omega) (by simp) (fun j hj => by omega)
 ·refine Ev.succ ?_
  simp only [laws_toColumnS.l0]
  have er : rd_T58 l (i : Int) = l.getD i z58 := rfl
  have hc : l.getD i z58 ∈ l := by rw [getD_gen _ hi]; exact List.getElem_mem _
  rw [er, wsucc i (by omega)]
  refine Ev.pos (by omega) (Ev.pos (by omega) (Ev.bind (toColumn_ev _ _ _ (hm _ hc).1 (hm _ hc).2) (Ev.pos (by omega) ?_)))
  exact ih
 ·refine Ev.succ ?_
  simp only [laws_toColumnS.l0]
  exact Ev.neg (by omega) (Ev.ret _)
theorem eqColumnS_ev (l : List S41) (hs : Small l) : Ev (fun k => laws_eqColumnS.f k l l) true := by
 have hl := hs.1
 have go : ∀ (rest : List S41) (i : Nat), l.drop i = rest → i ≤ l.length → Ev (fun k => laws_eqColumnS.l0 k l l (i : Int)) true := by
  intro rest
  induction rest with
  | nil =>
   intro i hd hi
   have he := drop_end hd hi
   refine Ev.succ ?_
   simp only [laws_eqColumnS.l0]
   exact Ev.neg (by omega) (Ev.ret _)
  | cons c rest ih =>
   intro i hd hi
   obtain ⟨h1, h2, h3⟩ := drop_step z41 hd
   have er : rd_T41 l (i : Int) = c := h2
   have hc : c ∈ l := by rw [← h2, getD_gen _ h1]; exact List.getElem_mem _
   refine Ev.succ ?_
   simp only [laws_eqColumnS.l0, er]
   rw [wsucc i (by omega)]
   exact Ev.pos (by omega) (Ev.pos (by omega) (Ev.pos (by omega) (Ev.bind (eqColumn_ev _ _ _ (hs.2 c hc).1 (hs.2 c hc).2) (Ev.pos (by trivial) (ih (i + 1) h3 (by omega))))))
 unfold laws_eqColumnS.f
 exact Ev.pos rfl (go l 0 rfl (by omega))
theorem bank_begin (l : List S58) (hl : ok22 l) : (∃ r : Int, Ev (fun k => laws_szColumnS.f k l 1048576) r ∧ r < 0) ∨ (∃ r : Int, Ev (fun k => laws_szColumnS.f k l 1048576) r ∧ 0 ≤ r) ∧ Ev (fun k => laws_toColumnS.f k l) (l.map toI_Col) ∧ Small (l.map toI_Col) ∧ (l.length : Int) + wt l ≤ 1048576 := by
 obtain ⟨h1, h2⟩ := hl
 unfold maxLen at h1
 obtain ⟨r, hr, h3⟩ := szS_ev l (by omega) (fun c hc => by
  obtain ⟨_, ⟨h4, _⟩, ⟨h5, _⟩⟩ := h2 c hc
  unfold maxLen at h4 h5
  exact ⟨by omega, by omega⟩)
 rcases h3 with h3 | ⟨h3, h4⟩
 ·exact Or.inl ⟨r, hr, h3⟩
 ·have hn := wt_nonneg l
  have hm : ∀ c ∈ l, c.f1.length ≤ 1048576 ∧ c.f2.length ≤ 1048576 := fun c hc => by
   have := wt_mem l c hc
   omega
  refine Or.inr ⟨⟨r, hr, h3⟩, toColumnS_ev l (by omega) hm, ⟨by rw [List.length_map]; omega, fun c hc => ?_⟩, h4⟩
  obtain ⟨d, hd, rfl⟩ := List.mem_map.mp hc
  have := hm d hd
  exact ⟨this.1, by show (d.f2.map toI_Box).length ≤ _; rw [List.length_map]; exact this.2⟩
end Go.Proofs.Ytbpjidekjogfeaa.A

namespace Go.Proofs.Ytbpjidekjogfeaa.A
open Go.RowKit Go.Proofs.YtbpjidekjogfeaaW.PrintWords Go.Proofs.YtbpjidekjogfeaaW.PrintLast Go.Proofs.YtbpjidekjogfeaaW.PrintMore
attribute [local go_sem] max2_int min2_int max_two min_two max_three min_three max_four min_four   
set_option linter.unusedVariables false
set_option linter.unusedSimpArgs false
def IsS116 (w0 W : World) (g : Nat) (f0 : List Int) (f1 : Int) (f2 : Int) : Prop := ∃ A0 c0, W.heap[g]? = some (.cells #[.slice A0 f0.length c0, .int .i64 f1, .int .i64 f2] 116 (0, 0)) ∧ w0.heap.size ≤ g ∧ Kd.C (Kd.int .u8) w0 A0 f0.length f0
theorem IsS116.grown {w0 W : World} {g : Nat} {f0 : List Int} {f1 : Int} {f2 : Int} {W1 : World} {row : Option Nat} (h : IsS116 w0 W g f0 f1 f2) (hw : W.grownBy W1 row) (hne : some g ≠ row) : IsS116 w0 W1 g f0 f1 f2 := by
 obtain ⟨A0, c0, hb, hg, hr0⟩ := h
 exact ⟨A0, c0, blk_grown hb hw hne, hg, hr0⟩
theorem IsS116.kept {w0 W : World} {g : Nat} {f0 : List Int} {f1 : Int} {f2 : Int} {W1 : World} {S : Nat → Prop} (h : IsS116 w0 W g f0 f1 f2) (hk : Kept W W1 S) (hne : ¬ S g) : IsS116 w0 W1 g f0 f1 f2 := by
 obtain ⟨A0, c0, hb, hg, hr0⟩ := h
 exact ⟨A0, c0, blk_kept hb hk hne, hg, hr0⟩
theorem IsS116.below {w0 W : World} {g : Nat} {f0 : List Int} {f1 : Int} {f2 : Int} {W1 : World} (h : IsS116 w0 W g f0 f1 f2) (hw : Below W.heap.size W W1) : IsS116 w0 W1 g f0 f1 f2 := h.grown (grown_of_below hw none) (by simp)
theorem IsS116.alloc {w0 W : World} {g : Nat} {f0 : List Int} {f1 : Int} {f2 : Int} (h : IsS116 w0 W g f0 f1 f2) (o : Obj) : IsS116 w0 (W.alloc o) g f0 f1 f2 := h.below (below_alloc (Below.refl _ _) o)
theorem IsS116.drewN {w0 W : World} {g : Nat} {f0 : List Int} {f1 : Int} {f2 : Int} (h : IsS116 w0 W g f0 f1 f2) (m : Nat) : IsS116 w0 (W.drewN m) g f0 f1 f2 := h
theorem IsS116.drew {w0 W : World} {g : Nat} {f0 : List Int} {f1 : Int} {f2 : Int} (h : IsS116 w0 W g f0 f1 f2) : IsS116 w0 W.drew g f0 f1 f2 := h
theorem IsS116.at_ {w0 W : World} {g : Nat} {f0 : List Int} {f1 : Int} {f2 : Int} {w' : World} {m : Nat} (hq : W.drewN m = w') (h : IsS116 w0 W g f0 f1 f2) : IsS116 w0 w' g f0 f1 f2 := by subst hq; exact IsS116.drewN h m
theorem IsS116.apart {w0 W : World} {g : Nat} {f0 : List Int} {f1 : Int} {f2 : Int} {α : Type} {d : Kd α} {e : Nat} {base : Nat} {ok : Nat → Prop} {v : Value} {xs : List α} (h : IsS116 w0 W g f0 f1 f2) (ho : d.R e W base ok v xs) (ht : ∀ q, q ∈ e :: d.E → q ≠ 116) : d.R e W base (fun k => ok k ∧ k ≠ g) v xs := by
 obtain ⟨A0, c0, hb, hg, hr0⟩ := h
 exact Kd.R_types ho hb ht
theorem IsS116.own_ne {w0 W : World} {g : Nat} {f0 : List Int} {f1 : Int} {f2 : Int} {α : Type} {d : Kd α} {e : Nat} {base : Nat} {ok : Nat → Prop} {v : Value} {xs : List α} (h : IsS116 w0 W g f0 f1 f2) (ho : d.R e W base ok v xs) (ht : e ≠ 116) : some g ≠ v.ownBlock := by
 obtain ⟨A0, c0, hb, hg, hr0⟩ := h
 exact Kd.R_ne ho hb ht
theorem IsS116.lt {w0 W : World} {g : Nat} {f0 : List Int} {f1 : Int} {f2 : Int} (h : IsS116 w0 W g f0 f1 f2) : g < W.heap.size := by
 obtain ⟨A0, c0, hb, hg, hr0⟩ := h
 exact blk_lt hb
theorem IsS116.ge {w0 W : World} {g : Nat} {f0 : List Int} {f1 : Int} {f2 : Int} (h : IsS116 w0 W g f0 f1 f2) : w0.heap.size ≤ g := by
 obtain ⟨A0, c0, hb, hg, hr0⟩ := h
 exact hg
theorem IsS116.far {w0 W : World} {g : Nat} {f0 : List Int} {f1 : Int} {f2 : Int} {p : Addr} (h : IsS116 w0 W g f0 f1 f2) (hne : g ≠ p.block) (u : Value) : IsS116 w0 (W.setCell p u) g f0 f1 f2 := by
 obtain ⟨A0, c0, hb, hg, hr0⟩ := h
 exact ⟨A0, c0, blk_far hb hne u, hg, hr0⟩
theorem IsS116.set_1 {w0 W : World} {g : Nat} {f0 : List Int} {f1 : Int} {f2 : Int} (h : IsS116 w0 W g f0 f1 f2) (x : Int) : IsS116 w0 (W.setCell ⟨g, 1, none⟩ (.int .i64 x)) g f0 x f2 := by
 obtain ⟨A0, c0, hb, hg, hr0⟩ := h
 exact ⟨A0, c0, by simpa using blk_set hb 1 (.int .i64 x), hg, hr0⟩
theorem IsS116.set_2 {w0 W : World} {g : Nat} {f0 : List Int} {f1 : Int} {f2 : Int} (h : IsS116 w0 W g f0 f1 f2) (x : Int) : IsS116 w0 (W.setCell ⟨g, 2, none⟩ (.int .i64 x)) g f0 f1 x := by
 obtain ⟨A0, c0, hb, hg, hr0⟩ := h
 exact ⟨A0, c0, by simpa using blk_set hb 2 (.int .i64 x), hg, hr0⟩
theorem IsS116.new (w0 W : World) (A0 : Option Addr) (c0 : Nat) (f0 : List Int) (f1 : Int) (f2 : Int) (hB : Below w0.heap.size w0 W) (hr0 : Kd.C (Kd.int .u8) w0 A0 f0.length f0) : IsS116 w0 (W.alloc (.cells #[.slice A0 f0.length c0, .int .i64 f1, .int .i64 f2] 116)) W.heap.size f0 f1 f2 := ⟨A0, c0, by simpa using heap_alloc_new W _, hB.size, hr0⟩
end Go.Proofs.Ytbpjidekjogfeaa.A

namespace Go.Proofs.Ytbpjidekjogfeaa.A
open Go.RowKit Go.Proofs.YtbpjidekjogfeaaW.PrintWords Go.Proofs.YtbpjidekjogfeaaW.PrintLast Go.Proofs.YtbpjidekjogfeaaW.PrintMore
set_option linter.unusedVariables false
set_option linter.unusedSimpArgs false
theorem has_loop (l : List Int) (hl : l.length ≤ 1048576) (x : Int) : ∀ (rest : List Int) (i : Nat), l.drop i = rest → i ≤ l.length → Ev (fun k => spec_l02Has.l0 k l x (i : Int)) (decide (x ∈ rest))
 | [], i, hd, hi => by
  have he := drop_end hd hi
  refine Ev.succ ?_
  simp only [spec_l02Has.l0]
  exact Ev.neg (by omega) ((Ev.ret _).to (by simp))
 | b :: rest, i, hd, hi => by
  obtain ⟨h1, h2, h3⟩ := drop_step 0 hd
  have er : rd l (i : Int) = b := h2
  have ih := has_loop l hl x rest (i + 1) h3 (by omega)
  refine Ev.succ ?_
  simp only [spec_l02Has.l0, er]
  refine Ev.pos (by omega) (Ev.pos (by omega) ?_)
  rw [wsucc i (by omega)]
  by_cases c : b = x
  ·exact Ev.pos c ((Ev.ret _).to (by simp [c]))
  ·refine Ev.neg c (ih.to ?_)
   rw [decide_eq_decide, List.mem_cons]
   constructor
   ·exact Or.inr
   ·rintro (h | h)
    ·exact absurd h.symm c
    ·exact h
theorem has_ev (l : List Int) (hl : l.length ≤ 1048576) (x : Int) : Ev (fun k => spec_l02Has.f k l x) (decide (x ∈ l)) := by
 unfold spec_l02Has.f
 exact has_loop l hl x l 0 rfl (by omega)
theorem index_loop (l : List Int) (hl : l.length ≤ 1048576) (x : Int) : ∀ (rest : List Int) (i : Nat), l.drop i = rest → i ≤ l.length → ∃ r : Int, Ev (fun k => slices_Index_int_int.l0 k l x (l.length : Int) (i : Int)) r ∧ (0 ≤ r ↔ x ∈ rest)
 | [], i, hd, hi => by
  have he := drop_end hd hi
  refine ⟨-1, Ev.succ ?_, by simp⟩
  simp only [slices_Index_int_int.l0]
  exact Ev.neg (by omega) (Ev.ret _)
 | b :: rest, i, hd, hi => by
  obtain ⟨h1, h2, h3⟩ := drop_step 0 hd
  have er : rd l (i : Int) = b := h2
  by_cases c : x = b
  ·refine ⟨(i : Int), Ev.succ ?_, by simp [c]⟩
   simp only [slices_Index_int_int.l0, er]
   exact Ev.pos (by omega) (Ev.pos (by omega) (Ev.pos (by omega) (Ev.pos c (Ev.ret _))))
  ·obtain ⟨r, h4, h5⟩ := index_loop l hl x rest (i + 1) h3 (by omega)
   refine ⟨r, Ev.succ ?_, by rw [h5, List.mem_cons]; constructor; exact Or.inr; rintro (h | h); exact absurd h c; exact h⟩
   simp only [slices_Index_int_int.l0, er]
   refine Ev.pos (by omega) (Ev.pos (by omega) (Ev.pos (by omega) (Ev.neg c ?_)))
   rw [wsucc i (by omega)]
   exact h4
theorem contains_ev (l : List Int) (hl : l.length ≤ 1048576) (x : Int) : Ev (fun k => slices_Contains_int_int.f k l x) (decide (x ∈ l)) := by
 obtain ⟨r, h1, h2⟩ := index_loop l hl x l 0 rfl (by omega)
 unfold slices_Contains_int_int.f slices_Index_int_int.f
 refine Ev.bind h1 ((Ev.ret _).to ?_)
 rw [decide_eq_decide]
 exact h2
def toRun (d : List S98 × List S98 × List S98) : S113 := ⟨gapR d.2.1, (d.1.length : Int), (d.1.length : Int) + (d.2.1.length : Int)⟩
def emT (pre cur : List S98) : List S113 := if cur = [] then [] else [⟨gapR cur, (pre.length : Int), (pre.length : Int) + (cur.length : Int)⟩]
theorem emD_run (pre cur bs : List S98) : (emD pre cur bs).map toRun = emT pre cur := by
 unfold emD emT; split <;> rfl
theorem emT_len (pre cur : List S98) : (emT pre cur).length ≤ 1 ∧ (cur = [] → emT pre cur = []) := by
 unfold emT; split
 ·next h => exact ⟨by simp, fun _ => rfl⟩
 ·next h => exact ⟨by simp, fun c => absurd c h⟩
theorem gapR_snoc {cur : List S98} (h : cur ≠ []) (b : S98) : gapR (cur ++ [b]) = ⟨(gapR cur).f0, (gapR cur).f1, (gapR cur).f2 + b.f1⟩ := by
 cases cur with
 | nil => exact absurd rfl h
 | cons x cur =>
  show (S50.mk 0 x.f0 (sumB (x :: cur ++ [b]))) = S50.mk 0 x.f0 (sumB (x :: cur) + b.f1)
  rw [sumB_app]
  have : sumB [b] = b.f1 := by rw [sumB_cons, sumB_nil]; omega
  rw [this]
theorem getD_end {α : Type} (l : List α) (s d : α) : (l ++ [s]).getD l.length d = s := by
 rw [List.getD_eq_getElem?_getD, List.getElem?_append_right (Nat.le_refl _), Nat.sub_self]; rfl
theorem set_end {α : Type} (l : List α) (s t : α) : (l ++ [s]).set l.length t = l ++ [t] := by
 rw [List.set_append_right _ _ (Nat.le_refl _), Nat.sub_self]; rfl
theorem runs_loop (h : Int) (fx : List Int) (hf : fx.length ≤ 1048576) (bx : List S98) (hl : bx.length ≤ 24) (hm : ∀ b ∈ bx, 1 ≤ b.f1 ∧ b.f1 ≤ 24) :
  ∀ (rest : List S98) (i : Nat) (pre cur : List S98) (done : List S113), bx.drop i = rest → i ≤ bx.length → pre.length + cur.length = i → done.length ≤ i → 0 ≤ sumB cur → sumB cur ≤ 24 * (i : Int) →
  Ev (fun k => impl_runsOf.l0 k (done ++ emT pre cur) (decide (cur ≠ [])) bx (bx.length : Int) (i : Int) h fx bx) (done ++ (decs fx pre cur rest).map toRun)
 | [], i, pre, cur, done, hd, hi, hp, hn, s0, s1 => by
  have he := drop_end hd hi
  refine Ev.succ ?_
  simp only [impl_runsOf.l0, decs]
  rw [emD_run]
  exact Ev.neg (by omega) (Ev.ret _)
 | b :: rest, i, pre, cur, done, hd, hi, hp, hn, s0, s1 => by
  obtain ⟨h1, h2, h3⟩ := drop_step z98 hd
  have er : rd_T98 bx (i : Int) = b := h2
  have hb : b ∈ bx := by rw [← h2, getD_gen _ h1]; exact List.getElem_mem _
  have hbb := hm b hb
  have hl1 := emT_len pre cur
  refine Ev.succ ?_
  simp only [impl_runsOf.l0, er]
  refine Ev.pos (by omega) (Ev.pos (by omega) (Ev.pos (by omega) ?_))
  have go : ∀ (s : Bool), s = !opB b → Ev (fun k => impl_runsOf.j1 k (done ++ emT pre cur) (decide (cur ≠ [])) (i : Int) bx (bx.length : Int) (i : Int) s h fx bx b.f0 b.f1 b.f2 b.f3) (done ++ (decs fx pre cur (b :: rest)).map toRun) := by
   intro s hs
   refine Ev.succ ?_
   simp only [impl_runsOf.j1, decs]
   rw [wsucc i (by omega)]
   cases hob : opB b with
   | false =>
    rw [hob] at hs
    subst hs
    rw [if_neg (by simp), List.map_append, emD_run, ← List.append_assoc]
    have ih := runs_loop h fx hf bx hl hm rest (i + 1) (pre ++ cur ++ [b]) [] (done ++ emT pre cur) h3 (by omega) (by simp; omega) (by simp; omega) (by rw [sumB_nil]; omega) (by rw [sumB_nil]; omega)
    rw [(emT_len _ _).2 rfl, List.append_nil] at ih
    exact Ev.pos (by trivial) (ih.to rfl)
   | true =>
    rw [hob] at hs
    subst hs
    refine Ev.neg (by simp) ?_
    rw [if_pos rfl]
    have new : (cur ≠ [] → b.f0 ∈ fx) → Ev (fun k => if (done ++ emT pre cur).length < 3518437208883 then impl_runsOf.l0 k (done ++ emT pre cur ++ [⟨⟨0, b.f0, b.f1⟩, (i : Int), ((i + 1 : Nat) : Int)⟩]) true bx (bx.length : Int) ((i + 1 : Nat) : Int) h fx bx else none) (done ++ (if cur ≠ [] ∧ b.f0 ∉ fx then decs fx pre (cur ++ [b]) rest else emD pre cur (b :: rest) ++ decs fx (pre ++ cur) [b] rest).map toRun) := by
     intro hc
     rw [if_neg (fun e => e.2 (hc e.1)), List.map_append, emD_run, ← List.append_assoc]
     have sb : sumB [b] = b.f1 := by rw [sumB_cons, sumB_nil]; omega
     have ih := runs_loop h fx hf bx hl hm rest (i + 1) (pre ++ cur) [b] (done ++ emT pre cur) h3 (by omega) (by simp; omega) (by simp; omega) (by rw [sb]; omega) (by rw [sb]; omega)
     refine Ev.pos (by simp; omega) (Ev.of_eq ih (fun k => ?_))
     have e : emT (pre ++ cur) [b] = [⟨⟨0, b.f0, b.f1⟩, (i : Int), ((i + 1 : Nat) : Int)⟩] := by
      unfold emT
      rw [if_neg (by simp)]
      show [(S113.mk (S50.mk 0 b.f0 (sumB [b])) _ _)] = _
      rw [sb, List.length_append, hp]
      rfl
     rw [e]
     rfl
    by_cases hc : cur = []
    ·have e : decide (cur ≠ []) = false := by simp [hc]
     rw [e]
     refine Ev.neg (by simp) ?_
     exact new (fun c => absurd hc c)
    ·have e : decide (cur ≠ []) = true := by simp [hc]
     rw [e]
     refine Ev.pos rfl ?_
     refine Ev.bind (contains_ev fx hf b.f0) ?_
     by_cases hfx : b.f0 ∈ fx
     ·refine Ev.pos (decide_eq_true hfx) ?_
      exact new (fun _ => hfx)
     ·refine Ev.neg (by simpa using hfx) ?_
      rw [if_pos ⟨hc, hfx⟩]
      have eT : emT pre cur = [⟨gapR cur, (pre.length : Int), (pre.length : Int) + (cur.length : Int)⟩] := by unfold emT; rw [if_neg hc]
      have ih := runs_loop h fx hf bx hl hm rest (i + 1) pre (cur ++ [b]) done h3 (by omega) (by simp; omega) (by omega) (by rw [sumB_app, sumB_cons, sumB_nil]; omega) (by rw [sumB_app, sumB_cons, sumB_nil]; omega)
      have eT2 : emT pre (cur ++ [b]) = [⟨⟨(gapR cur).f0, (gapR cur).f1, (gapR cur).f2 + b.f1⟩, (pre.length : Int), (i : Int) + 1⟩] := by
       unfold emT
       rw [if_neg (by simp), gapR_snoc hc, List.length_append]
       simp
       omega
      rw [eT2] at ih
      rw [eT]
      have hw : wrap64 (((done ++ [(S113.mk (gapR cur) (pre.length : Int) ((pre.length : Int) + (cur.length : Int)))]).length : Int) - 1) = (done.length : Int) := by
       simp; unfold wrap64; omega
      have hg : (gapR cur).f2 = sumB cur := by cases cur with | nil => exact absurd rfl hc | cons x cur => rfl
      rw [hw]
      have hrd : ∀ v : S113, rd_T113 (done ++ [v]) (done.length : Int) = v := fun v => getD_end done v _
      refine Ev.pos (by omega) (Ev.pos (by simp; omega) ?_)
      simp only [hrd, Int.toNat_natCast, set_end, Option.bind_some]
      refine Ev.of_eq ih (fun k => ?_)
      rw [wid ((gapR cur).f2 + b.f1) (by omega) (by omega), show (pre.length : Int) + (cur.length : Int) = (i : Int) by omega, wid ((i : Int) + 1) (by omega) (by omega)]
      have e2 : decide (cur ++ [b] ≠ []) = true := by simp
      rw [e2]
  by_cases c2 : b.f2 = 0
  ·refine Ev.pos c2 (go b.f3 ?_)
   unfold opB
   rw [decide_eq_true c2, Bool.true_and, Bool.not_not]
  ·refine Ev.neg c2 (go true ?_)
   unfold opB
   rw [decide_eq_false c2]
   rfl
theorem runs_ev (h : Int) (fx : List Int) (hf : fx.length ≤ 1048576) (bx : List S98) (hl : bx.length ≤ 24) (hm : ∀ b ∈ bx, 1 ≤ b.f1 ∧ b.f1 ≤ 24) : Ev (fun k => impl_runsOf.f k h fx bx) ((decs fx [] [] bx).map toRun) := by
 unfold impl_runsOf.f
 exact runs_loop h fx hf bx hl hm bx 0 [] [] [] rfl (by omega) rfl (by simp) (by rw [sumB_nil]; omega) (by rw [sumB_nil]; omega)
theorem gapsW_len (fx : List Int) : ∀ (bs cur : List S98), (gapsW fx cur bs).length ≤ bs.length + (emR cur).length
 | [], cur => by simp [gapsW]
 | b :: bs, cur => by
  have e1 : ∀ (x : List S98), (emR x).length ≤ 1 := fun x => by unfold emR; split <;> simp
  have e0 : emR [] = [] := rfl
  simp only [gapsW]
  split
  ·split
   ·next h =>
    have := gapsW_len fx bs (cur ++ [b])
    have e2 : (emR cur).length = 1 := by unfold emR; rw [if_neg h.1]; rfl
    have := e1 (cur ++ [b])
    simp; omega
   ·have := gapsW_len fx bs [b]
    have := e1 [b]
    simp; omega
  ·have := gapsW_len fx bs []
   rw [e0] at this
   simp at this ⊢; omega
theorem gapsB_len (fx : List Int) (bx : List S98) : (gapsB fx bx).length ≤ bx.length := by
 have := gapsW_len fx bx []
 have e0 : emR [] = [] := rfl
 rw [e0] at this
 unfold gapsB
 simpa using this
def gapsP (h : Int) (fx : List Int) (bx : List S98) : List S50 := if colP h fx bx = true then gapsB fx bx else []
theorem open_eq (a b c : Int) (d : Bool) : spec_l02Open.f a b c d = some (opB ⟨a, b, c, d⟩) := by
 unfold spec_l02Open.f opB
 dsimp only
 by_cases h : c = 0
 ·rw [if_pos h, decide_eq_true h, Bool.true_and]
 ·rw [if_neg h, decide_eq_false h, Bool.false_and]
theorem gapsS_loop (h : Int) (fx : List Int) (hf : fx.length ≤ 1048576) (bx : List S98) (hl : bx.length ≤ 24) (hm : ∀ b ∈ bx, 1 ≤ b.f1 ∧ b.f1 ≤ 24) :
  ∀ (rest : List S98) (i : Nat) (cur : List S98) (done : List S50), bx.drop i = rest → i ≤ bx.length → done.length ≤ i → 0 ≤ sumB cur → sumB cur ≤ 24 * (i : Int) → (cur ≠ [] ↔ 0 < i ∧ opB (bx.getD (i - 1) z98) = true) →
  Ev (fun k => spec_GapsOf.l0 k (done ++ emR cur) (i : Int) h fx bx) (done ++ gapsW fx cur rest)
 | [], i, cur, done, hd, hi, hn, s0, s1, hc => by
  have he := drop_end hd hi
  refine Ev.succ ?_
  simp only [spec_GapsOf.l0, gapsW]
  exact Ev.neg (by omega) (Ev.ret _)
 | b :: rest, i, cur, done, hd, hi, hn, s0, s1, hc => by
  obtain ⟨h1, h2, h3⟩ := drop_step z98 hd
  have er : rd_T98 bx (i : Int) = b := h2
  have hb : b ∈ bx := by rw [← h2, getD_gen _ h1]; exact List.getElem_mem _
  have hbb := hm b hb
  have eb : (S98.mk b.f0 b.f1 b.f2 b.f3) = b := rfl
  have hl1 : (emR cur).length ≤ 1 := by unfold emR; split <;> simp
  refine Ev.succ ?_
  simp only [spec_GapsOf.l0, er, gapsW]
  rw [wsucc i (by omega)]
  refine Ev.pos (by omega) (Ev.pos (by omega) ?_)
  refine Ev.bind (Ev.const (open_eq _ _ _ _)) ?_
  rw [eb]
  have nxt : opB (bx.getD (i + 1 - 1) z98) = opB b := by rw [Nat.add_sub_cancel, h2]
  cases hob : opB b with
  | false =>
   refine Ev.neg (by simp) ?_
   rw [if_neg (by simp), ← List.append_assoc]
   have ih := gapsS_loop h fx hf bx hl hm rest (i + 1) [] (done ++ emR cur) h3 (by omega) (by simp; omega) (by rw [sumB_nil]; omega) (by rw [sumB_nil]; omega) ⟨fun c => absurd rfl c, fun c => by rw [nxt, hob] at c; simp at c⟩
   have e0 : emR [] = [] := rfl
   rw [e0, List.append_nil] at ih
   exact ih
  | true =>
   refine Ev.pos (by trivial) ?_
   rw [if_pos rfl]
   have sb : sumB [b] = b.f1 := by rw [sumB_cons, sumB_nil]; omega
   have new : (cur ≠ [] → b.f0 ∈ fx) → Ev (fun k => if (done ++ emR cur).length < 5864062014805 then spec_GapsOf.l0 k (done ++ emR cur ++ [⟨0, b.f0, b.f1⟩]) ((i + 1 : Nat) : Int) h fx bx else none) (done ++ (if cur ≠ [] ∧ b.f0 ∉ fx then gapsW fx (cur ++ [b]) rest else emR cur ++ gapsW fx [b] rest)) := by
    intro hcf
    rw [if_neg (fun e => e.2 (hcf e.1)), ← List.append_assoc]
    have ih := gapsS_loop h fx hf bx hl hm rest (i + 1) [b] (done ++ emR cur) h3 (by omega) (by simp; omega) (by rw [sb]; omega) (by rw [sb]; omega) ⟨fun _ => ⟨by omega, by rw [nxt, hob]⟩, fun _ => by simp⟩
    refine Ev.pos (by simp; omega) (Ev.of_eq ih (fun k => ?_))
    have e : emR [b] = [⟨0, b.f0, b.f1⟩] := by
     unfold emR
     rw [if_neg (by simp)]
     show [(S50.mk 0 b.f0 (sumB [b]))] = _
     rw [sb]
    rw [e]
   by_cases hcur : cur = []
   ·have hno : ¬ (0 < i ∧ opB (bx.getD (i - 1) z98) = true) := fun c => hc.mpr c hcur
    by_cases ci : (i : Int) > 0
    ·refine Ev.pos ci ?_
     rw [wpred i (by omega) (by omega)]
     have er2 : rd_T98 bx ((i - 1 : Nat) : Int) = bx.getD (i - 1) z98 := rfl
     refine Ev.pos (by omega) (Ev.pos (by omega) (Ev.bind (Ev.const (open_eq _ _ _ _)) ?_))
     rw [er2]
     refine Ev.neg (fun c => hno ⟨by omega, c⟩) ?_
     exact new (fun c => absurd hcur c)
    ·refine Ev.neg ci ?_
     exact new (fun c => absurd hcur c)
   ·obtain ⟨ci, co⟩ := hc.mp hcur
    refine Ev.pos (by omega) ?_
    rw [wpred i (by omega) (by omega)]
    have er2 : rd_T98 bx ((i - 1 : Nat) : Int) = bx.getD (i - 1) z98 := rfl
    refine Ev.pos (by omega) (Ev.pos (by omega) (Ev.bind (Ev.const (open_eq _ _ _ _)) ?_))
    rw [er2]
    refine Ev.pos co ?_
    refine Ev.bind (has_ev fx hf b.f0) ?_
    by_cases hfx : b.f0 ∈ fx
    ·refine Ev.pos (decide_eq_true hfx) ?_
     exact new (fun _ => hfx)
    ·refine Ev.neg (by simpa using hfx) ?_
     rw [if_pos ⟨hcur, hfx⟩]
     have eT : emR cur = [gapR cur] := by unfold emR; rw [if_neg hcur]
     have ih := gapsS_loop h fx hf bx hl hm rest (i + 1) (cur ++ [b]) done h3 (by omega) (by omega) (by rw [sumB_app, sb]; omega) (by rw [sumB_app, sb]; omega) ⟨fun _ => ⟨by omega, by rw [nxt, hob]⟩, fun _ => by simp⟩
     have eT2 : emR (cur ++ [b]) = [⟨(gapR cur).f0, (gapR cur).f1, (gapR cur).f2 + b.f1⟩] := by
      unfold emR
      rw [if_neg (by simp), gapR_snoc hcur]
     rw [eT2] at ih
     rw [eT]
     have hg : (gapR cur).f2 = sumB cur := by cases cur with | nil => exact absurd rfl hcur | cons x cur => rfl
     have hw : wrap64 (((done ++ [gapR cur]).length : Int) - 1) = (done.length : Int) := by
      simp; unfold wrap64; omega
     rw [hw]
     have hrd : ∀ v : S50, rd_T50 (done ++ [v]) (done.length : Int) = v := fun v => getD_end done v _
     refine Ev.pos (by omega) (Ev.pos (by simp; omega) ?_)
     simp only [hrd, Int.toNat_natCast, set_end]
     rw [wid ((gapR cur).f2 + b.f1) (by omega) (by omega)]
     exact ih
theorem gapsS_ev (h : Int) (fx : List Int) (hf : fx.length ≤ 1048576) (bx : List S98) (hb : bx.length ≤ 1048576) : Ev (fun k => spec_GapsOf.f k h fx bx) (gapsP h fx bx) := by
 unfold spec_GapsOf.f gapsP
 refine Ev.bind (Ev.ret _) (Ev.bind (colok_ev h fx (by omega) bx (by omega)) ?_)
 by_cases c : colP h fx bx = true
 ·have v := (colP_iff h fx bx).mp c
  rw [if_pos c]
  refine Ev.pos c ?_
  exact gapsS_loop h fx hf bx v.len (fun b hb => by have := v.mem hb; omega) bx 0 [] [] rfl (by omega) (by simp) (by rw [sumB_nil]; omega) (by rw [sumB_nil]; omega) ⟨fun c => absurd rfl c, fun c => absurd c.1 (by omega)⟩
 ·rw [if_neg c]
  exact Ev.neg c (Ev.ret _)
end Go.Proofs.Ytbpjidekjogfeaa.A

namespace Go.Proofs.Ytbpjidekjogfeaa.A
open Go.RowKit Go.Proofs.YtbpjidekjogfeaaW.PrintWords Go.Proofs.YtbpjidekjogfeaaW.PrintLast Go.Proofs.YtbpjidekjogfeaaW.PrintMore
set_option linter.unusedVariables false
set_option linter.unusedSimpArgs false
def bankG : Int → List S41 → List S50
 | _, [] => []
 | k, c :: cs => (gapsB c.f1 c.f2).map (fun g => ⟨k, g.f1, g.f2⟩) ++ bankG (k + 1) cs
def bankGP (cs : List S41) : List S50 := if bankP cs = true then bankG 0 cs else []
structure Flat (cs : List S41) : Prop where
 len : cs.length ≤ 6
 fix : ∀ c ∈ cs, c.f1.length ≤ 1048576
 box : ∀ c ∈ cs, c.f2.length ≤ 24
 sz : ∀ c ∈ cs, ∀ b ∈ c.f2, 1 ≤ b.f1 ∧ b.f1 ≤ 24
theorem BankV.flat {cs : List S41} (v : BankV cs) (hs : Small cs) : Flat cs :=
 ⟨by have := v.len; omega, fun c hc => (hs.2 c hc).1, fun c hc => ((colP_iff _ _ _).mp (v.col c hc)).len, fun c hc b hb => by have := ((colP_iff _ _ _).mp (v.col c hc)).mem hb; omega⟩
theorem bgS_inner {r' : List S50} (cs : List S41) (i : Nat) (hi : i ≤ 1048576) (gs : List S50) (hg : gs.length ≤ 24) (M : Nat) (hM : M ≤ 1048576) (res : List S50)
  (hr : Ev (fun k => spec_BankGaps.l0 k cs res ((i + 1 : Nat) : Int)) r') : ∀ (rest : List S50) (n : Nat) (acc : List S50), gs.drop n = rest → n ≤ gs.length → acc.length ≤ M + n → acc ++ rest.map (fun g => ⟨(i : Int), g.f1, g.f2⟩) = res → Ev (fun k => spec_BankGaps.l1 k cs acc (i : Int) gs (n : Int)) r'
 | [], n, acc, hd, hn, ha, he2 => by
  have he := drop_end hd hn
  refine Ev.succ ?_
  simp only [spec_BankGaps.l1]
  rw [wsucc i (by omega)]
  simp at he2
  subst he2
  exact Ev.neg (by omega) hr
 | g :: rest, n, acc, hd, hn, ha, he2 => by
  obtain ⟨h1, h2, h3⟩ := drop_step z50 hd
  have er : rd_T50 gs (n : Int) = g := h2
  refine Ev.succ ?_
  simp only [spec_BankGaps.l1, er]
  rw [wsucc n (by omega)]
  exact Ev.pos (by omega) (Ev.pos (by omega) (Ev.pos (by omega) (bgS_inner cs i hi gs hg M hM res hr rest (n + 1) _ h3 (by omega) (by simp; omega) (by rw [← he2]; simp))))
theorem bgS_loop (cs : List S41) (hf : Flat cs) (hc : ∀ c ∈ cs, colP c.f0 c.f1 c.f2 = true) : ∀ (rest : List S41) (i : Nat) (acc : List S50), cs.drop i = rest → i ≤ cs.length → acc.length ≤ 24 * i → Ev (fun k => spec_BankGaps.l0 k cs acc (i : Int)) (acc ++ bankG (i : Int) rest)
 | [], i, acc, hd, hi, ha => by
  have he := drop_end hd hi
  have hl := hf.len
  refine Ev.succ ?_
  simp only [spec_BankGaps.l0]
  exact Ev.neg (by omega) ((Ev.ret _).to (by simp [bankG]))
 | c :: rest, i, acc, hd, hi, ha => by
  obtain ⟨h1, h2, h3⟩ := drop_step z41 hd
  have er : rd_T41 cs (i : Int) = c := h2
  have hm : c ∈ cs := by rw [← h2, getD_gen _ h1]; exact List.getElem_mem _
  have hl := hf.len
  have hb := hf.box c hm
  have hg : gapsP c.f0 c.f1 c.f2 = gapsB c.f1 c.f2 := by unfold gapsP; rw [if_pos (hc c hm)]
  have hgl := gapsB_len c.f1 c.f2
  have ih := bgS_loop cs hf hc rest (i + 1) (acc ++ (gapsB c.f1 c.f2).map (fun g => ⟨(i : Int), g.f1, g.f2⟩)) h3 (by omega) (by simp; omega)
  refine Ev.succ ?_
  simp only [spec_BankGaps.l0, er]
  refine Ev.pos (by omega) (Ev.pos (by omega) (Ev.bind (gapsS_ev c.f0 c.f1 (hf.fix c hm) c.f2 (by omega)) ?_))
  rw [hg]
  refine bgS_inner cs i (by omega) _ (by omega) (24 * i) (by omega) _ (ih.to ?_) _ 0 acc rfl (by omega) (by omega) rfl
  rw [bankG, List.append_assoc]
  rfl
theorem bankGapsS_ev (cs : List S41) (hs : Small cs) : Ev (fun k => spec_BankGaps.f k cs) (bankGP cs) := by
 unfold spec_BankGaps.f bankGP
 refine Ev.bind (Ev.ret _) (Ev.bind (bankok_ev cs hs) ?_)
 by_cases hb : bankP cs = true
 ·rw [if_pos hb]
  have v := (bankP_iff cs).mp hb
  exact Ev.pos hb (bgS_loop cs (v.flat hs) v.col cs 0 [] rfl (by omega) (by simp))
 ·rw [if_neg hb]
  exact Ev.neg hb (Ev.ret _)
theorem bg_inner (cs : List S41) (hcs : cs.length ≤ 6) (i : Nat) (hi : i < cs.length) (rs : List S113) (hg : rs.length ≤ 24) (M : Nat) (hM : M ≤ 1048576) (res : List S50) {r' : List S50}
  (hr : Ev (fun k => impl_bankGaps.l0 k res cs (cs.length : Int) ((i + 1 : Nat) : Int)) r') : ∀ (rest : List S113) (n : Nat) (acc : List S50), rs.drop n = rest → n ≤ rs.length → acc.length ≤ M + n → acc ++ rest.map (fun r => ⟨(i : Int), r.f0.f1, r.f0.f2⟩) = res → Ev (fun k => impl_bankGaps.l1 k acc (i : Int) cs (cs.length : Int) (i : Int) rs (rs.length : Int) (n : Int)) r'
 | [], n, acc, hd, hn, ha, he2 => by
  have he := drop_end hd hn
  refine Ev.succ ?_
  simp only [impl_bankGaps.l1]
  rw [wsucc i (by omega)]
  simp at he2
  subst he2
  exact Ev.neg (by omega) hr
 | g :: rest, n, acc, hd, hn, ha, he2 => by
  obtain ⟨h1, h2, h3⟩ := drop_step z113 hd
  have er : rd_T113 rs (n : Int) = g := h2
  refine Ev.succ ?_
  simp only [impl_bankGaps.l1, er]
  rw [wsucc n (by omega)]
  exact Ev.pos (by omega) (Ev.pos (by omega) (Ev.pos (by omega) (Ev.pos (by omega) (bg_inner cs hcs i hi rs hg M hM res hr rest (n + 1) _ h3 (by omega) (by simp; omega) (by rw [← he2]; simp)))))
theorem bg_loop (cs : List S41) (hf : Flat cs) : ∀ (rest : List S41) (i : Nat) (acc : List S50), cs.drop i = rest → i ≤ cs.length → acc.length ≤ 24 * i → Ev (fun k => impl_bankGaps.l0 k acc cs (cs.length : Int) (i : Int)) (acc ++ bankG (i : Int) rest)
 | [], i, acc, hd, hi, ha => by
  have he := drop_end hd hi
  have hl := hf.len
  refine Ev.succ ?_
  simp only [impl_bankGaps.l0]
  exact Ev.neg (by omega) ((Ev.ret _).to (by simp [bankG]))
 | c :: rest, i, acc, hd, hi, ha => by
  obtain ⟨h1, h2, h3⟩ := drop_step z41 hd
  have er : rd_T41 cs (i : Int) = c := h2
  have hm : c ∈ cs := by rw [← h2, getD_gen _ h1]; exact List.getElem_mem _
  have hl := hf.len
  have hb := hf.box c hm
  have hgl := gapsB_len c.f1 c.f2
  have hdl : ((decs c.f1 [] [] c.f2).map toRun).length ≤ 24 := by
   have h2 := congrArg List.length (decs_gaps c.f1 c.f2 [] [])
   rw [List.length_map] at h2 ⊢
   unfold gapsB at hgl
   omega
  have ih := bg_loop cs hf rest (i + 1) (acc ++ (gapsB c.f1 c.f2).map (fun g => ⟨(i : Int), g.f1, g.f2⟩)) h3 (by omega) (by simp; omega)
  refine Ev.succ ?_
  simp only [impl_bankGaps.l0, er]
  refine Ev.pos (by omega) (Ev.pos (by omega) (Ev.pos (by omega) (Ev.bind (runs_ev c.f0 c.f1 (hf.fix c hm) c.f2 hb (hf.sz c hm)) ?_)))
  refine bg_inner cs hl i h1 _ hdl (24 * i) (by omega) _ (ih.to ?_) _ 0 acc rfl (by omega) (by omega) ?_
  ·rw [bankG, List.append_assoc]
   rfl
  ·rw [List.drop_zero, List.map_map]
   unfold gapsB
   rw [← decs_gaps c.f1 c.f2 [] [], List.map_map]
   rfl
theorem bankG_ev (cs : List S41) (hf : Flat cs) : Ev (fun k => impl_bankGaps.f k cs) (bankG 0 cs) := by
 unfold impl_bankGaps.f
 exact bg_loop cs hf cs 0 [] rfl (by omega) (by simp)
theorem bankGaps_ev (cs : List S41) (hs : Small cs) : Ev (fun k => impl_BankGaps.f k cs) (bankGP cs) := by
 unfold impl_BankGaps.f bankGP
 refine Ev.bind (Ev.const rfl) ?_
 by_cases hb : bankP cs = true
 ·rw [if_pos hb]
  have v := (bankP_iff cs).mp hb
  exact Ev.pos hb (Ev.bind (bankG_ev cs (v.flat hs)) (Ev.ret _))
 ·rw [if_neg hb]
  exact Ev.neg hb (Ev.ret _)
theorem bankG_len : ∀ (cs : List S41) (k : Int), (∀ c ∈ cs, c.f2.length ≤ 24) → (bankG k cs).length ≤ 24 * cs.length
 | [], _, _ => by simp [bankG]
 | c :: cs, k, h => by
  have := bankG_len cs (k + 1) (fun d hd => h d (by simp [hd]))
  have := gapsB_len c.f1 c.f2
  have := h c (by simp)
  rw [bankG]
  simp
  omega
theorem bankGP_len (cs : List S41) : (bankGP cs).length ≤ 144 := by
 unfold bankGP
 split
 ·next hb =>
  have v := (bankP_iff cs).mp hb
  have := bankG_len cs 0 (fun c hc => ((colP_iff _ _ _).mp (v.col c hc)).len)
  have := v.len
  omega
 ·simp
end Go.Proofs.Ytbpjidekjogfeaa.A

namespace Go.Proofs.Ytbpjidekjogfeaa.A
open Go.RowKit Go.Proofs.YtbpjidekjogfeaaW.PrintWords Go.Proofs.YtbpjidekjogfeaaW.PrintLast Go.Proofs.YtbpjidekjogfeaaW.PrintMore
set_option linter.unusedVariables false
set_option linter.unusedSimpArgs false
theorem eqGapS_ev (l : List S50) (hl : l.length ≤ 1048576) : Ev (fun k => laws_eqGapS.f k l l) true := Ev.mk l.length (fun k hk => by
 unfold laws_eqGapS.f
 rw [if_pos rfl]
 have h := all_loop (L := fun k i => laws_eqGapS.l0 k l l i) (n := l.length) (P := fun _ => true) (fun k i hi => ?_) (fun k => ?_) l.length k 0 (by omega) hk
 ·have e : (List.range' 0 l.length).all (fun _ => true) = true := by simp
  rw [e] at h
  exact h
 ·simp only [laws_eqGapS.l0]
  rw [if_pos (by omega), if_pos (by omega), if_pos (by omega)]
  simp only [laws_eqGap.f, if_true, Option.bind_some]
  rw [wsucc i (by omega)]
 ·simp only [laws_eqGapS.l0]
  rw [if_neg (by omega)])
theorem rdG_set {l : List S50} {i : Nat} (h : i < l.length) (v : S50) : rd_T50 (l.set i v) (i : Int) = v := by
 show (l.set i v).getD i _ = v
 rw [List.getD_eq_getElem?_getD, List.getElem?_set_self h]
 rfl
def mkGap (x : Int) : S50 := ⟨x, x + 1, x + 2⟩
def mkG (a : Int) (n : Nat) : List S50 := (List.range n).map (fun (j : Nat) => mkGap (a + 3 * (j : Int)))
theorem mkG_len (a : Int) (n : Nat) : (mkG a n).length = n := by unfold mkG; simp
theorem markGapS_ev (l : List S50) (hl : l.length ≤ 1048576) (a : Int) (h0 : 0 ≤ a) (h1 : a ≤ 100000000) : Ev (fun k => laws_markGapS.f k l a) (a + 3 * l.length, mkG a l.length) := Ev.mk l.length (fun k hk => by
 unfold laws_markGapS.f
 have h := mark_loop (L := fun k acc x i => laws_markGapS.l0 k acc x i) (n := l.length) (g := fun j => mkGap (a + 3 * (j : Int))) (X := fun j => a + 3 * (j : Int)) (fun k acc i hi ha => ?_) (fun k acc ha => ?_) l.length k l 0 (by omega) hk rfl (fun j hj => by omega)
 ·rw [show a + 3 * ((0 : Nat) : Int) = a by omega] at h
  exact h
 ·simp only [laws_markGapS.l0]
  generalize hx : a + 3 * (i : Int) = x
  rw [if_pos (by omega), if_pos (by omega)]
  simp only [Option.bind_some, Int.toNat_natCast]
  rw [wid (x + 1) (by omega) (by omega), wid (x + 1 + 1) (by omega) (by omega), wid (x + 1 + 1 + 1) (by omega) (by omega), wsucc i (by omega)]
  have s1 : i < acc.length := by omega
  simp only [rdG_set s1, List.set_set]
  rw [show x + 1 + 1 + 1 = a + 3 * ((i + 1 : Nat) : Int) by omega, show x + 1 + 1 = x + 2 by omega]
  rfl
 ·simp only [laws_markGapS.l0]
  rw [if_neg (by omega)])
theorem heldGapS_ev (n : Nat) (hn : n ≤ 1048576) (a : Int) (h0 : 0 ≤ a) (h1 : a ≤ 100000000) : Ev (fun k => laws_heldGapS.f k (mkG a n) a) (a + 3 * n) := Ev.mk n (fun k hk => by
 unfold laws_heldGapS.f
 have hl := mkG_len a n
 have h := held_loop (L := fun k x i => laws_heldGapS.l0 k (mkG a n) x i) (n := n) (X := fun j => a + 3 * (j : Int)) (fun k i hi => ?_) (fun k => ?_) n k 0 (by omega) hk
 ·rw [show a + 3 * ((0 : Nat) : Int) = a by omega] at h
  exact h
 ·simp only [laws_heldGapS.l0]
  have e : rd_T50 (mkG a n) (i : Int) = mkGap (a + 3 * (i : Int)) := getD_range n _ _ i hi
  generalize hx : a + 3 * (i : Int) = x at e ⊢
  rw [if_pos (by omega), if_pos (by omega), e]
  rw [wid (x + 1) (by omega) (by omega), wid (x + 1 + 1) (by omega) (by omega), wid (x + 1 + 1 + 1) (by omega) (by omega), wsucc i (by omega)]
  rw [show x + 1 + 1 + 1 = a + 3 * ((i + 1 : Nat) : Int) by omega, show x + 1 + 1 = x + 2 by omega]
  simp only [mkGap, if_true]
 ·simp only [laws_heldGapS.l0]
  rw [if_neg (by omega)])
end Go.Proofs.Ytbpjidekjogfeaa.A

namespace Go.Proofs.Ytbpjidekjogfeaa.A
open Go.RowKit Go.Proofs.YtbpjidekjogfeaaW.PrintWords Go.Proofs.YtbpjidekjogfeaaW.PrintLast Go.Proofs.YtbpjidekjogfeaaW.PrintMore
set_option linter.unusedVariables false
set_option linter.unusedSimpArgs false
def wtC : List S41 → Int
 | [] => 0
 | c :: cs => 1 + (c.f1.length : Int) + (c.f2.length : Int) + wtC cs
theorem wtC_nonneg : ∀ cs : List S41, 0 ≤ wtC cs
 | [] => by simp [wtC]
 | c :: cs => by
  have := wtC_nonneg cs
  rw [wtC]
  omega
theorem markColS_loop (cs : List S41) (hl : cs.length ≤ 1048576) (hc : ∀ c ∈ cs, c.f1.length ≤ 1048576 ∧ c.f2.length ≤ 1048576) : ∀ (rest : List S41) (i : Nat) (a : Int), cs.drop i = rest → i ≤ cs.length → 0 ≤ a → a + 5 * wtC rest ≤ 10000000 → ∃ r, 0 ≤ r ∧ r ≤ 10000000 ∧ Ev (fun k => laws_markColumnS.l0 k cs a (i : Int)) r
 | [], i, a, hd, hi, h0, h1 => by
  have he := drop_end hd hi
  refine ⟨a, h0, by rw [wtC] at h1; omega, Ev.succ ?_⟩
  simp only [laws_markColumnS.l0]
  exact Ev.neg (by omega) (Ev.ret _)
 | c :: rest, i, a, hd, hi, h0, h1 => by
  obtain ⟨q1, q2, q3⟩ := drop_step z41 hd
  have er : rd_T41 cs (i : Int) = c := q2
  have hw := wtC_nonneg rest
  have hm : c ∈ cs := by rw [← q2, getD_gen _ q1]; exact List.getElem_mem _
  rw [wtC] at h1
  obtain ⟨r, r1, r2, e⟩ := markColS_loop cs hl hc rest (i + 1) (a + 1 + (c.f1.length : Int) + 4 * (c.f2.length : Int)) q3 (by omega) (by omega) (by omega)
  refine ⟨r, r1, r2, Ev.succ ?_⟩
  simp only [laws_markColumnS.l0, er]
  rw [wid (a + 1) (by omega) (by omega), wsucc i (by omega)]
  refine Ev.pos (by omega) (Ev.pos (by omega) (Ev.bind (markIntS_ev c.f1 (hc c hm).1 (a + 1) (by omega) (by omega)) (Ev.bind (markBoxS_ev c.f2 (hc c hm).2 (a + 1 + (c.f1.length : Int)) (by omega) (by omega)) e)))
theorem markColS_ev (cs : List S41) (hs : Small cs) (hw : wtC cs ≤ 1048576) : ∃ r, 0 ≤ r ∧ r ≤ 10000000 ∧ Ev (fun k => laws_markColumnS.f k cs 1) r :=
 markColS_loop cs hs.1 hs.2 cs 0 1 rfl (by omega) (by omega) (by omega)
theorem wtC_toI : ∀ (l : List S58), wtC (l.map toI_Col) = (l.length : Int) + wt l
 | [] => by simp [wtC, wt]
 | c :: l => by
  have ih := wtC_toI l
  have e0 : wt (c :: l) = ((c.f1.length : Int) + c.f2.length) + wt l := rfl
  rw [List.map_cons, wtC, ih, e0, List.length_cons]
  have e1 : (toI_Col c).f1.length = c.f1.length := by simp [toI_Col]
  have e2 : (toI_Col c).f2.length = c.f2.length := by simp [toI_Col]
  omega
end Go.Proofs.Ytbpjidekjogfeaa.A

namespace Go.Proofs.Ytbpjidekjogfeaa.A
open Go.RowKit Go.Proofs.YtbpjidekjogfeaaW.PrintWords Go.Proofs.YtbpjidekjogfeaaW.PrintLast Go.Proofs.YtbpjidekjogfeaaW.PrintMore
set_option linter.unusedVariables false
set_option linter.unusedSimpArgs false
theorem pureFnExactBankGaps : ∀ (l0 : List (S58)), ok22 l0 → ∃ k, laws_FnExactBankGaps.f k l0 = some true := by
 rintro l hl
 refine Ev.get ?_
 unfold laws_FnExactBankGaps.f
 rcases bank_begin l hl with ⟨r, h1, h2⟩ | ⟨⟨r, h1, h2⟩, hT, hs, hw⟩
 ·exact Ev.bind h1 (Ev.pos h2 (Ev.ret _))
 ·rw [← wtC_toI] at hw
  generalize l.map toI_Col = cs at hT hs hw
  obtain ⟨m, m0, _, hM0⟩ := markColS_ev cs hs hw
  have hz := bankGP_len cs
  have hS := bankGapsS_ev cs hs
  have hI := bankGaps_ev cs hs
  generalize bankGP cs = z at hz hS hI
  have hE := eqGapS_ev z (by omega)
  have hM := markGapS_ev z (by omega) 1 (by omega) (by omega)
  have hH := heldGapS_ev z.length (by omega) 1 (by omega) (by omega)
  refine Ev.bind h1 (Ev.neg (by omega) ?_)
  refine Ev.bind hT (Ev.bind hS (Ev.bind hT (Ev.bind hI (Ev.bind hE (Ev.pos (by trivial) ?_)))))
  refine Ev.bind hT (Ev.bind (eqColumnS_ev cs hs) (Ev.pos (by trivial) ?_))
  refine Ev.bind hM0 (Ev.neg (by omega) (Ev.bind hE ?_))
  refine Ev.succ ?_
  simp only [laws_FnExactBankGaps.j0]
  refine Ev.neg (by simp) ?_
  refine Ev.bind hM (Ev.bind hH ?_)
  dsimp only
  refine Ev.neg (by omega) (Ev.pos (by trivial) ?_)
  refine Ev.bind hT (Ev.bind hI (Ev.bind hE (Ev.pos (by trivial) ?_)))
  exact Ev.bind hH (Ev.neg (by omega) (Ev.pos (by trivial) (Ev.ret _)))
end Go.Proofs.Ytbpjidekjogfeaa.A
