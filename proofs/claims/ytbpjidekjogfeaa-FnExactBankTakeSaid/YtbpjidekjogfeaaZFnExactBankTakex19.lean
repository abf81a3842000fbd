/- Used by the law FnExactBankTake. -/
import Derived.Test.YtbpjidekjogfeaaZFnExactBankTakex18
import Derived.Test.YtbpjidekjogfeaaZFnExactBankTakex12
import Derived.Test.YtbpjidekjogfeaaZFnExactBankTakex13
import Derived.Test.YtbpjidekjogfeaaZFnExactBankTakex11
import Derived.Test.YtbpjidekjogfeaaZFnExactBankTakex14
import Derived.Test.YtbpjidekjogfeaaZFnExactBankTakex16
import Derived.Test.YtbpjidekjogfeaaZFnExactBankTakex15
import Derived.Test.YtbpjidekjogfeaaZFnExactBankTakex17
namespace Go.Proofs.Ytbpjidekjogfeaa.A
open Go.RowKit Go.Proofs.YtbpjidekjogfeaaW.PrintWords Go.Proofs.YtbpjidekjogfeaaW.PrintLast Go.Proofs.YtbpjidekjogfeaaW.PrintMore
set_option linter.unusedVariables false
set_option linter.unusedSimpArgs false
def Small (cs : List S41) : Prop := cs.length ≤ 1048576 ∧ ∀ c ∈ cs, c.f1.length ≤ 1048576 ∧ c.f2.length ≤ 1048576
def crossP (c d : S41) : Bool := d.f2.all (fun b => decide (boxI c.f2 b.f2 < 0))
def bankS : List S41 → List S41 → Bool
 | _, [] => true
 | pre, c :: rest => colP c.f0 c.f1 c.f2 && (pre.all (fun p => crossP p c) && bankS (pre ++ [c]) rest)
theorem bank2_loop (cs : List S41) (hs : Small cs) (i j : Nat) (hi : i < cs.length) (hj : j < i) (r : Bool) (hr : Ev (fun k => spec_BankOk.l1 k cs (i : Int) ((j + 1 : Nat) : Int)) r) :
  ∀ (rest : List S98) (n : Nat), (cs.getD i z41).f2.drop n = rest → n ≤ (cs.getD i z41).f2.length → Ev (fun k => spec_BankOk.l2 k cs (i : Int) (j : Int) (n : Int)) (rest.all (fun b => decide (boxI (cs.getD j z41).f2 b.f2 < 0)) && r)
 | [], n, hd, hn => by
  have he := drop_end hd hn
  have er : rd_T41 cs (i : Int) = cs.getD i z41 := rfl
  have hl := hs.1
  refine Ev.succ ?_
  simp only [spec_BankOk.l2, er]
  refine Ev.pos (by omega) (Ev.pos (by omega) (Ev.neg (by omega) ?_))
  rw [wsucc j (by omega)]
  exact hr
 | b :: rest, n, hd, hn => by
  obtain ⟨h1, h2, h3⟩ := drop_step z98 hd
  have er : rd_T41 cs (i : Int) = cs.getD i z41 := rfl
  have er2 : rd_T41 cs (j : Int) = cs.getD j z41 := rfl
  have eb : rd_T98 (cs.getD i z41).f2 (n : Int) = b := h2
  have hl := hs.1
  have hmem : cs.getD i z41 ∈ cs := by rw [getD_gen _ hi]; exact List.getElem_mem _
  have hmem2 : cs.getD j z41 ∈ cs := by rw [getD_gen _ (show j < cs.length by omega)]; exact List.getElem_mem _
  have hl2 := (hs.2 _ hmem).2
  have hl3 := (hs.2 _ hmem2).2
  have ih := bank2_loop cs hs i j hi hj r hr rest (n + 1) h3 (by omega)
  refine Ev.succ ?_
  simp only [spec_BankOk.l2, er, er2, eb, List.all_cons]
  refine Ev.pos (by omega) (Ev.pos (by omega) (Ev.pos (by omega) (Ev.pos (by omega) (Ev.pos (by omega) (Ev.pos (by omega) ?_)))))
  refine Ev.bind (box_ev _ _ _ hl3 _) ?_
  rw [wsucc n (by omega)]
  by_cases c : boxI (cs.getD j z41).f2 b.f2 < 0
  ·refine Ev.neg (by omega) ?_
   rw [decide_eq_true c, Bool.true_and]
   exact ih
  ·refine Ev.pos (by omega) ?_
   rw [decide_eq_false c, Bool.false_and, Bool.false_and]
   exact Ev.ret _
theorem bank1_loop (cs : List S41) (hs : Small cs) (i : Nat) (hi : i < cs.length) (r : Bool) (hr : Ev (fun k => spec_BankOk.l0 k cs ((i + 1 : Nat) : Int)) r) :
  ∀ (d j : Nat), j + d = i → Ev (fun k => spec_BankOk.l1 k cs (i : Int) (j : Int)) (((cs.take i).drop j).all (fun p => crossP p (cs.getD i z41)) && r)
 | 0, j, hj => by
  have hl := hs.1
  refine Ev.succ ?_
  simp only [spec_BankOk.l1]
  refine Ev.neg (by omega) ?_
  rw [wsucc i (by omega), List.drop_eq_nil_of_le (by rw [List.length_take]; omega), List.all_nil, Bool.true_and]
  exact hr
 | d + 1, j, hj => by
  have hl := hs.1
  have ih := bank1_loop cs hs i hi r hr d (j + 1) (by omega)
  have h2 := bank2_loop cs hs i j hi (by omega) _ ih (cs.getD i z41).f2 0 rfl (by omega)
  refine Ev.succ ?_
  simp only [spec_BankOk.l1]
  refine Ev.pos (by omega) (h2.to ?_)
  have e : (cs.take i).drop j = cs.getD j z41 :: (cs.take i).drop (j + 1) := by
   have hj2 : j < (cs.take i).length := by rw [List.length_take]; omega
   rw [drop_cons _ z41 j hj2, List.getD_eq_getElem?_getD, List.getElem?_take_of_lt (by omega), ← List.getD_eq_getElem?_getD]
  rw [e, List.all_cons, Bool.and_assoc]
  rfl
theorem bank0_loop (cs : List S41) (hs : Small cs) : ∀ (rest : List S41) (i : Nat), cs.drop i = rest → i ≤ cs.length → Ev (fun k => spec_BankOk.l0 k cs (i : Int)) (bankS (cs.take i) rest)
 | [], i, hd, hi => by
  have he := drop_end hd hi
  refine Ev.succ ?_
  simp only [spec_BankOk.l0, bankS]
  exact Ev.neg (by omega) (Ev.ret _)
 | c :: rest, i, hd, hi => by
  obtain ⟨h1, h2, h3⟩ := drop_step z41 hd
  have er : rd_T41 cs (i : Int) = c := h2
  have hc : c ∈ cs := by rw [← h2, getD_gen _ h1]; exact List.getElem_mem _
  have hcs := hs.2 c hc
  have ih := bank0_loop cs hs rest (i + 1) h3 (by omega)
  have hi1 := bank1_loop cs hs i h1 _ ih i 0 (by omega)
  refine Ev.succ ?_
  simp only [spec_BankOk.l0, er, bankS]
  refine Ev.pos (by omega) (Ev.pos (by omega) (Ev.bind (colok_ev _ _ (by omega) _ (by omega)) ?_))
  have et : cs.take (i + 1) = cs.take i ++ [c] := by
   rw [List.take_add_one, ← h2, List.getD_eq_getElem?_getD, List.getElem?_eq_getElem h1]
   rfl
  by_cases d : colP c.f0 c.f1 c.f2 = true
  ·refine Ev.pos d (hi1.to ?_)
   rw [d, Bool.true_and, List.drop_zero, h2, et]
  ·refine Ev.neg d ((Ev.ret _).to ?_)
   have : colP c.f0 c.f1 c.f2 = false := by simpa using d
   rw [this, Bool.false_and]
def crossV (c d : S41) : Prop := ∀ a ∈ c.f2, ∀ b ∈ d.f2, 0 < b.f2 → a.f2 ≠ b.f2
theorem boxI_neg (l : List S98) (p : Int) : boxI l p < 0 ↔ (0 < p → ∀ a ∈ l, a.f2 ≠ p) := by
 unfold boxI
 by_cases h : 0 < p
 ·rw [if_pos h]
  rcases idxP_cases l p with ⟨h1, h2⟩ | ⟨l1, b, l2, h1, h2, h3, h4⟩
  ·rw [h1]
   exact ⟨fun _ _ => h2, fun _ => by omega⟩
  ·rw [h4]
   constructor
   ·intro c; omega
   ·intro c
    exact absurd h2 (c h b (by rw [h1]; simp))
 ·rw [if_neg h]
  exact ⟨fun _ c => absurd c h, fun _ => by omega⟩
theorem crossP_iff (c d : S41) : crossP c d = true ↔ crossV c d := by
 unfold crossP crossV
 rw [List.all_eq_true]
 constructor
 ·intro h a ha b hb h0
  have := of_decide_eq_true (h b hb)
  exact (boxI_neg _ _).mp this h0 a ha
 ·intro h b hb
  exact decide_eq_true ((boxI_neg _ _).mpr (fun h0 a ha => h a ha b hb h0))
theorem bankS_iff : ∀ (rest pre : List S41), bankS pre rest = true ↔ (∀ c ∈ rest, colP c.f0 c.f1 c.f2 = true) ∧ (∀ p ∈ pre, ∀ c ∈ rest, crossV p c) ∧ rest.Pairwise crossV
 | [], pre => by simp [bankS]
 | c :: rest, pre => by
  simp only [bankS, Bool.and_eq_true]
  rw [bankS_iff rest, List.all_eq_true]
  constructor
  ·rintro ⟨h1, h2, h3, h4, h5⟩
   refine ⟨fun d hd => ?_, fun p hp d hd => ?_, List.pairwise_cons.mpr ⟨fun d hd => h4 c (by simp) d hd, h5⟩⟩
   ·rcases List.mem_cons.mp hd with rfl | hd
    ·exact h1
    ·exact h3 d hd
   ·rcases List.mem_cons.mp hd with rfl | hd
    ·exact (crossP_iff _ _).mp (h2 p hp)
    ·exact h4 p (by simp [hp]) d hd
  ·rintro ⟨h1, h2, h3⟩
   obtain ⟨h4, h5⟩ := List.pairwise_cons.mp h3
   refine ⟨h1 c (by simp), fun p hp => (crossP_iff _ _).mpr (h2 p hp c (by simp)), fun d hd => h1 d (by simp [hd]), fun p hp d hd => ?_, h5⟩
   rcases List.mem_append.mp hp with hp | hp
   ·exact h2 p hp d (by simp [hd])
   ·rw [List.mem_singleton.mp hp]; exact h4 d hd
theorem parP_iff : ∀ (bs : List S98) (ps : List Int), bs.Pairwise (fun a b => 0 < b.f2 → a.f2 ≠ b.f2) →
  ((∀ b ∈ bs, 0 < b.f2 → b.f2 ∉ ps) ∧ ∃ qs, parP bs ps = some qs ∧ ∀ x, x ∈ qs ↔ x ∈ ps ∨ ∃ b ∈ bs, b.f2 = x) ∨ (¬ (∀ b ∈ bs, 0 < b.f2 → b.f2 ∉ ps) ∧ parP bs ps = none)
 | [], ps, _ => Or.inl ⟨by simp, ps, rfl, by simp⟩
 | b :: bs, ps, hp => by
  obtain ⟨h1, h2⟩ := List.pairwise_cons.mp hp
  simp only [parP]
  by_cases c : 0 < b.f2 ∧ b.f2 ∈ ps
  ·rw [if_pos c]
   exact Or.inr ⟨fun h => h b (by simp) c.1 c.2, rfl⟩
  ·rw [if_neg c]
   rcases parP_iff bs (b.f2 :: ps) h2 with ⟨h3, qs, h4, h5⟩ | ⟨h3, h4⟩
   ·refine Or.inl ⟨fun x hx h0 => ?_, qs, h4, fun x => ?_⟩
    ·rcases List.mem_cons.mp hx with rfl | hx
     ·exact fun h => c ⟨h0, h⟩
     ·exact fun h => h3 x hx h0 (by simp [h])
    ·rw [h5 x, List.mem_cons]
     constructor
     ·rintro ((h | h) | ⟨y, hy, e⟩)
      ·exact Or.inr ⟨b, by simp, h.symm⟩
      ·exact Or.inl h
      ·exact Or.inr ⟨y, by simp [hy], e⟩
     ·rintro (h | ⟨y, hy, e⟩)
      ·exact Or.inl (Or.inr h)
      ·rcases List.mem_cons.mp hy with rfl | hy
       ·exact Or.inl (Or.inl e.symm)
       ·exact Or.inr ⟨y, hy, e⟩
   ·refine Or.inr ⟨fun h => h3 (fun x hx h0 hm => ?_), h4⟩
    rcases List.mem_cons.mp hm with e | hm
    ·exact h1 x hx h0 e.symm
    ·exact h x (by simp [hx]) h0 hm
theorem bankL_iff : ∀ (cs : List S41) (ps : List Int), bankL cs ps = true ↔ (∀ c ∈ cs, colP c.f0 c.f1 c.f2 = true) ∧ (∀ c ∈ cs, ∀ b ∈ c.f2, 0 < b.f2 → b.f2 ∉ ps) ∧ cs.Pairwise crossV
 | [], ps => by simp [bankL]
 | c :: cs, ps => by
  simp only [bankL, Bool.and_eq_true]
  by_cases hc : colP c.f0 c.f1 c.f2 = true
  ·have v := (colP_iff _ _ _).mp hc
   rcases parP_iff c.f2 ps ((parcs_iff _ _).mp v.par).2.2 with ⟨h3, qs, h4, h5⟩ | ⟨h3, h4⟩
   ·rw [h4]
    dsimp only
    rw [bankL_iff cs qs]
    constructor
    ·rintro ⟨_, g1, g2, g3⟩
     refine ⟨fun d hd => ?_, fun d hd b hb h0 => ?_, List.pairwise_cons.mpr ⟨fun d hd a ha b hb h0 e => g2 d hd b hb h0 ((h5 _).mpr (Or.inr ⟨a, ha, e⟩)), g3⟩⟩
     ·rcases List.mem_cons.mp hd with rfl | hd
      ·exact hc
      ·exact g1 d hd
     ·rcases List.mem_cons.mp hd with rfl | hd
      ·exact h3 b hb h0
      ·exact fun h => g2 d hd b hb h0 ((h5 _).mpr (Or.inl h))
    ·rintro ⟨g1, g2, g3⟩
     obtain ⟨g4, g5⟩ := List.pairwise_cons.mp g3
     refine ⟨hc, fun d hd => g1 d (by simp [hd]), fun d hd b hb h0 h => ?_, g5⟩
     rcases (h5 _).mp h with h | ⟨a, ha, e⟩
     ·exact g2 d (by simp [hd]) b hb h0 h
     ·exact g4 d hd a ha b hb h0 e
   ·rw [h4]
    dsimp only
    constructor
    ·rintro ⟨_, h⟩; simp at h
    ·rintro ⟨_, g2, _⟩
     exact absurd (fun b hb h0 => g2 c (by simp) b hb h0) h3
  ·constructor
   ·rintro ⟨h, _⟩; exact absurd h hc
   ·rintro ⟨h, _⟩; exact absurd (h c (by simp)) hc
theorem bankok_ev (cs : List S41) (hs : Small cs) : Ev (fun k => spec_BankOk.f k cs) (bankP cs) := by
 unfold spec_BankOk.f
 refine Ev.bind (Ev.const (in_eq _ _ _)) ?_
 by_cases c : 1 ≤ (cs.length : Int) ∧ (cs.length : Int) ≤ 6
 ·refine Ev.pos (decide_eq_true c) ?_
  refine (bank0_loop cs hs cs 0 rfl (by omega)).to ?_
  have e : bankS [] cs = bankL cs [] := by
   rw [Bool.eq_iff_iff, bankS_iff, bankL_iff]
   constructor
   ·rintro ⟨h1, _, h3⟩; exact ⟨h1, fun _ _ _ _ _ => by simp, h3⟩
   ·rintro ⟨h1, _, h3⟩; exact ⟨h1, fun p hp => absurd hp (by simp), h3⟩
  unfold bankP
  rw [decide_eq_true c, Bool.true_and, ← e]
  rfl
 ·refine Ev.neg (by simpa using c) ((Ev.ret _).to ?_)
  unfold bankP
  rw [decide_eq_false c, Bool.false_and]
def toI_Col (c : S58) : S41 := ⟨c.f0, c.f1, c.f2.map toI_Box⟩
def wt (l : List S58) : Int := (l.map (fun c => ((c.f1.length : Int) + c.f2.length))).foldr (· + ·) 0
theorem wt_nonneg : ∀ (l : List S58), 0 ≤ wt l
 | [] => Int.le_refl _
 | c :: l => by
  have := wt_nonneg l
  show 0 ≤ ((c.f1.length : Int) + c.f2.length) + wt l
  omega
theorem wt_mem : ∀ (l : List S58) (c : S58), c ∈ l → (c.f1.length : Int) + c.f2.length ≤ wt l
 | [], c, h => absurd h (by simp)
 | d :: l, c, h => by
  have hn := wt_nonneg l
  show _ ≤ ((d.f1.length : Int) + d.f2.length) + wt l
  rcases List.mem_cons.mp h with rfl | h
  ·omega
  ·have := wt_mem l c h; omega
theorem szS_loop (l : List S58) (hl : l.length ≤ 1048576) (hm : ∀ c ∈ l, c.f1.length ≤ 9223372036854775807 ∧ c.f2.length ≤ 9223372036854775807) : ∀ (rest : List S58) (i : Nat) (a : Int), l.drop i = rest → i ≤ l.length → 0 ≤ a → a ≤ 1048576 → Ev (fun k => laws_szColumnS.l0 k l a (i : Int)) (if a < wt rest then -1 else a - wt rest)
 | [], i, a, hd, hi, h0, h1 => by
  have he := drop_end hd hi
  refine Ev.succ ?_
  simp only [laws_szColumnS.l0]
  refine Ev.neg (by omega) ((Ev.ret _).to ?_)
  have : wt [] = 0 := rfl
  rw [this, if_neg (by omega)]
  omega
 | c :: rest, i, a, hd, hi, h0, h1 => by
  obtain ⟨h2, h3, h4⟩ := drop_step z58 hd
  have er : rd_T58 l (i : Int) = c := h3
  have hc : c ∈ l := by rw [← h3, getD_gen _ h2]; exact List.getElem_mem _
  have hn := wt_nonneg rest
  have ew : wt (c :: rest) = ((c.f1.length : Int) + c.f2.length) + wt rest := rfl
  refine Ev.succ ?_
  simp only [laws_szColumnS.l0, er]
  refine Ev.pos (by omega) (Ev.pos (by omega) (Ev.bind (Ev.const (szColumn_eq _ _ _ a h0 h1 (hm c hc).1 (hm c hc).2)) ?_))
  by_cases d : a < (c.f1.length : Int) + c.f2.length
  ·rw [if_pos d, if_pos (by omega)]
   exact Ev.pos (by omega) (Ev.ret _)
  ·rw [if_neg d, wsucc i (by omega)]
   refine Ev.neg (by omega) ((szS_loop l hl hm rest (i + 1) _ h4 (by omega) (by omega) (by omega)).to ?_)
   by_cases e : a < wt (c :: rest)
   ·rw [if_pos e, if_pos (by omega)]
   ·rw [if_neg e, if_neg (by omega)]
    omega
theorem szS_ev (l : List S58) (hl : l.length ≤ 9223372036854775807) (hm : ∀ c ∈ l, c.f1.length ≤ 9223372036854775807 ∧ c.f2.length ≤ 9223372036854775807) : ∃ r : Int, Ev (fun k => laws_szColumnS.f k l 1048576) r ∧ (r < 0 ∨ (0 ≤ r ∧ (l.length : Int) + wt l ≤ 1048576)) := by
 have hn := wt_nonneg l
 unfold laws_szColumnS.f
 rw [wid (1048576 - (l.length : Int)) (by omega) (by omega)]
 by_cases c : 1048576 - (l.length : Int) < 0
 ·exact ⟨-1, Ev.pos c (Ev.ret _), Or.inl (by omega)⟩
 ·refine ⟨_, Ev.neg c (szS_loop l (by omega) hm l 0 _ rfl (by omega) (by omega) (by omega)), ?_⟩
  by_cases d : 1048576 - (l.length : Int) < wt l
  ·rw [if_pos d]; exact Or.inl (by omega)
  ·rw [if_neg d]; exact Or.inr ⟨by omega, by omega⟩
theorem map_ev {α β : Type} {L : Nat → List β → Int → Option (List β)} {xs : List α} {g : α → β} (d0 : α)
  (h : ∀ acc (i : Nat) r, i < xs.length → acc.length = xs.length → Ev (fun k => L k (acc.set i (g (xs.getD i d0))) ((i + 1 : Nat) : Int)) r → Ev (fun k => L k acc (i : Int)) r)
  (he : ∀ acc, Ev (fun k => L k acc (xs.length : Int)) acc) : ∀ (d : Nat) acc i, i + d = xs.length → acc.length = xs.length → (∀ j, j < i → acc[j]? = (xs.map g)[j]?) → Ev (fun k => L k acc (i : Int)) (xs.map g)
 | 0, acc, i, hi, hl, hp => by
  obtain rfl : i = xs.length := by omega
  refine (he acc).to ?_
  apply List.ext_getElem?
  intro j
  by_cases hj : j < xs.length
  ·exact hp j hj
  ·rw [List.getElem?_eq_none (by omega), List.getElem?_eq_none (by simp; omega)]
 | d + 1, acc, i, hi, hl, hp => by
  refine h acc i _ (by omega) hl (map_ev d0 h he d _ (i + 1) (by omega) (by simp [hl]) (fun j hj => ?_))
  by_cases e : i = j
  ·subst e
   rw [List.getElem?_set_self (by omega), List.getElem?_map, List.getElem?_eq_getElem (show i < xs.length by omega), List.getD_eq_getElem?_getD, List.getElem?_eq_getElem (show i < xs.length by omega)]
   rfl
  ·rw [List.getElem?_set_ne e]
   exact hp j (by omega)
theorem toColumnS_ev (l : List S58) (hl : l.length ≤ 1048576) (hm : ∀ c ∈ l, c.f1.length ≤ 1048576 ∧ c.f2.length ≤ 1048576) : Ev (fun k => laws_toColumnS.f k l) (l.map toI_Col) := by
 unfold laws_toColumnS.f
 refine Ev.pos (by omega) (Ev.pos (by omega) ?_)
 refine map_ev (L := fun k acc i => laws_toColumnS.l0 k l acc i) z58 (fun acc i r hi ha ih => ?_) (fun acc => ?_) l.length _ 0 (by omega) (by simp) (fun j hj => by omega)
 ·refine Ev.succ ?_
  simp only [laws_toColumnS.l0]
  have er : rd_T58 l (i : Int) = l.getD i z58 := rfl
  have hc : l.getD i z58 ∈ l := by rw [getD_gen _ hi]; exact List.getElem_mem _
  rw [er, wsucc i (by omega)]
  refine Ev.pos (by omega) (Ev.pos (by omega) (Ev.bind (toColumn_ev _ _ _ (hm _ hc).1 (hm _ hc).2) (Ev.pos (by omega) ?_)))
  exact ih
 ·refine Ev.succ ?_
  simp only [laws_toColumnS.l0]
  exact Ev.neg (by omega) (Ev.ret _)
theorem eqColumnS_ev (l : List S41) (hs : Small l) : Ev (fun k => laws_eqColumnS.f k l l) true := by
 have hl := hs.1
 have go : ∀ (rest : List S41) (i : Nat), l.drop i = rest → i ≤ l.length → Ev (fun k => laws_eqColumnS.l0 k l l (i : Int)) true := by
  intro rest
  induction rest with
  | nil =>
   intro i hd hi
   have he := drop_end hd hi
   refine Ev.succ ?_
   simp only [laws_eqColumnS.l0]
   exact Ev.neg (by omega) (Ev.ret _)
  | cons c rest ih =>
   intro i hd hi
   obtain ⟨h1, h2, h3⟩ := drop_step z41 hd
   have er : rd_T41 l (i : Int) = c := h2
   have hc : c ∈ l := by rw [← h2, getD_gen _ h1]; exact List.getElem_mem _
   refine Ev.succ ?_
   simp only [laws_eqColumnS.l0, er]
   rw [wsucc i (by omega)]
   exact Ev.pos (by omega) (Ev.pos (by omega) (Ev.pos (by omega) (Ev.bind (eqColumn_ev _ _ _ (hs.2 c hc).1 (hs.2 c hc).2) (Ev.pos (by trivial) (ih (i + 1) h3 (by omega))))))
 unfold laws_eqColumnS.f
 exact Ev.pos rfl (go l 0 rfl (by omega))
theorem bank_begin (l : List S58) (hl : ok22 l) : (∃ r : Int, Ev (fun k => laws_szColumnS.f k l 1048576) r ∧ r < 0) ∨ (∃ r : Int, Ev (fun k => laws_szColumnS.f k l 1048576) r ∧ 0 ≤ r) ∧ Ev (fun k => laws_toColumnS.f k l) (l.map toI_Col) ∧ Small (l.map toI_Col) ∧ (l.length : Int) + wt l ≤ 1048576 := by
 obtain ⟨h1, h2⟩ := hl
 unfold maxLen at h1
 obtain ⟨r, hr, h3⟩ := szS_ev l (by omega) (fun c hc => by
  obtain ⟨_, ⟨h4, _⟩, ⟨h5, _⟩⟩ := h2 c hc
  unfold maxLen at h4 h5
  exact ⟨by omega, by omega⟩)
 rcases h3 with h3 | ⟨h3, h4⟩
 ·exact Or.inl ⟨r, hr, h3⟩
 ·have hn := wt_nonneg l
  have hm : ∀ c ∈ l, c.f1.length ≤ 1048576 ∧ c.f2.length ≤ 1048576 := fun c hc => by
   have := wt_mem l c hc
   omega
  refine Or.inr ⟨⟨r, hr, h3⟩, toColumnS_ev l (by omega) hm, ⟨by rw [List.length_map]; omega, fun c hc => ?_⟩, h4⟩
  obtain ⟨d, hd, rfl⟩ := List.mem_map.mp hc
  have := hm d hd
  exact ⟨this.1, by show (d.f2.map toI_Box).length ≤ _; rw [List.length_map]; exact this.2⟩
end Go.Proofs.Ytbpjidekjogfeaa.A

namespace Go.Proofs.Ytbpjidekjogfeaa.A
open Go.RowKit Go.Proofs.YtbpjidekjogfeaaW.PrintWords Go.Proofs.YtbpjidekjogfeaaW.PrintLast Go.Proofs.YtbpjidekjogfeaaW.PrintMore
set_option linter.unusedVariables false
set_option linter.unusedSimpArgs false
def wtC : List S41 → Int
 | [] => 0
 | c :: cs => 1 + (c.f1.length : Int) + (c.f2.length : Int) + wtC cs
theorem wtC_nonneg : ∀ cs : List S41, 0 ≤ wtC cs
 | [] => by simp [wtC]
 | c :: cs => by
  have := wtC_nonneg cs
  rw [wtC]
  omega
theorem markColS_loop (cs : List S41) (hl : cs.length ≤ 1048576) (hc : ∀ c ∈ cs, c.f1.length ≤ 1048576 ∧ c.f2.length ≤ 1048576) : ∀ (rest : List S41) (i : Nat) (a : Int), cs.drop i = rest → i ≤ cs.length → 0 ≤ a → a + 5 * wtC rest ≤ 10000000 → ∃ r, 0 ≤ r ∧ r ≤ 10000000 ∧ Ev (fun k => laws_markColumnS.l0 k cs a (i : Int)) r
 | [], i, a, hd, hi, h0, h1 => by
  have he := drop_end hd hi
  refine ⟨a, h0, by rw [wtC] at h1; omega, Ev.succ ?_⟩
  simp only [laws_markColumnS.l0]
  exact Ev.neg (by omega) (Ev.ret _)
 | c :: rest, i, a, hd, hi, h0, h1 => by
  obtain ⟨q1, q2, q3⟩ := drop_step z41 hd
  have er : rd_T41 cs (i : Int) = c := q2
  have hw := wtC_nonneg rest
  have hm : c ∈ cs := by rw [← q2, getD_gen _ q1]; exact List.getElem_mem _
  rw [wtC] at h1
  obtain ⟨r, r1, r2, e⟩ := markColS_loop cs hl hc rest (i + 1) (a + 1 + (c.f1.length : Int) + 4 * (c.f2.length : Int)) q3 (by omega) (by omega) (by omega)
  refine ⟨r, r1, r2, Ev.succ ?_⟩
  simp only [laws_markColumnS.l0, er]
  rw [wid (a + 1) (by omega) (by omega), wsucc i (by omega)]
  refine Ev.pos (by omega) (Ev.pos (by omega) (Ev.bind (markIntS_ev c.f1 (hc c hm).1 (a + 1) (by omega) (by omega)) (Ev.bind (markBoxS_ev c.f2 (hc c hm).2 (a + 1 + (c.f1.length : Int)) (by omega) (by omega)) e)))
theorem markColS_ev (cs : List S41) (hs : Small cs) (hw : wtC cs ≤ 1048576) : ∃ r, 0 ≤ r ∧ r ≤ 10000000 ∧ Ev (fun k => laws_markColumnS.f k cs 1) r :=
 markColS_loop cs hs.1 hs.2 cs 0 1 rfl (by omega) (by omega) (by omega)
theorem wtC_toI : ∀ (l : List S58), wtC (l.map toI_Col) = (l.length : Int) + wt l
 | [] => by simp [wtC, wt]
 | c :: l => by
  have ih := wtC_toI l
  have e0 : wt (c :: l) = ((c.f1.length : Int) + c.f2.length) + wt l := rfl
  rw [List.map_cons, wtC, ih, e0, List.length_cons]
  have e1 : (toI_Col c).f1.length = c.f1.length := by simp [toI_Col]
  have e2 : (toI_Col c).f2.length = c.f2.length := by simp [toI_Col]
  omega
end Go.Proofs.Ytbpjidekjogfeaa.A

namespace Go.Proofs.Ytbpjidekjogfeaa.A
open Go.RowKit Go.Proofs.YtbpjidekjogfeaaW.PrintWords Go.Proofs.YtbpjidekjogfeaaW.PrintLast Go.Proofs.YtbpjidekjogfeaaW.PrintMore
set_option linter.unusedVariables false
set_option linter.unusedSimpArgs false
theorem gapsW_pos (fx : List Int) : ∀ (bs cur : List S98) (M : Int), (∀ b ∈ bs, 1 ≤ b.f1) → (cur ≠ [] → 1 ≤ sumB cur) → sumB cur + sumB bs ≤ M → ∀ g ∈ gapsW fx cur bs, 1 ≤ g.f2 ∧ g.f2 ≤ M
 | [], cur, M, _, hc, hM, g, hg => by
  simp only [gapsW, emR] at hg
  split at hg
  ·simp at hg
  ·next h =>
   rw [List.mem_singleton.mp hg]
   have hg0 : (gapR cur).f2 = sumB cur := by cases cur with | nil => exact absurd rfl h | cons x cur => rfl
   have := hc h
   rw [sumB_nil] at hM
   omega
 | b :: bs, cur, M, hb, hc, hM, g, hg => by
  have hb1 := hb b (by simp)
  have hbs : ∀ x ∈ bs, 1 ≤ x.f1 := fun x hx => hb x (by simp [hx])
  have sb : sumB [b] = b.f1 := by rw [sumB_cons, sumB_nil]; omega
  have sn : ∀ l : List S98, (∀ x ∈ l, 1 ≤ x.f1) → 0 ≤ sumB l := by
   intro l
   induction l with
   | nil => intro _; exact Int.le_refl _
   | cons x l ih => intro h; rw [sumB_cons]; have := h x (by simp); have := ih (fun y hy => h y (by simp [hy])); omega
  have s0 := sn bs hbs
  have sc : 0 ≤ sumB cur := by
   by_cases h : cur = []
   ·subst h; exact Int.le_refl _
   ·have := hc h; omega
  rw [sumB_cons] at hM
  have em : ∀ g ∈ emR cur, 1 ≤ g.f2 ∧ g.f2 ≤ M := by
   intro g hg
   unfold emR at hg
   split at hg
   ·simp at hg
   ·next h =>
    rw [List.mem_singleton.mp hg]
    have hg0 : (gapR cur).f2 = sumB cur := by cases cur with | nil => exact absurd rfl h | cons x cur => rfl
    have := hc h
    omega
  simp only [gapsW] at hg
  split at hg
  ·split at hg
   ·exact gapsW_pos fx bs (cur ++ [b]) M hbs (fun _ => by rw [sumB_app, sb]; omega) (by rw [sumB_app, sb]; omega) g hg
   ·rcases List.mem_append.mp hg with hg | hg
    ·exact em g hg
    ·exact gapsW_pos fx bs [b] M hbs (fun _ => by rw [sb]; omega) (by rw [sb]; omega) g hg
  ·rcases List.mem_append.mp hg with hg | hg
   ·exact em g hg
   ·exact gapsW_pos fx bs [] M hbs (fun h => absurd rfl h) (by rw [sumB_nil]; omega) g hg
theorem gapsB_pos (fx : List Int) (bx : List S98) (lo hi : Int) (ht : tile lo bx hi) : ∀ g ∈ gapsB fx bx, 1 ≤ g.f2 ∧ g.f2 ≤ hi - lo := by
 have := tile_sum _ _ _ ht
 exact gapsW_pos fx bx [] (hi - lo) (fun b hb => (tile_mem _ _ _ ht b hb).2.1) (fun h => absurd rfl h) (by rw [sumB_nil]; omega)
end Go.Proofs.Ytbpjidekjogfeaa.A

namespace Go.Proofs.Ytbpjidekjogfeaa.A
open Go.RowKit Go.Proofs.YtbpjidekjogfeaaW.PrintWords Go.Proofs.YtbpjidekjogfeaaW.PrintLast Go.Proofs.YtbpjidekjogfeaaW.PrintMore
set_option linter.unusedVariables false
set_option linter.unusedSimpArgs false
def fillD (lo : Int) (N : List S98) : List S98 → List (List S98 × List S98 × List S98) → List S98
 | acc, [] => acc
 | acc, d :: ds => fillD lo N (if loR d.2.1 = lo then d.1 ++ N ++ d.2.2 else acc) ds
theorem gapR_is {R : List S98} (h : R ≠ []) : gapR R = ⟨0, loR R, sumB R⟩ := by
 cases R with
 | nil => exact absurd rfl h
 | cons x R => rfl
theorem fillD_none (lo : Int) (N : List S98) : ∀ (D : List (List S98 × List S98 × List S98)) (acc : List S98), (∀ d ∈ D, loR d.2.1 ≠ lo) → fillD lo N acc D = acc
 | [], _, _ => rfl
 | d :: D, acc, h => by
  rw [fillD, if_neg (h d (by simp))]
  exact fillD_none lo N D acc (fun x hx => h x (by simp [hx]))
theorem fillD_one (lo : Int) (N : List S98) : ∀ (D : List (List S98 × List S98 × List S98)) (acc : List S98) (d : List S98 × List S98 × List S98), d ∈ D → D.Pairwise (fun a b => loR a.2.1 < loR b.2.1) → loR d.2.1 = lo → fillD lo N acc D = d.1 ++ N ++ d.2.2
 | [], _, d, hd, _, _ => absurd hd (by simp)
 | x :: D, acc, d, hd, hp, hl => by
  obtain ⟨h1, h2⟩ := List.pairwise_cons.mp hp
  rw [fillD]
  rcases List.mem_cons.mp hd with rfl | hd
  ·rw [if_pos hl]
   exact fillD_none lo N D _ (fun y hy => by have := h1 y hy; omega)
  ·exact fillD_one lo N D _ d hd h2 hl
theorem decs_asc (fx : List Int) (bx : List S98) (lo hi : Int) (ht : tile lo bx hi) : (decs fx [] [] bx).Pairwise (fun a b => loR a.2.1 < loR b.2.1) := by
 have h1 := (gapsW_asc fx bx [] lo hi ht (fun c => absurd rfl c)).1
 rw [← decs_gaps fx bx [] [], List.pairwise_map] at h1
 refine List.Pairwise.imp_of_mem (fun ha hb h => ?_) h1
 rw [gapR_is (decs_top fx bx _ ha).ne, gapR_is (decs_top fx bx _ hb).ne] at h
 exact h
theorem gap_run (fx : List Int) (bx : List S98) (lo hi : Int) (ht : tile lo bx hi) (g : S50) (hg : g ∈ gapsB fx bx) : ∃ A R B, RunAt fx bx A R B ∧ g = ⟨0, loR R, sumB R⟩ ∧ (∀ N, fillB g.f1 g.f2 N bx = A ++ N ++ B) ∧ ∀ N, fillD g.f1 N bx (decs fx [] [] bx) = A ++ N ++ B := by
 unfold gapsB at hg
 rw [← decs_gaps fx bx [] []] at hg
 obtain ⟨d, hd, rfl⟩ := List.mem_map.mp hg
 have hr := decs_top fx bx d hd
 have e := gapR_is hr.ne
 refine ⟨d.1, d.2.1, d.2.2, hr, e, fun N => ?_, fun N => ?_⟩
 ·rw [e]
  have h2 := hr.all
  have h3 : tile lo (d.1 ++ d.2.1 ++ d.2.2) hi := by rw [h2]; exact ht
  have := fillB_run h3 hr.ne N
  rw [h2] at this
  exact this
 ·rw [e]
  exact fillD_one _ N _ bx d hd (decs_asc fx bx lo hi ht) rfl
theorem tile_swap {A R B N : List S98} {lo hi : Int} (h : tile lo (A ++ R ++ B) hi) (hR : R ≠ []) (hN : tile (loR R) N (loR R + sumB R)) : tile lo (A ++ N ++ B) hi := by
 rw [tile_app, tile_app] at h ⊢
 obtain ⟨⟨h1, h2⟩, h3⟩ := h
 have e : loR R = lo + sumB A := by
  cases R with
  | nil => exact absurd rfl hR
  | cons x R => exact h2.1
 have s := (tile_sum _ _ _ hN).1
 rw [sumB_app] at h3 ⊢
 have e2 : sumB N = sumB R := by omega
 rw [e2]
 refine ⟨⟨h1, ?_⟩, h3⟩
 rw [e] at hN
 rw [← Int.add_assoc]
 exact hN
def newB (lo sz parcel size : Int) : List S98 := ⟨lo, size, parcel, false⟩ :: (if size < sz then [⟨lo + size, sz - size, 0, false⟩] else [])
def clear1 (bx : List S98) (g : S50) : List S98 := fillB g.f1 g.f2 (newB g.f1 g.f2 0 g.f2) bx
theorem newB_full (lo sz p : Int) : newB lo sz p sz = [⟨lo, sz, p, false⟩] := by unfold newB; rw [if_neg (by omega)]
structure Clr (h : Int) (fx : List Int) (G : List S50) (bx : List S98) : Prop where
 hi : h ≤ 24
 til : tile 0 bx h
 gaps : gapsB fx bx = G
theorem Clr.len {h : Int} {fx : List Int} {G : List S50} {bx : List S98} (c : Clr h fx G bx) : bx.length ≤ 24 ∧ (∀ b ∈ bx, 1 ≤ b.f1 ∧ b.f1 ≤ 24) := by
 have := tile_sum _ _ _ c.til
 have := c.hi
 refine ⟨by omega, fun b hb => ?_⟩
 have := tile_mem _ _ _ c.til b hb
 omega
theorem Clr.step {h : Int} {fx : List Int} {G : List S50} {bx : List S98} (c : Clr h fx G bx) (g : S50) (hg : g ∈ G) :
  Clr h fx G (clear1 bx g) ∧ (0 ≤ g.f1 ∧ 1 ≤ g.f2 ∧ g.f1 + g.f2 ≤ 24) ∧ fillD g.f1 [⟨g.f1, g.f2, 0, false⟩] bx (decs fx [] [] bx) = clear1 bx g := by
 have hg' : g ∈ gapsB fx bx := by rw [c.gaps]; exact hg
 obtain ⟨A, R, B, hr, e, h1, h2⟩ := gap_run fx bx 0 h c.til g hg'
 have hp := gapsB_pos fx bx 0 h c.til g hg'
 have ec : clear1 bx g = A ++ [⟨g.f1, g.f2, 0, false⟩] ++ B := by
  unfold clear1
  rw [newB_full, h1]
 have e1 : g.f1 = loR R := by rw [e]
 have e2 : g.f2 = sumB R := by rw [e]
 have ht := c.til
 rw [← hr.all] at ht
 have hN : tile (loR R) [⟨g.f1, g.f2, 0, false⟩] (loR R + sumB R) := ⟨e1, hp.1, by show loR R + g.f2 = _; rw [e2]⟩
 refine ⟨⟨c.hi, ?_, ?_⟩, ?_, ?_⟩
 ·rw [ec]
  exact tile_swap ht hr.ne hN
 ·rw [ec, run_put hr [(S98.mk g.f1 g.f2 0 false)] (by simp) (Or.inl e1)]
  have eg : gapsB fx [(S98.mk g.f1 g.f2 0 false)] = [gapR R] := by
   have eo : opB (S98.mk g.f1 g.f2 0 false) = true := rfl
   unfold gapsB
   simp only [gapsW]
   rw [if_pos eo, if_neg (fun c => c.1 rfl)]
   have em1 : emR [] = [] := rfl
   have em2 : emR [(S98.mk g.f1 g.f2 0 false)] = [gapR [(S98.mk g.f1 g.f2 0 false)]] := by unfold emR; rw [if_neg (by simp)]
   have es : sumB [(S98.mk g.f1 g.f2 0 false)] = g.f2 := by rw [sumB_cons, sumB_nil]; exact Int.add_zero _
   rw [em1, em2, List.nil_append, gapR_is (by simp), gapR_is hr.ne, es, ← e2, ← e1]
   rfl
  rw [eg, ← run_gaps hr]
  exact c.gaps
 ·have hm := tile_mem _ _ _ ht
  rw [tile_app, tile_app] at ht
  obtain ⟨⟨ha, hb⟩, hc⟩ := ht
  have s1 := tile_sum _ _ _ ha
  have s3 := tile_sum _ _ _ hc
  rw [sumB_app] at s3
  have hR := hr.ne
  have er : loR R = 0 + sumB A := by
   cases R with
   | nil => exact absurd rfl hR
   | cons x R => exact hb.1
  have := c.hi
  have hBn : (0 : Int) ≤ (B.length : Int) := by omega
  omega
 ·rw [h2, ec]
end Go.Proofs.Ytbpjidekjogfeaa.A

namespace Go.Proofs.Ytbpjidekjogfeaa.A
open Go.RowKit Go.Proofs.YtbpjidekjogfeaaW.PrintWords Go.Proofs.YtbpjidekjogfeaaW.PrintLast Go.Proofs.YtbpjidekjogfeaaW.PrintMore
set_option linter.unusedVariables false
set_option linter.unusedSimpArgs false
theorem idxC_add : ∀ (l : List S41) (p i : Int), 0 ≤ i → (idxC l p i = -1 ∧ ∀ c ∈ l, idxP c.f2 p 0 < 0) ∨ ∃ l1 c l2, l = l1 ++ c :: l2 ∧ 0 ≤ idxP c.f2 p 0 ∧ (∀ x ∈ l1, idxP x.f2 p 0 < 0) ∧ idxC l p i = i + l1.length
 | [], p, i, _ => Or.inl ⟨rfl, by simp⟩
 | b :: l, p, i, hi => by
  simp only [idxC]
  by_cases c : 0 ≤ idxP b.f2 p 0
  ·rw [if_pos c]
   exact Or.inr ⟨[], b, l, rfl, c, by simp, by simp⟩
  ·rw [if_neg c]
   rcases idxC_add l p (i + 1) (by omega) with ⟨h1, h2⟩ | ⟨l1, x, l2, h1, h2, h3, h4⟩
   ·exact Or.inl ⟨h1, fun y hy => by
     rcases List.mem_cons.mp hy with rfl | hy
     ·omega
     ·exact h2 y hy⟩
   ·refine Or.inr ⟨b :: l1, x, l2, by rw [h1]; rfl, h2, fun y hy => ?_, by rw [h4, List.length_cons]; omega⟩
    rcases List.mem_cons.mp hy with rfl | hy
    ·omega
    ·exact h3 y hy
def findP (cs : List S41) (p : Int) : Int → Int × Int
 | i => match cs with
  | [] => (-1, -1)
  | c :: cs => if 0 ≤ boxI c.f2 p then (i, (rd_T98 c.f2 (boxI c.f2 p)).f0) else findP cs p (i + 1)
def boxOfP (cs : List S41) (p : Int) : Int × Int := if bankP cs = true then findP cs p 0 else (-1, -1)
theorem boxI_lt (l : List S98) (p : Int) : boxI l p < l.length := by
 unfold boxI
 split
 ·rcases idxP_cases l p with ⟨h, _⟩ | ⟨l1, b, l2, h1, _, _, h4⟩
  ·rw [h]; omega
  ·rw [h4, h1]; simp; omega
 ·omega
theorem boxOfS_loop (cs : List S41) (hs : Small cs) (p : Int) (hb : bankP cs = true) : ∀ (rest : List S41) (i : Nat), cs.drop i = rest → i ≤ cs.length → Ev (fun k => spec_BoxOf.l0 k cs p (i : Int)) (findP rest p (i : Int))
 | [], i, hd, hi => by
  have he := drop_end hd hi
  have hl := hs.1
  refine Ev.succ ?_
  simp only [spec_BoxOf.l0]
  refine Ev.neg (by omega) (Ev.succ ?_)
  simp only [spec_BoxOf.j1]
  exact Ev.neg (by simp) ((Ev.ret _).to (by simp [findP]))
 | c :: rest, i, hd, hi => by
  obtain ⟨h1, h2, h3⟩ := drop_step z41 hd
  have er : rd_T41 cs (i : Int) = c := h2
  have hc : c ∈ cs := by rw [← h2, getD_gen _ h1]; exact List.getElem_mem _
  have hl := hs.1
  have hlt := boxI_lt c.f2 p
  have ih := boxOfS_loop cs hs p hb rest (i + 1) h3 (by omega)
  refine Ev.succ ?_
  simp only [spec_BoxOf.l0]
  refine Ev.pos (by omega) (Ev.bind (bankok_ev cs hs) (Ev.succ ?_))
  simp only [spec_BoxOf.j1, er]
  refine Ev.pos hb (Ev.pos (by omega) (Ev.pos (by omega) (Ev.bind (box_ev _ _ _ (hs.2 c hc).2 p) ?_)))
  rw [wsucc i (by omega)]
  by_cases d : boxI c.f2 p ≥ 0
  ·refine Ev.pos d (Ev.pos d (Ev.pos hlt ((Ev.ret _).to ?_)))
   simp only [findP]
   rw [if_pos d]
  ·refine Ev.neg d (ih.to ?_)
   rw [findP]
   rw [if_neg (by omega)]
   rfl
theorem boxOfS_ev (cs : List S41) (hs : Small cs) (p : Int) : Ev (fun k => spec_BoxOf.f k cs p) (boxOfP cs p) := by
 unfold spec_BoxOf.f boxOfP
 by_cases hb : bankP cs = true
 ·rw [if_pos hb]
  exact boxOfS_loop cs hs p hb cs 0 rfl (by omega)
 ·rw [if_neg hb]
  have hb2 : bankP cs = false := by simpa using hb
  have fin : Ev (fun k => spec_BoxOf.j1 k cs p 0 false) (-1, -1) := by
   refine Ev.succ ?_
   simp only [spec_BoxOf.j1]
   exact Ev.neg (by simp) (Ev.ret _)
  refine Ev.succ ?_
  simp only [spec_BoxOf.l0]
  by_cases c : (0 : Int) < cs.length
  ·refine Ev.pos c (Ev.bind (bankok_ev cs hs) ?_)
   rw [hb2]
   exact fin
  ·exact Ev.neg c fin
theorem findP_none : ∀ (cs : List S41) (p i : Int), (∀ c ∈ cs, boxI c.f2 p < 0) → findP cs p i = (-1, -1)
 | [], p, i, _ => rfl
 | c :: cs, p, i, h => by
  have := h c (by simp)
  rw [findP]
  rw [if_neg (by omega)]
  exact findP_none cs p (i + 1) (fun d hd => h d (by simp [hd]))
theorem findP_at : ∀ (l1 : List S41) (c : S41) (l2 : List S41) (p i : Int), (∀ x ∈ l1, boxI x.f2 p < 0) → 0 ≤ boxI c.f2 p → findP (l1 ++ c :: l2) p i = (i + l1.length, (rd_T98 c.f2 (boxI c.f2 p)).f0)
 | [], c, l2, p, i, _, h => by
  rw [List.nil_append, findP]
  rw [if_pos h]
  simp
 | x :: l1, c, l2, p, i, hx, h => by
  have := hx x (by simp)
  rw [List.cons_append, findP]
  rw [if_neg (by omega), findP_at l1 c l2 p (i + 1) (fun y hy => hx y (by simp [hy])) h, List.length_cons]
  congr 1
  omega
end Go.Proofs.Ytbpjidekjogfeaa.A

namespace Go.Proofs.Ytbpjidekjogfeaa.A
open Go.RowKit Go.Proofs.YtbpjidekjogfeaaW.PrintWords Go.Proofs.YtbpjidekjogfeaaW.PrintLast Go.Proofs.YtbpjidekjogfeaaW.PrintMore
set_option linter.unusedVariables false
set_option linter.unusedSimpArgs false
theorem parcs_top (l : List S98) : parcs [] l ↔ (∀ b ∈ l, 0 ≤ b.f2 ∧ b.f2 ≤ 999) ∧ l.Pairwise (fun a b => 0 < b.f2 → a.f2 ≠ b.f2) := by
 rw [parcs_iff]
 constructor
 ·rintro ⟨h1, _, h3⟩; exact ⟨h1, h3⟩
 ·rintro ⟨h1, h3⟩; exact ⟨h1, fun _ _ _ => by simp, h3⟩
theorem parcs_mid {A N B : List S98} (hN : ∀ b ∈ N, b.f2 = 0) : parcs [] (A ++ N ++ B) ↔ parcs [] (A ++ B) := by
 rw [parcs_top, parcs_top, List.append_assoc, List.pairwise_append, List.pairwise_append, List.pairwise_append]
 constructor
 ·rintro ⟨h1, h2, ⟨_, h3, _⟩, h4⟩
  refine ⟨fun b hb => h1 b ?_, h2, h3, fun a ha b hb => h4 a ha b (by simp [hb])⟩
  rcases List.mem_append.mp hb with hb | hb <;> simp [hb]
 ·rintro ⟨h1, h2, h3, h4⟩
  refine ⟨fun b hb => ?_, h2, ⟨?_, h3, fun a ha b hb h0 => ?_⟩, fun a ha b hb h0 => ?_⟩
  ·rcases List.mem_append.mp hb with hb | hb
   ·exact h1 b (by simp [hb])
   ·rcases List.mem_append.mp hb with hb | hb
    ·rw [hN b hb]; omega
    ·exact h1 b (by simp [hb])
  ·exact List.pairwise_of_forall_mem_list (fun a ha b hb h0 => by rw [hN b hb] at h0; omega)
  ·rw [hN a ha]; omega
  ·rcases List.mem_append.mp hb with hb | hb
   ·rw [hN b hb] at h0; omega
   ·exact h4 a ha b hb h0
theorem ColV.put {h : Int} {fx : List Int} {bx A R B N : List S98} (v : ColV h fx bx) (hr : RunAt fx bx A R B) (hN : tile (loR R) N (loR R + sumB R)) (hne : N ≠ []) (hp : parcs [] (A ++ N ++ B)) : ColV h fx (A ++ N ++ B) := by
 have ht := v.til
 rw [← hr.all] at ht
 refine ⟨v.hi, tile_swap ht hr.ne hN, hp, v.fix, fun f hf => ?_⟩
 obtain ⟨b, hb, e⟩ := v.low f hf
 rw [← hr.all] at hb
 rcases List.mem_append.mp hb with hb | hb
 ·rcases List.mem_append.mp hb with hb | hb
  ·exact ⟨b, by simp [hb], e⟩
  ·have hfree := hr.free
   have hlo : loR R = f := by
    cases R with
    | nil => exact absurd rfl hr.ne
    | cons r R =>
     rcases List.mem_cons.mp hb with rfl | hb
     ·exact e
     ·exact absurd (by rw [e]; exact hf) (hfree b hb)
   cases N with
   | nil => exact absurd rfl hne
   | cons n N => exact ⟨n, by simp, by rw [hN.1, hlo]⟩
 ·exact ⟨b, by simp [hb], e⟩
theorem RunAt.zero {fx : List Int} {bx A R B : List S98} (hr : RunAt fx bx A R B) : ∀ b ∈ R, b.f2 = 0 := by
 intro b hb
 have := hr.opn b hb
 unfold opB at this
 simp only [Bool.and_eq_true, decide_eq_true_eq] at this
 exact this.1
theorem RunAt.parcs {h : Int} {fx : List Int} {bx A R B : List S98} (v : ColV h fx bx) (hr : RunAt fx bx A R B) : parcs [] (A ++ B) := by
 have := v.par
 rw [← hr.all] at this
 exact (parcs_mid hr.zero).mp this
theorem ColV.ne {h : Int} {fx : List Int} {bx : List S98} (v : ColV h fx bx) : 0 < bx.length := by
 cases bx with
 | nil =>
  have := v.til
  have := v.hi
  simp only [tile] at *
  omega
 | cons x l => simp
end Go.Proofs.Ytbpjidekjogfeaa.A

namespace Go.Proofs.Ytbpjidekjogfeaa.A
open Go.RowKit Go.Proofs.YtbpjidekjogfeaaW.PrintWords Go.Proofs.YtbpjidekjogfeaaW.PrintLast Go.Proofs.YtbpjidekjogfeaaW.PrintMore
set_option linter.unusedVariables false
set_option linter.unusedSimpArgs false
theorem copyBank_loop (cs : List S41) (hs : Small cs) : ∀ (rest : List S41) (i : Nat) (acc : List S41), cs.drop i = rest → i ≤ cs.length → acc.length = i → Ev (fun k => impl_copyBank.l0 k acc cs (cs.length : Int) (i : Int)) (acc ++ rest)
 | [], i, acc, hd, hi, ha => by
  have he := drop_end hd hi
  have hl := hs.1
  refine Ev.succ ?_
  simp only [impl_copyBank.l0]
  exact Ev.neg (by omega) ((Ev.ret _).to (by simp))
 | c :: rest, i, acc, hd, hi, ha => by
  obtain ⟨h1, h2, h3⟩ := drop_step z41 hd
  have er : rd_T41 cs (i : Int) = c := h2
  have hc : c ∈ cs := by rw [← h2, getD_gen _ h1]; exact List.getElem_mem _
  have hcs := hs.2 c hc
  have hl := hs.1
  refine Ev.succ ?_
  simp only [impl_copyBank.l0, er]
  rw [wsucc i (by omega)]
  refine Ev.pos (by omega) (Ev.pos (by omega) (Ev.pos (by omega) (Ev.bind (copy_ev c.f0 c.f1 c.f2 (by omega) (by omega)) (Ev.pos (by omega) ?_))))
  refine (copyBank_loop cs hs rest (i + 1) (acc ++ [c]) h3 (by omega) (by simp [ha])).to ?_
  simp
theorem copyBank_ev (cs : List S41) (hs : Small cs) : Ev (fun k => impl_copyBank.f k cs) cs := by
 unfold impl_copyBank.f
 exact copyBank_loop cs hs cs 0 [] rfl (by omega) rfl
end Go.Proofs.Ytbpjidekjogfeaa.A

namespace Go.Proofs.Ytbpjidekjogfeaa.A
open Go.RowKit Go.Proofs.YtbpjidekjogfeaaW.PrintWords Go.Proofs.YtbpjidekjogfeaaW.PrintLast Go.Proofs.YtbpjidekjogfeaaW.PrintMore
set_option linter.unusedVariables false
set_option linter.unusedSimpArgs false
theorem wtC_app : ∀ (a b : List S41), wtC (a ++ b) = wtC a + wtC b
 | [], b => by simp [wtC]
 | c :: a, b => by
  rw [List.cons_append, wtC, wtC, wtC_app a b]
  omega
theorem set_mid {α : Type} (a : List α) (c d : α) (b : List α) : (a ++ c :: b).set a.length d = a ++ d :: b := by
 rw [List.set_append_right _ _ (Nat.le_refl _), Nat.sub_self]
 rfl
theorem copyBankS_loop (cs : List S41) (hs : Small cs) : ∀ (rest : List S41) (i : Nat) (acc : List S41), cs.drop i = rest → i ≤ cs.length → acc.length = i → Ev (fun k => spec_l02CopyBank.l0 k cs acc (i : Int)) (acc ++ rest)
 | [], i, acc, hd, hi, ha => by
  have he := drop_end hd hi
  have hl := hs.1
  refine Ev.succ ?_
  simp only [spec_l02CopyBank.l0]
  exact Ev.neg (by omega) ((Ev.ret _).to (by simp))
 | c :: rest, i, acc, hd, hi, ha => by
  obtain ⟨h1, h2, h3⟩ := drop_step z41 hd
  have er : rd_T41 cs (i : Int) = c := h2
  have hc : c ∈ cs := by rw [← h2, getD_gen _ h1]; exact List.getElem_mem _
  have hl := hs.1
  have hm := hs.2 c hc
  refine Ev.succ ?_
  simp only [spec_l02CopyBank.l0, er]
  rw [wsucc i (by omega)]
  refine Ev.pos (by omega) (Ev.pos (by omega) (Ev.bind (copyS_ev c.f0 c.f1 c.f2 (by omega) (by omega)) (Ev.pos (by omega) ?_)))
  refine (copyBankS_loop cs hs rest (i + 1) (acc ++ [c]) h3 (by omega) (by rw [List.length_append, List.length_singleton, ha])).to ?_
  rw [List.append_assoc]
  rfl
theorem copyBankS_ev (cs : List S41) (hs : Small cs) : Ev (fun k => spec_l02CopyBank.f k cs) cs := copyBankS_loop cs hs cs 0 [] rfl (by omega) rfl
theorem takeBank_ev (cs : List S41) (hs : Small cs) (p : Int) : ∃ o : List S41 × Bool, Ev (fun k => spec_BankTake.f k cs p) o ∧ Ev (fun k => impl_BankTake.f k cs p) o ∧ Small o.1 ∧ wtC o.1 = wtC cs := by
 have hl := hs.1
 unfold spec_BankTake.f impl_BankTake.f
 have no : boxOfP cs p = (-1, -1) → Ev (fun k => (spec_l02CopyBank.f k cs).bind fun t346 => ((spec_BoxOf.f k cs p).bind fun bt349 => (if bt349.1 < 0 then (some (t346, false)) else (if 0 ≤ bt349.1 then (if bt349.1 < (cs.length : Int) then ((spec_TakeOut.f k ((rd_T41 cs bt349.1).f0) ((rd_T41 cs bt349.1).f1) ((rd_T41 cs bt349.1).f2) p).bind fun bt352 => (if bt349.1 < (t346.length : Int) then (some ((t346.set (bt349.1 : Int).toNat (⟨bt352.1, bt352.2.1, bt352.2.2.1⟩ : S41)), bt352.2.2.2)) else (none))) else (none)) else (none))))) (cs, false) := by
  intro e
  exact Ev.bind (copyBankS_ev cs hs) (Ev.bind ((boxOfS_ev cs hs p).to e) (Ev.pos (by decide) (Ev.ret _)))
 by_cases hb : bankP cs = true
 ·rcases idxC_add cs p 0 (Int.le_refl _) with ⟨h1, h2⟩ | ⟨l1, c, l2, h1, h2, h3, h4⟩
  ·refine ⟨(cs, false), no ?_, ?_, hs, rfl⟩
   ·unfold boxOfP
    rw [if_pos hb, findP_none cs p 0 (fun c hc => by
     have := h2 c hc
     unfold boxI
     split <;> omega)]
   ·refine Ev.bind (copyBank_ev cs hs) (Ev.bind (Ev.const (show impl_columnOf.f cs p = some (-1) from congrArg some h1)) (Ev.bind (Ev.const (show impl_BankOk.f cs = some true from congrArg some hb)) (Ev.pos rfl (Ev.pos (by omega) (Ev.ret _)))))
  ·have hc : c ∈ cs := by rw [h1]; simp
   have hm := hs.2 c hc
   have er : rd_T41 cs (l1.length : Int) = c := by
    show cs.getD (l1.length : Int).toNat _ = c
    rw [Int.toNat_natCast, h1, List.getD_eq_getElem?_getD, List.getElem?_append_right (Nat.le_refl _), Nat.sub_self]
    rfl
   have hlen : l1.length < cs.length := by rw [h1]; simp
   have e4 : idxC cs p 0 = (l1.length : Int) := by rw [h4]; omega
   have tl := takeP_len c.f0 c.f1 c.f2 p
   have hI : Ev (fun k => (impl_copyBank.f k cs).bind fun t408 => ((impl_columnOf.f cs p).bind fun t411 => ((impl_BankOk.f cs).bind fun t412 => (if t412 = true then (if t411 < 0 then (some (t408, false)) else (if 0 ≤ t411 then (if t411 < (cs.length : Int) then ((impl_TakeOut.f ((rd_T41 cs t411).f0) ((rd_T41 cs t411).f1) ((rd_T41 cs t411).f2) p).bind fun bt414 => (if t411 < (t408.length : Int) then (some ((t408.set (t411 : Int).toNat (⟨bt414.1, bt414.2.1, bt414.2.2.1⟩ : S41)), bt414.2.2.2)) else (none))) else (none)) else (none))) else (some (t408, false)))))) (l1 ++ (⟨c.f0, c.f1, (takeP c.f0 c.f1 c.f2 p).1⟩ : S41) :: l2, (takeP c.f0 c.f1 c.f2 p).2) := by
    refine Ev.bind (copyBank_ev cs hs) (Ev.bind (Ev.const (show impl_columnOf.f cs p = some (l1.length : Int) from congrArg some e4)) (Ev.bind (Ev.const (show impl_BankOk.f cs = some true from congrArg some hb)) (Ev.pos rfl (Ev.neg (by omega) (Ev.pos (by omega) (Ev.pos (by omega) ?_))))))
    rw [er]
    refine Ev.bind (take_ev c.f0 c.f1 c.f2 (by omega) (by omega) p) (Ev.pos (by omega) ((Ev.ret _).to ?_))
    rw [Int.toNat_natCast, h1, set_mid]
   by_cases hp : p < 1
   ·have tn : takeP c.f0 c.f1 c.f2 p = (c.f2, false) := takeP_no (fun h => by omega)
    refine ⟨(cs, false), no ?_, hI.to ?_, hs, rfl⟩
    ·unfold boxOfP
     rw [if_pos hb, findP_none cs p 0 (fun c _ => by unfold boxI; rw [if_neg (by omega)]; omega)]
    ·rw [tn, h1]
   ·have eI : ∀ l : List S98, boxI l p = idxP l p 0 := fun l => by unfold boxI; rw [if_pos (by omega)]
    have eB : boxOfP cs p = ((l1.length : Int), (rd_T98 c.f2 (boxI c.f2 p)).f0) := by
     unfold boxOfP
     rw [if_pos hb, h1, findP_at l1 c l2 p 0 (fun x hx => by rw [eI]; exact h3 x hx) (by rw [eI]; exact h2), show (0 : Int) + (l1.length : Int) = (l1.length : Int) by omega]
    refine ⟨_, ?_, hI, ?_, ?_⟩
    ·refine Ev.bind (copyBankS_ev cs hs) (Ev.bind ((boxOfS_ev cs hs p).to eB) (Ev.neg (by dsimp only; omega) (Ev.pos (by dsimp only; omega) (Ev.pos (by dsimp only; omega) ?_))))
     dsimp only
     rw [er]
     refine Ev.bind (takeS_ev c.f0 c.f1 c.f2 (by omega) (by omega) p) (Ev.pos (by omega) ((Ev.ret _).to ?_))
     rw [Int.toNat_natCast, h1, set_mid]
    ·have e := set_mid l1 c (⟨c.f0, c.f1, (takeP c.f0 c.f1 c.f2 p).1⟩ : S41) l2
     rw [← h1] at e
     show Small (l1 ++ _ :: l2)
     rw [← e]
     refine ⟨by rw [List.length_set]; exact hl, fun x hx => ?_⟩
     rcases List.mem_or_eq_of_mem_set hx with hx | hx
     ·exact hs.2 x hx
     ·subst hx
      exact ⟨hm.1, by rw [tl]; exact hm.2⟩
    ·show wtC (l1 ++ _ :: l2) = wtC cs
     rw [h1, wtC_app, wtC_app, wtC, wtC]
     dsimp only
     rw [tl]
 ·refine ⟨(cs, false), no ?_, ?_, hs, rfl⟩
  ·unfold boxOfP
   rw [if_neg hb]
  ·refine Ev.bind (copyBank_ev cs hs) (Ev.bind (Ev.const rfl) (Ev.bind (Ev.const (show impl_BankOk.f cs = some false from congrArg some (by simpa using hb))) (Ev.neg (by simp) (Ev.ret _))))
def mkCs : Int → List S41 → List S41
 | _, [] => []
 | a, c :: cs => ⟨a, mkI (a + 1) c.f1.length, mkB (a + 1 + (c.f1.length : Int)) c.f2.length⟩ :: mkCs (a + 1 + (c.f1.length : Int) + 4 * (c.f2.length : Int)) cs
def endC : Int → List S41 → Int
 | a, [] => a
 | a, c :: cs => endC (a + 1 + (c.f1.length : Int) + 4 * (c.f2.length : Int)) cs
theorem endC_ge : ∀ (cs : List S41) (a : Int), a ≤ endC a cs
 | [], a => Int.le_refl _
 | c :: cs, a => by
  have := endC_ge cs (a + 1 + (c.f1.length : Int) + 4 * (c.f2.length : Int))
  rw [endC]
  omega
theorem mkCs_len : ∀ (cs : List S41) (a : Int), (mkCs a cs).length = cs.length
 | [], _ => rfl
 | c :: cs, a => by rw [mkCs, List.length_cons, List.length_cons, mkCs_len cs]
theorem rd_mid (a : List S41) (c : S41) (b : List S41) : rd_T41 (a ++ c :: b) (a.length : Int) = c := by
 show (a ++ c :: b).getD (a.length : Int).toNat _ = c
 rw [Int.toNat_natCast, List.getD_eq_getElem?_getD, List.getElem?_append_right (Nat.le_refl _), Nat.sub_self]
 rfl
theorem markG_loop : ∀ (rest pre : List S41) (a : Int), pre.length + rest.length ≤ 1048576 → (∀ c ∈ rest, c.f1.length ≤ 1048576 ∧ c.f2.length ≤ 1048576) → 0 ≤ a → a + 5 * wtC rest ≤ 10000000 → Ev (fun k => laws_markColumnS.g0 k (pre ++ rest) a (pre.length : Int)) (endC a rest, pre ++ mkCs a rest)
 | [], pre, a, hl, hm, h0, h1 => by
  rw [List.append_nil]
  refine Ev.succ ?_
  simp only [laws_markColumnS.g0]
  exact Ev.neg (by omega) ((Ev.ret _).to (by simp [endC, mkCs]))
 | c :: rest, pre, a, hl, hm, h0, h1 => by
  have hw := wtC_nonneg rest
  rw [List.length_cons] at hl
  rw [wtC] at h1
  have hc := hm c List.mem_cons_self
  have hlen : (pre ++ c :: rest).length = pre.length + rest.length + 1 := by simp; omega
  have ih := markG_loop rest (pre ++ [⟨a, mkI (a + 1) c.f1.length, mkB (a + 1 + (c.f1.length : Int)) c.f2.length⟩]) (a + 1 + (c.f1.length : Int) + 4 * (c.f2.length : Int)) (by rw [List.length_append, List.length_singleton]; omega) (fun x hx => hm x (List.mem_cons_of_mem _ hx)) (by omega) (by omega)
  rw [List.length_append, List.length_singleton, List.append_assoc, List.append_assoc] at ih
  refine Ev.succ ?_
  simp only [laws_markColumnS.g0, rd_mid]
  rw [wid (a + 1) (by omega) (by omega), wsucc pre.length (by omega), Int.toNat_natCast]
  refine Ev.pos (by omega) (Ev.pos (by omega) (Ev.bind (markIntS_ev c.f1 hc.1 (a + 1) (by omega) (by omega)) (Ev.bind (markBoxS_ev c.f2 hc.2 (a + 1 + (c.f1.length : Int)) (by omega) (by omega)) ?_)))
  dsimp only
  rw [set_mid]
  exact ih
theorem heldG_loop : ∀ (rest pre : List S41) (a : Int), pre.length + rest.length ≤ 1048576 → (∀ c ∈ rest, c.f1.length ≤ 1048576 ∧ c.f2.length ≤ 1048576) → 0 ≤ a → a + 5 * wtC rest ≤ 10000000 → Ev (fun k => laws_heldColumnS.l0 k (pre ++ mkCs a rest) a (pre.length : Int)) (endC a rest)
 | [], pre, a, hl, hm, h0, h1 => by
  rw [mkCs, List.append_nil]
  refine Ev.succ ?_
  simp only [laws_heldColumnS.l0]
  exact Ev.neg (by omega) ((Ev.ret _).to (by simp [endC]))
 | c :: rest, pre, a, hl, hm, h0, h1 => by
  have hw := wtC_nonneg rest
  rw [List.length_cons] at hl
  rw [wtC] at h1
  have hc := hm c List.mem_cons_self
  have hlen : (pre ++ mkCs a (c :: rest)).length = pre.length + rest.length + 1 := by rw [List.length_append, mkCs_len, List.length_cons]; omega
  have ih := heldG_loop rest (pre ++ [⟨a, mkI (a + 1) c.f1.length, mkB (a + 1 + (c.f1.length : Int)) c.f2.length⟩]) (a + 1 + (c.f1.length : Int) + 4 * (c.f2.length : Int)) (by rw [List.length_append, List.length_singleton]; omega) (fun x hx => hm x (List.mem_cons_of_mem _ hx)) (by omega) (by omega)
  rw [List.length_append, List.length_singleton, List.append_assoc] at ih
  rw [mkCs] at hlen ⊢
  refine Ev.succ ?_
  simp only [laws_heldColumnS.l0, rd_mid]
  rw [wid (a + 1) (by omega) (by omega), wsucc pre.length (by omega)]
  exact Ev.pos (by omega) (Ev.pos (by omega) (Ev.pos trivial (Ev.bind (heldIntS_ev c.f1.length hc.1 (a + 1) (by omega) (by omega)) (Ev.neg (by omega) (Ev.bind (heldBoxS_ev c.f2.length hc.2 (a + 1 + (c.f1.length : Int)) (by omega) (by omega)) (Ev.neg (by omega) ih))))))
end Go.Proofs.Ytbpjidekjogfeaa.A

namespace Go.Proofs.Ytbpjidekjogfeaa.A
open Go.RowKit Go.Proofs.YtbpjidekjogfeaaW.PrintWords Go.Proofs.YtbpjidekjogfeaaW.PrintLast Go.Proofs.YtbpjidekjogfeaaW.PrintMore
set_option linter.unusedVariables false
set_option linter.unusedSimpArgs false
theorem pureFnExactBankTake : ∀ (l0 : List (S58)) (a1 : Int), ok22 l0 → ok3 a1 → ∃ k, laws_FnExactBankTake.f k l0 a1 = some true := by
 rintro l p hl _
 refine Ev.get ?_
 unfold laws_FnExactBankTake.f
 rcases bank_begin l hl with ⟨r, h1, h2⟩ | ⟨⟨r, h1, h2⟩, hT, hs, hw⟩
 ·exact Ev.bind h1 (Ev.pos h2 (Ev.ret _))
 ·rw [← wtC_toI] at hw
  generalize l.map toI_Col = cs at hT hs hw
  obtain ⟨m, m0, _, hM0⟩ := markColS_ev cs hs hw
  obtain ⟨⟨o, ok⟩, hS, hI, ho, hwo⟩ := takeBank_ev cs hs p
  dsimp only at ho hwo
  have hM : Ev (fun k => laws_markColumnS.g k o 1) (endC 1 o, mkCs 1 o) := markG_loop o [] 1 (by rw [List.length_nil]; have := ho.1; omega) ho.2 (by omega) (by omega)
  have hH : Ev (fun k => laws_heldColumnS.f k (mkCs 1 o) 1) (endC 1 o) := heldG_loop o [] 1 (by rw [List.length_nil]; have := ho.1; omega) ho.2 (by omega) (by omega)
  have hge := endC_ge o 1
  refine Ev.bind h1 (Ev.neg (by omega) ?_)
  exact Ev.bind hT (Ev.bind hS (Ev.bind hI (Ev.bind (eqColumnS_ev o ho) (Ev.bind (eqColumnS_ev cs hs) (Ev.bind hM0 (Ev.bind hM (Ev.bind hH (Ev.pos ⟨rfl, rfl, rfl, m0, by omega, rfl⟩ (Ev.ret _)))))))))
end Go.Proofs.Ytbpjidekjogfeaa.A
