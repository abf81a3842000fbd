/- Used by the law FnExactCanHold. -/
import Derived.Test.YtbpjidekjogfeaaZFnExactCanHoldx15
import Derived.Test.YtbpjidekjogfeaaZFnExactCanHoldx12
import Derived.Test.YtbpjidekjogfeaaZFnExactCanHoldx14
import Derived.Test.YtbpjidekjogfeaaZFnExactCanHoldx19
import Derived.Test.YtbpjidekjogfeaaZFnExactCanHoldx13
import Derived.Test.YtbpjidekjogfeaaZFnExactCanHoldx16
import Derived.Test.YtbpjidekjogfeaaZFnExactCanHoldx17
import Derived.Test.YtbpjidekjogfeaaZFnExactCanHoldh
namespace Go.Proofs.Ytbpjidekjogfeaa.A
open Go.RowKit Go.Proofs.YtbpjidekjogfeaaW.PrintWords Go.Proofs.YtbpjidekjogfeaaW.PrintLast Go.Proofs.YtbpjidekjogfeaaW.PrintMore
set_option linter.unusedVariables false
set_option linter.unusedSimpArgs false
def Ev {α : Type} (F : Nat → Option α) (r : α) : Prop := ∃ K, ∀ k, K ≤ k → F k = some r
theorem Ev.mk {α : Type} {F : Nat → Option α} {r : α} (K : Nat) (h : ∀ k, K < k → F k = some r) : Ev F r := ⟨K + 1, fun k hk => h k hk⟩
theorem Ev.get {α : Type} {F : Nat → Option α} {r : α} (h : Ev F r) : ∃ k, F k = some r := by
 obtain ⟨K, h⟩ := h
 exact ⟨K, h K (Nat.le_refl _)⟩
theorem Ev.const {α : Type} {o : Option α} {r : α} (h : o = some r) : Ev (fun _ => o) r := ⟨0, fun _ _ => h⟩
theorem Ev.ret {α : Type} (r : α) : Ev (fun _ => some r) r := ⟨0, fun _ _ => rfl⟩
theorem Ev.bind {α β : Type} {F : Nat → Option α} {G : Nat → α → Option β} {a : α} {b : β} (h1 : Ev F a) (h2 : Ev (fun k => G k a) b) : Ev (fun k => (F k).bind (G k)) b := by
 obtain ⟨K1, h1⟩ := h1
 obtain ⟨K2, h2⟩ := h2
 refine ⟨max K1 K2, fun k hk => ?_⟩
 show (F k).bind (G k) = some b
 rw [h1 k (by omega)]
 exact h2 k (by omega)
theorem Ev.pos {α : Type} {c : Prop} [Decidable c] {A B : Nat → Option α} {r : α} (h : c) (hA : Ev A r) : Ev (fun k => if c then A k else B k) r := by
 obtain ⟨K, hA⟩ := hA
 exact ⟨K, fun k hk => by show (if c then A k else B k) = some r; rw [if_pos h]; exact hA k hk⟩
theorem Ev.neg {α : Type} {c : Prop} [Decidable c] {A B : Nat → Option α} {r : α} (h : ¬ c) (hB : Ev B r) : Ev (fun k => if c then A k else B k) r := by
 obtain ⟨K, hB⟩ := hB
 exact ⟨K, fun k hk => by show (if c then A k else B k) = some r; rw [if_neg h]; exact hB k hk⟩
theorem Ev.ite {α : Type} {c : Prop} [Decidable c] {A B : Nat → Option α} {a b : α} (hA : c → Ev A a) (hB : ¬ c → Ev B b) : Ev (fun k => if c then A k else B k) (if c then a else b) := by
 by_cases h : c
 ·rw [if_pos h]; exact Ev.pos h (hA h)
 ·rw [if_neg h]; exact Ev.neg h (hB h)
theorem Ev.succ {α : Type} {F : Nat → Option α} {r : α} (h : Ev (fun k => F (k + 1)) r) : Ev F r := by
 obtain ⟨K, h⟩ := h
 refine ⟨K + 1, fun k hk => ?_⟩
 obtain ⟨m, rfl⟩ : ∃ m, k = m + 1 := ⟨k - 1, by omega⟩
 exact h m (by omega)
theorem Ev.of_eq {α : Type} {F G : Nat → Option α} {r : α} (h : Ev F r) (e : ∀ k, G k = F k) : Ev G r := by
 obtain ⟨K, h⟩ := h
 exact ⟨K, fun k hk => (e k).trans (h k hk)⟩
theorem Ev.to {α : Type} {F : Nat → Option α} {r s : α} (h : Ev F r) (e : r = s) : Ev F s := e ▸ h
theorem getD_gen {α : Type} {l : List α} {i : Nat} (d : α) (h : i < l.length) : l.getD i d = l[i] := by
 rw [List.getD_eq_getElem?_getD, List.getElem?_eq_getElem h]; rfl
theorem wsucc (i : Nat) (h : i < 9223372036854775807) : wrap64 ((i : Int) + 1) = ((i + 1 : Nat) : Int) := by unfold wrap64; omega
theorem wpred (i : Nat) (h : 0 < i) (h2 : i ≤ 9223372036854775807) : wrap64 ((i : Int) - 1) = ((i - 1 : Nat) : Int) := by unfold wrap64; omega
theorem wid (x : Int) (h : -9223372036854775808 ≤ x) (h2 : x ≤ 9223372036854775807) : wrap64 x = x := by unfold wrap64; omega
theorem all_loop {L : Nat → Int → Option Bool} {n : Nat} {P : Nat → Bool} (h : ∀ k i, i < n → L (k + 1) (i : Int) = if P i = true then L k ((i + 1 : Nat) : Int) else some false)
  (he : ∀ k, L (k + 1) (n : Int) = some true) (d : Nat) : ∀ k i, i + d = n → d < k → L k (i : Int) = some ((List.range' i d).all P) := by
 induction d with
 | zero =>
  intro k i hi hk
  obtain ⟨k, rfl⟩ : ∃ m, k = m + 1 := ⟨k - 1, by omega⟩
  obtain rfl : i = n := by omega
  rw [he]; rfl
 | succ d ih =>
  intro k i hi hk
  obtain ⟨k, rfl⟩ : ∃ m, k = m + 1 := ⟨k - 1, by omega⟩
  rw [h k i (by omega), List.range'_succ, List.all_cons]
  by_cases hp : P i = true
  ·rw [if_pos hp, ih k (i + 1) (by omega) (by omega), hp, Bool.true_and]
  ·rw [if_neg hp]
   have : P i = false := by simpa using hp
   rw [this, Bool.false_and]
theorem map_loop {α β : Type} {L : Nat → List β → Int → Option (List β)} {xs : List α} {g : α → β} (d0 : α)
  (h : ∀ k acc (i : Nat), i < xs.length → acc.length = xs.length → L (k + 1) acc (i : Int) = L k (acc.set i (g (xs.getD i d0))) ((i + 1 : Nat) : Int))
  (he : ∀ k acc, L (k + 1) acc (xs.length : Int) = some acc) (d : Nat) :
  ∀ k acc i, i + d = xs.length → d < k → acc.length = xs.length → (∀ j, j < i → acc[j]? = (xs.map g)[j]?) → L k acc (i : Int) = some (xs.map g) := by
 induction d with
 | zero =>
  intro k acc i hi hk hl hp
  obtain ⟨k, rfl⟩ : ∃ m, k = m + 1 := ⟨k - 1, by omega⟩
  obtain rfl : i = xs.length := by omega
  rw [he]
  congr 1
  apply List.ext_getElem?
  intro j
  by_cases hj : j < xs.length
  ·exact hp j hj
  ·rw [List.getElem?_eq_none (by omega), List.getElem?_eq_none (by simp; omega)]
 | succ d ih =>
  intro k acc i hi hk hl hp
  obtain ⟨k, rfl⟩ : ∃ m, k = m + 1 := ⟨k - 1, by omega⟩
  rw [h k acc i (by omega) hl]
  refine ih k _ (i + 1) (by omega) (by omega) (by simp [hl]) (fun j hj => ?_)
  by_cases e : i = j
  ·subst e
   rw [List.getElem?_set_self (by omega), List.getElem?_map, List.getElem?_eq_getElem (show i < xs.length by omega), List.getD_eq_getElem?_getD, List.getElem?_eq_getElem (show i < xs.length by omega)]
   rfl
  ·rw [List.getElem?_set_ne e]
   exact hp j (by omega)
theorem in_eq (a b c : Int) : spec_l01In.f a b c = some (decide (b ≤ a ∧ a ≤ c)) := by
 unfold spec_l01In.f
 split
 ·congr 1; rw [decide_eq_decide]; omega
 ·congr 1; exact (decide_eq_false (by omega)).symm
def boxS : List S98 → Int → List Int → Option Int
 | [], low, _ => some low
 | b :: bs, low, ps => if b.f0 = low ∧ (1 ≤ b.f1 ∧ b.f1 ≤ 24) ∧ (0 ≤ b.f2 ∧ b.f2 ≤ 999) ∧ ¬ (0 < b.f2 ∧ b.f2 ∈ ps) ∧ low + b.f1 ≤ 24 then boxS bs (low + b.f1) (b.f2 :: ps) else none
def boxesS (h : Int) (bx : List S98) (o : Option Int) : Bool := match o with | none => false | some low => decide (bx ≠ []) && decide (low = h)
theorem boxes_in (h : Int) (fx : List Int) (bx : List S98) (at_ : Int) (i : Nat) (hi : i < bx.length) (hi2 : i ≤ 24) (b : S98) (P : Prop) [Decidable P] (hP : P ↔ (0 < b.f2 ∧ ∃ j, j < i ∧ (bx.getD j z98).f2 = b.f2)) (d : Nat) :
  ∀ (k j : Nat), j + d = i → d < k → (∀ m, m < j → 0 < b.f2 → (bx.getD m z98).f2 ≠ b.f2) → spec_l02Boxes.l1 k at_ (i : Int) (j : Int) h fx bx b.f0 b.f1 b.f2 b.f3 = if P then some false else (if (wrap64 (at_ + b.f1)) > 24 then (some false) else (spec_l02Boxes.l0 (k - d - 1) (wrap64 (at_ + b.f1)) ((i + 1 : Nat) : Int) h fx bx)) := by
 induction d with
 | zero =>
  intro k j hj hk hn
  obtain ⟨k, rfl⟩ : ∃ m, k = m + 1 := ⟨k - 1, by omega⟩
  simp only [spec_l02Boxes.l1]
  have hnp : ¬ P := fun hp => by obtain ⟨h0, m, hm, e⟩ := hP.mp hp; exact hn m (by omega) h0 e
  rw [if_neg (by omega), if_neg hnp, wsucc i (by omega)]
  rfl
 | succ d ih =>
  intro k j hj hk hn
  obtain ⟨k, rfl⟩ : ∃ m, k = m + 1 := ⟨k - 1, by omega⟩
  simp only [spec_l02Boxes.l1]
  have er : rd_T98 bx (j : Int) = bx.getD j z98 := rfl
  rw [if_pos (by omega), er, wsucc j (by omega)]
  by_cases c0 : b.f2 > 0
  ·rw [if_pos c0, if_pos (by omega), if_pos (by omega)]
   by_cases c1 : (bx.getD j z98).f2 = b.f2
   ·rw [if_pos c1, if_pos (hP.mpr ⟨c0, j, by omega, c1⟩)]
   ·rw [if_neg c1, ih k (j + 1) (by omega) (by omega) (fun m hm h0 => by
     by_cases e : m = j
     ·subst e; exact c1
     ·exact hn m (by omega) h0), show k + 1 - (d + 1) - 1 = k - d - 1 by omega]
  ·rw [if_neg c0, ih k (j + 1) (by omega) (by omega) (fun m hm h0 => absurd h0 c0), show k + 1 - (d + 1) - 1 = k - d - 1 by omega]
theorem drop_cons {α : Type} (l : List α) (d : α) (i : Nat) (hi : i < l.length) : l.drop i = l.getD i d :: l.drop (i + 1) := by
 rw [List.drop_eq_getElem_cons hi, getD_gen d hi]
theorem boxes_loop (h : Int) (fx : List Int) (bx : List S98) (hl : bx.length ≤ 140737488351232) : ∀ (d k i : Nat) (at_ : Int) (ps : List Int), (24 - at_).toNat = d → 0 ≤ at_ → at_ ≤ 24 → (i : Int) ≤ at_ → i ≤ bx.length → (d + 2) * 40 < k →
  (∀ x, x ∈ ps ↔ ∃ j, j < i ∧ (bx.getD j z98).f2 = x) → spec_l02Boxes.l0 k at_ (i : Int) h fx bx = some (boxesS h bx (boxS (bx.drop i) at_ ps)) := by
 intro d
 induction d using Nat.strongRecOn with
 | _ d ih =>
 intro k i at_ ps hd h0 h1 hi hil hk hps
 obtain ⟨k, rfl⟩ : ∃ m, k = m + 2 := ⟨k - 2, by omega⟩
 simp only [spec_l02Boxes.l0]
 by_cases c : i < bx.length
 ·have er : rd_T98 bx (i : Int) = bx.getD i z98 := rfl
  rw [if_pos (by omega), if_pos (by omega), drop_cons bx z98 i c, er]
  simp only [in_eq, Option.bind_some, boxS]
  generalize hb : bx.getD i z98 = b
  by_cases c0 : b.f0 = at_
  ·rw [if_pos c0]
   by_cases c1 : 1 ≤ b.f1 ∧ b.f1 ≤ 24
   ·rw [if_pos (decide_eq_true c1)]
    by_cases c2 : 0 ≤ b.f2 ∧ b.f2 ≤ 999
    ·simp only [decide_eq_true c2, spec_l02Boxes.j1, Bool.not_true]
     rw [if_neg (by simp)]
     have hin := boxes_in h fx bx at_ i c (by omega) b (0 < b.f2 ∧ b.f2 ∈ ps) (by rw [hps]) i k 0 (by omega) (by omega) (fun m hm => by omega)
     refine hin.trans ?_
     by_cases c3 : 0 < b.f2 ∧ b.f2 ∈ ps
     ·rw [if_pos c3, if_neg (fun h => h.2.2.2.1 c3)]; rfl
     ·rw [if_neg c3, wid (at_ + b.f1) (by omega) (by omega)]
      by_cases c4 : at_ + b.f1 > 24
      ·rw [if_pos c4, if_neg (fun h => by have := h.2.2.2.2; omega)]; rfl
      ·rw [if_neg c4, if_pos ⟨c0, c1, c2, c3, by omega⟩]
       refine ih (24 - (at_ + b.f1)).toNat (by omega) _ (i + 1) (at_ + b.f1) (b.f2 :: ps) rfl (by omega) (by omega) (by omega) (by omega) (by omega) (fun x => ?_)
       rw [List.mem_cons, hps]
       constructor
       ·rintro (rfl | ⟨j, hj, e⟩)
        ·exact ⟨i, by omega, by rw [hb]⟩
        ·exact ⟨j, by omega, e⟩
       ·rintro ⟨j, hj, e⟩
        by_cases ej : j = i
        ·subst ej; left; rw [← e, hb]
        ·right; exact ⟨j, by omega, e⟩
    ·simp only [decide_eq_false c2, spec_l02Boxes.j1, Bool.not_false]
     rw [if_pos trivial, if_neg (fun h => c2 h.2.2.1)]; rfl
   ·rw [if_neg (by simpa using c1)]
    simp only [spec_l02Boxes.j1]
    rw [if_pos trivial, if_neg (fun h => c1 h.2.1)]; rfl
  ·rw [if_neg c0]
   simp only [spec_l02Boxes.j1]
   rw [if_pos trivial, if_neg (fun h => c0 h.1)]; rfl
 ·rw [if_neg (by omega), List.drop_eq_nil_of_le (by omega)]
  simp only [boxS, boxesS]
  by_cases c0 : (bx.length : Int) > 0
  ·have hne : bx ≠ [] := by intro e; rw [e] at c0; simp at c0
   rw [if_pos c0, decide_eq_true hne, Bool.true_and]
   congr 1
  ·have hne : ¬ bx ≠ [] := by intro e; exact e (List.length_eq_zero_iff.mp (by omega))
   rw [if_neg c0, decide_eq_false hne, Bool.false_and]
theorem boxes_eq (h : Int) (fx : List Int) (bx : List S98) (hl : bx.length ≤ 140737488351232) (k : Nat) (hk : 1100 < k) : spec_l02Boxes.f k h fx bx = some (boxesS h bx (boxS bx 0 [])) := by
 unfold spec_l02Boxes.f
 have := boxes_loop h fx bx hl 24 k 0 0 [] (by omega) (by omega) (by omega) (by omega) (by omega) (by omega) (by simp)
 exact this
theorem boxS_le : ∀ (bs : List S98) (low : Int) (ps : List Int) (e : Int), boxS bs low ps = some e → low ≤ e ∧ (bs.length : Int) ≤ e - low ∧ (low ≤ 24 → e ≤ 24)
 | [], low, ps, e, h => by simp [boxS] at h; subst h; exact ⟨by omega, by simp, id⟩
 | b :: bs, low, ps, e, h => by
  simp only [boxS] at h
  split at h
  ·next hc =>
   obtain ⟨h1, h2, h3⟩ := boxS_le bs _ _ _ h
   exact ⟨by omega, by simp; omega, fun _ => h3 (by omega)⟩
  ·simp at h
theorem boxP_S (h : Int) (hh : h ≤ 24) : ∀ (bs : List S98) (low : Int) (ls ps : List Int) (e : Int) (ls' : List Int), 0 ≤ low → boxP h bs low ls ps = some (e, ls') → boxS bs low ps = some e ∧ ∀ f, f ∈ ls' ↔ f ∈ ls ∨ f ∈ bs.map (fun b => b.f0)
 | [], low, ls, ps, e, ls', h0, hb => by
  simp only [boxP, Option.some.injEq, Prod.mk.injEq] at hb
  obtain ⟨rfl, rfl⟩ := hb
  exact ⟨rfl, fun f => by simp⟩
 | b :: bs, low, ls, ps, e, ls', h0, hb => by
  simp only [boxP] at hb
  split at hb
  ·next hc =>
   obtain ⟨h1, h2⟩ := boxP_S h hh bs _ _ _ _ _ (by omega) hb
   refine ⟨?_, fun f => ?_⟩
   ·simp only [boxS]
    rw [if_pos ⟨hc.1, ⟨hc.2.1.1, by omega⟩, hc.2.2.1, hc.2.2.2, by omega⟩]
    exact h1
   ·rw [h2 f, List.mem_cons, List.map_cons, List.mem_cons]
    constructor
    ·rintro ((h | h) | h)
     ·exact Or.inr (Or.inl h)
     ·exact Or.inl h
     ·exact Or.inr (Or.inr h)
    ·rintro (h | h | h)
     ·exact Or.inl (Or.inr h)
     ·exact Or.inl (Or.inl h)
     ·exact Or.inr h
  ·simp at hb
theorem boxS_P (h : Int) : ∀ (bs : List S98) (low : Int) (ls ps : List Int), boxS bs low ps = some h → ∃ ls', boxP h bs low ls ps = some (h, ls')
 | [], low, ls, ps, hb => by
  simp only [boxS, Option.some.injEq] at hb
  subst hb
  exact ⟨ls, rfl⟩
 | b :: bs, low, ls, ps, hb => by
  simp only [boxS] at hb
  split at hb
  ·next hc =>
   have hle := (boxS_le bs _ _ _ hb).1
   obtain ⟨ls', h1⟩ := boxS_P h bs _ (b.f0 :: ls) _ hb
   refine ⟨ls', ?_⟩
   simp only [boxP]
   rw [if_pos ⟨hc.1, ⟨hc.2.1.1, by omega⟩, hc.2.2.1, hc.2.2.2.1⟩]
   exact h1
  ·simp at hb
theorem colS_eq (h : Int) (fx : List Int) (bx : List S98) : (decide (1 ≤ h ∧ h ≤ 24) && (boxesS h bx (boxS bx 0 []) && (fixP h none fx && fx.all (fun f => decide (f ∈ bx.map (fun b => b.f0)))))) = colP h fx bx := by
 unfold colP
 by_cases hh : 1 ≤ h ∧ h ≤ 24
 ·rw [decide_eq_true hh, Bool.true_and, Bool.true_and]
  cases hP : boxP h bx 0 [] [] with
  | none =>
   have hf : boxesS h bx (boxS bx 0 []) = false := by
    cases hS : boxS bx 0 [] with
    | none => rfl
    | some e =>
     by_cases c : e = h
     ·subst c
      obtain ⟨ls', hl⟩ := boxS_P e bx 0 [] [] hS
      rw [hl] at hP; simp at hP
     ·simp [boxesS, c]
   rw [hf]; simp
  | some z =>
   obtain ⟨e, ls⟩ := z
   obtain ⟨h1, h2⟩ := boxP_S h hh.2 bx 0 [] [] e ls (by omega) hP
   have ha : fx.all (fun f => decide (f ∈ bx.map (fun b => b.f0))) = fx.all (fun f => decide (f ∈ ls)) := by
    congr 1
    funext f
    rw [decide_eq_decide, h2 f]
    simp
   rw [h1, ha]
   simp only [boxesS]
   cases decide (bx ≠ []) <;> cases decide (e = h) <;> cases fixP h none fx <;> cases fx.all (fun f => decide (f ∈ ls)) <;> rfl
 ·rw [decide_eq_false hh, Bool.false_and, Bool.false_and, Bool.false_and, Bool.false_and]
def fixS (h : Int) (L : List Int) : Option Int → List Int → Bool
 | _, [] => true
 | p, f :: fs => decide (1 ≤ f ∧ f ≤ h - 1) && (match p with | none => true | some q => decide (q < f)) && decide (f ∈ L) && fixS h L (some f) fs
theorem fixS_eq (h : Int) (L : List Int) : ∀ (fs : List Int) (p : Option Int), fixS h L p fs = (fixP h p fs && fs.all (fun f => decide (f ∈ L)))
 | [], p => rfl
 | f :: fs, p => by
  simp only [fixS, fixP, List.all_cons]
  rw [fixS_eq h L fs (some f)]
  ac_rfl
theorem drop_step {α : Type} {l : List α} {i : Nat} {b : α} {rest : List α} (d : α) (h : l.drop i = b :: rest) : i < l.length ∧ l.getD i d = b ∧ l.drop (i + 1) = rest := by
 have hi : i < l.length := by
  apply Classical.byContradiction
  intro c
  rw [List.drop_eq_nil_of_le (by omega)] at h
  cases h
 have h2 := drop_cons l d i hi
 rw [h] at h2
 injection h2 with h3 h4
 exact ⟨hi, h3.symm, h4.symm⟩
theorem drop_end {α : Type} {l : List α} {i : Nat} (h : l.drop i = []) (hi : i ≤ l.length) : i = l.length := by
 have := List.drop_eq_nil_iff.mp h
 omega
theorem found_ev (h : Int) (fx : List Int) (bx : List S98) (i : Nat) (hi : i < fx.length) (hi2 : i ≤ 140737488351232) (hl : bx.length ≤ 24) (s : Bool) (hs : Ev (fun k => spec_ColumnOk.l0 k ((i + 1 : Nat) : Int) h fx bx) s) :
  ∀ (rest : List S98) (j : Nat) (b : Bool), bx.drop j = rest → j ≤ bx.length → Ev (fun k => spec_ColumnOk.l1 k (i : Int) b (j : Int) h fx bx) (if (b || rest.any (fun x => decide (x.f0 = fx.getD i 0))) = true then s else false)
 | [], j, b, hd, hj => by
  refine Ev.succ ?_
  simp only [spec_ColumnOk.l1]
  have he := drop_end hd hj
  refine Ev.neg (by omega) ?_
  rw [List.any_nil, Bool.or_false, wsucc i (by omega)]
  exact Ev.ite (fun _ => hs) (fun _ => Ev.ret _)
 | x :: rest, j, b, hd, hj => by
  obtain ⟨h1, h2, h3⟩ := drop_step z98 hd
  refine Ev.succ ?_
  simp only [spec_ColumnOk.l1]
  refine Ev.pos (by omega) ?_
  rw [wsucc j (by omega), List.any_cons]
  cases b with
  | true =>
   refine Ev.pos rfl ?_
   refine (found_ev h fx bx i hi hi2 hl s hs rest (j + 1) true h3 (by omega)).to ?_
   rw [Bool.true_or, Bool.true_or]
  | false =>
   refine Ev.neg (by simp) ?_
   refine Ev.pos (by omega) ?_
   refine Ev.pos (by omega) ?_
   refine Ev.pos (by omega) ?_
   refine (found_ev h fx bx i hi hi2 hl s hs rest (j + 1) _ h3 (by omega)).to ?_
   rw [Bool.false_or]
   have e1 : rd_T98 bx (j : Int) = x := h2
   have e2 : rd fx (i : Int) = fx.getD i 0 := rfl
   rw [e1, e2]
   rfl
theorem prev_eq (fx : List Int) (i : Nat) : prevP fx ((i + 1 : Nat) : Int) = some (fx.getD i 0) := by
 unfold prevP
 rw [if_neg (by omega), show ((i + 1 : Nat) : Int) - 1 = (i : Int) by omega]
 rfl
theorem any_lows (f : Int) (bx : List S98) : (bx.any (fun x => decide (x.f0 = f))) = decide (f ∈ bx.map (fun b => b.f0)) := by
 rw [Bool.eq_iff_iff, List.any_eq_true, decide_eq_true_iff, List.mem_map]
 constructor
 ·rintro ⟨x, hx, e⟩; exact ⟨x, hx, of_decide_eq_true e⟩
 ·rintro ⟨x, hx, e⟩; exact ⟨x, hx, decide_eq_true e⟩
theorem fixed_ev (h : Int) (h0 : 1 ≤ h) (h1 : h ≤ 24) (fx : List Int) (hx : fx.length ≤ 140737488351232) (bx : List S98) (hl : bx.length ≤ 24) :
  ∀ (rest : List Int) (i : Nat), fx.drop i = rest → i ≤ fx.length → Ev (fun k => spec_ColumnOk.l0 k (i : Int) h fx bx) (fixS h (bx.map (fun b => b.f0)) (prevP fx (i : Int)) rest)
 | [], i, hd, hj => by
  refine Ev.succ ?_
  simp only [spec_ColumnOk.l0]
  have he := drop_end hd hj
  refine Ev.neg (by omega) ?_
  exact Ev.ret _
 | f :: rest, i, hd, hj => by
  obtain ⟨h2, h3, h4⟩ := drop_step 0 hd
  have ih := fixed_ev h h0 h1 fx hx bx hl rest (i + 1) h4 (by omega)
  have hf := found_ev h fx bx i h2 (by omega) hl _ ih bx 0 false rfl (by omega)
  rw [Bool.false_or, any_lows, h3, prev_eq, h3] at hf
  have er : rd fx (i : Int) = f := h3
  have go : ∀ (b : Bool), Ev (fun k => spec_ColumnOk.j2 k (i : Int) b h fx bx) (if b = true then false else if decide (f ∈ bx.map (fun b => b.f0)) = true then fixS h (bx.map (fun b => b.f0)) (some f) rest else false) := by
   intro b
   refine Ev.succ ?_
   simp only [spec_ColumnOk.j2]
   exact Ev.ite (fun _ => Ev.ret _) (fun _ => hf)
  refine Ev.succ ?_
  simp only [spec_ColumnOk.l0]
  refine Ev.pos (by omega) ?_
  refine Ev.pos (by omega) ?_
  rw [er, wid (h - 1) (by omega) (by omega)]
  refine Ev.bind (Ev.const (in_eq _ _ _)) ?_
  simp only [fixS]
  by_cases c1 : 1 ≤ f ∧ f ≤ h - 1
  ·refine Ev.pos (decide_eq_true c1) ?_
   rw [decide_eq_true c1, Bool.true_and]
   by_cases c2 : (i : Int) > 0
   ·have hp : prevP fx (i : Int) = some (fx.getD (i - 1) 0) := by
     have := prev_eq fx (i - 1)
     rwa [show i - 1 + 1 = i by omega] at this
    have e2 : rd fx ((i - 1 : Nat) : Int) = fx.getD (i - 1) 0 := rfl
    refine Ev.pos c2 ?_
    rw [wpred i (by omega) (by omega), hp, e2]
    refine Ev.pos (by omega) ?_
    refine Ev.pos (by omega) ?_
    refine (go _).to ?_
    by_cases c3 : f ≤ fx.getD (i - 1) 0
    ·rw [if_pos (decide_eq_true c3)]
     simp only [decide_eq_false (show ¬ fx.getD (i - 1) 0 < f by omega), Bool.false_and]
    ·rw [if_neg (by simpa using c3)]
     simp only [decide_eq_true (show fx.getD (i - 1) 0 < f by omega), Bool.true_and]
     cases decide (f ∈ bx.map (fun b => b.f0)) <;> simp
   ·have hp : prevP fx (i : Int) = none := by unfold prevP; rw [if_pos (by omega)]
    refine Ev.neg c2 ?_
    refine (go _).to ?_
    rw [hp]
    cases decide (f ∈ bx.map (fun b => b.f0)) <;> simp
  ·refine Ev.neg (by simpa using c1) ?_
   refine (go _).to ?_
   rw [if_pos rfl, decide_eq_false c1]
   simp only [Bool.false_and]
theorem colok_ev (h : Int) (fx : List Int) (hx : fx.length ≤ 140737488351232) (bx : List S98) (hl : bx.length ≤ 140737488351232) : Ev (fun k => spec_ColumnOk.f k h fx bx) (colP h fx bx) := by
 refine Ev.of_eq ?_ (fun k => by unfold spec_ColumnOk.f; rfl)
 refine Ev.bind (Ev.const (in_eq _ _ _)) ?_
 rw [← colS_eq, ← fixS_eq]
 by_cases hh : 1 ≤ h ∧ h ≤ 24
 ·refine Ev.pos (decide_eq_true hh) ?_
  refine Ev.bind (Ev.mk 1100 (fun k hk => boxes_eq h fx bx hl k hk)) ?_
  rw [decide_eq_true hh, Bool.true_and]
  refine Ev.succ ?_
  simp only [spec_ColumnOk.j0]
  cases hS : boxS bx 0 [] with
  | none =>
   refine Ev.pos (by simp [boxesS]) ?_
   exact Ev.ret _
  | some e =>
   by_cases hb : boxesS h bx (some e) = true
   ·rw [hb]
    have hle := boxS_le bx 0 [] e hS
    have he : e ≤ 24 := hle.2.2 (by omega)
    refine Ev.neg (by simp) ?_
    exact fixed_ev h hh.1 hh.2 fx hx bx (by omega) fx 0 rfl (by omega)
   ·have hb2 : boxesS h bx (some e) = false := by simpa using hb
    rw [hb2]
    refine Ev.pos (by simp) ?_
    exact Ev.ret _
 ·refine Ev.neg (by simpa using hh) ?_
  rw [decide_eq_false hh, Bool.false_and]
  refine Ev.succ ?_
  simp only [spec_ColumnOk.j0]
  refine Ev.pos (by simp) ?_
  exact Ev.ret _
end Go.Proofs.Ytbpjidekjogfeaa.A

namespace Go.Proofs.Ytbpjidekjogfeaa.A
open Go.RowKit Go.Proofs.YtbpjidekjogfeaaW.PrintWords Go.Proofs.YtbpjidekjogfeaaW.PrintLast Go.Proofs.YtbpjidekjogfeaaW.PrintMore
set_option linter.unusedVariables false
set_option linter.unusedSimpArgs false
def opB (b : S98) : Bool := decide (b.f2 = 0) && !b.f3
def sumB (l : List S98) : Int := (l.map (fun b => b.f1)).foldr (· + ·) 0
theorem sumB_nil : sumB [] = 0 := rfl
theorem sumB_cons (b : S98) (l : List S98) : sumB (b :: l) = b.f1 + sumB l := rfl
theorem sumB_app (a b : List S98) : sumB (a ++ b) = sumB a + sumB b := by
 induction a with
 | nil => simp [sumB_nil]
 | cons x a ih => rw [List.cons_append, sumB_cons, sumB_cons, ih]; omega
def tile : Int → List S98 → Int → Prop
 | lo, [], hi => lo = hi
 | lo, b :: bs, hi => b.f0 = lo ∧ 1 ≤ b.f1 ∧ tile (lo + b.f1) bs hi
theorem tile_sum : ∀ (bs : List S98) (lo hi : Int), tile lo bs hi → lo + sumB bs = hi ∧ lo + bs.length ≤ hi
 | [], lo, hi, h => by simp only [tile] at h; subst h; simp [sumB_nil]
 | b :: bs, lo, hi, h => by
  obtain ⟨_, h1, h2⟩ := h
  have := tile_sum bs _ _ h2
  rw [sumB_cons, List.length_cons]
  omega
theorem tile_app : ∀ (a b : List S98) (lo hi : Int), tile lo (a ++ b) hi ↔ tile lo a (lo + sumB a) ∧ tile (lo + sumB a) b hi
 | [], b, lo, hi => by simp [tile, sumB_nil]
 | x :: a, b, lo, hi => by
  simp only [List.cons_append, tile, sumB_cons]
  rw [tile_app a b, show lo + (x.f1 + sumB a) = lo + x.f1 + sumB a by omega]
  constructor
  ·rintro ⟨h1, h2, h3, h4⟩; exact ⟨⟨h1, h2, h3⟩, h4⟩
  ·rintro ⟨⟨h1, h2, h3⟩, h4⟩; exact ⟨h1, h2, h3, h4⟩
theorem tile_mem : ∀ (bs : List S98) (lo hi : Int), tile lo bs hi → ∀ b ∈ bs, lo ≤ b.f0 ∧ 1 ≤ b.f1 ∧ b.f0 + b.f1 ≤ hi
 | [], _, _, _, b, hb => absurd hb (by simp)
 | x :: bs, lo, hi, h, b, hb => by
  obtain ⟨h0, h1, h2⟩ := h
  have h3 := tile_sum bs _ _ h2
  rcases List.mem_cons.mp hb with rfl | hb
  ·omega
  ·have := tile_mem bs _ _ h2 b hb
   omega
def Cut (fx : List Int) : List S98 → Prop
 | [] => True
 | b :: _ => opB b = false ∨ b.f0 ∈ fx
def gapR : List S98 → S50
 | [] => ⟨0, 0, 0⟩
 | b :: bs => ⟨0, b.f0, sumB (b :: bs)⟩
def emR (cur : List S98) : List S50 := if cur = [] then [] else [gapR cur]
def gapsW (fx : List Int) : List S98 → List S98 → List S50
 | cur, [] => emR cur
 | cur, b :: bs => if opB b = true then (if cur ≠ [] ∧ b.f0 ∉ fx then gapsW fx (cur ++ [b]) bs else emR cur ++ gapsW fx [b] bs) else emR cur ++ gapsW fx [] bs
def gapsB (fx : List Int) (bx : List S98) : List S50 := gapsW fx [] bx
def emD (pre cur bs : List S98) : List (List S98 × List S98 × List S98) := if cur = [] then [] else [(pre, cur, bs)]
def decs (fx : List Int) : List S98 → List S98 → List S98 → List (List S98 × List S98 × List S98)
 | pre, cur, [] => emD pre cur []
 | pre, cur, b :: bs => if opB b = true then (if cur ≠ [] ∧ b.f0 ∉ fx then decs fx pre (cur ++ [b]) bs else emD pre cur (b :: bs) ++ decs fx (pre ++ cur) [b] bs) else emD pre cur (b :: bs) ++ decs fx (pre ++ cur ++ [b]) [] bs
theorem emD_gap (pre cur bs : List S98) : (emD pre cur bs).map (fun d => gapR d.2.1) = emR cur := by
 unfold emD emR; split <;> rfl
theorem decs_gaps (fx : List Int) : ∀ (bs pre cur : List S98), (decs fx pre cur bs).map (fun d => gapR d.2.1) = gapsW fx cur bs
 | [], pre, cur => emD_gap pre cur []
 | b :: bs, pre, cur => by
  simp only [decs, gapsW]
  split
  ·split
   ·exact decs_gaps fx bs _ _
   ·rw [List.map_append, emD_gap, decs_gaps fx bs]
  ·rw [List.map_append, emD_gap, decs_gaps fx bs]
theorem gapsW_cut (fx : List Int) (B cur : List S98) (h : Cut fx B) : gapsW fx cur B = emR cur ++ gapsW fx [] B := by
 cases B with
 | nil => simp [gapsW, emR]
 | cons b B =>
  have e : emR [] = [] := rfl
  simp only [gapsW]
  by_cases hb : opB b = true
  ·have hf : b.f0 ∈ fx := by
    rcases h with h | h
    ·rw [hb] at h; cases h
    ·exact h
   rw [if_pos hb, if_pos hb, if_neg (fun c => c.2 hf), if_neg (fun c => c.2 hf), e, List.nil_append]
  ·rw [if_neg hb, if_neg hb, e, List.nil_append]
theorem gapsW_app (fx : List Int) (B : List S98) (h : Cut fx B) : ∀ (A cur : List S98), gapsW fx cur (A ++ B) = gapsW fx cur A ++ gapsW fx [] B
 | [], cur => gapsW_cut fx B cur h
 | a :: A, cur => by
  simp only [List.cons_append, gapsW]
  split
  ·split
   ·exact gapsW_app fx B h A _
   ·rw [gapsW_app fx B h A, List.append_assoc]
  ·rw [gapsW_app fx B h A, List.append_assoc]
def Shut (fx : List Int) (A : List S98) : Prop := ∀ Z, gapsW fx [] (A ++ Z) = gapsW fx [] A ++ gapsW fx [] Z
def ShutAt (fx : List Int) (A : List S98) (lo : Int) : Prop := ∀ z Z, z.f0 = lo → gapsW fx [] (A ++ z :: Z) = gapsW fx [] A ++ gapsW fx [] (z :: Z)
theorem shut_nil (fx : List Int) : Shut fx [] := fun Z => by simp [gapsW, emR]
theorem shut_snoc (fx : List Int) (A : List S98) (b : S98) (hb : opB b = false) : Shut fx (A ++ [b]) := by
 intro Z
 have hc : ∀ Z, Cut fx (b :: Z) := fun Z => Or.inl hb
 have hb' : ¬ opB b = true := by rw [hb]; simp
 rw [List.append_assoc, show [b] ++ Z = b :: Z from rfl, gapsW_app fx (b :: Z) (hc Z), gapsW_app fx [b] (hc []), List.append_assoc]
 simp only [gapsW]
 rw [if_neg hb', if_neg hb']
 simp [emR]
theorem Shut.at {fx : List Int} {A : List S98} (h : Shut fx A) (lo : Int) : ShutAt fx A lo := fun z Z _ => h (z :: Z)
theorem shutAt_fixed (fx : List Int) (A : List S98) (lo : Int) (h : lo ∈ fx) : ShutAt fx A lo := fun z Z e => gapsW_app fx (z :: Z) (Or.inr (by rw [e]; exact h)) A []
def loR (R : List S98) : Int := (R.headD z98).f0
structure RunAt (fx : List Int) (bx A R B : List S98) : Prop where
 all : A ++ R ++ B = bx
 ne : R ≠ []
 opn : ∀ b ∈ R, opB b = true
 free : ∀ b ∈ R.tail, b.f0 ∉ fx
 pre : ShutAt fx A (loR R)
 post : Cut fx B
theorem loR_app {R : List S98} (h : R ≠ []) (S : List S98) : loR (R ++ S) = loR R := by
 cases R with
 | nil => exact absurd rfl h
 | cons x R => rfl
theorem decs_runs (fx : List Int) : ∀ (bs pre cur : List S98), (cur = [] → Shut fx pre) → (cur ≠ [] → ShutAt fx pre (loR cur) ∧ (∀ b ∈ cur, opB b = true) ∧ ∀ b ∈ cur.tail, b.f0 ∉ fx) →
  ∀ d ∈ decs fx pre cur bs, RunAt fx (pre ++ cur ++ bs) d.1 d.2.1 d.2.2 := by
 intro bs
 induction bs with
 | nil =>
  intro pre cur h0 h1 d hd
  simp only [decs, emD] at hd
  split at hd
  ·simp at hd
  ·next hc =>
   simp only [List.mem_singleton] at hd
   subst hd
   exact ⟨rfl, hc, (h1 hc).2.1, (h1 hc).2.2, (h1 hc).1, trivial⟩
 | cons b bs ih =>
  intro pre cur h0 h1 d hd
  simp only [decs] at hd
  have em : ∀ (hC : Cut fx (b :: bs)), d ∈ emD pre cur (b :: bs) → RunAt fx (pre ++ cur ++ b :: bs) d.1 d.2.1 d.2.2 := by
   intro hC he
   simp only [emD] at he
   split at he
   ·simp at he
   ·next hc =>
    simp only [List.mem_singleton] at he
    subst he
    exact ⟨rfl, hc, (h1 hc).2.1, (h1 hc).2.2, (h1 hc).1, hC⟩
  by_cases hb : opB b = true
  ·rw [if_pos hb] at hd
   by_cases hc : cur ≠ [] ∧ b.f0 ∉ fx
   ·rw [if_pos hc] at hd
    obtain ⟨g1, g2, g3⟩ := h1 hc.1
    have := ih pre (cur ++ [b]) (fun e => by simp at e) (fun _ => ⟨by rw [loR_app hc.1]; exact g1, fun x hx => by
     rcases List.mem_append.mp hx with hx | hx
     ·exact g2 x hx
     ·rw [List.mem_singleton.mp hx]; exact hb, fun x hx => by
     rw [List.tail_append_of_ne_nil hc.1] at hx
     rcases List.mem_append.mp hx with hx | hx
     ·exact g3 x hx
     ·rw [List.mem_singleton.mp hx]; exact hc.2⟩) d hd
    simpa using this
   ·rw [if_neg hc] at hd
    rcases List.mem_append.mp hd with hd | hd
    ·by_cases hcur : cur = []
     ·subst hcur; simp [emD] at hd
     ·exact em (Or.inr (Classical.byContradiction fun e => hc ⟨hcur, e⟩)) hd
    ·have := ih (pre ++ cur) [b] (fun e => by simp at e) (fun _ => ⟨by
      by_cases hcur : cur = []
      ·subst hcur; rw [List.append_nil]; exact (h0 rfl).at _
      ·exact shutAt_fixed fx _ _ (Classical.byContradiction fun e => hc ⟨hcur, e⟩), fun x hx => by rw [List.mem_singleton.mp hx]; exact hb, fun x hx => by simp at hx⟩) d hd
     simpa using this
  ·rw [if_neg hb] at hd
   have hb' : opB b = false := by simpa using hb
   rcases List.mem_append.mp hd with hd | hd
   ·exact em (Or.inl hb') hd
   ·have := ih (pre ++ cur ++ [b]) [] (fun _ => shut_snoc fx _ b hb') (fun e => absurd rfl e) d hd
    simpa using this
theorem decs_top (fx : List Int) (bx : List S98) : ∀ d ∈ decs fx [] [] bx, RunAt fx bx d.1 d.2.1 d.2.2 := by
 have := decs_runs fx bx [] [] (fun _ => shut_nil fx) (fun e => absurd rfl e)
 simpa using this
theorem gapsW_run (fx : List Int) : ∀ (R cur : List S98), cur ≠ [] → (∀ b ∈ R, opB b = true) → (∀ b ∈ R, b.f0 ∉ fx) → gapsW fx cur R = [gapR (cur ++ R)]
 | [], cur, hc, _, _ => by simp only [gapsW, emR]; rw [if_neg hc, List.append_nil]
 | b :: R, cur, hc, h1, h2 => by
  simp only [gapsW]
  rw [if_pos (h1 b (by simp)), if_pos ⟨hc, h2 b (by simp)⟩, gapsW_run fx R (cur ++ [b]) (by simp) (fun x hx => h1 x (by simp [hx])) (fun x hx => h2 x (by simp [hx]))]
  simp
theorem run_gap {fx : List Int} {bx A R B : List S98} (h : RunAt fx bx A R B) : gapsB fx R = [gapR R] := by
 have h1 := h.ne
 have h2 := h.opn
 have h3 := h.free
 cases R with
 | nil => exact absurd rfl h1
 | cons r R =>
  unfold gapsB
  simp only [gapsW]
  rw [if_pos (h2 r (by simp)), if_neg (fun c => c.1 rfl), gapsW_run fx R [r] (by simp) (fun x hx => h2 x (by simp [hx])) (fun x hx => h3 x hx)]
  rfl
theorem run_put {fx : List Int} {bx A R B : List S98} (h : RunAt fx bx A R B) (N : List S98) (hN : N ≠ []) (hs : loR N = loR R ∨ Cut fx N) : gapsB fx (A ++ N ++ B) = gapsB fx A ++ gapsB fx N ++ gapsB fx B := by
 unfold gapsB
 cases N with
 | nil => exact absurd rfl hN
 | cons n N =>
  have h1 : gapsW fx [] (A ++ (n :: N)) = gapsW fx [] A ++ gapsW fx [] (n :: N) := by
   rcases hs with hs | hs
   ·exact h.pre n N hs
   ·exact gapsW_app fx (n :: N) hs A []
  rw [gapsW_app fx B h.post, h1]
theorem run_gaps {fx : List Int} {bx A R B : List S98} (h : RunAt fx bx A R B) : gapsB fx bx = gapsB fx A ++ [gapR R] ++ gapsB fx B := by
 rw [← h.all, run_put h R h.ne (Or.inl rfl), run_gap h]
theorem gapsW_asc (fx : List Int) : ∀ (bs cur : List S98) (lo hi : Int), tile lo bs hi → (cur ≠ [] → loR cur < lo) → (gapsW fx cur bs).Pairwise (fun a b => a.f1 < b.f1) ∧ ∀ g ∈ gapsW fx cur bs, (cur = [] → lo ≤ g.f1) ∧ (cur ≠ [] → loR cur ≤ g.f1)
 | [], cur, lo, hi, _, hc => by
  simp only [gapsW, emR]
  split
  ·next e => exact ⟨List.Pairwise.nil, fun g hg => absurd hg (by simp)⟩
  ·next e =>
   refine ⟨by simp, fun g hg => ⟨fun c => absurd c e, fun _ => ?_⟩⟩
   rw [List.mem_singleton.mp hg]
   cases cur with
   | nil => exact absurd rfl e
   | cons x cur => exact Int.le_refl _
 | b :: bs, cur, lo, hi, ht, hc => by
  obtain ⟨e0, e1, e2⟩ := ht
  simp only [gapsW]
  have em : ∀ (L : List S50), L.Pairwise (fun a b => a.f1 < b.f1) → (∀ g ∈ L, lo ≤ g.f1) → (emR cur ++ L).Pairwise (fun a b => a.f1 < b.f1) ∧ ∀ g ∈ emR cur ++ L, (cur = [] → lo ≤ g.f1) ∧ (cur ≠ [] → loR cur ≤ g.f1) := by
   intro L h1 h2
   unfold emR
   by_cases e : cur = []
   ·rw [if_pos e, List.nil_append]
    exact ⟨h1, fun g hg => ⟨fun _ => h2 g hg, fun c => absurd e c⟩⟩
   ·have hl := hc e
    have hg0 : (gapR cur).f1 = loR cur := by cases cur with | nil => exact absurd rfl e | cons x cur => rfl
    rw [if_neg e]
    refine ⟨List.pairwise_append.mpr ⟨by simp, h1, fun a ha b hb => ?_⟩, fun g hg => ⟨fun c => absurd c e, fun _ => ?_⟩⟩
    ·rw [List.mem_singleton.mp ha, hg0]; have := h2 b hb; omega
    ·rcases List.mem_append.mp hg with hg | hg
     ·rw [List.mem_singleton.mp hg, hg0]; exact Int.le_refl _
     ·have := h2 g hg; omega
  split
  ·split
   ·next h =>
    have ih := gapsW_asc fx bs (cur ++ [b]) _ hi e2 (fun _ => by rw [loR_app h.1]; have := hc h.1; omega)
    refine ⟨ih.1, fun g hg => ⟨fun c => absurd c h.1, fun _ => ?_⟩⟩
    have := (ih.2 g hg).2 (by simp)
    rwa [loR_app h.1] at this
   ·have ih := gapsW_asc fx bs [b] _ hi e2 (fun _ => by show b.f0 < _; omega)
    exact em _ ih.1 (fun g hg => by have := (ih.2 g hg).2 (by simp); show lo ≤ g.f1; have h2 : loR [b] = b.f0 := rfl; omega)
  ·have ih := gapsW_asc fx bs [] _ hi e2 (fun e => absurd rfl e)
   exact em _ ih.1 (fun g hg => by have := (ih.2 g hg).1 rfl; omega)
def fillB (lo sz : Int) (N bx : List S98) : List S98 := bx.flatMap (fun b => (if b.f0 = lo then N else []) ++ (if b.f0 < lo ∨ lo + sz ≤ b.f0 then [b] else []))
theorem fillB_out (lo sz : Int) (N : List S98) : ∀ (l : List S98), (∀ b ∈ l, b.f0 ≠ lo ∧ (b.f0 < lo ∨ lo + sz ≤ b.f0)) → fillB lo sz N l = l
 | [], _ => rfl
 | b :: l, h => by
  have h1 := h b (by simp)
  have ih := fillB_out lo sz N l (fun x hx => h x (by simp [hx]))
  unfold fillB at ih ⊢
  rw [List.flatMap_cons, ih, if_neg h1.1, if_pos h1.2]
  rfl
theorem fillB_in (lo sz : Int) (N : List S98) : ∀ (l : List S98), (∀ b ∈ l, lo < b.f0 ∧ b.f0 < lo + sz) → fillB lo sz N l = []
 | [], _ => rfl
 | b :: l, h => by
  have h1 := h b (by simp)
  have ih := fillB_in lo sz N l (fun x hx => h x (by simp [hx]))
  unfold fillB at ih ⊢
  rw [List.flatMap_cons, ih, if_neg (by omega), if_neg (by omega)]
  rfl
theorem fillB_run {A R B : List S98} {lo hi : Int} (h : tile lo (A ++ R ++ B) hi) (hR : R ≠ []) (N : List S98) : fillB (loR R) (sumB R) N (A ++ R ++ B) = A ++ N ++ B := by
 rw [tile_app, tile_app] at h
 obtain ⟨⟨hA, hM⟩, hB⟩ := h
 rw [sumB_app] at hB
 cases R with
 | nil => exact absurd rfl hR
 | cons r R =>
  have er : loR (r :: R) = r.f0 := rfl
  obtain ⟨m0, m1, m2⟩ := hM
  have s := tile_sum _ _ _ m2
  unfold fillB
  rw [List.flatMap_append, List.flatMap_append]
  have a1 := fillB_out (loR (r :: R)) (sumB (r :: R)) N A (fun b hb => by have := tile_mem _ _ _ hA b hb; rw [er]; omega)
  have a2 := fillB_out (loR (r :: R)) (sumB (r :: R)) N B (fun b hb => by have := tile_mem _ _ _ hB b hb; rw [er, sumB_cons] at *; omega)
  have a3 := fillB_in (loR (r :: R)) (sumB (r :: R)) N R (fun b hb => by have := tile_mem _ _ _ m2 b hb; rw [er, sumB_cons]; omega)
  unfold fillB at a1 a2 a3
  rw [a1, a2, List.flatMap_cons, a3, if_pos er.symm, if_neg (by rw [er, sumB_cons]; have := tile_sum _ _ _ m2; omega)]
  simp
def parcs (ps : List Int) : List S98 → Prop
 | [] => True
 | b :: bs => (0 ≤ b.f2 ∧ b.f2 ≤ 999) ∧ ¬ (0 < b.f2 ∧ b.f2 ∈ ps) ∧ parcs (b.f2 :: ps) bs
theorem boxS_iff : ∀ (bs : List S98) (low : Int) (ps : List Int) (e : Int), 0 ≤ low → low ≤ 24 → (boxS bs low ps = some e ↔ tile low bs e ∧ e ≤ 24 ∧ parcs ps bs)
 | [], low, ps, e, h0, h => by
  simp only [boxS, tile, parcs, Option.some.injEq]
  constructor
  ·rintro rfl; exact ⟨rfl, h, trivial⟩
  ·rintro ⟨h, _⟩; exact h
 | b :: bs, low, ps, e, hn, h => by
  simp only [boxS, tile, parcs]
  constructor
  ·intro hs
   split at hs
   ·next hc =>
    obtain ⟨h1, h2, h3⟩ := (boxS_iff bs _ _ e (by omega) hc.2.2.2.2).mp hs
    exact ⟨⟨hc.1, hc.2.1.1, h1⟩, h2, hc.2.2.1, hc.2.2.2.1, h3⟩
   ·cases hs
  ·rintro ⟨⟨h0, h1, h2⟩, h3, h4, h5, h6⟩
   have hs := tile_sum _ _ _ h2
   rw [if_pos ⟨h0, ⟨h1, by omega⟩, h4, h5, by omega⟩]
   exact (boxS_iff bs _ _ e (by omega) (by omega)).mpr ⟨h2, h3, h6⟩
structure ColV (h : Int) (fx : List Int) (bx : List S98) : Prop where
 hi : 1 ≤ h ∧ h ≤ 24
 til : tile 0 bx h
 par : parcs [] bx
 fix : fixP h none fx = true
 low : ∀ f ∈ fx, ∃ b ∈ bx, b.f0 = f
theorem colP_iff (h : Int) (fx : List Int) (bx : List S98) : colP h fx bx = true ↔ ColV h fx bx := by
 rw [← colS_eq]
 constructor
 ·intro e
  simp only [Bool.and_eq_true, decide_eq_true_eq] at e
  obtain ⟨e1, e2, e3, e4⟩ := e
  cases hS : boxS bx 0 [] with
  | none => rw [hS] at e2; simp [boxesS] at e2
  | some x =>
   rw [hS] at e2
   simp only [boxesS, Bool.and_eq_true, decide_eq_true_eq] at e2
   obtain ⟨_, rfl⟩ := e2
   obtain ⟨t1, t2, t3⟩ := (boxS_iff bx 0 [] x (by omega) (by omega)).mp hS
   refine ⟨e1, t1, t3, e3, fun f hf => ?_⟩
   have := List.all_eq_true.mp e4 f hf
   simp only [decide_eq_true_eq, List.mem_map] at this
   exact this
 ·intro v
  have hS := (boxS_iff bx 0 [] h (by omega) (by omega)).mpr ⟨v.til, v.hi.2, v.par⟩
  have hne : bx ≠ [] := by
   intro e
   have := v.til
   rw [e] at this
   simp only [tile] at this
   have := v.hi
   omega
  simp only [Bool.and_eq_true, decide_eq_true_eq]
  refine ⟨v.hi, ?_, v.fix, ?_⟩
  ·rw [hS]; simp [boxesS, hne]
  ·exact List.all_eq_true.mpr (fun f hf => by simp only [decide_eq_true_eq, List.mem_map]; exact v.low f hf)
theorem ColV.len {h : Int} {fx : List Int} {bx : List S98} (v : ColV h fx bx) : bx.length ≤ 24 := by
 have := tile_sum _ _ _ v.til
 have := v.hi
 omega
theorem ColV.mem {h : Int} {fx : List Int} {bx : List S98} (v : ColV h fx bx) {b : S98} (hb : b ∈ bx) : 0 ≤ b.f0 ∧ 1 ≤ b.f1 ∧ b.f0 + b.f1 ≤ 24 := by
 have := tile_mem _ _ _ v.til b hb
 have := v.hi
 omega
theorem parcs_iff : ∀ (bs : List S98) (ps : List Int), parcs ps bs ↔ (∀ b ∈ bs, 0 ≤ b.f2 ∧ b.f2 ≤ 999) ∧ (∀ b ∈ bs, 0 < b.f2 → b.f2 ∉ ps) ∧ bs.Pairwise (fun a b => 0 < b.f2 → a.f2 ≠ b.f2)
 | [], ps => by simp [parcs]
 | b :: bs, ps => by
  simp only [parcs]
  rw [parcs_iff bs]
  constructor
  ·rintro ⟨h1, h2, h3, h4, h5⟩
   refine ⟨fun x hx => ?_, fun x hx h0 => ?_, List.pairwise_cons.mpr ⟨fun x hx h0 e => h4 x hx h0 (by rw [← e]; simp), h5⟩⟩
   ·rcases List.mem_cons.mp hx with rfl | hx
    ·exact h1
    ·exact h3 x hx
   ·rcases List.mem_cons.mp hx with rfl | hx
    ·exact fun hm => h2 ⟨h0, hm⟩
    ·exact fun hm => h4 x hx h0 (by simp [hm])
  ·rintro ⟨h1, h2, h3⟩
   obtain ⟨h4, h5⟩ := List.pairwise_cons.mp h3
   refine ⟨h1 b (by simp), fun h => h2 b (by simp) h.1 h.2, fun x hx => h1 x (by simp [hx]), fun x hx h0 hm => ?_, h5⟩
   rcases List.mem_cons.mp hm with e | hm
   ·exact h4 x hx h0 e.symm
   ·exact h2 x (by simp [hx]) h0 hm
end Go.Proofs.Ytbpjidekjogfeaa.A

namespace Go.Proofs.Ytbpjidekjogfeaa.A
open Go.RowKit Go.Proofs.YtbpjidekjogfeaaW.PrintWords Go.Proofs.YtbpjidekjogfeaaW.PrintLast Go.Proofs.YtbpjidekjogfeaaW.PrintMore
attribute [local go_sem] max2_int min2_int max_two min_two max_three min_three max_four min_four   
set_option linter.unusedVariables false
set_option linter.unusedSimpArgs false
def idxP : List S98 → Int → Int → Int
 | [], _, _ => -1
 | b :: bs, p, i => if b.f2 = p then i else idxP bs p (i + 1)
end Go.Proofs.Ytbpjidekjogfeaa.A

namespace Go.Proofs.Ytbpjidekjogfeaa.A
open Go.RowKit Go.Proofs.YtbpjidekjogfeaaW.PrintWords Go.Proofs.YtbpjidekjogfeaaW.PrintLast Go.Proofs.YtbpjidekjogfeaaW.PrintMore
set_option linter.unusedVariables false
set_option linter.unusedSimpArgs false
def toI_Box (b : S123) : S98 := ⟨b.f0, b.f1, b.f2, b.f3⟩
theorem toIntS_ev (l : List Int) (hl : l.length ≤ 1048576) : Ev (fun k => laws_toIntS.f k l) l := Ev.mk l.length (fun k hk => by
 unfold laws_toIntS.f
 rw [if_pos (by omega), if_pos (by omega)]
 refine (map_loop (L := fun k acc i => laws_toIntS.l0 k l acc i) (xs := l) (g := id) 0 (fun k acc i hi ha => ?_) (fun k acc => ?_) l.length k _ 0 (by omega) hk (by simp) (fun j hj => by omega)).trans (by rw [List.map_id])
 ·simp only [laws_toIntS.l0]
  rw [if_pos (by omega), if_pos (by omega), if_pos (by omega), wsucc i (by omega)]
  rfl
 ·simp only [laws_toIntS.l0]
  rw [if_neg (by omega)])
theorem toBoxS_ev (l : List S123) (hl : l.length ≤ 1048576) : Ev (fun k => laws_toBoxS.f k l) (l.map toI_Box) := Ev.mk l.length (fun k hk => by
 unfold laws_toBoxS.f
 rw [if_pos (by omega), if_pos (by omega)]
 refine map_loop (L := fun k acc i => laws_toBoxS.l0 k l acc i) z123 (fun k acc i hi ha => ?_) (fun k acc => ?_) l.length k _ 0 (by omega) hk (by simp) (fun j hj => by omega)
 ·simp only [laws_toBoxS.l0]
  rw [if_pos (by omega), if_pos (by omega)]
  simp only [laws_toBox.f, Option.bind_some]
  rw [if_pos (by omega), wsucc i (by omega)]
  rfl
 ·simp only [laws_toBoxS.l0]
  rw [if_neg (by omega)])
theorem toColumn_ev (h : Int) (fx : List Int) (bx : List S123) (hf : fx.length ≤ 1048576) (hb : bx.length ≤ 1048576) : Ev (fun k => laws_toColumn.f k h fx bx) (h, fx, bx.map toI_Box) := by
 unfold laws_toColumn.f
 exact Ev.bind (toIntS_ev fx hf) (Ev.bind (toBoxS_ev bx hb) (Ev.ret _))
theorem szColumn_eq (h : Int) (fx : List Int) (bx : List S123) (a : Int) (h0 : 0 ≤ a) (h1 : a ≤ 1048576) (hf : fx.length ≤ 9223372036854775807) (hb : bx.length ≤ 9223372036854775807) : laws_szColumn.f h fx bx a = some (if a < fx.length + bx.length then -1 else a - fx.length - bx.length) := by
 unfold laws_szColumn.f laws_szIntS.f laws_szBoxS.f
 rw [wid (a - (fx.length : Int)) (by omega) (by omega)]
 by_cases c : a - (fx.length : Int) < 0
 ·rw [if_pos c]
  simp only [Option.bind_some]
  rw [if_pos (by omega), if_pos (by omega)]
 ·rw [if_neg c]
  simp only [Option.bind_some]
  rw [if_neg c, wid (a - (fx.length : Int) - (bx.length : Int)) (by omega) (by omega)]
  by_cases d : a - (fx.length : Int) - (bx.length : Int) < 0
  ·rw [if_pos d]
   simp only [Option.bind_some]
   rw [if_pos (by omega), if_pos (by omega)]
  ·rw [if_neg d]
   simp only [Option.bind_some]
   rw [if_neg d, if_neg (by omega)]
theorem eqIntS_ev (l : List Int) (hl : l.length ≤ 1048576) : Ev (fun k => laws_eqIntS.f k l l) true := Ev.mk l.length (fun k hk => by
 unfold laws_eqIntS.f
 rw [if_pos rfl]
 have h := all_loop (L := fun k i => laws_eqIntS.l0 k l l i) (n := l.length) (P := fun _ => true) (fun k i hi => ?_) (fun k => ?_) l.length k 0 (by omega) hk
 ·have e : (List.range' 0 l.length).all (fun _ => true) = true := by simp
  rw [e] at h
  exact h
 ·simp only [laws_eqIntS.l0]
  rw [if_pos (by omega), if_pos (by omega), if_pos (by omega)]
  simp only [if_true]
  rw [wsucc i (by omega)]
 ·simp only [laws_eqIntS.l0]
  rw [if_neg (by omega)])
theorem eqBoxS_ev (l : List S98) (hl : l.length ≤ 1048576) : Ev (fun k => laws_eqBoxS.f k l l) true := Ev.mk l.length (fun k hk => by
 unfold laws_eqBoxS.f
 rw [if_pos rfl]
 have h := all_loop (L := fun k i => laws_eqBoxS.l0 k l l i) (n := l.length) (P := fun _ => true) (fun k i hi => ?_) (fun k => ?_) l.length k 0 (by omega) hk
 ·have e : (List.range' 0 l.length).all (fun _ => true) = true := by simp
  rw [e] at h
  exact h
 ·simp only [laws_eqBoxS.l0]
  rw [if_pos (by omega), if_pos (by omega), if_pos (by omega)]
  simp only [laws_eqBox.f, bne_self_eq_false, Bool.false_eq_true, if_false, if_true, Option.bind_some]
  rw [wsucc i (by omega)]
 ·simp only [laws_eqBoxS.l0]
  rw [if_neg (by omega)])
theorem eqColumn_ev (h : Int) (fx : List Int) (bx : List S98) (hf : fx.length ≤ 1048576) (hb : bx.length ≤ 1048576) : Ev (fun k => laws_eqColumn.f k h fx bx h fx bx) true := by
 unfold laws_eqColumn.f
 refine Ev.pos rfl ?_
 refine Ev.bind (eqIntS_ev fx hf) ?_
 refine Ev.pos rfl ?_
 refine Ev.bind (eqBoxS_ev bx hb) ?_
 refine Ev.pos rfl ?_
 exact Ev.ret _
end Go.Proofs.Ytbpjidekjogfeaa.A

namespace Go.Proofs.Ytbpjidekjogfeaa.A
open Go.RowKit Go.Proofs.YtbpjidekjogfeaaW.PrintWords Go.Proofs.YtbpjidekjogfeaaW.PrintLast Go.Proofs.YtbpjidekjogfeaaW.PrintMore
set_option linter.unusedVariables false
set_option linter.unusedSimpArgs false
theorem idxP_add : ∀ (l : List S98) (p i : Int), 0 ≤ i → (idxP l p i = -1 ∧ ∀ b ∈ l, b.f2 ≠ p) ∨ ∃ l1 b l2, l = l1 ++ b :: l2 ∧ b.f2 = p ∧ (∀ x ∈ l1, x.f2 ≠ p) ∧ idxP l p i = i + l1.length
 | [], p, i, _ => Or.inl ⟨rfl, by simp⟩
 | b :: l, p, i, hi => by
  simp only [idxP]
  by_cases c : b.f2 = p
  ·rw [if_pos c]
   exact Or.inr ⟨[], b, l, rfl, c, by simp, by simp⟩
  ·rw [if_neg c]
   rcases idxP_add l p (i + 1) (by omega) with ⟨h1, h2⟩ | ⟨l1, x, l2, h1, h2, h3, h4⟩
   ·exact Or.inl ⟨h1, fun y hy => by
     rcases List.mem_cons.mp hy with rfl | hy
     ·exact c
     ·exact h2 y hy⟩
   ·refine Or.inr ⟨b :: l1, x, l2, by rw [h1]; rfl, h2, fun y hy => ?_, by rw [h4, List.length_cons]; omega⟩
    rcases List.mem_cons.mp hy with rfl | hy
    ·exact c
    ·exact h3 y hy
theorem idxP_cases (l : List S98) (p : Int) : (idxP l p 0 = -1 ∧ ∀ b ∈ l, b.f2 ≠ p) ∨ ∃ l1 b l2, l = l1 ++ b :: l2 ∧ b.f2 = p ∧ (∀ x ∈ l1, x.f2 ≠ p) ∧ idxP l p 0 = l1.length := by
 rcases idxP_add l p 0 (Int.le_refl _) with h | ⟨l1, b, l2, h1, h2, h3, h4⟩
 ·exact Or.inl h
 ·exact Or.inr ⟨l1, b, l2, h1, h2, h3, by rw [h4]; omega⟩
def boxI (l : List S98) (p : Int) : Int := if 0 < p then idxP l p 0 else -1
theorem box_loop (h : Int) (fx : List Int) (bx : List S98) (hl : bx.length ≤ 1048576) (p : Int) : ∀ (rest : List S98) (i : Nat), bx.drop i = rest → i ≤ bx.length → Ev (fun k => spec_l02Box.l0 k p (i : Int) h fx bx) (if 0 < p then idxP rest p (i : Int) else -1)
 | [], i, hd, hi => by
  have he := drop_end hd hi
  refine Ev.succ ?_
  simp only [spec_l02Box.l0]
  refine Ev.neg (by omega) ?_
  refine Ev.to (Ev.ret _) ?_
  simp [idxP]
 | b :: rest, i, hd, hi => by
  obtain ⟨h1, h2, h3⟩ := drop_step z98 hd
  have er : rd_T98 bx (i : Int) = b := h2
  have ih := box_loop h fx bx hl p rest (i + 1) h3 (by omega)
  refine Ev.succ ?_
  simp only [spec_l02Box.l0, er]
  refine Ev.pos (by omega) ?_
  refine Ev.pos (by omega) ?_
  rw [wsucc i (by omega)]
  by_cases c : b.f2 = p
  ·refine Ev.pos c ?_
   by_cases d : p > 0
   ·refine Ev.pos d (Ev.to (Ev.ret _) ?_)
    rw [if_pos d]
    simp only [idxP]
    rw [if_pos c]
   ·refine Ev.neg d (Ev.to ih ?_)
    rw [if_neg d, if_neg d]
  ·refine Ev.neg c (Ev.to ih ?_)
   simp only [idxP]
   rw [if_neg c]
   rfl
theorem box_ev (h : Int) (fx : List Int) (bx : List S98) (hl : bx.length ≤ 1048576) (p : Int) : Ev (fun k => spec_l02Box.f k h fx bx p) (boxI bx p) := by
 unfold spec_l02Box.f
 exact box_loop h fx bx hl p bx 0 rfl (by omega)
end Go.Proofs.Ytbpjidekjogfeaa.A

namespace Go.Proofs.Ytbpjidekjogfeaa.A
open Go.RowKit Go.Proofs.YtbpjidekjogfeaaW.PrintWords Go.Proofs.YtbpjidekjogfeaaW.PrintLast Go.Proofs.YtbpjidekjogfeaaW.PrintMore
set_option linter.unusedVariables false
set_option linter.unusedSimpArgs false
def Small (cs : List S41) : Prop := cs.length ≤ 1048576 ∧ ∀ c ∈ cs, c.f1.length ≤ 1048576 ∧ c.f2.length ≤ 1048576
def crossP (c d : S41) : Bool := d.f2.all (fun b => decide (boxI c.f2 b.f2 < 0))
def bankS : List S41 → List S41 → Bool
 | _, [] => true
 | pre, c :: rest => colP c.f0 c.f1 c.f2 && (pre.all (fun p => crossP p c) && bankS (pre ++ [c]) rest)
theorem bank2_loop (cs : List S41) (hs : Small cs) (i j : Nat) (hi : i < cs.length) (hj : j < i) (r : Bool) (hr : Ev (fun k => spec_BankOk.l1 k cs (i : Int) ((j + 1 : Nat) : Int)) r) :
  ∀ (rest : List S98) (n : Nat), (cs.getD i z41).f2.drop n = rest → n ≤ (cs.getD i z41).f2.length → Ev (fun k => spec_BankOk.l2 k cs (i : Int) (j : Int) (n : Int)) (rest.all (fun b => decide (boxI (cs.getD j z41).f2 b.f2 < 0)) && r)
 | [], n, hd, hn => by
  have he := drop_end hd hn
  have er : rd_T41 cs (i : Int) = cs.getD i z41 := rfl
  have hl := hs.1
  refine Ev.succ ?_
  simp only [spec_BankOk.l2, er]
  refine Ev.pos (by omega) (Ev.pos (by omega) (Ev.neg (by omega) ?_))
  rw [wsucc j (by omega)]
  exact hr
 | b :: rest, n, hd, hn => by
  obtain ⟨h1, h2, h3⟩ := drop_step z98 hd
  have er : rd_T41 cs (i : Int) = cs.getD i z41 := rfl
  have er2 : rd_T41 cs (j : Int) = cs.getD j z41 := rfl
  have eb : rd_T98 (cs.getD i z41).f2 (n : Int) = b := h2
  have hl := hs.1
  have hmem : cs.getD i z41 ∈ cs := by rw [getD_gen _ hi]; exact List.getElem_mem _
  have hmem2 : cs.getD j z41 ∈ cs := by rw [getD_gen _ (show j < cs.length by omega)]; exact List.getElem_mem _
  have hl2 := (hs.2 _ hmem).2
  have hl3 := (hs.2 _ hmem2).2
  have ih := bank2_loop cs hs i j hi hj r hr rest (n + 1) h3 (by omega)
  refine Ev.succ ?_
  simp only [spec_BankOk.l2, er, er2, eb, List.all_cons]
  refine Ev.pos (by omega) (Ev.pos (by omega) (Ev.pos (by omega) (Ev.pos (by omega) (Ev.pos (by omega) (Ev.pos (by omega) ?_)))))
  refine Ev.bind (box_ev _ _ _ hl3 _) ?_
  rw [wsucc n (by omega)]
  by_cases c : boxI (cs.getD j z41).f2 b.f2 < 0
  ·refine Ev.neg (by omega) ?_
   rw [decide_eq_true c, Bool.true_and]
   exact ih
  ·refine Ev.pos (by omega) ?_
   rw [decide_eq_false c, Bool.false_and, Bool.false_and]
   exact Ev.ret _
theorem bank1_loop (cs : List S41) (hs : Small cs) (i : Nat) (hi : i < cs.length) (r : Bool) (hr : Ev (fun k => spec_BankOk.l0 k cs ((i + 1 : Nat) : Int)) r) :
  ∀ (d j : Nat), j + d = i → Ev (fun k => spec_BankOk.l1 k cs (i : Int) (j : Int)) (((cs.take i).drop j).all (fun p => crossP p (cs.getD i z41)) && r)
 | 0, j, hj => by
  have hl := hs.1
  refine Ev.succ ?_
  simp only [spec_BankOk.l1]
  refine Ev.neg (by omega) ?_
  rw [wsucc i (by omega), List.drop_eq_nil_of_le (by rw [List.length_take]; omega), List.all_nil, Bool.true_and]
  exact hr
 | d + 1, j, hj => by
  have hl := hs.1
  have ih := bank1_loop cs hs i hi r hr d (j + 1) (by omega)
  have h2 := bank2_loop cs hs i j hi (by omega) _ ih (cs.getD i z41).f2 0 rfl (by omega)
  refine Ev.succ ?_
  simp only [spec_BankOk.l1]
  refine Ev.pos (by omega) (h2.to ?_)
  have e : (cs.take i).drop j = cs.getD j z41 :: (cs.take i).drop (j + 1) := by
   have hj2 : j < (cs.take i).length := by rw [List.length_take]; omega
   rw [drop_cons _ z41 j hj2, List.getD_eq_getElem?_getD, List.getElem?_take_of_lt (by omega), ← List.getD_eq_getElem?_getD]
  rw [e, List.all_cons, Bool.and_assoc]
  rfl
theorem bank0_loop (cs : List S41) (hs : Small cs) : ∀ (rest : List S41) (i : Nat), cs.drop i = rest → i ≤ cs.length → Ev (fun k => spec_BankOk.l0 k cs (i : Int)) (bankS (cs.take i) rest)
 | [], i, hd, hi => by
  have he := drop_end hd hi
  refine Ev.succ ?_
  simp only [spec_BankOk.l0, bankS]
  exact Ev.neg (by omega) (Ev.ret _)
 | c :: rest, i, hd, hi => by
  obtain ⟨h1, h2, h3⟩ := drop_step z41 hd
  have er : rd_T41 cs (i : Int) = c := h2
  have hc : c ∈ cs := by rw [← h2, getD_gen _ h1]; exact List.getElem_mem _
  have hcs := hs.2 c hc
  have ih := bank0_loop cs hs rest (i + 1) h3 (by omega)
  have hi1 := bank1_loop cs hs i h1 _ ih i 0 (by omega)
  refine Ev.succ ?_
  simp only [spec_BankOk.l0, er, bankS]
  refine Ev.pos (by omega) (Ev.pos (by omega) (Ev.bind (colok_ev _ _ (by omega) _ (by omega)) ?_))
  have et : cs.take (i + 1) = cs.take i ++ [c] := by
   rw [List.take_add_one, ← h2, List.getD_eq_getElem?_getD, List.getElem?_eq_getElem h1]
   rfl
  by_cases d : colP c.f0 c.f1 c.f2 = true
  ·refine Ev.pos d (hi1.to ?_)
   rw [d, Bool.true_and, List.drop_zero, h2, et]
  ·refine Ev.neg d ((Ev.ret _).to ?_)
   have : colP c.f0 c.f1 c.f2 = false := by simpa using d
   rw [this, Bool.false_and]
def crossV (c d : S41) : Prop := ∀ a ∈ c.f2, ∀ b ∈ d.f2, 0 < b.f2 → a.f2 ≠ b.f2
theorem boxI_neg (l : List S98) (p : Int) : boxI l p < 0 ↔ (0 < p → ∀ a ∈ l, a.f2 ≠ p) := by
 unfold boxI
 by_cases h : 0 < p
 ·rw [if_pos h]
  rcases idxP_cases l p with ⟨h1, h2⟩ | ⟨l1, b, l2, h1, h2, h3, h4⟩
  ·rw [h1]
   exact ⟨fun _ _ => h2, fun _ => by omega⟩
  ·rw [h4]
   constructor
   ·intro c; omega
   ·intro c
    exact absurd h2 (c h b (by rw [h1]; simp))
 ·rw [if_neg h]
  exact ⟨fun _ c => absurd c h, fun _ => by omega⟩
theorem crossP_iff (c d : S41) : crossP c d = true ↔ crossV c d := by
 unfold crossP crossV
 rw [List.all_eq_true]
 constructor
 ·intro h a ha b hb h0
  have := of_decide_eq_true (h b hb)
  exact (boxI_neg _ _).mp this h0 a ha
 ·intro h b hb
  exact decide_eq_true ((boxI_neg _ _).mpr (fun h0 a ha => h a ha b hb h0))
theorem bankS_iff : ∀ (rest pre : List S41), bankS pre rest = true ↔ (∀ c ∈ rest, colP c.f0 c.f1 c.f2 = true) ∧ (∀ p ∈ pre, ∀ c ∈ rest, crossV p c) ∧ rest.Pairwise crossV
 | [], pre => by simp [bankS]
 | c :: rest, pre => by
  simp only [bankS, Bool.and_eq_true]
  rw [bankS_iff rest, List.all_eq_true]
  constructor
  ·rintro ⟨h1, h2, h3, h4, h5⟩
   refine ⟨fun d hd => ?_, fun p hp d hd => ?_, List.pairwise_cons.mpr ⟨fun d hd => h4 c (by simp) d hd, h5⟩⟩
   ·rcases List.mem_cons.mp hd with rfl | hd
    ·exact h1
    ·exact h3 d hd
   ·rcases List.mem_cons.mp hd with rfl | hd
    ·exact (crossP_iff _ _).mp (h2 p hp)
    ·exact h4 p (by simp [hp]) d hd
  ·rintro ⟨h1, h2, h3⟩
   obtain ⟨h4, h5⟩ := List.pairwise_cons.mp h3
   refine ⟨h1 c (by simp), fun p hp => (crossP_iff _ _).mpr (h2 p hp c (by simp)), fun d hd => h1 d (by simp [hd]), fun p hp d hd => ?_, h5⟩
   rcases List.mem_append.mp hp with hp | hp
   ·exact h2 p hp d (by simp [hd])
   ·rw [List.mem_singleton.mp hp]; exact h4 d hd
theorem parP_iff : ∀ (bs : List S98) (ps : List Int), bs.Pairwise (fun a b => 0 < b.f2 → a.f2 ≠ b.f2) →
  ((∀ b ∈ bs, 0 < b.f2 → b.f2 ∉ ps) ∧ ∃ qs, parP bs ps = some qs ∧ ∀ x, x ∈ qs ↔ x ∈ ps ∨ ∃ b ∈ bs, b.f2 = x) ∨ (¬ (∀ b ∈ bs, 0 < b.f2 → b.f2 ∉ ps) ∧ parP bs ps = none)
 | [], ps, _ => Or.inl ⟨by simp, ps, rfl, by simp⟩
 | b :: bs, ps, hp => by
  obtain ⟨h1, h2⟩ := List.pairwise_cons.mp hp
  simp only [parP]
  by_cases c : 0 < b.f2 ∧ b.f2 ∈ ps
  ·rw [if_pos c]
   exact Or.inr ⟨fun h => h b (by simp) c.1 c.2, rfl⟩
  ·rw [if_neg c]
   rcases parP_iff bs (b.f2 :: ps) h2 with ⟨h3, qs, h4, h5⟩ | ⟨h3, h4⟩
   ·refine Or.inl ⟨fun x hx h0 => ?_, qs, h4, fun x => ?_⟩
    ·rcases List.mem_cons.mp hx with rfl | hx
     ·exact fun h => c ⟨h0, h⟩
     ·exact fun h => h3 x hx h0 (by simp [h])
    ·rw [h5 x, List.mem_cons]
     constructor
     ·rintro ((h | h) | ⟨y, hy, e⟩)
      ·exact Or.inr ⟨b, by simp, h.symm⟩
      ·exact Or.inl h
      ·exact Or.inr ⟨y, by simp [hy], e⟩
     ·rintro (h | ⟨y, hy, e⟩)
      ·exact Or.inl (Or.inr h)
      ·rcases List.mem_cons.mp hy with rfl | hy
       ·exact Or.inl (Or.inl e.symm)
       ·exact Or.inr ⟨y, hy, e⟩
   ·refine Or.inr ⟨fun h => h3 (fun x hx h0 hm => ?_), h4⟩
    rcases List.mem_cons.mp hm with e | hm
    ·exact h1 x hx h0 e.symm
    ·exact h x (by simp [hx]) h0 hm
theorem bankL_iff : ∀ (cs : List S41) (ps : List Int), bankL cs ps = true ↔ (∀ c ∈ cs, colP c.f0 c.f1 c.f2 = true) ∧ (∀ c ∈ cs, ∀ b ∈ c.f2, 0 < b.f2 → b.f2 ∉ ps) ∧ cs.Pairwise crossV
 | [], ps => by simp [bankL]
 | c :: cs, ps => by
  simp only [bankL, Bool.and_eq_true]
  by_cases hc : colP c.f0 c.f1 c.f2 = true
  ·have v := (colP_iff _ _ _).mp hc
   rcases parP_iff c.f2 ps ((parcs_iff _ _).mp v.par).2.2 with ⟨h3, qs, h4, h5⟩ | ⟨h3, h4⟩
   ·rw [h4]
    dsimp only
    rw [bankL_iff cs qs]
    constructor
    ·rintro ⟨_, g1, g2, g3⟩
     refine ⟨fun d hd => ?_, fun d hd b hb h0 => ?_, List.pairwise_cons.mpr ⟨fun d hd a ha b hb h0 e => g2 d hd b hb h0 ((h5 _).mpr (Or.inr ⟨a, ha, e⟩)), g3⟩⟩
     ·rcases List.mem_cons.mp hd with rfl | hd
      ·exact hc
      ·exact g1 d hd
     ·rcases List.mem_cons.mp hd with rfl | hd
      ·exact h3 b hb h0
      ·exact fun h => g2 d hd b hb h0 ((h5 _).mpr (Or.inl h))
    ·rintro ⟨g1, g2, g3⟩
     obtain ⟨g4, g5⟩ := List.pairwise_cons.mp g3
     refine ⟨hc, fun d hd => g1 d (by simp [hd]), fun d hd b hb h0 h => ?_, g5⟩
     rcases (h5 _).mp h with h | ⟨a, ha, e⟩
     ·exact g2 d (by simp [hd]) b hb h0 h
     ·exact g4 d hd a ha b hb h0 e
   ·rw [h4]
    dsimp only
    constructor
    ·rintro ⟨_, h⟩; simp at h
    ·rintro ⟨_, g2, _⟩
     exact absurd (fun b hb h0 => g2 c (by simp) b hb h0) h3
  ·constructor
   ·rintro ⟨h, _⟩; exact absurd h hc
   ·rintro ⟨h, _⟩; exact absurd (h c (by simp)) hc
structure BankV (cs : List S41) : Prop where
 len : 1 ≤ (cs.length : Int) ∧ (cs.length : Int) ≤ 6
 col : ∀ c ∈ cs, colP c.f0 c.f1 c.f2 = true
 cross : cs.Pairwise crossV
theorem bankP_iff (cs : List S41) : bankP cs = true ↔ BankV cs := by
 unfold bankP
 rw [Bool.and_eq_true, decide_eq_true_iff, bankL_iff]
 constructor
 ·rintro ⟨h1, h2, _, h3⟩; exact ⟨h1, h2, h3⟩
 ·rintro ⟨h1, h2, h3⟩; exact ⟨h1, h2, fun _ _ _ _ _ => by simp, h3⟩
theorem bankok_ev (cs : List S41) (hs : Small cs) : Ev (fun k => spec_BankOk.f k cs) (bankP cs) := by
 unfold spec_BankOk.f
 refine Ev.bind (Ev.const (in_eq _ _ _)) ?_
 by_cases c : 1 ≤ (cs.length : Int) ∧ (cs.length : Int) ≤ 6
 ·refine Ev.pos (decide_eq_true c) ?_
  refine (bank0_loop cs hs cs 0 rfl (by omega)).to ?_
  have e : bankS [] cs = bankL cs [] := by
   rw [Bool.eq_iff_iff, bankS_iff, bankL_iff]
   constructor
   ·rintro ⟨h1, _, h3⟩; exact ⟨h1, fun _ _ _ _ _ => by simp, h3⟩
   ·rintro ⟨h1, _, h3⟩; exact ⟨h1, fun p hp => absurd hp (by simp), h3⟩
  unfold bankP
  rw [decide_eq_true c, Bool.true_and, ← e]
  rfl
 ·refine Ev.neg (by simpa using c) ((Ev.ret _).to ?_)
  unfold bankP
  rw [decide_eq_false c, Bool.false_and]
def toI_Col (c : S58) : S41 := ⟨c.f0, c.f1, c.f2.map toI_Box⟩
def wt (l : List S58) : Int := (l.map (fun c => ((c.f1.length : Int) + c.f2.length))).foldr (· + ·) 0
theorem wt_nonneg : ∀ (l : List S58), 0 ≤ wt l
 | [] => Int.le_refl _
 | c :: l => by
  have := wt_nonneg l
  show 0 ≤ ((c.f1.length : Int) + c.f2.length) + wt l
  omega
theorem wt_mem : ∀ (l : List S58) (c : S58), c ∈ l → (c.f1.length : Int) + c.f2.length ≤ wt l
 | [], c, h => absurd h (by simp)
 | d :: l, c, h => by
  have hn := wt_nonneg l
  show _ ≤ ((d.f1.length : Int) + d.f2.length) + wt l
  rcases List.mem_cons.mp h with rfl | h
  ·omega
  ·have := wt_mem l c h; omega
theorem szS_loop (l : List S58) (hl : l.length ≤ 1048576) (hm : ∀ c ∈ l, c.f1.length ≤ 9223372036854775807 ∧ c.f2.length ≤ 9223372036854775807) : ∀ (rest : List S58) (i : Nat) (a : Int), l.drop i = rest → i ≤ l.length → 0 ≤ a → a ≤ 1048576 → Ev (fun k => laws_szColumnS.l0 k l a (i : Int)) (if a < wt rest then -1 else a - wt rest)
 | [], i, a, hd, hi, h0, h1 => by
  have he := drop_end hd hi
  refine Ev.succ ?_
  simp only [laws_szColumnS.l0]
  refine Ev.neg (by omega) ((Ev.ret _).to ?_)
  have : wt [] = 0 := rfl
  rw [this, if_neg (by omega)]
  omega
 | c :: rest, i, a, hd, hi, h0, h1 => by
  obtain ⟨h2, h3, h4⟩ := drop_step z58 hd
  have er : rd_T58 l (i : Int) = c := h3
  have hc : c ∈ l := by rw [← h3, getD_gen _ h2]; exact List.getElem_mem _
  have hn := wt_nonneg rest
  have ew : wt (c :: rest) = ((c.f1.length : Int) + c.f2.length) + wt rest := rfl
  refine Ev.succ ?_
  simp only [laws_szColumnS.l0, er]
  refine Ev.pos (by omega) (Ev.pos (by omega) (Ev.bind (Ev.const (szColumn_eq _ _ _ a h0 h1 (hm c hc).1 (hm c hc).2)) ?_))
  by_cases d : a < (c.f1.length : Int) + c.f2.length
  ·rw [if_pos d, if_pos (by omega)]
   exact Ev.pos (by omega) (Ev.ret _)
  ·rw [if_neg d, wsucc i (by omega)]
   refine Ev.neg (by omega) ((szS_loop l hl hm rest (i + 1) _ h4 (by omega) (by omega) (by omega)).to ?_)
   by_cases e : a < wt (c :: rest)
   ·rw [if_pos e, if_pos (by omega)]
   ·rw [if_neg e, if_neg (by omega)]
    omega
theorem szS_ev (l : List S58) (hl : l.length ≤ 9223372036854775807) (hm : ∀ c ∈ l, c.f1.length ≤ 9223372036854775807 ∧ c.f2.length ≤ 9223372036854775807) : ∃ r : Int, Ev (fun k => laws_szColumnS.f k l 1048576) r ∧ (r < 0 ∨ (0 ≤ r ∧ (l.length : Int) + wt l ≤ 1048576)) := by
 have hn := wt_nonneg l
 unfold laws_szColumnS.f
 rw [wid (1048576 - (l.length : Int)) (by omega) (by omega)]
 by_cases c : 1048576 - (l.length : Int) < 0
 ·exact ⟨-1, Ev.pos c (Ev.ret _), Or.inl (by omega)⟩
 ·refine ⟨_, Ev.neg c (szS_loop l (by omega) hm l 0 _ rfl (by omega) (by omega) (by omega)), ?_⟩
  by_cases d : 1048576 - (l.length : Int) < wt l
  ·rw [if_pos d]; exact Or.inl (by omega)
  ·rw [if_neg d]; exact Or.inr ⟨by omega, by omega⟩
theorem map_ev {α β : Type} {L : Nat → List β → Int → Option (List β)} {xs : List α} {g : α → β} (d0 : α)
  (h : ∀ acc (i : Nat) r, i < xs.length → acc.length = xs.length → Ev (fun k => L k (acc.set i (g (xs.getD i d0))) ((i + 1 : Nat) : Int)) r → Ev (fun k => L k acc (i : Int)) r)
  (he : ∀ acc, Ev (fun k => L k acc (xs.length : Int)) acc) : ∀ (d : Nat) acc i, i + d = xs.length → acc.length = xs.length → (∀ j, j < i → acc[j]? = (xs.map g)[j]?) → Ev (fun k => L k acc (i : Int)) (xs.map g)
 | 0, acc, i, hi, hl, hp => by
  obtain rfl : i = xs.length := by omega
  refine (he acc).to ?_
  apply List.ext_getElem?
  intro j
  by_cases hj : j < xs.length
  ·exact hp j hj
  ·rw [List.getElem?_eq_none (by omega), List.getElem?_eq_none (by simp; omega)]
 | d + 1, acc, i, hi, hl, hp => by
  refine h acc i _ (by omega) hl (map_ev d0 h he d _ (i + 1) (by omega) (by simp [hl]) (fun j hj => ?_))
  by_cases e : i = j
  ·subst e
   rw [List.getElem?_set_self (by omega), List.getElem?_map, List.getElem?_eq_getElem (show i < xs.length by omega), List.getD_eq_getElem?_getD, List.getElem?_eq_getElem (show i < xs.length by omega)]
   rfl
  ·rw [List.getElem?_set_ne e]
   exact hp j (by omega)
theorem toColumnS_ev (l : List S58) (hl : l.length ≤ 1048576) (hm : ∀ c ∈ l, c.f1.length ≤ 1048576 ∧ c.f2.length ≤ 1048576) : Ev (fun k => laws_toColumnS.f k l) (l.map toI_Col) := by
 unfold laws_toColumnS.f
 refine Ev.pos (by omega) (Ev.pos (by omega) ?_)
 refine map_ev (L := fun k acc i => laws_toColumnS.l0 k l acc i) z58 (fun acc i r hi ha ih => ?_) (fun acc => ?_) l.length _ 0 (by omega) (by simp) (fun j hj => by omega)
 ·refine Ev.succ ?_
  simp only [laws_toColumnS.l0]
  have er : rd_T58 l (i : Int) = l.getD i z58 := rfl
  have hc : l.getD i z58 ∈ l := by rw [getD_gen _ hi]; exact List.getElem_mem _
  rw [er, wsucc i (by omega)]
  refine Ev.pos (by omega) (Ev.pos (by omega) (Ev.bind (toColumn_ev _ _ _ (hm _ hc).1 (hm _ hc).2) (Ev.pos (by omega) ?_)))
  exact ih
 ·refine Ev.succ ?_
  simp only [laws_toColumnS.l0]
  exact Ev.neg (by omega) (Ev.ret _)
theorem eqColumnS_ev (l : List S41) (hs : Small l) : Ev (fun k => laws_eqColumnS.f k l l) true := by
 have hl := hs.1
 have go : ∀ (rest : List S41) (i : Nat), l.drop i = rest → i ≤ l.length → Ev (fun k => laws_eqColumnS.l0 k l l (i : Int)) true := by
  intro rest
  induction rest with
  | nil =>
   intro i hd hi
   have he := drop_end hd hi
   refine Ev.succ ?_
   simp only [laws_eqColumnS.l0]
   exact Ev.neg (by omega) (Ev.ret _)
  | cons c rest ih =>
   intro i hd hi
   obtain ⟨h1, h2, h3⟩ := drop_step z41 hd
   have er : rd_T41 l (i : Int) = c := h2
   have hc : c ∈ l := by rw [← h2, getD_gen _ h1]; exact List.getElem_mem _
   refine Ev.succ ?_
   simp only [laws_eqColumnS.l0, er]
   rw [wsucc i (by omega)]
   exact Ev.pos (by omega) (Ev.pos (by omega) (Ev.pos (by omega) (Ev.bind (eqColumn_ev _ _ _ (hs.2 c hc).1 (hs.2 c hc).2) (Ev.pos (by trivial) (ih (i + 1) h3 (by omega))))))
 unfold laws_eqColumnS.f
 exact Ev.pos rfl (go l 0 rfl (by omega))
theorem bank_begin (l : List S58) (hl : ok22 l) : (∃ r : Int, Ev (fun k => laws_szColumnS.f k l 1048576) r ∧ r < 0) ∨ (∃ r : Int, Ev (fun k => laws_szColumnS.f k l 1048576) r ∧ 0 ≤ r) ∧ Ev (fun k => laws_toColumnS.f k l) (l.map toI_Col) ∧ Small (l.map toI_Col) ∧ (l.length : Int) + wt l ≤ 1048576 := by
 obtain ⟨h1, h2⟩ := hl
 unfold maxLen at h1
 obtain ⟨r, hr, h3⟩ := szS_ev l (by omega) (fun c hc => by
  obtain ⟨_, ⟨h4, _⟩, ⟨h5, _⟩⟩ := h2 c hc
  unfold maxLen at h4 h5
  exact ⟨by omega, by omega⟩)
 rcases h3 with h3 | ⟨h3, h4⟩
 ·exact Or.inl ⟨r, hr, h3⟩
 ·have hn := wt_nonneg l
  have hm : ∀ c ∈ l, c.f1.length ≤ 1048576 ∧ c.f2.length ≤ 1048576 := fun c hc => by
   have := wt_mem l c hc
   omega
  refine Or.inr ⟨⟨r, hr, h3⟩, toColumnS_ev l (by omega) hm, ⟨by rw [List.length_map]; omega, fun c hc => ?_⟩, h4⟩
  obtain ⟨d, hd, rfl⟩ := List.mem_map.mp hc
  have := hm d hd
  exact ⟨this.1, by show (d.f2.map toI_Box).length ≤ _; rw [List.length_map]; exact this.2⟩
end Go.Proofs.Ytbpjidekjogfeaa.A

namespace Go.Proofs.Ytbpjidekjogfeaa.A
open Go.RowKit Go.Proofs.YtbpjidekjogfeaaW.PrintWords Go.Proofs.YtbpjidekjogfeaaW.PrintLast Go.Proofs.YtbpjidekjogfeaaW.PrintMore
attribute [local go_sem] max2_int min2_int max_two min_two max_three min_three max_four min_four   
set_option linter.unusedVariables false
set_option linter.unusedSimpArgs false
def IsS116 (w0 W : World) (g : Nat) (f0 : List Int) (f1 : Int) (f2 : Int) : Prop := ∃ A0 c0, W.heap[g]? = some (.cells #[.slice A0 f0.length c0, .int .i64 f1, .int .i64 f2] 116 (0, 0)) ∧ w0.heap.size ≤ g ∧ Kd.C (Kd.int .u8) w0 A0 f0.length f0
theorem IsS116.grown {w0 W : World} {g : Nat} {f0 : List Int} {f1 : Int} {f2 : Int} {W1 : World} {row : Option Nat} (h : IsS116 w0 W g f0 f1 f2) (hw : W.grownBy W1 row) (hne : some g ≠ row) : IsS116 w0 W1 g f0 f1 f2 := by
 obtain ⟨A0, c0, hb, hg, hr0⟩ := h
 exact ⟨A0, c0, blk_grown hb hw hne, hg, hr0⟩
theorem IsS116.kept {w0 W : World} {g : Nat} {f0 : List Int} {f1 : Int} {f2 : Int} {W1 : World} {S : Nat → Prop} (h : IsS116 w0 W g f0 f1 f2) (hk : Kept W W1 S) (hne : ¬ S g) : IsS116 w0 W1 g f0 f1 f2 := by
 obtain ⟨A0, c0, hb, hg, hr0⟩ := h
 exact ⟨A0, c0, blk_kept hb hk hne, hg, hr0⟩
theorem IsS116.below {w0 W : World} {g : Nat} {f0 : List Int} {f1 : Int} {f2 : Int} {W1 : World} (h : IsS116 w0 W g f0 f1 f2) (hw : Below W.heap.size W W1) : IsS116 w0 W1 g f0 f1 f2 := h.grown (grown_of_below hw none) (by simp)
theorem IsS116.alloc {w0 W : World} {g : Nat} {f0 : List Int} {f1 : Int} {f2 : Int} (h : IsS116 w0 W g f0 f1 f2) (o : Obj) : IsS116 w0 (W.alloc o) g f0 f1 f2 := h.below (below_alloc (Below.refl _ _) o)
theorem IsS116.drewN {w0 W : World} {g : Nat} {f0 : List Int} {f1 : Int} {f2 : Int} (h : IsS116 w0 W g f0 f1 f2) (m : Nat) : IsS116 w0 (W.drewN m) g f0 f1 f2 := h
theorem IsS116.drew {w0 W : World} {g : Nat} {f0 : List Int} {f1 : Int} {f2 : Int} (h : IsS116 w0 W g f0 f1 f2) : IsS116 w0 W.drew g f0 f1 f2 := h
theorem IsS116.at_ {w0 W : World} {g : Nat} {f0 : List Int} {f1 : Int} {f2 : Int} {w' : World} {m : Nat} (hq : W.drewN m = w') (h : IsS116 w0 W g f0 f1 f2) : IsS116 w0 w' g f0 f1 f2 := by subst hq; exact IsS116.drewN h m
theorem IsS116.apart {w0 W : World} {g : Nat} {f0 : List Int} {f1 : Int} {f2 : Int} {α : Type} {d : Kd α} {e : Nat} {base : Nat} {ok : Nat → Prop} {v : Value} {xs : List α} (h : IsS116 w0 W g f0 f1 f2) (ho : d.R e W base ok v xs) (ht : ∀ q, q ∈ e :: d.E → q ≠ 116) : d.R e W base (fun k => ok k ∧ k ≠ g) v xs := by
 obtain ⟨A0, c0, hb, hg, hr0⟩ := h
 exact Kd.R_types ho hb ht
theorem IsS116.own_ne {w0 W : World} {g : Nat} {f0 : List Int} {f1 : Int} {f2 : Int} {α : Type} {d : Kd α} {e : Nat} {base : Nat} {ok : Nat → Prop} {v : Value} {xs : List α} (h : IsS116 w0 W g f0 f1 f2) (ho : d.R e W base ok v xs) (ht : e ≠ 116) : some g ≠ v.ownBlock := by
 obtain ⟨A0, c0, hb, hg, hr0⟩ := h
 exact Kd.R_ne ho hb ht
theorem IsS116.lt {w0 W : World} {g : Nat} {f0 : List Int} {f1 : Int} {f2 : Int} (h : IsS116 w0 W g f0 f1 f2) : g < W.heap.size := by
 obtain ⟨A0, c0, hb, hg, hr0⟩ := h
 exact blk_lt hb
theorem IsS116.ge {w0 W : World} {g : Nat} {f0 : List Int} {f1 : Int} {f2 : Int} (h : IsS116 w0 W g f0 f1 f2) : w0.heap.size ≤ g := by
 obtain ⟨A0, c0, hb, hg, hr0⟩ := h
 exact hg
theorem IsS116.far {w0 W : World} {g : Nat} {f0 : List Int} {f1 : Int} {f2 : Int} {p : Addr} (h : IsS116 w0 W g f0 f1 f2) (hne : g ≠ p.block) (u : Value) : IsS116 w0 (W.setCell p u) g f0 f1 f2 := by
 obtain ⟨A0, c0, hb, hg, hr0⟩ := h
 exact ⟨A0, c0, blk_far hb hne u, hg, hr0⟩
theorem IsS116.set_1 {w0 W : World} {g : Nat} {f0 : List Int} {f1 : Int} {f2 : Int} (h : IsS116 w0 W g f0 f1 f2) (x : Int) : IsS116 w0 (W.setCell ⟨g, 1, none⟩ (.int .i64 x)) g f0 x f2 := by
 obtain ⟨A0, c0, hb, hg, hr0⟩ := h
 exact ⟨A0, c0, by simpa using blk_set hb 1 (.int .i64 x), hg, hr0⟩
theorem IsS116.set_2 {w0 W : World} {g : Nat} {f0 : List Int} {f1 : Int} {f2 : Int} (h : IsS116 w0 W g f0 f1 f2) (x : Int) : IsS116 w0 (W.setCell ⟨g, 2, none⟩ (.int .i64 x)) g f0 f1 x := by
 obtain ⟨A0, c0, hb, hg, hr0⟩ := h
 exact ⟨A0, c0, by simpa using blk_set hb 2 (.int .i64 x), hg, hr0⟩
theorem IsS116.new (w0 W : World) (A0 : Option Addr) (c0 : Nat) (f0 : List Int) (f1 : Int) (f2 : Int) (hB : Below w0.heap.size w0 W) (hr0 : Kd.C (Kd.int .u8) w0 A0 f0.length f0) : IsS116 w0 (W.alloc (.cells #[.slice A0 f0.length c0, .int .i64 f1, .int .i64 f2] 116)) W.heap.size f0 f1 f2 := ⟨A0, c0, by simpa using heap_alloc_new W _, hB.size, hr0⟩
end Go.Proofs.Ytbpjidekjogfeaa.A

namespace Go.Proofs.Ytbpjidekjogfeaa.A
open Go.RowKit Go.Proofs.YtbpjidekjogfeaaW.PrintWords Go.Proofs.YtbpjidekjogfeaaW.PrintLast Go.Proofs.YtbpjidekjogfeaaW.PrintMore
set_option linter.unusedVariables false
set_option linter.unusedSimpArgs false
theorem has_loop (l : List Int) (hl : l.length ≤ 1048576) (x : Int) : ∀ (rest : List Int) (i : Nat), l.drop i = rest → i ≤ l.length → Ev (fun k => spec_l02Has.l0 k l x (i : Int)) (decide (x ∈ rest))
 | [], i, hd, hi => by
  have he := drop_end hd hi
  refine Ev.succ ?_
  simp only [spec_l02Has.l0]
  exact Ev.neg (by omega) ((Ev.ret _).to (by simp))
 | b :: rest, i, hd, hi => by
  obtain ⟨h1, h2, h3⟩ := drop_step 0 hd
  have er : rd l (i : Int) = b := h2
  have ih := has_loop l hl x rest (i + 1) h3 (by omega)
  refine Ev.succ ?_
  simp only [spec_l02Has.l0, er]
  refine Ev.pos (by omega) (Ev.pos (by omega) ?_)
  rw [wsucc i (by omega)]
  by_cases c : b = x
  ·exact Ev.pos c ((Ev.ret _).to (by simp [c]))
  ·refine Ev.neg c (ih.to ?_)
   rw [decide_eq_decide, List.mem_cons]
   constructor
   ·exact Or.inr
   ·rintro (h | h)
    ·exact absurd h.symm c
    ·exact h
theorem has_ev (l : List Int) (hl : l.length ≤ 1048576) (x : Int) : Ev (fun k => spec_l02Has.f k l x) (decide (x ∈ l)) := by
 unfold spec_l02Has.f
 exact has_loop l hl x l 0 rfl (by omega)
theorem index_loop (l : List Int) (hl : l.length ≤ 1048576) (x : Int) : ∀ (rest : List Int) (i : Nat), l.drop i = rest → i ≤ l.length → ∃ r : Int, Ev (fun k => slices_Index_int_int.l0 k l x (l.length : Int) (i : Int)) r ∧ (0 ≤ r ↔ x ∈ rest)
 | [], i, hd, hi => by
  have he := drop_end hd hi
  refine ⟨-1, Ev.succ ?_, by simp⟩
  simp only [slices_Index_int_int.l0]
  exact Ev.neg (by omega) (Ev.ret _)
 | b :: rest, i, hd, hi => by
  obtain ⟨h1, h2, h3⟩ := drop_step 0 hd
  have er : rd l (i : Int) = b := h2
  by_cases c : x = b
  ·refine ⟨(i : Int), Ev.succ ?_, by simp [c]⟩
   simp only [slices_Index_int_int.l0, er]
   exact Ev.pos (by omega) (Ev.pos (by omega) (Ev.pos (by omega) (Ev.pos c (Ev.ret _))))
  ·obtain ⟨r, h4, h5⟩ := index_loop l hl x rest (i + 1) h3 (by omega)
   refine ⟨r, Ev.succ ?_, by rw [h5, List.mem_cons]; constructor; exact Or.inr; rintro (h | h); exact absurd h c; exact h⟩
   simp only [slices_Index_int_int.l0, er]
   refine Ev.pos (by omega) (Ev.pos (by omega) (Ev.pos (by omega) (Ev.neg c ?_)))
   rw [wsucc i (by omega)]
   exact h4
theorem contains_ev (l : List Int) (hl : l.length ≤ 1048576) (x : Int) : Ev (fun k => slices_Contains_int_int.f k l x) (decide (x ∈ l)) := by
 obtain ⟨r, h1, h2⟩ := index_loop l hl x l 0 rfl (by omega)
 unfold slices_Contains_int_int.f slices_Index_int_int.f
 refine Ev.bind h1 ((Ev.ret _).to ?_)
 rw [decide_eq_decide]
 exact h2
def toRun (d : List S98 × List S98 × List S98) : S113 := ⟨gapR d.2.1, (d.1.length : Int), (d.1.length : Int) + (d.2.1.length : Int)⟩
def emT (pre cur : List S98) : List S113 := if cur = [] then [] else [⟨gapR cur, (pre.length : Int), (pre.length : Int) + (cur.length : Int)⟩]
theorem emD_run (pre cur bs : List S98) : (emD pre cur bs).map toRun = emT pre cur := by
 unfold emD emT; split <;> rfl
theorem emT_len (pre cur : List S98) : (emT pre cur).length ≤ 1 ∧ (cur = [] → emT pre cur = []) := by
 unfold emT; split
 ·next h => exact ⟨by simp, fun _ => rfl⟩
 ·next h => exact ⟨by simp, fun c => absurd c h⟩
theorem gapR_snoc {cur : List S98} (h : cur ≠ []) (b : S98) : gapR (cur ++ [b]) = ⟨(gapR cur).f0, (gapR cur).f1, (gapR cur).f2 + b.f1⟩ := by
 cases cur with
 | nil => exact absurd rfl h
 | cons x cur =>
  show (S50.mk 0 x.f0 (sumB (x :: cur ++ [b]))) = S50.mk 0 x.f0 (sumB (x :: cur) + b.f1)
  rw [sumB_app]
  have : sumB [b] = b.f1 := by rw [sumB_cons, sumB_nil]; omega
  rw [this]
theorem getD_end {α : Type} (l : List α) (s d : α) : (l ++ [s]).getD l.length d = s := by
 rw [List.getD_eq_getElem?_getD, List.getElem?_append_right (Nat.le_refl _), Nat.sub_self]; rfl
theorem set_end {α : Type} (l : List α) (s t : α) : (l ++ [s]).set l.length t = l ++ [t] := by
 rw [List.set_append_right _ _ (Nat.le_refl _), Nat.sub_self]; rfl
theorem runs_loop (h : Int) (fx : List Int) (hf : fx.length ≤ 1048576) (bx : List S98) (hl : bx.length ≤ 24) (hm : ∀ b ∈ bx, 1 ≤ b.f1 ∧ b.f1 ≤ 24) :
  ∀ (rest : List S98) (i : Nat) (pre cur : List S98) (done : List S113), bx.drop i = rest → i ≤ bx.length → pre.length + cur.length = i → done.length ≤ i → 0 ≤ sumB cur → sumB cur ≤ 24 * (i : Int) →
  Ev (fun k => impl_runsOf.l0 k (done ++ emT pre cur) (decide (cur ≠ [])) bx (bx.length : Int) (i : Int) h fx bx) (done ++ (decs fx pre cur rest).map toRun)
 | [], i, pre, cur, done, hd, hi, hp, hn, s0, s1 => by
  have he := drop_end hd hi
  refine Ev.succ ?_
  simp only [impl_runsOf.l0, decs]
  rw [emD_run]
  exact Ev.neg (by omega) (Ev.ret _)
 | b :: rest, i, pre, cur, done, hd, hi, hp, hn, s0, s1 => by
  obtain ⟨h1, h2, h3⟩ := drop_step z98 hd
  have er : rd_T98 bx (i : Int) = b := h2
  have hb : b ∈ bx := by rw [← h2, getD_gen _ h1]; exact List.getElem_mem _
  have hbb := hm b hb
  have hl1 := emT_len pre cur
  refine Ev.succ ?_
  simp only [impl_runsOf.l0, er]
  refine Ev.pos (by omega) (Ev.pos (by omega) (Ev.pos (by omega) ?_))
  have go : ∀ (s : Bool), s = !opB b → Ev (fun k => impl_runsOf.j1 k (done ++ emT pre cur) (decide (cur ≠ [])) (i : Int) bx (bx.length : Int) (i : Int) s h fx bx b.f0 b.f1 b.f2 b.f3) (done ++ (decs fx pre cur (b :: rest)).map toRun) := by
   intro s hs
   refine Ev.succ ?_
   simp only [impl_runsOf.j1, decs]
   rw [wsucc i (by omega)]
   cases hob : opB b with
   | false =>
    rw [hob] at hs
    subst hs
    rw [if_neg (by simp), List.map_append, emD_run, ← List.append_assoc]
    have ih := runs_loop h fx hf bx hl hm rest (i + 1) (pre ++ cur ++ [b]) [] (done ++ emT pre cur) h3 (by omega) (by simp; omega) (by simp; omega) (by rw [sumB_nil]; omega) (by rw [sumB_nil]; omega)
    rw [(emT_len _ _).2 rfl, List.append_nil] at ih
    exact Ev.pos (by trivial) (ih.to rfl)
   | true =>
    rw [hob] at hs
    subst hs
    refine Ev.neg (by simp) ?_
    rw [if_pos rfl]
    have new : (cur ≠ [] → b.f0 ∈ fx) → Ev (fun k => if (done ++ emT pre cur).length < 3518437208883 then impl_runsOf.l0 k (done ++ emT pre cur ++ [⟨⟨0, b.f0, b.f1⟩, (i : Int), ((i + 1 : Nat) : Int)⟩]) true bx (bx.length : Int) ((i + 1 : Nat) : Int) h fx bx else none) (done ++ (if cur ≠ [] ∧ b.f0 ∉ fx then decs fx pre (cur ++ [b]) rest else emD pre cur (b :: rest) ++ decs fx (pre ++ cur) [b] rest).map toRun) := by
     intro hc
     rw [if_neg (fun e => e.2 (hc e.1)), List.map_append, emD_run, ← List.append_assoc]
     have sb : sumB [b] = b.f1 := by rw [sumB_cons, sumB_nil]; omega
     have ih := runs_loop h fx hf bx hl hm rest (i + 1) (pre ++ cur) [b] (done ++ emT pre cur) h3 (by omega) (by simp; omega) (by simp; omega) (by rw [sb]; omega) (by rw [sb]; omega)
     refine Ev.pos (by simp; omega) (Ev.of_eq ih (fun k => ?_))
     have e : emT (pre ++ cur) [b] = [⟨⟨0, b.f0, b.f1⟩, (i : Int), ((i + 1 : Nat) : Int)⟩] := by
      unfold emT
      rw [if_neg (by simp)]
      show [(S113.mk (S50.mk 0 b.f0 (sumB [b])) _ _)] = _
      rw [sb, List.length_append, hp]
      rfl
     rw [e]
     rfl
    by_cases hc : cur = []
    ·have e : decide (cur ≠ []) = false := by simp [hc]
     rw [e]
     refine Ev.neg (by simp) ?_
     exact new (fun c => absurd hc c)
    ·have e : decide (cur ≠ []) = true := by simp [hc]
     rw [e]
     refine Ev.pos rfl ?_
     refine Ev.bind (contains_ev fx hf b.f0) ?_
     by_cases hfx : b.f0 ∈ fx
     ·refine Ev.pos (decide_eq_true hfx) ?_
      exact new (fun _ => hfx)
     ·refine Ev.neg (by simpa using hfx) ?_
      rw [if_pos ⟨hc, hfx⟩]
      have eT : emT pre cur = [⟨gapR cur, (pre.length : Int), (pre.length : Int) + (cur.length : Int)⟩] := by unfold emT; rw [if_neg hc]
      have ih := runs_loop h fx hf bx hl hm rest (i + 1) pre (cur ++ [b]) done h3 (by omega) (by simp; omega) (by omega) (by rw [sumB_app, sumB_cons, sumB_nil]; omega) (by rw [sumB_app, sumB_cons, sumB_nil]; omega)
      have eT2 : emT pre (cur ++ [b]) = [⟨⟨(gapR cur).f0, (gapR cur).f1, (gapR cur).f2 + b.f1⟩, (pre.length : Int), (i : Int) + 1⟩] := by
       unfold emT
       rw [if_neg (by simp), gapR_snoc hc, List.length_append]
       simp
       omega
      rw [eT2] at ih
      rw [eT]
      have hw : wrap64 (((done ++ [(S113.mk (gapR cur) (pre.length : Int) ((pre.length : Int) + (cur.length : Int)))]).length : Int) - 1) = (done.length : Int) := by
       simp; unfold wrap64; omega
      have hg : (gapR cur).f2 = sumB cur := by cases cur with | nil => exact absurd rfl hc | cons x cur => rfl
      rw [hw]
      have hrd : ∀ v : S113, rd_T113 (done ++ [v]) (done.length : Int) = v := fun v => getD_end done v _
      refine Ev.pos (by omega) (Ev.pos (by simp; omega) ?_)
      simp only [hrd, Int.toNat_natCast, set_end, Option.bind_some]
      refine Ev.of_eq ih (fun k => ?_)
      rw [wid ((gapR cur).f2 + b.f1) (by omega) (by omega), show (pre.length : Int) + (cur.length : Int) = (i : Int) by omega, wid ((i : Int) + 1) (by omega) (by omega)]
      have e2 : decide (cur ++ [b] ≠ []) = true := by simp
      rw [e2]
  by_cases c2 : b.f2 = 0
  ·refine Ev.pos c2 (go b.f3 ?_)
   unfold opB
   rw [decide_eq_true c2, Bool.true_and, Bool.not_not]
  ·refine Ev.neg c2 (go true ?_)
   unfold opB
   rw [decide_eq_false c2]
   rfl
theorem runs_ev (h : Int) (fx : List Int) (hf : fx.length ≤ 1048576) (bx : List S98) (hl : bx.length ≤ 24) (hm : ∀ b ∈ bx, 1 ≤ b.f1 ∧ b.f1 ≤ 24) : Ev (fun k => impl_runsOf.f k h fx bx) ((decs fx [] [] bx).map toRun) := by
 unfold impl_runsOf.f
 exact runs_loop h fx hf bx hl hm bx 0 [] [] [] rfl (by omega) rfl (by simp) (by rw [sumB_nil]; omega) (by rw [sumB_nil]; omega)
theorem gapsW_len (fx : List Int) : ∀ (bs cur : List S98), (gapsW fx cur bs).length ≤ bs.length + (emR cur).length
 | [], cur => by simp [gapsW]
 | b :: bs, cur => by
  have e1 : ∀ (x : List S98), (emR x).length ≤ 1 := fun x => by unfold emR; split <;> simp
  have e0 : emR [] = [] := rfl
  simp only [gapsW]
  split
  ·split
   ·next h =>
    have := gapsW_len fx bs (cur ++ [b])
    have e2 : (emR cur).length = 1 := by unfold emR; rw [if_neg h.1]; rfl
    have := e1 (cur ++ [b])
    simp; omega
   ·have := gapsW_len fx bs [b]
    have := e1 [b]
    simp; omega
  ·have := gapsW_len fx bs []
   rw [e0] at this
   simp at this ⊢; omega
theorem gapsB_len (fx : List Int) (bx : List S98) : (gapsB fx bx).length ≤ bx.length := by
 have := gapsW_len fx bx []
 have e0 : emR [] = [] := rfl
 rw [e0] at this
 unfold gapsB
 simpa using this
def gapsP (h : Int) (fx : List Int) (bx : List S98) : List S50 := if colP h fx bx = true then gapsB fx bx else []
theorem open_eq (a b c : Int) (d : Bool) : spec_l02Open.f a b c d = some (opB ⟨a, b, c, d⟩) := by
 unfold spec_l02Open.f opB
 dsimp only
 by_cases h : c = 0
 ·rw [if_pos h, decide_eq_true h, Bool.true_and]
 ·rw [if_neg h, decide_eq_false h, Bool.false_and]
theorem gapsS_loop (h : Int) (fx : List Int) (hf : fx.length ≤ 1048576) (bx : List S98) (hl : bx.length ≤ 24) (hm : ∀ b ∈ bx, 1 ≤ b.f1 ∧ b.f1 ≤ 24) :
  ∀ (rest : List S98) (i : Nat) (cur : List S98) (done : List S50), bx.drop i = rest → i ≤ bx.length → done.length ≤ i → 0 ≤ sumB cur → sumB cur ≤ 24 * (i : Int) → (cur ≠ [] ↔ 0 < i ∧ opB (bx.getD (i - 1) z98) = true) →
  Ev (fun k => spec_GapsOf.l0 k (done ++ emR cur) (i : Int) h fx bx) (done ++ gapsW fx cur rest)
 | [], i, cur, done, hd, hi, hn, s0, s1, hc => by
  have he := drop_end hd hi
  refine Ev.succ ?_
  simp only [spec_GapsOf.l0, gapsW]
  exact Ev.neg (by omega) (Ev.ret _)
 | b :: rest, i, cur, done, hd, hi, hn, s0, s1, hc => by
  obtain ⟨h1, h2, h3⟩ := drop_step z98 hd
  have er : rd_T98 bx (i : Int) = b := h2
  have hb : b ∈ bx := by rw [← h2, getD_gen _ h1]; exact List.getElem_mem _
  have hbb := hm b hb
  have eb : (S98.mk b.f0 b.f1 b.f2 b.f3) = b := rfl
  have hl1 : (emR cur).length ≤ 1 := by unfold emR; split <;> simp
  refine Ev.succ ?_
  simp only [spec_GapsOf.l0, er, gapsW]
  rw [wsucc i (by omega)]
  refine Ev.pos (by omega) (Ev.pos (by omega) ?_)
  refine Ev.bind (Ev.const (open_eq _ _ _ _)) ?_
  rw [eb]
  have nxt : opB (bx.getD (i + 1 - 1) z98) = opB b := by rw [Nat.add_sub_cancel, h2]
  cases hob : opB b with
  | false =>
   refine Ev.neg (by simp) ?_
   rw [if_neg (by simp), ← List.append_assoc]
   have ih := gapsS_loop h fx hf bx hl hm rest (i + 1) [] (done ++ emR cur) h3 (by omega) (by simp; omega) (by rw [sumB_nil]; omega) (by rw [sumB_nil]; omega) ⟨fun c => absurd rfl c, fun c => by rw [nxt, hob] at c; simp at c⟩
   have e0 : emR [] = [] := rfl
   rw [e0, List.append_nil] at ih
   exact ih
  | true =>
   refine Ev.pos (by trivial) ?_
   rw [if_pos rfl]
   have sb : sumB [b] = b.f1 := by rw [sumB_cons, sumB_nil]; omega
   have new : (cur ≠ [] → b.f0 ∈ fx) → Ev (fun k => if (done ++ emR cur).length < 5864062014805 then spec_GapsOf.l0 k (done ++ emR cur ++ [⟨0, b.f0, b.f1⟩]) ((i + 1 : Nat) : Int) h fx bx else none) (done ++ (if cur ≠ [] ∧ b.f0 ∉ fx then gapsW fx (cur ++ [b]) rest else emR cur ++ gapsW fx [b] rest)) := by
    intro hcf
    rw [if_neg (fun e => e.2 (hcf e.1)), ← List.append_assoc]
    have ih := gapsS_loop h fx hf bx hl hm rest (i + 1) [b] (done ++ emR cur) h3 (by omega) (by simp; omega) (by rw [sb]; omega) (by rw [sb]; omega) ⟨fun _ => ⟨by omega, by rw [nxt, hob]⟩, fun _ => by simp⟩
    refine Ev.pos (by simp; omega) (Ev.of_eq ih (fun k => ?_))
    have e : emR [b] = [⟨0, b.f0, b.f1⟩] := by
     unfold emR
     rw [if_neg (by simp)]
     show [(S50.mk 0 b.f0 (sumB [b]))] = _
     rw [sb]
    rw [e]
   by_cases hcur : cur = []
   ·have hno : ¬ (0 < i ∧ opB (bx.getD (i - 1) z98) = true) := fun c => hc.mpr c hcur
    by_cases ci : (i : Int) > 0
    ·refine Ev.pos ci ?_
     rw [wpred i (by omega) (by omega)]
     have er2 : rd_T98 bx ((i - 1 : Nat) : Int) = bx.getD (i - 1) z98 := rfl
     refine Ev.pos (by omega) (Ev.pos (by omega) (Ev.bind (Ev.const (open_eq _ _ _ _)) ?_))
     rw [er2]
     refine Ev.neg (fun c => hno ⟨by omega, c⟩) ?_
     exact new (fun c => absurd hcur c)
    ·refine Ev.neg ci ?_
     exact new (fun c => absurd hcur c)
   ·obtain ⟨ci, co⟩ := hc.mp hcur
    refine Ev.pos (by omega) ?_
    rw [wpred i (by omega) (by omega)]
    have er2 : rd_T98 bx ((i - 1 : Nat) : Int) = bx.getD (i - 1) z98 := rfl
    refine Ev.pos (by omega) (Ev.pos (by omega) (Ev.bind (Ev.const (open_eq _ _ _ _)) ?_))
    rw [er2]
    refine Ev.pos co ?_
    refine Ev.bind (has_ev fx hf b.f0) ?_
    by_cases hfx : b.f0 ∈ fx
    ·refine Ev.pos (decide_eq_true hfx) ?_
     exact new (fun _ => hfx)
    ·refine Ev.neg (by simpa using hfx) ?_
     rw [if_pos ⟨hcur, hfx⟩]
     have eT : emR cur = [gapR cur] := by unfold emR; rw [if_neg hcur]
     have ih := gapsS_loop h fx hf bx hl hm rest (i + 1) (cur ++ [b]) done h3 (by omega) (by omega) (by rw [sumB_app, sb]; omega) (by rw [sumB_app, sb]; omega) ⟨fun _ => ⟨by omega, by rw [nxt, hob]⟩, fun _ => by simp⟩
     have eT2 : emR (cur ++ [b]) = [⟨(gapR cur).f0, (gapR cur).f1, (gapR cur).f2 + b.f1⟩] := by
      unfold emR
      rw [if_neg (by simp), gapR_snoc hcur]
     rw [eT2] at ih
     rw [eT]
     have hg : (gapR cur).f2 = sumB cur := by cases cur with | nil => exact absurd rfl hcur | cons x cur => rfl
     have hw : wrap64 (((done ++ [gapR cur]).length : Int) - 1) = (done.length : Int) := by
      simp; unfold wrap64; omega
     rw [hw]
     have hrd : ∀ v : S50, rd_T50 (done ++ [v]) (done.length : Int) = v := fun v => getD_end done v _
     refine Ev.pos (by omega) (Ev.pos (by simp; omega) ?_)
     simp only [hrd, Int.toNat_natCast, set_end]
     rw [wid ((gapR cur).f2 + b.f1) (by omega) (by omega)]
     exact ih
theorem gapsS_ev (h : Int) (fx : List Int) (hf : fx.length ≤ 1048576) (bx : List S98) (hb : bx.length ≤ 1048576) : Ev (fun k => spec_GapsOf.f k h fx bx) (gapsP h fx bx) := by
 unfold spec_GapsOf.f gapsP
 refine Ev.bind (Ev.ret _) (Ev.bind (colok_ev h fx (by omega) bx (by omega)) ?_)
 by_cases c : colP h fx bx = true
 ·have v := (colP_iff h fx bx).mp c
  rw [if_pos c]
  refine Ev.pos c ?_
  exact gapsS_loop h fx hf bx v.len (fun b hb => by have := v.mem hb; omega) bx 0 [] [] rfl (by omega) (by simp) (by rw [sumB_nil]; omega) (by rw [sumB_nil]; omega) ⟨fun c => absurd rfl c, fun c => absurd c.1 (by omega)⟩
 ·rw [if_neg c]
  exact Ev.neg c (Ev.ret _)
end Go.Proofs.Ytbpjidekjogfeaa.A

namespace Go.Proofs.Ytbpjidekjogfeaa.A
open Go.RowKit Go.Proofs.YtbpjidekjogfeaaW.PrintWords Go.Proofs.YtbpjidekjogfeaaW.PrintLast Go.Proofs.YtbpjidekjogfeaaW.PrintMore
set_option linter.unusedVariables false
set_option linter.unusedSimpArgs false
def bankG : Int → List S41 → List S50
 | _, [] => []
 | k, c :: cs => (gapsB c.f1 c.f2).map (fun g => ⟨k, g.f1, g.f2⟩) ++ bankG (k + 1) cs
def bankGP (cs : List S41) : List S50 := if bankP cs = true then bankG 0 cs else []
structure Flat (cs : List S41) : Prop where
 len : cs.length ≤ 6
 fix : ∀ c ∈ cs, c.f1.length ≤ 1048576
 box : ∀ c ∈ cs, c.f2.length ≤ 24
 sz : ∀ c ∈ cs, ∀ b ∈ c.f2, 1 ≤ b.f1 ∧ b.f1 ≤ 24
theorem BankV.flat {cs : List S41} (v : BankV cs) (hs : Small cs) : Flat cs :=
 ⟨by have := v.len; omega, fun c hc => (hs.2 c hc).1, fun c hc => ((colP_iff _ _ _).mp (v.col c hc)).len, fun c hc b hb => by have := ((colP_iff _ _ _).mp (v.col c hc)).mem hb; omega⟩
theorem bgS_inner {r' : List S50} (cs : List S41) (i : Nat) (hi : i ≤ 1048576) (gs : List S50) (hg : gs.length ≤ 24) (M : Nat) (hM : M ≤ 1048576) (res : List S50)
  (hr : Ev (fun k => spec_BankGaps.l0 k cs res ((i + 1 : Nat) : Int)) r') : ∀ (rest : List S50) (n : Nat) (acc : List S50), gs.drop n = rest → n ≤ gs.length → acc.length ≤ M + n → acc ++ rest.map (fun g => ⟨(i : Int), g.f1, g.f2⟩) = res → Ev (fun k => spec_BankGaps.l1 k cs acc (i : Int) gs (n : Int)) r'
 | [], n, acc, hd, hn, ha, he2 => by
  have he := drop_end hd hn
  refine Ev.succ ?_
  simp only [spec_BankGaps.l1]
  rw [wsucc i (by omega)]
  simp at he2
  subst he2
  exact Ev.neg (by omega) hr
 | g :: rest, n, acc, hd, hn, ha, he2 => by
  obtain ⟨h1, h2, h3⟩ := drop_step z50 hd
  have er : rd_T50 gs (n : Int) = g := h2
  refine Ev.succ ?_
  simp only [spec_BankGaps.l1, er]
  rw [wsucc n (by omega)]
  exact Ev.pos (by omega) (Ev.pos (by omega) (Ev.pos (by omega) (bgS_inner cs i hi gs hg M hM res hr rest (n + 1) _ h3 (by omega) (by simp; omega) (by rw [← he2]; simp))))
theorem bgS_loop (cs : List S41) (hf : Flat cs) (hc : ∀ c ∈ cs, colP c.f0 c.f1 c.f2 = true) : ∀ (rest : List S41) (i : Nat) (acc : List S50), cs.drop i = rest → i ≤ cs.length → acc.length ≤ 24 * i → Ev (fun k => spec_BankGaps.l0 k cs acc (i : Int)) (acc ++ bankG (i : Int) rest)
 | [], i, acc, hd, hi, ha => by
  have he := drop_end hd hi
  have hl := hf.len
  refine Ev.succ ?_
  simp only [spec_BankGaps.l0]
  exact Ev.neg (by omega) ((Ev.ret _).to (by simp [bankG]))
 | c :: rest, i, acc, hd, hi, ha => by
  obtain ⟨h1, h2, h3⟩ := drop_step z41 hd
  have er : rd_T41 cs (i : Int) = c := h2
  have hm : c ∈ cs := by rw [← h2, getD_gen _ h1]; exact List.getElem_mem _
  have hl := hf.len
  have hb := hf.box c hm
  have hg : gapsP c.f0 c.f1 c.f2 = gapsB c.f1 c.f2 := by unfold gapsP; rw [if_pos (hc c hm)]
  have hgl := gapsB_len c.f1 c.f2
  have ih := bgS_loop cs hf hc rest (i + 1) (acc ++ (gapsB c.f1 c.f2).map (fun g => ⟨(i : Int), g.f1, g.f2⟩)) h3 (by omega) (by simp; omega)
  refine Ev.succ ?_
  simp only [spec_BankGaps.l0, er]
  refine Ev.pos (by omega) (Ev.pos (by omega) (Ev.bind (gapsS_ev c.f0 c.f1 (hf.fix c hm) c.f2 (by omega)) ?_))
  rw [hg]
  refine bgS_inner cs i (by omega) _ (by omega) (24 * i) (by omega) _ (ih.to ?_) _ 0 acc rfl (by omega) (by omega) rfl
  rw [bankG, List.append_assoc]
  rfl
theorem bankGapsS_ev (cs : List S41) (hs : Small cs) : Ev (fun k => spec_BankGaps.f k cs) (bankGP cs) := by
 unfold spec_BankGaps.f bankGP
 refine Ev.bind (Ev.ret _) (Ev.bind (bankok_ev cs hs) ?_)
 by_cases hb : bankP cs = true
 ·rw [if_pos hb]
  have v := (bankP_iff cs).mp hb
  exact Ev.pos hb (bgS_loop cs (v.flat hs) v.col cs 0 [] rfl (by omega) (by simp))
 ·rw [if_neg hb]
  exact Ev.neg hb (Ev.ret _)
theorem bg_inner (cs : List S41) (hcs : cs.length ≤ 6) (i : Nat) (hi : i < cs.length) (rs : List S113) (hg : rs.length ≤ 24) (M : Nat) (hM : M ≤ 1048576) (res : List S50) {r' : List S50}
  (hr : Ev (fun k => impl_bankGaps.l0 k res cs (cs.length : Int) ((i + 1 : Nat) : Int)) r') : ∀ (rest : List S113) (n : Nat) (acc : List S50), rs.drop n = rest → n ≤ rs.length → acc.length ≤ M + n → acc ++ rest.map (fun r => ⟨(i : Int), r.f0.f1, r.f0.f2⟩) = res → Ev (fun k => impl_bankGaps.l1 k acc (i : Int) cs (cs.length : Int) (i : Int) rs (rs.length : Int) (n : Int)) r'
 | [], n, acc, hd, hn, ha, he2 => by
  have he := drop_end hd hn
  refine Ev.succ ?_
  simp only [impl_bankGaps.l1]
  rw [wsucc i (by omega)]
  simp at he2
  subst he2
  exact Ev.neg (by omega) hr
 | g :: rest, n, acc, hd, hn, ha, he2 => by
  obtain ⟨h1, h2, h3⟩ := drop_step z113 hd
  have er : rd_T113 rs (n : Int) = g := h2
  refine Ev.succ ?_
  simp only [impl_bankGaps.l1, er]
  rw [wsucc n (by omega)]
  exact Ev.pos (by omega) (Ev.pos (by omega) (Ev.pos (by omega) (Ev.pos (by omega) (bg_inner cs hcs i hi rs hg M hM res hr rest (n + 1) _ h3 (by omega) (by simp; omega) (by rw [← he2]; simp)))))
theorem bg_loop (cs : List S41) (hf : Flat cs) : ∀ (rest : List S41) (i : Nat) (acc : List S50), cs.drop i = rest → i ≤ cs.length → acc.length ≤ 24 * i → Ev (fun k => impl_bankGaps.l0 k acc cs (cs.length : Int) (i : Int)) (acc ++ bankG (i : Int) rest)
 | [], i, acc, hd, hi, ha => by
  have he := drop_end hd hi
  have hl := hf.len
  refine Ev.succ ?_
  simp only [impl_bankGaps.l0]
  exact Ev.neg (by omega) ((Ev.ret _).to (by simp [bankG]))
 | c :: rest, i, acc, hd, hi, ha => by
  obtain ⟨h1, h2, h3⟩ := drop_step z41 hd
  have er : rd_T41 cs (i : Int) = c := h2
  have hm : c ∈ cs := by rw [← h2, getD_gen _ h1]; exact List.getElem_mem _
  have hl := hf.len
  have hb := hf.box c hm
  have hgl := gapsB_len c.f1 c.f2
  have hdl : ((decs c.f1 [] [] c.f2).map toRun).length ≤ 24 := by
   have h2 := congrArg List.length (decs_gaps c.f1 c.f2 [] [])
   rw [List.length_map] at h2 ⊢
   unfold gapsB at hgl
   omega
  have ih := bg_loop cs hf rest (i + 1) (acc ++ (gapsB c.f1 c.f2).map (fun g => ⟨(i : Int), g.f1, g.f2⟩)) h3 (by omega) (by simp; omega)
  refine Ev.succ ?_
  simp only [impl_bankGaps.l0, er]
  refine Ev.pos (by omega) (Ev.pos (by omega) (Ev.pos (by omega) (Ev.bind (runs_ev c.f0 c.f1 (hf.fix c hm) c.f2 hb (hf.sz c hm)) ?_)))
  refine bg_inner cs hl i h1 _ hdl (24 * i) (by omega) _ (ih.to ?_) _ 0 acc rfl (by omega) (by omega) ?_
  ·rw [bankG, List.append_assoc]
   rfl
  ·rw [List.drop_zero, List.map_map]
   unfold gapsB
   rw [← decs_gaps c.f1 c.f2 [] [], List.map_map]
   rfl
theorem bankG_ev (cs : List S41) (hf : Flat cs) : Ev (fun k => impl_bankGaps.f k cs) (bankG 0 cs) := by
 unfold impl_bankGaps.f
 exact bg_loop cs hf cs 0 [] rfl (by omega) (by simp)
theorem bankG_len : ∀ (cs : List S41) (k : Int), (∀ c ∈ cs, c.f2.length ≤ 24) → (bankG k cs).length ≤ 24 * cs.length
 | [], _, _ => by simp [bankG]
 | c :: cs, k, h => by
  have := bankG_len cs (k + 1) (fun d hd => h d (by simp [hd]))
  have := gapsB_len c.f1 c.f2
  have := h c (by simp)
  rw [bankG]
  simp
  omega
theorem bankGP_len (cs : List S41) : (bankGP cs).length ≤ 144 := by
 unfold bankGP
 split
 ·next hb =>
  have v := (bankP_iff cs).mp hb
  have := bankG_len cs 0 (fun c hc => ((colP_iff _ _ _).mp (v.col c hc)).len)
  have := v.len
  omega
 ·simp
theorem gapsW_pos (fx : List Int) : ∀ (bs cur : List S98) (M : Int), (∀ b ∈ bs, 1 ≤ b.f1) → (cur ≠ [] → 1 ≤ sumB cur) → sumB cur + sumB bs ≤ M → ∀ g ∈ gapsW fx cur bs, 1 ≤ g.f2 ∧ g.f2 ≤ M
 | [], cur, M, _, hc, hM, g, hg => by
  simp only [gapsW, emR] at hg
  split at hg
  ·simp at hg
  ·next h =>
   rw [List.mem_singleton.mp hg]
   have hg0 : (gapR cur).f2 = sumB cur := by cases cur with | nil => exact absurd rfl h | cons x cur => rfl
   have := hc h
   rw [sumB_nil] at hM
   omega
 | b :: bs, cur, M, hb, hc, hM, g, hg => by
  have hb1 := hb b (by simp)
  have hbs : ∀ x ∈ bs, 1 ≤ x.f1 := fun x hx => hb x (by simp [hx])
  have sb : sumB [b] = b.f1 := by rw [sumB_cons, sumB_nil]; omega
  have sn : ∀ l : List S98, (∀ x ∈ l, 1 ≤ x.f1) → 0 ≤ sumB l := by
   intro l
   induction l with
   | nil => intro _; exact Int.le_refl _
   | cons x l ih => intro h; rw [sumB_cons]; have := h x (by simp); have := ih (fun y hy => h y (by simp [hy])); omega
  have s0 := sn bs hbs
  have sc : 0 ≤ sumB cur := by
   by_cases h : cur = []
   ·subst h; exact Int.le_refl _
   ·have := hc h; omega
  rw [sumB_cons] at hM
  have em : ∀ g ∈ emR cur, 1 ≤ g.f2 ∧ g.f2 ≤ M := by
   intro g hg
   unfold emR at hg
   split at hg
   ·simp at hg
   ·next h =>
    rw [List.mem_singleton.mp hg]
    have hg0 : (gapR cur).f2 = sumB cur := by cases cur with | nil => exact absurd rfl h | cons x cur => rfl
    have := hc h
    omega
  simp only [gapsW] at hg
  split at hg
  ·split at hg
   ·exact gapsW_pos fx bs (cur ++ [b]) M hbs (fun _ => by rw [sumB_app, sb]; omega) (by rw [sumB_app, sb]; omega) g hg
   ·rcases List.mem_append.mp hg with hg | hg
    ·exact em g hg
    ·exact gapsW_pos fx bs [b] M hbs (fun _ => by rw [sb]; omega) (by rw [sb]; omega) g hg
  ·rcases List.mem_append.mp hg with hg | hg
   ·exact em g hg
   ·exact gapsW_pos fx bs [] M hbs (fun h => absurd rfl h) (by rw [sumB_nil]; omega) g hg
theorem gapsB_pos (fx : List Int) (bx : List S98) (lo hi : Int) (ht : tile lo bx hi) : ∀ g ∈ gapsB fx bx, 1 ≤ g.f2 ∧ g.f2 ≤ hi - lo := by
 have := tile_sum _ _ _ ht
 exact gapsW_pos fx bx [] (hi - lo) (fun b hb => (tile_mem _ _ _ ht b hb).2.1) (fun h => absurd rfl h) (by rw [sumB_nil]; omega)
theorem bankG_pos : ∀ (cs : List S41) (k : Int), (∀ c ∈ cs, ∃ h, tile 0 c.f2 h ∧ h ≤ 24) → ∀ g ∈ bankG k cs, 1 ≤ g.f2 ∧ g.f2 ≤ 24
 | [], _, _, g, hg => by simp [bankG] at hg
 | c :: cs, k, h, g, hg => by
  rw [bankG] at hg
  rcases List.mem_append.mp hg with hg | hg
  ·obtain ⟨x, hx, rfl⟩ := List.mem_map.mp hg
   obtain ⟨e, ht, he⟩ := h c (by simp)
   have := gapsB_pos c.f1 c.f2 0 e ht x hx
   exact ⟨this.1, by show x.f2 ≤ 24; omega⟩
  ·exact bankG_pos cs (k + 1) (fun d hd => h d (by simp [hd])) g hg
theorem bankGP_pos (cs : List S41) : ∀ g ∈ bankGP cs, 1 ≤ g.f2 ∧ g.f2 ≤ 24 := by
 unfold bankGP
 split
 ·next hb =>
  have v := (bankP_iff cs).mp hb
  exact bankG_pos cs 0 (fun c hc => ⟨c.f0, ((colP_iff _ _ _).mp (v.col c hc)).til, ((colP_iff _ _ _).mp (v.col c hc)).hi.2⟩)
 ·intro g hg; simp at hg
end Go.Proofs.Ytbpjidekjogfeaa.A

namespace Go.Proofs.Ytbpjidekjogfeaa.A
open Go.RowKit Go.Proofs.YtbpjidekjogfeaaW.PrintWords Go.Proofs.YtbpjidekjogfeaaW.PrintLast Go.Proofs.YtbpjidekjogfeaaW.PrintMore
set_option linter.unusedVariables false
set_option linter.unusedSimpArgs false
def fillD (lo : Int) (N : List S98) : List S98 → List (List S98 × List S98 × List S98) → List S98
 | acc, [] => acc
 | acc, d :: ds => fillD lo N (if loR d.2.1 = lo then d.1 ++ N ++ d.2.2 else acc) ds
theorem gapR_is {R : List S98} (h : R ≠ []) : gapR R = ⟨0, loR R, sumB R⟩ := by
 cases R with
 | nil => exact absurd rfl h
 | cons x R => rfl
theorem fillD_none (lo : Int) (N : List S98) : ∀ (D : List (List S98 × List S98 × List S98)) (acc : List S98), (∀ d ∈ D, loR d.2.1 ≠ lo) → fillD lo N acc D = acc
 | [], _, _ => rfl
 | d :: D, acc, h => by
  rw [fillD, if_neg (h d (by simp))]
  exact fillD_none lo N D acc (fun x hx => h x (by simp [hx]))
theorem fillD_one (lo : Int) (N : List S98) : ∀ (D : List (List S98 × List S98 × List S98)) (acc : List S98) (d : List S98 × List S98 × List S98), d ∈ D → D.Pairwise (fun a b => loR a.2.1 < loR b.2.1) → loR d.2.1 = lo → fillD lo N acc D = d.1 ++ N ++ d.2.2
 | [], _, d, hd, _, _ => absurd hd (by simp)
 | x :: D, acc, d, hd, hp, hl => by
  obtain ⟨h1, h2⟩ := List.pairwise_cons.mp hp
  rw [fillD]
  rcases List.mem_cons.mp hd with rfl | hd
  ·rw [if_pos hl]
   exact fillD_none lo N D _ (fun y hy => by have := h1 y hy; omega)
  ·exact fillD_one lo N D _ d hd h2 hl
theorem decs_asc (fx : List Int) (bx : List S98) (lo hi : Int) (ht : tile lo bx hi) : (decs fx [] [] bx).Pairwise (fun a b => loR a.2.1 < loR b.2.1) := by
 have h1 := (gapsW_asc fx bx [] lo hi ht (fun c => absurd rfl c)).1
 rw [← decs_gaps fx bx [] [], List.pairwise_map] at h1
 refine List.Pairwise.imp_of_mem (fun ha hb h => ?_) h1
 rw [gapR_is (decs_top fx bx _ ha).ne, gapR_is (decs_top fx bx _ hb).ne] at h
 exact h
theorem gap_run (fx : List Int) (bx : List S98) (lo hi : Int) (ht : tile lo bx hi) (g : S50) (hg : g ∈ gapsB fx bx) : ∃ A R B, RunAt fx bx A R B ∧ g = ⟨0, loR R, sumB R⟩ ∧ (∀ N, fillB g.f1 g.f2 N bx = A ++ N ++ B) ∧ ∀ N, fillD g.f1 N bx (decs fx [] [] bx) = A ++ N ++ B := by
 unfold gapsB at hg
 rw [← decs_gaps fx bx [] []] at hg
 obtain ⟨d, hd, rfl⟩ := List.mem_map.mp hg
 have hr := decs_top fx bx d hd
 have e := gapR_is hr.ne
 refine ⟨d.1, d.2.1, d.2.2, hr, e, fun N => ?_, fun N => ?_⟩
 ·rw [e]
  have h2 := hr.all
  have h3 : tile lo (d.1 ++ d.2.1 ++ d.2.2) hi := by rw [h2]; exact ht
  have := fillB_run h3 hr.ne N
  rw [h2] at this
  exact this
 ·rw [e]
  exact fillD_one _ N _ bx d hd (decs_asc fx bx lo hi ht) rfl
theorem tile_swap {A R B N : List S98} {lo hi : Int} (h : tile lo (A ++ R ++ B) hi) (hR : R ≠ []) (hN : tile (loR R) N (loR R + sumB R)) : tile lo (A ++ N ++ B) hi := by
 rw [tile_app, tile_app] at h ⊢
 obtain ⟨⟨h1, h2⟩, h3⟩ := h
 have e : loR R = lo + sumB A := by
  cases R with
  | nil => exact absurd rfl hR
  | cons x R => exact h2.1
 have s := (tile_sum _ _ _ hN).1
 rw [sumB_app] at h3 ⊢
 have e2 : sumB N = sumB R := by omega
 rw [e2]
 refine ⟨⟨h1, ?_⟩, h3⟩
 rw [e] at hN
 rw [← Int.add_assoc]
 exact hN
def newB (lo sz parcel size : Int) : List S98 := ⟨lo, size, parcel, false⟩ :: (if size < sz then [⟨lo + size, sz - size, 0, false⟩] else [])
def clear1 (bx : List S98) (g : S50) : List S98 := fillB g.f1 g.f2 (newB g.f1 g.f2 0 g.f2) bx
theorem newB_full (lo sz p : Int) : newB lo sz p sz = [⟨lo, sz, p, false⟩] := by unfold newB; rw [if_neg (by omega)]
structure Clr (h : Int) (fx : List Int) (G : List S50) (bx : List S98) : Prop where
 hi : h ≤ 24
 til : tile 0 bx h
 gaps : gapsB fx bx = G
theorem Clr.len {h : Int} {fx : List Int} {G : List S50} {bx : List S98} (c : Clr h fx G bx) : bx.length ≤ 24 ∧ (∀ b ∈ bx, 1 ≤ b.f1 ∧ b.f1 ≤ 24) := by
 have := tile_sum _ _ _ c.til
 have := c.hi
 refine ⟨by omega, fun b hb => ?_⟩
 have := tile_mem _ _ _ c.til b hb
 omega
theorem Clr.step {h : Int} {fx : List Int} {G : List S50} {bx : List S98} (c : Clr h fx G bx) (g : S50) (hg : g ∈ G) :
  Clr h fx G (clear1 bx g) ∧ (0 ≤ g.f1 ∧ 1 ≤ g.f2 ∧ g.f1 + g.f2 ≤ 24) ∧ fillD g.f1 [⟨g.f1, g.f2, 0, false⟩] bx (decs fx [] [] bx) = clear1 bx g := by
 have hg' : g ∈ gapsB fx bx := by rw [c.gaps]; exact hg
 obtain ⟨A, R, B, hr, e, h1, h2⟩ := gap_run fx bx 0 h c.til g hg'
 have hp := gapsB_pos fx bx 0 h c.til g hg'
 have ec : clear1 bx g = A ++ [⟨g.f1, g.f2, 0, false⟩] ++ B := by
  unfold clear1
  rw [newB_full, h1]
 have e1 : g.f1 = loR R := by rw [e]
 have e2 : g.f2 = sumB R := by rw [e]
 have ht := c.til
 rw [← hr.all] at ht
 have hN : tile (loR R) [⟨g.f1, g.f2, 0, false⟩] (loR R + sumB R) := ⟨e1, hp.1, by show loR R + g.f2 = _; rw [e2]⟩
 refine ⟨⟨c.hi, ?_, ?_⟩, ?_, ?_⟩
 ·rw [ec]
  exact tile_swap ht hr.ne hN
 ·rw [ec, run_put hr [(S98.mk g.f1 g.f2 0 false)] (by simp) (Or.inl e1)]
  have eg : gapsB fx [(S98.mk g.f1 g.f2 0 false)] = [gapR R] := by
   have eo : opB (S98.mk g.f1 g.f2 0 false) = true := rfl
   unfold gapsB
   simp only [gapsW]
   rw [if_pos eo, if_neg (fun c => c.1 rfl)]
   have em1 : emR [] = [] := rfl
   have em2 : emR [(S98.mk g.f1 g.f2 0 false)] = [gapR [(S98.mk g.f1 g.f2 0 false)]] := by unfold emR; rw [if_neg (by simp)]
   have es : sumB [(S98.mk g.f1 g.f2 0 false)] = g.f2 := by rw [sumB_cons, sumB_nil]; exact Int.add_zero _
   rw [em1, em2, List.nil_append, gapR_is (by simp), gapR_is hr.ne, es, ← e2, ← e1]
   rfl
  rw [eg, ← run_gaps hr]
  exact c.gaps
 ·have hm := tile_mem _ _ _ ht
  rw [tile_app, tile_app] at ht
  obtain ⟨⟨ha, hb⟩, hc⟩ := ht
  have s1 := tile_sum _ _ _ ha
  have s3 := tile_sum _ _ _ hc
  rw [sumB_app] at s3
  have hR := hr.ne
  have er : loR R = 0 + sumB A := by
   cases R with
   | nil => exact absurd rfl hR
   | cons x R => exact hb.1
  have := c.hi
  have hBn : (0 : Int) ≤ (B.length : Int) := by omega
  omega
 ·rw [h2, ec]
end Go.Proofs.Ytbpjidekjogfeaa.A

namespace Go.Proofs.Ytbpjidekjogfeaa.A
open Go.RowKit Go.Proofs.YtbpjidekjogfeaaW.PrintWords Go.Proofs.YtbpjidekjogfeaaW.PrintLast Go.Proofs.YtbpjidekjogfeaaW.PrintMore
set_option linter.unusedVariables false
set_option linter.unusedSimpArgs false
theorem parcs_top (l : List S98) : parcs [] l ↔ (∀ b ∈ l, 0 ≤ b.f2 ∧ b.f2 ≤ 999) ∧ l.Pairwise (fun a b => 0 < b.f2 → a.f2 ≠ b.f2) := by
 rw [parcs_iff]
 constructor
 ·rintro ⟨h1, _, h3⟩; exact ⟨h1, h3⟩
 ·rintro ⟨h1, h3⟩; exact ⟨h1, fun _ _ _ => by simp, h3⟩
theorem parcs_mid {A N B : List S98} (hN : ∀ b ∈ N, b.f2 = 0) : parcs [] (A ++ N ++ B) ↔ parcs [] (A ++ B) := by
 rw [parcs_top, parcs_top, List.append_assoc, List.pairwise_append, List.pairwise_append, List.pairwise_append]
 constructor
 ·rintro ⟨h1, h2, ⟨_, h3, _⟩, h4⟩
  refine ⟨fun b hb => h1 b ?_, h2, h3, fun a ha b hb => h4 a ha b (by simp [hb])⟩
  rcases List.mem_append.mp hb with hb | hb <;> simp [hb]
 ·rintro ⟨h1, h2, h3, h4⟩
  refine ⟨fun b hb => ?_, h2, ⟨?_, h3, fun a ha b hb h0 => ?_⟩, fun a ha b hb h0 => ?_⟩
  ·rcases List.mem_append.mp hb with hb | hb
   ·exact h1 b (by simp [hb])
   ·rcases List.mem_append.mp hb with hb | hb
    ·rw [hN b hb]; omega
    ·exact h1 b (by simp [hb])
  ·exact List.pairwise_of_forall_mem_list (fun a ha b hb h0 => by rw [hN b hb] at h0; omega)
  ·rw [hN a ha]; omega
  ·rcases List.mem_append.mp hb with hb | hb
   ·rw [hN b hb] at h0; omega
   ·exact h4 a ha b hb h0
theorem ColV.put {h : Int} {fx : List Int} {bx A R B N : List S98} (v : ColV h fx bx) (hr : RunAt fx bx A R B) (hN : tile (loR R) N (loR R + sumB R)) (hne : N ≠ []) (hp : parcs [] (A ++ N ++ B)) : ColV h fx (A ++ N ++ B) := by
 have ht := v.til
 rw [← hr.all] at ht
 refine ⟨v.hi, tile_swap ht hr.ne hN, hp, v.fix, fun f hf => ?_⟩
 obtain ⟨b, hb, e⟩ := v.low f hf
 rw [← hr.all] at hb
 rcases List.mem_append.mp hb with hb | hb
 ·rcases List.mem_append.mp hb with hb | hb
  ·exact ⟨b, by simp [hb], e⟩
  ·have hfree := hr.free
   have hlo : loR R = f := by
    cases R with
    | nil => exact absurd rfl hr.ne
    | cons r R =>
     rcases List.mem_cons.mp hb with rfl | hb
     ·exact e
     ·exact absurd (by rw [e]; exact hf) (hfree b hb)
   cases N with
   | nil => exact absurd rfl hne
   | cons n N => exact ⟨n, by simp, by rw [hN.1, hlo]⟩
 ·exact ⟨b, by simp [hb], e⟩
theorem RunAt.zero {fx : List Int} {bx A R B : List S98} (hr : RunAt fx bx A R B) : ∀ b ∈ R, b.f2 = 0 := by
 intro b hb
 have := hr.opn b hb
 unfold opB at this
 simp only [Bool.and_eq_true, decide_eq_true_eq] at this
 exact this.1
theorem RunAt.parcs {h : Int} {fx : List Int} {bx A R B : List S98} (v : ColV h fx bx) (hr : RunAt fx bx A R B) : parcs [] (A ++ B) := by
 have := v.par
 rw [← hr.all] at this
 exact (parcs_mid hr.zero).mp this
theorem ColV.ne {h : Int} {fx : List Int} {bx : List S98} (v : ColV h fx bx) : 0 < bx.length := by
 cases bx with
 | nil =>
  have := v.til
  have := v.hi
  simp only [tile] at *
  omega
 | cons x l => simp
end Go.Proofs.Ytbpjidekjogfeaa.A

namespace Go.Proofs.Ytbpjidekjogfeaa.A
open Go.RowKit Go.Proofs.YtbpjidekjogfeaaW.PrintWords Go.Proofs.YtbpjidekjogfeaaW.PrintLast Go.Proofs.YtbpjidekjogfeaaW.PrintMore
set_option linter.unusedVariables false
set_option linter.unusedSimpArgs false
def roomsG (gs : List S50) : List Int := gs.map (fun g => g.f2)
structure Geo (cs : List S41) : Prop where
 len : cs.length ≤ 6
 fix : ∀ c ∈ cs, c.f1.length ≤ 1048576
 til : ∀ c ∈ cs, ∃ h, h ≤ 24 ∧ tile 0 c.f2 h
theorem Geo.flat {cs : List S41} (g : Geo cs) : Flat cs := by
 refine ⟨g.len, g.fix, fun c hc => ?_, fun c hc b hb => ?_⟩
 ·obtain ⟨h, h1, h2⟩ := g.til c hc
  have := tile_sum _ _ _ h2
  omega
 ·obtain ⟨h, h1, h2⟩ := g.til c hc
  have := tile_mem _ _ _ h2 b hb
  omega
end Go.Proofs.Ytbpjidekjogfeaa.A
