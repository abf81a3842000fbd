/- What the proof of the law FnExactBoxOf uses: lemmas, the Lean functions of the Go functions that it reaches, their contracts, and the pure statement's proof. -/
import Derived.Test.YtghfeapncmlihaaZFnExactBoxOfx12
import Derived.Test.YtghfeapncmlihaaZFnExactBoxOfx16
import Derived.Test.YtghfeapncmlihaaZFnExactBoxOfx11
import Derived.Test.YtghfeapncmlihaaZFnExactBoxOfx18
import Derived.Test.YtghfeapncmlihaaZFnExactBoxOfx14
import Derived.Test.YtghfeapncmlihaaZFnExactBoxOfx17
import Derived.Test.YtghfeapncmlihaaZFnExactBoxOfx13
namespace Go.Proofs.Ytghfeapncmlihaa.A
open Go.RowKit Go.Proofs.YtghfeapncmlihaaW.PrintWords Go.Proofs.YtghfeapncmlihaaW.PrintLast Go.Proofs.YtghfeapncmlihaaW.PrintMore
set_option linter.unusedVariables false
set_option linter.unusedSimpArgs false
def Ev {α : Type} (F : Nat → Option α) (r : α) : Prop := ∃ K, ∀ k, K ≤ k → F k = some r
theorem Ev.mk {α : Type} {F : Nat → Option α} {r : α} (K : Nat) (h : ∀ k, K < k → F k = some r) : Ev F r := ⟨K + 1, fun k hk => h k hk⟩
theorem Ev.get {α : Type} {F : Nat → Option α} {r : α} (h : Ev F r) : ∃ k, F k = some r := by
  obtain ⟨K, h⟩ := h
  exact ⟨K, h K (Nat.le_refl _)⟩
theorem Ev.const {α : Type} {o : Option α} {r : α} (h : o = some r) : Ev (fun _ => o) r := ⟨0, fun _ _ => h⟩
theorem Ev.ret {α : Type} (r : α) : Ev (fun _ => some r) r := ⟨0, fun _ _ => rfl⟩
theorem Ev.bind {α β : Type} {F : Nat → Option α} {G : Nat → α → Option β} {a : α} {b : β} (h1 : Ev F a) (h2 : Ev (fun k => G k a) b) : Ev (fun k => (F k).bind (G k)) b := by
  obtain ⟨K1, h1⟩ := h1
  obtain ⟨K2, h2⟩ := h2
  refine ⟨max K1 K2, fun k hk => ?_⟩
  show (F k).bind (G k) = some b
  rw [h1 k (by omega)]
  exact h2 k (by omega)
theorem Ev.pos {α : Type} {c : Prop} [Decidable c] {A B : Nat → Option α} {r : α} (h : c) (hA : Ev A r) : Ev (fun k => if c then A k else B k) r := by
  obtain ⟨K, hA⟩ := hA
  exact ⟨K, fun k hk => by show (if c then A k else B k) = some r; rw [if_pos h]; exact hA k hk⟩
theorem Ev.neg {α : Type} {c : Prop} [Decidable c] {A B : Nat → Option α} {r : α} (h : ¬ c) (hB : Ev B r) : Ev (fun k => if c then A k else B k) r := by
  obtain ⟨K, hB⟩ := hB
  exact ⟨K, fun k hk => by show (if c then A k else B k) = some r; rw [if_neg h]; exact hB k hk⟩
theorem Ev.ite {α : Type} {c : Prop} [Decidable c] {A B : Nat → Option α} {a b : α} (hA : c → Ev A a) (hB : ¬ c → Ev B b) : Ev (fun k => if c then A k else B k) (if c then a else b) := by
  by_cases h : c
  · rw [if_pos h]; exact Ev.pos h (hA h)
  · rw [if_neg h]; exact Ev.neg h (hB h)
theorem Ev.succ {α : Type} {F : Nat → Option α} {r : α} (h : Ev (fun k => F (k + 1)) r) : Ev F r := by
  obtain ⟨K, h⟩ := h
  refine ⟨K + 1, fun k hk => ?_⟩
  obtain ⟨m, rfl⟩ : ∃ m, k = m + 1 := ⟨k - 1, by omega⟩
  exact h m (by omega)
theorem Ev.of_eq {α : Type} {F G : Nat → Option α} {r : α} (h : Ev F r) (e : ∀ k, G k = F k) : Ev G r := by
  obtain ⟨K, h⟩ := h
  exact ⟨K, fun k hk => (e k).trans (h k hk)⟩
theorem Ev.to {α : Type} {F : Nat → Option α} {r s : α} (h : Ev F r) (e : r = s) : Ev F s := e ▸ h
theorem getD_gen {α : Type} {l : List α} {i : Nat} (d : α) (h : i < l.length) : l.getD i d = l[i] := by
  rw [List.getD_eq_getElem?_getD, List.getElem?_eq_getElem h]; rfl
theorem wsucc (i : Nat) (h : i < 9223372036854775807) : wrap64 ((i : Int) + 1) = ((i + 1 : Nat) : Int) := by unfold wrap64; omega
theorem wpred (i : Nat) (h : 0 < i) (h2 : i ≤ 9223372036854775807) : wrap64 ((i : Int) - 1) = ((i - 1 : Nat) : Int) := by unfold wrap64; omega
theorem wid (x : Int) (h : -9223372036854775808 ≤ x) (h2 : x ≤ 9223372036854775807) : wrap64 x = x := by unfold wrap64; omega
theorem all_loop {L : Nat → Int → Option Bool} {n : Nat} {P : Nat → Bool} (h : ∀ k i, i < n → L (k + 1) (i : Int) = if P i = true then L k ((i + 1 : Nat) : Int) else some false)
    (he : ∀ k, L (k + 1) (n : Int) = some true) (d : Nat) : ∀ k i, i + d = n → d < k → L k (i : Int) = some ((List.range' i d).all P) := by
  induction d with
  | zero =>
    intro k i hi hk
    obtain ⟨k, rfl⟩ : ∃ m, k = m + 1 := ⟨k - 1, by omega⟩
    obtain rfl : i = n := by omega
    rw [he]; rfl
  | succ d ih =>
    intro k i hi hk
    obtain ⟨k, rfl⟩ : ∃ m, k = m + 1 := ⟨k - 1, by omega⟩
    rw [h k i (by omega), List.range'_succ, List.all_cons]
    by_cases hp : P i = true
    · rw [if_pos hp, ih k (i + 1) (by omega) (by omega), hp, Bool.true_and]
    · rw [if_neg hp]
      have : P i = false := by simpa using hp
      rw [this, Bool.false_and]
theorem map_loop {α β : Type} {L : Nat → List β → Int → Option (List β)} {xs : List α} {g : α → β} (d0 : α)
    (h : ∀ k acc (i : Nat), i < xs.length → acc.length = xs.length → L (k + 1) acc (i : Int) = L k (acc.set i (g (xs.getD i d0))) ((i + 1 : Nat) : Int))
    (he : ∀ k acc, L (k + 1) acc (xs.length : Int) = some acc) (d : Nat) :
    ∀ k acc i, i + d = xs.length → d < k → acc.length = xs.length → (∀ j, j < i → acc[j]? = (xs.map g)[j]?) → L k acc (i : Int) = some (xs.map g) := by
  induction d with
  | zero =>
    intro k acc i hi hk hl hp
    obtain ⟨k, rfl⟩ : ∃ m, k = m + 1 := ⟨k - 1, by omega⟩
    obtain rfl : i = xs.length := by omega
    rw [he]
    congr 1
    apply List.ext_getElem?
    intro j
    by_cases hj : j < xs.length
    · exact hp j hj
    · rw [List.getElem?_eq_none (by omega), List.getElem?_eq_none (by simp; omega)]
  | succ d ih =>
    intro k acc i hi hk hl hp
    obtain ⟨k, rfl⟩ : ∃ m, k = m + 1 := ⟨k - 1, by omega⟩
    rw [h k acc i (by omega) hl]
    refine ih k _ (i + 1) (by omega) (by omega) (by simp [hl]) (fun j hj => ?_)
    by_cases e : i = j
    · subst e
      rw [List.getElem?_set_self (by omega), List.getElem?_map, List.getElem?_eq_getElem (show i < xs.length by omega), List.getD_eq_getElem?_getD, List.getElem?_eq_getElem (show i < xs.length by omega)]
      rfl
    · rw [List.getElem?_set_ne e]
      exact hp j (by omega)
theorem in_eq (a b c : Int) : spec_l01In.f a b c = some (decide (b ≤ a ∧ a ≤ c)) := by
  unfold spec_l01In.f
  split
  · congr 1; rw [decide_eq_decide]; omega
  · congr 1; exact (decide_eq_false (by omega)).symm
def boxS : List S71 → Int → List Int → Option Int
  | [], low, _ => some low
  | b :: bs, low, ps => if b.f0 = low ∧ (1 ≤ b.f1 ∧ b.f1 ≤ 24) ∧ (0 ≤ b.f2 ∧ b.f2 ≤ 999) ∧ ¬ (0 < b.f2 ∧ b.f2 ∈ ps) ∧ low + b.f1 ≤ 24 then boxS bs (low + b.f1) (b.f2 :: ps) else none
def boxesS (h : Int) (bx : List S71) (o : Option Int) : Bool := match o with | none => false | some low => decide (bx ≠ []) && decide (low = h)
theorem boxes_in (h : Int) (fx : List Int) (bx : List S71) (at_ : Int) (i : Nat) (hi : i < bx.length) (hi2 : i ≤ 24) (b : S71) (P : Prop) [Decidable P] (hP : P ↔ (0 < b.f2 ∧ ∃ j, j < i ∧ (bx.getD j z71).f2 = b.f2)) (d : Nat) :
    ∀ (k j : Nat), j + d = i → d < k → (∀ m, m < j → 0 < b.f2 → (bx.getD m z71).f2 ≠ b.f2) → spec_l02Boxes.l1 k at_ (i : Int) (j : Int) h fx bx b.f0 b.f1 b.f2 b.f3 = if P then some false else (if (wrap64 (at_ + b.f1)) > 24 then (some false) else (spec_l02Boxes.l0 (k - d - 1) (wrap64 (at_ + b.f1)) ((i + 1 : Nat) : Int) h fx bx)) := by
  induction d with
  | zero =>
    intro k j hj hk hn
    obtain ⟨k, rfl⟩ : ∃ m, k = m + 1 := ⟨k - 1, by omega⟩
    simp only [spec_l02Boxes.l1]
    have hnp : ¬ P := fun hp => by obtain ⟨h0, m, hm, e⟩ := hP.mp hp; exact hn m (by omega) h0 e
    rw [if_neg (by omega), if_neg hnp, wsucc i (by omega)]
    rfl
  | succ d ih =>
    intro k j hj hk hn
    obtain ⟨k, rfl⟩ : ∃ m, k = m + 1 := ⟨k - 1, by omega⟩
    simp only [spec_l02Boxes.l1]
    have er : rd_T71 bx (j : Int) = bx.getD j z71 := rfl
    rw [if_pos (by omega), er, wsucc j (by omega)]
    by_cases c0 : b.f2 > 0
    · rw [if_pos c0, if_pos (by omega), if_pos (by omega)]
      by_cases c1 : (bx.getD j z71).f2 = b.f2
      · rw [if_pos c1, if_pos (hP.mpr ⟨c0, j, by omega, c1⟩)]
      · rw [if_neg c1, ih k (j + 1) (by omega) (by omega) (fun m hm h0 => by
          by_cases e : m = j
          · subst e; exact c1
          · exact hn m (by omega) h0), show k + 1 - (d + 1) - 1 = k - d - 1 by omega]
    · rw [if_neg c0, ih k (j + 1) (by omega) (by omega) (fun m hm h0 => absurd h0 c0), show k + 1 - (d + 1) - 1 = k - d - 1 by omega]
theorem drop_cons {α : Type} (l : List α) (d : α) (i : Nat) (hi : i < l.length) : l.drop i = l.getD i d :: l.drop (i + 1) := by
  rw [List.drop_eq_getElem_cons hi, getD_gen d hi]
theorem boxes_loop (h : Int) (fx : List Int) (bx : List S71) (hl : bx.length ≤ 140737488351232) : ∀ (d k i : Nat) (at_ : Int) (ps : List Int), (24 - at_).toNat = d → 0 ≤ at_ → at_ ≤ 24 → (i : Int) ≤ at_ → i ≤ bx.length → (d + 2) * 40 < k →
    (∀ x, x ∈ ps ↔ ∃ j, j < i ∧ (bx.getD j z71).f2 = x) → spec_l02Boxes.l0 k at_ (i : Int) h fx bx = some (boxesS h bx (boxS (bx.drop i) at_ ps)) := by
  intro d
  induction d using Nat.strongRecOn with
  | _ d ih =>
  intro k i at_ ps hd h0 h1 hi hil hk hps
  obtain ⟨k, rfl⟩ : ∃ m, k = m + 2 := ⟨k - 2, by omega⟩
  simp only [spec_l02Boxes.l0]
  by_cases c : i < bx.length
  · have er : rd_T71 bx (i : Int) = bx.getD i z71 := rfl
    rw [if_pos (by omega), if_pos (by omega), drop_cons bx z71 i c, er]
    simp only [in_eq, Option.bind_some, boxS]
    generalize hb : bx.getD i z71 = b
    by_cases c0 : b.f0 = at_
    · rw [if_pos c0]
      by_cases c1 : 1 ≤ b.f1 ∧ b.f1 ≤ 24
      · rw [if_pos (decide_eq_true c1)]
        by_cases c2 : 0 ≤ b.f2 ∧ b.f2 ≤ 999
        · simp only [decide_eq_true c2, spec_l02Boxes.j1, Bool.not_true]
          rw [if_neg (by simp)]
          have hin := boxes_in h fx bx at_ i c (by omega) b (0 < b.f2 ∧ b.f2 ∈ ps) (by rw [hps]) i k 0 (by omega) (by omega) (fun m hm => by omega)
          refine hin.trans ?_
          by_cases c3 : 0 < b.f2 ∧ b.f2 ∈ ps
          · rw [if_pos c3, if_neg (fun h => h.2.2.2.1 c3)]; rfl
          · rw [if_neg c3, wid (at_ + b.f1) (by omega) (by omega)]
            by_cases c4 : at_ + b.f1 > 24
            · rw [if_pos c4, if_neg (fun h => by have := h.2.2.2.2; omega)]; rfl
            · rw [if_neg c4, if_pos ⟨c0, c1, c2, c3, by omega⟩]
              refine ih (24 - (at_ + b.f1)).toNat (by omega) _ (i + 1) (at_ + b.f1) (b.f2 :: ps) rfl (by omega) (by omega) (by omega) (by omega) (by omega) (fun x => ?_)
              rw [List.mem_cons, hps]
              constructor
              · rintro (rfl | ⟨j, hj, e⟩)
                · exact ⟨i, by omega, by rw [hb]⟩
                · exact ⟨j, by omega, e⟩
              · rintro ⟨j, hj, e⟩
                by_cases ej : j = i
                · subst ej; left; rw [← e, hb]
                · right; exact ⟨j, by omega, e⟩
        · simp only [decide_eq_false c2, spec_l02Boxes.j1, Bool.not_false]
          rw [if_pos trivial, if_neg (fun h => c2 h.2.2.1)]; rfl
      · rw [if_neg (by simpa using c1)]
        simp only [spec_l02Boxes.j1]
        rw [if_pos trivial, if_neg (fun h => c1 h.2.1)]; rfl
    · rw [if_neg c0]
      simp only [spec_l02Boxes.j1]
      rw [if_pos trivial, if_neg (fun h => c0 h.1)]; rfl
  · rw [if_neg (by omega), List.drop_eq_nil_of_le (by omega)]
    simp only [boxS, boxesS]
    by_cases c0 : (bx.length : Int) > 0
    · have hne : bx ≠ [] := by intro e; rw [e] at c0; simp at c0
      rw [if_pos c0, decide_eq_true hne, Bool.true_and]
      congr 1
    · have hne : ¬ bx ≠ [] := by intro e; exact e (List.length_eq_zero_iff.mp (by omega))
      rw [if_neg c0, decide_eq_false hne, Bool.false_and]
theorem boxes_eq (h : Int) (fx : List Int) (bx : List S71) (hl : bx.length ≤ 140737488351232) (k : Nat) (hk : 1100 < k) : spec_l02Boxes.f k h fx bx = some (boxesS h bx (boxS bx 0 [])) := by
  unfold spec_l02Boxes.f
  have := boxes_loop h fx bx hl 24 k 0 0 [] (by omega) (by omega) (by omega) (by omega) (by omega) (by omega) (by simp)
  exact this
theorem boxS_le : ∀ (bs : List S71) (low : Int) (ps : List Int) (e : Int), boxS bs low ps = some e → low ≤ e ∧ (bs.length : Int) ≤ e - low ∧ (low ≤ 24 → e ≤ 24)
  | [], low, ps, e, h => by simp [boxS] at h; subst h; exact ⟨by omega, by simp, id⟩
  | b :: bs, low, ps, e, h => by
    simp only [boxS] at h
    split at h
    · next hc =>
      obtain ⟨h1, h2, h3⟩ := boxS_le bs _ _ _ h
      exact ⟨by omega, by simp; omega, fun _ => h3 (by omega)⟩
    · simp at h
theorem boxP_S (h : Int) (hh : h ≤ 24) : ∀ (bs : List S71) (low : Int) (ls ps : List Int) (e : Int) (ls' : List Int), 0 ≤ low → boxP h bs low ls ps = some (e, ls') → boxS bs low ps = some e ∧ ∀ f, f ∈ ls' ↔ f ∈ ls ∨ f ∈ bs.map (fun b => b.f0)
  | [], low, ls, ps, e, ls', h0, hb => by
    simp only [boxP, Option.some.injEq, Prod.mk.injEq] at hb
    obtain ⟨rfl, rfl⟩ := hb
    exact ⟨rfl, fun f => by simp⟩
  | b :: bs, low, ls, ps, e, ls', h0, hb => by
    simp only [boxP] at hb
    split at hb
    · next hc =>
      obtain ⟨h1, h2⟩ := boxP_S h hh bs _ _ _ _ _ (by omega) hb
      refine ⟨?_, fun f => ?_⟩
      · simp only [boxS]
        rw [if_pos ⟨hc.1, ⟨hc.2.1.1, by omega⟩, hc.2.2.1, hc.2.2.2, by omega⟩]
        exact h1
      · rw [h2 f, List.mem_cons, List.map_cons, List.mem_cons]
        constructor
        · rintro ((h | h) | h)
          · exact Or.inr (Or.inl h)
          · exact Or.inl h
          · exact Or.inr (Or.inr h)
        · rintro (h | h | h)
          · exact Or.inl (Or.inr h)
          · exact Or.inl (Or.inl h)
          · exact Or.inr h
    · simp at hb
theorem boxS_P (h : Int) : ∀ (bs : List S71) (low : Int) (ls ps : List Int), boxS bs low ps = some h → ∃ ls', boxP h bs low ls ps = some (h, ls')
  | [], low, ls, ps, hb => by
    simp only [boxS, Option.some.injEq] at hb
    subst hb
    exact ⟨ls, rfl⟩
  | b :: bs, low, ls, ps, hb => by
    simp only [boxS] at hb
    split at hb
    · next hc =>
      have hle := (boxS_le bs _ _ _ hb).1
      obtain ⟨ls', h1⟩ := boxS_P h bs _ (b.f0 :: ls) _ hb
      refine ⟨ls', ?_⟩
      simp only [boxP]
      rw [if_pos ⟨hc.1, ⟨hc.2.1.1, by omega⟩, hc.2.2.1, hc.2.2.2.1⟩]
      exact h1
    · simp at hb
theorem colS_eq (h : Int) (fx : List Int) (bx : List S71) : (decide (1 ≤ h ∧ h ≤ 24) && (boxesS h bx (boxS bx 0 []) && (fixP h none fx && fx.all (fun f => decide (f ∈ bx.map (fun b => b.f0)))))) = colP h fx bx := by
  unfold colP
  by_cases hh : 1 ≤ h ∧ h ≤ 24
  · rw [decide_eq_true hh, Bool.true_and, Bool.true_and]
    cases hP : boxP h bx 0 [] [] with
    | none =>
      have hf : boxesS h bx (boxS bx 0 []) = false := by
        cases hS : boxS bx 0 [] with
        | none => rfl
        | some e =>
          by_cases c : e = h
          · subst c
            obtain ⟨ls', hl⟩ := boxS_P e bx 0 [] [] hS
            rw [hl] at hP; simp at hP
          · simp [boxesS, c]
      rw [hf]; simp
    | some z =>
      obtain ⟨e, ls⟩ := z
      obtain ⟨h1, h2⟩ := boxP_S h hh.2 bx 0 [] [] e ls (by omega) hP
      have ha : fx.all (fun f => decide (f ∈ bx.map (fun b => b.f0))) = fx.all (fun f => decide (f ∈ ls)) := by
        congr 1
        funext f
        rw [decide_eq_decide, h2 f]
        simp
      rw [h1, ha]
      simp only [boxesS]
      cases decide (bx ≠ []) <;> cases decide (e = h) <;> cases fixP h none fx <;> cases fx.all (fun f => decide (f ∈ ls)) <;> rfl
  · rw [decide_eq_false hh, Bool.false_and, Bool.false_and, Bool.false_and, Bool.false_and]
def fixS (h : Int) (L : List Int) : Option Int → List Int → Bool
  | _, [] => true
  | p, f :: fs => decide (1 ≤ f ∧ f ≤ h - 1) && (match p with | none => true | some q => decide (q < f)) && decide (f ∈ L) && fixS h L (some f) fs
theorem fixS_eq (h : Int) (L : List Int) : ∀ (fs : List Int) (p : Option Int), fixS h L p fs = (fixP h p fs && fs.all (fun f => decide (f ∈ L)))
  | [], p => rfl
  | f :: fs, p => by
    simp only [fixS, fixP, List.all_cons]
    rw [fixS_eq h L fs (some f)]
    ac_rfl
theorem drop_step {α : Type} {l : List α} {i : Nat} {b : α} {rest : List α} (d : α) (h : l.drop i = b :: rest) : i < l.length ∧ l.getD i d = b ∧ l.drop (i + 1) = rest := by
  have hi : i < l.length := by
    apply Classical.byContradiction
    intro c
    rw [List.drop_eq_nil_of_le (by omega)] at h
    cases h
  have h2 := drop_cons l d i hi
  rw [h] at h2
  injection h2 with h3 h4
  exact ⟨hi, h3.symm, h4.symm⟩
theorem drop_end {α : Type} {l : List α} {i : Nat} (h : l.drop i = []) (hi : i ≤ l.length) : i = l.length := by
  have := List.drop_eq_nil_iff.mp h
  omega
theorem found_ev (h : Int) (fx : List Int) (bx : List S71) (i : Nat) (hi : i < fx.length) (hi2 : i ≤ 140737488351232) (hl : bx.length ≤ 24) (s : Bool) (hs : Ev (fun k => spec_ColumnOk.l0 k ((i + 1 : Nat) : Int) h fx bx) s) :
    ∀ (rest : List S71) (j : Nat) (b : Bool), bx.drop j = rest → j ≤ bx.length → Ev (fun k => spec_ColumnOk.l1 k (i : Int) b (j : Int) h fx bx) (if (b || rest.any (fun x => decide (x.f0 = fx.getD i 0))) = true then s else false)
  | [], j, b, hd, hj => by
    refine Ev.succ ?_
    simp only [spec_ColumnOk.l1]
    have he := drop_end hd hj
    refine Ev.neg (by omega) ?_
    rw [List.any_nil, Bool.or_false, wsucc i (by omega)]
    exact Ev.ite (fun _ => hs) (fun _ => Ev.ret _)
  | x :: rest, j, b, hd, hj => by
    obtain ⟨h1, h2, h3⟩ := drop_step z71 hd
    refine Ev.succ ?_
    simp only [spec_ColumnOk.l1]
    refine Ev.pos (by omega) ?_
    rw [wsucc j (by omega), List.any_cons]
    cases b with
    | true =>
      refine Ev.pos rfl ?_
      refine (found_ev h fx bx i hi hi2 hl s hs rest (j + 1) true h3 (by omega)).to ?_
      rw [Bool.true_or, Bool.true_or]
    | false =>
      refine Ev.neg (by simp) ?_
      refine Ev.pos (by omega) ?_
      refine Ev.pos (by omega) ?_
      refine Ev.pos (by omega) ?_
      refine (found_ev h fx bx i hi hi2 hl s hs rest (j + 1) _ h3 (by omega)).to ?_
      rw [Bool.false_or]
      have e1 : rd_T71 bx (j : Int) = x := h2
      have e2 : rd fx (i : Int) = fx.getD i 0 := rfl
      rw [e1, e2]
      rfl
theorem prev_eq (fx : List Int) (i : Nat) : prevP fx ((i + 1 : Nat) : Int) = some (fx.getD i 0) := by
  unfold prevP
  rw [if_neg (by omega), show ((i + 1 : Nat) : Int) - 1 = (i : Int) by omega]
  rfl
theorem any_lows (f : Int) (bx : List S71) : (bx.any (fun x => decide (x.f0 = f))) = decide (f ∈ bx.map (fun b => b.f0)) := by
  rw [Bool.eq_iff_iff, List.any_eq_true, decide_eq_true_iff, List.mem_map]
  constructor
  · rintro ⟨x, hx, e⟩; exact ⟨x, hx, of_decide_eq_true e⟩
  · rintro ⟨x, hx, e⟩; exact ⟨x, hx, decide_eq_true e⟩
theorem fixed_ev (h : Int) (h0 : 1 ≤ h) (h1 : h ≤ 24) (fx : List Int) (hx : fx.length ≤ 140737488351232) (bx : List S71) (hl : bx.length ≤ 24) :
    ∀ (rest : List Int) (i : Nat), fx.drop i = rest → i ≤ fx.length → Ev (fun k => spec_ColumnOk.l0 k (i : Int) h fx bx) (fixS h (bx.map (fun b => b.f0)) (prevP fx (i : Int)) rest)
  | [], i, hd, hj => by
    refine Ev.succ ?_
    simp only [spec_ColumnOk.l0]
    have he := drop_end hd hj
    refine Ev.neg (by omega) ?_
    exact Ev.ret _
  | f :: rest, i, hd, hj => by
    obtain ⟨h2, h3, h4⟩ := drop_step 0 hd
    have ih := fixed_ev h h0 h1 fx hx bx hl rest (i + 1) h4 (by omega)
    have hf := found_ev h fx bx i h2 (by omega) hl _ ih bx 0 false rfl (by omega)
    rw [Bool.false_or, any_lows, h3, prev_eq, h3] at hf
    have er : rd fx (i : Int) = f := h3
    have go : ∀ (b : Bool), Ev (fun k => spec_ColumnOk.j2 k (i : Int) b h fx bx) (if b = true then false else if decide (f ∈ bx.map (fun b => b.f0)) = true then fixS h (bx.map (fun b => b.f0)) (some f) rest else false) := by
      intro b
      refine Ev.succ ?_
      simp only [spec_ColumnOk.j2]
      exact Ev.ite (fun _ => Ev.ret _) (fun _ => hf)
    refine Ev.succ ?_
    simp only [spec_ColumnOk.l0]
    refine Ev.pos (by omega) ?_
    refine Ev.pos (by omega) ?_
    rw [er, wid (h - 1) (by omega) (by omega)]
    refine Ev.bind (Ev.const (in_eq _ _ _)) ?_
    simp only [fixS]
    by_cases c1 : 1 ≤ f ∧ f ≤ h - 1
    · refine Ev.pos (decide_eq_true c1) ?_
      rw [decide_eq_true c1, Bool.true_and]
      by_cases c2 : (i : Int) > 0
      · have hp : prevP fx (i : Int) = some (fx.getD (i - 1) 0) := by
          have := prev_eq fx (i - 1)
          rwa [show i - 1 + 1 = i by omega] at this
        have e2 : rd fx ((i - 1 : Nat) : Int) = fx.getD (i - 1) 0 := rfl
        refine Ev.pos c2 ?_
        rw [wpred i (by omega) (by omega), hp, e2]
        refine Ev.pos (by omega) ?_
        refine Ev.pos (by omega) ?_
        refine (go _).to ?_
        by_cases c3 : f ≤ fx.getD (i - 1) 0
        · rw [if_pos (decide_eq_true c3)]
          simp only [decide_eq_false (show ¬ fx.getD (i - 1) 0 < f by omega), Bool.false_and]
        · rw [if_neg (by simpa using c3)]
          simp only [decide_eq_true (show fx.getD (i - 1) 0 < f by omega), Bool.true_and]
          cases decide (f ∈ bx.map (fun b => b.f0)) <;> simp
      · have hp : prevP fx (i : Int) = none := by unfold prevP; rw [if_pos (by omega)]
        refine Ev.neg c2 ?_
        refine (go _).to ?_
        rw [hp]
        cases decide (f ∈ bx.map (fun b => b.f0)) <;> simp
    · refine Ev.neg (by simpa using c1) ?_
      refine (go _).to ?_
      rw [if_pos rfl, decide_eq_false c1]
      simp only [Bool.false_and]
theorem colok_ev (h : Int) (fx : List Int) (hx : fx.length ≤ 140737488351232) (bx : List S71) (hl : bx.length ≤ 140737488351232) : Ev (fun k => spec_ColumnOk.f k h fx bx) (colP h fx bx) := by
  refine Ev.of_eq ?_ (fun k => by unfold spec_ColumnOk.f; rfl)
  refine Ev.bind (Ev.const (in_eq _ _ _)) ?_
  rw [← colS_eq, ← fixS_eq]
  by_cases hh : 1 ≤ h ∧ h ≤ 24
  · refine Ev.pos (decide_eq_true hh) ?_
    refine Ev.bind (Ev.mk 1100 (fun k hk => boxes_eq h fx bx hl k hk)) ?_
    rw [decide_eq_true hh, Bool.true_and]
    refine Ev.succ ?_
    simp only [spec_ColumnOk.j0]
    cases hS : boxS bx 0 [] with
    | none =>
      refine Ev.pos (by simp [boxesS]) ?_
      exact Ev.ret _
    | some e =>
      by_cases hb : boxesS h bx (some e) = true
      · rw [hb]
        have hle := boxS_le bx 0 [] e hS
        have he : e ≤ 24 := hle.2.2 (by omega)
        refine Ev.neg (by simp) ?_
        exact fixed_ev h hh.1 hh.2 fx hx bx (by omega) fx 0 rfl (by omega)
      · have hb2 : boxesS h bx (some e) = false := by simpa using hb
        rw [hb2]
        refine Ev.pos (by simp) ?_
        exact Ev.ret _
  · refine Ev.neg (by simpa using hh) ?_
    rw [decide_eq_false hh, Bool.false_and]
    refine Ev.succ ?_
    simp only [spec_ColumnOk.j0]
    refine Ev.pos (by simp) ?_
    exact Ev.ret _
end Go.Proofs.Ytghfeapncmlihaa.A

namespace Go.Proofs.Ytghfeapncmlihaa.A
open Go.RowKit Go.Proofs.YtghfeapncmlihaaW.PrintWords Go.Proofs.YtghfeapncmlihaaW.PrintLast Go.Proofs.YtghfeapncmlihaaW.PrintMore
set_option linter.unusedVariables false
set_option linter.unusedSimpArgs false
def opB (b : S71) : Bool := decide (b.f2 = 0) && !b.f3
def sumB (l : List S71) : Int := (l.map (fun b => b.f1)).foldr (· + ·) 0
theorem sumB_nil : sumB [] = 0 := rfl
theorem sumB_cons (b : S71) (l : List S71) : sumB (b :: l) = b.f1 + sumB l := rfl
def tile : Int → List S71 → Int → Prop
  | lo, [], hi => lo = hi
  | lo, b :: bs, hi => b.f0 = lo ∧ 1 ≤ b.f1 ∧ tile (lo + b.f1) bs hi
theorem tile_sum : ∀ (bs : List S71) (lo hi : Int), tile lo bs hi → lo + sumB bs = hi ∧ lo + bs.length ≤ hi
  | [], lo, hi, h => by simp only [tile] at h; subst h; simp [sumB_nil]
  | b :: bs, lo, hi, h => by
    obtain ⟨_, h1, h2⟩ := h
    have := tile_sum bs _ _ h2
    rw [sumB_cons, List.length_cons]
    omega
def gapR : List S71 → S54
  | [] => ⟨0, 0, 0⟩
  | b :: bs => ⟨0, b.f0, sumB (b :: bs)⟩
def emR (cur : List S71) : List S54 := if cur = [] then [] else [gapR cur]
def gapsW (fx : List Int) : List S71 → List S71 → List S54
  | cur, [] => emR cur
  | cur, b :: bs => if opB b = true then (if cur ≠ [] ∧ b.f0 ∉ fx then gapsW fx (cur ++ [b]) bs else emR cur ++ gapsW fx [b] bs) else emR cur ++ gapsW fx [] bs
def Shut (fx : List Int) (A : List S71) : Prop := ∀ Z, gapsW fx [] (A ++ Z) = gapsW fx [] A ++ gapsW fx [] Z
def ShutAt (fx : List Int) (A : List S71) (lo : Int) : Prop := ∀ z Z, z.f0 = lo → gapsW fx [] (A ++ z :: Z) = gapsW fx [] A ++ gapsW fx [] (z :: Z)
theorem Shut.at {fx : List Int} {A : List S71} (h : Shut fx A) (lo : Int) : ShutAt fx A lo := fun z Z _ => h (z :: Z)
def parcs (ps : List Int) : List S71 → Prop
  | [] => True
  | b :: bs => (0 ≤ b.f2 ∧ b.f2 ≤ 999) ∧ ¬ (0 < b.f2 ∧ b.f2 ∈ ps) ∧ parcs (b.f2 :: ps) bs
theorem boxS_iff : ∀ (bs : List S71) (low : Int) (ps : List Int) (e : Int), 0 ≤ low → low ≤ 24 → (boxS bs low ps = some e ↔ tile low bs e ∧ e ≤ 24 ∧ parcs ps bs)
  | [], low, ps, e, h0, h => by
    simp only [boxS, tile, parcs, Option.some.injEq]
    constructor
    · rintro rfl; exact ⟨rfl, h, trivial⟩
    · rintro ⟨h, _⟩; exact h
  | b :: bs, low, ps, e, hn, h => by
    simp only [boxS, tile, parcs]
    constructor
    · intro hs
      split at hs
      · next hc =>
        obtain ⟨h1, h2, h3⟩ := (boxS_iff bs _ _ e (by omega) hc.2.2.2.2).mp hs
        exact ⟨⟨hc.1, hc.2.1.1, h1⟩, h2, hc.2.2.1, hc.2.2.2.1, h3⟩
      · cases hs
    · rintro ⟨⟨h0, h1, h2⟩, h3, h4, h5, h6⟩
      have hs := tile_sum _ _ _ h2
      rw [if_pos ⟨h0, ⟨h1, by omega⟩, h4, h5, by omega⟩]
      exact (boxS_iff bs _ _ e (by omega) (by omega)).mpr ⟨h2, h3, h6⟩
structure ColV (h : Int) (fx : List Int) (bx : List S71) : Prop where
  hi : 1 ≤ h ∧ h ≤ 24
  til : tile 0 bx h
  par : parcs [] bx
  fix : fixP h none fx = true
  low : ∀ f ∈ fx, ∃ b ∈ bx, b.f0 = f
theorem colP_iff (h : Int) (fx : List Int) (bx : List S71) : colP h fx bx = true ↔ ColV h fx bx := by
  rw [← colS_eq]
  constructor
  · intro e
    simp only [Bool.and_eq_true, decide_eq_true_eq] at e
    obtain ⟨e1, e2, e3, e4⟩ := e
    cases hS : boxS bx 0 [] with
    | none => rw [hS] at e2; simp [boxesS] at e2
    | some x =>
      rw [hS] at e2
      simp only [boxesS, Bool.and_eq_true, decide_eq_true_eq] at e2
      obtain ⟨_, rfl⟩ := e2
      obtain ⟨t1, t2, t3⟩ := (boxS_iff bx 0 [] x (by omega) (by omega)).mp hS
      refine ⟨e1, t1, t3, e3, fun f hf => ?_⟩
      have := List.all_eq_true.mp e4 f hf
      simp only [decide_eq_true_eq, List.mem_map] at this
      exact this
  · intro v
    have hS := (boxS_iff bx 0 [] h (by omega) (by omega)).mpr ⟨v.til, v.hi.2, v.par⟩
    have hne : bx ≠ [] := by
      intro e
      have := v.til
      rw [e] at this
      simp only [tile] at this
      have := v.hi
      omega
    simp only [Bool.and_eq_true, decide_eq_true_eq]
    refine ⟨v.hi, ?_, v.fix, ?_⟩
    · rw [hS]; simp [boxesS, hne]
    · exact List.all_eq_true.mpr (fun f hf => by simp only [decide_eq_true_eq, List.mem_map]; exact v.low f hf)
theorem ColV.len {h : Int} {fx : List Int} {bx : List S71} (v : ColV h fx bx) : bx.length ≤ 24 := by
  have := tile_sum _ _ _ v.til
  have := v.hi
  omega
theorem parcs_iff : ∀ (bs : List S71) (ps : List Int), parcs ps bs ↔ (∀ b ∈ bs, 0 ≤ b.f2 ∧ b.f2 ≤ 999) ∧ (∀ b ∈ bs, 0 < b.f2 → b.f2 ∉ ps) ∧ bs.Pairwise (fun a b => 0 < b.f2 → a.f2 ≠ b.f2)
  | [], ps => by simp [parcs]
  | b :: bs, ps => by
    simp only [parcs]
    rw [parcs_iff bs]
    constructor
    · rintro ⟨h1, h2, h3, h4, h5⟩
      refine ⟨fun x hx => ?_, fun x hx h0 => ?_, List.pairwise_cons.mpr ⟨fun x hx h0 e => h4 x hx h0 (by rw [← e]; simp), h5⟩⟩
      · rcases List.mem_cons.mp hx with rfl | hx
        · exact h1
        · exact h3 x hx
      · rcases List.mem_cons.mp hx with rfl | hx
        · exact fun hm => h2 ⟨h0, hm⟩
        · exact fun hm => h4 x hx h0 (by simp [hm])
    · rintro ⟨h1, h2, h3⟩
      obtain ⟨h4, h5⟩ := List.pairwise_cons.mp h3
      refine ⟨h1 b (by simp), fun h => h2 b (by simp) h.1 h.2, fun x hx => h1 x (by simp [hx]), fun x hx h0 hm => ?_, h5⟩
      rcases List.mem_cons.mp hm with e | hm
      · exact h4 x hx h0 e.symm
      · exact h2 x (by simp [hx]) h0 hm
end Go.Proofs.Ytghfeapncmlihaa.A

namespace Go.Proofs.Ytghfeapncmlihaa.A
open Go.RowKit Go.Proofs.YtghfeapncmlihaaW.PrintWords Go.Proofs.YtghfeapncmlihaaW.PrintLast Go.Proofs.YtghfeapncmlihaaW.PrintMore
set_option linter.unusedVariables false
set_option linter.unusedSimpArgs false
def toI_Box (b : S93) : S71 := ⟨b.f0, b.f1, b.f2, b.f3⟩
theorem toIntS_ev (l : List Int) (hl : l.length ≤ 1048576) : Ev (fun k => laws_toIntS.f k l) l := Ev.mk l.length (fun k hk => by
  unfold laws_toIntS.f
  rw [if_pos (by omega), if_pos (by omega)]
  refine (map_loop (L := fun k acc i => laws_toIntS.l0 k l acc i) (xs := l) (g := id) 0 (fun k acc i hi ha => ?_) (fun k acc => ?_) l.length k _ 0 (by omega) hk (by simp) (fun j hj => by omega)).trans (by rw [List.map_id])
  · simp only [laws_toIntS.l0]
    rw [if_pos (by omega), if_pos (by omega), if_pos (by omega), wsucc i (by omega)]
    rfl
  · simp only [laws_toIntS.l0]
    rw [if_neg (by omega)])
theorem toBoxS_ev (l : List S93) (hl : l.length ≤ 1048576) : Ev (fun k => laws_toBoxS.f k l) (l.map toI_Box) := Ev.mk l.length (fun k hk => by
  unfold laws_toBoxS.f
  rw [if_pos (by omega), if_pos (by omega)]
  refine map_loop (L := fun k acc i => laws_toBoxS.l0 k l acc i) z93 (fun k acc i hi ha => ?_) (fun k acc => ?_) l.length k _ 0 (by omega) hk (by simp) (fun j hj => by omega)
  · simp only [laws_toBoxS.l0]
    rw [if_pos (by omega), if_pos (by omega)]
    simp only [laws_toBox.f, Option.bind_some]
    rw [if_pos (by omega), wsucc i (by omega)]
    rfl
  · simp only [laws_toBoxS.l0]
    rw [if_neg (by omega)])
theorem toColumn_ev (h : Int) (fx : List Int) (bx : List S93) (hf : fx.length ≤ 1048576) (hb : bx.length ≤ 1048576) : Ev (fun k => laws_toColumn.f k h fx bx) (h, fx, bx.map toI_Box) := by
  unfold laws_toColumn.f
  exact Ev.bind (toIntS_ev fx hf) (Ev.bind (toBoxS_ev bx hb) (Ev.ret _))
theorem szColumn_eq (h : Int) (fx : List Int) (bx : List S93) (a : Int) (h0 : 0 ≤ a) (h1 : a ≤ 1048576) (hf : fx.length ≤ 9223372036854775807) (hb : bx.length ≤ 9223372036854775807) : laws_szColumn.f h fx bx a = some (if a < fx.length + bx.length then -1 else a - fx.length - bx.length) := by
  unfold laws_szColumn.f laws_szIntS.f laws_szBoxS.f
  rw [wid (a - (fx.length : Int)) (by omega) (by omega)]
  by_cases c : a - (fx.length : Int) < 0
  · rw [if_pos c]
    simp only [Option.bind_some]
    rw [if_pos (by omega), if_pos (by omega)]
  · rw [if_neg c]
    simp only [Option.bind_some]
    rw [if_neg c, wid (a - (fx.length : Int) - (bx.length : Int)) (by omega) (by omega)]
    by_cases d : a - (fx.length : Int) - (bx.length : Int) < 0
    · rw [if_pos d]
      simp only [Option.bind_some]
      rw [if_pos (by omega), if_pos (by omega)]
    · rw [if_neg d]
      simp only [Option.bind_some]
      rw [if_neg d, if_neg (by omega)]
theorem eqIntS_ev (l : List Int) (hl : l.length ≤ 1048576) : Ev (fun k => laws_eqIntS.f k l l) true := Ev.mk l.length (fun k hk => by
  unfold laws_eqIntS.f
  rw [if_pos rfl]
  have h := all_loop (L := fun k i => laws_eqIntS.l0 k l l i) (n := l.length) (P := fun _ => true) (fun k i hi => ?_) (fun k => ?_) l.length k 0 (by omega) hk
  · have e : (List.range' 0 l.length).all (fun _ => true) = true := by simp
    rw [e] at h
    exact h
  · simp only [laws_eqIntS.l0]
    rw [if_pos (by omega), if_pos (by omega), if_pos (by omega)]
    simp only [if_true]
    rw [wsucc i (by omega)]
  · simp only [laws_eqIntS.l0]
    rw [if_neg (by omega)])
theorem eqBoxS_ev (l : List S71) (hl : l.length ≤ 1048576) : Ev (fun k => laws_eqBoxS.f k l l) true := Ev.mk l.length (fun k hk => by
  unfold laws_eqBoxS.f
  rw [if_pos rfl]
  have h := all_loop (L := fun k i => laws_eqBoxS.l0 k l l i) (n := l.length) (P := fun _ => true) (fun k i hi => ?_) (fun k => ?_) l.length k 0 (by omega) hk
  · have e : (List.range' 0 l.length).all (fun _ => true) = true := by simp
    rw [e] at h
    exact h
  · simp only [laws_eqBoxS.l0]
    rw [if_pos (by omega), if_pos (by omega), if_pos (by omega)]
    simp only [laws_eqBox.f, bne_self_eq_false, Bool.false_eq_true, if_false, if_true, Option.bind_some]
    rw [wsucc i (by omega)]
  · simp only [laws_eqBoxS.l0]
    rw [if_neg (by omega)])
theorem eqColumn_ev (h : Int) (fx : List Int) (bx : List S71) (hf : fx.length ≤ 1048576) (hb : bx.length ≤ 1048576) : Ev (fun k => laws_eqColumn.f k h fx bx h fx bx) true := by
  unfold laws_eqColumn.f
  refine Ev.pos rfl ?_
  refine Ev.bind (eqIntS_ev fx hf) ?_
  refine Ev.pos rfl ?_
  refine Ev.bind (eqBoxS_ev bx hb) ?_
  refine Ev.pos rfl ?_
  exact Ev.ret _
end Go.Proofs.Ytghfeapncmlihaa.A

namespace Go.Proofs.Ytghfeapncmlihaa.A
open Go.RowKit Go.Proofs.YtghfeapncmlihaaW.PrintWords Go.Proofs.YtghfeapncmlihaaW.PrintLast Go.Proofs.YtghfeapncmlihaaW.PrintMore
set_option linter.unusedVariables false
set_option linter.unusedSimpArgs false
theorem idxP_add : ∀ (l : List S71) (p i : Int), 0 ≤ i → (idxP l p i = -1 ∧ ∀ b ∈ l, b.f2 ≠ p) ∨ ∃ l1 b l2, l = l1 ++ b :: l2 ∧ b.f2 = p ∧ (∀ x ∈ l1, x.f2 ≠ p) ∧ idxP l p i = i + l1.length
  | [], p, i, _ => Or.inl ⟨rfl, by simp⟩
  | b :: l, p, i, hi => by
    simp only [idxP]
    by_cases c : b.f2 = p
    · rw [if_pos c]
      exact Or.inr ⟨[], b, l, rfl, c, by simp, by simp⟩
    · rw [if_neg c]
      rcases idxP_add l p (i + 1) (by omega) with ⟨h1, h2⟩ | ⟨l1, x, l2, h1, h2, h3, h4⟩
      · exact Or.inl ⟨h1, fun y hy => by
          rcases List.mem_cons.mp hy with rfl | hy
          · exact c
          · exact h2 y hy⟩
      · refine Or.inr ⟨b :: l1, x, l2, by rw [h1]; rfl, h2, fun y hy => ?_, by rw [h4, List.length_cons]; omega⟩
        rcases List.mem_cons.mp hy with rfl | hy
        · exact c
        · exact h3 y hy
theorem idxP_cases (l : List S71) (p : Int) : (idxP l p 0 = -1 ∧ ∀ b ∈ l, b.f2 ≠ p) ∨ ∃ l1 b l2, l = l1 ++ b :: l2 ∧ b.f2 = p ∧ (∀ x ∈ l1, x.f2 ≠ p) ∧ idxP l p 0 = l1.length := by
  rcases idxP_add l p 0 (Int.le_refl _) with h | ⟨l1, b, l2, h1, h2, h3, h4⟩
  · exact Or.inl h
  · exact Or.inr ⟨l1, b, l2, h1, h2, h3, by rw [h4]; omega⟩
def boxI (l : List S71) (p : Int) : Int := if 0 < p then idxP l p 0 else -1
theorem box_loop (h : Int) (fx : List Int) (bx : List S71) (hl : bx.length ≤ 1048576) (p : Int) : ∀ (rest : List S71) (i : Nat), bx.drop i = rest → i ≤ bx.length → Ev (fun k => spec_l02Box.l0 k p (i : Int) h fx bx) (if 0 < p then idxP rest p (i : Int) else -1)
  | [], i, hd, hi => by
    have he := drop_end hd hi
    refine Ev.succ ?_
    simp only [spec_l02Box.l0]
    refine Ev.neg (by omega) ?_
    refine Ev.to (Ev.ret _) ?_
    simp [idxP]
  | b :: rest, i, hd, hi => by
    obtain ⟨h1, h2, h3⟩ := drop_step z71 hd
    have er : rd_T71 bx (i : Int) = b := h2
    have ih := box_loop h fx bx hl p rest (i + 1) h3 (by omega)
    refine Ev.succ ?_
    simp only [spec_l02Box.l0, er]
    refine Ev.pos (by omega) ?_
    refine Ev.pos (by omega) ?_
    rw [wsucc i (by omega)]
    by_cases c : b.f2 = p
    · refine Ev.pos c ?_
      by_cases d : p > 0
      · refine Ev.pos d (Ev.to (Ev.ret _) ?_)
        rw [if_pos d]
        simp only [idxP]
        rw [if_pos c]
      · refine Ev.neg d (Ev.to ih ?_)
        rw [if_neg d, if_neg d]
    · refine Ev.neg c (Ev.to ih ?_)
      simp only [idxP]
      rw [if_neg c]
      rfl
theorem box_ev (h : Int) (fx : List Int) (bx : List S71) (hl : bx.length ≤ 1048576) (p : Int) : Ev (fun k => spec_l02Box.f k h fx bx p) (boxI bx p) := by
  unfold spec_l02Box.f
  exact box_loop h fx bx hl p bx 0 rfl (by omega)
theorem idxP_lt (l : List S71) (p : Int) : idxP l p 0 < l.length := by
  rcases idxP_cases l p with ⟨h, _⟩ | ⟨l1, b, l2, h1, _, _, h4⟩
  · rw [h]; omega
  · rw [h4, h1]; simp; omega
end Go.Proofs.Ytghfeapncmlihaa.A

namespace Go.Proofs.Ytghfeapncmlihaa.A
open Go.RowKit Go.Proofs.YtghfeapncmlihaaW.PrintWords Go.Proofs.YtghfeapncmlihaaW.PrintLast Go.Proofs.YtghfeapncmlihaaW.PrintMore
set_option linter.unusedVariables false
set_option linter.unusedSimpArgs false
def Small (cs : List S30) : Prop := cs.length ≤ 1048576 ∧ ∀ c ∈ cs, c.f1.length ≤ 1048576 ∧ c.f2.length ≤ 1048576
def crossP (c d : S30) : Bool := d.f2.all (fun b => decide (boxI c.f2 b.f2 < 0))
def bankS : List S30 → List S30 → Bool
  | _, [] => true
  | pre, c :: rest => colP c.f0 c.f1 c.f2 && (pre.all (fun p => crossP p c) && bankS (pre ++ [c]) rest)
theorem bank2_loop (cs : List S30) (hs : Small cs) (i j : Nat) (hi : i < cs.length) (hj : j < i) (r : Bool) (hr : Ev (fun k => spec_BankOk.l1 k cs (i : Int) ((j + 1 : Nat) : Int)) r) :
    ∀ (rest : List S71) (n : Nat), (cs.getD i z30).f2.drop n = rest → n ≤ (cs.getD i z30).f2.length → Ev (fun k => spec_BankOk.l2 k cs (i : Int) (j : Int) (n : Int)) (rest.all (fun b => decide (boxI (cs.getD j z30).f2 b.f2 < 0)) && r)
  | [], n, hd, hn => by
    have he := drop_end hd hn
    have er : rd_T30 cs (i : Int) = cs.getD i z30 := rfl
    have hl := hs.1
    refine Ev.succ ?_
    simp only [spec_BankOk.l2, er]
    refine Ev.pos (by omega) (Ev.pos (by omega) (Ev.neg (by omega) ?_))
    rw [wsucc j (by omega)]
    exact hr
  | b :: rest, n, hd, hn => by
    obtain ⟨h1, h2, h3⟩ := drop_step z71 hd
    have er : rd_T30 cs (i : Int) = cs.getD i z30 := rfl
    have er2 : rd_T30 cs (j : Int) = cs.getD j z30 := rfl
    have eb : rd_T71 (cs.getD i z30).f2 (n : Int) = b := h2
    have hl := hs.1
    have hmem : cs.getD i z30 ∈ cs := by rw [getD_gen _ hi]; exact List.getElem_mem _
    have hmem2 : cs.getD j z30 ∈ cs := by rw [getD_gen _ (show j < cs.length by omega)]; exact List.getElem_mem _
    have hl2 := (hs.2 _ hmem).2
    have hl3 := (hs.2 _ hmem2).2
    have ih := bank2_loop cs hs i j hi hj r hr rest (n + 1) h3 (by omega)
    refine Ev.succ ?_
    simp only [spec_BankOk.l2, er, er2, eb, List.all_cons]
    refine Ev.pos (by omega) (Ev.pos (by omega) (Ev.pos (by omega) (Ev.pos (by omega) (Ev.pos (by omega) (Ev.pos (by omega) ?_)))))
    refine Ev.bind (box_ev _ _ _ hl3 _) ?_
    rw [wsucc n (by omega)]
    by_cases c : boxI (cs.getD j z30).f2 b.f2 < 0
    · refine Ev.neg (by omega) ?_
      rw [decide_eq_true c, Bool.true_and]
      exact ih
    · refine Ev.pos (by omega) ?_
      rw [decide_eq_false c, Bool.false_and, Bool.false_and]
      exact Ev.ret _
theorem bank1_loop (cs : List S30) (hs : Small cs) (i : Nat) (hi : i < cs.length) (r : Bool) (hr : Ev (fun k => spec_BankOk.l0 k cs ((i + 1 : Nat) : Int)) r) :
    ∀ (d j : Nat), j + d = i → Ev (fun k => spec_BankOk.l1 k cs (i : Int) (j : Int)) (((cs.take i).drop j).all (fun p => crossP p (cs.getD i z30)) && r)
  | 0, j, hj => by
    have hl := hs.1
    refine Ev.succ ?_
    simp only [spec_BankOk.l1]
    refine Ev.neg (by omega) ?_
    rw [wsucc i (by omega), List.drop_eq_nil_of_le (by rw [List.length_take]; omega), List.all_nil, Bool.true_and]
    exact hr
  | d + 1, j, hj => by
    have hl := hs.1
    have ih := bank1_loop cs hs i hi r hr d (j + 1) (by omega)
    have h2 := bank2_loop cs hs i j hi (by omega) _ ih (cs.getD i z30).f2 0 rfl (by omega)
    refine Ev.succ ?_
    simp only [spec_BankOk.l1]
    refine Ev.pos (by omega) (h2.to ?_)
    have e : (cs.take i).drop j = cs.getD j z30 :: (cs.take i).drop (j + 1) := by
      have hj2 : j < (cs.take i).length := by rw [List.length_take]; omega
      rw [drop_cons _ z30 j hj2, List.getD_eq_getElem?_getD, List.getElem?_take_of_lt (by omega), ← List.getD_eq_getElem?_getD]
    rw [e, List.all_cons, Bool.and_assoc]
    rfl
theorem bank0_loop (cs : List S30) (hs : Small cs) : ∀ (rest : List S30) (i : Nat), cs.drop i = rest → i ≤ cs.length → Ev (fun k => spec_BankOk.l0 k cs (i : Int)) (bankS (cs.take i) rest)
  | [], i, hd, hi => by
    have he := drop_end hd hi
    refine Ev.succ ?_
    simp only [spec_BankOk.l0, bankS]
    exact Ev.neg (by omega) (Ev.ret _)
  | c :: rest, i, hd, hi => by
    obtain ⟨h1, h2, h3⟩ := drop_step z30 hd
    have er : rd_T30 cs (i : Int) = c := h2
    have hc : c ∈ cs := by rw [← h2, getD_gen _ h1]; exact List.getElem_mem _
    have hcs := hs.2 c hc
    have ih := bank0_loop cs hs rest (i + 1) h3 (by omega)
    have hi1 := bank1_loop cs hs i h1 _ ih i 0 (by omega)
    refine Ev.succ ?_
    simp only [spec_BankOk.l0, er, bankS]
    refine Ev.pos (by omega) (Ev.pos (by omega) (Ev.bind (colok_ev _ _ (by omega) _ (by omega)) ?_))
    have et : cs.take (i + 1) = cs.take i ++ [c] := by
      rw [List.take_add_one, ← h2, List.getD_eq_getElem?_getD, List.getElem?_eq_getElem h1]
      rfl
    by_cases d : colP c.f0 c.f1 c.f2 = true
    · refine Ev.pos d (hi1.to ?_)
      rw [d, Bool.true_and, List.drop_zero, h2, et]
    · refine Ev.neg d ((Ev.ret _).to ?_)
      have : colP c.f0 c.f1 c.f2 = false := by simpa using d
      rw [this, Bool.false_and]
def crossV (c d : S30) : Prop := ∀ a ∈ c.f2, ∀ b ∈ d.f2, 0 < b.f2 → a.f2 ≠ b.f2
theorem boxI_neg (l : List S71) (p : Int) : boxI l p < 0 ↔ (0 < p → ∀ a ∈ l, a.f2 ≠ p) := by
  unfold boxI
  by_cases h : 0 < p
  · rw [if_pos h]
    rcases idxP_cases l p with ⟨h1, h2⟩ | ⟨l1, b, l2, h1, h2, h3, h4⟩
    · rw [h1]
      exact ⟨fun _ _ => h2, fun _ => by omega⟩
    · rw [h4]
      constructor
      · intro c; omega
      · intro c
        exact absurd h2 (c h b (by rw [h1]; simp))
  · rw [if_neg h]
    exact ⟨fun _ c => absurd c h, fun _ => by omega⟩
theorem crossP_iff (c d : S30) : crossP c d = true ↔ crossV c d := by
  unfold crossP crossV
  rw [List.all_eq_true]
  constructor
  · intro h a ha b hb h0
    have := of_decide_eq_true (h b hb)
    exact (boxI_neg _ _).mp this h0 a ha
  · intro h b hb
    exact decide_eq_true ((boxI_neg _ _).mpr (fun h0 a ha => h a ha b hb h0))
theorem bankS_iff : ∀ (rest pre : List S30), bankS pre rest = true ↔ (∀ c ∈ rest, colP c.f0 c.f1 c.f2 = true) ∧ (∀ p ∈ pre, ∀ c ∈ rest, crossV p c) ∧ rest.Pairwise crossV
  | [], pre => by simp [bankS]
  | c :: rest, pre => by
    simp only [bankS, Bool.and_eq_true]
    rw [bankS_iff rest, List.all_eq_true]
    constructor
    · rintro ⟨h1, h2, h3, h4, h5⟩
      refine ⟨fun d hd => ?_, fun p hp d hd => ?_, List.pairwise_cons.mpr ⟨fun d hd => h4 c (by simp) d hd, h5⟩⟩
      · rcases List.mem_cons.mp hd with rfl | hd
        · exact h1
        · exact h3 d hd
      · rcases List.mem_cons.mp hd with rfl | hd
        · exact (crossP_iff _ _).mp (h2 p hp)
        · exact h4 p (by simp [hp]) d hd
    · rintro ⟨h1, h2, h3⟩
      obtain ⟨h4, h5⟩ := List.pairwise_cons.mp h3
      refine ⟨h1 c (by simp), fun p hp => (crossP_iff _ _).mpr (h2 p hp c (by simp)), fun d hd => h1 d (by simp [hd]), fun p hp d hd => ?_, h5⟩
      rcases List.mem_append.mp hp with hp | hp
      · exact h2 p hp d (by simp [hd])
      · rw [List.mem_singleton.mp hp]; exact h4 d hd
theorem parP_iff : ∀ (bs : List S71) (ps : List Int), bs.Pairwise (fun a b => 0 < b.f2 → a.f2 ≠ b.f2) →
    ((∀ b ∈ bs, 0 < b.f2 → b.f2 ∉ ps) ∧ ∃ qs, parP bs ps = some qs ∧ ∀ x, x ∈ qs ↔ x ∈ ps ∨ ∃ b ∈ bs, b.f2 = x) ∨ (¬ (∀ b ∈ bs, 0 < b.f2 → b.f2 ∉ ps) ∧ parP bs ps = none)
  | [], ps, _ => Or.inl ⟨by simp, ps, rfl, by simp⟩
  | b :: bs, ps, hp => by
    obtain ⟨h1, h2⟩ := List.pairwise_cons.mp hp
    simp only [parP]
    by_cases c : 0 < b.f2 ∧ b.f2 ∈ ps
    · rw [if_pos c]
      exact Or.inr ⟨fun h => h b (by simp) c.1 c.2, rfl⟩
    · rw [if_neg c]
      rcases parP_iff bs (b.f2 :: ps) h2 with ⟨h3, qs, h4, h5⟩ | ⟨h3, h4⟩
      · refine Or.inl ⟨fun x hx h0 => ?_, qs, h4, fun x => ?_⟩
        · rcases List.mem_cons.mp hx with rfl | hx
          · exact fun h => c ⟨h0, h⟩
          · exact fun h => h3 x hx h0 (by simp [h])
        · rw [h5 x, List.mem_cons]
          constructor
          · rintro ((h | h) | ⟨y, hy, e⟩)
            · exact Or.inr ⟨b, by simp, h.symm⟩
            · exact Or.inl h
            · exact Or.inr ⟨y, by simp [hy], e⟩
          · rintro (h | ⟨y, hy, e⟩)
            · exact Or.inl (Or.inr h)
            · rcases List.mem_cons.mp hy with rfl | hy
              · exact Or.inl (Or.inl e.symm)
              · exact Or.inr ⟨y, hy, e⟩
      · refine Or.inr ⟨fun h => h3 (fun x hx h0 hm => ?_), h4⟩
        rcases List.mem_cons.mp hm with e | hm
        · exact h1 x hx h0 e.symm
        · exact h x (by simp [hx]) h0 hm
theorem bankL_iff : ∀ (cs : List S30) (ps : List Int), bankL cs ps = true ↔ (∀ c ∈ cs, colP c.f0 c.f1 c.f2 = true) ∧ (∀ c ∈ cs, ∀ b ∈ c.f2, 0 < b.f2 → b.f2 ∉ ps) ∧ cs.Pairwise crossV
  | [], ps => by simp [bankL]
  | c :: cs, ps => by
    simp only [bankL, Bool.and_eq_true]
    by_cases hc : colP c.f0 c.f1 c.f2 = true
    · have v := (colP_iff _ _ _).mp hc
      rcases parP_iff c.f2 ps ((parcs_iff _ _).mp v.par).2.2 with ⟨h3, qs, h4, h5⟩ | ⟨h3, h4⟩
      · rw [h4]
        dsimp only
        rw [bankL_iff cs qs]
        constructor
        · rintro ⟨_, g1, g2, g3⟩
          refine ⟨fun d hd => ?_, fun d hd b hb h0 => ?_, List.pairwise_cons.mpr ⟨fun d hd a ha b hb h0 e => g2 d hd b hb h0 ((h5 _).mpr (Or.inr ⟨a, ha, e⟩)), g3⟩⟩
          · rcases List.mem_cons.mp hd with rfl | hd
            · exact hc
            · exact g1 d hd
          · rcases List.mem_cons.mp hd with rfl | hd
            · exact h3 b hb h0
            · exact fun h => g2 d hd b hb h0 ((h5 _).mpr (Or.inl h))
        · rintro ⟨g1, g2, g3⟩
          obtain ⟨g4, g5⟩ := List.pairwise_cons.mp g3
          refine ⟨hc, fun d hd => g1 d (by simp [hd]), fun d hd b hb h0 h => ?_, g5⟩
          rcases (h5 _).mp h with h | ⟨a, ha, e⟩
          · exact g2 d (by simp [hd]) b hb h0 h
          · exact g4 d hd a ha b hb h0 e
      · rw [h4]
        dsimp only
        constructor
        · rintro ⟨_, h⟩; simp at h
        · rintro ⟨_, g2, _⟩
          exact absurd (fun b hb h0 => g2 c (by simp) b hb h0) h3
    · constructor
      · rintro ⟨h, _⟩; exact absurd h hc
      · rintro ⟨h, _⟩; exact absurd (h c (by simp)) hc
theorem bankok_ev (cs : List S30) (hs : Small cs) : Ev (fun k => spec_BankOk.f k cs) (bankP cs) := by
  unfold spec_BankOk.f
  refine Ev.bind (Ev.const (in_eq _ _ _)) ?_
  by_cases c : 1 ≤ (cs.length : Int) ∧ (cs.length : Int) ≤ 6
  · refine Ev.pos (decide_eq_true c) ?_
    refine (bank0_loop cs hs cs 0 rfl (by omega)).to ?_
    have e : bankS [] cs = bankL cs [] := by
      rw [Bool.eq_iff_iff, bankS_iff, bankL_iff]
      constructor
      · rintro ⟨h1, _, h3⟩; exact ⟨h1, fun _ _ _ _ _ => by simp, h3⟩
      · rintro ⟨h1, _, h3⟩; exact ⟨h1, fun p hp => absurd hp (by simp), h3⟩
    unfold bankP
    rw [decide_eq_true c, Bool.true_and, ← e]
    rfl
  · refine Ev.neg (by simpa using c) ((Ev.ret _).to ?_)
    unfold bankP
    rw [decide_eq_false c, Bool.false_and]
def toI_Col (c : S25) : S30 := ⟨c.f0, c.f1, c.f2.map toI_Box⟩
def wt (l : List S25) : Int := (l.map (fun c => ((c.f1.length : Int) + c.f2.length))).foldr (· + ·) 0
theorem wt_nonneg : ∀ (l : List S25), 0 ≤ wt l
  | [] => Int.le_refl _
  | c :: l => by
    have := wt_nonneg l
    show 0 ≤ ((c.f1.length : Int) + c.f2.length) + wt l
    omega
theorem wt_mem : ∀ (l : List S25) (c : S25), c ∈ l → (c.f1.length : Int) + c.f2.length ≤ wt l
  | [], c, h => absurd h (by simp)
  | d :: l, c, h => by
    have hn := wt_nonneg l
    show _ ≤ ((d.f1.length : Int) + d.f2.length) + wt l
    rcases List.mem_cons.mp h with rfl | h
    · omega
    · have := wt_mem l c h; omega
theorem szS_loop (l : List S25) (hl : l.length ≤ 1048576) (hm : ∀ c ∈ l, c.f1.length ≤ 9223372036854775807 ∧ c.f2.length ≤ 9223372036854775807) : ∀ (rest : List S25) (i : Nat) (a : Int), l.drop i = rest → i ≤ l.length → 0 ≤ a → a ≤ 1048576 → Ev (fun k => laws_szColumnS.l0 k l a (i : Int)) (if a < wt rest then -1 else a - wt rest)
  | [], i, a, hd, hi, h0, h1 => by
    have he := drop_end hd hi
    refine Ev.succ ?_
    simp only [laws_szColumnS.l0]
    refine Ev.neg (by omega) ((Ev.ret _).to ?_)
    have : wt [] = 0 := rfl
    rw [this, if_neg (by omega)]
    omega
  | c :: rest, i, a, hd, hi, h0, h1 => by
    obtain ⟨h2, h3, h4⟩ := drop_step z25 hd
    have er : rd_T25 l (i : Int) = c := h3
    have hc : c ∈ l := by rw [← h3, getD_gen _ h2]; exact List.getElem_mem _
    have hn := wt_nonneg rest
    have ew : wt (c :: rest) = ((c.f1.length : Int) + c.f2.length) + wt rest := rfl
    refine Ev.succ ?_
    simp only [laws_szColumnS.l0, er]
    refine Ev.pos (by omega) (Ev.pos (by omega) (Ev.bind (Ev.const (szColumn_eq _ _ _ a h0 h1 (hm c hc).1 (hm c hc).2)) ?_))
    by_cases d : a < (c.f1.length : Int) + c.f2.length
    · rw [if_pos d, if_pos (by omega)]
      exact Ev.pos (by omega) (Ev.ret _)
    · rw [if_neg d, wsucc i (by omega)]
      refine Ev.neg (by omega) ((szS_loop l hl hm rest (i + 1) _ h4 (by omega) (by omega) (by omega)).to ?_)
      by_cases e : a < wt (c :: rest)
      · rw [if_pos e, if_pos (by omega)]
      · rw [if_neg e, if_neg (by omega)]
        omega
theorem szS_ev (l : List S25) (hl : l.length ≤ 9223372036854775807) (hm : ∀ c ∈ l, c.f1.length ≤ 9223372036854775807 ∧ c.f2.length ≤ 9223372036854775807) : ∃ r : Int, Ev (fun k => laws_szColumnS.f k l 1048576) r ∧ (r < 0 ∨ (0 ≤ r ∧ (l.length : Int) + wt l ≤ 1048576)) := by
  have hn := wt_nonneg l
  unfold laws_szColumnS.f
  rw [wid (1048576 - (l.length : Int)) (by omega) (by omega)]
  by_cases c : 1048576 - (l.length : Int) < 0
  · exact ⟨-1, Ev.pos c (Ev.ret _), Or.inl (by omega)⟩
  · refine ⟨_, Ev.neg c (szS_loop l (by omega) hm l 0 _ rfl (by omega) (by omega) (by omega)), ?_⟩
    by_cases d : 1048576 - (l.length : Int) < wt l
    · rw [if_pos d]; exact Or.inl (by omega)
    · rw [if_neg d]; exact Or.inr ⟨by omega, by omega⟩
theorem map_ev {α β : Type} {L : Nat → List β → Int → Option (List β)} {xs : List α} {g : α → β} (d0 : α)
    (h : ∀ acc (i : Nat) r, i < xs.length → acc.length = xs.length → Ev (fun k => L k (acc.set i (g (xs.getD i d0))) ((i + 1 : Nat) : Int)) r → Ev (fun k => L k acc (i : Int)) r)
    (he : ∀ acc, Ev (fun k => L k acc (xs.length : Int)) acc) : ∀ (d : Nat) acc i, i + d = xs.length → acc.length = xs.length → (∀ j, j < i → acc[j]? = (xs.map g)[j]?) → Ev (fun k => L k acc (i : Int)) (xs.map g)
  | 0, acc, i, hi, hl, hp => by
    obtain rfl : i = xs.length := by omega
    refine (he acc).to ?_
    apply List.ext_getElem?
    intro j
    by_cases hj : j < xs.length
    · exact hp j hj
    · rw [List.getElem?_eq_none (by omega), List.getElem?_eq_none (by simp; omega)]
  | d + 1, acc, i, hi, hl, hp => by
    refine h acc i _ (by omega) hl (map_ev d0 h he d _ (i + 1) (by omega) (by simp [hl]) (fun j hj => ?_))
    by_cases e : i = j
    · subst e
      rw [List.getElem?_set_self (by omega), List.getElem?_map, List.getElem?_eq_getElem (show i < xs.length by omega), List.getD_eq_getElem?_getD, List.getElem?_eq_getElem (show i < xs.length by omega)]
      rfl
    · rw [List.getElem?_set_ne e]
      exact hp j (by omega)
theorem toColumnS_ev (l : List S25) (hl : l.length ≤ 1048576) (hm : ∀ c ∈ l, c.f1.length ≤ 1048576 ∧ c.f2.length ≤ 1048576) : Ev (fun k => laws_toColumnS.f k l) (l.map toI_Col) := by
  unfold laws_toColumnS.f
  refine Ev.pos (by omega) (Ev.pos (by omega) ?_)
  refine map_ev (L := fun k acc i => laws_toColumnS.l0 k l acc i) z25 (fun acc i r hi ha ih => ?_) (fun acc => ?_) l.length _ 0 (by omega) (by simp) (fun j hj => by omega)
  · refine Ev.succ ?_
    simp only [laws_toColumnS.l0]
    have er : rd_T25 l (i : Int) = l.getD i z25 := rfl
    have hc : l.getD i z25 ∈ l := by rw [getD_gen _ hi]; exact List.getElem_mem _
    rw [er, wsucc i (by omega)]
    refine Ev.pos (by omega) (Ev.pos (by omega) (Ev.bind (toColumn_ev _ _ _ (hm _ hc).1 (hm _ hc).2) (Ev.pos (by omega) ?_)))
    exact ih
  · refine Ev.succ ?_
    simp only [laws_toColumnS.l0]
    exact Ev.neg (by omega) (Ev.ret _)
theorem eqColumnS_ev (l : List S30) (hs : Small l) : Ev (fun k => laws_eqColumnS.f k l l) true := by
  have hl := hs.1
  have go : ∀ (rest : List S30) (i : Nat), l.drop i = rest → i ≤ l.length → Ev (fun k => laws_eqColumnS.l0 k l l (i : Int)) true := by
    intro rest
    induction rest with
    | nil =>
      intro i hd hi
      have he := drop_end hd hi
      refine Ev.succ ?_
      simp only [laws_eqColumnS.l0]
      exact Ev.neg (by omega) (Ev.ret _)
    | cons c rest ih =>
      intro i hd hi
      obtain ⟨h1, h2, h3⟩ := drop_step z30 hd
      have er : rd_T30 l (i : Int) = c := h2
      have hc : c ∈ l := by rw [← h2, getD_gen _ h1]; exact List.getElem_mem _
      refine Ev.succ ?_
      simp only [laws_eqColumnS.l0, er]
      rw [wsucc i (by omega)]
      exact Ev.pos (by omega) (Ev.pos (by omega) (Ev.pos (by omega) (Ev.bind (eqColumn_ev _ _ _ (hs.2 c hc).1 (hs.2 c hc).2) (Ev.pos (by trivial) (ih (i + 1) h3 (by omega))))))
  unfold laws_eqColumnS.f
  exact Ev.pos rfl (go l 0 rfl (by omega))
theorem bank_begin (l : List S25) (hl : ok41 l) : (∃ r : Int, Ev (fun k => laws_szColumnS.f k l 1048576) r ∧ r < 0) ∨ (∃ r : Int, Ev (fun k => laws_szColumnS.f k l 1048576) r ∧ 0 ≤ r) ∧ Ev (fun k => laws_toColumnS.f k l) (l.map toI_Col) ∧ Small (l.map toI_Col) ∧ (l.length : Int) + wt l ≤ 1048576 := by
  obtain ⟨h1, h2⟩ := hl
  unfold maxLen at h1
  obtain ⟨r, hr, h3⟩ := szS_ev l (by omega) (fun c hc => by
    obtain ⟨_, ⟨h4, _⟩, ⟨h5, _⟩⟩ := h2 c hc
    unfold maxLen at h4 h5
    exact ⟨by omega, by omega⟩)
  rcases h3 with h3 | ⟨h3, h4⟩
  · exact Or.inl ⟨r, hr, h3⟩
  · have hn := wt_nonneg l
    have hm : ∀ c ∈ l, c.f1.length ≤ 1048576 ∧ c.f2.length ≤ 1048576 := fun c hc => by
      have := wt_mem l c hc
      omega
    refine Or.inr ⟨⟨r, hr, h3⟩, toColumnS_ev l (by omega) hm, ⟨by rw [List.length_map]; omega, fun c hc => ?_⟩, h4⟩
    obtain ⟨d, hd, rfl⟩ := List.mem_map.mp hc
    have := hm d hd
    exact ⟨this.1, by show (d.f2.map toI_Box).length ≤ _; rw [List.length_map]; exact this.2⟩
end Go.Proofs.Ytghfeapncmlihaa.A

namespace Go.Proofs.Ytghfeapncmlihaa.A
open Go.RowKit Go.Proofs.YtghfeapncmlihaaW.PrintWords Go.Proofs.YtghfeapncmlihaaW.PrintLast Go.Proofs.YtghfeapncmlihaaW.PrintMore
set_option linter.unusedVariables false
set_option linter.unusedSimpArgs false
theorem idxC_add : ∀ (l : List S30) (p i : Int), 0 ≤ i → (idxC l p i = -1 ∧ ∀ c ∈ l, idxP c.f2 p 0 < 0) ∨ ∃ l1 c l2, l = l1 ++ c :: l2 ∧ 0 ≤ idxP c.f2 p 0 ∧ (∀ x ∈ l1, idxP x.f2 p 0 < 0) ∧ idxC l p i = i + l1.length
  | [], p, i, _ => Or.inl ⟨rfl, by simp⟩
  | b :: l, p, i, hi => by
    simp only [idxC]
    by_cases c : 0 ≤ idxP b.f2 p 0
    · rw [if_pos c]
      exact Or.inr ⟨[], b, l, rfl, c, by simp, by simp⟩
    · rw [if_neg c]
      rcases idxC_add l p (i + 1) (by omega) with ⟨h1, h2⟩ | ⟨l1, x, l2, h1, h2, h3, h4⟩
      · exact Or.inl ⟨h1, fun y hy => by
          rcases List.mem_cons.mp hy with rfl | hy
          · omega
          · exact h2 y hy⟩
      · refine Or.inr ⟨b :: l1, x, l2, by rw [h1]; rfl, h2, fun y hy => ?_, by rw [h4, List.length_cons]; omega⟩
        rcases List.mem_cons.mp hy with rfl | hy
        · omega
        · exact h3 y hy
def findP (cs : List S30) (p : Int) : Int → Int × Int
  | i => match cs with
    | [] => (-1, -1)
    | c :: cs => if 0 ≤ boxI c.f2 p then (i, (rd_T71 c.f2 (boxI c.f2 p)).f0) else findP cs p (i + 1)
def boxOfP (cs : List S30) (p : Int) : Int × Int := if bankP cs = true then findP cs p 0 else (-1, -1)
theorem boxI_lt (l : List S71) (p : Int) : boxI l p < l.length := by
  unfold boxI
  split
  · rcases idxP_cases l p with ⟨h, _⟩ | ⟨l1, b, l2, h1, _, _, h4⟩
    · rw [h]; omega
    · rw [h4, h1]; simp; omega
  · omega
theorem boxOfS_loop (cs : List S30) (hs : Small cs) (p : Int) (hb : bankP cs = true) : ∀ (rest : List S30) (i : Nat), cs.drop i = rest → i ≤ cs.length → Ev (fun k => spec_BoxOf.l0 k cs p (i : Int)) (findP rest p (i : Int))
  | [], i, hd, hi => by
    have he := drop_end hd hi
    have hl := hs.1
    refine Ev.succ ?_
    simp only [spec_BoxOf.l0]
    refine Ev.neg (by omega) (Ev.succ ?_)
    simp only [spec_BoxOf.j1]
    exact Ev.neg (by simp) ((Ev.ret _).to (by simp [findP]))
  | c :: rest, i, hd, hi => by
    obtain ⟨h1, h2, h3⟩ := drop_step z30 hd
    have er : rd_T30 cs (i : Int) = c := h2
    have hc : c ∈ cs := by rw [← h2, getD_gen _ h1]; exact List.getElem_mem _
    have hl := hs.1
    have hlt := boxI_lt c.f2 p
    have ih := boxOfS_loop cs hs p hb rest (i + 1) h3 (by omega)
    refine Ev.succ ?_
    simp only [spec_BoxOf.l0]
    refine Ev.pos (by omega) (Ev.bind (bankok_ev cs hs) (Ev.succ ?_))
    simp only [spec_BoxOf.j1, er]
    refine Ev.pos hb (Ev.pos (by omega) (Ev.pos (by omega) (Ev.bind (box_ev _ _ _ (hs.2 c hc).2 p) ?_)))
    rw [wsucc i (by omega)]
    by_cases d : boxI c.f2 p ≥ 0
    · refine Ev.pos d (Ev.pos d (Ev.pos hlt ((Ev.ret _).to ?_)))
      simp only [findP]
      rw [if_pos d]
    · refine Ev.neg d (ih.to ?_)
      rw [findP]
      rw [if_neg (by omega)]
      rfl
theorem boxOfS_ev (cs : List S30) (hs : Small cs) (p : Int) : Ev (fun k => spec_BoxOf.f k cs p) (boxOfP cs p) := by
  unfold spec_BoxOf.f boxOfP
  by_cases hb : bankP cs = true
  · rw [if_pos hb]
    exact boxOfS_loop cs hs p hb cs 0 rfl (by omega)
  · rw [if_neg hb]
    have hb2 : bankP cs = false := by simpa using hb
    have fin : Ev (fun k => spec_BoxOf.j1 k cs p 0 false) (-1, -1) := by
      refine Ev.succ ?_
      simp only [spec_BoxOf.j1]
      exact Ev.neg (by simp) (Ev.ret _)
    refine Ev.succ ?_
    simp only [spec_BoxOf.l0]
    by_cases c : (0 : Int) < cs.length
    · refine Ev.pos c (Ev.bind (bankok_ev cs hs) ?_)
      rw [hb2]
      exact fin
    · exact Ev.neg c fin
theorem findP_none : ∀ (cs : List S30) (p i : Int), (∀ c ∈ cs, boxI c.f2 p < 0) → findP cs p i = (-1, -1)
  | [], p, i, _ => rfl
  | c :: cs, p, i, h => by
    have := h c (by simp)
    rw [findP]
    rw [if_neg (by omega)]
    exact findP_none cs p (i + 1) (fun d hd => h d (by simp [hd]))
theorem findP_at : ∀ (l1 : List S30) (c : S30) (l2 : List S30) (p i : Int), (∀ x ∈ l1, boxI x.f2 p < 0) → 0 ≤ boxI c.f2 p → findP (l1 ++ c :: l2) p i = (i + l1.length, (rd_T71 c.f2 (boxI c.f2 p)).f0)
  | [], c, l2, p, i, _, h => by
    rw [List.nil_append, findP]
    rw [if_pos h]
    simp
  | x :: l1, c, l2, p, i, hx, h => by
    have := hx x (by simp)
    rw [List.cons_append, findP]
    rw [if_neg (by omega), findP_at l1 c l2 p (i + 1) (fun y hy => hx y (by simp [hy])) h, List.length_cons]
    congr 1
    omega
theorem boxOf_ev (cs : List S30) (p : Int) : Ev (fun _ => impl_BoxOf.f cs p) (boxOfP cs p) := by
  unfold impl_BoxOf.f
  refine Ev.bind (Ev.const rfl) (Ev.bind (Ev.const rfl) ?_)
  by_cases hb : bankP cs = true
  · have e : boxOfP cs p = findP cs p 0 := by unfold boxOfP; rw [if_pos hb]
    rw [e]
    refine Ev.pos hb ?_
    by_cases hp : p < 1
    · refine Ev.pos hp ((Ev.ret _).to ?_)
      rw [findP_none cs p 0 (fun c _ => by unfold boxI; rw [if_neg (by omega)]; omega)]
    · refine Ev.neg hp ?_
      have eI : ∀ l : List S71, boxI l p = idxP l p 0 := fun l => by unfold boxI; rw [if_pos (by omega)]
      rcases idxC_add cs p 0 (Int.le_refl _) with ⟨h1, h2⟩ | ⟨l1, c, l2, h1, h2, h3, h4⟩
      · rw [h1]
        refine Ev.pos (by omega) ((Ev.ret _).to ?_)
        rw [findP_none cs p 0 (fun c hc => by rw [eI]; exact h2 c hc)]
      · rw [h4]
        have hlen := congrArg List.length h1
        simp at hlen
        have er : rd_T30 cs (0 + (l1.length : Int)) = c := by
          show cs.getD (0 + (l1.length : Int)).toNat _ = c
          rw [show (0 + (l1.length : Int)).toNat = l1.length by omega, h1, List.getD_eq_getElem?_getD, List.getElem?_append_right (Nat.le_refl _), Nat.sub_self]
          rfl
        refine Ev.neg (by omega) (Ev.pos (by omega) (Ev.pos (by omega) ?_))
        rw [er]
        refine Ev.bind (Ev.const rfl) ?_
        have hlt := idxP_lt c.f2 p
        refine Ev.pos h2 (Ev.pos hlt ((Ev.ret _).to ?_))
        rw [h1, findP_at l1 c l2 p 0 (fun x hx => by rw [eI]; exact h3 x hx) (by rw [eI]; exact h2), eI]
  · have e : boxOfP cs p = (-1, -1) := by unfold boxOfP; rw [if_neg hb]
    rw [e]
    exact Ev.neg hb (Ev.ret _)
end Go.Proofs.Ytghfeapncmlihaa.A

namespace Go.Proofs.Ytghfeapncmlihaa.A
open Go.RowKit Go.Proofs.YtghfeapncmlihaaW.PrintWords Go.Proofs.YtghfeapncmlihaaW.PrintLast Go.Proofs.YtghfeapncmlihaaW.PrintMore
set_option linter.unusedVariables false
set_option linter.unusedSimpArgs false
theorem pureFnExactBoxOf : ∀ (l0 : List (S25)) (a1 : Int), ok41 l0 → ok3 a1 → ∃ k, laws_FnExactBoxOf.f k l0 a1 = some true := by
  rintro l p hl _
  refine Ev.get ?_
  unfold laws_FnExactBoxOf.f
  rcases bank_begin l hl with ⟨r, h1, h2⟩ | ⟨⟨r, h1, h2⟩, hT, hs, _⟩
  · exact Ev.bind h1 (Ev.pos h2 (Ev.ret _))
  · refine Ev.bind h1 (Ev.neg (by omega) ?_)
    refine Ev.bind hT (Ev.bind (boxOfS_ev _ hs p) (Ev.bind hT (Ev.bind (boxOf_ev _ p) (Ev.pos (by trivial) ?_))))
    refine Ev.succ ?_
    simp only [laws_FnExactBoxOf.j0]
    refine Ev.neg (by simp) ?_
    exact Ev.bind hT (Ev.bind (eqColumnS_ev _ hs) (Ev.pos (by trivial) (Ev.ret _)))
end Go.Proofs.Ytghfeapncmlihaa.A
