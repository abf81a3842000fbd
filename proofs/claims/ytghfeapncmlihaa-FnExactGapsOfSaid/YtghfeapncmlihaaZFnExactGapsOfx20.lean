/- What the proof of the law FnExactGapsOf uses: lemmas, the Lean functions of the Go functions that it reaches, their contracts, and the pure statement's proof. -/
import Derived.Test.YtghfeapncmlihaaZFnExactGapsOfx13
import Derived.Test.YtghfeapncmlihaaZFnExactGapsOfx15
import Derived.Test.YtghfeapncmlihaaZFnExactGapsOfx11
import Derived.Test.YtghfeapncmlihaaZFnExactGapsOfx19
import Derived.Test.YtghfeapncmlihaaZFnExactGapsOfx12
import Derived.Test.YtghfeapncmlihaaZFnExactGapsOfx16
import Derived.Test.YtghfeapncmlihaaZFnExactGapsOfx18
namespace Go.Proofs.Ytghfeapncmlihaa.A
open Go.RowKit Go.Proofs.YtghfeapncmlihaaW.PrintWords Go.Proofs.YtghfeapncmlihaaW.PrintLast Go.Proofs.YtghfeapncmlihaaW.PrintMore
set_option linter.unusedVariables false
set_option linter.unusedSimpArgs false
def Ev {α : Type} (F : Nat → Option α) (r : α) : Prop := ∃ K, ∀ k, K ≤ k → F k = some r
theorem Ev.mk {α : Type} {F : Nat → Option α} {r : α} (K : Nat) (h : ∀ k, K < k → F k = some r) : Ev F r := ⟨K + 1, fun k hk => h k hk⟩
theorem Ev.get {α : Type} {F : Nat → Option α} {r : α} (h : Ev F r) : ∃ k, F k = some r := by
  obtain ⟨K, h⟩ := h
  exact ⟨K, h K (Nat.le_refl _)⟩
theorem Ev.const {α : Type} {o : Option α} {r : α} (h : o = some r) : Ev (fun _ => o) r := ⟨0, fun _ _ => h⟩
theorem Ev.ret {α : Type} (r : α) : Ev (fun _ => some r) r := ⟨0, fun _ _ => rfl⟩
theorem Ev.bind {α β : Type} {F : Nat → Option α} {G : Nat → α → Option β} {a : α} {b : β} (h1 : Ev F a) (h2 : Ev (fun k => G k a) b) : Ev (fun k => (F k).bind (G k)) b := by
  obtain ⟨K1, h1⟩ := h1
  obtain ⟨K2, h2⟩ := h2
  refine ⟨max K1 K2, fun k hk => ?_⟩
  show (F k).bind (G k) = some b
  rw [h1 k (by omega)]
  exact h2 k (by omega)
theorem Ev.pos {α : Type} {c : Prop} [Decidable c] {A B : Nat → Option α} {r : α} (h : c) (hA : Ev A r) : Ev (fun k => if c then A k else B k) r := by
  obtain ⟨K, hA⟩ := hA
  exact ⟨K, fun k hk => by show (if c then A k else B k) = some r; rw [if_pos h]; exact hA k hk⟩
theorem Ev.neg {α : Type} {c : Prop} [Decidable c] {A B : Nat → Option α} {r : α} (h : ¬ c) (hB : Ev B r) : Ev (fun k => if c then A k else B k) r := by
  obtain ⟨K, hB⟩ := hB
  exact ⟨K, fun k hk => by show (if c then A k else B k) = some r; rw [if_neg h]; exact hB k hk⟩
theorem Ev.ite {α : Type} {c : Prop} [Decidable c] {A B : Nat → Option α} {a b : α} (hA : c → Ev A a) (hB : ¬ c → Ev B b) : Ev (fun k => if c then A k else B k) (if c then a else b) := by
  by_cases h : c
  · rw [if_pos h]; exact Ev.pos h (hA h)
  · rw [if_neg h]; exact Ev.neg h (hB h)
theorem Ev.succ {α : Type} {F : Nat → Option α} {r : α} (h : Ev (fun k => F (k + 1)) r) : Ev F r := by
  obtain ⟨K, h⟩ := h
  refine ⟨K + 1, fun k hk => ?_⟩
  obtain ⟨m, rfl⟩ : ∃ m, k = m + 1 := ⟨k - 1, by omega⟩
  exact h m (by omega)
theorem Ev.of_eq {α : Type} {F G : Nat → Option α} {r : α} (h : Ev F r) (e : ∀ k, G k = F k) : Ev G r := by
  obtain ⟨K, h⟩ := h
  exact ⟨K, fun k hk => (e k).trans (h k hk)⟩
theorem Ev.to {α : Type} {F : Nat → Option α} {r s : α} (h : Ev F r) (e : r = s) : Ev F s := e ▸ h
theorem getD_gen {α : Type} {l : List α} {i : Nat} (d : α) (h : i < l.length) : l.getD i d = l[i] := by
  rw [List.getD_eq_getElem?_getD, List.getElem?_eq_getElem h]; rfl
theorem wsucc (i : Nat) (h : i < 9223372036854775807) : wrap64 ((i : Int) + 1) = ((i + 1 : Nat) : Int) := by unfold wrap64; omega
theorem wpred (i : Nat) (h : 0 < i) (h2 : i ≤ 9223372036854775807) : wrap64 ((i : Int) - 1) = ((i - 1 : Nat) : Int) := by unfold wrap64; omega
theorem wid (x : Int) (h : -9223372036854775808 ≤ x) (h2 : x ≤ 9223372036854775807) : wrap64 x = x := by unfold wrap64; omega
theorem all_loop {L : Nat → Int → Option Bool} {n : Nat} {P : Nat → Bool} (h : ∀ k i, i < n → L (k + 1) (i : Int) = if P i = true then L k ((i + 1 : Nat) : Int) else some false)
    (he : ∀ k, L (k + 1) (n : Int) = some true) (d : Nat) : ∀ k i, i + d = n → d < k → L k (i : Int) = some ((List.range' i d).all P) := by
  induction d with
  | zero =>
    intro k i hi hk
    obtain ⟨k, rfl⟩ : ∃ m, k = m + 1 := ⟨k - 1, by omega⟩
    obtain rfl : i = n := by omega
    rw [he]; rfl
  | succ d ih =>
    intro k i hi hk
    obtain ⟨k, rfl⟩ : ∃ m, k = m + 1 := ⟨k - 1, by omega⟩
    rw [h k i (by omega), List.range'_succ, List.all_cons]
    by_cases hp : P i = true
    · rw [if_pos hp, ih k (i + 1) (by omega) (by omega), hp, Bool.true_and]
    · rw [if_neg hp]
      have : P i = false := by simpa using hp
      rw [this, Bool.false_and]
theorem map_loop {α β : Type} {L : Nat → List β → Int → Option (List β)} {xs : List α} {g : α → β} (d0 : α)
    (h : ∀ k acc (i : Nat), i < xs.length → acc.length = xs.length → L (k + 1) acc (i : Int) = L k (acc.set i (g (xs.getD i d0))) ((i + 1 : Nat) : Int))
    (he : ∀ k acc, L (k + 1) acc (xs.length : Int) = some acc) (d : Nat) :
    ∀ k acc i, i + d = xs.length → d < k → acc.length = xs.length → (∀ j, j < i → acc[j]? = (xs.map g)[j]?) → L k acc (i : Int) = some (xs.map g) := by
  induction d with
  | zero =>
    intro k acc i hi hk hl hp
    obtain ⟨k, rfl⟩ : ∃ m, k = m + 1 := ⟨k - 1, by omega⟩
    obtain rfl : i = xs.length := by omega
    rw [he]
    congr 1
    apply List.ext_getElem?
    intro j
    by_cases hj : j < xs.length
    · exact hp j hj
    · rw [List.getElem?_eq_none (by omega), List.getElem?_eq_none (by simp; omega)]
  | succ d ih =>
    intro k acc i hi hk hl hp
    obtain ⟨k, rfl⟩ : ∃ m, k = m + 1 := ⟨k - 1, by omega⟩
    rw [h k acc i (by omega) hl]
    refine ih k _ (i + 1) (by omega) (by omega) (by simp [hl]) (fun j hj => ?_)
    by_cases e : i = j
    · subst e
      rw [List.getElem?_set_self (by omega), List.getElem?_map, List.getElem?_eq_getElem (show i < xs.length by omega), List.getD_eq_getElem?_getD, List.getElem?_eq_getElem (show i < xs.length by omega)]
      rfl
    · rw [List.getElem?_set_ne e]
      exact hp j (by omega)
theorem in_eq (a b c : Int) : spec_l01In.f a b c = some (decide (b ≤ a ∧ a ≤ c)) := by
  unfold spec_l01In.f
  split
  · congr 1; rw [decide_eq_decide]; omega
  · congr 1; exact (decide_eq_false (by omega)).symm
def boxS : List S71 → Int → List Int → Option Int
  | [], low, _ => some low
  | b :: bs, low, ps => if b.f0 = low ∧ (1 ≤ b.f1 ∧ b.f1 ≤ 24) ∧ (0 ≤ b.f2 ∧ b.f2 ≤ 999) ∧ ¬ (0 < b.f2 ∧ b.f2 ∈ ps) ∧ low + b.f1 ≤ 24 then boxS bs (low + b.f1) (b.f2 :: ps) else none
def boxesS (h : Int) (bx : List S71) (o : Option Int) : Bool := match o with | none => false | some low => decide (bx ≠ []) && decide (low = h)
theorem boxes_in (h : Int) (fx : List Int) (bx : List S71) (at_ : Int) (i : Nat) (hi : i < bx.length) (hi2 : i ≤ 24) (b : S71) (P : Prop) [Decidable P] (hP : P ↔ (0 < b.f2 ∧ ∃ j, j < i ∧ (bx.getD j z71).f2 = b.f2)) (d : Nat) :
    ∀ (k j : Nat), j + d = i → d < k → (∀ m, m < j → 0 < b.f2 → (bx.getD m z71).f2 ≠ b.f2) → spec_l02Boxes.l1 k at_ (i : Int) (j : Int) h fx bx b.f0 b.f1 b.f2 b.f3 = if P then some false else (if (wrap64 (at_ + b.f1)) > 24 then (some false) else (spec_l02Boxes.l0 (k - d - 1) (wrap64 (at_ + b.f1)) ((i + 1 : Nat) : Int) h fx bx)) := by
  induction d with
  | zero =>
    intro k j hj hk hn
    obtain ⟨k, rfl⟩ : ∃ m, k = m + 1 := ⟨k - 1, by omega⟩
    simp only [spec_l02Boxes.l1]
    have hnp : ¬ P := fun hp => by obtain ⟨h0, m, hm, e⟩ := hP.mp hp; exact hn m (by omega) h0 e
    rw [if_neg (by omega), if_neg hnp, wsucc i (by omega)]
    rfl
  | succ d ih =>
    intro k j hj hk hn
    obtain ⟨k, rfl⟩ : ∃ m, k = m + 1 := ⟨k - 1, by omega⟩
    simp only [spec_l02Boxes.l1]
    have er : rd_T71 bx (j : Int) = bx.getD j z71 := rfl
    rw [if_pos (by omega), er, wsucc j (by omega)]
    by_cases c0 : b.f2 > 0
    · rw [if_pos c0, if_pos (by omega), if_pos (by omega)]
      by_cases c1 : (bx.getD j z71).f2 = b.f2
      · rw [if_pos c1, if_pos (hP.mpr ⟨c0, j, by omega, c1⟩)]
      · rw [if_neg c1, ih k (j + 1) (by omega) (by omega) (fun m hm h0 => by
          by_cases e : m = j
          · subst e; exact c1
          · exact hn m (by omega) h0), show k + 1 - (d + 1) - 1 = k - d - 1 by omega]
    · rw [if_neg c0, ih k (j + 1) (by omega) (by omega) (fun m hm h0 => absurd h0 c0), show k + 1 - (d + 1) - 1 = k - d - 1 by omega]
theorem drop_cons {α : Type} (l : List α) (d : α) (i : Nat) (hi : i < l.length) : l.drop i = l.getD i d :: l.drop (i + 1) := by
  rw [List.drop_eq_getElem_cons hi, getD_gen d hi]
theorem boxes_loop (h : Int) (fx : List Int) (bx : List S71) (hl : bx.length ≤ 140737488351232) : ∀ (d k i : Nat) (at_ : Int) (ps : List Int), (24 - at_).toNat = d → 0 ≤ at_ → at_ ≤ 24 → (i : Int) ≤ at_ → i ≤ bx.length → (d + 2) * 40 < k →
    (∀ x, x ∈ ps ↔ ∃ j, j < i ∧ (bx.getD j z71).f2 = x) → spec_l02Boxes.l0 k at_ (i : Int) h fx bx = some (boxesS h bx (boxS (bx.drop i) at_ ps)) := by
  intro d
  induction d using Nat.strongRecOn with
  | _ d ih =>
  intro k i at_ ps hd h0 h1 hi hil hk hps
  obtain ⟨k, rfl⟩ : ∃ m, k = m + 2 := ⟨k - 2, by omega⟩
  simp only [spec_l02Boxes.l0]
  by_cases c : i < bx.length
  · have er : rd_T71 bx (i : Int) = bx.getD i z71 := rfl
    rw [if_pos (by omega), if_pos (by omega), drop_cons bx z71 i c, er]
    simp only [in_eq, Option.bind_some, boxS]
    generalize hb : bx.getD i z71 = b
    by_cases c0 : b.f0 = at_
    · rw [if_pos c0]
      by_cases c1 : 1 ≤ b.f1 ∧ b.f1 ≤ 24
      · rw [if_pos (decide_eq_true c1)]
        by_cases c2 : 0 ≤ b.f2 ∧ b.f2 ≤ 999
        · simp only [decide_eq_true c2, spec_l02Boxes.j1, Bool.not_true]
          rw [if_neg (by simp)]
          have hin := boxes_in h fx bx at_ i c (by omega) b (0 < b.f2 ∧ b.f2 ∈ ps) (by rw [hps]) i k 0 (by omega) (by omega) (fun m hm => by omega)
          refine hin.trans ?_
          by_cases c3 : 0 < b.f2 ∧ b.f2 ∈ ps
          · rw [if_pos c3, if_neg (fun h => h.2.2.2.1 c3)]; rfl
          · rw [if_neg c3, wid (at_ + b.f1) (by omega) (by omega)]
            by_cases c4 : at_ + b.f1 > 24
            · rw [if_pos c4, if_neg (fun h => by have := h.2.2.2.2; omega)]; rfl
            · rw [if_neg c4, if_pos ⟨c0, c1, c2, c3, by omega⟩]
              refine ih (24 - (at_ + b.f1)).toNat (by omega) _ (i + 1) (at_ + b.f1) (b.f2 :: ps) rfl (by omega) (by omega) (by omega) (by omega) (by omega) (fun x => ?_)
              rw [List.mem_cons, hps]
              constructor
              · rintro (rfl | ⟨j, hj, e⟩)
                · exact ⟨i, by omega, by rw [hb]⟩
                · exact ⟨j, by omega, e⟩
              · rintro ⟨j, hj, e⟩
                by_cases ej : j = i
                · subst ej; left; rw [← e, hb]
                · right; exact ⟨j, by omega, e⟩
        · simp only [decide_eq_false c2, spec_l02Boxes.j1, Bool.not_false]
          rw [if_pos trivial, if_neg (fun h => c2 h.2.2.1)]; rfl
      · rw [if_neg (by simpa using c1)]
        simp only [spec_l02Boxes.j1]
        rw [if_pos trivial, if_neg (fun h => c1 h.2.1)]; rfl
    · rw [if_neg c0]
      simp only [spec_l02Boxes.j1]
      rw [if_pos trivial, if_neg (fun h => c0 h.1)]; rfl
  · rw [if_neg (by omega), List.drop_eq_nil_of_le (by omega)]
    simp only [boxS, boxesS]
    by_cases c0 : (bx.length : Int) > 0
    · have hne : bx ≠ [] := by intro e; rw [e] at c0; simp at c0
      rw [if_pos c0, decide_eq_true hne, Bool.true_and]
      congr 1
    · have hne : ¬ bx ≠ [] := by intro e; exact e (List.length_eq_zero_iff.mp (by omega))
      rw [if_neg c0, decide_eq_false hne, Bool.false_and]
theorem boxes_eq (h : Int) (fx : List Int) (bx : List S71) (hl : bx.length ≤ 140737488351232) (k : Nat) (hk : 1100 < k) : spec_l02Boxes.f k h fx bx = some (boxesS h bx (boxS bx 0 [])) := by
  unfold spec_l02Boxes.f
  have := boxes_loop h fx bx hl 24 k 0 0 [] (by omega) (by omega) (by omega) (by omega) (by omega) (by omega) (by simp)
  exact this
theorem boxS_le : ∀ (bs : List S71) (low : Int) (ps : List Int) (e : Int), boxS bs low ps = some e → low ≤ e ∧ (bs.length : Int) ≤ e - low ∧ (low ≤ 24 → e ≤ 24)
  | [], low, ps, e, h => by simp [boxS] at h; subst h; exact ⟨by omega, by simp, id⟩
  | b :: bs, low, ps, e, h => by
    simp only [boxS] at h
    split at h
    · next hc =>
      obtain ⟨h1, h2, h3⟩ := boxS_le bs _ _ _ h
      exact ⟨by omega, by simp; omega, fun _ => h3 (by omega)⟩
    · simp at h
theorem boxP_S (h : Int) (hh : h ≤ 24) : ∀ (bs : List S71) (low : Int) (ls ps : List Int) (e : Int) (ls' : List Int), 0 ≤ low → boxP h bs low ls ps = some (e, ls') → boxS bs low ps = some e ∧ ∀ f, f ∈ ls' ↔ f ∈ ls ∨ f ∈ bs.map (fun b => b.f0)
  | [], low, ls, ps, e, ls', h0, hb => by
    simp only [boxP, Option.some.injEq, Prod.mk.injEq] at hb
    obtain ⟨rfl, rfl⟩ := hb
    exact ⟨rfl, fun f => by simp⟩
  | b :: bs, low, ls, ps, e, ls', h0, hb => by
    simp only [boxP] at hb
    split at hb
    · next hc =>
      obtain ⟨h1, h2⟩ := boxP_S h hh bs _ _ _ _ _ (by omega) hb
      refine ⟨?_, fun f => ?_⟩
      · simp only [boxS]
        rw [if_pos ⟨hc.1, ⟨hc.2.1.1, by omega⟩, hc.2.2.1, hc.2.2.2, by omega⟩]
        exact h1
      · rw [h2 f, List.mem_cons, List.map_cons, List.mem_cons]
        constructor
        · rintro ((h | h) | h)
          · exact Or.inr (Or.inl h)
          · exact Or.inl h
          · exact Or.inr (Or.inr h)
        · rintro (h | h | h)
          · exact Or.inl (Or.inr h)
          · exact Or.inl (Or.inl h)
          · exact Or.inr h
    · simp at hb
theorem boxS_P (h : Int) : ∀ (bs : List S71) (low : Int) (ls ps : List Int), boxS bs low ps = some h → ∃ ls', boxP h bs low ls ps = some (h, ls')
  | [], low, ls, ps, hb => by
    simp only [boxS, Option.some.injEq] at hb
    subst hb
    exact ⟨ls, rfl⟩
  | b :: bs, low, ls, ps, hb => by
    simp only [boxS] at hb
    split at hb
    · next hc =>
      have hle := (boxS_le bs _ _ _ hb).1
      obtain ⟨ls', h1⟩ := boxS_P h bs _ (b.f0 :: ls) _ hb
      refine ⟨ls', ?_⟩
      simp only [boxP]
      rw [if_pos ⟨hc.1, ⟨hc.2.1.1, by omega⟩, hc.2.2.1, hc.2.2.2.1⟩]
      exact h1
    · simp at hb
theorem colS_eq (h : Int) (fx : List Int) (bx : List S71) : (decide (1 ≤ h ∧ h ≤ 24) && (boxesS h bx (boxS bx 0 []) && (fixP h none fx && fx.all (fun f => decide (f ∈ bx.map (fun b => b.f0)))))) = colP h fx bx := by
  unfold colP
  by_cases hh : 1 ≤ h ∧ h ≤ 24
  · rw [decide_eq_true hh, Bool.true_and, Bool.true_and]
    cases hP : boxP h bx 0 [] [] with
    | none =>
      have hf : boxesS h bx (boxS bx 0 []) = false := by
        cases hS : boxS bx 0 [] with
        | none => rfl
        | some e =>
          by_cases c : e = h
          · subst c
            obtain ⟨ls', hl⟩ := boxS_P e bx 0 [] [] hS
            rw [hl] at hP; simp at hP
          · simp [boxesS, c]
      rw [hf]; simp
    | some z =>
      obtain ⟨e, ls⟩ := z
      obtain ⟨h1, h2⟩ := boxP_S h hh.2 bx 0 [] [] e ls (by omega) hP
      have ha : fx.all (fun f => decide (f ∈ bx.map (fun b => b.f0))) = fx.all (fun f => decide (f ∈ ls)) := by
        congr 1
        funext f
        rw [decide_eq_decide, h2 f]
        simp
      rw [h1, ha]
      simp only [boxesS]
      cases decide (bx ≠ []) <;> cases decide (e = h) <;> cases fixP h none fx <;> cases fx.all (fun f => decide (f ∈ ls)) <;> rfl
  · rw [decide_eq_false hh, Bool.false_and, Bool.false_and, Bool.false_and, Bool.false_and]
def fixS (h : Int) (L : List Int) : Option Int → List Int → Bool
  | _, [] => true
  | p, f :: fs => decide (1 ≤ f ∧ f ≤ h - 1) && (match p with | none => true | some q => decide (q < f)) && decide (f ∈ L) && fixS h L (some f) fs
theorem fixS_eq (h : Int) (L : List Int) : ∀ (fs : List Int) (p : Option Int), fixS h L p fs = (fixP h p fs && fs.all (fun f => decide (f ∈ L)))
  | [], p => rfl
  | f :: fs, p => by
    simp only [fixS, fixP, List.all_cons]
    rw [fixS_eq h L fs (some f)]
    ac_rfl
theorem drop_step {α : Type} {l : List α} {i : Nat} {b : α} {rest : List α} (d : α) (h : l.drop i = b :: rest) : i < l.length ∧ l.getD i d = b ∧ l.drop (i + 1) = rest := by
  have hi : i < l.length := by
    apply Classical.byContradiction
    intro c
    rw [List.drop_eq_nil_of_le (by omega)] at h
    cases h
  have h2 := drop_cons l d i hi
  rw [h] at h2
  injection h2 with h3 h4
  exact ⟨hi, h3.symm, h4.symm⟩
theorem drop_end {α : Type} {l : List α} {i : Nat} (h : l.drop i = []) (hi : i ≤ l.length) : i = l.length := by
  have := List.drop_eq_nil_iff.mp h
  omega
theorem found_ev (h : Int) (fx : List Int) (bx : List S71) (i : Nat) (hi : i < fx.length) (hi2 : i ≤ 140737488351232) (hl : bx.length ≤ 24) (s : Bool) (hs : Ev (fun k => spec_ColumnOk.l0 k ((i + 1 : Nat) : Int) h fx bx) s) :
    ∀ (rest : List S71) (j : Nat) (b : Bool), bx.drop j = rest → j ≤ bx.length → Ev (fun k => spec_ColumnOk.l1 k (i : Int) b (j : Int) h fx bx) (if (b || rest.any (fun x => decide (x.f0 = fx.getD i 0))) = true then s else false)
  | [], j, b, hd, hj => by
    refine Ev.succ ?_
    simp only [spec_ColumnOk.l1]
    have he := drop_end hd hj
    refine Ev.neg (by omega) ?_
    rw [List.any_nil, Bool.or_false, wsucc i (by omega)]
    exact Ev.ite (fun _ => hs) (fun _ => Ev.ret _)
  | x :: rest, j, b, hd, hj => by
    obtain ⟨h1, h2, h3⟩ := drop_step z71 hd
    refine Ev.succ ?_
    simp only [spec_ColumnOk.l1]
    refine Ev.pos (by omega) ?_
    rw [wsucc j (by omega), List.any_cons]
    cases b with
    | true =>
      refine Ev.pos rfl ?_
      refine (found_ev h fx bx i hi hi2 hl s hs rest (j + 1) true h3 (by omega)).to ?_
      rw [Bool.true_or, Bool.true_or]
    | false =>
      refine Ev.neg (by simp) ?_
      refine Ev.pos (by omega) ?_
      refine Ev.pos (by omega) ?_
      refine Ev.pos (by omega) ?_
      refine (found_ev h fx bx i hi hi2 hl s hs rest (j + 1) _ h3 (by omega)).to ?_
      rw [Bool.false_or]
      have e1 : rd_T71 bx (j : Int) = x := h2
      have e2 : rd fx (i : Int) = fx.getD i 0 := rfl
      rw [e1, e2]
      rfl
theorem prev_eq (fx : List Int) (i : Nat) : prevP fx ((i + 1 : Nat) : Int) = some (fx.getD i 0) := by
  unfold prevP
  rw [if_neg (by omega), show ((i + 1 : Nat) : Int) - 1 = (i : Int) by omega]
  rfl
theorem any_lows (f : Int) (bx : List S71) : (bx.any (fun x => decide (x.f0 = f))) = decide (f ∈ bx.map (fun b => b.f0)) := by
  rw [Bool.eq_iff_iff, List.any_eq_true, decide_eq_true_iff, List.mem_map]
  constructor
  · rintro ⟨x, hx, e⟩; exact ⟨x, hx, of_decide_eq_true e⟩
  · rintro ⟨x, hx, e⟩; exact ⟨x, hx, decide_eq_true e⟩
theorem fixed_ev (h : Int) (h0 : 1 ≤ h) (h1 : h ≤ 24) (fx : List Int) (hx : fx.length ≤ 140737488351232) (bx : List S71) (hl : bx.length ≤ 24) :
    ∀ (rest : List Int) (i : Nat), fx.drop i = rest → i ≤ fx.length → Ev (fun k => spec_ColumnOk.l0 k (i : Int) h fx bx) (fixS h (bx.map (fun b => b.f0)) (prevP fx (i : Int)) rest)
  | [], i, hd, hj => by
    refine Ev.succ ?_
    simp only [spec_ColumnOk.l0]
    have he := drop_end hd hj
    refine Ev.neg (by omega) ?_
    exact Ev.ret _
  | f :: rest, i, hd, hj => by
    obtain ⟨h2, h3, h4⟩ := drop_step 0 hd
    have ih := fixed_ev h h0 h1 fx hx bx hl rest (i + 1) h4 (by omega)
    have hf := found_ev h fx bx i h2 (by omega) hl _ ih bx 0 false rfl (by omega)
    rw [Bool.false_or, any_lows, h3, prev_eq, h3] at hf
    have er : rd fx (i : Int) = f := h3
    have go : ∀ (b : Bool), Ev (fun k => spec_ColumnOk.j2 k (i : Int) b h fx bx) (if b = true then false else if decide (f ∈ bx.map (fun b => b.f0)) = true then fixS h (bx.map (fun b => b.f0)) (some f) rest else false) := by
      intro b
      refine Ev.succ ?_
      simp only [spec_ColumnOk.j2]
      exact Ev.ite (fun _ => Ev.ret _) (fun _ => hf)
    refine Ev.succ ?_
    simp only [spec_ColumnOk.l0]
    refine Ev.pos (by omega) ?_
    refine Ev.pos (by omega) ?_
    rw [er, wid (h - 1) (by omega) (by omega)]
    refine Ev.bind (Ev.const (in_eq _ _ _)) ?_
    simp only [fixS]
    by_cases c1 : 1 ≤ f ∧ f ≤ h - 1
    · refine Ev.pos (decide_eq_true c1) ?_
      rw [decide_eq_true c1, Bool.true_and]
      by_cases c2 : (i : Int) > 0
      · have hp : prevP fx (i : Int) = some (fx.getD (i - 1) 0) := by
          have := prev_eq fx (i - 1)
          rwa [show i - 1 + 1 = i by omega] at this
        have e2 : rd fx ((i - 1 : Nat) : Int) = fx.getD (i - 1) 0 := rfl
        refine Ev.pos c2 ?_
        rw [wpred i (by omega) (by omega), hp, e2]
        refine Ev.pos (by omega) ?_
        refine Ev.pos (by omega) ?_
        refine (go _).to ?_
        by_cases c3 : f ≤ fx.getD (i - 1) 0
        · rw [if_pos (decide_eq_true c3)]
          simp only [decide_eq_false (show ¬ fx.getD (i - 1) 0 < f by omega), Bool.false_and]
        · rw [if_neg (by simpa using c3)]
          simp only [decide_eq_true (show fx.getD (i - 1) 0 < f by omega), Bool.true_and]
          cases decide (f ∈ bx.map (fun b => b.f0)) <;> simp
      · have hp : prevP fx (i : Int) = none := by unfold prevP; rw [if_pos (by omega)]
        refine Ev.neg c2 ?_
        refine (go _).to ?_
        rw [hp]
        cases decide (f ∈ bx.map (fun b => b.f0)) <;> simp
    · refine Ev.neg (by simpa using c1) ?_
      refine (go _).to ?_
      rw [if_pos rfl, decide_eq_false c1]
      simp only [Bool.false_and]
theorem colok_ev (h : Int) (fx : List Int) (hx : fx.length ≤ 140737488351232) (bx : List S71) (hl : bx.length ≤ 140737488351232) : Ev (fun k => spec_ColumnOk.f k h fx bx) (colP h fx bx) := by
  refine Ev.of_eq ?_ (fun k => by unfold spec_ColumnOk.f; rfl)
  refine Ev.bind (Ev.const (in_eq _ _ _)) ?_
  rw [← colS_eq, ← fixS_eq]
  by_cases hh : 1 ≤ h ∧ h ≤ 24
  · refine Ev.pos (decide_eq_true hh) ?_
    refine Ev.bind (Ev.mk 1100 (fun k hk => boxes_eq h fx bx hl k hk)) ?_
    rw [decide_eq_true hh, Bool.true_and]
    refine Ev.succ ?_
    simp only [spec_ColumnOk.j0]
    cases hS : boxS bx 0 [] with
    | none =>
      refine Ev.pos (by simp [boxesS]) ?_
      exact Ev.ret _
    | some e =>
      by_cases hb : boxesS h bx (some e) = true
      · rw [hb]
        have hle := boxS_le bx 0 [] e hS
        have he : e ≤ 24 := hle.2.2 (by omega)
        refine Ev.neg (by simp) ?_
        exact fixed_ev h hh.1 hh.2 fx hx bx (by omega) fx 0 rfl (by omega)
      · have hb2 : boxesS h bx (some e) = false := by simpa using hb
        rw [hb2]
        refine Ev.pos (by simp) ?_
        exact Ev.ret _
  · refine Ev.neg (by simpa using hh) ?_
    rw [decide_eq_false hh, Bool.false_and]
    refine Ev.succ ?_
    simp only [spec_ColumnOk.j0]
    refine Ev.pos (by simp) ?_
    exact Ev.ret _
end Go.Proofs.Ytghfeapncmlihaa.A

namespace Go.Proofs.Ytghfeapncmlihaa.A
open Go.RowKit Go.Proofs.YtghfeapncmlihaaW.PrintWords Go.Proofs.YtghfeapncmlihaaW.PrintLast Go.Proofs.YtghfeapncmlihaaW.PrintMore
set_option linter.unusedVariables false
set_option linter.unusedSimpArgs false
def opB (b : S71) : Bool := decide (b.f2 = 0) && !b.f3
def sumB (l : List S71) : Int := (l.map (fun b => b.f1)).foldr (· + ·) 0
theorem sumB_nil : sumB [] = 0 := rfl
theorem sumB_cons (b : S71) (l : List S71) : sumB (b :: l) = b.f1 + sumB l := rfl
theorem sumB_app (a b : List S71) : sumB (a ++ b) = sumB a + sumB b := by
  induction a with
  | nil => simp [sumB_nil]
  | cons x a ih => rw [List.cons_append, sumB_cons, sumB_cons, ih]; omega
def tile : Int → List S71 → Int → Prop
  | lo, [], hi => lo = hi
  | lo, b :: bs, hi => b.f0 = lo ∧ 1 ≤ b.f1 ∧ tile (lo + b.f1) bs hi
theorem tile_sum : ∀ (bs : List S71) (lo hi : Int), tile lo bs hi → lo + sumB bs = hi ∧ lo + bs.length ≤ hi
  | [], lo, hi, h => by simp only [tile] at h; subst h; simp [sumB_nil]
  | b :: bs, lo, hi, h => by
    obtain ⟨_, h1, h2⟩ := h
    have := tile_sum bs _ _ h2
    rw [sumB_cons, List.length_cons]
    omega
theorem tile_mem : ∀ (bs : List S71) (lo hi : Int), tile lo bs hi → ∀ b ∈ bs, lo ≤ b.f0 ∧ 1 ≤ b.f1 ∧ b.f0 + b.f1 ≤ hi
  | [], _, _, _, b, hb => absurd hb (by simp)
  | x :: bs, lo, hi, h, b, hb => by
    obtain ⟨h0, h1, h2⟩ := h
    have h3 := tile_sum bs _ _ h2
    rcases List.mem_cons.mp hb with rfl | hb
    · omega
    · have := tile_mem bs _ _ h2 b hb
      omega
def gapR : List S71 → S54
  | [] => ⟨0, 0, 0⟩
  | b :: bs => ⟨0, b.f0, sumB (b :: bs)⟩
def emR (cur : List S71) : List S54 := if cur = [] then [] else [gapR cur]
def gapsW (fx : List Int) : List S71 → List S71 → List S54
  | cur, [] => emR cur
  | cur, b :: bs => if opB b = true then (if cur ≠ [] ∧ b.f0 ∉ fx then gapsW fx (cur ++ [b]) bs else emR cur ++ gapsW fx [b] bs) else emR cur ++ gapsW fx [] bs
def gapsB (fx : List Int) (bx : List S71) : List S54 := gapsW fx [] bx
def emD (pre cur bs : List S71) : List (List S71 × List S71 × List S71) := if cur = [] then [] else [(pre, cur, bs)]
def decs (fx : List Int) : List S71 → List S71 → List S71 → List (List S71 × List S71 × List S71)
  | pre, cur, [] => emD pre cur []
  | pre, cur, b :: bs => if opB b = true then (if cur ≠ [] ∧ b.f0 ∉ fx then decs fx pre (cur ++ [b]) bs else emD pre cur (b :: bs) ++ decs fx (pre ++ cur) [b] bs) else emD pre cur (b :: bs) ++ decs fx (pre ++ cur ++ [b]) [] bs
theorem emD_gap (pre cur bs : List S71) : (emD pre cur bs).map (fun d => gapR d.2.1) = emR cur := by
  unfold emD emR; split <;> rfl
theorem decs_gaps (fx : List Int) : ∀ (bs pre cur : List S71), (decs fx pre cur bs).map (fun d => gapR d.2.1) = gapsW fx cur bs
  | [], pre, cur => emD_gap pre cur []
  | b :: bs, pre, cur => by
    simp only [decs, gapsW]
    split
    · split
      · exact decs_gaps fx bs _ _
      · rw [List.map_append, emD_gap, decs_gaps fx bs]
    · rw [List.map_append, emD_gap, decs_gaps fx bs]
def Shut (fx : List Int) (A : List S71) : Prop := ∀ Z, gapsW fx [] (A ++ Z) = gapsW fx [] A ++ gapsW fx [] Z
def ShutAt (fx : List Int) (A : List S71) (lo : Int) : Prop := ∀ z Z, z.f0 = lo → gapsW fx [] (A ++ z :: Z) = gapsW fx [] A ++ gapsW fx [] (z :: Z)
theorem Shut.at {fx : List Int} {A : List S71} (h : Shut fx A) (lo : Int) : ShutAt fx A lo := fun z Z _ => h (z :: Z)
def parcs (ps : List Int) : List S71 → Prop
  | [] => True
  | b :: bs => (0 ≤ b.f2 ∧ b.f2 ≤ 999) ∧ ¬ (0 < b.f2 ∧ b.f2 ∈ ps) ∧ parcs (b.f2 :: ps) bs
theorem boxS_iff : ∀ (bs : List S71) (low : Int) (ps : List Int) (e : Int), 0 ≤ low → low ≤ 24 → (boxS bs low ps = some e ↔ tile low bs e ∧ e ≤ 24 ∧ parcs ps bs)
  | [], low, ps, e, h0, h => by
    simp only [boxS, tile, parcs, Option.some.injEq]
    constructor
    · rintro rfl; exact ⟨rfl, h, trivial⟩
    · rintro ⟨h, _⟩; exact h
  | b :: bs, low, ps, e, hn, h => by
    simp only [boxS, tile, parcs]
    constructor
    · intro hs
      split at hs
      · next hc =>
        obtain ⟨h1, h2, h3⟩ := (boxS_iff bs _ _ e (by omega) hc.2.2.2.2).mp hs
        exact ⟨⟨hc.1, hc.2.1.1, h1⟩, h2, hc.2.2.1, hc.2.2.2.1, h3⟩
      · cases hs
    · rintro ⟨⟨h0, h1, h2⟩, h3, h4, h5, h6⟩
      have hs := tile_sum _ _ _ h2
      rw [if_pos ⟨h0, ⟨h1, by omega⟩, h4, h5, by omega⟩]
      exact (boxS_iff bs _ _ e (by omega) (by omega)).mpr ⟨h2, h3, h6⟩
structure ColV (h : Int) (fx : List Int) (bx : List S71) : Prop where
  hi : 1 ≤ h ∧ h ≤ 24
  til : tile 0 bx h
  par : parcs [] bx
  fix : fixP h none fx = true
  low : ∀ f ∈ fx, ∃ b ∈ bx, b.f0 = f
theorem colP_iff (h : Int) (fx : List Int) (bx : List S71) : colP h fx bx = true ↔ ColV h fx bx := by
  rw [← colS_eq]
  constructor
  · intro e
    simp only [Bool.and_eq_true, decide_eq_true_eq] at e
    obtain ⟨e1, e2, e3, e4⟩ := e
    cases hS : boxS bx 0 [] with
    | none => rw [hS] at e2; simp [boxesS] at e2
    | some x =>
      rw [hS] at e2
      simp only [boxesS, Bool.and_eq_true, decide_eq_true_eq] at e2
      obtain ⟨_, rfl⟩ := e2
      obtain ⟨t1, t2, t3⟩ := (boxS_iff bx 0 [] x (by omega) (by omega)).mp hS
      refine ⟨e1, t1, t3, e3, fun f hf => ?_⟩
      have := List.all_eq_true.mp e4 f hf
      simp only [decide_eq_true_eq, List.mem_map] at this
      exact this
  · intro v
    have hS := (boxS_iff bx 0 [] h (by omega) (by omega)).mpr ⟨v.til, v.hi.2, v.par⟩
    have hne : bx ≠ [] := by
      intro e
      have := v.til
      rw [e] at this
      simp only [tile] at this
      have := v.hi
      omega
    simp only [Bool.and_eq_true, decide_eq_true_eq]
    refine ⟨v.hi, ?_, v.fix, ?_⟩
    · rw [hS]; simp [boxesS, hne]
    · exact List.all_eq_true.mpr (fun f hf => by simp only [decide_eq_true_eq, List.mem_map]; exact v.low f hf)
theorem ColV.len {h : Int} {fx : List Int} {bx : List S71} (v : ColV h fx bx) : bx.length ≤ 24 := by
  have := tile_sum _ _ _ v.til
  have := v.hi
  omega
theorem ColV.mem {h : Int} {fx : List Int} {bx : List S71} (v : ColV h fx bx) {b : S71} (hb : b ∈ bx) : 0 ≤ b.f0 ∧ 1 ≤ b.f1 ∧ b.f0 + b.f1 ≤ 24 := by
  have := tile_mem _ _ _ v.til b hb
  have := v.hi
  omega
end Go.Proofs.Ytghfeapncmlihaa.A

namespace Go.Proofs.Ytghfeapncmlihaa.A
open Go.RowKit Go.Proofs.YtghfeapncmlihaaW.PrintWords Go.Proofs.YtghfeapncmlihaaW.PrintLast Go.Proofs.YtghfeapncmlihaaW.PrintMore
set_option linter.unusedVariables false
set_option linter.unusedSimpArgs false
def toI_Box (b : S93) : S71 := ⟨b.f0, b.f1, b.f2, b.f3⟩
theorem toIntS_ev (l : List Int) (hl : l.length ≤ 1048576) : Ev (fun k => laws_toIntS.f k l) l := Ev.mk l.length (fun k hk => by
  unfold laws_toIntS.f
  rw [if_pos (by omega), if_pos (by omega)]
  refine (map_loop (L := fun k acc i => laws_toIntS.l0 k l acc i) (xs := l) (g := id) 0 (fun k acc i hi ha => ?_) (fun k acc => ?_) l.length k _ 0 (by omega) hk (by simp) (fun j hj => by omega)).trans (by rw [List.map_id])
  · simp only [laws_toIntS.l0]
    rw [if_pos (by omega), if_pos (by omega), if_pos (by omega), wsucc i (by omega)]
    rfl
  · simp only [laws_toIntS.l0]
    rw [if_neg (by omega)])
theorem toBoxS_ev (l : List S93) (hl : l.length ≤ 1048576) : Ev (fun k => laws_toBoxS.f k l) (l.map toI_Box) := Ev.mk l.length (fun k hk => by
  unfold laws_toBoxS.f
  rw [if_pos (by omega), if_pos (by omega)]
  refine map_loop (L := fun k acc i => laws_toBoxS.l0 k l acc i) z93 (fun k acc i hi ha => ?_) (fun k acc => ?_) l.length k _ 0 (by omega) hk (by simp) (fun j hj => by omega)
  · simp only [laws_toBoxS.l0]
    rw [if_pos (by omega), if_pos (by omega)]
    simp only [laws_toBox.f, Option.bind_some]
    rw [if_pos (by omega), wsucc i (by omega)]
    rfl
  · simp only [laws_toBoxS.l0]
    rw [if_neg (by omega)])
theorem toColumn_ev (h : Int) (fx : List Int) (bx : List S93) (hf : fx.length ≤ 1048576) (hb : bx.length ≤ 1048576) : Ev (fun k => laws_toColumn.f k h fx bx) (h, fx, bx.map toI_Box) := by
  unfold laws_toColumn.f
  exact Ev.bind (toIntS_ev fx hf) (Ev.bind (toBoxS_ev bx hb) (Ev.ret _))
theorem szColumn_eq (h : Int) (fx : List Int) (bx : List S93) (a : Int) (h0 : 0 ≤ a) (h1 : a ≤ 1048576) (hf : fx.length ≤ 9223372036854775807) (hb : bx.length ≤ 9223372036854775807) : laws_szColumn.f h fx bx a = some (if a < fx.length + bx.length then -1 else a - fx.length - bx.length) := by
  unfold laws_szColumn.f laws_szIntS.f laws_szBoxS.f
  rw [wid (a - (fx.length : Int)) (by omega) (by omega)]
  by_cases c : a - (fx.length : Int) < 0
  · rw [if_pos c]
    simp only [Option.bind_some]
    rw [if_pos (by omega), if_pos (by omega)]
  · rw [if_neg c]
    simp only [Option.bind_some]
    rw [if_neg c, wid (a - (fx.length : Int) - (bx.length : Int)) (by omega) (by omega)]
    by_cases d : a - (fx.length : Int) - (bx.length : Int) < 0
    · rw [if_pos d]
      simp only [Option.bind_some]
      rw [if_pos (by omega), if_pos (by omega)]
    · rw [if_neg d]
      simp only [Option.bind_some]
      rw [if_neg d, if_neg (by omega)]
theorem eqIntS_ev (l : List Int) (hl : l.length ≤ 1048576) : Ev (fun k => laws_eqIntS.f k l l) true := Ev.mk l.length (fun k hk => by
  unfold laws_eqIntS.f
  rw [if_pos rfl]
  have h := all_loop (L := fun k i => laws_eqIntS.l0 k l l i) (n := l.length) (P := fun _ => true) (fun k i hi => ?_) (fun k => ?_) l.length k 0 (by omega) hk
  · have e : (List.range' 0 l.length).all (fun _ => true) = true := by simp
    rw [e] at h
    exact h
  · simp only [laws_eqIntS.l0]
    rw [if_pos (by omega), if_pos (by omega), if_pos (by omega)]
    simp only [if_true]
    rw [wsucc i (by omega)]
  · simp only [laws_eqIntS.l0]
    rw [if_neg (by omega)])
theorem eqBoxS_ev (l : List S71) (hl : l.length ≤ 1048576) : Ev (fun k => laws_eqBoxS.f k l l) true := Ev.mk l.length (fun k hk => by
  unfold laws_eqBoxS.f
  rw [if_pos rfl]
  have h := all_loop (L := fun k i => laws_eqBoxS.l0 k l l i) (n := l.length) (P := fun _ => true) (fun k i hi => ?_) (fun k => ?_) l.length k 0 (by omega) hk
  · have e : (List.range' 0 l.length).all (fun _ => true) = true := by simp
    rw [e] at h
    exact h
  · simp only [laws_eqBoxS.l0]
    rw [if_pos (by omega), if_pos (by omega), if_pos (by omega)]
    simp only [laws_eqBox.f, bne_self_eq_false, Bool.false_eq_true, if_false, if_true, Option.bind_some]
    rw [wsucc i (by omega)]
  · simp only [laws_eqBoxS.l0]
    rw [if_neg (by omega)])
theorem eqColumn_ev (h : Int) (fx : List Int) (bx : List S71) (hf : fx.length ≤ 1048576) (hb : bx.length ≤ 1048576) : Ev (fun k => laws_eqColumn.f k h fx bx h fx bx) true := by
  unfold laws_eqColumn.f
  refine Ev.pos rfl ?_
  refine Ev.bind (eqIntS_ev fx hf) ?_
  refine Ev.pos rfl ?_
  refine Ev.bind (eqBoxS_ev bx hb) ?_
  refine Ev.pos rfl ?_
  exact Ev.ret _
theorem mark_loop {β : Type} {L : Nat → List β → Int → Int → Option (Int × List β)} {n : Nat} {g : Nat → β} {X : Nat → Int}
    (h : ∀ k acc (i : Nat), i < n → acc.length = n → L (k + 1) acc (X i) (i : Int) = L k (acc.set i (g i)) (X (i + 1)) ((i + 1 : Nat) : Int))
    (he : ∀ k acc, acc.length = n → L (k + 1) acc (X n) (n : Int) = some (X n, acc)) (d : Nat) :
    ∀ k acc (i : Nat), i + d = n → d < k → acc.length = n → (∀ j, j < i → acc[j]? = ((List.range n).map g)[j]?) → L k acc (X i) (i : Int) = some (X n, (List.range n).map g) := by
  induction d with
  | zero =>
    intro k acc i hi hk hl hp
    obtain ⟨k, rfl⟩ : ∃ m, k = m + 1 := ⟨k - 1, by omega⟩
    obtain rfl : i = n := by omega
    rw [he k acc hl]
    congr 2
    apply List.ext_getElem?
    intro j
    by_cases hj : j < i
    · exact hp j hj
    · rw [List.getElem?_eq_none (by omega), List.getElem?_eq_none (by simp; omega)]
  | succ d ih =>
    intro k acc i hi hk hl hp
    obtain ⟨k, rfl⟩ : ∃ m, k = m + 1 := ⟨k - 1, by omega⟩
    rw [h k acc i (by omega) hl]
    refine ih k _ (i + 1) (by omega) (by omega) (by simp [hl]) (fun j hj => ?_)
    by_cases e : i = j
    · subst e
      rw [List.getElem?_set_self (by omega), List.getElem?_map, List.getElem?_range (by omega)]
      rfl
    · rw [List.getElem?_set_ne e]
      exact hp j (by omega)
theorem held_loop {L : Nat → Int → Int → Option Int} {n : Nat} {X : Nat → Int}
    (h : ∀ k (i : Nat), i < n → L (k + 1) (X i) (i : Int) = L k (X (i + 1)) ((i + 1 : Nat) : Int)) (he : ∀ k, L (k + 1) (X n) (n : Int) = some (X n)) (d : Nat) :
    ∀ k (i : Nat), i + d = n → d < k → L k (X i) (i : Int) = some (X n) := by
  induction d with
  | zero =>
    intro k i hi hk
    obtain ⟨k, rfl⟩ : ∃ m, k = m + 1 := ⟨k - 1, by omega⟩
    obtain rfl : i = n := by omega
    exact he k
  | succ d ih =>
    intro k i hi hk
    obtain ⟨k, rfl⟩ : ∃ m, k = m + 1 := ⟨k - 1, by omega⟩
    rw [h k i (by omega)]
    exact ih k (i + 1) (by omega) (by omega)
theorem getD_range {β : Type} (n : Nat) (g : Nat → β) (d : β) (i : Nat) (h : i < n) : ((List.range n).map g).getD i d = g i := by
  rw [List.getD_eq_getElem?_getD, List.getElem?_map, List.getElem?_range h]
  rfl
def mkI (a : Int) (n : Nat) : List Int := (List.range n).map (fun (j : Nat) => a + (j : Int))
theorem markIntS_ev (l : List Int) (hl : l.length ≤ 1048576) (a : Int) (h0 : 0 ≤ a) (h1 : a ≤ 100000000) : Ev (fun k => laws_markIntS.f k l a) (a + l.length, mkI a l.length) := Ev.mk l.length (fun k hk => by
  unfold laws_markIntS.f
  have h := mark_loop (L := fun k acc x i => laws_markIntS.l0 k acc x i) (n := l.length) (g := fun j => a + (j : Int)) (X := fun j => a + (j : Int)) (fun k acc i hi ha => ?_) (fun k acc ha => ?_) l.length k l 0 (by omega) hk rfl (fun j hj => by omega)
  · rw [show a + ((0 : Nat) : Int) = a by omega] at h
    exact h
  · simp only [laws_markIntS.l0]
    rw [if_pos (by omega), if_pos (by omega), wid (a + (i : Int) + 1) (by omega) (by omega), wsucc i (by omega), show a + (i : Int) + 1 = a + ((i + 1 : Nat) : Int) by omega]
    rfl
  · simp only [laws_markIntS.l0]
    rw [if_neg (by omega)])
theorem rd_set {l : List S71} {i : Nat} (h : i < l.length) (v : S71) : rd_T71 (l.set i v) (i : Int) = v := by
  show (l.set i v).getD i _ = v
  rw [List.getD_eq_getElem?_getD, List.getElem?_set_self h]
  rfl
def mkBox (x : Int) : S71 := ⟨x, x + 1, x + 2, Int.tmod (x + 3) 3 == 0⟩
def mkB (a : Int) (n : Nat) : List S71 := (List.range n).map (fun (j : Nat) => mkBox (a + 4 * (j : Int)))
theorem markBoxS_ev (l : List S71) (hl : l.length ≤ 1048576) (a : Int) (h0 : 0 ≤ a) (h1 : a ≤ 100000000) : Ev (fun k => laws_markBoxS.f k l a) (a + 4 * l.length, mkB a l.length) := Ev.mk l.length (fun k hk => by
  unfold laws_markBoxS.f
  have h := mark_loop (L := fun k acc x i => laws_markBoxS.l0 k acc x i) (n := l.length) (g := fun j => mkBox (a + 4 * (j : Int))) (X := fun j => a + 4 * (j : Int)) (fun k acc i hi ha => ?_) (fun k acc ha => ?_) l.length k l 0 (by omega) hk rfl (fun j hj => by omega)
  · rw [show a + 4 * ((0 : Nat) : Int) = a by omega] at h
    exact h
  · simp only [laws_markBoxS.l0]
    generalize hx : a + 4 * (i : Int) = x
    rw [if_pos (by omega), if_pos (by omega)]
    simp only [Option.bind_some, Int.toNat_natCast]
    rw [wid (x + 1) (by omega) (by omega), wid (x + 1 + 1) (by omega) (by omega), wid (x + 1 + 1 + 1) (by omega) (by omega), wid (x + 1 + 1 + 1 + 1) (by omega) (by omega), wsucc i (by omega)]
    have s1 : i < acc.length := by omega
    simp only [rd_set s1, List.set_set]
    rw [show x + 1 + 1 + 1 + 1 = a + 4 * ((i + 1 : Nat) : Int) by omega, show x + 1 + 1 + 1 = x + 3 by omega, show x + 1 + 1 = x + 2 by omega]
    rfl
  · simp only [laws_markBoxS.l0]
    rw [if_neg (by omega)])
theorem markColumn_ev (h : Int) (fx : List Int) (bx : List S71) (hf : fx.length ≤ 1048576) (hb : bx.length ≤ 1048576) (a : Int) (h0 : 0 ≤ a) (h1 : a ≤ 10000000) : Ev (fun k => laws_markColumn.f k h fx bx a) (a + fx.length + 4 * bx.length, mkI a fx.length, mkB (a + fx.length) bx.length) := by
  unfold laws_markColumn.f
  refine Ev.bind (markIntS_ev fx hf a h0 (by omega)) ?_
  dsimp only
  exact Ev.bind (markBoxS_ev bx hb _ (by omega) (by omega)) (Ev.ret _)
end Go.Proofs.Ytghfeapncmlihaa.A

namespace Go.Proofs.Ytghfeapncmlihaa.A
open Go.RowKit Go.Proofs.YtghfeapncmlihaaW.PrintWords Go.Proofs.YtghfeapncmlihaaW.PrintLast Go.Proofs.YtghfeapncmlihaaW.PrintMore
set_option linter.unusedVariables false
set_option linter.unusedSimpArgs false
theorem has_loop (l : List Int) (hl : l.length ≤ 1048576) (x : Int) : ∀ (rest : List Int) (i : Nat), l.drop i = rest → i ≤ l.length → Ev (fun k => spec_l02Has.l0 k l x (i : Int)) (decide (x ∈ rest))
  | [], i, hd, hi => by
    have he := drop_end hd hi
    refine Ev.succ ?_
    simp only [spec_l02Has.l0]
    exact Ev.neg (by omega) ((Ev.ret _).to (by simp))
  | b :: rest, i, hd, hi => by
    obtain ⟨h1, h2, h3⟩ := drop_step 0 hd
    have er : rd l (i : Int) = b := h2
    have ih := has_loop l hl x rest (i + 1) h3 (by omega)
    refine Ev.succ ?_
    simp only [spec_l02Has.l0, er]
    refine Ev.pos (by omega) (Ev.pos (by omega) ?_)
    rw [wsucc i (by omega)]
    by_cases c : b = x
    · exact Ev.pos c ((Ev.ret _).to (by simp [c]))
    · refine Ev.neg c (ih.to ?_)
      rw [decide_eq_decide, List.mem_cons]
      constructor
      · exact Or.inr
      · rintro (h | h)
        · exact absurd h.symm c
        · exact h
theorem has_ev (l : List Int) (hl : l.length ≤ 1048576) (x : Int) : Ev (fun k => spec_l02Has.f k l x) (decide (x ∈ l)) := by
  unfold spec_l02Has.f
  exact has_loop l hl x l 0 rfl (by omega)
theorem index_loop (l : List Int) (hl : l.length ≤ 1048576) (x : Int) : ∀ (rest : List Int) (i : Nat), l.drop i = rest → i ≤ l.length → ∃ r : Int, Ev (fun k => slices_Index_int_int.l0 k l x (l.length : Int) (i : Int)) r ∧ (0 ≤ r ↔ x ∈ rest)
  | [], i, hd, hi => by
    have he := drop_end hd hi
    refine ⟨-1, Ev.succ ?_, by simp⟩
    simp only [slices_Index_int_int.l0]
    exact Ev.neg (by omega) (Ev.ret _)
  | b :: rest, i, hd, hi => by
    obtain ⟨h1, h2, h3⟩ := drop_step 0 hd
    have er : rd l (i : Int) = b := h2
    by_cases c : x = b
    · refine ⟨(i : Int), Ev.succ ?_, by simp [c]⟩
      simp only [slices_Index_int_int.l0, er]
      exact Ev.pos (by omega) (Ev.pos (by omega) (Ev.pos (by omega) (Ev.pos c (Ev.ret _))))
    · obtain ⟨r, h4, h5⟩ := index_loop l hl x rest (i + 1) h3 (by omega)
      refine ⟨r, Ev.succ ?_, by rw [h5, List.mem_cons]; constructor; exact Or.inr; rintro (h | h); exact absurd h c; exact h⟩
      simp only [slices_Index_int_int.l0, er]
      refine Ev.pos (by omega) (Ev.pos (by omega) (Ev.pos (by omega) (Ev.neg c ?_)))
      rw [wsucc i (by omega)]
      exact h4
theorem contains_ev (l : List Int) (hl : l.length ≤ 1048576) (x : Int) : Ev (fun k => slices_Contains_int_int.f k l x) (decide (x ∈ l)) := by
  obtain ⟨r, h1, h2⟩ := index_loop l hl x l 0 rfl (by omega)
  unfold slices_Contains_int_int.f slices_Index_int_int.f
  refine Ev.bind h1 ((Ev.ret _).to ?_)
  rw [decide_eq_decide]
  exact h2
def toRun (d : List S71 × List S71 × List S71) : S85 := ⟨gapR d.2.1, (d.1.length : Int), (d.1.length : Int) + (d.2.1.length : Int)⟩
def emT (pre cur : List S71) : List S85 := if cur = [] then [] else [⟨gapR cur, (pre.length : Int), (pre.length : Int) + (cur.length : Int)⟩]
theorem emD_run (pre cur bs : List S71) : (emD pre cur bs).map toRun = emT pre cur := by
  unfold emD emT; split <;> rfl
theorem emT_len (pre cur : List S71) : (emT pre cur).length ≤ 1 ∧ (cur = [] → emT pre cur = []) := by
  unfold emT; split
  · next h => exact ⟨by simp, fun _ => rfl⟩
  · next h => exact ⟨by simp, fun c => absurd c h⟩
theorem gapR_snoc {cur : List S71} (h : cur ≠ []) (b : S71) : gapR (cur ++ [b]) = ⟨(gapR cur).f0, (gapR cur).f1, (gapR cur).f2 + b.f1⟩ := by
  cases cur with
  | nil => exact absurd rfl h
  | cons x cur =>
    show (S54.mk 0 x.f0 (sumB (x :: cur ++ [b]))) = S54.mk 0 x.f0 (sumB (x :: cur) + b.f1)
    rw [sumB_app]
    have : sumB [b] = b.f1 := by rw [sumB_cons, sumB_nil]; omega
    rw [this]
theorem getD_end {α : Type} (l : List α) (s d : α) : (l ++ [s]).getD l.length d = s := by
  rw [List.getD_eq_getElem?_getD, List.getElem?_append_right (Nat.le_refl _), Nat.sub_self]; rfl
theorem set_end {α : Type} (l : List α) (s t : α) : (l ++ [s]).set l.length t = l ++ [t] := by
  rw [List.set_append_right _ _ (Nat.le_refl _), Nat.sub_self]; rfl
theorem runs_loop (h : Int) (fx : List Int) (hf : fx.length ≤ 1048576) (bx : List S71) (hl : bx.length ≤ 24) (hm : ∀ b ∈ bx, 1 ≤ b.f1 ∧ b.f1 ≤ 24) :
    ∀ (rest : List S71) (i : Nat) (pre cur : List S71) (done : List S85), bx.drop i = rest → i ≤ bx.length → pre.length + cur.length = i → done.length ≤ i → 0 ≤ sumB cur → sumB cur ≤ 24 * (i : Int) →
    Ev (fun k => impl_runsOf.l0 k (done ++ emT pre cur) (decide (cur ≠ [])) bx (bx.length : Int) (i : Int) h fx bx) (done ++ (decs fx pre cur rest).map toRun)
  | [], i, pre, cur, done, hd, hi, hp, hn, s0, s1 => by
    have he := drop_end hd hi
    refine Ev.succ ?_
    simp only [impl_runsOf.l0, decs]
    rw [emD_run]
    exact Ev.neg (by omega) (Ev.ret _)
  | b :: rest, i, pre, cur, done, hd, hi, hp, hn, s0, s1 => by
    obtain ⟨h1, h2, h3⟩ := drop_step z71 hd
    have er : rd_T71 bx (i : Int) = b := h2
    have hb : b ∈ bx := by rw [← h2, getD_gen _ h1]; exact List.getElem_mem _
    have hbb := hm b hb
    have hl1 := emT_len pre cur
    refine Ev.succ ?_
    simp only [impl_runsOf.l0, er]
    refine Ev.pos (by omega) (Ev.pos (by omega) (Ev.pos (by omega) ?_))
    have go : ∀ (s : Bool), s = !opB b → Ev (fun k => impl_runsOf.j1 k (done ++ emT pre cur) (decide (cur ≠ [])) (i : Int) bx (bx.length : Int) (i : Int) s h fx bx b.f0 b.f1 b.f2 b.f3) (done ++ (decs fx pre cur (b :: rest)).map toRun) := by
      intro s hs
      refine Ev.succ ?_
      simp only [impl_runsOf.j1, decs]
      rw [wsucc i (by omega)]
      cases hob : opB b with
      | false =>
        rw [hob] at hs
        subst hs
        rw [if_neg (by simp), List.map_append, emD_run, ← List.append_assoc]
        have ih := runs_loop h fx hf bx hl hm rest (i + 1) (pre ++ cur ++ [b]) [] (done ++ emT pre cur) h3 (by omega) (by simp; omega) (by simp; omega) (by rw [sumB_nil]; omega) (by rw [sumB_nil]; omega)
        rw [(emT_len _ _).2 rfl, List.append_nil] at ih
        exact Ev.pos (by trivial) (ih.to rfl)
      | true =>
        rw [hob] at hs
        subst hs
        refine Ev.neg (by simp) ?_
        rw [if_pos rfl]
        have new : (cur ≠ [] → b.f0 ∈ fx) → Ev (fun k => if (done ++ emT pre cur).length < 3518437208883 then impl_runsOf.l0 k (done ++ emT pre cur ++ [⟨⟨0, b.f0, b.f1⟩, (i : Int), ((i + 1 : Nat) : Int)⟩]) true bx (bx.length : Int) ((i + 1 : Nat) : Int) h fx bx else none) (done ++ (if cur ≠ [] ∧ b.f0 ∉ fx then decs fx pre (cur ++ [b]) rest else emD pre cur (b :: rest) ++ decs fx (pre ++ cur) [b] rest).map toRun) := by
          intro hc
          rw [if_neg (fun e => e.2 (hc e.1)), List.map_append, emD_run, ← List.append_assoc]
          have sb : sumB [b] = b.f1 := by rw [sumB_cons, sumB_nil]; omega
          have ih := runs_loop h fx hf bx hl hm rest (i + 1) (pre ++ cur) [b] (done ++ emT pre cur) h3 (by omega) (by simp; omega) (by simp; omega) (by rw [sb]; omega) (by rw [sb]; omega)
          refine Ev.pos (by simp; omega) (Ev.of_eq ih (fun k => ?_))
          have e : emT (pre ++ cur) [b] = [⟨⟨0, b.f0, b.f1⟩, (i : Int), ((i + 1 : Nat) : Int)⟩] := by
            unfold emT
            rw [if_neg (by simp)]
            show [(S85.mk (S54.mk 0 b.f0 (sumB [b])) _ _)] = _
            rw [sb, List.length_append, hp]
            rfl
          rw [e]
          rfl
        by_cases hc : cur = []
        · have e : decide (cur ≠ []) = false := by simp [hc]
          rw [e]
          refine Ev.neg (by simp) ?_
          exact new (fun c => absurd hc c)
        · have e : decide (cur ≠ []) = true := by simp [hc]
          rw [e]
          refine Ev.pos rfl ?_
          refine Ev.bind (contains_ev fx hf b.f0) ?_
          by_cases hfx : b.f0 ∈ fx
          · refine Ev.pos (decide_eq_true hfx) ?_
            exact new (fun _ => hfx)
          · refine Ev.neg (by simpa using hfx) ?_
            rw [if_pos ⟨hc, hfx⟩]
            have eT : emT pre cur = [⟨gapR cur, (pre.length : Int), (pre.length : Int) + (cur.length : Int)⟩] := by unfold emT; rw [if_neg hc]
            have ih := runs_loop h fx hf bx hl hm rest (i + 1) pre (cur ++ [b]) done h3 (by omega) (by simp; omega) (by omega) (by rw [sumB_app, sumB_cons, sumB_nil]; omega) (by rw [sumB_app, sumB_cons, sumB_nil]; omega)
            have eT2 : emT pre (cur ++ [b]) = [⟨⟨(gapR cur).f0, (gapR cur).f1, (gapR cur).f2 + b.f1⟩, (pre.length : Int), (i : Int) + 1⟩] := by
              unfold emT
              rw [if_neg (by simp), gapR_snoc hc, List.length_append]
              simp
              omega
            rw [eT2] at ih
            rw [eT]
            have hw : wrap64 (((done ++ [(S85.mk (gapR cur) (pre.length : Int) ((pre.length : Int) + (cur.length : Int)))]).length : Int) - 1) = (done.length : Int) := by
              simp; unfold wrap64; omega
            have hg : (gapR cur).f2 = sumB cur := by cases cur with | nil => exact absurd rfl hc | cons x cur => rfl
            rw [hw]
            have hrd : ∀ v : S85, rd_T85 (done ++ [v]) (done.length : Int) = v := fun v => getD_end done v _
            refine Ev.pos (by omega) (Ev.pos (by simp; omega) ?_)
            simp only [hrd, Int.toNat_natCast, set_end, Option.bind_some]
            refine Ev.of_eq ih (fun k => ?_)
            rw [wid ((gapR cur).f2 + b.f1) (by omega) (by omega), show (pre.length : Int) + (cur.length : Int) = (i : Int) by omega, wid ((i : Int) + 1) (by omega) (by omega)]
            have e2 : decide (cur ++ [b] ≠ []) = true := by simp
            rw [e2]
    by_cases c2 : b.f2 = 0
    · refine Ev.pos c2 (go b.f3 ?_)
      unfold opB
      rw [decide_eq_true c2, Bool.true_and, Bool.not_not]
    · refine Ev.neg c2 (go true ?_)
      unfold opB
      rw [decide_eq_false c2]
      rfl
theorem runs_ev (h : Int) (fx : List Int) (hf : fx.length ≤ 1048576) (bx : List S71) (hl : bx.length ≤ 24) (hm : ∀ b ∈ bx, 1 ≤ b.f1 ∧ b.f1 ≤ 24) : Ev (fun k => impl_runsOf.f k h fx bx) ((decs fx [] [] bx).map toRun) := by
  unfold impl_runsOf.f
  exact runs_loop h fx hf bx hl hm bx 0 [] [] [] rfl (by omega) rfl (by simp) (by rw [sumB_nil]; omega) (by rw [sumB_nil]; omega)
theorem gapsW_len (fx : List Int) : ∀ (bs cur : List S71), (gapsW fx cur bs).length ≤ bs.length + (emR cur).length
  | [], cur => by simp [gapsW]
  | b :: bs, cur => by
    have e1 : ∀ (x : List S71), (emR x).length ≤ 1 := fun x => by unfold emR; split <;> simp
    have e0 : emR [] = [] := rfl
    simp only [gapsW]
    split
    · split
      · next h =>
        have := gapsW_len fx bs (cur ++ [b])
        have e2 : (emR cur).length = 1 := by unfold emR; rw [if_neg h.1]; rfl
        have := e1 (cur ++ [b])
        simp; omega
      · have := gapsW_len fx bs [b]
        have := e1 [b]
        simp; omega
    · have := gapsW_len fx bs []
      rw [e0] at this
      simp at this ⊢; omega
theorem gapsB_len (fx : List Int) (bx : List S71) : (gapsB fx bx).length ≤ bx.length := by
  have := gapsW_len fx bx []
  have e0 : emR [] = [] := rfl
  rw [e0] at this
  unfold gapsB
  simpa using this
def gapsP (h : Int) (fx : List Int) (bx : List S71) : List S54 := if colP h fx bx = true then gapsB fx bx else []
theorem gapsP_len (h : Int) (fx : List Int) (bx : List S71) : (gapsP h fx bx).length ≤ 24 := by
  unfold gapsP
  split
  · next c =>
    have := gapsB_len fx bx
    have := ((colP_iff h fx bx).mp c).len
    omega
  · simp
theorem gapsI_loop (rs : List S85) (hl : rs.length ≤ 24) : ∀ (rest : List S85) (i : Nat) (acc : List S54), rs.drop i = rest → i ≤ rs.length → acc.length ≤ i → Ev (fun k => impl_GapsOf.l0 k acc rs (rs.length : Int) (i : Int)) (acc ++ rest.map (fun r => r.f0))
  | [], i, acc, hd, hi, ha => by
    have he := drop_end hd hi
    refine Ev.succ ?_
    simp only [impl_GapsOf.l0]
    exact Ev.neg (by omega) ((Ev.ret _).to (by simp))
  | b :: rest, i, acc, hd, hi, ha => by
    obtain ⟨h1, h2, h3⟩ := drop_step z85 hd
    have er : rd_T85 rs (i : Int) = b := h2
    refine Ev.succ ?_
    simp only [impl_GapsOf.l0, er]
    refine Ev.pos (by omega) (Ev.pos (by omega) (Ev.pos (by omega) (Ev.pos (by omega) ?_)))
    rw [wsucc i (by omega)]
    refine (gapsI_loop rs hl rest (i + 1) (acc ++ [b.f0]) h3 (by omega) (by simp; omega)).to ?_
    simp
theorem gaps_ev (h : Int) (fx : List Int) (hf : fx.length ≤ 1048576) (bx : List S71) : Ev (fun k => impl_GapsOf.f k h fx bx) (gapsP h fx bx) := by
  unfold impl_GapsOf.f gapsP
  refine Ev.bind (Ev.const rfl) ?_
  by_cases c : colP h fx bx = true
  · have v := (colP_iff h fx bx).mp c
    rw [if_pos c]
    refine Ev.pos c ?_
    refine Ev.bind (runs_ev h fx hf bx v.len (fun b hb => by have := v.mem hb; omega)) ?_
    have hl : ((decs fx [] [] bx).map toRun).length ≤ 24 := by
      have h1 := gapsB_len fx bx
      have h2 := congrArg List.length (decs_gaps fx bx [] [])
      have h3 := v.len
      rw [List.length_map] at h2 ⊢
      unfold gapsB at h1
      omega
    refine (gapsI_loop _ hl _ 0 [] rfl (by omega) (by simp)).to ?_
    rw [List.nil_append, List.drop_zero, List.map_map]
    exact decs_gaps fx bx [] []
  · rw [if_neg c]
    exact Ev.neg c (Ev.ret _)
theorem open_eq (a b c : Int) (d : Bool) : spec_l02Open.f a b c d = some (opB ⟨a, b, c, d⟩) := by
  unfold spec_l02Open.f opB
  dsimp only
  by_cases h : c = 0
  · rw [if_pos h, decide_eq_true h, Bool.true_and]
  · rw [if_neg h, decide_eq_false h, Bool.false_and]
theorem gapsS_loop (h : Int) (fx : List Int) (hf : fx.length ≤ 1048576) (bx : List S71) (hl : bx.length ≤ 24) (hm : ∀ b ∈ bx, 1 ≤ b.f1 ∧ b.f1 ≤ 24) :
    ∀ (rest : List S71) (i : Nat) (cur : List S71) (done : List S54), bx.drop i = rest → i ≤ bx.length → done.length ≤ i → 0 ≤ sumB cur → sumB cur ≤ 24 * (i : Int) → (cur ≠ [] ↔ 0 < i ∧ opB (bx.getD (i - 1) z71) = true) →
    Ev (fun k => spec_GapsOf.l0 k (done ++ emR cur) (i : Int) h fx bx) (done ++ gapsW fx cur rest)
  | [], i, cur, done, hd, hi, hn, s0, s1, hc => by
    have he := drop_end hd hi
    refine Ev.succ ?_
    simp only [spec_GapsOf.l0, gapsW]
    exact Ev.neg (by omega) (Ev.ret _)
  | b :: rest, i, cur, done, hd, hi, hn, s0, s1, hc => by
    obtain ⟨h1, h2, h3⟩ := drop_step z71 hd
    have er : rd_T71 bx (i : Int) = b := h2
    have hb : b ∈ bx := by rw [← h2, getD_gen _ h1]; exact List.getElem_mem _
    have hbb := hm b hb
    have eb : (S71.mk b.f0 b.f1 b.f2 b.f3) = b := rfl
    have hl1 : (emR cur).length ≤ 1 := by unfold emR; split <;> simp
    refine Ev.succ ?_
    simp only [spec_GapsOf.l0, er, gapsW]
    rw [wsucc i (by omega)]
    refine Ev.pos (by omega) (Ev.pos (by omega) ?_)
    refine Ev.bind (Ev.const (open_eq _ _ _ _)) ?_
    rw [eb]
    have nxt : opB (bx.getD (i + 1 - 1) z71) = opB b := by rw [Nat.add_sub_cancel, h2]
    cases hob : opB b with
    | false =>
      refine Ev.neg (by simp) ?_
      rw [if_neg (by simp), ← List.append_assoc]
      have ih := gapsS_loop h fx hf bx hl hm rest (i + 1) [] (done ++ emR cur) h3 (by omega) (by simp; omega) (by rw [sumB_nil]; omega) (by rw [sumB_nil]; omega) ⟨fun c => absurd rfl c, fun c => by rw [nxt, hob] at c; simp at c⟩
      have e0 : emR [] = [] := rfl
      rw [e0, List.append_nil] at ih
      exact ih
    | true =>
      refine Ev.pos (by trivial) ?_
      rw [if_pos rfl]
      have sb : sumB [b] = b.f1 := by rw [sumB_cons, sumB_nil]; omega
      have new : (cur ≠ [] → b.f0 ∈ fx) → Ev (fun k => if (done ++ emR cur).length < 5864062014805 then spec_GapsOf.l0 k (done ++ emR cur ++ [⟨0, b.f0, b.f1⟩]) ((i + 1 : Nat) : Int) h fx bx else none) (done ++ (if cur ≠ [] ∧ b.f0 ∉ fx then gapsW fx (cur ++ [b]) rest else emR cur ++ gapsW fx [b] rest)) := by
        intro hcf
        rw [if_neg (fun e => e.2 (hcf e.1)), ← List.append_assoc]
        have ih := gapsS_loop h fx hf bx hl hm rest (i + 1) [b] (done ++ emR cur) h3 (by omega) (by simp; omega) (by rw [sb]; omega) (by rw [sb]; omega) ⟨fun _ => ⟨by omega, by rw [nxt, hob]⟩, fun _ => by simp⟩
        refine Ev.pos (by simp; omega) (Ev.of_eq ih (fun k => ?_))
        have e : emR [b] = [⟨0, b.f0, b.f1⟩] := by
          unfold emR
          rw [if_neg (by simp)]
          show [(S54.mk 0 b.f0 (sumB [b]))] = _
          rw [sb]
        rw [e]
      by_cases hcur : cur = []
      · have hno : ¬ (0 < i ∧ opB (bx.getD (i - 1) z71) = true) := fun c => hc.mpr c hcur
        by_cases ci : (i : Int) > 0
        · refine Ev.pos ci ?_
          rw [wpred i (by omega) (by omega)]
          have er2 : rd_T71 bx ((i - 1 : Nat) : Int) = bx.getD (i - 1) z71 := rfl
          refine Ev.pos (by omega) (Ev.pos (by omega) (Ev.bind (Ev.const (open_eq _ _ _ _)) ?_))
          rw [er2]
          refine Ev.neg (fun c => hno ⟨by omega, c⟩) ?_
          exact new (fun c => absurd hcur c)
        · refine Ev.neg ci ?_
          exact new (fun c => absurd hcur c)
      · obtain ⟨ci, co⟩ := hc.mp hcur
        refine Ev.pos (by omega) ?_
        rw [wpred i (by omega) (by omega)]
        have er2 : rd_T71 bx ((i - 1 : Nat) : Int) = bx.getD (i - 1) z71 := rfl
        refine Ev.pos (by omega) (Ev.pos (by omega) (Ev.bind (Ev.const (open_eq _ _ _ _)) ?_))
        rw [er2]
        refine Ev.pos co ?_
        refine Ev.bind (has_ev fx hf b.f0) ?_
        by_cases hfx : b.f0 ∈ fx
        · refine Ev.pos (decide_eq_true hfx) ?_
          exact new (fun _ => hfx)
        · refine Ev.neg (by simpa using hfx) ?_
          rw [if_pos ⟨hcur, hfx⟩]
          have eT : emR cur = [gapR cur] := by unfold emR; rw [if_neg hcur]
          have ih := gapsS_loop h fx hf bx hl hm rest (i + 1) (cur ++ [b]) done h3 (by omega) (by omega) (by rw [sumB_app, sb]; omega) (by rw [sumB_app, sb]; omega) ⟨fun _ => ⟨by omega, by rw [nxt, hob]⟩, fun _ => by simp⟩
          have eT2 : emR (cur ++ [b]) = [⟨(gapR cur).f0, (gapR cur).f1, (gapR cur).f2 + b.f1⟩] := by
            unfold emR
            rw [if_neg (by simp), gapR_snoc hcur]
          rw [eT2] at ih
          rw [eT]
          have hg : (gapR cur).f2 = sumB cur := by cases cur with | nil => exact absurd rfl hcur | cons x cur => rfl
          have hw : wrap64 (((done ++ [gapR cur]).length : Int) - 1) = (done.length : Int) := by
            simp; unfold wrap64; omega
          rw [hw]
          have hrd : ∀ v : S54, rd_T54 (done ++ [v]) (done.length : Int) = v := fun v => getD_end done v _
          refine Ev.pos (by omega) (Ev.pos (by simp; omega) ?_)
          simp only [hrd, Int.toNat_natCast, set_end]
          rw [wid ((gapR cur).f2 + b.f1) (by omega) (by omega)]
          exact ih
theorem gapsS_ev (h : Int) (fx : List Int) (hf : fx.length ≤ 1048576) (bx : List S71) (hb : bx.length ≤ 1048576) : Ev (fun k => spec_GapsOf.f k h fx bx) (gapsP h fx bx) := by
  unfold spec_GapsOf.f gapsP
  refine Ev.bind (Ev.ret _) (Ev.bind (colok_ev h fx (by omega) bx (by omega)) ?_)
  by_cases c : colP h fx bx = true
  · have v := (colP_iff h fx bx).mp c
    rw [if_pos c]
    refine Ev.pos c ?_
    exact gapsS_loop h fx hf bx v.len (fun b hb => by have := v.mem hb; omega) bx 0 [] [] rfl (by omega) (by simp) (by rw [sumB_nil]; omega) (by rw [sumB_nil]; omega) ⟨fun c => absurd rfl c, fun c => absurd c.1 (by omega)⟩
  · rw [if_neg c]
    exact Ev.neg c (Ev.ret _)
end Go.Proofs.Ytghfeapncmlihaa.A

namespace Go.Proofs.Ytghfeapncmlihaa.A
open Go.RowKit Go.Proofs.YtghfeapncmlihaaW.PrintWords Go.Proofs.YtghfeapncmlihaaW.PrintLast Go.Proofs.YtghfeapncmlihaaW.PrintMore
set_option linter.unusedVariables false
set_option linter.unusedSimpArgs false
theorem eqGapS_ev (l : List S54) (hl : l.length ≤ 1048576) : Ev (fun k => laws_eqGapS.f k l l) true := Ev.mk l.length (fun k hk => by
  unfold laws_eqGapS.f
  rw [if_pos rfl]
  have h := all_loop (L := fun k i => laws_eqGapS.l0 k l l i) (n := l.length) (P := fun _ => true) (fun k i hi => ?_) (fun k => ?_) l.length k 0 (by omega) hk
  · have e : (List.range' 0 l.length).all (fun _ => true) = true := by simp
    rw [e] at h
    exact h
  · simp only [laws_eqGapS.l0]
    rw [if_pos (by omega), if_pos (by omega), if_pos (by omega)]
    simp only [laws_eqGap.f, if_true, Option.bind_some]
    rw [wsucc i (by omega)]
  · simp only [laws_eqGapS.l0]
    rw [if_neg (by omega)])
theorem rdG_set {l : List S54} {i : Nat} (h : i < l.length) (v : S54) : rd_T54 (l.set i v) (i : Int) = v := by
  show (l.set i v).getD i _ = v
  rw [List.getD_eq_getElem?_getD, List.getElem?_set_self h]
  rfl
def mkGap (x : Int) : S54 := ⟨x, x + 1, x + 2⟩
def mkG (a : Int) (n : Nat) : List S54 := (List.range n).map (fun (j : Nat) => mkGap (a + 3 * (j : Int)))
theorem mkG_len (a : Int) (n : Nat) : (mkG a n).length = n := by unfold mkG; simp
theorem markGapS_ev (l : List S54) (hl : l.length ≤ 1048576) (a : Int) (h0 : 0 ≤ a) (h1 : a ≤ 100000000) : Ev (fun k => laws_markGapS.f k l a) (a + 3 * l.length, mkG a l.length) := Ev.mk l.length (fun k hk => by
  unfold laws_markGapS.f
  have h := mark_loop (L := fun k acc x i => laws_markGapS.l0 k acc x i) (n := l.length) (g := fun j => mkGap (a + 3 * (j : Int))) (X := fun j => a + 3 * (j : Int)) (fun k acc i hi ha => ?_) (fun k acc ha => ?_) l.length k l 0 (by omega) hk rfl (fun j hj => by omega)
  · rw [show a + 3 * ((0 : Nat) : Int) = a by omega] at h
    exact h
  · simp only [laws_markGapS.l0]
    generalize hx : a + 3 * (i : Int) = x
    rw [if_pos (by omega), if_pos (by omega)]
    simp only [Option.bind_some, Int.toNat_natCast]
    rw [wid (x + 1) (by omega) (by omega), wid (x + 1 + 1) (by omega) (by omega), wid (x + 1 + 1 + 1) (by omega) (by omega), wsucc i (by omega)]
    have s1 : i < acc.length := by omega
    simp only [rdG_set s1, List.set_set]
    rw [show x + 1 + 1 + 1 = a + 3 * ((i + 1 : Nat) : Int) by omega, show x + 1 + 1 = x + 2 by omega]
    rfl
  · simp only [laws_markGapS.l0]
    rw [if_neg (by omega)])
theorem heldGapS_ev (n : Nat) (hn : n ≤ 1048576) (a : Int) (h0 : 0 ≤ a) (h1 : a ≤ 100000000) : Ev (fun k => laws_heldGapS.f k (mkG a n) a) (a + 3 * n) := Ev.mk n (fun k hk => by
  unfold laws_heldGapS.f
  have hl := mkG_len a n
  have h := held_loop (L := fun k x i => laws_heldGapS.l0 k (mkG a n) x i) (n := n) (X := fun j => a + 3 * (j : Int)) (fun k i hi => ?_) (fun k => ?_) n k 0 (by omega) hk
  · rw [show a + 3 * ((0 : Nat) : Int) = a by omega] at h
    exact h
  · simp only [laws_heldGapS.l0]
    have e : rd_T54 (mkG a n) (i : Int) = mkGap (a + 3 * (i : Int)) := getD_range n _ _ i hi
    generalize hx : a + 3 * (i : Int) = x at e ⊢
    rw [if_pos (by omega), if_pos (by omega), e]
    rw [wid (x + 1) (by omega) (by omega), wid (x + 1 + 1) (by omega) (by omega), wid (x + 1 + 1 + 1) (by omega) (by omega), wsucc i (by omega)]
    rw [show x + 1 + 1 + 1 = a + 3 * ((i + 1 : Nat) : Int) by omega, show x + 1 + 1 = x + 2 by omega]
    simp only [mkGap, if_true]
  · simp only [laws_heldGapS.l0]
    rw [if_neg (by omega)])
end Go.Proofs.Ytghfeapncmlihaa.A

namespace Go.Proofs.Ytghfeapncmlihaa.A
open Go.RowKit Go.Proofs.YtghfeapncmlihaaW.PrintWords Go.Proofs.YtghfeapncmlihaaW.PrintLast Go.Proofs.YtghfeapncmlihaaW.PrintMore
set_option linter.unusedVariables false
set_option linter.unusedSimpArgs false
theorem pureFnExactGapsOf : ∀ (a0 : S25), ok25 a0 → ∃ k, laws_FnExactGapsOf.f k a0.f0 a0.f1 a0.f2 = some true := by
  rintro ⟨h, fx, bx⟩ ⟨_, ⟨hf, _⟩, ⟨hb, _⟩⟩
  dsimp only at hf hb ⊢
  unfold maxLen at hf hb
  refine Ev.get ?_
  unfold laws_FnExactGapsOf.f
  refine Ev.bind (Ev.const (szColumn_eq h fx bx 1048576 (by omega) (by omega) (by omega) (by omega))) ?_
  by_cases c : (1048576 : Int) < fx.length + bx.length
  · rw [if_pos c]
    exact Ev.pos (by omega) (Ev.ret _)
  · rw [if_neg c]
    have hl : (bx.map toI_Box).length = bx.length := List.length_map _
    have hT := toColumn_ev h fx bx (by omega) (by omega)
    generalize hy : bx.map toI_Box = y at hl hT
    have hEy := eqColumn_ev h fx y (by omega) (by omega)
    have hS := gapsS_ev h fx (by omega) y (by omega)
    have hI := gaps_ev h fx (by omega) y
    have hr := gapsP_len h fx y
    generalize gapsP h fx y = z at hS hI hr
    have hE := eqGapS_ev z (by omega)
    have hM := markGapS_ev z (by omega) 1 (by omega) (by omega)
    have hH := heldGapS_ev z.length (by omega) 1 (by omega) (by omega)
    refine Ev.neg (by omega) ?_
    refine Ev.bind hT (Ev.bind hS (Ev.bind hT (Ev.bind hI (Ev.bind hE (Ev.pos (by trivial) ?_)))))
    refine Ev.bind hT (Ev.bind hEy (Ev.pos (by trivial) ?_))
    refine Ev.bind (markColumn_ev h fx y (by omega) (by omega) 1 (by omega) (by omega)) ?_
    dsimp only
    refine Ev.neg (by omega) (Ev.bind hE ?_)
    refine Ev.succ ?_
    simp only [laws_FnExactGapsOf.j0]
    refine Ev.neg (by simp) ?_
    refine Ev.bind hM (Ev.bind hH ?_)
    dsimp only
    refine Ev.neg (by omega) (Ev.pos (by trivial) ?_)
    refine Ev.bind hT (Ev.bind hI (Ev.bind hE (Ev.pos (by trivial) ?_)))
    exact Ev.bind hH (Ev.neg (by omega) (Ev.pos (by trivial) (Ev.ret _)))
end Go.Proofs.Ytghfeapncmlihaa.A
