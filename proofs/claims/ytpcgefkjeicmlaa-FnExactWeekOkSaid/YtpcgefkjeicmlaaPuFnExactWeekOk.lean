/- The pure statement of the law FnExactWeekOk: its function answers true for all arguments that can be read; no further condition. -/
import Derived.Test.YtpcgefkjeicmlaaAx4
import Derived.Test.YtpcgefkjeicmlaaOp
namespace Go.Proofs.Ytpcgefkjeicmlaa.A
open Go.RowKit Go.Proofs.YtpcgefkjeicmlaaW.PrintWords Go.Proofs.YtpcgefkjeicmlaaW.PrintLast Go.Proofs.YtpcgefkjeicmlaaW.PrintMore
set_option linter.unusedVariables false
set_option linter.unusedSimpArgs false

theorem getD_at_ {α : Type} {l : List α} {i : Nat} (d : α) (h : i < l.length) : l.getD i d = l[i] := by
  rw [List.getD_eq_getElem?_getD, List.getElem?_eq_getElem h]; rfl
theorem wsucc (i : Nat) (h : i < 9223372036854775807) : wrap64 ((i : Int) + 1) = ((i + 1 : Nat) : Int) := by unfold wrap64; omega
theorem wpred (i : Nat) (h : 0 < i) (h2 : i ≤ 9223372036854775807) : wrap64 ((i : Int) - 1) = ((i - 1 : Nat) : Int) := by unfold wrap64; omega
theorem wid (x : Int) (h : -9223372036854775808 ≤ x) (h2 : x ≤ 9223372036854775807) : wrap64 x = x := by unfold wrap64; omega
/-- A loop over the indices below n that stops at the first one without the property. -/
theorem all_loop {L : Nat → Int → Option Bool} {n : Nat} {P : Nat → Bool} (h : ∀ k i, i < n → L (k + 1) (i : Int) = if P i = true then L k ((i + 1 : Nat) : Int) else some false)
    (he : ∀ k, L (k + 1) (n : Int) = some true) (d : Nat) : ∀ k i, i + d = n → d < k → L k (i : Int) = some ((List.range' i d).all P) := by
  induction d with
  | zero =>
    intro k i hi hk
    obtain ⟨k, rfl⟩ : ∃ m, k = m + 1 := ⟨k - 1, by omega⟩
    obtain rfl : i = n := by omega
    rw [he]; rfl
  | succ d ih =>
    intro k i hi hk
    obtain ⟨k, rfl⟩ : ∃ m, k = m + 1 := ⟨k - 1, by omega⟩
    rw [h k i (by omega), List.range'_succ, List.all_cons]
    by_cases hp : P i = true
    · rw [if_pos hp, ih k (i + 1) (by omega) (by omega), hp, Bool.true_and]
    · rw [if_neg hp]
      have : P i = false := by simpa using hp
      rw [this, Bool.false_and]
/-- A loop over the indices below n that changes a state, an invariant at hand. -/
theorem fold_loop {σ ρ : Type} {L : Nat → σ → Int → Option ρ} {n : Nat} {step : Nat → σ → σ} {fin : σ → Option ρ} {I : Nat → σ → Prop}
    (h : ∀ k s i, i < n → I i s → L (k + 1) s (i : Int) = L k (step i s) ((i + 1 : Nat) : Int) ∧ I (i + 1) (step i s)) (he : ∀ k s, I n s → L (k + 1) s (n : Int) = fin s) (d : Nat) :
    ∀ k s i, i + d = n → d < k → I i s → L k s (i : Int) = fin ((List.range' i d).foldl (fun s j => step j s) s) := by
  induction d with
  | zero =>
    intro k s i hi hk hI
    obtain ⟨k, rfl⟩ : ∃ m, k = m + 1 := ⟨k - 1, by omega⟩
    obtain rfl : i = n := by omega
    rw [he k s hI]; rfl
  | succ d ih =>
    intro k s i hi hk hI
    obtain ⟨k, rfl⟩ : ∃ m, k = m + 1 := ⟨k - 1, by omega⟩
    obtain ⟨h1, h2⟩ := h k s i (by omega) hI
    rw [h1, ih k (step i s) (i + 1) (by omega) (by omega) h2, List.range'_succ, List.foldl_cons]
/-- A loop that fills a list of the right length, element by element. -/
theorem map_loop {α β : Type} {L : Nat → List β → Int → Option (List β)} {xs : List α} {g : α → β} (d0 : α)
    (h : ∀ k acc (i : Nat), i < xs.length → acc.length = xs.length → L (k + 1) acc (i : Int) = L k (acc.set i (g (xs.getD i d0))) ((i + 1 : Nat) : Int))
    (he : ∀ k acc, L (k + 1) acc (xs.length : Int) = some acc) (d : Nat) :
    ∀ k acc i, i + d = xs.length → d < k → acc.length = xs.length → (∀ j, j < i → acc[j]? = (xs.map g)[j]?) → L k acc (i : Int) = some (xs.map g) := by
  induction d with
  | zero =>
    intro k acc i hi hk hl hp
    obtain ⟨k, rfl⟩ : ∃ m, k = m + 1 := ⟨k - 1, by omega⟩
    obtain rfl : i = xs.length := by omega
    rw [he]
    congr 1
    apply List.ext_getElem?
    intro j
    by_cases hj : j < xs.length
    · exact hp j hj
    · rw [List.getElem?_eq_none (by omega), List.getElem?_eq_none (by simp; omega)]
  | succ d ih =>
    intro k acc i hi hk hl hp
    obtain ⟨k, rfl⟩ : ∃ m, k = m + 1 := ⟨k - 1, by omega⟩
    rw [h k acc i (by omega) hl]
    refine ih k _ (i + 1) (by omega) (by omega) (by simp [hl]) (fun j hj => ?_)
    by_cases e : i = j
    · subst e
      rw [List.getElem?_set_self (by omega), List.getElem?_map, List.getElem?_eq_getElem (show i < xs.length by omega), List.getD_eq_getElem?_getD, List.getElem?_eq_getElem (show i < xs.length by omega)]
      rfl
    · rw [List.getElem?_set_ne e]
      exact hp j (by omega)
theorem all_range {α : Type} (xs : List α) (d0 : α) (P : α → Bool) : (List.range' 0 xs.length).all (fun i => P (xs.getD i d0)) = xs.all P := by
  rw [Bool.eq_iff_iff, List.all_eq_true, List.all_eq_true]
  constructor
  · intro h x hx
    obtain ⟨i, hi, rfl⟩ := List.getElem_of_mem hx
    have := h i (by simp [List.mem_range'_1]; omega)
    rwa [getD_at_ _ hi] at this
  · intro h i hi
    simp [List.mem_range'_1] at hi
    rw [getD_at_ _ hi]
    exact h _ (List.getElem_mem _)

def toI_Span (x : S57) : S55 := ⟨x.f0, x.f1⟩
theorem toSpanS_eq (l : List S57) (hl : l.length ≤ 1048576) (k : Nat) (hk : l.length < k) : laws_toSpanS.f k l = some (l.map toI_Span) := by
  unfold laws_toSpanS.f
  rw [if_pos (by omega), if_pos (by omega)]
  refine map_loop (L := fun k acc i => laws_toSpanS.l0 k l acc i) z57 (fun k acc i hi ha => ?_) (fun k acc => ?_) l.length k _ 0 (by omega) hk (by simp) (fun j hj => by omega)
  · simp only [laws_toSpanS.l0]
    rw [if_pos (by omega), if_pos (by omega)]
    simp only [laws_toSpan.f, Option.bind_some]
    rw [if_pos (by omega), wsucc i (by omega)]
    rfl
  · simp only [laws_toSpanS.l0]
    rw [if_neg (by omega)]
theorem eqSpanS_self (l : List S55) (hl : l.length ≤ 1048576) (k : Nat) (hk : l.length < k) : laws_eqSpanS.f k l l = some true := by
  unfold laws_eqSpanS.f
  rw [if_pos rfl]
  have h := all_loop (L := fun k i => laws_eqSpanS.l0 k l l i) (n := l.length) (P := fun _ => true) (fun k i hi => ?_) (fun k => ?_) l.length k 0 (by omega) hk
  · have e : (List.range' 0 l.length).all (fun _ => true) = true := by simp
    rw [e] at h
    exact h
  · simp only [laws_eqSpanS.l0]
    rw [if_pos (by omega), if_pos (by omega), if_pos (by omega)]
    simp only [laws_eqSpan.f, if_true, Option.bind_some]
    rw [wsucc i (by omega)]
  · simp only [laws_eqSpanS.l0]
    rw [if_neg (by omega)]

theorem spans_same (l : List S55) (m : Int) : ∀ k i, impl_SpansOk.l0 k l m l (l.length : Int) i = spec_SpansOk.l0 k l m i
  | 0, i => rfl
  | k + 1, i => by
    simp only [impl_SpansOk.l0, spec_SpansOk.l0, spans_same l m k]
    by_cases h : i < (l.length : Int)
    · simp only [if_pos h]
    · simp only [if_neg h]
theorem spans_some (l : List S55) (hl : l.length ≤ 20) (m : Int) (d : Nat) : ∀ (k i : Nat), i + d = l.length → d < k → ∃ r, spec_SpansOk.l0 k l m (i : Int) = some r := by
  induction d with
  | zero =>
    intro k i hi hk
    obtain ⟨k, rfl⟩ : ∃ m, k = m + 1 := ⟨k - 1, by omega⟩
    simp only [spec_SpansOk.l0]
    rw [if_neg (by omega)]
    exact ⟨_, rfl⟩
  | succ d ih =>
    intro k i hi hk
    obtain ⟨k, rfl⟩ : ∃ m, k = m + 1 := ⟨k - 1, by omega⟩
    simp only [spec_SpansOk.l0]
    rw [if_pos (by omega), if_pos (by omega)]
    split
    · exact ⟨_, rfl⟩
    · split
      · exact ⟨_, rfl⟩
      · split
        · exact ⟨_, rfl⟩
        · rw [wsucc i (by omega)]
          by_cases h0 : (i : Int) > 0
          · rw [if_pos h0, wpred i (by omega) (by omega), if_pos (by omega), if_pos (by omega)]
            split
            · exact ⟨_, rfl⟩
            · exact ih k (i + 1) (by omega) (by omega)
          · rw [if_neg h0]
            exact ih k (i + 1) (by omega) (by omega)
/-- Both tell the same of spans. -/
theorem spansok_both (l : List S55) (m : Int) (k : Nat) (hk : 21 < k) : ∃ r, spec_SpansOk.f k l m = some r ∧ impl_SpansOk.f k l m = some r := by
  unfold spec_SpansOk.f impl_SpansOk.f
  by_cases h : (l.length : Int) > 20
  · rw [if_pos h, if_pos h]; exact ⟨_, rfl, rfl⟩
  · rw [if_neg h, if_neg h, spans_same]
    obtain ⟨r, hr⟩ := spans_some l (by omega) m l.length k 0 (by omega) (by omega)
    exact ⟨r, hr, hr⟩

/-- Both tell the same of a week; one that is right has few spans. -/
theorem weekok_both (a b : List S55) (k : Nat) (hk : 21 < k) : ∃ r, spec_WeekOk.f k a b = some r ∧ impl_WeekOk.f k a b = some r ∧ (r = true → a.length ≤ 20 ∧ b.length ≤ 20) := by
  obtain ⟨r1, s1, i1⟩ := spansok_both a 168 k hk
  obtain ⟨r2, s2, i2⟩ := spansok_both b 20000 k hk
  have short : ∀ (l : List S55) m, spec_SpansOk.f k l m = some true → l.length ≤ 20 := by
    intro l m h
    unfold spec_SpansOk.f at h
    by_cases c : (l.length : Int) > 20
    · rw [if_pos c] at h; simp at h
    · omega
  unfold spec_WeekOk.f impl_WeekOk.f
  rw [s1, i1]
  simp only [Option.bind_some]
  cases r1
  · exact ⟨false, rfl, rfl, by simp⟩
  · rw [s2, i2]
    exact ⟨r2, rfl, rfl, fun e => ⟨short _ _ s1, short _ _ (by rw [s2, e])⟩⟩

theorem toWeek_eq (a b : List S57) (ha : a.length ≤ 1048576) (hb : b.length ≤ 1048576) (k : Nat) (hk : 1048580 < k) : laws_toWeek.f k a b = some (a.map toI_Span, b.map toI_Span) := by
  unfold laws_toWeek.f
  rw [toSpanS_eq a ha k (by omega), toSpanS_eq b hb k (by omega)]
  rfl
theorem eqWeek_self (a b : List S55) (ha : a.length ≤ 1048576) (hb : b.length ≤ 1048576) (k : Nat) (hk : 1048580 < k) : laws_eqWeek.f k a b a b = some true := by
  unfold laws_eqWeek.f
  rw [eqSpanS_self a ha k (by omega), eqSpanS_self b hb k (by omega)]
  rfl
theorem szWeek_eq (a b : List S57) (ha : a.length ≤ maxLen) (hb : b.length ≤ maxLen) : ∃ v, laws_szWeek.f a b 1048576 = some v ∧ (v < 0 ∨ (¬ v < 0 ∧ a.length ≤ 1048576 ∧ b.length ≤ 1048576)) := by
  unfold maxLen at ha hb
  unfold laws_szWeek.f laws_szSpanS.f
  rw [wid (1048576 - (a.length : Int)) (by omega) (by omega)]
  by_cases c : (1048576 : Int) - (a.length : Int) < 0
  · rw [if_pos c]
    exact ⟨-1, rfl, Or.inl (by omega)⟩
  · rw [if_neg c]
    simp only [Option.bind_some]
    rw [if_neg c, wid (1048576 - (a.length : Int) - (b.length : Int)) (by omega) (by omega)]
    by_cases c2 : (1048576 : Int) - (a.length : Int) - (b.length : Int) < 0
    · rw [if_pos c2]
      exact ⟨-1, rfl, Or.inl (by omega)⟩
    · rw [if_neg c2]
      simp only [Option.bind_some]
      rw [if_neg c2]
      exact ⟨_, rfl, Or.inr ⟨c2, by omega, by omega⟩⟩

theorem pureFnExactWeekOk : ∀ (a0 : S24), ok24 a0 → ∃ k, laws_FnExactWeekOk.f k a0.f0 a0.f1 = some true := by
  rintro ⟨a, b⟩ ⟨⟨ha, _⟩, hb, _⟩
  refine ⟨1048600, ?_⟩
  unfold laws_FnExactWeekOk.f
  obtain ⟨v, e, h⟩ := szWeek_eq a b ha hb
  rw [e]
  simp only [Option.bind_some]
  rcases h with h | ⟨h, la, lb⟩
  · rw [if_pos h]
  · rw [if_neg h, toWeek_eq a b la lb _ (by omega)]
    obtain ⟨r, h1, h2, _⟩ := weekok_both (a.map toI_Span) (b.map toI_Span) 1048600 (by omega)
    simp only [Option.bind_some, h1, h2]
    rw [eqWeek_self _ _ (by rw [List.length_map]; omega) (by rw [List.length_map]; omega) _ (by omega)]
    simp

end Go.Proofs.Ytpcgefkjeicmlaa.A
