/- The pure statement of the law FnExactOpenHours: its function answers true for all arguments that can be read; no further condition. -/
import Derived.Test.YtpcgefkjeicmlaaAx12
import Derived.Test.YtpcgefkjeicmlaaOp
namespace Go.Proofs.Ytpcgefkjeicmlaa.A
open Go.RowKit Go.Proofs.YtpcgefkjeicmlaaW.PrintWords Go.Proofs.YtpcgefkjeicmlaaW.PrintLast Go.Proofs.YtpcgefkjeicmlaaW.PrintMore
set_option linter.unusedVariables false
set_option linter.unusedSimpArgs false

theorem getD_at_ {α : Type} {l : List α} {i : Nat} (d : α) (h : i < l.length) : l.getD i d = l[i] := by
  rw [List.getD_eq_getElem?_getD, List.getElem?_eq_getElem h]; rfl
theorem wsucc (i : Nat) (h : i < 9223372036854775807) : wrap64 ((i : Int) + 1) = ((i + 1 : Nat) : Int) := by unfold wrap64; omega
theorem wpred (i : Nat) (h : 0 < i) (h2 : i ≤ 9223372036854775807) : wrap64 ((i : Int) - 1) = ((i - 1 : Nat) : Int) := by unfold wrap64; omega
theorem wid (x : Int) (h : -9223372036854775808 ≤ x) (h2 : x ≤ 9223372036854775807) : wrap64 x = x := by unfold wrap64; omega
/-- A loop over the indices below n that stops at the first one without the property. -/
theorem all_loop {L : Nat → Int → Option Bool} {n : Nat} {P : Nat → Bool} (h : ∀ k i, i < n → L (k + 1) (i : Int) = if P i = true then L k ((i + 1 : Nat) : Int) else some false)
    (he : ∀ k, L (k + 1) (n : Int) = some true) (d : Nat) : ∀ k i, i + d = n → d < k → L k (i : Int) = some ((List.range' i d).all P) := by
  induction d with
  | zero =>
    intro k i hi hk
    obtain ⟨k, rfl⟩ : ∃ m, k = m + 1 := ⟨k - 1, by omega⟩
    obtain rfl : i = n := by omega
    rw [he]; rfl
  | succ d ih =>
    intro k i hi hk
    obtain ⟨k, rfl⟩ : ∃ m, k = m + 1 := ⟨k - 1, by omega⟩
    rw [h k i (by omega), List.range'_succ, List.all_cons]
    by_cases hp : P i = true
    · rw [if_pos hp, ih k (i + 1) (by omega) (by omega), hp, Bool.true_and]
    · rw [if_neg hp]
      have : P i = false := by simpa using hp
      rw [this, Bool.false_and]
/-- A loop over the indices below n that changes a state, an invariant at hand. -/
theorem fold_loop {σ ρ : Type} {L : Nat → σ → Int → Option ρ} {n : Nat} {step : Nat → σ → σ} {fin : σ → Option ρ} {I : Nat → σ → Prop}
    (h : ∀ k s i, i < n → I i s → L (k + 1) s (i : Int) = L k (step i s) ((i + 1 : Nat) : Int) ∧ I (i + 1) (step i s)) (he : ∀ k s, I n s → L (k + 1) s (n : Int) = fin s) (d : Nat) :
    ∀ k s i, i + d = n → d < k → I i s → L k s (i : Int) = fin ((List.range' i d).foldl (fun s j => step j s) s) := by
  induction d with
  | zero =>
    intro k s i hi hk hI
    obtain ⟨k, rfl⟩ : ∃ m, k = m + 1 := ⟨k - 1, by omega⟩
    obtain rfl : i = n := by omega
    rw [he k s hI]; rfl
  | succ d ih =>
    intro k s i hi hk hI
    obtain ⟨k, rfl⟩ : ∃ m, k = m + 1 := ⟨k - 1, by omega⟩
    obtain ⟨h1, h2⟩ := h k s i (by omega) hI
    rw [h1, ih k (step i s) (i + 1) (by omega) (by omega) h2, List.range'_succ, List.foldl_cons]
/-- A loop that fills a list of the right length, element by element. -/
theorem map_loop {α β : Type} {L : Nat → List β → Int → Option (List β)} {xs : List α} {g : α → β} (d0 : α)
    (h : ∀ k acc (i : Nat), i < xs.length → acc.length = xs.length → L (k + 1) acc (i : Int) = L k (acc.set i (g (xs.getD i d0))) ((i + 1 : Nat) : Int))
    (he : ∀ k acc, L (k + 1) acc (xs.length : Int) = some acc) (d : Nat) :
    ∀ k acc i, i + d = xs.length → d < k → acc.length = xs.length → (∀ j, j < i → acc[j]? = (xs.map g)[j]?) → L k acc (i : Int) = some (xs.map g) := by
  induction d with
  | zero =>
    intro k acc i hi hk hl hp
    obtain ⟨k, rfl⟩ : ∃ m, k = m + 1 := ⟨k - 1, by omega⟩
    obtain rfl : i = xs.length := by omega
    rw [he]
    congr 1
    apply List.ext_getElem?
    intro j
    by_cases hj : j < xs.length
    · exact hp j hj
    · rw [List.getElem?_eq_none (by omega), List.getElem?_eq_none (by simp; omega)]
  | succ d ih =>
    intro k acc i hi hk hl hp
    obtain ⟨k, rfl⟩ : ∃ m, k = m + 1 := ⟨k - 1, by omega⟩
    rw [h k acc i (by omega) hl]
    refine ih k _ (i + 1) (by omega) (by omega) (by simp [hl]) (fun j hj => ?_)
    by_cases e : i = j
    · subst e
      rw [List.getElem?_set_self (by omega), List.getElem?_map, List.getElem?_eq_getElem (show i < xs.length by omega), List.getD_eq_getElem?_getD, List.getElem?_eq_getElem (show i < xs.length by omega)]
      rfl
    · rw [List.getElem?_set_ne e]
      exact hp j (by omega)
theorem all_range {α : Type} (xs : List α) (d0 : α) (P : α → Bool) : (List.range' 0 xs.length).all (fun i => P (xs.getD i d0)) = xs.all P := by
  rw [Bool.eq_iff_iff, List.all_eq_true, List.all_eq_true]
  constructor
  · intro h x hx
    obtain ⟨i, hi, rfl⟩ := List.getElem_of_mem hx
    have := h i (by simp [List.mem_range'_1]; omega)
    rwa [getD_at_ _ hi] at this
  · intro h i hi
    simp [List.mem_range'_1] at hi
    rw [getD_at_ _ hi]
    exact h _ (List.getElem_mem _)

def toI_Span (x : S57) : S55 := ⟨x.f0, x.f1⟩
theorem toSpanS_eq (l : List S57) (hl : l.length ≤ 1048576) (k : Nat) (hk : l.length < k) : laws_toSpanS.f k l = some (l.map toI_Span) := by
  unfold laws_toSpanS.f
  rw [if_pos (by omega), if_pos (by omega)]
  refine map_loop (L := fun k acc i => laws_toSpanS.l0 k l acc i) z57 (fun k acc i hi ha => ?_) (fun k acc => ?_) l.length k _ 0 (by omega) hk (by simp) (fun j hj => by omega)
  · simp only [laws_toSpanS.l0]
    rw [if_pos (by omega), if_pos (by omega)]
    simp only [laws_toSpan.f, Option.bind_some]
    rw [if_pos (by omega), wsucc i (by omega)]
    rfl
  · simp only [laws_toSpanS.l0]
    rw [if_neg (by omega)]
theorem eqSpanS_self (l : List S55) (hl : l.length ≤ 1048576) (k : Nat) (hk : l.length < k) : laws_eqSpanS.f k l l = some true := by
  unfold laws_eqSpanS.f
  rw [if_pos rfl]
  have h := all_loop (L := fun k i => laws_eqSpanS.l0 k l l i) (n := l.length) (P := fun _ => true) (fun k i hi => ?_) (fun k => ?_) l.length k 0 (by omega) hk
  · have e : (List.range' 0 l.length).all (fun _ => true) = true := by simp
    rw [e] at h
    exact h
  · simp only [laws_eqSpanS.l0]
    rw [if_pos (by omega), if_pos (by omega), if_pos (by omega)]
    simp only [laws_eqSpan.f, if_true, Option.bind_some]
    rw [wsucc i (by omega)]
  · simp only [laws_eqSpanS.l0]
    rw [if_neg (by omega)]

theorem spans_same (l : List S55) (m : Int) : ∀ k i, impl_SpansOk.l0 k l m l (l.length : Int) i = spec_SpansOk.l0 k l m i
  | 0, i => rfl
  | k + 1, i => by
    simp only [impl_SpansOk.l0, spec_SpansOk.l0, spans_same l m k]
    by_cases h : i < (l.length : Int)
    · simp only [if_pos h]
    · simp only [if_neg h]
theorem spans_some (l : List S55) (hl : l.length ≤ 20) (m : Int) (d : Nat) : ∀ (k i : Nat), i + d = l.length → d < k → ∃ r, spec_SpansOk.l0 k l m (i : Int) = some r := by
  induction d with
  | zero =>
    intro k i hi hk
    obtain ⟨k, rfl⟩ : ∃ m, k = m + 1 := ⟨k - 1, by omega⟩
    simp only [spec_SpansOk.l0]
    rw [if_neg (by omega)]
    exact ⟨_, rfl⟩
  | succ d ih =>
    intro k i hi hk
    obtain ⟨k, rfl⟩ : ∃ m, k = m + 1 := ⟨k - 1, by omega⟩
    simp only [spec_SpansOk.l0]
    rw [if_pos (by omega), if_pos (by omega)]
    split
    · exact ⟨_, rfl⟩
    · split
      · exact ⟨_, rfl⟩
      · split
        · exact ⟨_, rfl⟩
        · rw [wsucc i (by omega)]
          by_cases h0 : (i : Int) > 0
          · rw [if_pos h0, wpred i (by omega) (by omega), if_pos (by omega), if_pos (by omega)]
            split
            · exact ⟨_, rfl⟩
            · exact ih k (i + 1) (by omega) (by omega)
          · rw [if_neg h0]
            exact ih k (i + 1) (by omega) (by omega)
/-- Both tell the same of spans. -/
theorem spansok_both (l : List S55) (m : Int) (k : Nat) (hk : 21 < k) : ∃ r, spec_SpansOk.f k l m = some r ∧ impl_SpansOk.f k l m = some r := by
  unfold spec_SpansOk.f impl_SpansOk.f
  by_cases h : (l.length : Int) > 20
  · rw [if_pos h, if_pos h]; exact ⟨_, rfl, rfl⟩
  · rw [if_neg h, if_neg h, spans_same]
    obtain ⟨r, hr⟩ := spans_some l (by omega) m l.length k 0 (by omega) (by omega)
    exact ⟨r, hr, hr⟩

theorem within_eq (a b c : Int) : impl_within.f a b c = some (decide (b ≤ a ∧ a ≤ c)) := by
  unfold impl_within.f
  split
  · congr 1; rw [decide_eq_decide]; omega
  · congr 1; exact (decide_eq_false (by omega)).symm
theorem in_eq (a b c : Int) : spec_l01In.f a b c = some (decide (b ≤ a ∧ a ≤ c)) := by
  unfold spec_l01In.f
  split
  · congr 1; rw [decide_eq_decide]; omega
  · congr 1; exact (decide_eq_false (by omega)).symm

/-- Both tell the same of a week; one that is right has few spans. -/
theorem weekok_both (a b : List S55) (k : Nat) (hk : 21 < k) : ∃ r, spec_WeekOk.f k a b = some r ∧ impl_WeekOk.f k a b = some r ∧ (r = true → a.length ≤ 20 ∧ b.length ≤ 20) := by
  obtain ⟨r1, s1, i1⟩ := spansok_both a 168 k hk
  obtain ⟨r2, s2, i2⟩ := spansok_both b 20000 k hk
  have short : ∀ (l : List S55) m, spec_SpansOk.f k l m = some true → l.length ≤ 20 := by
    intro l m h
    unfold spec_SpansOk.f at h
    by_cases c : (l.length : Int) > 20
    · rw [if_pos c] at h; simp at h
    · omega
  unfold spec_WeekOk.f impl_WeekOk.f
  rw [s1, i1]
  simp only [Option.bind_some]
  cases r1
  · exact ⟨false, rfl, rfl, by simp⟩
  · rw [s2, i2]
    exact ⟨r2, rfl, rfl, fun e => ⟨short _ _ s1, short _ _ (by rw [s2, e])⟩⟩

theorem any_loop {L : Nat → Int → Option Bool} {n : Nat} {P : Nat → Bool} (h : ∀ k i, i < n → L (k + 1) (i : Int) = if P i = true then some true else L k ((i + 1 : Nat) : Int))
    (he : ∀ k, L (k + 1) (n : Int) = some false) (d : Nat) : ∀ k i, i + d = n → d < k → L k (i : Int) = some ((List.range' i d).any P) := by
  induction d with
  | zero =>
    intro k i hi hk
    obtain ⟨k, rfl⟩ : ∃ m, k = m + 1 := ⟨k - 1, by omega⟩
    obtain rfl : i = n := by omega
    rw [he]; rfl
  | succ d ih =>
    intro k i hi hk
    obtain ⟨k, rfl⟩ : ∃ m, k = m + 1 := ⟨k - 1, by omega⟩
    rw [h k i (by omega), List.range'_succ, List.any_cons]
    by_cases hp : P i = true
    · rw [if_pos hp, hp, Bool.true_or]
    · rw [if_neg hp, ih k (i + 1) (by omega) (by omega)]
      have : P i = false := by simpa using hp
      rw [this, Bool.false_or]
theorem any_range {α : Type} (xs : List α) (d0 : α) (P : α → Bool) : (List.range' 0 xs.length).any (fun i => P (xs.getD i d0)) = xs.any P := by
  have h := all_range xs d0 (fun x => !P x)
  rw [← Bool.not_inj_iff, List.not_any_eq_all_not, List.not_any_eq_all_not]
  exact h
/-- The hour lies in one of the spans. -/
def inS (l : List S55) (h : Int) : Bool := l.any (fun s => decide (s.f0 ≤ h ∧ h < s.f1))
def opn (a b : List S55) (h : Int) : Bool := inS a (Int.tmod h 168) && !inS b h
theorem inSpans_eq (l : List S55) (hl : l.length ≤ 20) (h : Int) (k : Nat) (hk : 20 < k) : impl_inSpans.f k l h = some (inS l h) := by
  unfold impl_inSpans.f
  have := any_loop (L := fun k i => impl_inSpans.l0 k h l (l.length : Int) i) (n := l.length) (P := fun i => decide ((l.getD i z55).f0 ≤ h ∧ h < (l.getD i z55).f1)) (fun k i hi => ?_) (fun k => ?_) l.length k 0 (by omega) (by omega)
  · rw [any_range l z55 (fun s => decide (s.f0 ≤ h ∧ h < s.f1))] at this
    exact this
  · simp only [impl_inSpans.l0]
    rw [if_pos (by omega), if_pos (by omega), if_pos (by omega), wsucc i (by omega)]
    show (if h ≥ (l.getD i z55).f0 then _ else _) = _
    by_cases c1 : (l.getD i z55).f0 ≤ h
    · rw [if_pos c1]
      show (if h < (l.getD i z55).f1 then _ else _) = _
      by_cases c2 : h < (l.getD i z55).f1
      · rw [if_pos c2, if_pos (decide_eq_true ⟨c1, c2⟩)]
      · rw [if_neg c2, if_neg (fun e => c2 (of_decide_eq_true e).2)]
    · rw [if_neg c1, if_neg (fun e => c1 (of_decide_eq_true e).1)]
  · simp only [impl_inSpans.l0]
    rw [if_neg (by omega)]
theorem l01Within_eq (l : List S55) (hl : l.length ≤ 20) (h : Int) (k : Nat) (hk : 20 < k) : spec_l01Within.f k l h = some (inS l h) := by
  unfold spec_l01Within.f
  have := any_loop (L := fun k i => spec_l01Within.l0 k l h i) (n := l.length) (P := fun i => decide ((l.getD i z55).f0 ≤ h ∧ h < (l.getD i z55).f1)) (fun k i hi => ?_) (fun k => ?_) l.length k 0 (by omega) (by omega)
  · rw [any_range l z55 (fun s => decide (s.f0 ≤ h ∧ h < s.f1))] at this
    exact this
  · simp only [spec_l01Within.l0]
    rw [if_pos (by omega), if_pos (by omega), wsucc i (by omega)]
    show (if (l.getD i z55).f0 ≤ h then _ else _) = _
    by_cases c1 : (l.getD i z55).f0 ≤ h
    · rw [if_pos c1]
      show (if h < (l.getD i z55).f1 then _ else _) = _
      by_cases c2 : h < (l.getD i z55).f1
      · rw [if_pos c2, if_pos (decide_eq_true ⟨c1, c2⟩)]
      · rw [if_neg c2, if_neg (fun e => c2 (of_decide_eq_true e).2)]
    · rw [if_neg c1, if_neg (fun e => c1 (of_decide_eq_true e).1)]
  · simp only [spec_l01Within.l0]
    rw [if_neg (by omega)]
theorem isOpen_eq (a b : List S55) (ha : a.length ≤ 20) (hb : b.length ≤ 20) (h : Int) (k : Nat) (hk : 20 < k) : impl_isOpen.f k a b h = some (opn a b h) := by
  unfold impl_isOpen.f opn
  rw [inSpans_eq a ha _ k hk, inSpans_eq b hb _ k hk]
  cases h1 : inS a (Int.tmod h 168) <;> simp [h1]
theorem l01Open_eq (a b : List S55) (ha : a.length ≤ 20) (hb : b.length ≤ 20) (h : Int) (k : Nat) (hk : 20 < k) : spec_l01Open.f k a b h = some (opn a b h) := by
  unfold spec_l01Open.f opn
  rw [l01Within_eq a ha _ k hk, l01Within_eq b hb _ k hk]
  cases h1 : inS a (Int.tmod h 168) <;> simp [h1]
/-- Open hours among the d from t on. -/
def cnt (g : Int → Bool) : Nat → Int → Int
  | 0, _ => 0
  | d + 1, t => (if g t = true then 1 else 0) + cnt g d (t + 1)
theorem cnt_nonneg (g : Int → Bool) : ∀ d t, 0 ≤ cnt g d t
  | 0, _ => Int.le_refl _
  | d + 1, t => by have := cnt_nonneg g d (t + 1); simp only [cnt]; split <;> omega
theorem cnt_le (g : Int → Bool) : ∀ d t, cnt g d t ≤ d
  | 0, _ => Int.le_refl _
  | d + 1, t => by have := cnt_le g d (t + 1); simp only [cnt]; split <;> omega
theorem cnt_add (g : Int → Bool) : ∀ d e t, cnt g (d + e) t = cnt g d t + cnt g e (t + d)
  | 0, e, t => by simp [cnt]
  | d + 1, e, t => by
    have h := cnt_add g d e (t + 1)
    rw [show d + 1 + e = (d + e) + 1 by omega]
    simp only [cnt]
    rw [h, show t + 1 + (d : Int) = t + ((d + 1 : Nat) : Int) by omega]
    omega
theorem count_loop {ρ : Type} {L : Nat → Int → Int → Option ρ} {g : Int → Bool} {b : Int} {fin : Nat → Int → Option ρ} (hb : b ≤ 20001)
    (h : ∀ k n t, 20 < k → 0 ≤ t → t < b → 0 ≤ n → n ≤ t → L (k + 1) n t = if g t = true then L k (n + 1) (t + 1) else L k n (t + 1))
    (he : ∀ k n t, ¬ t < b → L (k + 1) n t = fin k n) : ∀ (d k : Nat) (n t : Int), 0 ≤ t → (b - t).toNat = d → 21 + d < k → 0 ≤ n → n ≤ t → L k n t = fin (k - d - 1) (n + cnt g d t)
  | 0, k, n, t, h0, hd, hk, n0, nt => by
    obtain ⟨k, rfl⟩ : ∃ m, k = m + 1 := ⟨k - 1, by omega⟩
    rw [he k n t (by omega)]
    simp [cnt]
  | d + 1, k, n, t, h0, hd, hk, n0, nt => by
    obtain ⟨k, rfl⟩ : ∃ m, k = m + 1 := ⟨k - 1, by omega⟩
    rw [h k n t (by omega) h0 (by omega) n0 nt]
    simp only [cnt]
    by_cases c : g t = true
    · rw [if_pos c, if_pos c, count_loop hb h he d k (n + 1) (t + 1) (by omega) (by omega) (by omega) (by omega) (by omega), show k + 1 - (d + 1) - 1 = k - d - 1 by omega, Int.add_assoc]
    · rw [if_neg c, if_neg c, count_loop hb h he d k n (t + 1) (by omega) (by omega) (by omega) (by omega) (by omega), show k + 1 - (d + 1) - 1 = k - d - 1 by omega, Int.zero_add]
theorem timeOk_eq (a : Int) : impl_timeOk.f a = some (decide (0 ≤ a ∧ a ≤ 20000)) := by
  unfold impl_timeOk.f
  rw [within_eq]; rfl

theorem hours_impl (a b : List S55) (ha : a.length ≤ 20) (hb : b.length ≤ 20) (x y : Int) (hx : 0 ≤ x) (hy : y ≤ 20000) (k : Nat) (hk : 20030 < k) : impl_OpenHours.l0 k y 0 x a b = some (cnt (opn a b) (y - x).toNat x) := by
  have h := count_loop (L := fun k n t => impl_OpenHours.l0 k y n t a b) (g := opn a b) (b := y) (fin := fun _ n => some n) (by omega) (fun k n t hk h0 hlt n0 nt => ?_) (fun k n t hn => ?_) (y - x).toNat k 0 x hx rfl (by omega) (by omega) hx
  · simpa using h
  · simp only [impl_OpenHours.l0]
    rw [if_pos hlt, isOpen_eq a b ha hb t k hk, wid (n + 1) (by omega) (by omega), wid (t + 1) (by omega) (by omega)]
    rfl
  · simp only [impl_OpenHours.l0]
    rw [if_neg hn]
/-- What OpenHours tells. -/
def hoursV (r : Bool) (a b : List S55) (x y : Int) : Int := if r = true ∧ (0 ≤ x ∧ x ≤ 20000) ∧ (0 ≤ y ∧ y ≤ 20000) then cnt (opn a b) (y - x).toNat x else 0
theorem hours_is (a b : List S55) (k : Nat) (hk : 20040 < k) (r : Bool) (h2 : impl_WeekOk.f k a b = some r) (h3 : r = true → a.length ≤ 20 ∧ b.length ≤ 20) (x y : Int) : impl_OpenHours.f k a b x y = some (hoursV r a b x y) := by
  obtain ⟨k, rfl⟩ : ∃ m, k = m + 1 := ⟨k - 1, by omega⟩
  unfold impl_OpenHours.f
  rw [h2]
  simp only [Option.bind_some, timeOk_eq, impl_OpenHours.j0, hoursV]
  cases r
  · simp
  · by_cases c1 : 0 ≤ x ∧ x ≤ 20000
    · by_cases c2 : 0 ≤ y ∧ y ≤ 20000
      · obtain ⟨la, lb⟩ := h3 rfl
        simp [c1, c2, hours_impl a b la lb x y c1.1 c2.2 k (by omega)]
      · simp [c1, c2]
    · simp [c1]

theorem hours_spec (a b : List S55) (ha : a.length ≤ 20) (hb : b.length ≤ 20) (x y : Int) (hx : 0 ≤ x) (hy : y ≤ 20000) (k : Nat) (hk : 20030 < k) : spec_OpenHours.l0 k y 0 x a b = some (cnt (opn a b) (y - x).toNat x) := by
  have h := count_loop (L := fun k n t => spec_OpenHours.l0 k y n t a b) (g := opn a b) (b := y) (fin := fun _ n => some n) (by omega) (fun k n t hk h0 hlt n0 nt => ?_) (fun k n t hn => ?_) (y - x).toNat k 0 x hx rfl (by omega) (by omega) hx
  · simpa using h
  · simp only [spec_OpenHours.l0]
    rw [if_pos hlt, l01Open_eq a b ha hb t k hk, wid (n + 1) (by omega) (by omega), wid (t + 1) (by omega) (by omega)]
    rfl
  · simp only [spec_OpenHours.l0]
    rw [if_neg hn]
theorem hours_spec_is (a b : List S55) (k : Nat) (hk : 20040 < k) (r : Bool) (h2 : spec_WeekOk.f k a b = some r) (h3 : r = true → a.length ≤ 20 ∧ b.length ≤ 20) (x y : Int) : spec_OpenHours.f k a b x y = some (hoursV r a b x y) := by
  obtain ⟨k, rfl⟩ : ∃ m, k = m + 1 := ⟨k - 1, by omega⟩
  unfold spec_OpenHours.f
  rw [h2]
  simp only [Option.bind_some, in_eq, spec_OpenHours.j0, hoursV]
  cases r
  · simp
  · by_cases c1 : 0 ≤ x ∧ x ≤ 20000
    · by_cases c2 : 0 ≤ y ∧ y ≤ 20000
      · obtain ⟨la, lb⟩ := h3 rfl
        simp [c1, c2, hours_spec a b la lb x y c1.1 c2.2 k (by omega)]
      · simp [c1, c2]
    · simp [c1]

theorem toWeek_eq (a b : List S57) (ha : a.length ≤ 1048576) (hb : b.length ≤ 1048576) (k : Nat) (hk : 1048580 < k) : laws_toWeek.f k a b = some (a.map toI_Span, b.map toI_Span) := by
  unfold laws_toWeek.f
  rw [toSpanS_eq a ha k (by omega), toSpanS_eq b hb k (by omega)]
  rfl
theorem eqWeek_self (a b : List S55) (ha : a.length ≤ 1048576) (hb : b.length ≤ 1048576) (k : Nat) (hk : 1048580 < k) : laws_eqWeek.f k a b a b = some true := by
  unfold laws_eqWeek.f
  rw [eqSpanS_self a ha k (by omega), eqSpanS_self b hb k (by omega)]
  rfl
theorem szWeek_eq (a b : List S57) (ha : a.length ≤ maxLen) (hb : b.length ≤ maxLen) : ∃ v, laws_szWeek.f a b 1048576 = some v ∧ (v < 0 ∨ (¬ v < 0 ∧ a.length ≤ 1048576 ∧ b.length ≤ 1048576)) := by
  unfold maxLen at ha hb
  unfold laws_szWeek.f laws_szSpanS.f
  rw [wid (1048576 - (a.length : Int)) (by omega) (by omega)]
  by_cases c : (1048576 : Int) - (a.length : Int) < 0
  · rw [if_pos c]
    exact ⟨-1, rfl, Or.inl (by omega)⟩
  · rw [if_neg c]
    simp only [Option.bind_some]
    rw [if_neg c, wid (1048576 - (a.length : Int) - (b.length : Int)) (by omega) (by omega)]
    by_cases c2 : (1048576 : Int) - (a.length : Int) - (b.length : Int) < 0
    · rw [if_pos c2]
      exact ⟨-1, rfl, Or.inl (by omega)⟩
    · rw [if_neg c2]
      simp only [Option.bind_some]
      rw [if_neg c2]
      exact ⟨_, rfl, Or.inr ⟨c2, by omega, by omega⟩⟩

theorem pureFnExactOpenHours : ∀ (a0 : S24) (a1 : Int) (a2 : Int), ok24 a0 → ok3 a1 → ok3 a2 → ∃ k, laws_FnExactOpenHours.f k a0.f0 a0.f1 a1 a2 = some true := by
  rintro ⟨a, b⟩ x y ⟨⟨ha, _⟩, hb, _⟩ _ _
  refine ⟨1048600, ?_⟩
  unfold laws_FnExactOpenHours.f
  obtain ⟨v, e, h⟩ := szWeek_eq a b ha hb
  rw [e]
  simp only [Option.bind_some]
  rcases h with h | ⟨h, la, lb⟩
  · rw [if_pos h]
  · rw [if_neg h, toWeek_eq a b la lb _ (by omega)]
    obtain ⟨r, h1, h2, h3⟩ := weekok_both (a.map toI_Span) (b.map toI_Span) 1048600 (by omega)
    simp only [Option.bind_some, hours_is _ _ 1048600 (by omega) r h2 h3, hours_spec_is _ _ 1048600 (by omega) r h1 h3]
    rw [eqWeek_self _ _ (by rw [List.length_map]; omega) (by rw [List.length_map]; omega) _ (by omega)]
    simp

end Go.Proofs.Ytpcgefkjeicmlaa.A
