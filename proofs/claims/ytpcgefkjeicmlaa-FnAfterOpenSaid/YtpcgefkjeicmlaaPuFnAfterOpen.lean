/- The pure statement of the law FnAfterOpen: its function answers true for all arguments that can be read; no further condition. -/
import Derived.Test.YtpcgefkjeicmlaaAx11
import Derived.Test.YtpcgefkjeicmlaaOp
namespace Go.Proofs.Ytpcgefkjeicmlaa.A
open Go.RowKit Go.Proofs.YtpcgefkjeicmlaaW.PrintWords Go.Proofs.YtpcgefkjeicmlaaW.PrintLast Go.Proofs.YtpcgefkjeicmlaaW.PrintMore
set_option linter.unusedVariables false
set_option linter.unusedSimpArgs false

theorem getD_at_ {α : Type} {l : List α} {i : Nat} (d : α) (h : i < l.length) : l.getD i d = l[i] := by
  rw [List.getD_eq_getElem?_getD, List.getElem?_eq_getElem h]; rfl
theorem wsucc (i : Nat) (h : i < 9223372036854775807) : wrap64 ((i : Int) + 1) = ((i + 1 : Nat) : Int) := by unfold wrap64; omega
theorem wpred (i : Nat) (h : 0 < i) (h2 : i ≤ 9223372036854775807) : wrap64 ((i : Int) - 1) = ((i - 1 : Nat) : Int) := by unfold wrap64; omega
theorem wid (x : Int) (h : -9223372036854775808 ≤ x) (h2 : x ≤ 9223372036854775807) : wrap64 x = x := by unfold wrap64; omega
/-- A loop over the indices below n that stops at the first one without the property. -/
theorem all_loop {L : Nat → Int → Option Bool} {n : Nat} {P : Nat → Bool} (h : ∀ k i, i < n → L (k + 1) (i : Int) = if P i = true then L k ((i + 1 : Nat) : Int) else some false)
    (he : ∀ k, L (k + 1) (n : Int) = some true) (d : Nat) : ∀ k i, i + d = n → d < k → L k (i : Int) = some ((List.range' i d).all P) := by
  induction d with
  | zero =>
    intro k i hi hk
    obtain ⟨k, rfl⟩ : ∃ m, k = m + 1 := ⟨k - 1, by omega⟩
    obtain rfl : i = n := by omega
    rw [he]; rfl
  | succ d ih =>
    intro k i hi hk
    obtain ⟨k, rfl⟩ : ∃ m, k = m + 1 := ⟨k - 1, by omega⟩
    rw [h k i (by omega), List.range'_succ, List.all_cons]
    by_cases hp : P i = true
    · rw [if_pos hp, ih k (i + 1) (by omega) (by omega), hp, Bool.true_and]
    · rw [if_neg hp]
      have : P i = false := by simpa using hp
      rw [this, Bool.false_and]
/-- A loop over the indices below n that changes a state, an invariant at hand. -/
theorem fold_loop {σ ρ : Type} {L : Nat → σ → Int → Option ρ} {n : Nat} {step : Nat → σ → σ} {fin : σ → Option ρ} {I : Nat → σ → Prop}
    (h : ∀ k s i, i < n → I i s → L (k + 1) s (i : Int) = L k (step i s) ((i + 1 : Nat) : Int) ∧ I (i + 1) (step i s)) (he : ∀ k s, I n s → L (k + 1) s (n : Int) = fin s) (d : Nat) :
    ∀ k s i, i + d = n → d < k → I i s → L k s (i : Int) = fin ((List.range' i d).foldl (fun s j => step j s) s) := by
  induction d with
  | zero =>
    intro k s i hi hk hI
    obtain ⟨k, rfl⟩ : ∃ m, k = m + 1 := ⟨k - 1, by omega⟩
    obtain rfl : i = n := by omega
    rw [he k s hI]; rfl
  | succ d ih =>
    intro k s i hi hk hI
    obtain ⟨k, rfl⟩ : ∃ m, k = m + 1 := ⟨k - 1, by omega⟩
    obtain ⟨h1, h2⟩ := h k s i (by omega) hI
    rw [h1, ih k (step i s) (i + 1) (by omega) (by omega) h2, List.range'_succ, List.foldl_cons]
/-- A loop that fills a list of the right length, element by element. -/
theorem map_loop {α β : Type} {L : Nat → List β → Int → Option (List β)} {xs : List α} {g : α → β} (d0 : α)
    (h : ∀ k acc (i : Nat), i < xs.length → acc.length = xs.length → L (k + 1) acc (i : Int) = L k (acc.set i (g (xs.getD i d0))) ((i + 1 : Nat) : Int))
    (he : ∀ k acc, L (k + 1) acc (xs.length : Int) = some acc) (d : Nat) :
    ∀ k acc i, i + d = xs.length → d < k → acc.length = xs.length → (∀ j, j < i → acc[j]? = (xs.map g)[j]?) → L k acc (i : Int) = some (xs.map g) := by
  induction d with
  | zero =>
    intro k acc i hi hk hl hp
    obtain ⟨k, rfl⟩ : ∃ m, k = m + 1 := ⟨k - 1, by omega⟩
    obtain rfl : i = xs.length := by omega
    rw [he]
    congr 1
    apply List.ext_getElem?
    intro j
    by_cases hj : j < xs.length
    · exact hp j hj
    · rw [List.getElem?_eq_none (by omega), List.getElem?_eq_none (by simp; omega)]
  | succ d ih =>
    intro k acc i hi hk hl hp
    obtain ⟨k, rfl⟩ : ∃ m, k = m + 1 := ⟨k - 1, by omega⟩
    rw [h k acc i (by omega) hl]
    refine ih k _ (i + 1) (by omega) (by omega) (by simp [hl]) (fun j hj => ?_)
    by_cases e : i = j
    · subst e
      rw [List.getElem?_set_self (by omega), List.getElem?_map, List.getElem?_eq_getElem (show i < xs.length by omega), List.getD_eq_getElem?_getD, List.getElem?_eq_getElem (show i < xs.length by omega)]
      rfl
    · rw [List.getElem?_set_ne e]
      exact hp j (by omega)
theorem all_range {α : Type} (xs : List α) (d0 : α) (P : α → Bool) : (List.range' 0 xs.length).all (fun i => P (xs.getD i d0)) = xs.all P := by
  rw [Bool.eq_iff_iff, List.all_eq_true, List.all_eq_true]
  constructor
  · intro h x hx
    obtain ⟨i, hi, rfl⟩ := List.getElem_of_mem hx
    have := h i (by simp [List.mem_range'_1]; omega)
    rwa [getD_at_ _ hi] at this
  · intro h i hi
    simp [List.mem_range'_1] at hi
    rw [getD_at_ _ hi]
    exact h _ (List.getElem_mem _)

theorem and255 (n : Int) : Go.bits .and .i64 n 255 = n % 256 := by
  have h255 : (BitVec.ofInt 64 255).toNat = 2 ^ 8 - 1 := by decide
  have key : (BitVec.ofInt 64 n &&& BitVec.ofInt 64 255).toNat = (n % ((2 ^ 64 : Nat) : Int)).toNat % 2 ^ 8 := by
    rw [BitVec.toNat_and, BitVec.toNat_ofInt, h255, Nat.and_two_pow_sub_one_eq_mod]
  show IntKind.i64.wrap ((BitVec.ofInt 64 n &&& BitVec.ofInt 64 255).toNat : Nat) = n % 256
  rw [key, IntKind.wrap_i64]
  omega

/-- A new reader of draws: its list is the list that came in. -/
theorem new_loop (l : List Int) (hl : l.length ≤ 140737488351232) (d : Nat) : ∀ (k : Nat) (h i : Int), 0 ≤ i → (l.length : Int) - i ≤ d → d < k → ∃ h', spec_l01New.l0 k l h i = some (l, 0, h') := by
  induction d with
  | zero =>
    intro k h i h0 hd hk
    obtain ⟨k, rfl⟩ : ∃ m, k = m + 1 := ⟨k - 1, by omega⟩
    simp only [spec_l01New.l0]
    rw [if_neg (by omega)]
    exact ⟨_, rfl⟩
  | succ d ih =>
    intro k h i h0 hd hk
    obtain ⟨k, rfl⟩ : ∃ m, k = m + 1 := ⟨k - 1, by omega⟩
    simp only [spec_l01New.l0]
    by_cases h1 : i < (l.length : Int)
    · rw [if_pos h1]
      by_cases h2 : i < 4000
      · rw [if_pos h2, if_pos h0]
        have e : wrap64 (i + 1) = i + 1 := by unfold wrap64; omega
        rw [e]
        exact ih k _ _ (by omega) (by omega) (by omega)
      · rw [if_neg h2]
        exact ⟨_, rfl⟩
    · rw [if_neg h1]
      exact ⟨_, rfl⟩

theorem new_some (l : List Int) (hl : l.length ≤ 140737488351232) (k : Nat) (hk : l.length < k) : ∃ h', spec_l01New.f k l = some (l, 0, h') :=
  new_loop l hl l.length k _ 0 (by omega) (by omega) hk

theorem byte_some (l : List Int) (hl : l.length ≤ 140737488351232) (i h : Int) (hi : 0 ≤ i) : ∃ v i' h', spec_l01Byte.f l i h = some (v, i', h') ∧ 0 ≤ v ∧ v ≤ 255 ∧ 0 ≤ i' := by
  unfold spec_l01Byte.f
  simp only [and255]
  by_cases h1 : i < (l.length : Int)
  · rw [if_pos h1, if_pos hi]
    have e : wrap64 (i + 1) = i + 1 := by unfold wrap64; omega
    rw [e]
    exact ⟨_, _, _, rfl, by omega, by omega, by omega⟩
  · rw [if_neg h1]
    exact ⟨_, _, _, rfl, by omega, by omega, by omega⟩

theorem tmod_in (x n : Int) (hx : 0 ≤ x) (hn : 0 < n) : 0 ≤ Int.tmod x n ∧ Int.tmod x n < n :=
  ⟨Int.tmod_nonneg n hx, Int.tmod_lt_of_pos x hn⟩

theorem below_some (l : List Int) (hl : l.length ≤ 140737488351232) (i h n : Int) (hi : 0 ≤ i) : ∃ v i' h', spec_l01Below.f l i h n = some (v, i', h') ∧ 0 ≤ v ∧ (n ≤ 0 → v = 0) ∧ (0 < n → v < n) ∧ 0 ≤ i' := by
  unfold spec_l01Below.f
  by_cases h0 : n ≤ 0
  · rw [if_pos h0]
    exact ⟨_, _, _, rfl, by omega, fun _ => rfl, fun _ => by omega, hi⟩
  · rw [if_neg h0]
    have hne : ¬ n = 0 := by omega
    by_cases h1 : n ≤ 256
    · rw [if_pos h1]
      obtain ⟨v, i1, x1, e1, a1, b1, c1⟩ := byte_some l hl i h hi
      rw [e1]
      simp only [Option.bind_some]
      rw [if_neg hne]
      exact ⟨_, _, _, rfl, (tmod_in v n a1 (by omega)).1, fun _ => by omega, fun _ => (tmod_in v n a1 (by omega)).2, c1⟩
    · rw [if_neg h1]
      obtain ⟨v1, i1, x1, e1, a1, b1, c1⟩ := byte_some l hl i h hi
      rw [e1]
      simp only [Option.bind_some]
      obtain ⟨v2, i2, x2, e2, a2, b2, c2⟩ := byte_some l hl i1 x1 c1
      rw [e2]
      simp only [Option.bind_some]
      obtain ⟨v3, i3, x3, e3, a3, b3, c3⟩ := byte_some l hl i2 x2 c2
      rw [e3]
      simp only [Option.bind_some]
      obtain ⟨v4, i4, x4, e4, a4, b4, c4⟩ := byte_some l hl i3 x3 c3
      rw [e4]
      simp only [Option.bind_some]
      rw [if_neg hne]
      have w : wrap64 ((wrap64 ((wrap64 ((wrap64 (v1 * 16777216)) + (wrap64 (v2 * 65536)))) + (wrap64 (v3 * 256)))) + v4) = v1 * 16777216 + v2 * 65536 + v3 * 256 + v4 := by
        unfold wrap64; omega
      rw [w]
      exact ⟨_, _, _, rfl, (tmod_in _ n (by omega) (by omega)).1, fun _ => by omega, fun _ => (tmod_in _ n (by omega) (by omega)).2, c4⟩

theorem spans_same (l : List S55) (m : Int) : ∀ k i, impl_SpansOk.l0 k l m l (l.length : Int) i = spec_SpansOk.l0 k l m i
  | 0, i => rfl
  | k + 1, i => by
    simp only [impl_SpansOk.l0, spec_SpansOk.l0, spans_same l m k]
    by_cases h : i < (l.length : Int)
    · simp only [if_pos h]
    · simp only [if_neg h]
theorem spans_some (l : List S55) (hl : l.length ≤ 20) (m : Int) (d : Nat) : ∀ (k i : Nat), i + d = l.length → d < k → ∃ r, spec_SpansOk.l0 k l m (i : Int) = some r := by
  induction d with
  | zero =>
    intro k i hi hk
    obtain ⟨k, rfl⟩ : ∃ m, k = m + 1 := ⟨k - 1, by omega⟩
    simp only [spec_SpansOk.l0]
    rw [if_neg (by omega)]
    exact ⟨_, rfl⟩
  | succ d ih =>
    intro k i hi hk
    obtain ⟨k, rfl⟩ : ∃ m, k = m + 1 := ⟨k - 1, by omega⟩
    simp only [spec_SpansOk.l0]
    rw [if_pos (by omega), if_pos (by omega)]
    split
    · exact ⟨_, rfl⟩
    · split
      · exact ⟨_, rfl⟩
      · split
        · exact ⟨_, rfl⟩
        · rw [wsucc i (by omega)]
          by_cases h0 : (i : Int) > 0
          · rw [if_pos h0, wpred i (by omega) (by omega), if_pos (by omega), if_pos (by omega)]
            split
            · exact ⟨_, rfl⟩
            · exact ih k (i + 1) (by omega) (by omega)
          · rw [if_neg h0]
            exact ih k (i + 1) (by omega) (by omega)
/-- Both tell the same of spans. -/
theorem spansok_both (l : List S55) (m : Int) (k : Nat) (hk : 21 < k) : ∃ r, spec_SpansOk.f k l m = some r ∧ impl_SpansOk.f k l m = some r := by
  unfold spec_SpansOk.f impl_SpansOk.f
  by_cases h : (l.length : Int) > 20
  · rw [if_pos h, if_pos h]; exact ⟨_, rfl, rfl⟩
  · rw [if_neg h, if_neg h, spans_same]
    obtain ⟨r, hr⟩ := spans_some l (by omega) m l.length k 0 (by omega) (by omega)
    exact ⟨r, hr, hr⟩

theorem within_eq (a b c : Int) : impl_within.f a b c = some (decide (b ≤ a ∧ a ≤ c)) := by
  unfold impl_within.f
  split
  · congr 1; rw [decide_eq_decide]; omega
  · congr 1; exact (decide_eq_false (by omega)).symm

/-- Both tell the same of a week; one that is right has few spans. -/
theorem weekok_both (a b : List S55) (k : Nat) (hk : 21 < k) : ∃ r, spec_WeekOk.f k a b = some r ∧ impl_WeekOk.f k a b = some r ∧ (r = true → a.length ≤ 20 ∧ b.length ≤ 20) := by
  obtain ⟨r1, s1, i1⟩ := spansok_both a 168 k hk
  obtain ⟨r2, s2, i2⟩ := spansok_both b 20000 k hk
  have short : ∀ (l : List S55) m, spec_SpansOk.f k l m = some true → l.length ≤ 20 := by
    intro l m h
    unfold spec_SpansOk.f at h
    by_cases c : (l.length : Int) > 20
    · rw [if_pos c] at h; simp at h
    · omega
  unfold spec_WeekOk.f impl_WeekOk.f
  rw [s1, i1]
  simp only [Option.bind_some]
  cases r1
  · exact ⟨false, rfl, rfl, by simp⟩
  · rw [s2, i2]
    exact ⟨r2, rfl, rfl, fun e => ⟨short _ _ s1, short _ _ (by rw [s2, e])⟩⟩

theorem any_loop {L : Nat → Int → Option Bool} {n : Nat} {P : Nat → Bool} (h : ∀ k i, i < n → L (k + 1) (i : Int) = if P i = true then some true else L k ((i + 1 : Nat) : Int))
    (he : ∀ k, L (k + 1) (n : Int) = some false) (d : Nat) : ∀ k i, i + d = n → d < k → L k (i : Int) = some ((List.range' i d).any P) := by
  induction d with
  | zero =>
    intro k i hi hk
    obtain ⟨k, rfl⟩ : ∃ m, k = m + 1 := ⟨k - 1, by omega⟩
    obtain rfl : i = n := by omega
    rw [he]; rfl
  | succ d ih =>
    intro k i hi hk
    obtain ⟨k, rfl⟩ : ∃ m, k = m + 1 := ⟨k - 1, by omega⟩
    rw [h k i (by omega), List.range'_succ, List.any_cons]
    by_cases hp : P i = true
    · rw [if_pos hp, hp, Bool.true_or]
    · rw [if_neg hp, ih k (i + 1) (by omega) (by omega)]
      have : P i = false := by simpa using hp
      rw [this, Bool.false_or]
theorem any_range {α : Type} (xs : List α) (d0 : α) (P : α → Bool) : (List.range' 0 xs.length).any (fun i => P (xs.getD i d0)) = xs.any P := by
  have h := all_range xs d0 (fun x => !P x)
  rw [← Bool.not_inj_iff, List.not_any_eq_all_not, List.not_any_eq_all_not]
  exact h
/-- The hour lies in one of the spans. -/
def inS (l : List S55) (h : Int) : Bool := l.any (fun s => decide (s.f0 ≤ h ∧ h < s.f1))
def opn (a b : List S55) (h : Int) : Bool := inS a (Int.tmod h 168) && !inS b h
theorem inSpans_eq (l : List S55) (hl : l.length ≤ 20) (h : Int) (k : Nat) (hk : 20 < k) : impl_inSpans.f k l h = some (inS l h) := by
  unfold impl_inSpans.f
  have := any_loop (L := fun k i => impl_inSpans.l0 k h l (l.length : Int) i) (n := l.length) (P := fun i => decide ((l.getD i z55).f0 ≤ h ∧ h < (l.getD i z55).f1)) (fun k i hi => ?_) (fun k => ?_) l.length k 0 (by omega) (by omega)
  · rw [any_range l z55 (fun s => decide (s.f0 ≤ h ∧ h < s.f1))] at this
    exact this
  · simp only [impl_inSpans.l0]
    rw [if_pos (by omega), if_pos (by omega), if_pos (by omega), wsucc i (by omega)]
    show (if h ≥ (l.getD i z55).f0 then _ else _) = _
    by_cases c1 : (l.getD i z55).f0 ≤ h
    · rw [if_pos c1]
      show (if h < (l.getD i z55).f1 then _ else _) = _
      by_cases c2 : h < (l.getD i z55).f1
      · rw [if_pos c2, if_pos (decide_eq_true ⟨c1, c2⟩)]
      · rw [if_neg c2, if_neg (fun e => c2 (of_decide_eq_true e).2)]
    · rw [if_neg c1, if_neg (fun e => c1 (of_decide_eq_true e).1)]
  · simp only [impl_inSpans.l0]
    rw [if_neg (by omega)]
theorem isOpen_eq (a b : List S55) (ha : a.length ≤ 20) (hb : b.length ≤ 20) (h : Int) (k : Nat) (hk : 20 < k) : impl_isOpen.f k a b h = some (opn a b h) := by
  unfold impl_isOpen.f opn
  rw [inSpans_eq a ha _ k hk, inSpans_eq b hb _ k hk]
  cases h1 : inS a (Int.tmod h 168) <;> simp [h1]
/-- Open hours among the d from t on. -/
def cnt (g : Int → Bool) : Nat → Int → Int
  | 0, _ => 0
  | d + 1, t => (if g t = true then 1 else 0) + cnt g d (t + 1)
theorem cnt_nonneg (g : Int → Bool) : ∀ d t, 0 ≤ cnt g d t
  | 0, _ => Int.le_refl _
  | d + 1, t => by have := cnt_nonneg g d (t + 1); simp only [cnt]; split <;> omega
theorem cnt_le (g : Int → Bool) : ∀ d t, cnt g d t ≤ d
  | 0, _ => Int.le_refl _
  | d + 1, t => by have := cnt_le g d (t + 1); simp only [cnt]; split <;> omega
theorem cnt_add (g : Int → Bool) : ∀ d e t, cnt g (d + e) t = cnt g d t + cnt g e (t + d)
  | 0, e, t => by simp [cnt]
  | d + 1, e, t => by
    have h := cnt_add g d e (t + 1)
    rw [show d + 1 + e = (d + e) + 1 by omega]
    simp only [cnt]
    rw [h, show t + 1 + (d : Int) = t + ((d + 1 : Nat) : Int) by omega]
    omega
theorem count_loop {ρ : Type} {L : Nat → Int → Int → Option ρ} {g : Int → Bool} {b : Int} {fin : Nat → Int → Option ρ} (hb : b ≤ 20001)
    (h : ∀ k n t, 22 < k → 0 ≤ t → t < b → 0 ≤ n → n ≤ t → L (k + 1) n t = if g t = true then L k (n + 1) (t + 1) else L k n (t + 1))
    (he : ∀ k n t, ¬ t < b → L (k + 1) n t = fin k n) : ∀ (d k : Nat) (n t : Int), 0 ≤ t → (b - t).toNat = d → 23 + d < k → 0 ≤ n → n ≤ t → L k n t = fin (k - d - 1) (n + cnt g d t)
  | 0, k, n, t, h0, hd, hk, n0, nt => by
    obtain ⟨k, rfl⟩ : ∃ m, k = m + 1 := ⟨k - 1, by omega⟩
    rw [he k n t (by omega)]
    simp [cnt]
  | d + 1, k, n, t, h0, hd, hk, n0, nt => by
    obtain ⟨k, rfl⟩ : ∃ m, k = m + 1 := ⟨k - 1, by omega⟩
    rw [h k n t (by omega) h0 (by omega) n0 nt]
    simp only [cnt]
    by_cases c : g t = true
    · rw [if_pos c, if_pos c, count_loop hb h he d k (n + 1) (t + 1) (by omega) (by omega) (by omega) (by omega) (by omega), show k + 1 - (d + 1) - 1 = k - d - 1 by omega, Int.add_assoc]
    · rw [if_neg c, if_neg c, count_loop hb h he d k n (t + 1) (by omega) (by omega) (by omega) (by omega) (by omega), show k + 1 - (d + 1) - 1 = k - d - 1 by omega, Int.zero_add]
theorem timeOk_eq (a : Int) : impl_timeOk.f a = some (decide (0 ≤ a ∧ a ≤ 20000)) := by
  unfold impl_timeOk.f
  rw [within_eq]; rfl

theorem hours_impl (a b : List S55) (ha : a.length ≤ 20) (hb : b.length ≤ 20) (x y : Int) (hx : 0 ≤ x) (hy : y ≤ 20000) (k : Nat) (hk : 20030 < k) : impl_OpenHours.l0 k y 0 x a b = some (cnt (opn a b) (y - x).toNat x) := by
  have h := count_loop (L := fun k n t => impl_OpenHours.l0 k y n t a b) (g := opn a b) (b := y) (fin := fun _ n => some n) (by omega) (fun k n t hk h0 hlt n0 nt => ?_) (fun k n t hn => ?_) (y - x).toNat k 0 x hx rfl (by omega) (by omega) hx
  · simpa using h
  · simp only [impl_OpenHours.l0]
    rw [if_pos hlt, isOpen_eq a b ha hb t k (by omega), wid (n + 1) (by omega) (by omega), wid (t + 1) (by omega) (by omega)]
    rfl
  · simp only [impl_OpenHours.l0]
    rw [if_neg hn]
/-- What OpenHours tells. -/
def hoursV (r : Bool) (a b : List S55) (x y : Int) : Int := if r = true ∧ (0 ≤ x ∧ x ≤ 20000) ∧ (0 ≤ y ∧ y ≤ 20000) then cnt (opn a b) (y - x).toNat x else 0
theorem hours_is (a b : List S55) (k : Nat) (hk : 20040 < k) (r : Bool) (h2 : impl_WeekOk.f k a b = some r) (h3 : r = true → a.length ≤ 20 ∧ b.length ≤ 20) (x y : Int) : impl_OpenHours.f k a b x y = some (hoursV r a b x y) := by
  obtain ⟨k, rfl⟩ : ∃ m, k = m + 1 := ⟨k - 1, by omega⟩
  unfold impl_OpenHours.f
  rw [h2]
  simp only [Option.bind_some, timeOk_eq, impl_OpenHours.j0, hoursV]
  cases r
  · simp
  · by_cases c1 : 0 ≤ x ∧ x ≤ 20000
    · by_cases c2 : 0 ≤ y ∧ y ≤ 20000
      · obtain ⟨la, lb⟩ := h3 rfl
        simp [c1, c2, hours_impl a b la lb x y c1.1 c2.2 k (by omega)]
      · simp [c1, c2]
    · simp [c1]

def aft (g : Int → Bool) : Nat → Int → Int → Int × Bool
  | 0, t, n => if n = 0 then (t, true) else (0, false)
  | d + 1, t, n => if n = 0 then (t, true) else if g t = true then aft g d (t + 1) (n - 1) else aft g d (t + 1) n
theorem aft_impl (a b : List S55) (ha : a.length ≤ 20) (hb : b.length ≤ 20) : ∀ (d k : Nat) (n t : Int), 0 ≤ t → t ≤ 20000 → (20000 - t).toNat = d → 23 + d < k → 0 ≤ n → n ≤ 9223372036854775807 → impl_AfterOpen.l0 k n t a b = some (aft (opn a b) d t n)
  | 0, k, n, t, h0, h1, hd, hk, n0, n1 => by
    obtain ⟨k, rfl⟩ : ∃ m, k = m + 2 := ⟨k - 2, by omega⟩
    obtain rfl : t = 20000 := by omega
    simp only [impl_AfterOpen.l0, aft]
    by_cases c : n = 0
    · simp [c]
    · rw [wid (20000 + 1) (by omega) (by omega)]
      simp [c]
  | d + 1, k, n, t, h0, h1, hd, hk, n0, n1 => by
    obtain ⟨k, rfl⟩ : ∃ m, k = m + 1 := ⟨k - 1, by omega⟩
    simp only [impl_AfterOpen.l0, aft]
    rw [if_pos h1]
    by_cases c : n = 0
    · rw [if_pos c, if_pos c]
    · rw [if_neg c, if_neg c, if_pos (by omega), isOpen_eq a b ha hb t k (by omega)]
      simp only [Option.bind_some]
      rw [wid (t + 1) (by omega) (by omega), wid (n - 1) (by omega) (by omega)]
      by_cases o : opn a b t = true
      · rw [if_pos o, if_pos o]
        exact aft_impl a b ha hb d k (n - 1) (t + 1) (by omega) (by omega) (by omega) (by omega) (by omega) (by omega)
      · rw [if_neg o, if_neg o]
        exact aft_impl a b ha hb d k n (t + 1) (by omega) (by omega) (by omega) (by omega) (by omega) (by omega)
def aftV (r : Bool) (a b : List S55) (x n : Int) : Int × Bool := if r = true ∧ 0 ≤ n ∧ (0 ≤ x ∧ x ≤ 20000) then aft (opn a b) (20000 - x).toNat x n else (0, false)
theorem aft_is (a b : List S55) (k : Nat) (hk : 20050 < k) (r : Bool) (h2 : impl_WeekOk.f k a b = some r) (h3 : r = true → a.length ≤ 20 ∧ b.length ≤ 20) (x n : Int) (hn : n ≤ 9223372036854775807) : impl_AfterOpen.f k a b x n = some (aftV r a b x n) := by
  obtain ⟨k, rfl⟩ : ∃ m, k = m + 1 := ⟨k - 1, by omega⟩
  unfold impl_AfterOpen.f aftV
  by_cases c0 : n < 0
  · rw [if_pos c0, if_neg (by omega)]
    simp [impl_AfterOpen.j0]
  · rw [if_neg c0, h2]
    simp only [Option.bind_some, timeOk_eq, impl_AfterOpen.j0]
    cases r
    · simp
    · by_cases c1 : 0 ≤ x ∧ x ≤ 20000
      · obtain ⟨la, lb⟩ := h3 rfl
        simp [c1, show 0 ≤ n by omega, aft_impl a b la lb (20000 - x).toNat k n x c1.1 c1.2 rfl (by omega) (by omega) hn]
      · simp [c1]

def bef (g : Int → Bool) : Nat → Int → Int → Int × Bool
  | 0, _, _ => (20000, true)
  | d + 1, t, n => if g t = true then (if n = 0 then (t, true) else bef g d (t + 1) (n - 1)) else bef g d (t + 1) n
theorem bef_impl (a b : List S55) (ha : a.length ≤ 20) (hb : b.length ≤ 20) : ∀ (d k : Nat) (n t : Int), 0 ≤ t → t ≤ 20000 → (20000 - t).toNat = d → 23 + d < k → 0 ≤ n → n ≤ 9223372036854775807 → impl_BeforeOpen.l0 k n t a b = some (bef (opn a b) d t n)
  | 0, k, n, t, h0, h1, hd, hk, n0, n1 => by
    obtain ⟨k, rfl⟩ : ∃ m, k = m + 1 := ⟨k - 1, by omega⟩
    simp only [impl_BeforeOpen.l0, bef]
    rw [if_neg (by omega)]
  | d + 1, k, n, t, h0, h1, hd, hk, n0, n1 => by
    obtain ⟨k, rfl⟩ : ∃ m, k = m + 1 := ⟨k - 1, by omega⟩
    simp only [impl_BeforeOpen.l0, bef]
    rw [if_pos (by omega), isOpen_eq a b ha hb t k (by omega)]
    simp only [Option.bind_some]
    rw [wid (t + 1) (by omega) (by omega), wid (n - 1) (by omega) (by omega)]
    by_cases o : opn a b t = true
    · rw [if_pos o, if_pos o]
      by_cases c : n = 0
      · rw [if_pos c, if_pos c]
      · rw [if_neg c, if_neg c]
        exact bef_impl a b ha hb d k (n - 1) (t + 1) (by omega) (by omega) (by omega) (by omega) (by omega) (by omega)
    · rw [if_neg o, if_neg o]
      exact bef_impl a b ha hb d k n (t + 1) (by omega) (by omega) (by omega) (by omega) (by omega) (by omega)
def befV (r : Bool) (a b : List S55) (x n : Int) : Int × Bool := if r = true ∧ 0 ≤ n ∧ (0 ≤ x ∧ x ≤ 20000) then bef (opn a b) (20000 - x).toNat x n else (0, false)
theorem bef_is (a b : List S55) (k : Nat) (hk : 20050 < k) (r : Bool) (h2 : impl_WeekOk.f k a b = some r) (h3 : r = true → a.length ≤ 20 ∧ b.length ≤ 20) (x n : Int) (hn : n ≤ 9223372036854775807) : impl_BeforeOpen.f k a b x n = some (befV r a b x n) := by
  obtain ⟨k, rfl⟩ : ∃ m, k = m + 1 := ⟨k - 1, by omega⟩
  unfold impl_BeforeOpen.f befV
  by_cases c0 : n < 0
  · rw [if_pos c0, if_neg (by omega)]
    simp [impl_BeforeOpen.j0]
  · rw [if_neg c0, h2]
    simp only [Option.bind_some, timeOk_eq, impl_BeforeOpen.j0]
    cases r
    · simp
    · by_cases c1 : 0 ≤ x ∧ x ≤ 20000
      · obtain ⟨la, lb⟩ := h3 rfl
        simp [c1, show 0 ≤ n by omega, bef_impl a b la lb (20000 - x).toNat k n x c1.1 c1.2 rfl (by omega) (by omega) hn]
      · simp [c1]

/-- Spans one behind the other, within m. -/
def goodS (l : List S55) (m : Int) : Prop :=
  l.length ≤ 20 ∧ (∀ i, i < l.length → 0 ≤ (l.getD i z55).f0 ∧ (l.getD i z55).f0 < (l.getD i z55).f1 ∧ (l.getD i z55).f1 ≤ m) ∧ (∀ i, i + 1 < l.length → (l.getD i z55).f1 < (l.getD (i + 1) z55).f0)
theorem good_ok (l : List S55) (m : Int) (hg : goodS l m) (k : Nat) (hk : 21 < k) : impl_SpansOk.f k l m = some true := by
  obtain ⟨hl, h1, h2⟩ := hg
  obtain ⟨r, e1, e2⟩ := spansok_both l m k hk
  rw [e2, ← e1]
  unfold spec_SpansOk.f
  rw [if_neg (by omega)]
  have h := all_loop (L := fun k i => spec_SpansOk.l0 k l m i) (n := l.length) (P := fun _ => true) (fun k i hi => ?_) (fun k => ?_) l.length k 0 (by omega) (by omega)
  · have e : (List.range' 0 l.length).all (fun _ => true) = true := by simp
    rw [e] at h
    exact h
  · simp only [spec_SpansOk.l0]
    have e : rd_T55 l (i : Int) = l.getD i z55 := rfl
    obtain ⟨g0, g1, g2⟩ := h1 i hi
    rw [if_pos (by omega), if_pos (by omega), e, if_neg (by omega), if_neg (by omega), if_neg (by omega)]
    by_cases c : (i : Int) > 0
    · have e2 : rd_T55 l ((i - 1 : Nat) : Int) = l.getD (i - 1) z55 := rfl
      have g3 := h2 (i - 1) (by omega)
      rw [show i - 1 + 1 = i by omega] at g3
      rw [if_pos c, wpred i (by omega) (by omega), if_pos (by omega), if_pos (by omega), e2, if_neg (by omega), wsucc i (by omega)]
      rfl
    · rw [if_neg c, wsucc i (by omega)]
      rfl
  · simp only [spec_SpansOk.l0]
    rw [if_neg (by omega)]
theorem getD_app {α : Type} (l : List α) (s d : α) (i : Nat) (hi : i < l.length) : (l ++ [s]).getD i d = l.getD i d := by
  rw [List.getD_eq_getElem?_getD, List.getD_eq_getElem?_getD, List.getElem?_append_left hi]
theorem getD_last {α : Type} (l : List α) (s d : α) : (l ++ [s]).getD l.length d = s := by
  rw [List.getD_eq_getElem?_getD, List.getElem?_append_right (Nat.le_refl _), Nat.sub_self]; rfl
theorem good_app (l : List S55) (m : Int) (s : S55) (hg : goodS l m) (hl : l.length < 20) (h0 : 0 ≤ s.f0) (h1 : s.f0 < s.f1) (h2 : s.f1 ≤ m) (hb : ∀ i, i < l.length → (l.getD i z55).f1 < s.f0) : goodS (l ++ [s]) m := by
  obtain ⟨_, g1, g2⟩ := hg
  refine ⟨by simp; omega, fun i hi => ?_, fun i hi => ?_⟩
  · simp at hi
    by_cases c : i < l.length
    · rw [getD_app l s _ i c]; exact g1 i c
    · obtain rfl : i = l.length := by omega
      rw [getD_last]; exact ⟨h0, h1, h2⟩
  · simp at hi
    by_cases c : i + 1 < l.length
    · rw [getD_app l s _ i (by omega), getD_app l s _ (i + 1) c]; exact g2 i c
    · have e : i + 1 = l.length := by omega
      rw [e, getD_last, getD_app l s _ i (by omega)]; exact hb i (by omega)
theorem spans_loop (l : List Int) (hl : l.length ≤ 140737488351232) (m step : Int) (hm : 0 ≤ m) (hm2 : m ≤ 20000) (hs : 0 < step) (hs2 : step ≤ 150) : ∀ (n k : Nat) (out : List S55) (x i h : Int),
    goodS out m → (∀ j, j < out.length → (out.getD j z55).f1 < x) → 0 ≤ x → x ≤ 20500 → out.length + n ≤ 20 → n < k → 0 ≤ i → ∃ o i' h', spec_l01Spans.l0 k m step out x (n : Int) l i h = some (o, i', h') ∧ goodS o m ∧ 0 ≤ i'
  | 0, k, out, x, i, h, hg, hb, x0, x1, hn, hk, hi => by
    obtain ⟨k, rfl⟩ : ∃ m, k = m + 1 := ⟨k - 1, by omega⟩
    simp only [spec_l01Spans.l0]
    rw [if_neg (by omega)]
    exact ⟨_, _, _, rfl, hg, hi⟩
  | n + 1, k, out, x, i, h, hg, hb, x0, x1, hn, hk, hi => by
    obtain ⟨k, rfl⟩ : ∃ m, k = m + 1 := ⟨k - 1, by omega⟩
    simp only [spec_l01Spans.l0]
    rw [if_pos (by omega)]
    obtain ⟨v, i1, y1, e1, v0, _, v1, c1⟩ := below_some l hl i h step hi
    have v2 := v1 hs
    rw [e1]
    simp only [Option.bind_some]
    rw [wid (x + 1) (by omega) (by omega), wid (x + 1 + v) (by omega) (by omega)]
    by_cases c : x + 1 + v > m
    · rw [if_pos c]
      exact ⟨_, _, _, rfl, hg, c1⟩
    · rw [if_neg c, if_pos (by omega)]
      obtain ⟨u, i2, y2, e2, u0, _, u1, c2⟩ := below_some l hl i1 y1 step c1
      have u2 := u1 hs
      rw [e2]
      simp only [Option.bind_some]
      rw [wid (x + 1 + v + 1) (by omega) (by omega), wid (x + 1 + v + 1 + u) (by omega) (by omega), show wrap64 (((n + 1 : Nat) : Int) - 1) = (n : Int) by unfold wrap64; omega]
      refine spans_loop l hl m step hm hm2 hs hs2 n k _ _ _ _ (good_app out m ⟨x, x + 1 + v⟩ hg (by omega) x0 (show x < x + 1 + v by omega) (show x + 1 + v ≤ m by omega) hb) (fun j hj => ?_) (by omega) (by omega) (by simp; omega) (by omega) c2
      simp at hj
      by_cases cj : j < out.length
      · rw [getD_app _ _ _ _ cj]
        have := hb j cj
        omega
      · obtain rfl : j = out.length := by omega
        rw [getD_last]
        show x + 1 + v < _
        omega
theorem spans_draw (l : List Int) (hl : l.length ≤ 140737488351232) (i h m step : Int) (hi : 0 ≤ i) (hm : 0 ≤ m) (hm2 : m ≤ 20000) (hs : 0 < step) (hs2 : step ≤ 150) (k : Nat) (hk : 20 < k) : ∃ o i' h', spec_l01Spans.f k l i h m step = some (o, i', h') ∧ goodS o m ∧ 0 ≤ i' := by
  unfold spec_l01Spans.f
  obtain ⟨v, i1, y1, e1, v0, _, v1, c1⟩ := below_some l hl i h step hi
  have v2 := v1 hs
  rw [e1]
  simp only [Option.bind_some]
  obtain ⟨u, i2, y2, e2, u0, _, u1, c2⟩ := below_some l hl i1 y1 5 c1
  have u2 := u1 (by omega)
  rw [e2]
  simp only [Option.bind_some]
  have h := spans_loop l hl m step hm hm2 hs hs2 u.toNat k [] v i2 y2 ⟨by simp, by simp, by simp⟩ (by simp) v0 (by omega) (by simp; omega) (by omega) c2
  rw [show ((u.toNat : Nat) : Int) = u by omega] at h
  exact h
theorem good_nil (m : Int) : goodS [] m := ⟨by simp, by simp, by simp⟩
theorem week_draw (l : List Int) (hl : l.length ≤ 140737488351232) (i h : Int) (hi : 0 ≤ i) (k : Nat) (hk : 22 < k) : ∃ a b i' h', spec_l01Week.f k l i h = some (a, b, i', h') ∧ goodS a 168 ∧ goodS b 20000 ∧ 0 ≤ i' := by
  obtain ⟨k, rfl⟩ : ∃ m, k = m + 1 := ⟨k - 1, by omega⟩
  unfold spec_l01Week.f
  obtain ⟨o, i1, y1, e1, g1, c1⟩ := spans_draw l hl i h 168 40 hi (by omega) (by omega) (by omega) (by omega) (k + 1) (by omega)
  rw [e1]
  simp only [Option.bind_some]
  obtain ⟨u, i2, y2, e2, u0, _, u1, c2⟩ := below_some l hl i1 y1 6 c1
  rw [e2]
  simp only [Option.bind_some]
  have j0 : ∀ b : Bool, ∃ a b' i' h', spec_l01Week.j0 (k + 1) u b l i2 y2 o = some (a, b', i', h') ∧ goodS a 168 ∧ goodS b' 20000 ∧ 0 ≤ i' := by
    intro b
    simp only [spec_l01Week.j0]
    by_cases hb : b = true
    · rw [if_pos hb]
      obtain ⟨o2, i3, y3, e3, g3, c3⟩ := spans_draw l hl i2 y2 20000 150 c2 (by omega) (by omega) (by omega) (by omega) k (by omega)
      rw [e3]
      exact ⟨_, _, _, _, rfl, g1, g3, c3⟩
    · rw [if_neg hb]
      by_cases h3 : u = 3
      · rw [if_pos h3]
        refine ⟨_, _, _, _, rfl, ⟨by simp, fun i hi => ?_, fun i hi => ?_⟩, good_nil _, c2⟩
        · simp at hi
          obtain rfl | rfl | rfl : i = 0 ∨ i = 1 ∨ i = 2 := by omega
          all_goals simp
        · simp at hi
          obtain rfl | rfl : i = 0 ∨ i = 1 := by omega
          all_goals simp
      · rw [if_neg h3]
        exact ⟨_, _, _, _, rfl, g1, good_nil _, c2⟩
  by_cases h0 : u = 0
  · rw [if_pos h0]
    refine ⟨_, _, _, _, rfl, ⟨by simp, fun i hi => ?_, fun i hi => ?_⟩, good_nil _, c2⟩
    · simp at hi
      subst hi
      simp
    · simp at hi
  · rw [if_neg h0]
    by_cases h1 : u = 1
    · rw [if_pos h1]; exact j0 _
    · rw [if_neg h1]; exact j0 _
theorem drawWeek_some (l : List Int) (hl : l.length ≤ 140737488351232) (k : Nat) (hk : l.length + 30 < k) : ∃ a b, spec_DrawWeek.f k l = some (a, b) ∧ goodS a 168 ∧ goodS b 20000 := by
  unfold spec_DrawWeek.f
  obtain ⟨x0, e0⟩ := new_some l hl k (by omega)
  rw [e0]
  simp only [Option.bind_some]
  obtain ⟨a, b, i1, y1, e1, g1, g2, _⟩ := week_draw l hl 0 x0 (by omega) k (by omega)
  rw [e1]
  exact ⟨_, _, rfl, g1, g2⟩
theorem places_loop (l : List Int) (hl : l.length ≤ 140737488351232) : ∀ (d k : Nat) (out : List Int) (n i h : Int), 0 ≤ n → (12 - n).toNat = d → (out.length : Int) = n → n ≤ 12 → d < k → 0 ≤ i → (∀ x ∈ out, 0 ≤ x ∧ x < 10000) → ∃ o, spec_DrawPlaces.l0 k out n l i h = some o ∧ o.length = 12 ∧ ∀ x ∈ o, 0 ≤ x ∧ x < 10000
  | 0, k, out, n, i, h, n0, hd, ho, n1, hk, hi, hx => by
    obtain ⟨k, rfl⟩ : ∃ m, k = m + 1 := ⟨k - 1, by omega⟩
    simp only [spec_DrawPlaces.l0]
    rw [if_neg (by omega)]
    exact ⟨_, rfl, by omega, hx⟩
  | d + 1, k, out, n, i, h, n0, hd, ho, n1, hk, hi, hx => by
    obtain ⟨k, rfl⟩ : ∃ m, k = m + 1 := ⟨k - 1, by omega⟩
    simp only [spec_DrawPlaces.l0]
    rw [if_pos (by omega)]
    obtain ⟨v, i1, y1, e1, v0, _, v1, c1⟩ := below_some l hl i h 10000 hi
    have v2 := v1 (by omega)
    rw [e1]
    simp only [Option.bind_some]
    rw [if_pos (by omega), wid (n + 1) (by omega) (by omega)]
    refine places_loop l hl d k _ _ _ _ (by omega) (by omega) (by simp; omega) (by omega) (by omega) c1 (fun x hx' => ?_)
    rcases List.mem_append.mp hx' with hx' | hx'
    · exact hx x hx'
    · simp at hx'
      subst hx'
      exact ⟨v0, v2⟩
theorem drawPlaces_some (l : List Int) (hl : l.length ≤ 140737488351232) (k : Nat) (hk : l.length + 30 < k) : ∃ o, spec_DrawPlaces.f k l = some o ∧ o.length = 12 ∧ ∀ i, i < 12 → 0 ≤ rd o ((i : Nat) : Int) ∧ rd o ((i : Nat) : Int) < 10000 := by
  unfold spec_DrawPlaces.f
  obtain ⟨x0, e0⟩ := new_some l hl k (by omega)
  rw [e0]
  simp only [Option.bind_some]
  obtain ⟨o, e, h1, h2⟩ := places_loop l hl 12 k [] 0 0 x0 (by omega) (by omega) (by simp) (by omega) (by omega) (by omega) (by simp)
  refine ⟨o, e, h1, fun i hi => ?_⟩
  have e2 : rd o ((i : Nat) : Int) = o.getD i 0 := rfl
  rw [e2, getD_at_ 0 (by omega)]
  exact h2 _ (List.getElem_mem _)
theorem isOpen_is (a b : List S55) (k : Nat) (hk : 21 < k) (ha : goodS a 168) (hb : goodS b 20000) (t : Int) (t0 : 0 ≤ t) (t1 : t ≤ 19999) : impl_IsOpen.f k a b t = some (opn a b t) := by
  unfold impl_IsOpen.f impl_WeekOk.f
  rw [good_ok a 168 ha k hk, good_ok b 20000 hb k hk, within_eq, isOpen_eq a b ha.1 hb.1 t k (by omega)]
  simp [t0, t1]
theorem weekOk_is (a b : List S55) (k : Nat) (hk : 21 < k) (ha : goodS a 168) (hb : goodS b 20000) : impl_WeekOk.f k a b = some true := by
  unfold impl_WeekOk.f
  rw [good_ok a 168 ha k hk, good_ok b 20000 hb k hk]
  simp

theorem cnt_last (g : Int → Bool) (d : Nat) (t : Int) : cnt g (d + 1) t = cnt g d t + (if g (t + d) = true then 1 else 0) := by
  rw [cnt_add]; simp [cnt]
theorem aft_law (g : Int → Bool) : ∀ (d : Nat) (t n : Int), 0 ≤ n → (20000 - t).toNat = d → t ≤ 20000 →
    ((aft g d t n).2 = false → cnt g d t < n) ∧ ((aft g d t n).2 = true → t ≤ (aft g d t n).1 ∧ (aft g d t n).1 ≤ 20000 ∧ cnt g ((aft g d t n).1 - t).toNat t = n ∧ (n = 0 → (aft g d t n).1 = t) ∧ (0 < n → t < (aft g d t n).1 ∧ g ((aft g d t n).1 - 1) = true))
  | 0, t, n, n0, hd, ht => by
    simp only [aft, cnt]
    by_cases c : n = 0
    · simp [c, cnt]; omega
    · simp [c]; omega
  | d + 1, t, n, n0, hd, ht => by
    simp only [aft]
    by_cases c : n = 0
    · simp [c, cnt]; omega
    · rw [if_neg c]
      by_cases o : g t = true
      · rw [if_pos o]
        obtain ⟨h1, h2⟩ := aft_law g d (t + 1) (n - 1) (by omega) (by omega) (by omega)
        refine ⟨fun h => ?_, fun h => ?_⟩
        · have := h1 h
          simp only [cnt, if_pos o]; omega
        · obtain ⟨q1, q2, q3, q4, q5⟩ := h2 h
          refine ⟨by omega, q2, ?_, fun e => absurd e c, fun _ => ⟨by omega, ?_⟩⟩
          · rw [show ((aft g d (t + 1) (n - 1)).1 - t).toNat = ((aft g d (t + 1) (n - 1)).1 - (t + 1)).toNat + 1 by omega]
            simp only [cnt, if_pos o, q3]; omega
          · by_cases c1 : n - 1 = 0
            · rw [q4 c1, show t + 1 - 1 = t by omega]; exact o
            · exact (q5 (by omega)).2
      · rw [if_neg o]
        obtain ⟨h1, h2⟩ := aft_law g d (t + 1) n (by omega) (by omega) (by omega)
        refine ⟨fun h => ?_, fun h => ?_⟩
        · have := h1 h
          simp only [cnt, if_neg o]; omega
        · obtain ⟨q1, q2, q3, q4, q5⟩ := h2 h
          refine ⟨by omega, q2, ?_, fun e => absurd e c, fun h0 => ⟨by omega, (q5 h0).2⟩⟩
          rw [show ((aft g d (t + 1) n).1 - t).toNat = ((aft g d (t + 1) n).1 - (t + 1)).toNat + 1 by omega]
          simp only [cnt, if_neg o, q3]; omega
theorem bef_law (g : Int → Bool) : ∀ (d : Nat) (t n : Int), 0 ≤ n → (20000 - t).toNat = d → t ≤ 20000 →
    (bef g d t n).2 = true ∧ t ≤ (bef g d t n).1 ∧ (bef g d t n).1 ≤ 20000 ∧ cnt g ((bef g d t n).1 - t).toNat t ≤ n ∧ ((bef g d t n).1 < 20000 → cnt g ((bef g d t n).1 + 1 - t).toNat t = n + 1)
  | 0, t, n, n0, hd, ht => by
    simp only [bef]
    rw [show (20000 - t).toNat = 0 by omega]
    exact ⟨by first | trivial | rfl, by omega, by omega, n0, fun h => by omega⟩
  | d + 1, t, n, n0, hd, ht => by
    simp only [bef]
    by_cases o : g t = true
    · rw [if_pos o]
      by_cases c : n = 0
      · rw [if_pos c]
        refine ⟨by first | trivial | rfl, by omega, by omega, ?_, fun _ => ?_⟩
        · rw [show (t - t).toNat = 0 by omega]; exact n0
        · show cnt g (t + 1 - t).toNat t = n + 1
          rw [show (t + 1 - t).toNat = 1 by omega]
          simp [cnt, o, c]
      · rw [if_neg c]
        obtain ⟨q1, q2, q3, q4, q5⟩ := bef_law g d (t + 1) (n - 1) (by omega) (by omega) (by omega)
        refine ⟨q1, by omega, q3, ?_, fun h => ?_⟩
        · rw [show ((bef g d (t + 1) (n - 1)).1 - t).toNat = ((bef g d (t + 1) (n - 1)).1 - (t + 1)).toNat + 1 by omega]
          simp only [cnt, if_pos o]; omega
        · have := q5 h
          rw [show ((bef g d (t + 1) (n - 1)).1 + 1 - t).toNat = ((bef g d (t + 1) (n - 1)).1 + 1 - (t + 1)).toNat + 1 by omega]
          simp only [cnt, if_pos o]; omega
    · rw [if_neg o]
      obtain ⟨q1, q2, q3, q4, q5⟩ := bef_law g d (t + 1) n (by omega) (by omega) (by omega)
      refine ⟨q1, by omega, q3, ?_, fun h => ?_⟩
      · rw [show ((bef g d (t + 1) n).1 - t).toNat = ((bef g d (t + 1) n).1 - (t + 1)).toNat + 1 by omega]
        simp only [cnt, if_neg o]; omega
      · have := q5 h
        rw [show ((bef g d (t + 1) n).1 + 1 - t).toNat = ((bef g d (t + 1) n).1 + 1 - (t + 1)).toNat + 1 by omega]
        simp only [cnt, if_neg o]; omega
theorem pureFnAfterOpen : ∀ (l0 : List Int), ok33 l0 → ∃ k, laws_FnAfterOpen.f k l0 = some true := by
  rintro l _
  refine ⟨l.length + 21201, ?_⟩
  unfold laws_FnAfterOpen.f laws_big.f
  simp only [Option.bind_some]
  by_cases hb : decide ((l.length : Int) > 1048576) = true
  · rw [if_pos hb]
  · rw [if_neg hb]
    have hl : l.length ≤ 140737488351232 := by simp at hb; omega
    obtain ⟨a, b, e1, ga, gb⟩ := drawWeek_some l hl (l.length + 21201) (by omega)
    obtain ⟨p, e2, hp, hx⟩ := drawPlaces_some l hl (l.length + 21201) (by omega)
    rw [e1, e2]
    simp only [Option.bind_some]
    rw [if_pos (by omega), if_pos (by omega)]
    have x0 := hx 0 (by omega)
    have x1 := hx 1 (by omega)
    simp only [Int.ofNat_zero, Int.cast_ofNat_Int] at x0 x1
    generalize rd p 0 = p0 at *
    generalize rd p 1 = p1 at *
    have m0 := tmod_in p0 500 x0.1 (by omega)
    have m1 := tmod_in p1 60 x1.1 (by omega)
    generalize Int.tmod p0 500 = x at *
    generalize Int.tmod p1 60 = n at *
    obtain ⟨k, ek2⟩ : ∃ k, l.length + 21201 = k + 1 := ⟨l.length + 21200, rfl⟩
    have ek : 21200 ≤ k := by omega
    rw [ek2]
    have hw := weekOk_is a b (k + 1) (by omega) ga gb
    have hh := hours_is a b (k + 1) (by omega) true hw (fun _ => ⟨ga.1, gb.1⟩)
    have hh2 := hours_is a b k (by omega) true (weekOk_is a b k (by omega) ga gb) (fun _ => ⟨ga.1, gb.1⟩)
    have i1 := aft_is a b (k + 1) (by omega) true hw (fun _ => ⟨ga.1, gb.1⟩) x n (by omega)
    have i2 := bef_is a b (k + 1) (by omega) true hw (fun _ => ⟨ga.1, gb.1⟩) x n (by omega)
    rw [aftV, if_pos ⟨rfl, m1.1, by omega⟩] at i1
    rw [befV, if_pos ⟨rfl, m1.1, by omega⟩] at i2
    obtain ⟨q1, q2⟩ := aft_law (opn a b) (20000 - x).toNat x n m1.1 rfl (by omega)
    obtain ⟨b1, b2, b3, b4, b5⟩ := bef_law (opn a b) (20000 - x).toNat x n m1.1 rfl (by omega)
    have hv : ∀ y, x ≤ y → y ≤ 20000 → hoursV true a b x y = cnt (opn a b) (y - x).toNat x := fun y h1 h2 => by
      unfold hoursV
      rw [if_pos ⟨rfl, by omega, by omega⟩]
    generalize aft (opn a b) (20000 - x).toNat x n = A at *
    generalize bef (opn a b) (20000 - x).toNat x n = B at *
    obtain ⟨t, ok⟩ := A
    obtain ⟨u, is⟩ := B
    dsimp only at q1 q2 b1 b2 b3 b4 b5
    subst b1
    simp only [i1, i2, Option.bind_some, if_true, hh]
    rw [if_neg (by omega), if_neg (by omega), hv u b2 b3, if_neg (by omega)]
    have fin : laws_FnAfterOpen.j0 (k + 1) x n t ok u false a b = some true := by
      simp only [laws_FnAfterOpen.j0, hh2, Option.bind_some]
      rw [if_neg (by simp)]
      cases ok
      · simp only [Bool.false_eq_true, if_false]
        rw [hv 20000 (by omega) (by omega)]
        have := q1 rfl
        simp only [decide_eq_true this]
      · obtain ⟨t0, t1, t2, t3, t4⟩ := q2 rfl
        have tu : t ≤ u := by
          by_cases c : u < 20000
          · have h5 := b5 c
            apply Classical.byContradiction
            intro hc
            have e := cnt_add (opn a b) (u + 1 - x).toNat (t - (u + 1)).toNat x
            rw [show (u + 1 - x).toNat + (t - (u + 1)).toNat = (t - x).toNat by omega] at e
            have := cnt_nonneg (opn a b) (t - (u + 1)).toNat (x + ((u + 1 - x).toNat : Int))
            omega
          · omega
        rw [if_pos rfl, if_pos (by omega), if_pos tu, hv t t0 t1, if_pos t2]
        by_cases n0 : n = 0
        · rw [if_pos n0, if_pos (t3 n0)]
        · rw [if_neg n0, if_pos (by omega)]
          obtain ⟨w1, w2⟩ := t4 (by omega)
          rw [wid (t - 1) (by omega) (by omega), isOpen_is a b k (by omega) ga gb (t - 1) (by omega) (by omega), w2]
          rfl
    by_cases c : u < 20000
    · rw [if_pos c, wid (u + 1) (by omega) (by omega), wid (n + 1) (by omega) (by omega), hv (u + 1) (by omega) (by omega), b5 c]
      simp only [bne_self_eq_false]
      exact fin
    · rw [if_neg c]
      exact fin

end Go.Proofs.Ytpcgefkjeicmlaa.A
