/- The pure statement of the law FnClamped: its function answers true for all arguments that can be read; no further condition. -/
import Derived.Test.YtdijpjlmdbmdaaaAx2
import Derived.Test.YtdijpjlmdbmdaaaOp
namespace Go.Proofs.Ytdijpjlmdbmdaaa.A
open Go.RowKit Go.Proofs.YtdijpjlmdbmdaaaW.PrintWords Go.Proofs.YtdijpjlmdbmdaaaW.PrintLast Go.Proofs.YtdijpjlmdbmdaaaW.PrintMore
set_option linter.unusedVariables false
set_option linter.unusedSimpArgs false

theorem and255 (n : Int) : Go.bits .and .i64 n 255 = n % 256 := by
  have h255 : (BitVec.ofInt 64 255).toNat = 2 ^ 8 - 1 := by decide
  have key : (BitVec.ofInt 64 n &&& BitVec.ofInt 64 255).toNat = (n % ((2 ^ 64 : Nat) : Int)).toNat % 2 ^ 8 := by
    rw [BitVec.toNat_and, BitVec.toNat_ofInt, h255, Nat.and_two_pow_sub_one_eq_mod]
  show IntKind.i64.wrap ((BitVec.ofInt 64 n &&& BitVec.ofInt 64 255).toNat : Nat) = n % 256
  rw [key, IntKind.wrap_i64]
  omega

/-- A new reader of draws: its list is the list that came in. -/
theorem new_loop (l : List Int) (hl : l.length ≤ 140737488351232) (d : Nat) : ∀ (k : Nat) (h i : Int), 0 ≤ i → (l.length : Int) - i ≤ d → d < k → ∃ h', spec_l01New.l0 k l h i = some (l, 0, h') := by
  induction d with
  | zero =>
    intro k h i h0 hd hk
    obtain ⟨k, rfl⟩ : ∃ m, k = m + 1 := ⟨k - 1, by omega⟩
    simp only [spec_l01New.l0]
    rw [if_neg (by omega)]
    exact ⟨_, rfl⟩
  | succ d ih =>
    intro k h i h0 hd hk
    obtain ⟨k, rfl⟩ : ∃ m, k = m + 1 := ⟨k - 1, by omega⟩
    simp only [spec_l01New.l0]
    by_cases h1 : i < (l.length : Int)
    · rw [if_pos h1]
      by_cases h2 : i < 4000
      · rw [if_pos h2, if_pos h0]
        have e : wrap64 (i + 1) = i + 1 := by unfold wrap64; omega
        rw [e]
        exact ih k _ _ (by omega) (by omega) (by omega)
      · rw [if_neg h2]
        exact ⟨_, rfl⟩
    · rw [if_neg h1]
      exact ⟨_, rfl⟩

theorem new_some (l : List Int) (hl : l.length ≤ 140737488351232) (k : Nat) (hk : l.length < k) : ∃ h', spec_l01New.f k l = some (l, 0, h') :=
  new_loop l hl l.length k _ 0 (by omega) (by omega) hk

theorem byte_some (l : List Int) (hl : l.length ≤ 140737488351232) (i h : Int) (hi : 0 ≤ i) : ∃ v i' h', spec_l01Byte.f l i h = some (v, i', h') ∧ 0 ≤ v ∧ v ≤ 255 ∧ 0 ≤ i' := by
  unfold spec_l01Byte.f
  simp only [and255]
  by_cases h1 : i < (l.length : Int)
  · rw [if_pos h1, if_pos hi]
    have e : wrap64 (i + 1) = i + 1 := by unfold wrap64; omega
    rw [e]
    exact ⟨_, _, _, rfl, by omega, by omega, by omega⟩
  · rw [if_neg h1]
    exact ⟨_, _, _, rfl, by omega, by omega, by omega⟩

theorem tmod_in (x n : Int) (hx : 0 ≤ x) (hn : 0 < n) : 0 ≤ Int.tmod x n ∧ Int.tmod x n < n :=
  ⟨Int.tmod_nonneg n hx, Int.tmod_lt_of_pos x hn⟩

theorem below_some (l : List Int) (hl : l.length ≤ 140737488351232) (i h n : Int) (hi : 0 ≤ i) : ∃ v i' h', spec_l01Below.f l i h n = some (v, i', h') ∧ 0 ≤ v ∧ (n ≤ 0 → v = 0) ∧ (0 < n → v < n) ∧ 0 ≤ i' := by
  unfold spec_l01Below.f
  by_cases h0 : n ≤ 0
  · rw [if_pos h0]
    exact ⟨_, _, _, rfl, by omega, fun _ => rfl, fun _ => by omega, hi⟩
  · rw [if_neg h0]
    have hne : ¬ n = 0 := by omega
    by_cases h1 : n ≤ 256
    · rw [if_pos h1]
      obtain ⟨v, i1, x1, e1, a1, b1, c1⟩ := byte_some l hl i h hi
      rw [e1]
      simp only [Option.bind_some]
      rw [if_neg hne]
      exact ⟨_, _, _, rfl, (tmod_in v n a1 (by omega)).1, fun _ => by omega, fun _ => (tmod_in v n a1 (by omega)).2, c1⟩
    · rw [if_neg h1]
      obtain ⟨v1, i1, x1, e1, a1, b1, c1⟩ := byte_some l hl i h hi
      rw [e1]
      simp only [Option.bind_some]
      obtain ⟨v2, i2, x2, e2, a2, b2, c2⟩ := byte_some l hl i1 x1 c1
      rw [e2]
      simp only [Option.bind_some]
      obtain ⟨v3, i3, x3, e3, a3, b3, c3⟩ := byte_some l hl i2 x2 c2
      rw [e3]
      simp only [Option.bind_some]
      obtain ⟨v4, i4, x4, e4, a4, b4, c4⟩ := byte_some l hl i3 x3 c3
      rw [e4]
      simp only [Option.bind_some]
      rw [if_neg hne]
      have w : wrap64 ((wrap64 ((wrap64 ((wrap64 (v1 * 16777216)) + (wrap64 (v2 * 65536)))) + (wrap64 (v3 * 256)))) + v4) = v1 * 16777216 + v2 * 65536 + v3 * 256 + v4 := by
        unfold wrap64; omega
      rw [w]
      exact ⟨_, _, _, rfl, (tmod_in _ n (by omega) (by omega)).1, fun _ => by omega, fun _ => (tmod_in _ n (by omega) (by omega)).2, c4⟩

theorem once_some (l : List Int) (hl : l.length ≤ 140737488351232) (i h n : Int) (hi : 0 ≤ i) : ∃ (b : Bool) (i' h' : Int), spec_l01Once.f l i h n = some (b, i', h') ∧ 0 ≤ i' := by
  obtain ⟨v, i1, x1, e1, _, _, _, c1⟩ := below_some l hl i h n hi
  unfold spec_l01Once.f
  rw [e1]
  exact ⟨_, _, _, rfl, c1⟩

theorem getD_at_ {α : Type} {l : List α} {i : Nat} (d : α) (h : i < l.length) : l.getD i d = l[i] := by
  rw [List.getD_eq_getElem?_getD, List.getElem?_eq_getElem h]; rfl
theorem pickint_some (l : List Int) (hl : l.length ≤ 140737488351232) (i h : Int) (xs : List Int) (hx : 0 < xs.length) (hi : 0 ≤ i) : ∃ v i' h', spec_l01PickInt.f l i h xs = some (v, i', h') ∧ v ∈ xs ∧ 0 ≤ i' := by
  obtain ⟨v, i1, x1, e1, a1, _, b1, c1⟩ := below_some l hl i h (xs.length : Int) hi
  unfold spec_l01PickInt.f
  rw [e1]
  simp only [Option.bind_some]
  have b2 := b1 (by omega)
  rw [if_pos a1, if_pos b2]
  refine ⟨_, _, _, rfl, ?_, c1⟩
  unfold rd
  rw [getD_at_ _ (show v.toNat < xs.length by omega)]
  exact List.getElem_mem _

theorem number_some (l : List Int) (hl : l.length ≤ 140737488351232) (i h : Int) (hi : 0 ≤ i) : ∃ v i' h', spec_l01Number.f l i h = some (v, i', h') ∧ 0 ≤ i' := by
  obtain ⟨v, i1, x1, e1, _, _, _, c1⟩ := below_some l hl i h 4 hi
  unfold spec_l01Number.f
  rw [e1]
  simp only [Option.bind_some]
  by_cases h0 : v = 0
  · rw [if_pos h0]
    obtain ⟨v2, i2, x2, e2, _, c2⟩ := pickint_some l hl i1 x1 [(-1), 0, 127, 128, 16383, 16384, 1000000000, 1000000001, 9223372036854775807, (-9223372036854775808)] (by simp) c1
    rw [e2]
    exact ⟨_, _, _, rfl, c2⟩
  · rw [if_neg h0]
    by_cases h1 : v = 1
    · rw [if_pos h1]
      obtain ⟨v2, i2, x2, e2, _, _, _, c2⟩ := below_some l hl i1 x1 1000000000 c1
      rw [e2]
      exact ⟨_, _, _, rfl, c2⟩
    · rw [if_neg h1]
      obtain ⟨v2, i2, x2, e2, _, _, _, c2⟩ := below_some l hl i1 x1 400 c1
      rw [e2]
      exact ⟨_, _, _, rfl, c2⟩

theorem draw_some (l : List Int) (hl : l.length ≤ 140737488351232) (k : Nat) (hk : l.length < k) : ∃ n a b, spec_DrawClamp.f k l = some (n, a, b) := by
  unfold spec_DrawClamp.f
  obtain ⟨x0, e0⟩ := new_some l hl k hk
  rw [e0]
  simp only [Option.bind_some]
  obtain ⟨b, i1, x1, e1, c1⟩ := once_some l hl 0 x0 4 (by omega)
  rw [e1]
  simp only [Option.bind_some]
  by_cases hb : b = true
  · rw [if_pos hb]
    obtain ⟨v2, i2, x2, e2, c2⟩ := number_some l hl i1 x1 c1
    rw [e2]
    simp only [Option.bind_some]
    obtain ⟨v3, i3, x3, e3, c3⟩ := number_some l hl i2 x2 c2
    rw [e3]
    simp only [Option.bind_some]
    obtain ⟨v4, i4, x4, e4, c4⟩ := number_some l hl i3 x3 c3
    rw [e4]
    exact ⟨_, _, _, rfl⟩
  · rw [if_neg hb]
    obtain ⟨v2, i2, x2, e2, _, _, _, c2⟩ := below_some l hl i1 x1 40 c1
    rw [e2]
    simp only [Option.bind_some]
    obtain ⟨v3, i3, x3, e3, _, _, _, c3⟩ := below_some l hl i2 x2 80 c2
    rw [e3]
    simp only [Option.bind_some]
    obtain ⟨v4, i4, x4, e4, _, _, _, c4⟩ := below_some l hl i3 x3 30 c3
    rw [e4]
    exact ⟨_, _, _, rfl⟩

theorem pureFnClamped : ∀ (l0 : List Int), ok48 l0 → ∃ k, laws_FnClamped.f k l0 = some true := by
  intro l _
  refine ⟨l.length + 1, ?_⟩
  unfold laws_FnClamped.f laws_big.f
  simp only [Option.bind_some]
  by_cases hb : decide ((l.length : Int) > 1048576) = true
  · rw [if_pos hb]
  · rw [if_neg hb]
    have hl : l.length ≤ 140737488351232 := by simp at hb; omega
    obtain ⟨n, a, b, e⟩ := draw_some l hl (l.length + 1) (by omega)
    rw [e]
    have e7 : impl_Clamp.f 7 3 5 = some 5 := rfl
    simp only [Option.bind_some, e7]
    unfold impl_Clamp.f
    simp only [mn]
    by_cases h1 : b < a
    · simp [h1]
    · by_cases h2 : n < a
      · have h3 : a ≤ b := by omega
        simp [h1, h2, h3]
      · by_cases h3 : b < n
        · have h4 : a ≤ b := by omega
          simp [h1, h2, h3, h4]
        · have h4 : a ≤ n := by omega
          have h5 : n ≤ b := by omega
          simp [h1, h2, h3, h4, h5]

end Go.Proofs.Ytdijpjlmdbmdaaa.A
