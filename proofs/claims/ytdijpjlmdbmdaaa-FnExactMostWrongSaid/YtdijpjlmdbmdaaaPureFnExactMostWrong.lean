/- The pure statement of the law FnExactMostWrong: its function answers true for all arguments within the row's bounds; no further condition. -/
import Derived.Test.YtdijpjlmdbmdaaaPFnExactMostWrongx1
namespace Go.Proofs.Ytdijpjlmdbmdaaa.Pure
open Go.RowKit Go.Proofs.Ytdijpjlmdbmdaaa.PFnExactMostWrong Go.Proofs.YtdijpjlmdbmdaaaW.PrintWords Go.Proofs.YtdijpjlmdbmdaaaW.PrintLast
set_option linter.unusedVariables false

theorem power (p : Int) (k : Nat) (h0 : 0 ≤ p) (h1 : p ≤ 6) : spec_l03Power.f (k + 8) p = some (shl .i64 1 p) := by
  have h : p = 0 ∨ p = 1 ∨ p = 2 ∨ p = 3 ∨ p = 4 ∨ p = 5 ∨ p = 6 := by omega
  rcases h with rfl | rfl | rfl | rfl | rfl | rfl | rfl <;> simp [spec_l03Power.f, spec_l03Power.l0, wrap64, shl, IntKind.wrap_i64, IntKind.bits]

theorem power_pos (p : Int) (h0 : 0 ≤ p) (h1 : p ≤ 6) : 1 ≤ shl .i64 1 p ∧ shl .i64 1 p ≤ 64 := by
  have h : p = 0 ∨ p = 1 ∨ p = 2 ∨ p = 3 ∨ p = 4 ∨ p = 5 ∨ p = 6 := by omega
  rcases h with rfl | rfl | rfl | rfl | rfl | rfl | rfl <;> decide

theorem loops (x : Int) (hx : 0 ≤ x) (hx1 : x ≤ 20000) (d : Nat) : ∀ (k : Nat) (n t p : Int), 0 ≤ t → t ≤ x + 64 → 0 ≤ p → p ≤ 6 → x + 65 - t ≤ d → d + 9 < k →
    ∃ r, spec_MostWrong.l0 k x n t p = some r ∧ impl_MostWrong.l0 k x n t p = some r := by
  induction d with
  | zero => intro k n t p h0 h1 h2 h3 hd hk; omega
  | succ d ih =>
    intro k n t p h0 h1 h2 h3 hd hk
    obtain ⟨k, rfl⟩ : ∃ m, k = m + 1 := ⟨k - 1, by omega⟩
    simp only [spec_MostWrong.l0, impl_MostWrong.l0]
    by_cases ht : t ≤ x
    · obtain ⟨m, rfl⟩ : ∃ m, k = m + 8 := ⟨k - 8, by omega⟩
      obtain ⟨q1, q2⟩ := power_pos p h2 h3
      rw [if_pos ht, if_pos hx1, if_pos ht, if_pos h2, power p m h2 h3]
      simp only [Option.bind_some]
      have e1 : wrap64 (p + 1) = p + 1 := by unfold wrap64; omega
      have e2 : wrap64 (t + shl .i64 1 p) = t + shl .i64 1 p := by unfold wrap64; omega
      have e3 : mn (p + 1) 6 = mn 6 (p + 1) := by unfold mn; split <;> split <;> omega
      have e4 : 0 ≤ mn 6 (p + 1) ∧ mn 6 (p + 1) ≤ 6 := by unfold mn; split <;> omega
      rw [e1, e2, e3]
      exact ih _ _ _ _ (by omega) (by omega) e4.1 e4.2 (by omega) (by omega)
    · rw [if_neg ht, if_neg ht]
      exact ⟨_, rfl, rfl⟩

theorem FnExactMostWrong : laws_FnExactMostWrong.Pure := by
  intro x _
  by_cases hx : 0 ≤ x
  · by_cases hx1 : x ≤ 20000
    · obtain ⟨r, h1, h2⟩ := loops x hx hx1 (x + 65).toNat ((x + 65).toNat + 10) 0 0 0 (by omega) (by omega) (by omega) (by omega) (by omega) (by omega)
      refine ⟨(x + 65).toNat + 10, ?_⟩
      unfold laws_FnExactMostWrong.f spec_MostWrong.f impl_MostWrong.f impl_timeOk.f impl_within.f
      simp [h1, h2, hx, hx1]
    · refine ⟨1, ?_⟩
      unfold laws_FnExactMostWrong.f spec_MostWrong.f impl_MostWrong.f impl_timeOk.f impl_within.f
      simp [spec_MostWrong.l0, hx, hx1]
  · refine ⟨1, ?_⟩
    unfold laws_FnExactMostWrong.f spec_MostWrong.f impl_MostWrong.f impl_timeOk.f impl_within.f
    simp [spec_MostWrong.l0, hx]

end Go.Proofs.Ytdijpjlmdbmdaaa.Pure
