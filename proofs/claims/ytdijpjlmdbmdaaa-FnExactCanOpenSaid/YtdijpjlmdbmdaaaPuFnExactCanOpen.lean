/- The pure statement of the law FnExactCanOpen: its function answers true for all arguments that can be read; no further condition. -/
import Derived.Test.YtdijpjlmdbmdaaaAx4
import Derived.Test.YtdijpjlmdbmdaaaOp
namespace Go.Proofs.Ytdijpjlmdbmdaaa.A
open Go.RowKit Go.Proofs.YtdijpjlmdbmdaaaW.PrintWords Go.Proofs.YtdijpjlmdbmdaaaW.PrintLast Go.Proofs.YtdijpjlmdbmdaaaW.PrintMore
set_option linter.unusedVariables false
set_option linter.unusedSimpArgs false

theorem within_eq (a b c : Int) : impl_within.f a b c = some (decide (b ≤ a ∧ a ≤ c)) := by
  unfold impl_within.f
  split
  · congr 1; rw [decide_eq_decide]; omega
  · congr 1; exact (decide_eq_false (by omega)).symm
theorem in_eq (a b c : Int) : spec_l01In.f a b c = some (decide (b ≤ a ∧ a ≤ c)) := by
  unfold spec_l01In.f
  split
  · congr 1; rw [decide_eq_decide]; omega
  · congr 1; exact (decide_eq_false (by omega)).symm

abbrev PadP (a b : Int) : Prop := 1 ≤ a ∧ a ≤ 2147483646 ∧ 0 ≤ b ∧ b ≤ 1000001
theorem padok_eq (a b : Int) : impl_PadOk.f a b = some (decide (PadP a b)) := by
  unfold impl_PadOk.f impl_secretOk.f
  simp only [within_eq, Option.bind_some, decide_eq_true_eq]
  split
  · congr 1; rw [decide_eq_decide]; omega
  · congr 1; exact (decide_eq_false (by omega)).symm
theorem padok_spec (a b : Int) : spec_PadOk.f a b = some (decide (PadP a b)) := by
  rw [← padok_eq]; rfl

abbrev LockP (a b c d e : Int) : Prop := 1 ≤ a ∧ a ≤ 2147483646 ∧ 0 ≤ b ∧ b ≤ 1000001 ∧ 0 ≤ c ∧ c ≤ 2 ∧ 0 ≤ d ∧ d ≤ 6 ∧ 0 ≤ e ∧ e ≤ 20064
theorem lockok_eq (a b c d e : Int) : impl_LockOk.f a b c d e = some (decide (LockP a b c d e)) := by
  unfold impl_LockOk.f impl_secretOk.f
  simp only [within_eq, Option.bind_some, decide_eq_true_eq]
  repeat' split
  all_goals first
    | (congr 1; rw [decide_eq_decide]; omega)
    | (congr 1; exact (decide_eq_false (by omega)).symm)
theorem lockok_spec (a b c d e : Int) : spec_LockOk.f a b c d e = some (decide (LockP a b c d e)) := by
  rw [← lockok_eq]; rfl

theorem canopen_eq (a b c d e f g : Int) : spec_CanOpen.f a b c d e f g = impl_CanOpen.f a b c d e f g := by
  unfold spec_CanOpen.f impl_CanOpen.f impl_countOk.f
  simp only [padok_eq, padok_spec, lockok_eq, lockok_spec, within_eq, in_eq, Option.bind_some, decide_eq_true_eq]
  by_cases h : PadP a b
  · rw [if_pos h, if_pos h]

    by_cases h2 : LockP c d e f g
    · rw [if_pos h2, if_pos h2]
      by_cases h3 : a = c
      · rw [if_pos h3, if_pos h3]
        by_cases h4 : b ≤ 1000000
        · rw [if_pos h4, if_pos ⟨h.2.2.1, h4⟩]
        · rw [if_neg h4, if_neg (fun h => h4 h.2)]
      · rw [if_neg h3, if_neg h3]
    · rw [if_neg h2, if_neg h2]
  · rw [if_neg h, if_neg h]
theorem canopen_some (a b c d e f g : Int) : ∃ r, impl_CanOpen.f a b c d e f g = some r := by
  unfold impl_CanOpen.f impl_countOk.f
  simp only [padok_eq, lockok_eq, within_eq, Option.bind_some, decide_eq_true_eq]
  repeat' split
  all_goals exact ⟨_, rfl⟩
theorem pureFnExactCanOpen : ∀ (a0 : S24) (a1 : S34), ok24 a0 → ok34 a1 → laws_FnExactCanOpen.f a0.f0 a0.f1 a1.f0 a1.f1 a1.f2 a1.f3 a1.f4 = some true := by
  intro a0 a1 _ _
  unfold laws_FnExactCanOpen.f laws_toPad.f laws_toLock.f
  simp only [Option.bind_some, canopen_eq]
  obtain ⟨r, hr⟩ := canopen_some a0.f0 a0.f1 a1.f0 a1.f1 a1.f2 a1.f3 a1.f4
  simp [hr]

end Go.Proofs.Ytdijpjlmdbmdaaa.A
