/- How an argument that reads as data opens to a Lean value: one lemma a type of the laws' parameters; no condition beyond the reading. -/
import Derived.Test.YtghfeapncmlihaaAx0
import Derived.ProofKit
import Derived.OpenShut
import Derived.ShutString
import Derived.ChangeOld
import Derived.SizedLaws
import Derived.ChangeArms
namespace Go.Proofs.Ytghfeapncmlihaa.A
open Go.ChangeShapes Go.WideShapes Go.ChangeAt Go.RowKit Go.Proofs.YtghfeapncmlihaaW.PrintWords Go.Proofs.YtghfeapncmlihaaW.PrintLast
set_option linter.unusedVariables false
set_option linter.unusedSimpArgs false
/-- Whatever reads as data of type t opens to a Lean value of kind d, of which ok is known. -/
def Opn {α : Type} (P : Program) (t : TypeId) (d : Kd α) (ok : α → Prop) : Prop :=
  ∀ {H : Type} {enc : TypeId × Value → H} (w : World) (fuel : Nat) (cs : List Value) (x : DataW H × List MemPlace),
    DataW.trod enc P w 0 (fun _ => true) true fuel t cs = some x → ∃ a, d.K w a cs ∧ ok a
theorem opn_int {P : Program} {t : TypeId} {k : IntKind} (ht : P.underlying t = some (.int k)) : Opn P t (Kd.int k) (fun a => (Lit.int k a).wf = true) := by
  intro H enc w fuel cs x h
  obtain ⟨n, rfl, _, hw⟩ := DataW.trod_int ht h
  exact ⟨n, rfl, hw⟩
theorem opn_bool {P : Program} {t : TypeId} (ht : P.underlying t = some .bool) : Opn P t Kd.bool (fun _ => True) := by
  intro H enc w fuel cs x h
  obtain ⟨b, rfl, _⟩ := DataW.trod_bool ht h
  exact ⟨b, rfl, trivial⟩
theorem opn_string {P : Program} {t : TypeId} (ht : P.underlying t = some .string) : Opn P t Kd.string (fun s => s.size ≤ maxLen) := by
  intro H enc w fuel cs x h
  obtain ⟨b, rfl, _, hs⟩ := DataW.trod_string ht h
  exact ⟨b, rfl, hs⟩
theorem add_add_ (a : Addr) (i j : Nat) : (a.add i).add j = a.add (i + j) := by
  unfold Addr.add
  by_cases hi : i = 0
  · subst hi; simp
  · by_cases hj : j = 0
    · subst hj; simp
    · rw [if_neg hi, if_neg hj, if_neg (by omega)]
      simp; omega
theorem cells_at {w : World} {base : Nat} {a : Addr} {n : Nat} {cs : List Value} (h : w.cells? base a n = some cs) : cs.length = n ∧ ∀ i u, cs[i]? = some u → w.cell? (a.add i) = some u := by
  unfold World.cells? at h
  split at h
  · have l := mapM_some_length h
    simp only [List.length_range] at l
    refine ⟨l, fun i u hu => ?_⟩
    have hi := (List.getElem?_eq_some_iff.1 hu).1
    have := mapM_some_get h i i (by simp [show i < n by omega])
    rw [this]; exact hu
  · cases h
theorem choose_list {α : Type} {Q : Nat → α → Prop} (m : Nat) (h : ∀ i, i < m → ∃ v, Q i v) : ∃ l : List α, l.length = m ∧ ∀ i v, l[i]? = some v → Q i v := by
  induction m with
  | zero => exact ⟨[], rfl, fun i v hv => by simp at hv⟩
  | succ m ih =>
    obtain ⟨l, hl, hq⟩ := ih (fun i hi => h i (by omega))
    obtain ⟨v, hv⟩ := h m (by omega)
    refine ⟨l ++ [v], by simp [hl], fun i u hu => ?_⟩
    rcases Nat.lt_trichotomy i m with hi | hi | hi
    · rw [List.getElem?_append_left (by omega)] at hu
      exact hq i u hu
    · subst hi
      rw [List.getElem?_append_right (by omega), hl, Nat.sub_self] at hu
      have : v = u := by simpa using hu
      exact this ▸ hv
    · rw [List.getElem?_eq_none (by simp; omega)] at hu
      cases hu
theorem opn_slice {α : Type} {P : Program} {t e : TypeId} {d : Kd α} {ok : α → Prop} (ht : P.underlying t = some (.slice e)) (hs : P.cellsOf e = d.sz) (ho : Opn P e d ok) :
    Opn P t (Kd.slice e d) (fun l => l.length ≤ maxLen ∧ ∀ x ∈ l, ok x) := by
  intro H enc w fuel cs x h
  rcases DataW.trod_slice ht h with ⟨rfl, _⟩ | ⟨a, len, cap, elems, rest, n, _, rfl, _, _, hl, hm, hlen, hel, _, _⟩
  · exact ⟨[], ⟨none, 0, rfl, Nat.le_refl _, rfl, Nat.zero_le _, fun h => absurd h (by simp)⟩, by simp, by simp⟩
  · have each : ∀ i, i < len → ∃ v, ok v ∧ ∃ c, c.length = d.sz ∧ d.K w v c ∧ ∀ j u, c[j]? = some u → w.cell? (a.add (i * d.sz + j)) = some u := by
      intro i hi
      have h1 := hel i hi
      rw [List.getElem?_eq_getElem (by omega)] at h1
      obtain ⟨c, hc, hr⟩ := Option.bind_eq_some_iff.1 h1
      obtain ⟨v, hk, hv⟩ := ho w n c _ hr
      obtain ⟨_, hcell⟩ := cells_at hc
      refine ⟨v, hv, c, d.K_len hk, hk, fun j u hu => ?_⟩
      have := hcell j u hu
      rw [hs, add_add_] at this
      exact this
    obtain ⟨l, hll, hq⟩ := choose_list len each
    subst hll
    have hm' : l.length ≤ maxLen := Nat.le_trans hl hm
    refine ⟨l, ⟨some a, cap, rfl, hl, rfl, by unfold maxLen at hm'; omega, fun _ => ⟨a, rfl, fun j p hp => ?_⟩⟩, hm', fun v hv => ?_⟩
    · obtain ⟨_, c, h1, h2, h3⟩ := hq j p hp
      exact ⟨c, h1, h2, h3⟩
    · obtain ⟨i, hi, rfl⟩ := List.getElem_of_mem hv
      exact (hq i _ (List.getElem?_eq_getElem hi)).1
theorem opn_top {α : Type} {H : Type} {enc : TypeId × Value → H} {P : Program} {w : World} {t : TypeId} {d : Kd α} {ok : α → Prop} {v : Value} {x : DataW H} {ps : List MemPlace} (ho : Opn P t d ok)
    (h : DataW.Trod enc P w 0 (fun _ => true) true t v x ps) : ∃ a, d.K w a v.cells.toList ∧ ok a := by
  obtain ⟨fuel, hf⟩ := h
  exact ho w fuel _ _ hf
theorem slice_eq {a b : Option Addr} {l m c q : Nat} (h : (Value.slice a l c).cells.toList = [.slice b m q]) : a = b ∧ l = m ∧ c = q := by
  simpa [Value.cells] using h

abbrev ok3 (a : Int) : Prop := (Lit.int .i64 a).wf = true
abbrev ok4 (_ : Bool) : Prop := True
abbrev ok22 (l : List Int) : Prop := l.length ≤ maxLen ∧ ∀ x ∈ l, ok3 x
abbrev ok93 (x : S93) : Prop := ok3 x.f0 ∧ ok3 x.f1 ∧ ok3 x.f2 ∧ ok4 x.f3
abbrev ok23 (l : List (S93)) : Prop := l.length ≤ maxLen ∧ ∀ x ∈ l, ok93 x
abbrev ok25 (x : S25) : Prop := ok3 x.f0 ∧ ok22 x.f1 ∧ ok23 x.f2
abbrev ok41 (l : List (S25)) : Prop := l.length ≤ maxLen ∧ ∀ x ∈ l, ok25 x
abbrev ok5 (a : Int) : Prop := (Lit.int .u8 a).wf = true
abbrev ok67 (l : List Int) : Prop := l.length ≤ maxLen ∧ ∀ x ∈ l, ok5 x
theorem op3 : Opn Try.prog 3 (Kd.int .i64) ok3 := opn_int Try.underlying3
theorem op4 : Opn Try.prog 4 Kd.bool ok4 := opn_bool Try.underlying4
theorem op22 : Opn Try.prog 22 (Kd.slice 3 (Kd.int .i64)) ok22 := opn_slice Try.underlying22 (by kernel_rfl) op3
set_option maxRecDepth 100000 in
theorem op93 : Opn Try.prog 93 k93 ok93 := by
  intro H enc w fuel cs x h
  obtain ⟨xs, n, _, _, hl, hlen, hf⟩ := DataW.trod_struct Try.underlying93 h
  have hl' : cs.length = 4 := hl.trans (by kernel_rfl)
  match cs, hl' with
  | [c0, c1, c2, c3], _ =>
    match xs, hlen with
    | [y0, y1, y2, y3], _ =>
    obtain ⟨a0, q0, z0⟩ := op3 (H := H) (enc := enc) w n [c0] y0 (hf 0 _ rfl)
    obtain ⟨a1, q1, z1⟩ := op3 (H := H) (enc := enc) w n [c1] y1 (hf 1 _ rfl)
    obtain ⟨a2, q2, z2⟩ := op3 (H := H) (enc := enc) w n [c2] y2 (hf 2 _ rfl)
    obtain ⟨a3, q3, z3⟩ := op4 (H := H) (enc := enc) w n [c3] y3 (hf 3 _ rfl)
    exact ⟨⟨a0, a1, a2, a3⟩, ⟨[c0], [c1, c2, c3], rfl, q0, ⟨[c1], [c2, c3], rfl, q1, ⟨[c2], [c3], rfl, q2, q3⟩⟩⟩, ⟨z0, z1, z2, z3⟩⟩
theorem op23 : Opn Try.prog 23 (Kd.slice 93 k93) ok23 := opn_slice Try.underlying23 (by kernel_rfl) op93
set_option maxRecDepth 100000 in
theorem op25 : Opn Try.prog 25 k25 ok25 := by
  intro H enc w fuel cs x h
  obtain ⟨xs, n, _, _, hl, hlen, hf⟩ := DataW.trod_struct Try.underlying25 h
  have hl' : cs.length = 3 := hl.trans (by kernel_rfl)
  match cs, hl' with
  | [c0, c1, c2], _ =>
    match xs, hlen with
    | [y0, y1, y2], _ =>
    obtain ⟨a0, q0, z0⟩ := op3 (H := H) (enc := enc) w n [c0] y0 (hf 0 _ rfl)
    obtain ⟨a1, q1, z1⟩ := op22 (H := H) (enc := enc) w n [c1] y1 (hf 1 _ rfl)
    obtain ⟨a2, q2, z2⟩ := op23 (H := H) (enc := enc) w n [c2] y2 (hf 2 _ rfl)
    exact ⟨⟨a0, a1, a2⟩, ⟨[c0], [c1, c2], rfl, q0, ⟨[c1], [c2], rfl, q1, q2⟩⟩, ⟨z0, z1, z2⟩⟩
theorem op41 : Opn Try.prog 41 (Kd.slice 25 k25) ok41 := opn_slice Try.underlying41 (by kernel_rfl) op25
theorem op5 : Opn Try.prog 5 (Kd.int .u8) ok5 := opn_int Try.underlying5
theorem op67 : Opn Try.prog 67 (Kd.slice 5 (Kd.int .u8)) ok67 := opn_slice Try.underlying67 (by kernel_rfl) op5
end Go.Proofs.Ytghfeapncmlihaa.A
