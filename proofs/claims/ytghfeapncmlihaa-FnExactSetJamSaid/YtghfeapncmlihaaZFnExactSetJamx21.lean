/- What the proof of the law FnExactSetJam uses: lemmas, the Lean functions of the Go functions that it reaches, their contracts, and the pure statement's proof. -/
import Derived.Test.YtghfeapncmlihaaZFnExactSetJamx12
import Derived.ProofKit
import Derived.OpenShut
import Derived.ShutString
import Derived.ChangeOld
import Derived.SizedLaws
import Derived.ChangeArms
import Derived.Test.YtghfeapncmlihaaZFnExactSetJamx14
import Derived.Test.YtghfeapncmlihaaZFnExactSetJamx17
import Derived.Test.YtghfeapncmlihaaZFnExactSetJamx13
import Derived.Test.YtghfeapncmlihaaZFnExactSetJamx15
import Derived.Test.YtghfeapncmlihaaZFnExactSetJamx18
import Derived.Test.YtghfeapncmlihaaZFnExactSetJamx19
import Derived.Test.YtghfeapncmlihaaZFnExactSetJamx20
namespace Go.Proofs.Ytghfeapncmlihaa.A
open Go.ChangeShapes Go.WideShapes Go.ChangeAt Go.RowKit Go.Proofs.YtghfeapncmlihaaW.PrintWords Go.Proofs.YtghfeapncmlihaaW.PrintLast
set_option linter.unusedVariables false
set_option linter.unusedSimpArgs false
def Opn {α : Type} (P : Program) (t : TypeId) (d : Kd α) (ok : α → Prop) : Prop :=
  ∀ {H : Type} {enc : TypeId × Value → H} (w : World) (fuel : Nat) (cs : List Value) (x : DataW H × List MemPlace),
    DataW.trod enc P w 0 (fun _ => true) true fuel t cs = some x → ∃ a, d.K w a cs ∧ ok a
theorem opn_int {P : Program} {t : TypeId} {k : IntKind} (ht : P.underlying t = some (.int k)) : Opn P t (Kd.int k) (fun a => (Lit.int k a).wf = true) := by
  intro H enc w fuel cs x h
  obtain ⟨n, rfl, _, hw⟩ := DataW.trod_int ht h
  exact ⟨n, rfl, hw⟩
theorem opn_bool {P : Program} {t : TypeId} (ht : P.underlying t = some .bool) : Opn P t Kd.bool (fun _ => True) := by
  intro H enc w fuel cs x h
  obtain ⟨b, rfl, _⟩ := DataW.trod_bool ht h
  exact ⟨b, rfl, trivial⟩
theorem add_add_ (a : Addr) (i j : Nat) : (a.add i).add j = a.add (i + j) := by
  unfold Addr.add
  by_cases hi : i = 0
  · subst hi; simp
  · by_cases hj : j = 0
    · subst hj; simp
    · rw [if_neg hi, if_neg hj, if_neg (by omega)]
      simp; omega
theorem cells_at {w : World} {base : Nat} {a : Addr} {n : Nat} {cs : List Value} (h : w.cells? base a n = some cs) : cs.length = n ∧ ∀ i u, cs[i]? = some u → w.cell? (a.add i) = some u := by
  unfold World.cells? at h
  split at h
  · have l := mapM_some_length h
    simp only [List.length_range] at l
    refine ⟨l, fun i u hu => ?_⟩
    have hi := (List.getElem?_eq_some_iff.1 hu).1
    have := mapM_some_get h i i (by simp [show i < n by omega])
    rw [this]; exact hu
  · cases h
theorem choose_list {α : Type} {Q : Nat → α → Prop} (m : Nat) (h : ∀ i, i < m → ∃ v, Q i v) : ∃ l : List α, l.length = m ∧ ∀ i v, l[i]? = some v → Q i v := by
  induction m with
  | zero => exact ⟨[], rfl, fun i v hv => by simp at hv⟩
  | succ m ih =>
    obtain ⟨l, hl, hq⟩ := ih (fun i hi => h i (by omega))
    obtain ⟨v, hv⟩ := h m (by omega)
    refine ⟨l ++ [v], by simp [hl], fun i u hu => ?_⟩
    rcases Nat.lt_trichotomy i m with hi | hi | hi
    · rw [List.getElem?_append_left (by omega)] at hu
      exact hq i u hu
    · subst hi
      rw [List.getElem?_append_right (by omega), hl, Nat.sub_self] at hu
      have : v = u := by simpa using hu
      exact this ▸ hv
    · rw [List.getElem?_eq_none (by simp; omega)] at hu
      cases hu
theorem opn_slice {α : Type} {P : Program} {t e : TypeId} {d : Kd α} {ok : α → Prop} (ht : P.underlying t = some (.slice e)) (hs : P.cellsOf e = d.sz) (ho : Opn P e d ok) :
    Opn P t (Kd.slice e d) (fun l => l.length ≤ maxLen ∧ ∀ x ∈ l, ok x) := by
  intro H enc w fuel cs x h
  rcases DataW.trod_slice ht h with ⟨rfl, _⟩ | ⟨a, len, cap, elems, rest, n, _, rfl, _, _, hl, hm, hlen, hel, _, _⟩
  · exact ⟨[], ⟨none, 0, rfl, Nat.le_refl _, rfl, Nat.zero_le _, fun h => absurd h (by simp)⟩, by simp, by simp⟩
  · have each : ∀ i, i < len → ∃ v, ok v ∧ ∃ c, c.length = d.sz ∧ d.K w v c ∧ ∀ j u, c[j]? = some u → w.cell? (a.add (i * d.sz + j)) = some u := by
      intro i hi
      have h1 := hel i hi
      rw [List.getElem?_eq_getElem (by omega)] at h1
      obtain ⟨c, hc, hr⟩ := Option.bind_eq_some_iff.1 h1
      obtain ⟨v, hk, hv⟩ := ho w n c _ hr
      obtain ⟨_, hcell⟩ := cells_at hc
      refine ⟨v, hv, c, d.K_len hk, hk, fun j u hu => ?_⟩
      have := hcell j u hu
      rw [hs, add_add_] at this
      exact this
    obtain ⟨l, hll, hq⟩ := choose_list len each
    subst hll
    have hm' : l.length ≤ maxLen := Nat.le_trans hl hm
    refine ⟨l, ⟨some a, cap, rfl, hl, rfl, by unfold maxLen at hm'; omega, fun _ => ⟨a, rfl, fun j p hp => ?_⟩⟩, hm', fun v hv => ?_⟩
    · obtain ⟨_, c, h1, h2, h3⟩ := hq j p hp
      exact ⟨c, h1, h2, h3⟩
    · obtain ⟨i, hi, rfl⟩ := List.getElem_of_mem hv
      exact (hq i _ (List.getElem?_eq_getElem hi)).1
theorem opn_top {α : Type} {H : Type} {enc : TypeId × Value → H} {P : Program} {w : World} {t : TypeId} {d : Kd α} {ok : α → Prop} {v : Value} {x : DataW H} {ps : List MemPlace} (ho : Opn P t d ok)
    (h : DataW.Trod enc P w 0 (fun _ => true) true t v x ps) : ∃ a, d.K w a v.cells.toList ∧ ok a := by
  obtain ⟨fuel, hf⟩ := h
  exact ho w fuel _ _ hf
abbrev ok3 (a : Int) : Prop := (Lit.int .i64 a).wf = true
abbrev ok4 (_ : Bool) : Prop := True
abbrev ok22 (l : List Int) : Prop := l.length ≤ maxLen ∧ ∀ x ∈ l, ok3 x
abbrev ok93 (x : S93) : Prop := ok3 x.f0 ∧ ok3 x.f1 ∧ ok3 x.f2 ∧ ok4 x.f3
abbrev ok23 (l : List (S93)) : Prop := l.length ≤ maxLen ∧ ∀ x ∈ l, ok93 x
abbrev ok25 (x : S25) : Prop := ok3 x.f0 ∧ ok22 x.f1 ∧ ok23 x.f2
theorem op3 : Opn Try.prog 3 (Kd.int .i64) ok3 := opn_int Try.underlying3
theorem op4 : Opn Try.prog 4 Kd.bool ok4 := opn_bool Try.underlying4
theorem op22 : Opn Try.prog 22 (Kd.slice 3 (Kd.int .i64)) ok22 := opn_slice Try.underlying22 (by kernel_rfl) op3
set_option maxRecDepth 100000 in
theorem op93 : Opn Try.prog 93 k93 ok93 := by
  intro H enc w fuel cs x h
  obtain ⟨xs, n, _, _, hl, hlen, hf⟩ := DataW.trod_struct Try.underlying93 h
  have hl' : cs.length = 4 := hl.trans (by kernel_rfl)
  match cs, hl' with
  | [c0, c1, c2, c3], _ =>
    match xs, hlen with
    | [y0, y1, y2, y3], _ =>
    obtain ⟨a0, q0, z0⟩ := op3 (H := H) (enc := enc) w n [c0] y0 (hf 0 _ rfl)
    obtain ⟨a1, q1, z1⟩ := op3 (H := H) (enc := enc) w n [c1] y1 (hf 1 _ rfl)
    obtain ⟨a2, q2, z2⟩ := op3 (H := H) (enc := enc) w n [c2] y2 (hf 2 _ rfl)
    obtain ⟨a3, q3, z3⟩ := op4 (H := H) (enc := enc) w n [c3] y3 (hf 3 _ rfl)
    exact ⟨⟨a0, a1, a2, a3⟩, ⟨[c0], [c1, c2, c3], rfl, q0, ⟨[c1], [c2, c3], rfl, q1, ⟨[c2], [c3], rfl, q2, q3⟩⟩⟩, ⟨z0, z1, z2, z3⟩⟩
theorem op23 : Opn Try.prog 23 (Kd.slice 93 k93) ok23 := opn_slice Try.underlying23 (by kernel_rfl) op93
set_option maxRecDepth 100000 in
theorem op25 : Opn Try.prog 25 k25 ok25 := by
  intro H enc w fuel cs x h
  obtain ⟨xs, n, _, _, hl, hlen, hf⟩ := DataW.trod_struct Try.underlying25 h
  have hl' : cs.length = 3 := hl.trans (by kernel_rfl)
  match cs, hl' with
  | [c0, c1, c2], _ =>
    match xs, hlen with
    | [y0, y1, y2], _ =>
    obtain ⟨a0, q0, z0⟩ := op3 (H := H) (enc := enc) w n [c0] y0 (hf 0 _ rfl)
    obtain ⟨a1, q1, z1⟩ := op22 (H := H) (enc := enc) w n [c1] y1 (hf 1 _ rfl)
    obtain ⟨a2, q2, z2⟩ := op23 (H := H) (enc := enc) w n [c2] y2 (hf 2 _ rfl)
    exact ⟨⟨a0, a1, a2⟩, ⟨[c0], [c1, c2], rfl, q0, ⟨[c1], [c2], rfl, q1, q2⟩⟩, ⟨z0, z1, z2⟩⟩
end Go.Proofs.Ytghfeapncmlihaa.A

namespace Go.Proofs.Ytghfeapncmlihaa.A
open Go.RowKit Go.Proofs.YtghfeapncmlihaaW.PrintWords Go.Proofs.YtghfeapncmlihaaW.PrintLast Go.Proofs.YtghfeapncmlihaaW.PrintMore
set_option linter.unusedVariables false
set_option linter.unusedSimpArgs false
def Ev {α : Type} (F : Nat → Option α) (r : α) : Prop := ∃ K, ∀ k, K ≤ k → F k = some r
theorem Ev.mk {α : Type} {F : Nat → Option α} {r : α} (K : Nat) (h : ∀ k, K < k → F k = some r) : Ev F r := ⟨K + 1, fun k hk => h k hk⟩
theorem Ev.get {α : Type} {F : Nat → Option α} {r : α} (h : Ev F r) : ∃ k, F k = some r := by
  obtain ⟨K, h⟩ := h
  exact ⟨K, h K (Nat.le_refl _)⟩
theorem Ev.const {α : Type} {o : Option α} {r : α} (h : o = some r) : Ev (fun _ => o) r := ⟨0, fun _ _ => h⟩
theorem Ev.ret {α : Type} (r : α) : Ev (fun _ => some r) r := ⟨0, fun _ _ => rfl⟩
theorem Ev.bind {α β : Type} {F : Nat → Option α} {G : Nat → α → Option β} {a : α} {b : β} (h1 : Ev F a) (h2 : Ev (fun k => G k a) b) : Ev (fun k => (F k).bind (G k)) b := by
  obtain ⟨K1, h1⟩ := h1
  obtain ⟨K2, h2⟩ := h2
  refine ⟨max K1 K2, fun k hk => ?_⟩
  show (F k).bind (G k) = some b
  rw [h1 k (by omega)]
  exact h2 k (by omega)
theorem Ev.pos {α : Type} {c : Prop} [Decidable c] {A B : Nat → Option α} {r : α} (h : c) (hA : Ev A r) : Ev (fun k => if c then A k else B k) r := by
  obtain ⟨K, hA⟩ := hA
  exact ⟨K, fun k hk => by show (if c then A k else B k) = some r; rw [if_pos h]; exact hA k hk⟩
theorem Ev.neg {α : Type} {c : Prop} [Decidable c] {A B : Nat → Option α} {r : α} (h : ¬ c) (hB : Ev B r) : Ev (fun k => if c then A k else B k) r := by
  obtain ⟨K, hB⟩ := hB
  exact ⟨K, fun k hk => by show (if c then A k else B k) = some r; rw [if_neg h]; exact hB k hk⟩
theorem Ev.ite {α : Type} {c : Prop} [Decidable c] {A B : Nat → Option α} {a b : α} (hA : c → Ev A a) (hB : ¬ c → Ev B b) : Ev (fun k => if c then A k else B k) (if c then a else b) := by
  by_cases h : c
  · rw [if_pos h]; exact Ev.pos h (hA h)
  · rw [if_neg h]; exact Ev.neg h (hB h)
theorem Ev.succ {α : Type} {F : Nat → Option α} {r : α} (h : Ev (fun k => F (k + 1)) r) : Ev F r := by
  obtain ⟨K, h⟩ := h
  refine ⟨K + 1, fun k hk => ?_⟩
  obtain ⟨m, rfl⟩ : ∃ m, k = m + 1 := ⟨k - 1, by omega⟩
  exact h m (by omega)
theorem Ev.of_eq {α : Type} {F G : Nat → Option α} {r : α} (h : Ev F r) (e : ∀ k, G k = F k) : Ev G r := by
  obtain ⟨K, h⟩ := h
  exact ⟨K, fun k hk => (e k).trans (h k hk)⟩
theorem Ev.to {α : Type} {F : Nat → Option α} {r s : α} (h : Ev F r) (e : r = s) : Ev F s := e ▸ h
theorem getD_gen {α : Type} {l : List α} {i : Nat} (d : α) (h : i < l.length) : l.getD i d = l[i] := by
  rw [List.getD_eq_getElem?_getD, List.getElem?_eq_getElem h]; rfl
theorem wsucc (i : Nat) (h : i < 9223372036854775807) : wrap64 ((i : Int) + 1) = ((i + 1 : Nat) : Int) := by unfold wrap64; omega
theorem wpred (i : Nat) (h : 0 < i) (h2 : i ≤ 9223372036854775807) : wrap64 ((i : Int) - 1) = ((i - 1 : Nat) : Int) := by unfold wrap64; omega
theorem wid (x : Int) (h : -9223372036854775808 ≤ x) (h2 : x ≤ 9223372036854775807) : wrap64 x = x := by unfold wrap64; omega
theorem all_loop {L : Nat → Int → Option Bool} {n : Nat} {P : Nat → Bool} (h : ∀ k i, i < n → L (k + 1) (i : Int) = if P i = true then L k ((i + 1 : Nat) : Int) else some false)
    (he : ∀ k, L (k + 1) (n : Int) = some true) (d : Nat) : ∀ k i, i + d = n → d < k → L k (i : Int) = some ((List.range' i d).all P) := by
  induction d with
  | zero =>
    intro k i hi hk
    obtain ⟨k, rfl⟩ : ∃ m, k = m + 1 := ⟨k - 1, by omega⟩
    obtain rfl : i = n := by omega
    rw [he]; rfl
  | succ d ih =>
    intro k i hi hk
    obtain ⟨k, rfl⟩ : ∃ m, k = m + 1 := ⟨k - 1, by omega⟩
    rw [h k i (by omega), List.range'_succ, List.all_cons]
    by_cases hp : P i = true
    · rw [if_pos hp, ih k (i + 1) (by omega) (by omega), hp, Bool.true_and]
    · rw [if_neg hp]
      have : P i = false := by simpa using hp
      rw [this, Bool.false_and]
theorem map_loop {α β : Type} {L : Nat → List β → Int → Option (List β)} {xs : List α} {g : α → β} (d0 : α)
    (h : ∀ k acc (i : Nat), i < xs.length → acc.length = xs.length → L (k + 1) acc (i : Int) = L k (acc.set i (g (xs.getD i d0))) ((i + 1 : Nat) : Int))
    (he : ∀ k acc, L (k + 1) acc (xs.length : Int) = some acc) (d : Nat) :
    ∀ k acc i, i + d = xs.length → d < k → acc.length = xs.length → (∀ j, j < i → acc[j]? = (xs.map g)[j]?) → L k acc (i : Int) = some (xs.map g) := by
  induction d with
  | zero =>
    intro k acc i hi hk hl hp
    obtain ⟨k, rfl⟩ : ∃ m, k = m + 1 := ⟨k - 1, by omega⟩
    obtain rfl : i = xs.length := by omega
    rw [he]
    congr 1
    apply List.ext_getElem?
    intro j
    by_cases hj : j < xs.length
    · exact hp j hj
    · rw [List.getElem?_eq_none (by omega), List.getElem?_eq_none (by simp; omega)]
  | succ d ih =>
    intro k acc i hi hk hl hp
    obtain ⟨k, rfl⟩ : ∃ m, k = m + 1 := ⟨k - 1, by omega⟩
    rw [h k acc i (by omega) hl]
    refine ih k _ (i + 1) (by omega) (by omega) (by simp [hl]) (fun j hj => ?_)
    by_cases e : i = j
    · subst e
      rw [List.getElem?_set_self (by omega), List.getElem?_map, List.getElem?_eq_getElem (show i < xs.length by omega), List.getD_eq_getElem?_getD, List.getElem?_eq_getElem (show i < xs.length by omega)]
      rfl
    · rw [List.getElem?_set_ne e]
      exact hp j (by omega)
theorem in_eq (a b c : Int) : spec_l01In.f a b c = some (decide (b ≤ a ∧ a ≤ c)) := by
  unfold spec_l01In.f
  split
  · congr 1; rw [decide_eq_decide]; omega
  · congr 1; exact (decide_eq_false (by omega)).symm
def boxS : List S71 → Int → List Int → Option Int
  | [], low, _ => some low
  | b :: bs, low, ps => if b.f0 = low ∧ (1 ≤ b.f1 ∧ b.f1 ≤ 24) ∧ (0 ≤ b.f2 ∧ b.f2 ≤ 999) ∧ ¬ (0 < b.f2 ∧ b.f2 ∈ ps) ∧ low + b.f1 ≤ 24 then boxS bs (low + b.f1) (b.f2 :: ps) else none
def boxesS (h : Int) (bx : List S71) (o : Option Int) : Bool := match o with | none => false | some low => decide (bx ≠ []) && decide (low = h)
theorem boxes_in (h : Int) (fx : List Int) (bx : List S71) (at_ : Int) (i : Nat) (hi : i < bx.length) (hi2 : i ≤ 24) (b : S71) (P : Prop) [Decidable P] (hP : P ↔ (0 < b.f2 ∧ ∃ j, j < i ∧ (bx.getD j z71).f2 = b.f2)) (d : Nat) :
    ∀ (k j : Nat), j + d = i → d < k → (∀ m, m < j → 0 < b.f2 → (bx.getD m z71).f2 ≠ b.f2) → spec_l02Boxes.l1 k at_ (i : Int) (j : Int) h fx bx b.f0 b.f1 b.f2 b.f3 = if P then some false else (if (wrap64 (at_ + b.f1)) > 24 then (some false) else (spec_l02Boxes.l0 (k - d - 1) (wrap64 (at_ + b.f1)) ((i + 1 : Nat) : Int) h fx bx)) := by
  induction d with
  | zero =>
    intro k j hj hk hn
    obtain ⟨k, rfl⟩ : ∃ m, k = m + 1 := ⟨k - 1, by omega⟩
    simp only [spec_l02Boxes.l1]
    have hnp : ¬ P := fun hp => by obtain ⟨h0, m, hm, e⟩ := hP.mp hp; exact hn m (by omega) h0 e
    rw [if_neg (by omega), if_neg hnp, wsucc i (by omega)]
    rfl
  | succ d ih =>
    intro k j hj hk hn
    obtain ⟨k, rfl⟩ : ∃ m, k = m + 1 := ⟨k - 1, by omega⟩
    simp only [spec_l02Boxes.l1]
    have er : rd_T71 bx (j : Int) = bx.getD j z71 := rfl
    rw [if_pos (by omega), er, wsucc j (by omega)]
    by_cases c0 : b.f2 > 0
    · rw [if_pos c0, if_pos (by omega), if_pos (by omega)]
      by_cases c1 : (bx.getD j z71).f2 = b.f2
      · rw [if_pos c1, if_pos (hP.mpr ⟨c0, j, by omega, c1⟩)]
      · rw [if_neg c1, ih k (j + 1) (by omega) (by omega) (fun m hm h0 => by
          by_cases e : m = j
          · subst e; exact c1
          · exact hn m (by omega) h0), show k + 1 - (d + 1) - 1 = k - d - 1 by omega]
    · rw [if_neg c0, ih k (j + 1) (by omega) (by omega) (fun m hm h0 => absurd h0 c0), show k + 1 - (d + 1) - 1 = k - d - 1 by omega]
theorem drop_cons {α : Type} (l : List α) (d : α) (i : Nat) (hi : i < l.length) : l.drop i = l.getD i d :: l.drop (i + 1) := by
  rw [List.drop_eq_getElem_cons hi, getD_gen d hi]
theorem boxes_loop (h : Int) (fx : List Int) (bx : List S71) (hl : bx.length ≤ 140737488351232) : ∀ (d k i : Nat) (at_ : Int) (ps : List Int), (24 - at_).toNat = d → 0 ≤ at_ → at_ ≤ 24 → (i : Int) ≤ at_ → i ≤ bx.length → (d + 2) * 40 < k →
    (∀ x, x ∈ ps ↔ ∃ j, j < i ∧ (bx.getD j z71).f2 = x) → spec_l02Boxes.l0 k at_ (i : Int) h fx bx = some (boxesS h bx (boxS (bx.drop i) at_ ps)) := by
  intro d
  induction d using Nat.strongRecOn with
  | _ d ih =>
  intro k i at_ ps hd h0 h1 hi hil hk hps
  obtain ⟨k, rfl⟩ : ∃ m, k = m + 2 := ⟨k - 2, by omega⟩
  simp only [spec_l02Boxes.l0]
  by_cases c : i < bx.length
  · have er : rd_T71 bx (i : Int) = bx.getD i z71 := rfl
    rw [if_pos (by omega), if_pos (by omega), drop_cons bx z71 i c, er]
    simp only [in_eq, Option.bind_some, boxS]
    generalize hb : bx.getD i z71 = b
    by_cases c0 : b.f0 = at_
    · rw [if_pos c0]
      by_cases c1 : 1 ≤ b.f1 ∧ b.f1 ≤ 24
      · rw [if_pos (decide_eq_true c1)]
        by_cases c2 : 0 ≤ b.f2 ∧ b.f2 ≤ 999
        · simp only [decide_eq_true c2, spec_l02Boxes.j1, Bool.not_true]
          rw [if_neg (by simp)]
          have hin := boxes_in h fx bx at_ i c (by omega) b (0 < b.f2 ∧ b.f2 ∈ ps) (by rw [hps]) i k 0 (by omega) (by omega) (fun m hm => by omega)
          refine hin.trans ?_
          by_cases c3 : 0 < b.f2 ∧ b.f2 ∈ ps
          · rw [if_pos c3, if_neg (fun h => h.2.2.2.1 c3)]; rfl
          · rw [if_neg c3, wid (at_ + b.f1) (by omega) (by omega)]
            by_cases c4 : at_ + b.f1 > 24
            · rw [if_pos c4, if_neg (fun h => by have := h.2.2.2.2; omega)]; rfl
            · rw [if_neg c4, if_pos ⟨c0, c1, c2, c3, by omega⟩]
              refine ih (24 - (at_ + b.f1)).toNat (by omega) _ (i + 1) (at_ + b.f1) (b.f2 :: ps) rfl (by omega) (by omega) (by omega) (by omega) (by omega) (fun x => ?_)
              rw [List.mem_cons, hps]
              constructor
              · rintro (rfl | ⟨j, hj, e⟩)
                · exact ⟨i, by omega, by rw [hb]⟩
                · exact ⟨j, by omega, e⟩
              · rintro ⟨j, hj, e⟩
                by_cases ej : j = i
                · subst ej; left; rw [← e, hb]
                · right; exact ⟨j, by omega, e⟩
        · simp only [decide_eq_false c2, spec_l02Boxes.j1, Bool.not_false]
          rw [if_pos trivial, if_neg (fun h => c2 h.2.2.1)]; rfl
      · rw [if_neg (by simpa using c1)]
        simp only [spec_l02Boxes.j1]
        rw [if_pos trivial, if_neg (fun h => c1 h.2.1)]; rfl
    · rw [if_neg c0]
      simp only [spec_l02Boxes.j1]
      rw [if_pos trivial, if_neg (fun h => c0 h.1)]; rfl
  · rw [if_neg (by omega), List.drop_eq_nil_of_le (by omega)]
    simp only [boxS, boxesS]
    by_cases c0 : (bx.length : Int) > 0
    · have hne : bx ≠ [] := by intro e; rw [e] at c0; simp at c0
      rw [if_pos c0, decide_eq_true hne, Bool.true_and]
      congr 1
    · have hne : ¬ bx ≠ [] := by intro e; exact e (List.length_eq_zero_iff.mp (by omega))
      rw [if_neg c0, decide_eq_false hne, Bool.false_and]
theorem boxes_eq (h : Int) (fx : List Int) (bx : List S71) (hl : bx.length ≤ 140737488351232) (k : Nat) (hk : 1100 < k) : spec_l02Boxes.f k h fx bx = some (boxesS h bx (boxS bx 0 [])) := by
  unfold spec_l02Boxes.f
  have := boxes_loop h fx bx hl 24 k 0 0 [] (by omega) (by omega) (by omega) (by omega) (by omega) (by omega) (by simp)
  exact this
theorem boxS_le : ∀ (bs : List S71) (low : Int) (ps : List Int) (e : Int), boxS bs low ps = some e → low ≤ e ∧ (bs.length : Int) ≤ e - low ∧ (low ≤ 24 → e ≤ 24)
  | [], low, ps, e, h => by simp [boxS] at h; subst h; exact ⟨by omega, by simp, id⟩
  | b :: bs, low, ps, e, h => by
    simp only [boxS] at h
    split at h
    · next hc =>
      obtain ⟨h1, h2, h3⟩ := boxS_le bs _ _ _ h
      exact ⟨by omega, by simp; omega, fun _ => h3 (by omega)⟩
    · simp at h
theorem boxP_S (h : Int) (hh : h ≤ 24) : ∀ (bs : List S71) (low : Int) (ls ps : List Int) (e : Int) (ls' : List Int), 0 ≤ low → boxP h bs low ls ps = some (e, ls') → boxS bs low ps = some e ∧ ∀ f, f ∈ ls' ↔ f ∈ ls ∨ f ∈ bs.map (fun b => b.f0)
  | [], low, ls, ps, e, ls', h0, hb => by
    simp only [boxP, Option.some.injEq, Prod.mk.injEq] at hb
    obtain ⟨rfl, rfl⟩ := hb
    exact ⟨rfl, fun f => by simp⟩
  | b :: bs, low, ls, ps, e, ls', h0, hb => by
    simp only [boxP] at hb
    split at hb
    · next hc =>
      obtain ⟨h1, h2⟩ := boxP_S h hh bs _ _ _ _ _ (by omega) hb
      refine ⟨?_, fun f => ?_⟩
      · simp only [boxS]
        rw [if_pos ⟨hc.1, ⟨hc.2.1.1, by omega⟩, hc.2.2.1, hc.2.2.2, by omega⟩]
        exact h1
      · rw [h2 f, List.mem_cons, List.map_cons, List.mem_cons]
        constructor
        · rintro ((h | h) | h)
          · exact Or.inr (Or.inl h)
          · exact Or.inl h
          · exact Or.inr (Or.inr h)
        · rintro (h | h | h)
          · exact Or.inl (Or.inr h)
          · exact Or.inl (Or.inl h)
          · exact Or.inr h
    · simp at hb
theorem boxS_P (h : Int) : ∀ (bs : List S71) (low : Int) (ls ps : List Int), boxS bs low ps = some h → ∃ ls', boxP h bs low ls ps = some (h, ls')
  | [], low, ls, ps, hb => by
    simp only [boxS, Option.some.injEq] at hb
    subst hb
    exact ⟨ls, rfl⟩
  | b :: bs, low, ls, ps, hb => by
    simp only [boxS] at hb
    split at hb
    · next hc =>
      have hle := (boxS_le bs _ _ _ hb).1
      obtain ⟨ls', h1⟩ := boxS_P h bs _ (b.f0 :: ls) _ hb
      refine ⟨ls', ?_⟩
      simp only [boxP]
      rw [if_pos ⟨hc.1, ⟨hc.2.1.1, by omega⟩, hc.2.2.1, hc.2.2.2.1⟩]
      exact h1
    · simp at hb
theorem colS_eq (h : Int) (fx : List Int) (bx : List S71) : (decide (1 ≤ h ∧ h ≤ 24) && (boxesS h bx (boxS bx 0 []) && (fixP h none fx && fx.all (fun f => decide (f ∈ bx.map (fun b => b.f0)))))) = colP h fx bx := by
  unfold colP
  by_cases hh : 1 ≤ h ∧ h ≤ 24
  · rw [decide_eq_true hh, Bool.true_and, Bool.true_and]
    cases hP : boxP h bx 0 [] [] with
    | none =>
      have hf : boxesS h bx (boxS bx 0 []) = false := by
        cases hS : boxS bx 0 [] with
        | none => rfl
        | some e =>
          by_cases c : e = h
          · subst c
            obtain ⟨ls', hl⟩ := boxS_P e bx 0 [] [] hS
            rw [hl] at hP; simp at hP
          · simp [boxesS, c]
      rw [hf]; simp
    | some z =>
      obtain ⟨e, ls⟩ := z
      obtain ⟨h1, h2⟩ := boxP_S h hh.2 bx 0 [] [] e ls (by omega) hP
      have ha : fx.all (fun f => decide (f ∈ bx.map (fun b => b.f0))) = fx.all (fun f => decide (f ∈ ls)) := by
        congr 1
        funext f
        rw [decide_eq_decide, h2 f]
        simp
      rw [h1, ha]
      simp only [boxesS]
      cases decide (bx ≠ []) <;> cases decide (e = h) <;> cases fixP h none fx <;> cases fx.all (fun f => decide (f ∈ ls)) <;> rfl
  · rw [decide_eq_false hh, Bool.false_and, Bool.false_and, Bool.false_and, Bool.false_and]
def fixS (h : Int) (L : List Int) : Option Int → List Int → Bool
  | _, [] => true
  | p, f :: fs => decide (1 ≤ f ∧ f ≤ h - 1) && (match p with | none => true | some q => decide (q < f)) && decide (f ∈ L) && fixS h L (some f) fs
theorem fixS_eq (h : Int) (L : List Int) : ∀ (fs : List Int) (p : Option Int), fixS h L p fs = (fixP h p fs && fs.all (fun f => decide (f ∈ L)))
  | [], p => rfl
  | f :: fs, p => by
    simp only [fixS, fixP, List.all_cons]
    rw [fixS_eq h L fs (some f)]
    ac_rfl
theorem drop_step {α : Type} {l : List α} {i : Nat} {b : α} {rest : List α} (d : α) (h : l.drop i = b :: rest) : i < l.length ∧ l.getD i d = b ∧ l.drop (i + 1) = rest := by
  have hi : i < l.length := by
    apply Classical.byContradiction
    intro c
    rw [List.drop_eq_nil_of_le (by omega)] at h
    cases h
  have h2 := drop_cons l d i hi
  rw [h] at h2
  injection h2 with h3 h4
  exact ⟨hi, h3.symm, h4.symm⟩
theorem drop_end {α : Type} {l : List α} {i : Nat} (h : l.drop i = []) (hi : i ≤ l.length) : i = l.length := by
  have := List.drop_eq_nil_iff.mp h
  omega
theorem found_ev (h : Int) (fx : List Int) (bx : List S71) (i : Nat) (hi : i < fx.length) (hi2 : i ≤ 140737488351232) (hl : bx.length ≤ 24) (s : Bool) (hs : Ev (fun k => spec_ColumnOk.l0 k ((i + 1 : Nat) : Int) h fx bx) s) :
    ∀ (rest : List S71) (j : Nat) (b : Bool), bx.drop j = rest → j ≤ bx.length → Ev (fun k => spec_ColumnOk.l1 k (i : Int) b (j : Int) h fx bx) (if (b || rest.any (fun x => decide (x.f0 = fx.getD i 0))) = true then s else false)
  | [], j, b, hd, hj => by
    refine Ev.succ ?_
    simp only [spec_ColumnOk.l1]
    have he := drop_end hd hj
    refine Ev.neg (by omega) ?_
    rw [List.any_nil, Bool.or_false, wsucc i (by omega)]
    exact Ev.ite (fun _ => hs) (fun _ => Ev.ret _)
  | x :: rest, j, b, hd, hj => by
    obtain ⟨h1, h2, h3⟩ := drop_step z71 hd
    refine Ev.succ ?_
    simp only [spec_ColumnOk.l1]
    refine Ev.pos (by omega) ?_
    rw [wsucc j (by omega), List.any_cons]
    cases b with
    | true =>
      refine Ev.pos rfl ?_
      refine (found_ev h fx bx i hi hi2 hl s hs rest (j + 1) true h3 (by omega)).to ?_
      rw [Bool.true_or, Bool.true_or]
    | false =>
      refine Ev.neg (by simp) ?_
      refine Ev.pos (by omega) ?_
      refine Ev.pos (by omega) ?_
      refine Ev.pos (by omega) ?_
      refine (found_ev h fx bx i hi hi2 hl s hs rest (j + 1) _ h3 (by omega)).to ?_
      rw [Bool.false_or]
      have e1 : rd_T71 bx (j : Int) = x := h2
      have e2 : rd fx (i : Int) = fx.getD i 0 := rfl
      rw [e1, e2]
      rfl
theorem prev_eq (fx : List Int) (i : Nat) : prevP fx ((i + 1 : Nat) : Int) = some (fx.getD i 0) := by
  unfold prevP
  rw [if_neg (by omega), show ((i + 1 : Nat) : Int) - 1 = (i : Int) by omega]
  rfl
theorem any_lows (f : Int) (bx : List S71) : (bx.any (fun x => decide (x.f0 = f))) = decide (f ∈ bx.map (fun b => b.f0)) := by
  rw [Bool.eq_iff_iff, List.any_eq_true, decide_eq_true_iff, List.mem_map]
  constructor
  · rintro ⟨x, hx, e⟩; exact ⟨x, hx, of_decide_eq_true e⟩
  · rintro ⟨x, hx, e⟩; exact ⟨x, hx, decide_eq_true e⟩
theorem fixed_ev (h : Int) (h0 : 1 ≤ h) (h1 : h ≤ 24) (fx : List Int) (hx : fx.length ≤ 140737488351232) (bx : List S71) (hl : bx.length ≤ 24) :
    ∀ (rest : List Int) (i : Nat), fx.drop i = rest → i ≤ fx.length → Ev (fun k => spec_ColumnOk.l0 k (i : Int) h fx bx) (fixS h (bx.map (fun b => b.f0)) (prevP fx (i : Int)) rest)
  | [], i, hd, hj => by
    refine Ev.succ ?_
    simp only [spec_ColumnOk.l0]
    have he := drop_end hd hj
    refine Ev.neg (by omega) ?_
    exact Ev.ret _
  | f :: rest, i, hd, hj => by
    obtain ⟨h2, h3, h4⟩ := drop_step 0 hd
    have ih := fixed_ev h h0 h1 fx hx bx hl rest (i + 1) h4 (by omega)
    have hf := found_ev h fx bx i h2 (by omega) hl _ ih bx 0 false rfl (by omega)
    rw [Bool.false_or, any_lows, h3, prev_eq, h3] at hf
    have er : rd fx (i : Int) = f := h3
    have go : ∀ (b : Bool), Ev (fun k => spec_ColumnOk.j2 k (i : Int) b h fx bx) (if b = true then false else if decide (f ∈ bx.map (fun b => b.f0)) = true then fixS h (bx.map (fun b => b.f0)) (some f) rest else false) := by
      intro b
      refine Ev.succ ?_
      simp only [spec_ColumnOk.j2]
      exact Ev.ite (fun _ => Ev.ret _) (fun _ => hf)
    refine Ev.succ ?_
    simp only [spec_ColumnOk.l0]
    refine Ev.pos (by omega) ?_
    refine Ev.pos (by omega) ?_
    rw [er, wid (h - 1) (by omega) (by omega)]
    refine Ev.bind (Ev.const (in_eq _ _ _)) ?_
    simp only [fixS]
    by_cases c1 : 1 ≤ f ∧ f ≤ h - 1
    · refine Ev.pos (decide_eq_true c1) ?_
      rw [decide_eq_true c1, Bool.true_and]
      by_cases c2 : (i : Int) > 0
      · have hp : prevP fx (i : Int) = some (fx.getD (i - 1) 0) := by
          have := prev_eq fx (i - 1)
          rwa [show i - 1 + 1 = i by omega] at this
        have e2 : rd fx ((i - 1 : Nat) : Int) = fx.getD (i - 1) 0 := rfl
        refine Ev.pos c2 ?_
        rw [wpred i (by omega) (by omega), hp, e2]
        refine Ev.pos (by omega) ?_
        refine Ev.pos (by omega) ?_
        refine (go _).to ?_
        by_cases c3 : f ≤ fx.getD (i - 1) 0
        · rw [if_pos (decide_eq_true c3)]
          simp only [decide_eq_false (show ¬ fx.getD (i - 1) 0 < f by omega), Bool.false_and]
        · rw [if_neg (by simpa using c3)]
          simp only [decide_eq_true (show fx.getD (i - 1) 0 < f by omega), Bool.true_and]
          cases decide (f ∈ bx.map (fun b => b.f0)) <;> simp
      · have hp : prevP fx (i : Int) = none := by unfold prevP; rw [if_pos (by omega)]
        refine Ev.neg c2 ?_
        refine (go _).to ?_
        rw [hp]
        cases decide (f ∈ bx.map (fun b => b.f0)) <;> simp
    · refine Ev.neg (by simpa using c1) ?_
      refine (go _).to ?_
      rw [if_pos rfl, decide_eq_false c1]
      simp only [Bool.false_and]
theorem colok_ev (h : Int) (fx : List Int) (hx : fx.length ≤ 140737488351232) (bx : List S71) (hl : bx.length ≤ 140737488351232) : Ev (fun k => spec_ColumnOk.f k h fx bx) (colP h fx bx) := by
  refine Ev.of_eq ?_ (fun k => by unfold spec_ColumnOk.f; rfl)
  refine Ev.bind (Ev.const (in_eq _ _ _)) ?_
  rw [← colS_eq, ← fixS_eq]
  by_cases hh : 1 ≤ h ∧ h ≤ 24
  · refine Ev.pos (decide_eq_true hh) ?_
    refine Ev.bind (Ev.mk 1100 (fun k hk => boxes_eq h fx bx hl k hk)) ?_
    rw [decide_eq_true hh, Bool.true_and]
    refine Ev.succ ?_
    simp only [spec_ColumnOk.j0]
    cases hS : boxS bx 0 [] with
    | none =>
      refine Ev.pos (by simp [boxesS]) ?_
      exact Ev.ret _
    | some e =>
      by_cases hb : boxesS h bx (some e) = true
      · rw [hb]
        have hle := boxS_le bx 0 [] e hS
        have he : e ≤ 24 := hle.2.2 (by omega)
        refine Ev.neg (by simp) ?_
        exact fixed_ev h hh.1 hh.2 fx hx bx (by omega) fx 0 rfl (by omega)
      · have hb2 : boxesS h bx (some e) = false := by simpa using hb
        rw [hb2]
        refine Ev.pos (by simp) ?_
        exact Ev.ret _
  · refine Ev.neg (by simpa using hh) ?_
    rw [decide_eq_false hh, Bool.false_and]
    refine Ev.succ ?_
    simp only [spec_ColumnOk.j0]
    refine Ev.pos (by simp) ?_
    exact Ev.ret _
end Go.Proofs.Ytghfeapncmlihaa.A

namespace Go.Proofs.Ytghfeapncmlihaa.A
open Go.RowKit Go.Proofs.YtghfeapncmlihaaW.PrintWords Go.Proofs.YtghfeapncmlihaaW.PrintLast Go.Proofs.YtghfeapncmlihaaW.PrintMore
set_option linter.unusedVariables false
set_option linter.unusedSimpArgs false
def opB (b : S71) : Bool := decide (b.f2 = 0) && !b.f3
def sumB (l : List S71) : Int := (l.map (fun b => b.f1)).foldr (· + ·) 0
theorem sumB_nil : sumB [] = 0 := rfl
theorem sumB_cons (b : S71) (l : List S71) : sumB (b :: l) = b.f1 + sumB l := rfl
def tile : Int → List S71 → Int → Prop
  | lo, [], hi => lo = hi
  | lo, b :: bs, hi => b.f0 = lo ∧ 1 ≤ b.f1 ∧ tile (lo + b.f1) bs hi
theorem tile_sum : ∀ (bs : List S71) (lo hi : Int), tile lo bs hi → lo + sumB bs = hi ∧ lo + bs.length ≤ hi
  | [], lo, hi, h => by simp only [tile] at h; subst h; simp [sumB_nil]
  | b :: bs, lo, hi, h => by
    obtain ⟨_, h1, h2⟩ := h
    have := tile_sum bs _ _ h2
    rw [sumB_cons, List.length_cons]
    omega
theorem tile_mem : ∀ (bs : List S71) (lo hi : Int), tile lo bs hi → ∀ b ∈ bs, lo ≤ b.f0 ∧ 1 ≤ b.f1 ∧ b.f0 + b.f1 ≤ hi
  | [], _, _, _, b, hb => absurd hb (by simp)
  | x :: bs, lo, hi, h, b, hb => by
    obtain ⟨h0, h1, h2⟩ := h
    have h3 := tile_sum bs _ _ h2
    rcases List.mem_cons.mp hb with rfl | hb
    · omega
    · have := tile_mem bs _ _ h2 b hb
      omega
def gapR : List S71 → S54
  | [] => ⟨0, 0, 0⟩
  | b :: bs => ⟨0, b.f0, sumB (b :: bs)⟩
def emR (cur : List S71) : List S54 := if cur = [] then [] else [gapR cur]
def gapsW (fx : List Int) : List S71 → List S71 → List S54
  | cur, [] => emR cur
  | cur, b :: bs => if opB b = true then (if cur ≠ [] ∧ b.f0 ∉ fx then gapsW fx (cur ++ [b]) bs else emR cur ++ gapsW fx [b] bs) else emR cur ++ gapsW fx [] bs
def Shut (fx : List Int) (A : List S71) : Prop := ∀ Z, gapsW fx [] (A ++ Z) = gapsW fx [] A ++ gapsW fx [] Z
def ShutAt (fx : List Int) (A : List S71) (lo : Int) : Prop := ∀ z Z, z.f0 = lo → gapsW fx [] (A ++ z :: Z) = gapsW fx [] A ++ gapsW fx [] (z :: Z)
theorem Shut.at {fx : List Int} {A : List S71} (h : Shut fx A) (lo : Int) : ShutAt fx A lo := fun z Z _ => h (z :: Z)
def parcs (ps : List Int) : List S71 → Prop
  | [] => True
  | b :: bs => (0 ≤ b.f2 ∧ b.f2 ≤ 999) ∧ ¬ (0 < b.f2 ∧ b.f2 ∈ ps) ∧ parcs (b.f2 :: ps) bs
theorem boxS_iff : ∀ (bs : List S71) (low : Int) (ps : List Int) (e : Int), 0 ≤ low → low ≤ 24 → (boxS bs low ps = some e ↔ tile low bs e ∧ e ≤ 24 ∧ parcs ps bs)
  | [], low, ps, e, h0, h => by
    simp only [boxS, tile, parcs, Option.some.injEq]
    constructor
    · rintro rfl; exact ⟨rfl, h, trivial⟩
    · rintro ⟨h, _⟩; exact h
  | b :: bs, low, ps, e, hn, h => by
    simp only [boxS, tile, parcs]
    constructor
    · intro hs
      split at hs
      · next hc =>
        obtain ⟨h1, h2, h3⟩ := (boxS_iff bs _ _ e (by omega) hc.2.2.2.2).mp hs
        exact ⟨⟨hc.1, hc.2.1.1, h1⟩, h2, hc.2.2.1, hc.2.2.2.1, h3⟩
      · cases hs
    · rintro ⟨⟨h0, h1, h2⟩, h3, h4, h5, h6⟩
      have hs := tile_sum _ _ _ h2
      rw [if_pos ⟨h0, ⟨h1, by omega⟩, h4, h5, by omega⟩]
      exact (boxS_iff bs _ _ e (by omega) (by omega)).mpr ⟨h2, h3, h6⟩
structure ColV (h : Int) (fx : List Int) (bx : List S71) : Prop where
  hi : 1 ≤ h ∧ h ≤ 24
  til : tile 0 bx h
  par : parcs [] bx
  fix : fixP h none fx = true
  low : ∀ f ∈ fx, ∃ b ∈ bx, b.f0 = f
theorem colP_iff (h : Int) (fx : List Int) (bx : List S71) : colP h fx bx = true ↔ ColV h fx bx := by
  rw [← colS_eq]
  constructor
  · intro e
    simp only [Bool.and_eq_true, decide_eq_true_eq] at e
    obtain ⟨e1, e2, e3, e4⟩ := e
    cases hS : boxS bx 0 [] with
    | none => rw [hS] at e2; simp [boxesS] at e2
    | some x =>
      rw [hS] at e2
      simp only [boxesS, Bool.and_eq_true, decide_eq_true_eq] at e2
      obtain ⟨_, rfl⟩ := e2
      obtain ⟨t1, t2, t3⟩ := (boxS_iff bx 0 [] x (by omega) (by omega)).mp hS
      refine ⟨e1, t1, t3, e3, fun f hf => ?_⟩
      have := List.all_eq_true.mp e4 f hf
      simp only [decide_eq_true_eq, List.mem_map] at this
      exact this
  · intro v
    have hS := (boxS_iff bx 0 [] h (by omega) (by omega)).mpr ⟨v.til, v.hi.2, v.par⟩
    have hne : bx ≠ [] := by
      intro e
      have := v.til
      rw [e] at this
      simp only [tile] at this
      have := v.hi
      omega
    simp only [Bool.and_eq_true, decide_eq_true_eq]
    refine ⟨v.hi, ?_, v.fix, ?_⟩
    · rw [hS]; simp [boxesS, hne]
    · exact List.all_eq_true.mpr (fun f hf => by simp only [decide_eq_true_eq, List.mem_map]; exact v.low f hf)
theorem ColV.len {h : Int} {fx : List Int} {bx : List S71} (v : ColV h fx bx) : bx.length ≤ 24 := by
  have := tile_sum _ _ _ v.til
  have := v.hi
  omega
theorem ColV.mem {h : Int} {fx : List Int} {bx : List S71} (v : ColV h fx bx) {b : S71} (hb : b ∈ bx) : 0 ≤ b.f0 ∧ 1 ≤ b.f1 ∧ b.f0 + b.f1 ≤ 24 := by
  have := tile_mem _ _ _ v.til b hb
  have := v.hi
  omega
end Go.Proofs.Ytghfeapncmlihaa.A

namespace Go.Proofs.Ytghfeapncmlihaa.A
open Go.RowKit Go.Proofs.YtghfeapncmlihaaW.PrintWords Go.Proofs.YtghfeapncmlihaaW.PrintLast Go.Proofs.YtghfeapncmlihaaW.PrintMore
set_option linter.unusedVariables false
set_option linter.unusedSimpArgs false
def toI_Box (b : S93) : S71 := ⟨b.f0, b.f1, b.f2, b.f3⟩
theorem toIntS_ev (l : List Int) (hl : l.length ≤ 1048576) : Ev (fun k => laws_toIntS.f k l) l := Ev.mk l.length (fun k hk => by
  unfold laws_toIntS.f
  rw [if_pos (by omega), if_pos (by omega)]
  refine (map_loop (L := fun k acc i => laws_toIntS.l0 k l acc i) (xs := l) (g := id) 0 (fun k acc i hi ha => ?_) (fun k acc => ?_) l.length k _ 0 (by omega) hk (by simp) (fun j hj => by omega)).trans (by rw [List.map_id])
  · simp only [laws_toIntS.l0]
    rw [if_pos (by omega), if_pos (by omega), if_pos (by omega), wsucc i (by omega)]
    rfl
  · simp only [laws_toIntS.l0]
    rw [if_neg (by omega)])
theorem toBoxS_ev (l : List S93) (hl : l.length ≤ 1048576) : Ev (fun k => laws_toBoxS.f k l) (l.map toI_Box) := Ev.mk l.length (fun k hk => by
  unfold laws_toBoxS.f
  rw [if_pos (by omega), if_pos (by omega)]
  refine map_loop (L := fun k acc i => laws_toBoxS.l0 k l acc i) z93 (fun k acc i hi ha => ?_) (fun k acc => ?_) l.length k _ 0 (by omega) hk (by simp) (fun j hj => by omega)
  · simp only [laws_toBoxS.l0]
    rw [if_pos (by omega), if_pos (by omega)]
    simp only [laws_toBox.f, Option.bind_some]
    rw [if_pos (by omega), wsucc i (by omega)]
    rfl
  · simp only [laws_toBoxS.l0]
    rw [if_neg (by omega)])
theorem toColumn_ev (h : Int) (fx : List Int) (bx : List S93) (hf : fx.length ≤ 1048576) (hb : bx.length ≤ 1048576) : Ev (fun k => laws_toColumn.f k h fx bx) (h, fx, bx.map toI_Box) := by
  unfold laws_toColumn.f
  exact Ev.bind (toIntS_ev fx hf) (Ev.bind (toBoxS_ev bx hb) (Ev.ret _))
theorem szColumn_eq (h : Int) (fx : List Int) (bx : List S93) (a : Int) (h0 : 0 ≤ a) (h1 : a ≤ 1048576) (hf : fx.length ≤ 9223372036854775807) (hb : bx.length ≤ 9223372036854775807) : laws_szColumn.f h fx bx a = some (if a < fx.length + bx.length then -1 else a - fx.length - bx.length) := by
  unfold laws_szColumn.f laws_szIntS.f laws_szBoxS.f
  rw [wid (a - (fx.length : Int)) (by omega) (by omega)]
  by_cases c : a - (fx.length : Int) < 0
  · rw [if_pos c]
    simp only [Option.bind_some]
    rw [if_pos (by omega), if_pos (by omega)]
  · rw [if_neg c]
    simp only [Option.bind_some]
    rw [if_neg c, wid (a - (fx.length : Int) - (bx.length : Int)) (by omega) (by omega)]
    by_cases d : a - (fx.length : Int) - (bx.length : Int) < 0
    · rw [if_pos d]
      simp only [Option.bind_some]
      rw [if_pos (by omega), if_pos (by omega)]
    · rw [if_neg d]
      simp only [Option.bind_some]
      rw [if_neg d, if_neg (by omega)]
theorem eqIntS_ev (l : List Int) (hl : l.length ≤ 1048576) : Ev (fun k => laws_eqIntS.f k l l) true := Ev.mk l.length (fun k hk => by
  unfold laws_eqIntS.f
  rw [if_pos rfl]
  have h := all_loop (L := fun k i => laws_eqIntS.l0 k l l i) (n := l.length) (P := fun _ => true) (fun k i hi => ?_) (fun k => ?_) l.length k 0 (by omega) hk
  · have e : (List.range' 0 l.length).all (fun _ => true) = true := by simp
    rw [e] at h
    exact h
  · simp only [laws_eqIntS.l0]
    rw [if_pos (by omega), if_pos (by omega), if_pos (by omega)]
    simp only [if_true]
    rw [wsucc i (by omega)]
  · simp only [laws_eqIntS.l0]
    rw [if_neg (by omega)])
theorem eqBoxS_ev (l : List S71) (hl : l.length ≤ 1048576) : Ev (fun k => laws_eqBoxS.f k l l) true := Ev.mk l.length (fun k hk => by
  unfold laws_eqBoxS.f
  rw [if_pos rfl]
  have h := all_loop (L := fun k i => laws_eqBoxS.l0 k l l i) (n := l.length) (P := fun _ => true) (fun k i hi => ?_) (fun k => ?_) l.length k 0 (by omega) hk
  · have e : (List.range' 0 l.length).all (fun _ => true) = true := by simp
    rw [e] at h
    exact h
  · simp only [laws_eqBoxS.l0]
    rw [if_pos (by omega), if_pos (by omega), if_pos (by omega)]
    simp only [laws_eqBox.f, bne_self_eq_false, Bool.false_eq_true, if_false, if_true, Option.bind_some]
    rw [wsucc i (by omega)]
  · simp only [laws_eqBoxS.l0]
    rw [if_neg (by omega)])
theorem eqColumn_ev (h : Int) (fx : List Int) (bx : List S71) (hf : fx.length ≤ 1048576) (hb : bx.length ≤ 1048576) : Ev (fun k => laws_eqColumn.f k h fx bx h fx bx) true := by
  unfold laws_eqColumn.f
  refine Ev.pos rfl ?_
  refine Ev.bind (eqIntS_ev fx hf) ?_
  refine Ev.pos rfl ?_
  refine Ev.bind (eqBoxS_ev bx hb) ?_
  refine Ev.pos rfl ?_
  exact Ev.ret _
theorem mark_loop {β : Type} {L : Nat → List β → Int → Int → Option (Int × List β)} {n : Nat} {g : Nat → β} {X : Nat → Int}
    (h : ∀ k acc (i : Nat), i < n → acc.length = n → L (k + 1) acc (X i) (i : Int) = L k (acc.set i (g i)) (X (i + 1)) ((i + 1 : Nat) : Int))
    (he : ∀ k acc, acc.length = n → L (k + 1) acc (X n) (n : Int) = some (X n, acc)) (d : Nat) :
    ∀ k acc (i : Nat), i + d = n → d < k → acc.length = n → (∀ j, j < i → acc[j]? = ((List.range n).map g)[j]?) → L k acc (X i) (i : Int) = some (X n, (List.range n).map g) := by
  induction d with
  | zero =>
    intro k acc i hi hk hl hp
    obtain ⟨k, rfl⟩ : ∃ m, k = m + 1 := ⟨k - 1, by omega⟩
    obtain rfl : i = n := by omega
    rw [he k acc hl]
    congr 2
    apply List.ext_getElem?
    intro j
    by_cases hj : j < i
    · exact hp j hj
    · rw [List.getElem?_eq_none (by omega), List.getElem?_eq_none (by simp; omega)]
  | succ d ih =>
    intro k acc i hi hk hl hp
    obtain ⟨k, rfl⟩ : ∃ m, k = m + 1 := ⟨k - 1, by omega⟩
    rw [h k acc i (by omega) hl]
    refine ih k _ (i + 1) (by omega) (by omega) (by simp [hl]) (fun j hj => ?_)
    by_cases e : i = j
    · subst e
      rw [List.getElem?_set_self (by omega), List.getElem?_map, List.getElem?_range (by omega)]
      rfl
    · rw [List.getElem?_set_ne e]
      exact hp j (by omega)
theorem held_loop {L : Nat → Int → Int → Option Int} {n : Nat} {X : Nat → Int}
    (h : ∀ k (i : Nat), i < n → L (k + 1) (X i) (i : Int) = L k (X (i + 1)) ((i + 1 : Nat) : Int)) (he : ∀ k, L (k + 1) (X n) (n : Int) = some (X n)) (d : Nat) :
    ∀ k (i : Nat), i + d = n → d < k → L k (X i) (i : Int) = some (X n) := by
  induction d with
  | zero =>
    intro k i hi hk
    obtain ⟨k, rfl⟩ : ∃ m, k = m + 1 := ⟨k - 1, by omega⟩
    obtain rfl : i = n := by omega
    exact he k
  | succ d ih =>
    intro k i hi hk
    obtain ⟨k, rfl⟩ : ∃ m, k = m + 1 := ⟨k - 1, by omega⟩
    rw [h k i (by omega)]
    exact ih k (i + 1) (by omega) (by omega)
theorem getD_range {β : Type} (n : Nat) (g : Nat → β) (d : β) (i : Nat) (h : i < n) : ((List.range n).map g).getD i d = g i := by
  rw [List.getD_eq_getElem?_getD, List.getElem?_map, List.getElem?_range h]
  rfl
def mkI (a : Int) (n : Nat) : List Int := (List.range n).map (fun (j : Nat) => a + (j : Int))
theorem markIntS_ev (l : List Int) (hl : l.length ≤ 1048576) (a : Int) (h0 : 0 ≤ a) (h1 : a ≤ 100000000) : Ev (fun k => laws_markIntS.f k l a) (a + l.length, mkI a l.length) := Ev.mk l.length (fun k hk => by
  unfold laws_markIntS.f
  have h := mark_loop (L := fun k acc x i => laws_markIntS.l0 k acc x i) (n := l.length) (g := fun j => a + (j : Int)) (X := fun j => a + (j : Int)) (fun k acc i hi ha => ?_) (fun k acc ha => ?_) l.length k l 0 (by omega) hk rfl (fun j hj => by omega)
  · rw [show a + ((0 : Nat) : Int) = a by omega] at h
    exact h
  · simp only [laws_markIntS.l0]
    rw [if_pos (by omega), if_pos (by omega), wid (a + (i : Int) + 1) (by omega) (by omega), wsucc i (by omega), show a + (i : Int) + 1 = a + ((i + 1 : Nat) : Int) by omega]
    rfl
  · simp only [laws_markIntS.l0]
    rw [if_neg (by omega)])
theorem heldIntS_ev (n : Nat) (hn : n ≤ 1048576) (a : Int) (h0 : 0 ≤ a) (h1 : a ≤ 100000000) : Ev (fun k => laws_heldIntS.f k (mkI a n) a) (a + n) := Ev.mk n (fun k hk => by
  unfold laws_heldIntS.f
  have hl : (mkI a n).length = n := by unfold mkI; simp
  have h := held_loop (L := fun k x i => laws_heldIntS.l0 k (mkI a n) x i) (n := n) (X := fun j => a + (j : Int)) (fun k i hi => ?_) (fun k => ?_) n k 0 (by omega) hk
  · rw [show a + ((0 : Nat) : Int) = a by omega] at h
    exact h
  · simp only [laws_heldIntS.l0]
    have e : rd (mkI a n) (i : Int) = a + (i : Int) := getD_range n _ _ i hi
    rw [if_pos (by omega), if_pos (by omega), e, if_pos rfl, wid (a + (i : Int) + 1) (by omega) (by omega), wsucc i (by omega), show a + (i : Int) + 1 = a + ((i + 1 : Nat) : Int) by omega]
  · simp only [laws_heldIntS.l0]
    rw [if_neg (by omega)])
theorem rd_set {l : List S71} {i : Nat} (h : i < l.length) (v : S71) : rd_T71 (l.set i v) (i : Int) = v := by
  show (l.set i v).getD i _ = v
  rw [List.getD_eq_getElem?_getD, List.getElem?_set_self h]
  rfl
def mkBox (x : Int) : S71 := ⟨x, x + 1, x + 2, Int.tmod (x + 3) 3 == 0⟩
def mkB (a : Int) (n : Nat) : List S71 := (List.range n).map (fun (j : Nat) => mkBox (a + 4 * (j : Int)))
theorem mkB_len (a : Int) (n : Nat) : (mkB a n).length = n := by unfold mkB; simp
theorem markBoxS_ev (l : List S71) (hl : l.length ≤ 1048576) (a : Int) (h0 : 0 ≤ a) (h1 : a ≤ 100000000) : Ev (fun k => laws_markBoxS.f k l a) (a + 4 * l.length, mkB a l.length) := Ev.mk l.length (fun k hk => by
  unfold laws_markBoxS.f
  have h := mark_loop (L := fun k acc x i => laws_markBoxS.l0 k acc x i) (n := l.length) (g := fun j => mkBox (a + 4 * (j : Int))) (X := fun j => a + 4 * (j : Int)) (fun k acc i hi ha => ?_) (fun k acc ha => ?_) l.length k l 0 (by omega) hk rfl (fun j hj => by omega)
  · rw [show a + 4 * ((0 : Nat) : Int) = a by omega] at h
    exact h
  · simp only [laws_markBoxS.l0]
    generalize hx : a + 4 * (i : Int) = x
    rw [if_pos (by omega), if_pos (by omega)]
    simp only [Option.bind_some, Int.toNat_natCast]
    rw [wid (x + 1) (by omega) (by omega), wid (x + 1 + 1) (by omega) (by omega), wid (x + 1 + 1 + 1) (by omega) (by omega), wid (x + 1 + 1 + 1 + 1) (by omega) (by omega), wsucc i (by omega)]
    have s1 : i < acc.length := by omega
    simp only [rd_set s1, List.set_set]
    rw [show x + 1 + 1 + 1 + 1 = a + 4 * ((i + 1 : Nat) : Int) by omega, show x + 1 + 1 + 1 = x + 3 by omega, show x + 1 + 1 = x + 2 by omega]
    rfl
  · simp only [laws_markBoxS.l0]
    rw [if_neg (by omega)])
theorem heldBoxS_ev (n : Nat) (hn : n ≤ 1048576) (a : Int) (h0 : 0 ≤ a) (h1 : a ≤ 100000000) : Ev (fun k => laws_heldBoxS.f k (mkB a n) a) (a + 4 * n) := Ev.mk n (fun k hk => by
  unfold laws_heldBoxS.f
  have hl := mkB_len a n
  have h := held_loop (L := fun k x i => laws_heldBoxS.l0 k (mkB a n) x i) (n := n) (X := fun j => a + 4 * (j : Int)) (fun k i hi => ?_) (fun k => ?_) n k 0 (by omega) hk
  · rw [show a + 4 * ((0 : Nat) : Int) = a by omega] at h
    exact h
  · simp only [laws_heldBoxS.l0]
    have e : rd_T71 (mkB a n) (i : Int) = mkBox (a + 4 * (i : Int)) := getD_range n _ _ i hi
    generalize hx : a + 4 * (i : Int) = x at e ⊢
    rw [if_pos (by omega), if_pos (by omega), e]
    rw [wid (x + 1) (by omega) (by omega), wid (x + 1 + 1) (by omega) (by omega), wid (x + 1 + 1 + 1) (by omega) (by omega), wid (x + 1 + 1 + 1 + 1) (by omega) (by omega), wsucc i (by omega)]
    rw [show x + 1 + 1 + 1 + 1 = a + 4 * ((i + 1 : Nat) : Int) by omega, show x + 1 + 1 + 1 = x + 3 by omega, show x + 1 + 1 = x + 2 by omega]
    simp only [mkBox, if_true, bne_self_eq_false, Bool.false_eq_true, if_false]
  · simp only [laws_heldBoxS.l0]
    rw [if_neg (by omega)])
theorem markColumn_ev (h : Int) (fx : List Int) (bx : List S71) (hf : fx.length ≤ 1048576) (hb : bx.length ≤ 1048576) (a : Int) (h0 : 0 ≤ a) (h1 : a ≤ 10000000) : Ev (fun k => laws_markColumn.f k h fx bx a) (a + fx.length + 4 * bx.length, mkI a fx.length, mkB (a + fx.length) bx.length) := by
  unfold laws_markColumn.f
  refine Ev.bind (markIntS_ev fx hf a h0 (by omega)) ?_
  dsimp only
  exact Ev.bind (markBoxS_ev bx hb _ (by omega) (by omega)) (Ev.ret _)
theorem heldColumn_ev (h : Int) (n m : Nat) (hf : n ≤ 1048576) (hb : m ≤ 1048576) (a : Int) (h0 : 0 ≤ a) (h1 : a ≤ 10000000) : Ev (fun k => laws_heldColumn.f k h (mkI a n) (mkB (a + n) m) a) (a + n + 4 * m) := by
  unfold laws_heldColumn.f
  refine Ev.bind (heldIntS_ev n hf a h0 (by omega)) ?_
  refine Ev.neg (by omega) ?_
  refine Ev.bind (heldBoxS_ev m hb _ (by omega) (by omega)) ?_
  refine Ev.neg (by omega) ?_
  exact Ev.ret _
end Go.Proofs.Ytghfeapncmlihaa.A

namespace Go.Proofs.Ytghfeapncmlihaa.A
open Go.RowKit Go.Proofs.YtghfeapncmlihaaW.PrintWords Go.Proofs.YtghfeapncmlihaaW.PrintLast Go.Proofs.YtghfeapncmlihaaW.PrintMore
set_option linter.unusedVariables false
set_option linter.unusedSimpArgs false
theorem clone_ev (l : List Int) (hl : l.length ≤ 4398046511103) : Ev (fun _ => slices_Clone_int_int.f l) l := Ev.const (by
  unfold slices_Clone_int_int.f
  simp only [Option.bind_some, List.length_nil, List.nil_append, Nat.zero_add]
  rw [if_pos (by omega)])
theorem cloneB_ev (l : List S71) (hl : l.length ≤ 4398046511103) : Ev (fun _ => impl_Box_92.f l) l := Ev.const (by
  unfold impl_Box_92.f
  simp only [Option.bind_some, List.length_nil, List.nil_append, Nat.zero_add]
  rw [if_pos (by omega)])
theorem copy_ev (h : Int) (fx : List Int) (bx : List S71) (hf : fx.length ≤ 4398046511103) (hb : bx.length ≤ 4398046511103) : Ev (fun _ => impl_copyColumn.f h fx bx) (h, fx, bx) := by
  unfold impl_copyColumn.f
  exact Ev.bind (clone_ev fx hf) (Ev.bind (cloneB_ev bx hb) (Ev.ret _))
theorem copyS_ev (h : Int) (fx : List Int) (bx : List S71) (hf : fx.length ≤ 4398046511103) (hb : bx.length ≤ 4398046511103) : Ev (fun _ => spec_l02Copy.f h fx bx) (h, fx, bx) := Ev.const (by
  unfold spec_l02Copy.f
  simp only [Option.bind_some, List.length_nil, List.nil_append, Nat.zero_add]
  rw [if_pos (by omega), if_pos (by omega)])
def jamL (unit : Int) (j : Bool) : List S71 → List S71 × Bool
  | [] => ([], false)
  | b :: l => if b.f0 ≤ unit ∧ unit < b.f0 + b.f1 then (⟨b.f0, b.f1, b.f2, j⟩ :: l, true) else (b :: (jamL unit j l).1, (jamL unit j l).2)
def jamP (h : Int) (fx : List Int) (bx : List S71) (unit : Int) (j : Bool) : List S71 × Bool := if colP h fx bx = true then jamL unit j bx else (bx, false)
theorem set_take_drop {α : Type} (l : List α) (i : Nat) (h : i < l.length) (v : α) : l.set i v = l.take i ++ v :: l.drop (i + 1) := by
  rw [List.set_eq_take_append_cons_drop, if_pos h]
theorem take_snoc {α : Type} (l : List α) (i : Nat) (h : i < l.length) (d : α) : l.take i ++ [l.getD i d] = l.take (i + 1) := by
  rw [List.take_add_one, List.getD_eq_getElem?_getD, List.getElem?_eq_getElem h]
  rfl
theorem jamL_len (unit : Int) (j : Bool) : ∀ (l : List S71), (jamL unit j l).1.length = l.length
  | [] => rfl
  | b :: l => by
    simp only [jamL]
    split
    · rfl
    · simp [jamL_len unit j l]
theorem jamP_len (h : Int) (fx : List Int) (bx : List S71) (unit : Int) (j : Bool) : (jamP h fx bx unit j).1.length = bx.length := by
  unfold jamP; split
  · exact jamL_len unit j bx
  · rfl
theorem jamS_loop (h : Int) (fx : List Int) (hx : fx.length ≤ 1048576) (bx : List S71) (hl : bx.length ≤ 24) (hm : ∀ b ∈ bx, 0 ≤ b.f0 ∧ 1 ≤ b.f1 ∧ b.f0 + b.f1 ≤ 24) (hc : colP h fx bx = true) (unit : Int) (j : Bool) :
    ∀ (rest : List S71) (i : Nat), bx.drop i = rest → i ≤ bx.length → Ev (fun k => spec_SetJam.l0 k unit j (i : Int) h fx bx h fx bx) (h, fx, bx.take i ++ (jamL unit j rest).1, (jamL unit j rest).2)
  | [], i, hd, hi => by
    have he := drop_end hd hi
    refine Ev.succ ?_
    simp only [spec_SetJam.l0]
    refine Ev.neg (by omega) ?_
    refine Ev.succ ?_
    simp only [spec_SetJam.j1]
    refine Ev.neg (by simp) ?_
    refine Ev.to (Ev.ret _) ?_
    subst he
    simp [jamL]
  | b :: rest, i, hd, hi => by
    obtain ⟨h1, h2, h3⟩ := drop_step z71 hd
    have er : rd_T71 bx (i : Int) = b := h2
    have hb : b ∈ bx := by rw [← h2, getD_gen _ h1]; exact List.getElem_mem _
    have hbb := hm b hb
    have ih := jamS_loop h fx hx bx hl hm hc unit j rest (i + 1) h3 (by omega)
    refine Ev.succ ?_
    simp only [spec_SetJam.l0]
    refine Ev.pos (by omega) ?_
    refine Ev.bind (colok_ev h fx (by omega) bx (by omega)) ?_
    rw [hc]
    refine Ev.succ ?_
    simp only [spec_SetJam.j1, er, jamL]
    rw [wid (b.f0 + b.f1) (by omega) (by omega), wid (b.f0 + b.f1 - 1) (by omega) (by omega), wsucc i (by omega)]
    refine Ev.pos (by trivial) (Ev.pos (by omega) (Ev.pos (by omega) ?_))
    refine Ev.bind (Ev.const (in_eq _ _ _)) ?_
    by_cases c : b.f0 ≤ unit ∧ unit ≤ b.f0 + b.f1 - 1
    · refine Ev.pos (decide_eq_true c) (Ev.pos (by omega) (Ev.to (Ev.ret _) ?_))
      rw [if_pos (by omega)]
      show (h, fx, bx.set (i : Int).toNat _, true) = _
      rw [Int.toNat_natCast, set_take_drop bx i h1, h3]
    · refine Ev.neg (by simpa using c) (Ev.to ih ?_)
      rw [if_neg (by omega), ← take_snoc bx i h1 z71, h2]
      simp
theorem jamS_ev (h : Int) (fx : List Int) (bx : List S71) (hf : fx.length ≤ 1048576) (hb : bx.length ≤ 1048576) (unit : Int) (j : Bool) : Ev (fun k => spec_SetJam.f k h fx bx unit j) (h, fx, jamP h fx bx unit j) := by
  unfold spec_SetJam.f jamP
  refine Ev.bind (copyS_ev h fx bx (by omega) (by omega)) ?_
  dsimp only
  by_cases c1 : colP h fx bx = true
  · rw [if_pos c1]
    have v := (colP_iff h fx bx).mp c1
    exact (jamS_loop h fx hf bx v.len (fun b hb => v.mem hb) c1 unit j bx 0 rfl (by omega)).to (by simp)
  · rw [if_neg c1]
    have c2 : colP h fx bx = false := by simpa using c1
    refine Ev.succ ?_
    simp only [spec_SetJam.l0]
    have fin : Ev (fun k => spec_SetJam.j1 k unit j 0 false h fx bx h fx bx) (h, fx, bx, false) := by
      refine Ev.succ ?_
      simp only [spec_SetJam.j1]
      exact Ev.neg (by simp) (Ev.ret _)
    by_cases c : (0 : Int) < bx.length
    · refine Ev.pos c ?_
      refine Ev.bind (colok_ev h fx (by omega) bx (by omega)) ?_
      rw [c2]
      exact fin
    · refine Ev.neg c ?_
      exact fin
end Go.Proofs.Ytghfeapncmlihaa.A

namespace Go.Proofs.Ytghfeapncmlihaa.A
open Go.RowKit Go.Proofs.YtghfeapncmlihaaW.PrintWords Go.Proofs.YtghfeapncmlihaaW.PrintLast Go.Proofs.YtghfeapncmlihaaW.PrintMore
set_option linter.unusedVariables false
set_option linter.unusedSimpArgs false
theorem jam_loop (h : Int) (fx : List Int) (bx : List S71) (hl : bx.length ≤ 24) (hm : ∀ b ∈ bx, 0 ≤ b.f0 ∧ 1 ≤ b.f1 ∧ b.f0 + b.f1 ≤ 24) (unit : Int) (j : Bool) :
    ∀ (rest : List S71) (i : Nat), bx.drop i = rest → i ≤ bx.length → Ev (fun k => impl_SetJam.l0 k unit j bx (bx.length : Int) (i : Int) h fx bx) (h, fx, bx.take i ++ (jamL unit j rest).1, (jamL unit j rest).2)
  | [], i, hd, hi => by
    have he := drop_end hd hi
    refine Ev.succ ?_
    simp only [impl_SetJam.l0]
    refine Ev.neg (by omega) ?_
    refine Ev.to (Ev.ret _) ?_
    subst he
    simp [jamL]
  | b :: rest, i, hd, hi => by
    obtain ⟨h1, h2, h3⟩ := drop_step z71 hd
    have er : rd_T71 bx (i : Int) = b := h2
    have hb : b ∈ bx := by rw [← h2, getD_gen _ h1]; exact List.getElem_mem _
    have hbb := hm b hb
    have ih := jam_loop h fx bx hl hm unit j rest (i + 1) h3 (by omega)
    refine Ev.succ ?_
    simp only [impl_SetJam.l0, er, jamL]
    rw [wid (b.f0 + b.f1) (by omega) (by omega), wsucc i (by omega)]
    refine Ev.pos (by omega) (Ev.pos (by omega) (Ev.pos (by omega) ?_))
    have go : ¬ (b.f0 ≤ unit ∧ unit < b.f0 + b.f1) → (h, fx, bx.take (i + 1) ++ (jamL unit j rest).1, (jamL unit j rest).2) = (h, fx, bx.take i ++ (if b.f0 ≤ unit ∧ unit < b.f0 + b.f1 then ((S71.mk b.f0 b.f1 b.f2 j :: rest, true) : List S71 × Bool) else (b :: (jamL unit j rest).1, (jamL unit j rest).2)).1, (if b.f0 ≤ unit ∧ unit < b.f0 + b.f1 then ((S71.mk b.f0 b.f1 b.f2 j :: rest, true) : List S71 × Bool) else (b :: (jamL unit j rest).1, (jamL unit j rest).2)).2) := by
      intro c
      rw [if_neg c, ← take_snoc bx i h1 z71, h2]
      simp
    by_cases c1 : unit ≥ b.f0
    · refine Ev.pos c1 ?_
      by_cases c2 : unit < b.f0 + b.f1
      · refine Ev.pos c2 (Ev.pos (by omega) (Ev.to (Ev.ret _) ?_))
        rw [if_pos ⟨c1, c2⟩]
        show (h, fx, bx.set (i : Int).toNat _, true) = _
        rw [Int.toNat_natCast, set_take_drop bx i h1, h3]
      · refine Ev.neg c2 (Ev.to ih (go (fun e => c2 e.2)))
    · refine Ev.neg c1 (Ev.to ih (go (fun e => c1 e.1)))
theorem jam_ev (h : Int) (fx : List Int) (bx : List S71) (hf : fx.length ≤ 1048576) (hb : bx.length ≤ 1048576) (unit : Int) (j : Bool) : Ev (fun k => impl_SetJam.f k h fx bx unit j) (h, fx, jamP h fx bx unit j) := by
  unfold impl_SetJam.f jamP
  refine Ev.bind (copy_ev h fx bx (by omega) (by omega)) ?_
  refine Ev.bind (Ev.const rfl) ?_
  dsimp only
  by_cases c1 : colP h fx bx = true
  · rw [if_pos c1]
    have v := (colP_iff h fx bx).mp c1
    refine Ev.pos c1 ?_
    exact (jam_loop h fx bx v.len (fun b hb => v.mem hb) unit j bx 0 rfl (by omega)).to (by simp)
  · rw [if_neg c1]
    exact Ev.neg c1 (Ev.ret _)
end Go.Proofs.Ytghfeapncmlihaa.A

namespace Go.Proofs.Ytghfeapncmlihaa.A
open Go.RowKit Go.Proofs.YtghfeapncmlihaaW.PrintWords Go.Proofs.YtghfeapncmlihaaW.PrintLast Go.Proofs.YtghfeapncmlihaaW.PrintMore
set_option linter.unusedVariables false
set_option linter.unusedSimpArgs false
theorem pureFnExactSetJam : ∀ (a0 : S25) (a1 : Int) (a2 : Bool), ok25 a0 → ok3 a1 → ok4 a2 → ∃ k, laws_FnExactSetJam.f k a0.f0 a0.f1 a0.f2 a1 a2 = some true := by
  rintro ⟨h, fx, bx⟩ unit j ⟨_, ⟨hf, _⟩, ⟨hb, _⟩⟩ _ _
  dsimp only at hf hb ⊢
  unfold maxLen at hf hb
  refine Ev.get ?_
  unfold laws_FnExactSetJam.f
  refine Ev.bind (Ev.const (szColumn_eq h fx bx 1048576 (by omega) (by omega) (by omega) (by omega))) ?_
  by_cases c : (1048576 : Int) < fx.length + bx.length
  · rw [if_pos c]
    exact Ev.pos (by omega) (Ev.ret _)
  · rw [if_neg c]
    have hl : (bx.map toI_Box).length = bx.length := List.length_map _
    have hT := toColumn_ev h fx bx (by omega) (by omega)
    generalize hy : bx.map toI_Box = y at hl hT
    have hS := jamS_ev h fx y (by omega) (by omega) unit j
    have hI := jam_ev h fx y (by omega) (by omega) unit j
    have hr := jamP_len h fx y unit j
    generalize hz : jamP h fx y unit j = z at hS hI hr
    obtain ⟨z, ok⟩ := z
    dsimp only at hr
    have hE := eqColumn_ev h fx z (by omega) (by omega)
    have hEy := eqColumn_ev h fx y (by omega) (by omega)
    have hM := markColumn_ev h fx z (by omega) (by omega) 1 (by omega) (by omega)
    have hH := heldColumn_ev h fx.length z.length (by omega) (by omega) 1 (by omega) (by omega)
    refine Ev.neg (by omega) ?_
    refine Ev.bind hT (Ev.bind hS (Ev.bind hT (Ev.bind hI (Ev.bind hE (Ev.pos (by trivial) ?_)))))
    refine Ev.succ ?_
    simp only [laws_FnExactSetJam.j0]
    refine Ev.neg (by simp) ?_
    refine Ev.bind hT (Ev.bind hEy (Ev.pos (by trivial) ?_))
    refine Ev.bind (markColumn_ev h fx y (by omega) (by omega) 1 (by omega) (by omega)) ?_
    dsimp only
    refine Ev.neg (by omega) ?_
    refine Ev.bind hE (Ev.pos (by trivial) ?_)
    refine Ev.succ ?_
    simp only [laws_FnExactSetJam.j1]
    refine Ev.neg (by simp) ?_
    refine Ev.bind hM (Ev.bind hH ?_)
    dsimp only
    refine Ev.neg (by omega) (Ev.pos (by trivial) ?_)
    refine Ev.bind hT (Ev.bind hI (Ev.bind hE (Ev.pos (by trivial) ?_)))
    refine Ev.succ ?_
    simp only [laws_FnExactSetJam.j2]
    refine Ev.neg (by simp) ?_
    exact Ev.bind hH (Ev.neg (by omega) (Ev.pos (by trivial) (Ev.ret _)))
end Go.Proofs.Ytghfeapncmlihaa.A
