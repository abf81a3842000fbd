/- Lemmas on the Lean functions of the printed program, without Go and memory: L3. -/
import Derived.Test.YtghfeapncmlihaaL2
import Derived.Test.YtghfeapncmlihaaAx6
import Derived.Test.YtghfeapncmlihaaAx9
import Derived.Test.YtghfeapncmlihaaAx3
import Derived.Test.YtghfeapncmlihaaAx11
import Derived.Test.YtghfeapncmlihaaAx12
import Derived.Test.YtghfeapncmlihaaOp
namespace Go.Proofs.Ytghfeapncmlihaa.A
open Go.RowKit Go.Proofs.YtghfeapncmlihaaW.PrintWords Go.Proofs.YtghfeapncmlihaaW.PrintLast Go.Proofs.YtghfeapncmlihaaW.PrintMore
set_option linter.unusedVariables false
set_option linter.unusedSimpArgs false

def toI_Box (b : S93) : S71 := ⟨b.f0, b.f1, b.f2, b.f3⟩
theorem toIntS_ev (l : List Int) (hl : l.length ≤ 1048576) : Ev (fun k => laws_toIntS.f k l) l := Ev.mk l.length (fun k hk => by
  unfold laws_toIntS.f
  rw [if_pos (by omega), if_pos (by omega)]
  refine (map_loop (L := fun k acc i => laws_toIntS.l0 k l acc i) (xs := l) (g := id) 0 (fun k acc i hi ha => ?_) (fun k acc => ?_) l.length k _ 0 (by omega) hk (by simp) (fun j hj => by omega)).trans (by rw [List.map_id])
  · simp only [laws_toIntS.l0]
    rw [if_pos (by omega), if_pos (by omega), if_pos (by omega), wsucc i (by omega)]
    rfl
  · simp only [laws_toIntS.l0]
    rw [if_neg (by omega)])
theorem toBoxS_ev (l : List S93) (hl : l.length ≤ 1048576) : Ev (fun k => laws_toBoxS.f k l) (l.map toI_Box) := Ev.mk l.length (fun k hk => by
  unfold laws_toBoxS.f
  rw [if_pos (by omega), if_pos (by omega)]
  refine map_loop (L := fun k acc i => laws_toBoxS.l0 k l acc i) z93 (fun k acc i hi ha => ?_) (fun k acc => ?_) l.length k _ 0 (by omega) hk (by simp) (fun j hj => by omega)
  · simp only [laws_toBoxS.l0]
    rw [if_pos (by omega), if_pos (by omega)]
    simp only [laws_toBox.f, Option.bind_some]
    rw [if_pos (by omega), wsucc i (by omega)]
    rfl
  · simp only [laws_toBoxS.l0]
    rw [if_neg (by omega)])
theorem toColumn_ev (h : Int) (fx : List Int) (bx : List S93) (hf : fx.length ≤ 1048576) (hb : bx.length ≤ 1048576) : Ev (fun k => laws_toColumn.f k h fx bx) (h, fx, bx.map toI_Box) := by
  unfold laws_toColumn.f
  exact Ev.bind (toIntS_ev fx hf) (Ev.bind (toBoxS_ev bx hb) (Ev.ret _))
theorem szColumn_eq (h : Int) (fx : List Int) (bx : List S93) (a : Int) (h0 : 0 ≤ a) (h1 : a ≤ 1048576) (hf : fx.length ≤ 9223372036854775807) (hb : bx.length ≤ 9223372036854775807) : laws_szColumn.f h fx bx a = some (if a < fx.length + bx.length then -1 else a - fx.length - bx.length) := by
  unfold laws_szColumn.f laws_szIntS.f laws_szBoxS.f
  rw [wid (a - (fx.length : Int)) (by omega) (by omega)]
  by_cases c : a - (fx.length : Int) < 0
  · rw [if_pos c]
    simp only [Option.bind_some]
    rw [if_pos (by omega), if_pos (by omega)]
  · rw [if_neg c]
    simp only [Option.bind_some]
    rw [if_neg c, wid (a - (fx.length : Int) - (bx.length : Int)) (by omega) (by omega)]
    by_cases d : a - (fx.length : Int) - (bx.length : Int) < 0
    · rw [if_pos d]
      simp only [Option.bind_some]
      rw [if_pos (by omega), if_pos (by omega)]
    · rw [if_neg d]
      simp only [Option.bind_some]
      rw [if_neg d, if_neg (by omega)]
theorem eqIntS_ev (l : List Int) (hl : l.length ≤ 1048576) : Ev (fun k => laws_eqIntS.f k l l) true := Ev.mk l.length (fun k hk => by
  unfold laws_eqIntS.f
  rw [if_pos rfl]
  have h := all_loop (L := fun k i => laws_eqIntS.l0 k l l i) (n := l.length) (P := fun _ => true) (fun k i hi => ?_) (fun k => ?_) l.length k 0 (by omega) hk
  · have e : (List.range' 0 l.length).all (fun _ => true) = true := by simp
    rw [e] at h
    exact h
  · simp only [laws_eqIntS.l0]
    rw [if_pos (by omega), if_pos (by omega), if_pos (by omega)]
    simp only [if_true]
    rw [wsucc i (by omega)]
  · simp only [laws_eqIntS.l0]
    rw [if_neg (by omega)])
theorem eqBoxS_ev (l : List S71) (hl : l.length ≤ 1048576) : Ev (fun k => laws_eqBoxS.f k l l) true := Ev.mk l.length (fun k hk => by
  unfold laws_eqBoxS.f
  rw [if_pos rfl]
  have h := all_loop (L := fun k i => laws_eqBoxS.l0 k l l i) (n := l.length) (P := fun _ => true) (fun k i hi => ?_) (fun k => ?_) l.length k 0 (by omega) hk
  · have e : (List.range' 0 l.length).all (fun _ => true) = true := by simp
    rw [e] at h
    exact h
  · simp only [laws_eqBoxS.l0]
    rw [if_pos (by omega), if_pos (by omega), if_pos (by omega)]
    simp only [laws_eqBox.f, bne_self_eq_false, Bool.false_eq_true, if_false, if_true, Option.bind_some]
    rw [wsucc i (by omega)]
  · simp only [laws_eqBoxS.l0]
    rw [if_neg (by omega)])
theorem eqColumn_ev (h : Int) (fx : List Int) (bx : List S71) (hf : fx.length ≤ 1048576) (hb : bx.length ≤ 1048576) : Ev (fun k => laws_eqColumn.f k h fx bx h fx bx) true := by
  unfold laws_eqColumn.f
  refine Ev.pos rfl ?_
  refine Ev.bind (eqIntS_ev fx hf) ?_
  refine Ev.pos rfl ?_
  refine Ev.bind (eqBoxS_ev bx hb) ?_
  refine Ev.pos rfl ?_
  exact Ev.ret _

/-- A loop that writes every element, a number running along. -/
theorem mark_loop {β : Type} {L : Nat → List β → Int → Int → Option (Int × List β)} {n : Nat} {g : Nat → β} {X : Nat → Int}
    (h : ∀ k acc (i : Nat), i < n → acc.length = n → L (k + 1) acc (X i) (i : Int) = L k (acc.set i (g i)) (X (i + 1)) ((i + 1 : Nat) : Int))
    (he : ∀ k acc, acc.length = n → L (k + 1) acc (X n) (n : Int) = some (X n, acc)) (d : Nat) :
    ∀ k acc (i : Nat), i + d = n → d < k → acc.length = n → (∀ j, j < i → acc[j]? = ((List.range n).map g)[j]?) → L k acc (X i) (i : Int) = some (X n, (List.range n).map g) := by
  induction d with
  | zero =>
    intro k acc i hi hk hl hp
    obtain ⟨k, rfl⟩ : ∃ m, k = m + 1 := ⟨k - 1, by omega⟩
    obtain rfl : i = n := by omega
    rw [he k acc hl]
    congr 2
    apply List.ext_getElem?
    intro j
    by_cases hj : j < i
    · exact hp j hj
    · rw [List.getElem?_eq_none (by omega), List.getElem?_eq_none (by simp; omega)]
  | succ d ih =>
    intro k acc i hi hk hl hp
    obtain ⟨k, rfl⟩ : ∃ m, k = m + 1 := ⟨k - 1, by omega⟩
    rw [h k acc i (by omega) hl]
    refine ih k _ (i + 1) (by omega) (by omega) (by simp [hl]) (fun j hj => ?_)
    by_cases e : i = j
    · subst e
      rw [List.getElem?_set_self (by omega), List.getElem?_map, List.getElem?_range (by omega)]
      rfl
    · rw [List.getElem?_set_ne e]
      exact hp j (by omega)
theorem held_loop {L : Nat → Int → Int → Option Int} {n : Nat} {X : Nat → Int}
    (h : ∀ k (i : Nat), i < n → L (k + 1) (X i) (i : Int) = L k (X (i + 1)) ((i + 1 : Nat) : Int)) (he : ∀ k, L (k + 1) (X n) (n : Int) = some (X n)) (d : Nat) :
    ∀ k (i : Nat), i + d = n → d < k → L k (X i) (i : Int) = some (X n) := by
  induction d with
  | zero =>
    intro k i hi hk
    obtain ⟨k, rfl⟩ : ∃ m, k = m + 1 := ⟨k - 1, by omega⟩
    obtain rfl : i = n := by omega
    exact he k
  | succ d ih =>
    intro k i hi hk
    obtain ⟨k, rfl⟩ : ∃ m, k = m + 1 := ⟨k - 1, by omega⟩
    rw [h k i (by omega)]
    exact ih k (i + 1) (by omega) (by omega)
theorem getD_range {β : Type} (n : Nat) (g : Nat → β) (d : β) (i : Nat) (h : i < n) : ((List.range n).map g).getD i d = g i := by
  rw [List.getD_eq_getElem?_getD, List.getElem?_map, List.getElem?_range h]
  rfl
def mkI (a : Int) (n : Nat) : List Int := (List.range n).map (fun (j : Nat) => a + (j : Int))
theorem markIntS_ev (l : List Int) (hl : l.length ≤ 1048576) (a : Int) (h0 : 0 ≤ a) (h1 : a ≤ 100000000) : Ev (fun k => laws_markIntS.f k l a) (a + l.length, mkI a l.length) := Ev.mk l.length (fun k hk => by
  unfold laws_markIntS.f
  have h := mark_loop (L := fun k acc x i => laws_markIntS.l0 k acc x i) (n := l.length) (g := fun j => a + (j : Int)) (X := fun j => a + (j : Int)) (fun k acc i hi ha => ?_) (fun k acc ha => ?_) l.length k l 0 (by omega) hk rfl (fun j hj => by omega)
  · rw [show a + ((0 : Nat) : Int) = a by omega] at h
    exact h
  · simp only [laws_markIntS.l0]
    rw [if_pos (by omega), if_pos (by omega), wid (a + (i : Int) + 1) (by omega) (by omega), wsucc i (by omega), show a + (i : Int) + 1 = a + ((i + 1 : Nat) : Int) by omega]
    rfl
  · simp only [laws_markIntS.l0]
    rw [if_neg (by omega)])
theorem heldIntS_ev (n : Nat) (hn : n ≤ 1048576) (a : Int) (h0 : 0 ≤ a) (h1 : a ≤ 100000000) : Ev (fun k => laws_heldIntS.f k (mkI a n) a) (a + n) := Ev.mk n (fun k hk => by
  unfold laws_heldIntS.f
  have hl : (mkI a n).length = n := by unfold mkI; simp
  have h := held_loop (L := fun k x i => laws_heldIntS.l0 k (mkI a n) x i) (n := n) (X := fun j => a + (j : Int)) (fun k i hi => ?_) (fun k => ?_) n k 0 (by omega) hk
  · rw [show a + ((0 : Nat) : Int) = a by omega] at h
    exact h
  · simp only [laws_heldIntS.l0]
    have e : rd (mkI a n) (i : Int) = a + (i : Int) := getD_range n _ _ i hi
    rw [if_pos (by omega), if_pos (by omega), e, if_pos rfl, wid (a + (i : Int) + 1) (by omega) (by omega), wsucc i (by omega), show a + (i : Int) + 1 = a + ((i + 1 : Nat) : Int) by omega]
  · simp only [laws_heldIntS.l0]
    rw [if_neg (by omega)])
theorem mkI_len (a : Int) (n : Nat) : (mkI a n).length = n := by unfold mkI; simp
theorem rd_set {l : List S71} {i : Nat} (h : i < l.length) (v : S71) : rd_T71 (l.set i v) (i : Int) = v := by
  show (l.set i v).getD i _ = v
  rw [List.getD_eq_getElem?_getD, List.getElem?_set_self h]
  rfl
def mkBox (x : Int) : S71 := ⟨x, x + 1, x + 2, Int.tmod (x + 3) 3 == 0⟩
def mkB (a : Int) (n : Nat) : List S71 := (List.range n).map (fun (j : Nat) => mkBox (a + 4 * (j : Int)))
theorem mkB_len (a : Int) (n : Nat) : (mkB a n).length = n := by unfold mkB; simp
theorem markBoxS_ev (l : List S71) (hl : l.length ≤ 1048576) (a : Int) (h0 : 0 ≤ a) (h1 : a ≤ 100000000) : Ev (fun k => laws_markBoxS.f k l a) (a + 4 * l.length, mkB a l.length) := Ev.mk l.length (fun k hk => by
  unfold laws_markBoxS.f
  have h := mark_loop (L := fun k acc x i => laws_markBoxS.l0 k acc x i) (n := l.length) (g := fun j => mkBox (a + 4 * (j : Int))) (X := fun j => a + 4 * (j : Int)) (fun k acc i hi ha => ?_) (fun k acc ha => ?_) l.length k l 0 (by omega) hk rfl (fun j hj => by omega)
  · rw [show a + 4 * ((0 : Nat) : Int) = a by omega] at h
    exact h
  · simp only [laws_markBoxS.l0]
    generalize hx : a + 4 * (i : Int) = x
    rw [if_pos (by omega), if_pos (by omega)]
    simp only [Option.bind_some, Int.toNat_natCast]
    rw [wid (x + 1) (by omega) (by omega), wid (x + 1 + 1) (by omega) (by omega), wid (x + 1 + 1 + 1) (by omega) (by omega), wid (x + 1 + 1 + 1 + 1) (by omega) (by omega), wsucc i (by omega)]
    have s1 : i < acc.length := by omega
    simp only [rd_set s1, List.set_set]
    rw [show x + 1 + 1 + 1 + 1 = a + 4 * ((i + 1 : Nat) : Int) by omega, show x + 1 + 1 + 1 = x + 3 by omega, show x + 1 + 1 = x + 2 by omega]
    rfl
  · simp only [laws_markBoxS.l0]
    rw [if_neg (by omega)])
theorem heldBoxS_ev (n : Nat) (hn : n ≤ 1048576) (a : Int) (h0 : 0 ≤ a) (h1 : a ≤ 100000000) : Ev (fun k => laws_heldBoxS.f k (mkB a n) a) (a + 4 * n) := Ev.mk n (fun k hk => by
  unfold laws_heldBoxS.f
  have hl := mkB_len a n
  have h := held_loop (L := fun k x i => laws_heldBoxS.l0 k (mkB a n) x i) (n := n) (X := fun j => a + 4 * (j : Int)) (fun k i hi => ?_) (fun k => ?_) n k 0 (by omega) hk
  · rw [show a + 4 * ((0 : Nat) : Int) = a by omega] at h
    exact h
  · simp only [laws_heldBoxS.l0]
    have e : rd_T71 (mkB a n) (i : Int) = mkBox (a + 4 * (i : Int)) := getD_range n _ _ i hi
    generalize hx : a + 4 * (i : Int) = x at e ⊢
    rw [if_pos (by omega), if_pos (by omega), e]
    rw [wid (x + 1) (by omega) (by omega), wid (x + 1 + 1) (by omega) (by omega), wid (x + 1 + 1 + 1) (by omega) (by omega), wid (x + 1 + 1 + 1 + 1) (by omega) (by omega), wsucc i (by omega)]
    rw [show x + 1 + 1 + 1 + 1 = a + 4 * ((i + 1 : Nat) : Int) by omega, show x + 1 + 1 + 1 = x + 3 by omega, show x + 1 + 1 = x + 2 by omega]
    simp only [mkBox, if_true, bne_self_eq_false, Bool.false_eq_true, if_false]
  · simp only [laws_heldBoxS.l0]
    rw [if_neg (by omega)])
theorem markColumn_ev (h : Int) (fx : List Int) (bx : List S71) (hf : fx.length ≤ 1048576) (hb : bx.length ≤ 1048576) (a : Int) (h0 : 0 ≤ a) (h1 : a ≤ 10000000) : Ev (fun k => laws_markColumn.f k h fx bx a) (a + fx.length + 4 * bx.length, mkI a fx.length, mkB (a + fx.length) bx.length) := by
  unfold laws_markColumn.f
  refine Ev.bind (markIntS_ev fx hf a h0 (by omega)) ?_
  dsimp only
  exact Ev.bind (markBoxS_ev bx hb _ (by omega) (by omega)) (Ev.ret _)
theorem heldColumn_ev (h : Int) (n m : Nat) (hf : n ≤ 1048576) (hb : m ≤ 1048576) (a : Int) (h0 : 0 ≤ a) (h1 : a ≤ 10000000) : Ev (fun k => laws_heldColumn.f k h (mkI a n) (mkB (a + n) m) a) (a + n + 4 * m) := by
  unfold laws_heldColumn.f
  refine Ev.bind (heldIntS_ev n hf a h0 (by omega)) ?_
  refine Ev.neg (by omega) ?_
  refine Ev.bind (heldBoxS_ev m hb _ (by omega) (by omega)) ?_
  refine Ev.neg (by omega) ?_
  exact Ev.ret _


end Go.Proofs.Ytghfeapncmlihaa.A
