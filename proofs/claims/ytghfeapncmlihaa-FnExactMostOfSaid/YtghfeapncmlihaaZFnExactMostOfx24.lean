/- What the proof of the law FnExactMostOf uses: lemmas, the Lean functions of the Go functions that it reaches, their contracts, and the pure statement's proof. -/
import Derived.Test.YtghfeapncmlihaaZFnExactMostOfx23
import Derived.Test.YtghfeapncmlihaaZFnExactMostOfx12
import Derived.Test.YtghfeapncmlihaaZFnExactMostOfx15
import Derived.Test.YtghfeapncmlihaaZFnExactMostOfx11
import Derived.Test.YtghfeapncmlihaaZFnExactMostOfx13
import Derived.Test.YtghfeapncmlihaaZFnExactMostOfx18
import Derived.Test.YtghfeapncmlihaaZFnExactMostOfx17
import Derived.Test.YtghfeapncmlihaaZFnExactMostOfx14
import Derived.Test.YtghfeapncmlihaaZFnExactMostOfx20
import Derived.Test.YtghfeapncmlihaaZFnExactMostOfx21
import Derived.Test.YtghfeapncmlihaaZFnExactMostOfx22
namespace Go.Proofs.Ytghfeapncmlihaa.A
open Go.RowKit Go.Proofs.YtghfeapncmlihaaW.PrintWords Go.Proofs.YtghfeapncmlihaaW.PrintLast Go.Proofs.YtghfeapncmlihaaW.PrintMore
set_option linter.unusedVariables false
set_option linter.unusedSimpArgs false
def opB (b : S71) : Bool := decide (b.f2 = 0) && !b.f3
def sumB (l : List S71) : Int := (l.map (fun b => b.f1)).foldr (· + ·) 0
theorem sumB_nil : sumB [] = 0 := rfl
theorem sumB_cons (b : S71) (l : List S71) : sumB (b :: l) = b.f1 + sumB l := rfl
theorem sumB_app (a b : List S71) : sumB (a ++ b) = sumB a + sumB b := by
  induction a with
  | nil => simp [sumB_nil]
  | cons x a ih => rw [List.cons_append, sumB_cons, sumB_cons, ih]; omega
def tile : Int → List S71 → Int → Prop
  | lo, [], hi => lo = hi
  | lo, b :: bs, hi => b.f0 = lo ∧ 1 ≤ b.f1 ∧ tile (lo + b.f1) bs hi
theorem tile_sum : ∀ (bs : List S71) (lo hi : Int), tile lo bs hi → lo + sumB bs = hi ∧ lo + bs.length ≤ hi
  | [], lo, hi, h => by simp only [tile] at h; subst h; simp [sumB_nil]
  | b :: bs, lo, hi, h => by
    obtain ⟨_, h1, h2⟩ := h
    have := tile_sum bs _ _ h2
    rw [sumB_cons, List.length_cons]
    omega
theorem tile_mem : ∀ (bs : List S71) (lo hi : Int), tile lo bs hi → ∀ b ∈ bs, lo ≤ b.f0 ∧ 1 ≤ b.f1 ∧ b.f0 + b.f1 ≤ hi
  | [], _, _, _, b, hb => absurd hb (by simp)
  | x :: bs, lo, hi, h, b, hb => by
    obtain ⟨h0, h1, h2⟩ := h
    have h3 := tile_sum bs _ _ h2
    rcases List.mem_cons.mp hb with rfl | hb
    · omega
    · have := tile_mem bs _ _ h2 b hb
      omega
def gapR : List S71 → S54
  | [] => ⟨0, 0, 0⟩
  | b :: bs => ⟨0, b.f0, sumB (b :: bs)⟩
def emR (cur : List S71) : List S54 := if cur = [] then [] else [gapR cur]
def gapsW (fx : List Int) : List S71 → List S71 → List S54
  | cur, [] => emR cur
  | cur, b :: bs => if opB b = true then (if cur ≠ [] ∧ b.f0 ∉ fx then gapsW fx (cur ++ [b]) bs else emR cur ++ gapsW fx [b] bs) else emR cur ++ gapsW fx [] bs
def gapsB (fx : List Int) (bx : List S71) : List S54 := gapsW fx [] bx
def emD (pre cur bs : List S71) : List (List S71 × List S71 × List S71) := if cur = [] then [] else [(pre, cur, bs)]
def decs (fx : List Int) : List S71 → List S71 → List S71 → List (List S71 × List S71 × List S71)
  | pre, cur, [] => emD pre cur []
  | pre, cur, b :: bs => if opB b = true then (if cur ≠ [] ∧ b.f0 ∉ fx then decs fx pre (cur ++ [b]) bs else emD pre cur (b :: bs) ++ decs fx (pre ++ cur) [b] bs) else emD pre cur (b :: bs) ++ decs fx (pre ++ cur ++ [b]) [] bs
theorem emD_gap (pre cur bs : List S71) : (emD pre cur bs).map (fun d => gapR d.2.1) = emR cur := by
  unfold emD emR; split <;> rfl
theorem decs_gaps (fx : List Int) : ∀ (bs pre cur : List S71), (decs fx pre cur bs).map (fun d => gapR d.2.1) = gapsW fx cur bs
  | [], pre, cur => emD_gap pre cur []
  | b :: bs, pre, cur => by
    simp only [decs, gapsW]
    split
    · split
      · exact decs_gaps fx bs _ _
      · rw [List.map_append, emD_gap, decs_gaps fx bs]
    · rw [List.map_append, emD_gap, decs_gaps fx bs]
def Shut (fx : List Int) (A : List S71) : Prop := ∀ Z, gapsW fx [] (A ++ Z) = gapsW fx [] A ++ gapsW fx [] Z
def ShutAt (fx : List Int) (A : List S71) (lo : Int) : Prop := ∀ z Z, z.f0 = lo → gapsW fx [] (A ++ z :: Z) = gapsW fx [] A ++ gapsW fx [] (z :: Z)
theorem Shut.at {fx : List Int} {A : List S71} (h : Shut fx A) (lo : Int) : ShutAt fx A lo := fun z Z _ => h (z :: Z)
def parcs (ps : List Int) : List S71 → Prop
  | [] => True
  | b :: bs => (0 ≤ b.f2 ∧ b.f2 ≤ 999) ∧ ¬ (0 < b.f2 ∧ b.f2 ∈ ps) ∧ parcs (b.f2 :: ps) bs
theorem boxS_iff : ∀ (bs : List S71) (low : Int) (ps : List Int) (e : Int), 0 ≤ low → low ≤ 24 → (boxS bs low ps = some e ↔ tile low bs e ∧ e ≤ 24 ∧ parcs ps bs)
  | [], low, ps, e, h0, h => by
    simp only [boxS, tile, parcs, Option.some.injEq]
    constructor
    · rintro rfl; exact ⟨rfl, h, trivial⟩
    · rintro ⟨h, _⟩; exact h
  | b :: bs, low, ps, e, hn, h => by
    simp only [boxS, tile, parcs]
    constructor
    · intro hs
      split at hs
      · next hc =>
        obtain ⟨h1, h2, h3⟩ := (boxS_iff bs _ _ e (by omega) hc.2.2.2.2).mp hs
        exact ⟨⟨hc.1, hc.2.1.1, h1⟩, h2, hc.2.2.1, hc.2.2.2.1, h3⟩
      · cases hs
    · rintro ⟨⟨h0, h1, h2⟩, h3, h4, h5, h6⟩
      have hs := tile_sum _ _ _ h2
      rw [if_pos ⟨h0, ⟨h1, by omega⟩, h4, h5, by omega⟩]
      exact (boxS_iff bs _ _ e (by omega) (by omega)).mpr ⟨h2, h3, h6⟩
structure ColV (h : Int) (fx : List Int) (bx : List S71) : Prop where
  hi : 1 ≤ h ∧ h ≤ 24
  til : tile 0 bx h
  par : parcs [] bx
  fix : fixP h none fx = true
  low : ∀ f ∈ fx, ∃ b ∈ bx, b.f0 = f
theorem colP_iff (h : Int) (fx : List Int) (bx : List S71) : colP h fx bx = true ↔ ColV h fx bx := by
  rw [← colS_eq]
  constructor
  · intro e
    simp only [Bool.and_eq_true, decide_eq_true_eq] at e
    obtain ⟨e1, e2, e3, e4⟩ := e
    cases hS : boxS bx 0 [] with
    | none => rw [hS] at e2; simp [boxesS] at e2
    | some x =>
      rw [hS] at e2
      simp only [boxesS, Bool.and_eq_true, decide_eq_true_eq] at e2
      obtain ⟨_, rfl⟩ := e2
      obtain ⟨t1, t2, t3⟩ := (boxS_iff bx 0 [] x (by omega) (by omega)).mp hS
      refine ⟨e1, t1, t3, e3, fun f hf => ?_⟩
      have := List.all_eq_true.mp e4 f hf
      simp only [decide_eq_true_eq, List.mem_map] at this
      exact this
  · intro v
    have hS := (boxS_iff bx 0 [] h (by omega) (by omega)).mpr ⟨v.til, v.hi.2, v.par⟩
    have hne : bx ≠ [] := by
      intro e
      have := v.til
      rw [e] at this
      simp only [tile] at this
      have := v.hi
      omega
    simp only [Bool.and_eq_true, decide_eq_true_eq]
    refine ⟨v.hi, ?_, v.fix, ?_⟩
    · rw [hS]; simp [boxesS, hne]
    · exact List.all_eq_true.mpr (fun f hf => by simp only [decide_eq_true_eq, List.mem_map]; exact v.low f hf)
theorem ColV.len {h : Int} {fx : List Int} {bx : List S71} (v : ColV h fx bx) : bx.length ≤ 24 := by
  have := tile_sum _ _ _ v.til
  have := v.hi
  omega
theorem ColV.mem {h : Int} {fx : List Int} {bx : List S71} (v : ColV h fx bx) {b : S71} (hb : b ∈ bx) : 0 ≤ b.f0 ∧ 1 ≤ b.f1 ∧ b.f0 + b.f1 ≤ 24 := by
  have := tile_mem _ _ _ v.til b hb
  have := v.hi
  omega
theorem parcs_iff : ∀ (bs : List S71) (ps : List Int), parcs ps bs ↔ (∀ b ∈ bs, 0 ≤ b.f2 ∧ b.f2 ≤ 999) ∧ (∀ b ∈ bs, 0 < b.f2 → b.f2 ∉ ps) ∧ bs.Pairwise (fun a b => 0 < b.f2 → a.f2 ≠ b.f2)
  | [], ps => by simp [parcs]
  | b :: bs, ps => by
    simp only [parcs]
    rw [parcs_iff bs]
    constructor
    · rintro ⟨h1, h2, h3, h4, h5⟩
      refine ⟨fun x hx => ?_, fun x hx h0 => ?_, List.pairwise_cons.mpr ⟨fun x hx h0 e => h4 x hx h0 (by rw [← e]; simp), h5⟩⟩
      · rcases List.mem_cons.mp hx with rfl | hx
        · exact h1
        · exact h3 x hx
      · rcases List.mem_cons.mp hx with rfl | hx
        · exact fun hm => h2 ⟨h0, hm⟩
        · exact fun hm => h4 x hx h0 (by simp [hm])
    · rintro ⟨h1, h2, h3⟩
      obtain ⟨h4, h5⟩ := List.pairwise_cons.mp h3
      refine ⟨h1 b (by simp), fun h => h2 b (by simp) h.1 h.2, fun x hx => h1 x (by simp [hx]), fun x hx h0 hm => ?_, h5⟩
      rcases List.mem_cons.mp hm with e | hm
      · exact h4 x hx h0 e.symm
      · exact h2 x (by simp [hx]) h0 hm
end Go.Proofs.Ytghfeapncmlihaa.A

namespace Go.Proofs.Ytghfeapncmlihaa.A
open Go.RowKit Go.Proofs.YtghfeapncmlihaaW.PrintWords Go.Proofs.YtghfeapncmlihaaW.PrintLast Go.Proofs.YtghfeapncmlihaaW.PrintMore
set_option linter.unusedVariables false
set_option linter.unusedSimpArgs false
def toI_Box (b : S93) : S71 := ⟨b.f0, b.f1, b.f2, b.f3⟩
theorem toIntS_ev (l : List Int) (hl : l.length ≤ 1048576) : Ev (fun k => laws_toIntS.f k l) l := Ev.mk l.length (fun k hk => by
  unfold laws_toIntS.f
  rw [if_pos (by omega), if_pos (by omega)]
  refine (map_loop (L := fun k acc i => laws_toIntS.l0 k l acc i) (xs := l) (g := id) 0 (fun k acc i hi ha => ?_) (fun k acc => ?_) l.length k _ 0 (by omega) hk (by simp) (fun j hj => by omega)).trans (by rw [List.map_id])
  · simp only [laws_toIntS.l0]
    rw [if_pos (by omega), if_pos (by omega), if_pos (by omega), wsucc i (by omega)]
    rfl
  · simp only [laws_toIntS.l0]
    rw [if_neg (by omega)])
theorem toBoxS_ev (l : List S93) (hl : l.length ≤ 1048576) : Ev (fun k => laws_toBoxS.f k l) (l.map toI_Box) := Ev.mk l.length (fun k hk => by
  unfold laws_toBoxS.f
  rw [if_pos (by omega), if_pos (by omega)]
  refine map_loop (L := fun k acc i => laws_toBoxS.l0 k l acc i) z93 (fun k acc i hi ha => ?_) (fun k acc => ?_) l.length k _ 0 (by omega) hk (by simp) (fun j hj => by omega)
  · simp only [laws_toBoxS.l0]
    rw [if_pos (by omega), if_pos (by omega)]
    simp only [laws_toBox.f, Option.bind_some]
    rw [if_pos (by omega), wsucc i (by omega)]
    rfl
  · simp only [laws_toBoxS.l0]
    rw [if_neg (by omega)])
theorem toColumn_ev (h : Int) (fx : List Int) (bx : List S93) (hf : fx.length ≤ 1048576) (hb : bx.length ≤ 1048576) : Ev (fun k => laws_toColumn.f k h fx bx) (h, fx, bx.map toI_Box) := by
  unfold laws_toColumn.f
  exact Ev.bind (toIntS_ev fx hf) (Ev.bind (toBoxS_ev bx hb) (Ev.ret _))
theorem szColumn_eq (h : Int) (fx : List Int) (bx : List S93) (a : Int) (h0 : 0 ≤ a) (h1 : a ≤ 1048576) (hf : fx.length ≤ 9223372036854775807) (hb : bx.length ≤ 9223372036854775807) : laws_szColumn.f h fx bx a = some (if a < fx.length + bx.length then -1 else a - fx.length - bx.length) := by
  unfold laws_szColumn.f laws_szIntS.f laws_szBoxS.f
  rw [wid (a - (fx.length : Int)) (by omega) (by omega)]
  by_cases c : a - (fx.length : Int) < 0
  · rw [if_pos c]
    simp only [Option.bind_some]
    rw [if_pos (by omega), if_pos (by omega)]
  · rw [if_neg c]
    simp only [Option.bind_some]
    rw [if_neg c, wid (a - (fx.length : Int) - (bx.length : Int)) (by omega) (by omega)]
    by_cases d : a - (fx.length : Int) - (bx.length : Int) < 0
    · rw [if_pos d]
      simp only [Option.bind_some]
      rw [if_pos (by omega), if_pos (by omega)]
    · rw [if_neg d]
      simp only [Option.bind_some]
      rw [if_neg d, if_neg (by omega)]
theorem eqIntS_ev (l : List Int) (hl : l.length ≤ 1048576) : Ev (fun k => laws_eqIntS.f k l l) true := Ev.mk l.length (fun k hk => by
  unfold laws_eqIntS.f
  rw [if_pos rfl]
  have h := all_loop (L := fun k i => laws_eqIntS.l0 k l l i) (n := l.length) (P := fun _ => true) (fun k i hi => ?_) (fun k => ?_) l.length k 0 (by omega) hk
  · have e : (List.range' 0 l.length).all (fun _ => true) = true := by simp
    rw [e] at h
    exact h
  · simp only [laws_eqIntS.l0]
    rw [if_pos (by omega), if_pos (by omega), if_pos (by omega)]
    simp only [if_true]
    rw [wsucc i (by omega)]
  · simp only [laws_eqIntS.l0]
    rw [if_neg (by omega)])
theorem eqBoxS_ev (l : List S71) (hl : l.length ≤ 1048576) : Ev (fun k => laws_eqBoxS.f k l l) true := Ev.mk l.length (fun k hk => by
  unfold laws_eqBoxS.f
  rw [if_pos rfl]
  have h := all_loop (L := fun k i => laws_eqBoxS.l0 k l l i) (n := l.length) (P := fun _ => true) (fun k i hi => ?_) (fun k => ?_) l.length k 0 (by omega) hk
  · have e : (List.range' 0 l.length).all (fun _ => true) = true := by simp
    rw [e] at h
    exact h
  · simp only [laws_eqBoxS.l0]
    rw [if_pos (by omega), if_pos (by omega), if_pos (by omega)]
    simp only [laws_eqBox.f, bne_self_eq_false, Bool.false_eq_true, if_false, if_true, Option.bind_some]
    rw [wsucc i (by omega)]
  · simp only [laws_eqBoxS.l0]
    rw [if_neg (by omega)])
theorem eqColumn_ev (h : Int) (fx : List Int) (bx : List S71) (hf : fx.length ≤ 1048576) (hb : bx.length ≤ 1048576) : Ev (fun k => laws_eqColumn.f k h fx bx h fx bx) true := by
  unfold laws_eqColumn.f
  refine Ev.pos rfl ?_
  refine Ev.bind (eqIntS_ev fx hf) ?_
  refine Ev.pos rfl ?_
  refine Ev.bind (eqBoxS_ev bx hb) ?_
  refine Ev.pos rfl ?_
  exact Ev.ret _
end Go.Proofs.Ytghfeapncmlihaa.A

namespace Go.Proofs.Ytghfeapncmlihaa.A
open Go.RowKit Go.Proofs.YtghfeapncmlihaaW.PrintWords Go.Proofs.YtghfeapncmlihaaW.PrintLast Go.Proofs.YtghfeapncmlihaaW.PrintMore
attribute [local go_sem] max2_int min2_int max_two min_two max_three min_three max_four min_four   
set_option linter.unusedVariables false
set_option linter.unusedSimpArgs false
def idxP : List S71 → Int → Int → Int
  | [], _, _ => -1
  | b :: bs, p, i => if b.f2 = p then i else idxP bs p (i + 1)
end Go.Proofs.Ytghfeapncmlihaa.A

namespace Go.Proofs.Ytghfeapncmlihaa.A
open Go.RowKit Go.Proofs.YtghfeapncmlihaaW.PrintWords Go.Proofs.YtghfeapncmlihaaW.PrintLast Go.Proofs.YtghfeapncmlihaaW.PrintMore
set_option linter.unusedVariables false
set_option linter.unusedSimpArgs false
theorem idxP_add : ∀ (l : List S71) (p i : Int), 0 ≤ i → (idxP l p i = -1 ∧ ∀ b ∈ l, b.f2 ≠ p) ∨ ∃ l1 b l2, l = l1 ++ b :: l2 ∧ b.f2 = p ∧ (∀ x ∈ l1, x.f2 ≠ p) ∧ idxP l p i = i + l1.length
  | [], p, i, _ => Or.inl ⟨rfl, by simp⟩
  | b :: l, p, i, hi => by
    simp only [idxP]
    by_cases c : b.f2 = p
    · rw [if_pos c]
      exact Or.inr ⟨[], b, l, rfl, c, by simp, by simp⟩
    · rw [if_neg c]
      rcases idxP_add l p (i + 1) (by omega) with ⟨h1, h2⟩ | ⟨l1, x, l2, h1, h2, h3, h4⟩
      · exact Or.inl ⟨h1, fun y hy => by
          rcases List.mem_cons.mp hy with rfl | hy
          · exact c
          · exact h2 y hy⟩
      · refine Or.inr ⟨b :: l1, x, l2, by rw [h1]; rfl, h2, fun y hy => ?_, by rw [h4, List.length_cons]; omega⟩
        rcases List.mem_cons.mp hy with rfl | hy
        · exact c
        · exact h3 y hy
theorem idxP_cases (l : List S71) (p : Int) : (idxP l p 0 = -1 ∧ ∀ b ∈ l, b.f2 ≠ p) ∨ ∃ l1 b l2, l = l1 ++ b :: l2 ∧ b.f2 = p ∧ (∀ x ∈ l1, x.f2 ≠ p) ∧ idxP l p 0 = l1.length := by
  rcases idxP_add l p 0 (Int.le_refl _) with h | ⟨l1, b, l2, h1, h2, h3, h4⟩
  · exact Or.inl h
  · exact Or.inr ⟨l1, b, l2, h1, h2, h3, by rw [h4]; omega⟩
def boxI (l : List S71) (p : Int) : Int := if 0 < p then idxP l p 0 else -1
theorem box_loop (h : Int) (fx : List Int) (bx : List S71) (hl : bx.length ≤ 1048576) (p : Int) : ∀ (rest : List S71) (i : Nat), bx.drop i = rest → i ≤ bx.length → Ev (fun k => spec_l02Box.l0 k p (i : Int) h fx bx) (if 0 < p then idxP rest p (i : Int) else -1)
  | [], i, hd, hi => by
    have he := drop_end hd hi
    refine Ev.succ ?_
    simp only [spec_l02Box.l0]
    refine Ev.neg (by omega) ?_
    refine Ev.to (Ev.ret _) ?_
    simp [idxP]
  | b :: rest, i, hd, hi => by
    obtain ⟨h1, h2, h3⟩ := drop_step z71 hd
    have er : rd_T71 bx (i : Int) = b := h2
    have ih := box_loop h fx bx hl p rest (i + 1) h3 (by omega)
    refine Ev.succ ?_
    simp only [spec_l02Box.l0, er]
    refine Ev.pos (by omega) ?_
    refine Ev.pos (by omega) ?_
    rw [wsucc i (by omega)]
    by_cases c : b.f2 = p
    · refine Ev.pos c ?_
      by_cases d : p > 0
      · refine Ev.pos d (Ev.to (Ev.ret _) ?_)
        rw [if_pos d]
        simp only [idxP]
        rw [if_pos c]
      · refine Ev.neg d (Ev.to ih ?_)
        rw [if_neg d, if_neg d]
    · refine Ev.neg c (Ev.to ih ?_)
      simp only [idxP]
      rw [if_neg c]
      rfl
theorem box_ev (h : Int) (fx : List Int) (bx : List S71) (hl : bx.length ≤ 1048576) (p : Int) : Ev (fun k => spec_l02Box.f k h fx bx p) (boxI bx p) := by
  unfold spec_l02Box.f
  exact box_loop h fx bx hl p bx 0 rfl (by omega)
end Go.Proofs.Ytghfeapncmlihaa.A

namespace Go.Proofs.Ytghfeapncmlihaa.A
open Go.RowKit Go.Proofs.YtghfeapncmlihaaW.PrintWords Go.Proofs.YtghfeapncmlihaaW.PrintLast Go.Proofs.YtghfeapncmlihaaW.PrintMore
set_option linter.unusedVariables false
set_option linter.unusedSimpArgs false
def Small (cs : List S30) : Prop := cs.length ≤ 1048576 ∧ ∀ c ∈ cs, c.f1.length ≤ 1048576 ∧ c.f2.length ≤ 1048576
def crossP (c d : S30) : Bool := d.f2.all (fun b => decide (boxI c.f2 b.f2 < 0))
def bankS : List S30 → List S30 → Bool
  | _, [] => true
  | pre, c :: rest => colP c.f0 c.f1 c.f2 && (pre.all (fun p => crossP p c) && bankS (pre ++ [c]) rest)
theorem bank2_loop (cs : List S30) (hs : Small cs) (i j : Nat) (hi : i < cs.length) (hj : j < i) (r : Bool) (hr : Ev (fun k => spec_BankOk.l1 k cs (i : Int) ((j + 1 : Nat) : Int)) r) :
    ∀ (rest : List S71) (n : Nat), (cs.getD i z30).f2.drop n = rest → n ≤ (cs.getD i z30).f2.length → Ev (fun k => spec_BankOk.l2 k cs (i : Int) (j : Int) (n : Int)) (rest.all (fun b => decide (boxI (cs.getD j z30).f2 b.f2 < 0)) && r)
  | [], n, hd, hn => by
    have he := drop_end hd hn
    have er : rd_T30 cs (i : Int) = cs.getD i z30 := rfl
    have hl := hs.1
    refine Ev.succ ?_
    simp only [spec_BankOk.l2, er]
    refine Ev.pos (by omega) (Ev.pos (by omega) (Ev.neg (by omega) ?_))
    rw [wsucc j (by omega)]
    exact hr
  | b :: rest, n, hd, hn => by
    obtain ⟨h1, h2, h3⟩ := drop_step z71 hd
    have er : rd_T30 cs (i : Int) = cs.getD i z30 := rfl
    have er2 : rd_T30 cs (j : Int) = cs.getD j z30 := rfl
    have eb : rd_T71 (cs.getD i z30).f2 (n : Int) = b := h2
    have hl := hs.1
    have hmem : cs.getD i z30 ∈ cs := by rw [getD_gen _ hi]; exact List.getElem_mem _
    have hmem2 : cs.getD j z30 ∈ cs := by rw [getD_gen _ (show j < cs.length by omega)]; exact List.getElem_mem _
    have hl2 := (hs.2 _ hmem).2
    have hl3 := (hs.2 _ hmem2).2
    have ih := bank2_loop cs hs i j hi hj r hr rest (n + 1) h3 (by omega)
    refine Ev.succ ?_
    simp only [spec_BankOk.l2, er, er2, eb, List.all_cons]
    refine Ev.pos (by omega) (Ev.pos (by omega) (Ev.pos (by omega) (Ev.pos (by omega) (Ev.pos (by omega) (Ev.pos (by omega) ?_)))))
    refine Ev.bind (box_ev _ _ _ hl3 _) ?_
    rw [wsucc n (by omega)]
    by_cases c : boxI (cs.getD j z30).f2 b.f2 < 0
    · refine Ev.neg (by omega) ?_
      rw [decide_eq_true c, Bool.true_and]
      exact ih
    · refine Ev.pos (by omega) ?_
      rw [decide_eq_false c, Bool.false_and, Bool.false_and]
      exact Ev.ret _
theorem bank1_loop (cs : List S30) (hs : Small cs) (i : Nat) (hi : i < cs.length) (r : Bool) (hr : Ev (fun k => spec_BankOk.l0 k cs ((i + 1 : Nat) : Int)) r) :
    ∀ (d j : Nat), j + d = i → Ev (fun k => spec_BankOk.l1 k cs (i : Int) (j : Int)) (((cs.take i).drop j).all (fun p => crossP p (cs.getD i z30)) && r)
  | 0, j, hj => by
    have hl := hs.1
    refine Ev.succ ?_
    simp only [spec_BankOk.l1]
    refine Ev.neg (by omega) ?_
    rw [wsucc i (by omega), List.drop_eq_nil_of_le (by rw [List.length_take]; omega), List.all_nil, Bool.true_and]
    exact hr
  | d + 1, j, hj => by
    have hl := hs.1
    have ih := bank1_loop cs hs i hi r hr d (j + 1) (by omega)
    have h2 := bank2_loop cs hs i j hi (by omega) _ ih (cs.getD i z30).f2 0 rfl (by omega)
    refine Ev.succ ?_
    simp only [spec_BankOk.l1]
    refine Ev.pos (by omega) (h2.to ?_)
    have e : (cs.take i).drop j = cs.getD j z30 :: (cs.take i).drop (j + 1) := by
      have hj2 : j < (cs.take i).length := by rw [List.length_take]; omega
      rw [drop_cons _ z30 j hj2, List.getD_eq_getElem?_getD, List.getElem?_take_of_lt (by omega), ← List.getD_eq_getElem?_getD]
    rw [e, List.all_cons, Bool.and_assoc]
    rfl
theorem bank0_loop (cs : List S30) (hs : Small cs) : ∀ (rest : List S30) (i : Nat), cs.drop i = rest → i ≤ cs.length → Ev (fun k => spec_BankOk.l0 k cs (i : Int)) (bankS (cs.take i) rest)
  | [], i, hd, hi => by
    have he := drop_end hd hi
    refine Ev.succ ?_
    simp only [spec_BankOk.l0, bankS]
    exact Ev.neg (by omega) (Ev.ret _)
  | c :: rest, i, hd, hi => by
    obtain ⟨h1, h2, h3⟩ := drop_step z30 hd
    have er : rd_T30 cs (i : Int) = c := h2
    have hc : c ∈ cs := by rw [← h2, getD_gen _ h1]; exact List.getElem_mem _
    have hcs := hs.2 c hc
    have ih := bank0_loop cs hs rest (i + 1) h3 (by omega)
    have hi1 := bank1_loop cs hs i h1 _ ih i 0 (by omega)
    refine Ev.succ ?_
    simp only [spec_BankOk.l0, er, bankS]
    refine Ev.pos (by omega) (Ev.pos (by omega) (Ev.bind (colok_ev _ _ (by omega) _ (by omega)) ?_))
    have et : cs.take (i + 1) = cs.take i ++ [c] := by
      rw [List.take_add_one, ← h2, List.getD_eq_getElem?_getD, List.getElem?_eq_getElem h1]
      rfl
    by_cases d : colP c.f0 c.f1 c.f2 = true
    · refine Ev.pos d (hi1.to ?_)
      rw [d, Bool.true_and, List.drop_zero, h2, et]
    · refine Ev.neg d ((Ev.ret _).to ?_)
      have : colP c.f0 c.f1 c.f2 = false := by simpa using d
      rw [this, Bool.false_and]
def crossV (c d : S30) : Prop := ∀ a ∈ c.f2, ∀ b ∈ d.f2, 0 < b.f2 → a.f2 ≠ b.f2
theorem boxI_neg (l : List S71) (p : Int) : boxI l p < 0 ↔ (0 < p → ∀ a ∈ l, a.f2 ≠ p) := by
  unfold boxI
  by_cases h : 0 < p
  · rw [if_pos h]
    rcases idxP_cases l p with ⟨h1, h2⟩ | ⟨l1, b, l2, h1, h2, h3, h4⟩
    · rw [h1]
      exact ⟨fun _ _ => h2, fun _ => by omega⟩
    · rw [h4]
      constructor
      · intro c; omega
      · intro c
        exact absurd h2 (c h b (by rw [h1]; simp))
  · rw [if_neg h]
    exact ⟨fun _ c => absurd c h, fun _ => by omega⟩
theorem crossP_iff (c d : S30) : crossP c d = true ↔ crossV c d := by
  unfold crossP crossV
  rw [List.all_eq_true]
  constructor
  · intro h a ha b hb h0
    have := of_decide_eq_true (h b hb)
    exact (boxI_neg _ _).mp this h0 a ha
  · intro h b hb
    exact decide_eq_true ((boxI_neg _ _).mpr (fun h0 a ha => h a ha b hb h0))
theorem bankS_iff : ∀ (rest pre : List S30), bankS pre rest = true ↔ (∀ c ∈ rest, colP c.f0 c.f1 c.f2 = true) ∧ (∀ p ∈ pre, ∀ c ∈ rest, crossV p c) ∧ rest.Pairwise crossV
  | [], pre => by simp [bankS]
  | c :: rest, pre => by
    simp only [bankS, Bool.and_eq_true]
    rw [bankS_iff rest, List.all_eq_true]
    constructor
    · rintro ⟨h1, h2, h3, h4, h5⟩
      refine ⟨fun d hd => ?_, fun p hp d hd => ?_, List.pairwise_cons.mpr ⟨fun d hd => h4 c (by simp) d hd, h5⟩⟩
      · rcases List.mem_cons.mp hd with rfl | hd
        · exact h1
        · exact h3 d hd
      · rcases List.mem_cons.mp hd with rfl | hd
        · exact (crossP_iff _ _).mp (h2 p hp)
        · exact h4 p (by simp [hp]) d hd
    · rintro ⟨h1, h2, h3⟩
      obtain ⟨h4, h5⟩ := List.pairwise_cons.mp h3
      refine ⟨h1 c (by simp), fun p hp => (crossP_iff _ _).mpr (h2 p hp c (by simp)), fun d hd => h1 d (by simp [hd]), fun p hp d hd => ?_, h5⟩
      rcases List.mem_append.mp hp with hp | hp
      · exact h2 p hp d (by simp [hd])
      · rw [List.mem_singleton.mp hp]; exact h4 d hd
theorem parP_iff : ∀ (bs : List S71) (ps : List Int), bs.Pairwise (fun a b => 0 < b.f2 → a.f2 ≠ b.f2) →
    ((∀ b ∈ bs, 0 < b.f2 → b.f2 ∉ ps) ∧ ∃ qs, parP bs ps = some qs ∧ ∀ x, x ∈ qs ↔ x ∈ ps ∨ ∃ b ∈ bs, b.f2 = x) ∨ (¬ (∀ b ∈ bs, 0 < b.f2 → b.f2 ∉ ps) ∧ parP bs ps = none)
  | [], ps, _ => Or.inl ⟨by simp, ps, rfl, by simp⟩
  | b :: bs, ps, hp => by
    obtain ⟨h1, h2⟩ := List.pairwise_cons.mp hp
    simp only [parP]
    by_cases c : 0 < b.f2 ∧ b.f2 ∈ ps
    · rw [if_pos c]
      exact Or.inr ⟨fun h => h b (by simp) c.1 c.2, rfl⟩
    · rw [if_neg c]
      rcases parP_iff bs (b.f2 :: ps) h2 with ⟨h3, qs, h4, h5⟩ | ⟨h3, h4⟩
      · refine Or.inl ⟨fun x hx h0 => ?_, qs, h4, fun x => ?_⟩
        · rcases List.mem_cons.mp hx with rfl | hx
          · exact fun h => c ⟨h0, h⟩
          · exact fun h => h3 x hx h0 (by simp [h])
        · rw [h5 x, List.mem_cons]
          constructor
          · rintro ((h | h) | ⟨y, hy, e⟩)
            · exact Or.inr ⟨b, by simp, h.symm⟩
            · exact Or.inl h
            · exact Or.inr ⟨y, by simp [hy], e⟩
          · rintro (h | ⟨y, hy, e⟩)
            · exact Or.inl (Or.inr h)
            · rcases List.mem_cons.mp hy with rfl | hy
              · exact Or.inl (Or.inl e.symm)
              · exact Or.inr ⟨y, hy, e⟩
      · refine Or.inr ⟨fun h => h3 (fun x hx h0 hm => ?_), h4⟩
        rcases List.mem_cons.mp hm with e | hm
        · exact h1 x hx h0 e.symm
        · exact h x (by simp [hx]) h0 hm
theorem bankL_iff : ∀ (cs : List S30) (ps : List Int), bankL cs ps = true ↔ (∀ c ∈ cs, colP c.f0 c.f1 c.f2 = true) ∧ (∀ c ∈ cs, ∀ b ∈ c.f2, 0 < b.f2 → b.f2 ∉ ps) ∧ cs.Pairwise crossV
  | [], ps => by simp [bankL]
  | c :: cs, ps => by
    simp only [bankL, Bool.and_eq_true]
    by_cases hc : colP c.f0 c.f1 c.f2 = true
    · have v := (colP_iff _ _ _).mp hc
      rcases parP_iff c.f2 ps ((parcs_iff _ _).mp v.par).2.2 with ⟨h3, qs, h4, h5⟩ | ⟨h3, h4⟩
      · rw [h4]
        dsimp only
        rw [bankL_iff cs qs]
        constructor
        · rintro ⟨_, g1, g2, g3⟩
          refine ⟨fun d hd => ?_, fun d hd b hb h0 => ?_, List.pairwise_cons.mpr ⟨fun d hd a ha b hb h0 e => g2 d hd b hb h0 ((h5 _).mpr (Or.inr ⟨a, ha, e⟩)), g3⟩⟩
          · rcases List.mem_cons.mp hd with rfl | hd
            · exact hc
            · exact g1 d hd
          · rcases List.mem_cons.mp hd with rfl | hd
            · exact h3 b hb h0
            · exact fun h => g2 d hd b hb h0 ((h5 _).mpr (Or.inl h))
        · rintro ⟨g1, g2, g3⟩
          obtain ⟨g4, g5⟩ := List.pairwise_cons.mp g3
          refine ⟨hc, fun d hd => g1 d (by simp [hd]), fun d hd b hb h0 h => ?_, g5⟩
          rcases (h5 _).mp h with h | ⟨a, ha, e⟩
          · exact g2 d (by simp [hd]) b hb h0 h
          · exact g4 d hd a ha b hb h0 e
      · rw [h4]
        dsimp only
        constructor
        · rintro ⟨_, h⟩; simp at h
        · rintro ⟨_, g2, _⟩
          exact absurd (fun b hb h0 => g2 c (by simp) b hb h0) h3
    · constructor
      · rintro ⟨h, _⟩; exact absurd h hc
      · rintro ⟨h, _⟩; exact absurd (h c (by simp)) hc
structure BankV (cs : List S30) : Prop where
  len : 1 ≤ (cs.length : Int) ∧ (cs.length : Int) ≤ 6
  col : ∀ c ∈ cs, colP c.f0 c.f1 c.f2 = true
  cross : cs.Pairwise crossV
theorem bankP_iff (cs : List S30) : bankP cs = true ↔ BankV cs := by
  unfold bankP
  rw [Bool.and_eq_true, decide_eq_true_iff, bankL_iff]
  constructor
  · rintro ⟨h1, h2, _, h3⟩; exact ⟨h1, h2, h3⟩
  · rintro ⟨h1, h2, h3⟩; exact ⟨h1, h2, fun _ _ _ _ _ => by simp, h3⟩
theorem bankok_ev (cs : List S30) (hs : Small cs) : Ev (fun k => spec_BankOk.f k cs) (bankP cs) := by
  unfold spec_BankOk.f
  refine Ev.bind (Ev.const (in_eq _ _ _)) ?_
  by_cases c : 1 ≤ (cs.length : Int) ∧ (cs.length : Int) ≤ 6
  · refine Ev.pos (decide_eq_true c) ?_
    refine (bank0_loop cs hs cs 0 rfl (by omega)).to ?_
    have e : bankS [] cs = bankL cs [] := by
      rw [Bool.eq_iff_iff, bankS_iff, bankL_iff]
      constructor
      · rintro ⟨h1, _, h3⟩; exact ⟨h1, fun _ _ _ _ _ => by simp, h3⟩
      · rintro ⟨h1, _, h3⟩; exact ⟨h1, fun p hp => absurd hp (by simp), h3⟩
    unfold bankP
    rw [decide_eq_true c, Bool.true_and, ← e]
    rfl
  · refine Ev.neg (by simpa using c) ((Ev.ret _).to ?_)
    unfold bankP
    rw [decide_eq_false c, Bool.false_and]
def toI_Col (c : S25) : S30 := ⟨c.f0, c.f1, c.f2.map toI_Box⟩
def wt (l : List S25) : Int := (l.map (fun c => ((c.f1.length : Int) + c.f2.length))).foldr (· + ·) 0
theorem wt_nonneg : ∀ (l : List S25), 0 ≤ wt l
  | [] => Int.le_refl _
  | c :: l => by
    have := wt_nonneg l
    show 0 ≤ ((c.f1.length : Int) + c.f2.length) + wt l
    omega
theorem wt_mem : ∀ (l : List S25) (c : S25), c ∈ l → (c.f1.length : Int) + c.f2.length ≤ wt l
  | [], c, h => absurd h (by simp)
  | d :: l, c, h => by
    have hn := wt_nonneg l
    show _ ≤ ((d.f1.length : Int) + d.f2.length) + wt l
    rcases List.mem_cons.mp h with rfl | h
    · omega
    · have := wt_mem l c h; omega
theorem szS_loop (l : List S25) (hl : l.length ≤ 1048576) (hm : ∀ c ∈ l, c.f1.length ≤ 9223372036854775807 ∧ c.f2.length ≤ 9223372036854775807) : ∀ (rest : List S25) (i : Nat) (a : Int), l.drop i = rest → i ≤ l.length → 0 ≤ a → a ≤ 1048576 → Ev (fun k => laws_szColumnS.l0 k l a (i : Int)) (if a < wt rest then -1 else a - wt rest)
  | [], i, a, hd, hi, h0, h1 => by
    have he := drop_end hd hi
    refine Ev.succ ?_
    simp only [laws_szColumnS.l0]
    refine Ev.neg (by omega) ((Ev.ret _).to ?_)
    have : wt [] = 0 := rfl
    rw [this, if_neg (by omega)]
    omega
  | c :: rest, i, a, hd, hi, h0, h1 => by
    obtain ⟨h2, h3, h4⟩ := drop_step z25 hd
    have er : rd_T25 l (i : Int) = c := h3
    have hc : c ∈ l := by rw [← h3, getD_gen _ h2]; exact List.getElem_mem _
    have hn := wt_nonneg rest
    have ew : wt (c :: rest) = ((c.f1.length : Int) + c.f2.length) + wt rest := rfl
    refine Ev.succ ?_
    simp only [laws_szColumnS.l0, er]
    refine Ev.pos (by omega) (Ev.pos (by omega) (Ev.bind (Ev.const (szColumn_eq _ _ _ a h0 h1 (hm c hc).1 (hm c hc).2)) ?_))
    by_cases d : a < (c.f1.length : Int) + c.f2.length
    · rw [if_pos d, if_pos (by omega)]
      exact Ev.pos (by omega) (Ev.ret _)
    · rw [if_neg d, wsucc i (by omega)]
      refine Ev.neg (by omega) ((szS_loop l hl hm rest (i + 1) _ h4 (by omega) (by omega) (by omega)).to ?_)
      by_cases e : a < wt (c :: rest)
      · rw [if_pos e, if_pos (by omega)]
      · rw [if_neg e, if_neg (by omega)]
        omega
theorem szS_ev (l : List S25) (hl : l.length ≤ 9223372036854775807) (hm : ∀ c ∈ l, c.f1.length ≤ 9223372036854775807 ∧ c.f2.length ≤ 9223372036854775807) : ∃ r : Int, Ev (fun k => laws_szColumnS.f k l 1048576) r ∧ (r < 0 ∨ (0 ≤ r ∧ (l.length : Int) + wt l ≤ 1048576)) := by
  have hn := wt_nonneg l
  unfold laws_szColumnS.f
  rw [wid (1048576 - (l.length : Int)) (by omega) (by omega)]
  by_cases c : 1048576 - (l.length : Int) < 0
  · exact ⟨-1, Ev.pos c (Ev.ret _), Or.inl (by omega)⟩
  · refine ⟨_, Ev.neg c (szS_loop l (by omega) hm l 0 _ rfl (by omega) (by omega) (by omega)), ?_⟩
    by_cases d : 1048576 - (l.length : Int) < wt l
    · rw [if_pos d]; exact Or.inl (by omega)
    · rw [if_neg d]; exact Or.inr ⟨by omega, by omega⟩
theorem map_ev {α β : Type} {L : Nat → List β → Int → Option (List β)} {xs : List α} {g : α → β} (d0 : α)
    (h : ∀ acc (i : Nat) r, i < xs.length → acc.length = xs.length → Ev (fun k => L k (acc.set i (g (xs.getD i d0))) ((i + 1 : Nat) : Int)) r → Ev (fun k => L k acc (i : Int)) r)
    (he : ∀ acc, Ev (fun k => L k acc (xs.length : Int)) acc) : ∀ (d : Nat) acc i, i + d = xs.length → acc.length = xs.length → (∀ j, j < i → acc[j]? = (xs.map g)[j]?) → Ev (fun k => L k acc (i : Int)) (xs.map g)
  | 0, acc, i, hi, hl, hp => by
    obtain rfl : i = xs.length := by omega
    refine (he acc).to ?_
    apply List.ext_getElem?
    intro j
    by_cases hj : j < xs.length
    · exact hp j hj
    · rw [List.getElem?_eq_none (by omega), List.getElem?_eq_none (by simp; omega)]
  | d + 1, acc, i, hi, hl, hp => by
    refine h acc i _ (by omega) hl (map_ev d0 h he d _ (i + 1) (by omega) (by simp [hl]) (fun j hj => ?_))
    by_cases e : i = j
    · subst e
      rw [List.getElem?_set_self (by omega), List.getElem?_map, List.getElem?_eq_getElem (show i < xs.length by omega), List.getD_eq_getElem?_getD, List.getElem?_eq_getElem (show i < xs.length by omega)]
      rfl
    · rw [List.getElem?_set_ne e]
      exact hp j (by omega)
theorem toColumnS_ev (l : List S25) (hl : l.length ≤ 1048576) (hm : ∀ c ∈ l, c.f1.length ≤ 1048576 ∧ c.f2.length ≤ 1048576) : Ev (fun k => laws_toColumnS.f k l) (l.map toI_Col) := by
  unfold laws_toColumnS.f
  refine Ev.pos (by omega) (Ev.pos (by omega) ?_)
  refine map_ev (L := fun k acc i => laws_toColumnS.l0 k l acc i) z25 (fun acc i r hi ha ih => ?_) (fun acc => ?_) l.length _ 0 (by omega) (by simp) (fun j hj => by omega)
  · refine Ev.succ ?_
    simp only [laws_toColumnS.l0]
    have er : rd_T25 l (i : Int) = l.getD i z25 := rfl
    have hc : l.getD i z25 ∈ l := by rw [getD_gen _ hi]; exact List.getElem_mem _
    rw [er, wsucc i (by omega)]
    refine Ev.pos (by omega) (Ev.pos (by omega) (Ev.bind (toColumn_ev _ _ _ (hm _ hc).1 (hm _ hc).2) (Ev.pos (by omega) ?_)))
    exact ih
  · refine Ev.succ ?_
    simp only [laws_toColumnS.l0]
    exact Ev.neg (by omega) (Ev.ret _)
theorem eqColumnS_ev (l : List S30) (hs : Small l) : Ev (fun k => laws_eqColumnS.f k l l) true := by
  have hl := hs.1
  have go : ∀ (rest : List S30) (i : Nat), l.drop i = rest → i ≤ l.length → Ev (fun k => laws_eqColumnS.l0 k l l (i : Int)) true := by
    intro rest
    induction rest with
    | nil =>
      intro i hd hi
      have he := drop_end hd hi
      refine Ev.succ ?_
      simp only [laws_eqColumnS.l0]
      exact Ev.neg (by omega) (Ev.ret _)
    | cons c rest ih =>
      intro i hd hi
      obtain ⟨h1, h2, h3⟩ := drop_step z30 hd
      have er : rd_T30 l (i : Int) = c := h2
      have hc : c ∈ l := by rw [← h2, getD_gen _ h1]; exact List.getElem_mem _
      refine Ev.succ ?_
      simp only [laws_eqColumnS.l0, er]
      rw [wsucc i (by omega)]
      exact Ev.pos (by omega) (Ev.pos (by omega) (Ev.pos (by omega) (Ev.bind (eqColumn_ev _ _ _ (hs.2 c hc).1 (hs.2 c hc).2) (Ev.pos (by trivial) (ih (i + 1) h3 (by omega))))))
  unfold laws_eqColumnS.f
  exact Ev.pos rfl (go l 0 rfl (by omega))
theorem bank_begin (l : List S25) (hl : ok41 l) : (∃ r : Int, Ev (fun k => laws_szColumnS.f k l 1048576) r ∧ r < 0) ∨ (∃ r : Int, Ev (fun k => laws_szColumnS.f k l 1048576) r ∧ 0 ≤ r) ∧ Ev (fun k => laws_toColumnS.f k l) (l.map toI_Col) ∧ Small (l.map toI_Col) ∧ (l.length : Int) + wt l ≤ 1048576 := by
  obtain ⟨h1, h2⟩ := hl
  unfold maxLen at h1
  obtain ⟨r, hr, h3⟩ := szS_ev l (by omega) (fun c hc => by
    obtain ⟨_, ⟨h4, _⟩, ⟨h5, _⟩⟩ := h2 c hc
    unfold maxLen at h4 h5
    exact ⟨by omega, by omega⟩)
  rcases h3 with h3 | ⟨h3, h4⟩
  · exact Or.inl ⟨r, hr, h3⟩
  · have hn := wt_nonneg l
    have hm : ∀ c ∈ l, c.f1.length ≤ 1048576 ∧ c.f2.length ≤ 1048576 := fun c hc => by
      have := wt_mem l c hc
      omega
    refine Or.inr ⟨⟨r, hr, h3⟩, toColumnS_ev l (by omega) hm, ⟨by rw [List.length_map]; omega, fun c hc => ?_⟩, h4⟩
    obtain ⟨d, hd, rfl⟩ := List.mem_map.mp hc
    have := hm d hd
    exact ⟨this.1, by show (d.f2.map toI_Box).length ≤ _; rw [List.length_map]; exact this.2⟩
end Go.Proofs.Ytghfeapncmlihaa.A

namespace Go.Proofs.Ytghfeapncmlihaa.A
open Go.RowKit Go.Proofs.YtghfeapncmlihaaW.PrintWords Go.Proofs.YtghfeapncmlihaaW.PrintLast Go.Proofs.YtghfeapncmlihaaW.PrintMore
set_option linter.unusedVariables false
set_option linter.unusedSimpArgs false
theorem has_loop (l : List Int) (hl : l.length ≤ 1048576) (x : Int) : ∀ (rest : List Int) (i : Nat), l.drop i = rest → i ≤ l.length → Ev (fun k => spec_l02Has.l0 k l x (i : Int)) (decide (x ∈ rest))
  | [], i, hd, hi => by
    have he := drop_end hd hi
    refine Ev.succ ?_
    simp only [spec_l02Has.l0]
    exact Ev.neg (by omega) ((Ev.ret _).to (by simp))
  | b :: rest, i, hd, hi => by
    obtain ⟨h1, h2, h3⟩ := drop_step 0 hd
    have er : rd l (i : Int) = b := h2
    have ih := has_loop l hl x rest (i + 1) h3 (by omega)
    refine Ev.succ ?_
    simp only [spec_l02Has.l0, er]
    refine Ev.pos (by omega) (Ev.pos (by omega) ?_)
    rw [wsucc i (by omega)]
    by_cases c : b = x
    · exact Ev.pos c ((Ev.ret _).to (by simp [c]))
    · refine Ev.neg c (ih.to ?_)
      rw [decide_eq_decide, List.mem_cons]
      constructor
      · exact Or.inr
      · rintro (h | h)
        · exact absurd h.symm c
        · exact h
theorem has_ev (l : List Int) (hl : l.length ≤ 1048576) (x : Int) : Ev (fun k => spec_l02Has.f k l x) (decide (x ∈ l)) := by
  unfold spec_l02Has.f
  exact has_loop l hl x l 0 rfl (by omega)
theorem index_loop (l : List Int) (hl : l.length ≤ 1048576) (x : Int) : ∀ (rest : List Int) (i : Nat), l.drop i = rest → i ≤ l.length → ∃ r : Int, Ev (fun k => slices_Index_int_int.l0 k l x (l.length : Int) (i : Int)) r ∧ (0 ≤ r ↔ x ∈ rest)
  | [], i, hd, hi => by
    have he := drop_end hd hi
    refine ⟨-1, Ev.succ ?_, by simp⟩
    simp only [slices_Index_int_int.l0]
    exact Ev.neg (by omega) (Ev.ret _)
  | b :: rest, i, hd, hi => by
    obtain ⟨h1, h2, h3⟩ := drop_step 0 hd
    have er : rd l (i : Int) = b := h2
    by_cases c : x = b
    · refine ⟨(i : Int), Ev.succ ?_, by simp [c]⟩
      simp only [slices_Index_int_int.l0, er]
      exact Ev.pos (by omega) (Ev.pos (by omega) (Ev.pos (by omega) (Ev.pos c (Ev.ret _))))
    · obtain ⟨r, h4, h5⟩ := index_loop l hl x rest (i + 1) h3 (by omega)
      refine ⟨r, Ev.succ ?_, by rw [h5, List.mem_cons]; constructor; exact Or.inr; rintro (h | h); exact absurd h c; exact h⟩
      simp only [slices_Index_int_int.l0, er]
      refine Ev.pos (by omega) (Ev.pos (by omega) (Ev.pos (by omega) (Ev.neg c ?_)))
      rw [wsucc i (by omega)]
      exact h4
theorem contains_ev (l : List Int) (hl : l.length ≤ 1048576) (x : Int) : Ev (fun k => slices_Contains_int_int.f k l x) (decide (x ∈ l)) := by
  obtain ⟨r, h1, h2⟩ := index_loop l hl x l 0 rfl (by omega)
  unfold slices_Contains_int_int.f slices_Index_int_int.f
  refine Ev.bind h1 ((Ev.ret _).to ?_)
  rw [decide_eq_decide]
  exact h2
def toRun (d : List S71 × List S71 × List S71) : S85 := ⟨gapR d.2.1, (d.1.length : Int), (d.1.length : Int) + (d.2.1.length : Int)⟩
def emT (pre cur : List S71) : List S85 := if cur = [] then [] else [⟨gapR cur, (pre.length : Int), (pre.length : Int) + (cur.length : Int)⟩]
theorem emD_run (pre cur bs : List S71) : (emD pre cur bs).map toRun = emT pre cur := by
  unfold emD emT; split <;> rfl
theorem emT_len (pre cur : List S71) : (emT pre cur).length ≤ 1 ∧ (cur = [] → emT pre cur = []) := by
  unfold emT; split
  · next h => exact ⟨by simp, fun _ => rfl⟩
  · next h => exact ⟨by simp, fun c => absurd c h⟩
theorem gapR_snoc {cur : List S71} (h : cur ≠ []) (b : S71) : gapR (cur ++ [b]) = ⟨(gapR cur).f0, (gapR cur).f1, (gapR cur).f2 + b.f1⟩ := by
  cases cur with
  | nil => exact absurd rfl h
  | cons x cur =>
    show (S54.mk 0 x.f0 (sumB (x :: cur ++ [b]))) = S54.mk 0 x.f0 (sumB (x :: cur) + b.f1)
    rw [sumB_app]
    have : sumB [b] = b.f1 := by rw [sumB_cons, sumB_nil]; omega
    rw [this]
theorem getD_end {α : Type} (l : List α) (s d : α) : (l ++ [s]).getD l.length d = s := by
  rw [List.getD_eq_getElem?_getD, List.getElem?_append_right (Nat.le_refl _), Nat.sub_self]; rfl
theorem set_end {α : Type} (l : List α) (s t : α) : (l ++ [s]).set l.length t = l ++ [t] := by
  rw [List.set_append_right _ _ (Nat.le_refl _), Nat.sub_self]; rfl
theorem runs_loop (h : Int) (fx : List Int) (hf : fx.length ≤ 1048576) (bx : List S71) (hl : bx.length ≤ 24) (hm : ∀ b ∈ bx, 1 ≤ b.f1 ∧ b.f1 ≤ 24) :
    ∀ (rest : List S71) (i : Nat) (pre cur : List S71) (done : List S85), bx.drop i = rest → i ≤ bx.length → pre.length + cur.length = i → done.length ≤ i → 0 ≤ sumB cur → sumB cur ≤ 24 * (i : Int) →
    Ev (fun k => impl_runsOf.l0 k (done ++ emT pre cur) (decide (cur ≠ [])) bx (bx.length : Int) (i : Int) h fx bx) (done ++ (decs fx pre cur rest).map toRun)
  | [], i, pre, cur, done, hd, hi, hp, hn, s0, s1 => by
    have he := drop_end hd hi
    refine Ev.succ ?_
    simp only [impl_runsOf.l0, decs]
    rw [emD_run]
    exact Ev.neg (by omega) (Ev.ret _)
  | b :: rest, i, pre, cur, done, hd, hi, hp, hn, s0, s1 => by
    obtain ⟨h1, h2, h3⟩ := drop_step z71 hd
    have er : rd_T71 bx (i : Int) = b := h2
    have hb : b ∈ bx := by rw [← h2, getD_gen _ h1]; exact List.getElem_mem _
    have hbb := hm b hb
    have hl1 := emT_len pre cur
    refine Ev.succ ?_
    simp only [impl_runsOf.l0, er]
    refine Ev.pos (by omega) (Ev.pos (by omega) (Ev.pos (by omega) ?_))
    have go : ∀ (s : Bool), s = !opB b → Ev (fun k => impl_runsOf.j1 k (done ++ emT pre cur) (decide (cur ≠ [])) (i : Int) bx (bx.length : Int) (i : Int) s h fx bx b.f0 b.f1 b.f2 b.f3) (done ++ (decs fx pre cur (b :: rest)).map toRun) := by
      intro s hs
      refine Ev.succ ?_
      simp only [impl_runsOf.j1, decs]
      rw [wsucc i (by omega)]
      cases hob : opB b with
      | false =>
        rw [hob] at hs
        subst hs
        rw [if_neg (by simp), List.map_append, emD_run, ← List.append_assoc]
        have ih := runs_loop h fx hf bx hl hm rest (i + 1) (pre ++ cur ++ [b]) [] (done ++ emT pre cur) h3 (by omega) (by simp; omega) (by simp; omega) (by rw [sumB_nil]; omega) (by rw [sumB_nil]; omega)
        rw [(emT_len _ _).2 rfl, List.append_nil] at ih
        exact Ev.pos (by trivial) (ih.to rfl)
      | true =>
        rw [hob] at hs
        subst hs
        refine Ev.neg (by simp) ?_
        rw [if_pos rfl]
        have new : (cur ≠ [] → b.f0 ∈ fx) → Ev (fun k => if (done ++ emT pre cur).length < 3518437208883 then impl_runsOf.l0 k (done ++ emT pre cur ++ [⟨⟨0, b.f0, b.f1⟩, (i : Int), ((i + 1 : Nat) : Int)⟩]) true bx (bx.length : Int) ((i + 1 : Nat) : Int) h fx bx else none) (done ++ (if cur ≠ [] ∧ b.f0 ∉ fx then decs fx pre (cur ++ [b]) rest else emD pre cur (b :: rest) ++ decs fx (pre ++ cur) [b] rest).map toRun) := by
          intro hc
          rw [if_neg (fun e => e.2 (hc e.1)), List.map_append, emD_run, ← List.append_assoc]
          have sb : sumB [b] = b.f1 := by rw [sumB_cons, sumB_nil]; omega
          have ih := runs_loop h fx hf bx hl hm rest (i + 1) (pre ++ cur) [b] (done ++ emT pre cur) h3 (by omega) (by simp; omega) (by simp; omega) (by rw [sb]; omega) (by rw [sb]; omega)
          refine Ev.pos (by simp; omega) (Ev.of_eq ih (fun k => ?_))
          have e : emT (pre ++ cur) [b] = [⟨⟨0, b.f0, b.f1⟩, (i : Int), ((i + 1 : Nat) : Int)⟩] := by
            unfold emT
            rw [if_neg (by simp)]
            show [(S85.mk (S54.mk 0 b.f0 (sumB [b])) _ _)] = _
            rw [sb, List.length_append, hp]
            rfl
          rw [e]
          rfl
        by_cases hc : cur = []
        · have e : decide (cur ≠ []) = false := by simp [hc]
          rw [e]
          refine Ev.neg (by simp) ?_
          exact new (fun c => absurd hc c)
        · have e : decide (cur ≠ []) = true := by simp [hc]
          rw [e]
          refine Ev.pos rfl ?_
          refine Ev.bind (contains_ev fx hf b.f0) ?_
          by_cases hfx : b.f0 ∈ fx
          · refine Ev.pos (decide_eq_true hfx) ?_
            exact new (fun _ => hfx)
          · refine Ev.neg (by simpa using hfx) ?_
            rw [if_pos ⟨hc, hfx⟩]
            have eT : emT pre cur = [⟨gapR cur, (pre.length : Int), (pre.length : Int) + (cur.length : Int)⟩] := by unfold emT; rw [if_neg hc]
            have ih := runs_loop h fx hf bx hl hm rest (i + 1) pre (cur ++ [b]) done h3 (by omega) (by simp; omega) (by omega) (by rw [sumB_app, sumB_cons, sumB_nil]; omega) (by rw [sumB_app, sumB_cons, sumB_nil]; omega)
            have eT2 : emT pre (cur ++ [b]) = [⟨⟨(gapR cur).f0, (gapR cur).f1, (gapR cur).f2 + b.f1⟩, (pre.length : Int), (i : Int) + 1⟩] := by
              unfold emT
              rw [if_neg (by simp), gapR_snoc hc, List.length_append]
              simp
              omega
            rw [eT2] at ih
            rw [eT]
            have hw : wrap64 (((done ++ [(S85.mk (gapR cur) (pre.length : Int) ((pre.length : Int) + (cur.length : Int)))]).length : Int) - 1) = (done.length : Int) := by
              simp; unfold wrap64; omega
            have hg : (gapR cur).f2 = sumB cur := by cases cur with | nil => exact absurd rfl hc | cons x cur => rfl
            rw [hw]
            have hrd : ∀ v : S85, rd_T85 (done ++ [v]) (done.length : Int) = v := fun v => getD_end done v _
            refine Ev.pos (by omega) (Ev.pos (by simp; omega) ?_)
            simp only [hrd, Int.toNat_natCast, set_end, Option.bind_some]
            refine Ev.of_eq ih (fun k => ?_)
            rw [wid ((gapR cur).f2 + b.f1) (by omega) (by omega), show (pre.length : Int) + (cur.length : Int) = (i : Int) by omega, wid ((i : Int) + 1) (by omega) (by omega)]
            have e2 : decide (cur ++ [b] ≠ []) = true := by simp
            rw [e2]
    by_cases c2 : b.f2 = 0
    · refine Ev.pos c2 (go b.f3 ?_)
      unfold opB
      rw [decide_eq_true c2, Bool.true_and, Bool.not_not]
    · refine Ev.neg c2 (go true ?_)
      unfold opB
      rw [decide_eq_false c2]
      rfl
theorem runs_ev (h : Int) (fx : List Int) (hf : fx.length ≤ 1048576) (bx : List S71) (hl : bx.length ≤ 24) (hm : ∀ b ∈ bx, 1 ≤ b.f1 ∧ b.f1 ≤ 24) : Ev (fun k => impl_runsOf.f k h fx bx) ((decs fx [] [] bx).map toRun) := by
  unfold impl_runsOf.f
  exact runs_loop h fx hf bx hl hm bx 0 [] [] [] rfl (by omega) rfl (by simp) (by rw [sumB_nil]; omega) (by rw [sumB_nil]; omega)
theorem gapsW_len (fx : List Int) : ∀ (bs cur : List S71), (gapsW fx cur bs).length ≤ bs.length + (emR cur).length
  | [], cur => by simp [gapsW]
  | b :: bs, cur => by
    have e1 : ∀ (x : List S71), (emR x).length ≤ 1 := fun x => by unfold emR; split <;> simp
    have e0 : emR [] = [] := rfl
    simp only [gapsW]
    split
    · split
      · next h =>
        have := gapsW_len fx bs (cur ++ [b])
        have e2 : (emR cur).length = 1 := by unfold emR; rw [if_neg h.1]; rfl
        have := e1 (cur ++ [b])
        simp; omega
      · have := gapsW_len fx bs [b]
        have := e1 [b]
        simp; omega
    · have := gapsW_len fx bs []
      rw [e0] at this
      simp at this ⊢; omega
theorem gapsB_len (fx : List Int) (bx : List S71) : (gapsB fx bx).length ≤ bx.length := by
  have := gapsW_len fx bx []
  have e0 : emR [] = [] := rfl
  rw [e0] at this
  unfold gapsB
  simpa using this
def gapsP (h : Int) (fx : List Int) (bx : List S71) : List S54 := if colP h fx bx = true then gapsB fx bx else []
theorem open_eq (a b c : Int) (d : Bool) : spec_l02Open.f a b c d = some (opB ⟨a, b, c, d⟩) := by
  unfold spec_l02Open.f opB
  dsimp only
  by_cases h : c = 0
  · rw [if_pos h, decide_eq_true h, Bool.true_and]
  · rw [if_neg h, decide_eq_false h, Bool.false_and]
theorem gapsS_loop (h : Int) (fx : List Int) (hf : fx.length ≤ 1048576) (bx : List S71) (hl : bx.length ≤ 24) (hm : ∀ b ∈ bx, 1 ≤ b.f1 ∧ b.f1 ≤ 24) :
    ∀ (rest : List S71) (i : Nat) (cur : List S71) (done : List S54), bx.drop i = rest → i ≤ bx.length → done.length ≤ i → 0 ≤ sumB cur → sumB cur ≤ 24 * (i : Int) → (cur ≠ [] ↔ 0 < i ∧ opB (bx.getD (i - 1) z71) = true) →
    Ev (fun k => spec_GapsOf.l0 k (done ++ emR cur) (i : Int) h fx bx) (done ++ gapsW fx cur rest)
  | [], i, cur, done, hd, hi, hn, s0, s1, hc => by
    have he := drop_end hd hi
    refine Ev.succ ?_
    simp only [spec_GapsOf.l0, gapsW]
    exact Ev.neg (by omega) (Ev.ret _)
  | b :: rest, i, cur, done, hd, hi, hn, s0, s1, hc => by
    obtain ⟨h1, h2, h3⟩ := drop_step z71 hd
    have er : rd_T71 bx (i : Int) = b := h2
    have hb : b ∈ bx := by rw [← h2, getD_gen _ h1]; exact List.getElem_mem _
    have hbb := hm b hb
    have eb : (S71.mk b.f0 b.f1 b.f2 b.f3) = b := rfl
    have hl1 : (emR cur).length ≤ 1 := by unfold emR; split <;> simp
    refine Ev.succ ?_
    simp only [spec_GapsOf.l0, er, gapsW]
    rw [wsucc i (by omega)]
    refine Ev.pos (by omega) (Ev.pos (by omega) ?_)
    refine Ev.bind (Ev.const (open_eq _ _ _ _)) ?_
    rw [eb]
    have nxt : opB (bx.getD (i + 1 - 1) z71) = opB b := by rw [Nat.add_sub_cancel, h2]
    cases hob : opB b with
    | false =>
      refine Ev.neg (by simp) ?_
      rw [if_neg (by simp), ← List.append_assoc]
      have ih := gapsS_loop h fx hf bx hl hm rest (i + 1) [] (done ++ emR cur) h3 (by omega) (by simp; omega) (by rw [sumB_nil]; omega) (by rw [sumB_nil]; omega) ⟨fun c => absurd rfl c, fun c => by rw [nxt, hob] at c; simp at c⟩
      have e0 : emR [] = [] := rfl
      rw [e0, List.append_nil] at ih
      exact ih
    | true =>
      refine Ev.pos (by trivial) ?_
      rw [if_pos rfl]
      have sb : sumB [b] = b.f1 := by rw [sumB_cons, sumB_nil]; omega
      have new : (cur ≠ [] → b.f0 ∈ fx) → Ev (fun k => if (done ++ emR cur).length < 5864062014805 then spec_GapsOf.l0 k (done ++ emR cur ++ [⟨0, b.f0, b.f1⟩]) ((i + 1 : Nat) : Int) h fx bx else none) (done ++ (if cur ≠ [] ∧ b.f0 ∉ fx then gapsW fx (cur ++ [b]) rest else emR cur ++ gapsW fx [b] rest)) := by
        intro hcf
        rw [if_neg (fun e => e.2 (hcf e.1)), ← List.append_assoc]
        have ih := gapsS_loop h fx hf bx hl hm rest (i + 1) [b] (done ++ emR cur) h3 (by omega) (by simp; omega) (by rw [sb]; omega) (by rw [sb]; omega) ⟨fun _ => ⟨by omega, by rw [nxt, hob]⟩, fun _ => by simp⟩
        refine Ev.pos (by simp; omega) (Ev.of_eq ih (fun k => ?_))
        have e : emR [b] = [⟨0, b.f0, b.f1⟩] := by
          unfold emR
          rw [if_neg (by simp)]
          show [(S54.mk 0 b.f0 (sumB [b]))] = _
          rw [sb]
        rw [e]
      by_cases hcur : cur = []
      · have hno : ¬ (0 < i ∧ opB (bx.getD (i - 1) z71) = true) := fun c => hc.mpr c hcur
        by_cases ci : (i : Int) > 0
        · refine Ev.pos ci ?_
          rw [wpred i (by omega) (by omega)]
          have er2 : rd_T71 bx ((i - 1 : Nat) : Int) = bx.getD (i - 1) z71 := rfl
          refine Ev.pos (by omega) (Ev.pos (by omega) (Ev.bind (Ev.const (open_eq _ _ _ _)) ?_))
          rw [er2]
          refine Ev.neg (fun c => hno ⟨by omega, c⟩) ?_
          exact new (fun c => absurd hcur c)
        · refine Ev.neg ci ?_
          exact new (fun c => absurd hcur c)
      · obtain ⟨ci, co⟩ := hc.mp hcur
        refine Ev.pos (by omega) ?_
        rw [wpred i (by omega) (by omega)]
        have er2 : rd_T71 bx ((i - 1 : Nat) : Int) = bx.getD (i - 1) z71 := rfl
        refine Ev.pos (by omega) (Ev.pos (by omega) (Ev.bind (Ev.const (open_eq _ _ _ _)) ?_))
        rw [er2]
        refine Ev.pos co ?_
        refine Ev.bind (has_ev fx hf b.f0) ?_
        by_cases hfx : b.f0 ∈ fx
        · refine Ev.pos (decide_eq_true hfx) ?_
          exact new (fun _ => hfx)
        · refine Ev.neg (by simpa using hfx) ?_
          rw [if_pos ⟨hcur, hfx⟩]
          have eT : emR cur = [gapR cur] := by unfold emR; rw [if_neg hcur]
          have ih := gapsS_loop h fx hf bx hl hm rest (i + 1) (cur ++ [b]) done h3 (by omega) (by omega) (by rw [sumB_app, sb]; omega) (by rw [sumB_app, sb]; omega) ⟨fun _ => ⟨by omega, by rw [nxt, hob]⟩, fun _ => by simp⟩
          have eT2 : emR (cur ++ [b]) = [⟨(gapR cur).f0, (gapR cur).f1, (gapR cur).f2 + b.f1⟩] := by
            unfold emR
            rw [if_neg (by simp), gapR_snoc hcur]
          rw [eT2] at ih
          rw [eT]
          have hg : (gapR cur).f2 = sumB cur := by cases cur with | nil => exact absurd rfl hcur | cons x cur => rfl
          have hw : wrap64 (((done ++ [gapR cur]).length : Int) - 1) = (done.length : Int) := by
            simp; unfold wrap64; omega
          rw [hw]
          have hrd : ∀ v : S54, rd_T54 (done ++ [v]) (done.length : Int) = v := fun v => getD_end done v _
          refine Ev.pos (by omega) (Ev.pos (by simp; omega) ?_)
          simp only [hrd, Int.toNat_natCast, set_end]
          rw [wid ((gapR cur).f2 + b.f1) (by omega) (by omega)]
          exact ih
theorem gapsS_ev (h : Int) (fx : List Int) (hf : fx.length ≤ 1048576) (bx : List S71) (hb : bx.length ≤ 1048576) : Ev (fun k => spec_GapsOf.f k h fx bx) (gapsP h fx bx) := by
  unfold spec_GapsOf.f gapsP
  refine Ev.bind (Ev.ret _) (Ev.bind (colok_ev h fx (by omega) bx (by omega)) ?_)
  by_cases c : colP h fx bx = true
  · have v := (colP_iff h fx bx).mp c
    rw [if_pos c]
    refine Ev.pos c ?_
    exact gapsS_loop h fx hf bx v.len (fun b hb => by have := v.mem hb; omega) bx 0 [] [] rfl (by omega) (by simp) (by rw [sumB_nil]; omega) (by rw [sumB_nil]; omega) ⟨fun c => absurd rfl c, fun c => absurd c.1 (by omega)⟩
  · rw [if_neg c]
    exact Ev.neg c (Ev.ret _)
end Go.Proofs.Ytghfeapncmlihaa.A

namespace Go.Proofs.Ytghfeapncmlihaa.A
open Go.RowKit Go.Proofs.YtghfeapncmlihaaW.PrintWords Go.Proofs.YtghfeapncmlihaaW.PrintLast Go.Proofs.YtghfeapncmlihaaW.PrintMore
set_option linter.unusedVariables false
set_option linter.unusedSimpArgs false
def bankG : Int → List S30 → List S54
  | _, [] => []
  | k, c :: cs => (gapsB c.f1 c.f2).map (fun g => ⟨k, g.f1, g.f2⟩) ++ bankG (k + 1) cs
def bankGP (cs : List S30) : List S54 := if bankP cs = true then bankG 0 cs else []
structure Flat (cs : List S30) : Prop where
  len : cs.length ≤ 6
  fix : ∀ c ∈ cs, c.f1.length ≤ 1048576
  box : ∀ c ∈ cs, c.f2.length ≤ 24
  sz : ∀ c ∈ cs, ∀ b ∈ c.f2, 1 ≤ b.f1 ∧ b.f1 ≤ 24
theorem BankV.flat {cs : List S30} (v : BankV cs) (hs : Small cs) : Flat cs :=
  ⟨by have := v.len; omega, fun c hc => (hs.2 c hc).1, fun c hc => ((colP_iff _ _ _).mp (v.col c hc)).len, fun c hc b hb => by have := ((colP_iff _ _ _).mp (v.col c hc)).mem hb; omega⟩
theorem bgS_inner {r' : List S54} (cs : List S30) (i : Nat) (hi : i ≤ 1048576) (gs : List S54) (hg : gs.length ≤ 24) (M : Nat) (hM : M ≤ 1048576) (res : List S54)
    (hr : Ev (fun k => spec_BankGaps.l0 k cs res ((i + 1 : Nat) : Int)) r') : ∀ (rest : List S54) (n : Nat) (acc : List S54), gs.drop n = rest → n ≤ gs.length → acc.length ≤ M + n → acc ++ rest.map (fun g => ⟨(i : Int), g.f1, g.f2⟩) = res → Ev (fun k => spec_BankGaps.l1 k cs acc (i : Int) gs (n : Int)) r'
  | [], n, acc, hd, hn, ha, he2 => by
    have he := drop_end hd hn
    refine Ev.succ ?_
    simp only [spec_BankGaps.l1]
    rw [wsucc i (by omega)]
    simp at he2
    subst he2
    exact Ev.neg (by omega) hr
  | g :: rest, n, acc, hd, hn, ha, he2 => by
    obtain ⟨h1, h2, h3⟩ := drop_step z54 hd
    have er : rd_T54 gs (n : Int) = g := h2
    refine Ev.succ ?_
    simp only [spec_BankGaps.l1, er]
    rw [wsucc n (by omega)]
    exact Ev.pos (by omega) (Ev.pos (by omega) (Ev.pos (by omega) (bgS_inner cs i hi gs hg M hM res hr rest (n + 1) _ h3 (by omega) (by simp; omega) (by rw [← he2]; simp))))
theorem bgS_loop (cs : List S30) (hf : Flat cs) (hc : ∀ c ∈ cs, colP c.f0 c.f1 c.f2 = true) : ∀ (rest : List S30) (i : Nat) (acc : List S54), cs.drop i = rest → i ≤ cs.length → acc.length ≤ 24 * i → Ev (fun k => spec_BankGaps.l0 k cs acc (i : Int)) (acc ++ bankG (i : Int) rest)
  | [], i, acc, hd, hi, ha => by
    have he := drop_end hd hi
    have hl := hf.len
    refine Ev.succ ?_
    simp only [spec_BankGaps.l0]
    exact Ev.neg (by omega) ((Ev.ret _).to (by simp [bankG]))
  | c :: rest, i, acc, hd, hi, ha => by
    obtain ⟨h1, h2, h3⟩ := drop_step z30 hd
    have er : rd_T30 cs (i : Int) = c := h2
    have hm : c ∈ cs := by rw [← h2, getD_gen _ h1]; exact List.getElem_mem _
    have hl := hf.len
    have hb := hf.box c hm
    have hg : gapsP c.f0 c.f1 c.f2 = gapsB c.f1 c.f2 := by unfold gapsP; rw [if_pos (hc c hm)]
    have hgl := gapsB_len c.f1 c.f2
    have ih := bgS_loop cs hf hc rest (i + 1) (acc ++ (gapsB c.f1 c.f2).map (fun g => ⟨(i : Int), g.f1, g.f2⟩)) h3 (by omega) (by simp; omega)
    refine Ev.succ ?_
    simp only [spec_BankGaps.l0, er]
    refine Ev.pos (by omega) (Ev.pos (by omega) (Ev.bind (gapsS_ev c.f0 c.f1 (hf.fix c hm) c.f2 (by omega)) ?_))
    rw [hg]
    refine bgS_inner cs i (by omega) _ (by omega) (24 * i) (by omega) _ (ih.to ?_) _ 0 acc rfl (by omega) (by omega) rfl
    rw [bankG, List.append_assoc]
    rfl
theorem bankGapsS_ev (cs : List S30) (hs : Small cs) : Ev (fun k => spec_BankGaps.f k cs) (bankGP cs) := by
  unfold spec_BankGaps.f bankGP
  refine Ev.bind (Ev.ret _) (Ev.bind (bankok_ev cs hs) ?_)
  by_cases hb : bankP cs = true
  · rw [if_pos hb]
    have v := (bankP_iff cs).mp hb
    exact Ev.pos hb (bgS_loop cs (v.flat hs) v.col cs 0 [] rfl (by omega) (by simp))
  · rw [if_neg hb]
    exact Ev.neg hb (Ev.ret _)
theorem bg_inner (cs : List S30) (hcs : cs.length ≤ 6) (i : Nat) (hi : i < cs.length) (rs : List S85) (hg : rs.length ≤ 24) (M : Nat) (hM : M ≤ 1048576) (res : List S54) {r' : List S54}
    (hr : Ev (fun k => impl_bankGaps.l0 k res cs (cs.length : Int) ((i + 1 : Nat) : Int)) r') : ∀ (rest : List S85) (n : Nat) (acc : List S54), rs.drop n = rest → n ≤ rs.length → acc.length ≤ M + n → acc ++ rest.map (fun r => ⟨(i : Int), r.f0.f1, r.f0.f2⟩) = res → Ev (fun k => impl_bankGaps.l1 k acc (i : Int) cs (cs.length : Int) (i : Int) rs (rs.length : Int) (n : Int)) r'
  | [], n, acc, hd, hn, ha, he2 => by
    have he := drop_end hd hn
    refine Ev.succ ?_
    simp only [impl_bankGaps.l1]
    rw [wsucc i (by omega)]
    simp at he2
    subst he2
    exact Ev.neg (by omega) hr
  | g :: rest, n, acc, hd, hn, ha, he2 => by
    obtain ⟨h1, h2, h3⟩ := drop_step z85 hd
    have er : rd_T85 rs (n : Int) = g := h2
    refine Ev.succ ?_
    simp only [impl_bankGaps.l1, er]
    rw [wsucc n (by omega)]
    exact Ev.pos (by omega) (Ev.pos (by omega) (Ev.pos (by omega) (Ev.pos (by omega) (bg_inner cs hcs i hi rs hg M hM res hr rest (n + 1) _ h3 (by omega) (by simp; omega) (by rw [← he2]; simp)))))
theorem bg_loop (cs : List S30) (hf : Flat cs) : ∀ (rest : List S30) (i : Nat) (acc : List S54), cs.drop i = rest → i ≤ cs.length → acc.length ≤ 24 * i → Ev (fun k => impl_bankGaps.l0 k acc cs (cs.length : Int) (i : Int)) (acc ++ bankG (i : Int) rest)
  | [], i, acc, hd, hi, ha => by
    have he := drop_end hd hi
    have hl := hf.len
    refine Ev.succ ?_
    simp only [impl_bankGaps.l0]
    exact Ev.neg (by omega) ((Ev.ret _).to (by simp [bankG]))
  | c :: rest, i, acc, hd, hi, ha => by
    obtain ⟨h1, h2, h3⟩ := drop_step z30 hd
    have er : rd_T30 cs (i : Int) = c := h2
    have hm : c ∈ cs := by rw [← h2, getD_gen _ h1]; exact List.getElem_mem _
    have hl := hf.len
    have hb := hf.box c hm
    have hgl := gapsB_len c.f1 c.f2
    have hdl : ((decs c.f1 [] [] c.f2).map toRun).length ≤ 24 := by
      have h2 := congrArg List.length (decs_gaps c.f1 c.f2 [] [])
      rw [List.length_map] at h2 ⊢
      unfold gapsB at hgl
      omega
    have ih := bg_loop cs hf rest (i + 1) (acc ++ (gapsB c.f1 c.f2).map (fun g => ⟨(i : Int), g.f1, g.f2⟩)) h3 (by omega) (by simp; omega)
    refine Ev.succ ?_
    simp only [impl_bankGaps.l0, er]
    refine Ev.pos (by omega) (Ev.pos (by omega) (Ev.pos (by omega) (Ev.bind (runs_ev c.f0 c.f1 (hf.fix c hm) c.f2 hb (hf.sz c hm)) ?_)))
    refine bg_inner cs hl i h1 _ hdl (24 * i) (by omega) _ (ih.to ?_) _ 0 acc rfl (by omega) (by omega) ?_
    · rw [bankG, List.append_assoc]
      rfl
    · rw [List.drop_zero, List.map_map]
      unfold gapsB
      rw [← decs_gaps c.f1 c.f2 [] [], List.map_map]
      rfl
theorem bankG_ev (cs : List S30) (hf : Flat cs) : Ev (fun k => impl_bankGaps.f k cs) (bankG 0 cs) := by
  unfold impl_bankGaps.f
  exact bg_loop cs hf cs 0 [] rfl (by omega) (by simp)
theorem bankGaps_ev (cs : List S30) (hs : Small cs) : Ev (fun k => impl_BankGaps.f k cs) (bankGP cs) := by
  unfold impl_BankGaps.f bankGP
  refine Ev.bind (Ev.const rfl) ?_
  by_cases hb : bankP cs = true
  · rw [if_pos hb]
    have v := (bankP_iff cs).mp hb
    exact Ev.pos hb (Ev.bind (bankG_ev cs (v.flat hs)) (Ev.ret _))
  · rw [if_neg hb]
    exact Ev.neg hb (Ev.ret _)
theorem bankG_len : ∀ (cs : List S30) (k : Int), (∀ c ∈ cs, c.f2.length ≤ 24) → (bankG k cs).length ≤ 24 * cs.length
  | [], _, _ => by simp [bankG]
  | c :: cs, k, h => by
    have := bankG_len cs (k + 1) (fun d hd => h d (by simp [hd]))
    have := gapsB_len c.f1 c.f2
    have := h c (by simp)
    rw [bankG]
    simp
    omega
theorem bankGP_len (cs : List S30) : (bankGP cs).length ≤ 144 := by
  unfold bankGP
  split
  · next hb =>
    have v := (bankP_iff cs).mp hb
    have := bankG_len cs 0 (fun c hc => ((colP_iff _ _ _).mp (v.col c hc)).len)
    have := v.len
    omega
  · simp
theorem gapsW_pos (fx : List Int) : ∀ (bs cur : List S71) (M : Int), (∀ b ∈ bs, 1 ≤ b.f1) → (cur ≠ [] → 1 ≤ sumB cur) → sumB cur + sumB bs ≤ M → ∀ g ∈ gapsW fx cur bs, 1 ≤ g.f2 ∧ g.f2 ≤ M
  | [], cur, M, _, hc, hM, g, hg => by
    simp only [gapsW, emR] at hg
    split at hg
    · simp at hg
    · next h =>
      rw [List.mem_singleton.mp hg]
      have hg0 : (gapR cur).f2 = sumB cur := by cases cur with | nil => exact absurd rfl h | cons x cur => rfl
      have := hc h
      rw [sumB_nil] at hM
      omega
  | b :: bs, cur, M, hb, hc, hM, g, hg => by
    have hb1 := hb b (by simp)
    have hbs : ∀ x ∈ bs, 1 ≤ x.f1 := fun x hx => hb x (by simp [hx])
    have sb : sumB [b] = b.f1 := by rw [sumB_cons, sumB_nil]; omega
    have sn : ∀ l : List S71, (∀ x ∈ l, 1 ≤ x.f1) → 0 ≤ sumB l := by
      intro l
      induction l with
      | nil => intro _; exact Int.le_refl _
      | cons x l ih => intro h; rw [sumB_cons]; have := h x (by simp); have := ih (fun y hy => h y (by simp [hy])); omega
    have s0 := sn bs hbs
    have sc : 0 ≤ sumB cur := by
      by_cases h : cur = []
      · subst h; exact Int.le_refl _
      · have := hc h; omega
    rw [sumB_cons] at hM
    have em : ∀ g ∈ emR cur, 1 ≤ g.f2 ∧ g.f2 ≤ M := by
      intro g hg
      unfold emR at hg
      split at hg
      · simp at hg
      · next h =>
        rw [List.mem_singleton.mp hg]
        have hg0 : (gapR cur).f2 = sumB cur := by cases cur with | nil => exact absurd rfl h | cons x cur => rfl
        have := hc h
        omega
    simp only [gapsW] at hg
    split at hg
    · split at hg
      · exact gapsW_pos fx bs (cur ++ [b]) M hbs (fun _ => by rw [sumB_app, sb]; omega) (by rw [sumB_app, sb]; omega) g hg
      · rcases List.mem_append.mp hg with hg | hg
        · exact em g hg
        · exact gapsW_pos fx bs [b] M hbs (fun _ => by rw [sb]; omega) (by rw [sb]; omega) g hg
    · rcases List.mem_append.mp hg with hg | hg
      · exact em g hg
      · exact gapsW_pos fx bs [] M hbs (fun h => absurd rfl h) (by rw [sumB_nil]; omega) g hg
theorem gapsB_pos (fx : List Int) (bx : List S71) (lo hi : Int) (ht : tile lo bx hi) : ∀ g ∈ gapsB fx bx, 1 ≤ g.f2 ∧ g.f2 ≤ hi - lo := by
  have := tile_sum _ _ _ ht
  exact gapsW_pos fx bx [] (hi - lo) (fun b hb => (tile_mem _ _ _ ht b hb).2.1) (fun h => absurd rfl h) (by rw [sumB_nil]; omega)
theorem bankG_pos : ∀ (cs : List S30) (k : Int), (∀ c ∈ cs, ∃ h, tile 0 c.f2 h ∧ h ≤ 24) → ∀ g ∈ bankG k cs, 1 ≤ g.f2 ∧ g.f2 ≤ 24
  | [], _, _, g, hg => by simp [bankG] at hg
  | c :: cs, k, h, g, hg => by
    rw [bankG] at hg
    rcases List.mem_append.mp hg with hg | hg
    · obtain ⟨x, hx, rfl⟩ := List.mem_map.mp hg
      obtain ⟨e, ht, he⟩ := h c (by simp)
      have := gapsB_pos c.f1 c.f2 0 e ht x hx
      exact ⟨this.1, by show x.f2 ≤ 24; omega⟩
    · exact bankG_pos cs (k + 1) (fun d hd => h d (by simp [hd])) g hg
theorem bankGP_pos (cs : List S30) : ∀ g ∈ bankGP cs, 1 ≤ g.f2 ∧ g.f2 ≤ 24 := by
  unfold bankGP
  split
  · next hb =>
    have v := (bankP_iff cs).mp hb
    exact bankG_pos cs 0 (fun c hc => ⟨c.f0, ((colP_iff _ _ _).mp (v.col c hc)).til, ((colP_iff _ _ _).mp (v.col c hc)).hi.2⟩)
  · intro g hg; simp at hg
end Go.Proofs.Ytghfeapncmlihaa.A

namespace Go.Proofs.Ytghfeapncmlihaa.A
open Go.RowKit Go.Proofs.YtghfeapncmlihaaW.PrintWords Go.Proofs.YtghfeapncmlihaaW.PrintLast Go.Proofs.YtghfeapncmlihaaW.PrintMore
set_option linter.unusedVariables false
set_option linter.unusedSimpArgs false
def mostL (size : Int) : List S54 → Int
  | [] => 0
  | g :: l => Int.tdiv g.f2 size + mostL size l
theorem tdiv_in {a n M : Int} (h0 : 0 ≤ a) (h1 : a ≤ M) (h2 : 1 ≤ n) : 0 ≤ Int.tdiv a n ∧ Int.tdiv a n ≤ M := by
  rw [Int.tdiv_eq_ediv_of_nonneg h0]
  exact ⟨Int.ediv_nonneg h0 (by omega), Int.le_trans (Int.ediv_le_self n h0) h1⟩
theorem most_loop (size : Int) (hs : 1 ≤ size) (l : List S54) (hl : l.length ≤ 144) (hp : ∀ g ∈ l, 1 ≤ g.f2 ∧ g.f2 ≤ 24) : ∀ (rest : List S54) (i : Nat) (n : Int), l.drop i = rest → i ≤ l.length → 0 ≤ n → n ≤ 24 * i → Ev (fun k => impl_MostOf.l0 k size n l (l.length : Int) (i : Int)) (n + mostL size rest)
  | [], i, n, hd, hi, h0, h1 => by
    have he := drop_end hd hi
    refine Ev.succ ?_
    simp only [impl_MostOf.l0]
    exact Ev.neg (by omega) ((Ev.ret _).to (by simp [mostL]))
  | g :: rest, i, n, hd, hi, h0, h1 => by
    obtain ⟨h2, h3, h4⟩ := drop_step z54 hd
    have er : rd_T54 l (i : Int) = g := h3
    have hg : g ∈ l := by rw [← h3, getD_gen _ h2]; exact List.getElem_mem _
    have h5 := hp g hg
    have h6 := tdiv_in (M := 24) (show 0 ≤ g.f2 by omega) h5.2 hs
    refine Ev.succ ?_
    simp only [impl_MostOf.l0, er]
    rw [wsucc i (by omega), wid (Int.tdiv g.f2 size) (by omega) (by omega), wid (n + Int.tdiv g.f2 size) (by omega) (by omega)]
    refine Ev.pos (by omega) (Ev.pos (by omega) (Ev.pos (by omega) (Ev.neg (by omega) ((most_loop size hs l hl hp rest (i + 1) _ h4 (by omega) (by omega) (by omega)).to ?_))))
    rw [mostL]
    omega
def mostP (cs : List S30) (size : Int) : Int := if 1 ≤ size then mostL size (bankGP cs) else 0
theorem most_ev (cs : List S30) (hs : Small cs) (size : Int) : Ev (fun k => impl_MostOf.f k cs size) (mostP cs size) := by
  unfold impl_MostOf.f mostP
  by_cases c : 1 ≤ size
  · rw [if_pos c]
    refine Ev.pos c (Ev.bind (bankGaps_ev cs hs) ?_)
    refine (most_loop size c _ (bankGP_len cs) (bankGP_pos cs) _ 0 0 rfl (by omega) (by omega) (by omega)).to ?_
    rw [Int.zero_add]
    rfl
  · rw [if_neg c]
    exact Ev.neg (by omega) (Ev.ret _)
end Go.Proofs.Ytghfeapncmlihaa.A

namespace Go.Proofs.Ytghfeapncmlihaa.A
open Go.RowKit Go.Proofs.YtghfeapncmlihaaW.PrintWords Go.Proofs.YtghfeapncmlihaaW.PrintLast Go.Proofs.YtghfeapncmlihaaW.PrintMore
set_option linter.unusedVariables false
set_option linter.unusedSimpArgs false
theorem mostS_loop (size : Int) (hs : 1 ≤ size) (l : List S54) (hl : l.length ≤ 144) (hp : ∀ g ∈ l, 1 ≤ g.f2 ∧ g.f2 ≤ 24) : ∀ (rest : List S54) (i : Nat) (n : Int), l.drop i = rest → i ≤ l.length → 0 ≤ n → n ≤ 24 * i → Ev (fun k => spec_MostOf.l0 k size l n (i : Int)) (n + mostL size rest)
  | [], i, n, hd, hi, h0, h1 => by
    have he := drop_end hd hi
    refine Ev.succ ?_
    simp only [spec_MostOf.l0]
    exact Ev.neg (by omega) ((Ev.ret _).to (by simp [mostL]))
  | g :: rest, i, n, hd, hi, h0, h1 => by
    obtain ⟨h2, h3, h4⟩ := drop_step z54 hd
    have er : rd_T54 l (i : Int) = g := h3
    have hg : g ∈ l := by rw [← h3, getD_gen _ h2]; exact List.getElem_mem _
    have h5 := hp g hg
    have h6 := tdiv_in (M := 24) (show 0 ≤ g.f2 by omega) h5.2 hs
    refine Ev.succ ?_
    simp only [spec_MostOf.l0, er]
    rw [wsucc i (by omega), wid (Int.tdiv g.f2 size) (by omega) (by omega), wid (n + Int.tdiv g.f2 size) (by omega) (by omega)]
    refine Ev.pos (by omega) (Ev.pos (by omega) (Ev.pos (by omega) (Ev.neg (by omega) ((mostS_loop size hs l hl hp rest (i + 1) _ h4 (by omega) (by omega) (by omega)).to ?_))))
    rw [mostL]
    omega
theorem mostS_ev (cs : List S30) (hs : Small cs) (size : Int) : Ev (fun k => spec_MostOf.f k cs size) (mostP cs size) := by
  unfold spec_MostOf.f mostP
  refine Ev.bind (bankGapsS_ev cs hs) ?_
  by_cases c : 1 ≤ size
  · rw [if_pos c]
    refine (mostS_loop size c _ (bankGP_len cs) (bankGP_pos cs) _ 0 0 rfl (by omega) (by omega) (by omega)).to ?_
    rw [Int.zero_add]
    rfl
  · rw [if_neg c]
    refine Ev.succ ?_
    simp only [spec_MostOf.l0]
    by_cases d : (0 : Int) < (bankGP cs).length
    · exact Ev.pos d (Ev.neg (by omega) (Ev.ret _))
    · exact Ev.neg d (Ev.ret _)
end Go.Proofs.Ytghfeapncmlihaa.A

namespace Go.Proofs.Ytghfeapncmlihaa.A
open Go.RowKit Go.Proofs.YtghfeapncmlihaaW.PrintWords Go.Proofs.YtghfeapncmlihaaW.PrintLast Go.Proofs.YtghfeapncmlihaaW.PrintMore
set_option linter.unusedVariables false
set_option linter.unusedSimpArgs false
theorem pureFnExactMostOf : ∀ (l0 : List (S25)) (a1 : Int), ok41 l0 → ok3 a1 → ∃ k, laws_FnExactMostOf.f k l0 a1 = some true := by
  rintro l size hl _
  refine Ev.get ?_
  unfold laws_FnExactMostOf.f
  rcases bank_begin l hl with ⟨r, h1, h2⟩ | ⟨⟨r, h1, h2⟩, hT, hs, _⟩
  · exact Ev.bind h1 (Ev.pos h2 (Ev.ret _))
  · refine Ev.bind h1 (Ev.neg (by omega) ?_)
    refine Ev.bind hT (Ev.bind (mostS_ev _ hs size) (Ev.bind hT (Ev.bind (most_ev _ hs size) (Ev.pos (by trivial) ?_))))
    exact Ev.bind hT (Ev.bind (eqColumnS_ev _ hs) (Ev.pos (by trivial) (Ev.ret _)))
end Go.Proofs.Ytghfeapncmlihaa.A
