/- What the proof of the law FnGaps uses: lemmas, the Lean functions of the Go functions that it reaches, their contracts, and the pure statement's proof. -/
import Derived.Test.YtghfeapncmlihaaZFnGapsx28
import Derived.Test.YtghfeapncmlihaaZFnGapsx25
import Derived.Test.YtghfeapncmlihaaZFnGapsx26
import Derived.Test.YtghfeapncmlihaaZFnGapsx27
import Derived.Test.YtghfeapncmlihaaZFnGapsx22
import Derived.Test.YtghfeapncmlihaaZFnGapsx20
namespace Go.Proofs.Ytghfeapncmlihaa.A
open Go.RowKit Go.Proofs.YtghfeapncmlihaaW.PrintWords Go.Proofs.YtghfeapncmlihaaW.PrintLast Go.Proofs.YtghfeapncmlihaaW.PrintMore
set_option linter.unusedVariables false
set_option linter.unusedSimpArgs false
theorem and255 (n : Int) : Go.bits .and .i64 n 255 = n % 256 := by
 have h255 : (BitVec.ofInt 64 255).toNat = 2 ^ 8 - 1 := by decide
 have key : (BitVec.ofInt 64 n &&& BitVec.ofInt 64 255).toNat = (n % ((2 ^ 64 : Nat) : Int)).toNat % 2 ^ 8 := by
  rw [BitVec.toNat_and, BitVec.toNat_ofInt, h255, Nat.and_two_pow_sub_one_eq_mod]
 show IntKind.i64.wrap ((BitVec.ofInt 64 n &&& BitVec.ofInt 64 255).toNat : Nat) = n % 256
 rw [key, IntKind.wrap_i64]
 omega
theorem byte_some (l : List Int) (hl : l.length ≤ 140737488351232) (i h : Int) (hi : 0 ≤ i) : ∃ v i' h', spec_l01Byte.f l i h = some (v, i', h') ∧ 0 ≤ v ∧ v ≤ 255 ∧ 0 ≤ i' := by
 unfold spec_l01Byte.f
 simp only [and255]
 by_cases h1 : i < (l.length : Int)
 ·rw [if_pos h1, if_pos hi]
  have e : wrap64 (i + 1) = i + 1 := by unfold wrap64; omega
  rw [e]
  exact ⟨_, _, _, rfl, by omega, by omega, by omega⟩
 ·rw [if_neg h1]
  exact ⟨_, _, _, rfl, by omega, by omega, by omega⟩
theorem tmod_in (x n : Int) (hx : 0 ≤ x) (hn : 0 < n) : 0 ≤ Int.tmod x n ∧ Int.tmod x n < n :=
 ⟨Int.tmod_nonneg n hx, Int.tmod_lt_of_pos x hn⟩
theorem below_some (l : List Int) (hl : l.length ≤ 140737488351232) (i h n : Int) (hi : 0 ≤ i) : ∃ v i' h', spec_l01Below.f l i h n = some (v, i', h') ∧ 0 ≤ v ∧ (n ≤ 0 → v = 0) ∧ (0 < n → v < n) ∧ 0 ≤ i' := by
 unfold spec_l01Below.f
 by_cases h0 : n ≤ 0
 ·rw [if_pos h0]
  exact ⟨_, _, _, rfl, by omega, fun _ => rfl, fun _ => by omega, hi⟩
 ·rw [if_neg h0]
  have hne : ¬ n = 0 := by omega
  by_cases h1 : n ≤ 256
  ·rw [if_pos h1]
   obtain ⟨v, i1, x1, e1, a1, b1, c1⟩ := byte_some l hl i h hi
   rw [e1]
   simp only [Option.bind_some]
   rw [if_neg hne]
   exact ⟨_, _, _, rfl, (tmod_in v n a1 (by omega)).1, fun _ => by omega, fun _ => (tmod_in v n a1 (by omega)).2, c1⟩
  ·rw [if_neg h1]
   obtain ⟨v1, i1, x1, e1, a1, b1, c1⟩ := byte_some l hl i h hi
   rw [e1]
   simp only [Option.bind_some]
   obtain ⟨v2, i2, x2, e2, a2, b2, c2⟩ := byte_some l hl i1 x1 c1
   rw [e2]
   simp only [Option.bind_some]
   obtain ⟨v3, i3, x3, e3, a3, b3, c3⟩ := byte_some l hl i2 x2 c2
   rw [e3]
   simp only [Option.bind_some]
   obtain ⟨v4, i4, x4, e4, a4, b4, c4⟩ := byte_some l hl i3 x3 c3
   rw [e4]
   simp only [Option.bind_some]
   rw [if_neg hne]
   have w : wrap64 ((wrap64 ((wrap64 ((wrap64 (v1 * 16777216)) + (wrap64 (v2 * 65536)))) + (wrap64 (v3 * 256)))) + v4) = v1 * 16777216 + v2 * 65536 + v3 * 256 + v4 := by
    unfold wrap64; omega
   rw [w]
   exact ⟨_, _, _, rfl, (tmod_in _ n (by omega) (by omega)).1, fun _ => by omega, fun _ => (tmod_in _ n (by omega) (by omega)).2, c4⟩
theorem once_some (l : List Int) (hl : l.length ≤ 140737488351232) (i h n : Int) (hi : 0 ≤ i) : ∃ (b : Bool) (i' h' : Int), spec_l01Once.f l i h n = some (b, i', h') ∧ 0 ≤ i' := by
 obtain ⟨v, i1, x1, e1, _, _, _, c1⟩ := below_some l hl i h n hi
 unfold spec_l01Once.f
 rw [e1]
 exact ⟨_, _, _, rfl, c1⟩
theorem pickint_some (l : List Int) (hl : l.length ≤ 140737488351232) (i h : Int) (xs : List Int) (hx : 0 < xs.length) (hi : 0 ≤ i) : ∃ v i' h', spec_l01PickInt.f l i h xs = some (v, i', h') ∧ v ∈ xs ∧ 0 ≤ i' := by
 obtain ⟨v, i1, x1, e1, a1, _, b1, c1⟩ := below_some l hl i h (xs.length : Int) hi
 unfold spec_l01PickInt.f
 rw [e1]
 simp only [Option.bind_some]
 have b2 := b1 (by omega)
 rw [if_pos a1, if_pos b2]
 refine ⟨_, _, _, rfl, ?_, c1⟩
 unfold rd
 rw [getD_gen _ (show v.toNat < xs.length by omega)]
 exact List.getElem_mem _
theorem new_none {h : Int} (hh : 1 ≤ h ∧ h ≤ 24) : newP h [] = (h, [], [⟨0, h, 0, false⟩], true) := by
 have e : buildB ([] ++ [h]) 0 = [⟨0, h, 0, false⟩] := by
  show [(S71.mk 0 (wrap64 (h - 0)) 0 false)] = _
  rw [wid (h - 0) (by omega) (by omega)]
  simp
 unfold newP
 rw [e, if_pos]
 rw [colP_iff]
 exact ⟨hh, ⟨rfl, hh.1, by show 0 + h = h; omega⟩, by simp [parcs], rfl, by simp⟩
theorem new_one {h x : Int} (hh : 1 ≤ h ∧ h ≤ 24) (hx : 1 ≤ x ∧ x ≤ h - 1) : newP h [x] = (h, [x], [⟨0, x, 0, false⟩, ⟨x, h - x, 0, false⟩], true) := by
 have e : buildB ([x] ++ [h]) 0 = [⟨0, x, 0, false⟩, ⟨x, h - x, 0, false⟩] := by
  show [(S71.mk 0 (wrap64 (x - 0)) 0 false), (S71.mk x (wrap64 (h - x)) 0 false)] = _
  rw [wid (x - 0) (by omega) (by omega), wid (h - x) (by omega) (by omega)]
  simp
 unfold newP
 rw [e, if_pos]
 rw [colP_iff]
 refine ⟨hh, ⟨rfl, by show 1 ≤ x; omega, by show x = 0 + x; omega, by show 1 ≤ h - x; omega, by show 0 + x + (h - x) = h; omega⟩, by simp [parcs], ?_, ?_⟩
 ·simp [fixP, hx]
 ·intro f hf
  rw [List.mem_singleton.mp hf]
  exact ⟨⟨x, h - x, 0, false⟩, by simp, rfl⟩
theorem col_loop (l : List Int) (hl : l.length ≤ 140737488351232) (first height : Int) (hfirst : 0 ≤ first ∧ first ≤ 1000) : ∀ (n : Nat) (i y h : Int) (fx : List Int) (bx : List S71), n ≤ 100 → 0 ≤ i → fx.length ≤ 1 → ColV h fx bx → Par first bx →
  ∃ bx' i' y', Ev (fun k => spec_l02Column.l0 k first height (n : Int) l i y h fx bx) (h, fx, bx', i', y') ∧ ColV h fx bx' ∧ Par first bx' ∧ 0 ≤ i'
 | 0, i, y, h, fx, bx, _, hi, hf, v, hp => by
  refine ⟨bx, i, y, Ev.succ ?_, v, hp, hi⟩
  simp only [spec_l02Column.l0]
  exact Ev.neg (by omega) (Ev.ret _)
 | n + 1, i, y, h, fx, bx, hn, hi, hf, v, hp => by
  have hlen := v.len
  obtain ⟨a, i1, y1, e1, a0, _, a1, c1⟩ := below_some l hl i y 6 hi
  have a1 := a1 (by omega)
  obtain ⟨o, i2, y2, e2, o0, _, o1, c2⟩ := below_some l hl i1 y1 6 c1
  have ew : wrap64 (first + a) = first + a := wid _ (by omega) (by omega)
  have en : wrap64 (((n + 1 : Nat) : Int) - 1) = (n : Int) := by unfold wrap64; omega
  have go : ∀ s : Bool, ∃ bx' i' y', Ev (fun k => spec_l02Column.j2 k first height ((n + 1 : Nat) : Int) (first + a) o s l i2 y2 h fx bx) (h, fx, bx', i', y') ∧ ColV h fx bx' ∧ Par first bx' ∧ 0 ≤ i' := by
   intro s
   cases s with
   | true =>
    obtain ⟨bx', i', y', h1, h2, h3, h4⟩ := col_loop l hl first height hfirst n i2 y2 h fx _ (by omega) c2 hf (takeP_v v (first + a)) (takeP_par hp (first + a))
    refine ⟨bx', i', y', Ev.succ ?_, h2, h3, h4⟩
    simp only [spec_l02Column.j2]
    rw [en]
    exact Ev.pos (by trivial) (Ev.bind (takeS_ev h fx bx (by omega) (by omega) _) h1)
   | false =>
    by_cases c : o = 2
    ·obtain ⟨u, i3, y3, e3, _, _, _, c3⟩ := below_some l hl i2 y2 height c2
     obtain ⟨j, i4, y4, e4, c4⟩ := once_some l hl i3 y3 3 c3
     obtain ⟨bx', i', y', h1, h2, h3, h4⟩ := col_loop l hl first height hfirst n i4 y4 h fx _ (by omega) c4 hf (jamP_v v u j) (jamP_par hp u j)
     refine ⟨bx', i', y', Ev.succ ?_, h2, h3, h4⟩
     simp only [spec_l02Column.j2]
     rw [en]
     exact Ev.neg (by simp) (Ev.pos c (Ev.bind (Ev.const e3) (Ev.bind (Ev.const e4) (Ev.bind (jamS_ev h fx bx (by omega) (by omega) u j) h1))))
    ·obtain ⟨z, i3, y3, e3, z0, _, z1, c3⟩ := below_some l hl i2 y2 4 c2
     have z1 := z1 (by omega)
     have ez : wrap64 (1 + z) = 1 + z := wid _ (by omega) (by omega)
     obtain ⟨bx', i', y', h1, h2, h3, h4⟩ := col_loop l hl first height hfirst n i3 y3 h fx _ (by omega) c3 hf (putP_v v (first + a) (1 + z)) (putP_par (h := h) (fx := fx) hp (first + a) (1 + z) (by omega))
     refine ⟨bx', i', y', Ev.succ ?_, h2, h3, h4⟩
     simp only [spec_l02Column.j2]
     rw [en]
     refine Ev.neg (by simp) (Ev.neg c (Ev.bind (Ev.const e3) ?_))
     dsimp only
     rw [ez]
     exact Ev.bind (putS_ev (by omega) (by omega) _ _) h1
  obtain ⟨bx', i', y', h1, h2, h3, h4⟩ := go (if o = 0 then (o == 0) else (o == 1))
  refine ⟨bx', i', y', Ev.succ ?_, h2, h3, h4⟩
  simp only [spec_l02Column.l0]
  refine Ev.pos (by omega) (Ev.bind (Ev.const e1) (Ev.bind (Ev.const e2) ?_))
  dsimp only
  rw [ew]
  by_cases c : o = 0
  ·rw [if_pos c] at h1
   exact Ev.pos c h1
  ·rw [if_neg c] at h1
   exact Ev.neg c h1
theorem column_draw (l : List Int) (hl : l.length ≤ 140737488351232) (i y first : Int) (hfirst : 0 ≤ first ∧ first ≤ 1000) (hi : 0 ≤ i) :
  ∃ h fx bx i' y', Ev (fun k => spec_l02Column.f k l i y first) (h, fx, bx, i', y') ∧ ColV h fx bx ∧ Par first bx ∧ fx.length ≤ 1 ∧ 0 ≤ i' := by
 obtain ⟨a, i1, y1, e1, a0, _, a1, c1⟩ := below_some l hl i y 9 hi
 have a1 := a1 (by omega)
 obtain ⟨b, i2, y2, e2, c2⟩ := once_some l hl i1 y1 2 c1
 have ew : wrap64 (4 + a) = 4 + a := wid _ (by omega) (by omega)
 have fin : ∀ (i3 y3 : Int) (fx : List Int) (bx : List S71), 0 ≤ i3 → fx.length ≤ 1 → (∀ x ∈ fx, 1 ≤ x ∧ x ≤ 4 + a - 1) → newP (4 + a) fx = (4 + a, fx, bx, true) → ∃ bx' i' y', Ev (fun k => spec_l02Column.j0 k first (4 + a) fx l i3 y3) (4 + a, fx, bx', i', y') ∧ ColV (4 + a) fx bx' ∧ Par first bx' ∧ 0 ≤ i' := by
  intro i3 y3 fx bx hi3 hfx hr hnew
  obtain ⟨n, i4, y4, e4, n0, _, n1, c4⟩ := below_some l hl i3 y3 7 hi3
  have n1 := n1 (by omega)
  have hv : ColV (4 + a) fx bx := by
   have h0 := hnew
   unfold newP at h0
   split at h0
   ·next hc =>
    have h0 := congrArg (fun z : Int × List Int × List S71 × Bool => z.2.2.1) h0
    dsimp only at h0
    rw [h0] at hc
    exact (colP_iff _ _ _).mp hc
   ·simp at h0
  have hb0 : ∀ x ∈ bx, x.f2 = 0 := by
   have h0 := hnew
   unfold newP at h0
   split at h0
   ·have h0 := congrArg (fun z : Int × List Int × List S71 × Bool => z.2.2.1) h0
    dsimp only at h0
    rw [← h0]
    have bz : ∀ (ws : List Int) (low : Int), ∀ x ∈ buildB ws low, x.f2 = 0 := by
     intro ws
     induction ws with
     | nil => intro low x hx; simp [buildB] at hx
     | cons w ws ih =>
      intro low x hx
      rw [buildB] at hx
      rcases List.mem_cons.mp hx with rfl | hx
      ·rfl
      ·exact ih w x hx
    exact bz _ _
   ·simp at h0
  obtain ⟨bx', i', y', h1, h2, h3, h4⟩ := col_loop l hl first (4 + a) hfirst n.toNat i4 y4 (4 + a) fx bx (by omega) c4 hfx hv (fun x hx => Or.inl (hb0 x hx))
  rw [show ((n.toNat : Nat) : Int) = n by omega] at h1
  refine ⟨bx', i', y', Ev.succ ?_, h2, h3, h4⟩
  simp only [spec_l02Column.j0]
  have hN := newS_ev (4 + a) fx (by omega) (by omega) (fun x hx => by have := hr x hx; omega)
  rw [hnew] at hN
  exact Ev.bind hN (Ev.bind (Ev.const e4) h1)
 cases b with
 | false =>
  obtain ⟨bx', i', y', h1, h2, h3, h4⟩ := fin i2 y2 [] _ c2 (by simp) (by simp) (new_none (by omega))
  refine ⟨4 + a, [], bx', i', y', ?_, h2, h3, by simp, h4⟩
  unfold spec_l02Column.f
  refine Ev.bind (Ev.const e1) (Ev.bind (Ev.ret _) (Ev.bind (Ev.const e2) (Ev.neg (by simp) ?_)))
  dsimp only
  rw [ew]
  exact h1
 | true =>
  obtain ⟨x, i3, y3, e3, x0, _, x1, c3⟩ := below_some l hl i2 y2 (4 + a - 2) c2
  have x1 := x1 (by omega)
  have ex : wrap64 (1 + x) = 1 + x := wid _ (by omega) (by omega)
  have e22 : wrap64 (4 + a - 2) = 4 + a - 2 := wid _ (by omega) (by omega)
  obtain ⟨bx', i', y', h1, h2, h3, h4⟩ := fin i3 y3 [1 + x] _ c3 (by simp) (fun z hz => by rw [List.mem_singleton.mp hz]; omega) (new_one (by omega) (by omega))
  refine ⟨4 + a, [1 + x], bx', i', y', ?_, h2, h3, by simp, h4⟩
  unfold spec_l02Column.f
  refine Ev.bind (Ev.const e1) (Ev.bind (Ev.ret _) (Ev.bind (Ev.const e2) (Ev.pos (by trivial) ?_)))
  dsimp only
  rw [ew, e22]
  refine Ev.bind (Ev.const e3) (Ev.pos (by simp) ?_)
  dsimp only
  rw [ex]
  exact h1
theorem anyColumn_draw (l : List Int) (hl : l.length ≤ 140737488351232) (i y : Int) (hi : 0 ≤ i) :
  ∃ h fx bx i' y', Ev (fun k => spec_l02AnyColumn.f k l i y) (h, fx, bx, i', y') ∧ fx.length ≤ 2 ∧ bx.length ≤ 24 ∧ 0 ≤ i' ∧ (∀ x ∈ fx, -9223372036854775808 ≤ x ∧ x ≤ 9223372036854775807) := by
 obtain ⟨h, fx, bx, i1, y1, e1, v, _, hf, c1⟩ := column_draw l hl i y 1 (by omega) hi
 have hlen := v.len
 have hne := v.ne
 have hr : ∀ x ∈ fx, -9223372036854775808 ≤ x ∧ x ≤ 9223372036854775807 := by
  intro x hx
  obtain ⟨b, hb, e⟩ := v.low x hx
  have := v.mem hb
  omega
 obtain ⟨k, i2, y2, e2, k0, _, k1, c2⟩ := below_some l hl i1 y1 (bx.length : Int) c1
 have k1 := k1 (by omega)
 obtain ⟨o, i3, y3, e3, o0, _, o1, c3⟩ := below_some l hl i2 y2 14 c2
 have beg : ∀ {G : Nat → (Int × List Int × List S71 × Int × Int) → (Int × Int × Int) → (Int × Int × Int) → Option (Int × List Int × List S71 × Int × Int)} {r}, Ev (fun k' => G k' (h, fx, bx, i1, y1) (k, i2, y2) (o, i3, y3)) r →
   Ev (fun k' => (spec_l02Column.f k' l i y 1).bind fun bt => (spec_l01Below.f l bt.2.2.2.1 bt.2.2.2.2 (bt.2.2.1.length : Int)).bind fun bt2 => (spec_l01Below.f l bt2.2.1 bt2.2.2 14).bind fun bt3 => G k' bt bt2 bt3) r := by
  intro G r hG
  exact Ev.bind e1 (Ev.bind (Ev.const e2) (Ev.bind (Ev.const e3) hG))
 unfold spec_l02AnyColumn.f
 by_cases o_0 : o = 0
 ·obtain ⟨p, i4, y4, e4, _, c4⟩ := pickint_some l hl i3 y3 [0, 24, 25, wrap64 (h + 1)] (by simp) c3
  exact ⟨_, _, _, _, _, Ev.bind e1 (Ev.bind (Ev.const e2) (Ev.bind (Ev.const e3) (Ev.pos o_0 (Ev.bind (Ev.const e4) (Ev.ret _))))), (show fx.length ≤ 2 by omega), hlen, c4, hr⟩
 ·by_cases o_1 : o = 1
  ·obtain ⟨p, i4, y4, e4, _, c4⟩ := pickint_some l hl i3 y3 [(-1), 0, 1, 9223372036854775807] (by simp) c3
   exact ⟨_, _, _, _, _, Ev.bind e1 (Ev.bind (Ev.const e2) (Ev.bind (Ev.const e3) (Ev.neg o_0 (Ev.pos o_1 (Ev.bind (Ev.const e4) (Ev.pos k0 (Ev.pos k1 (Ev.ret _)))))))), (show fx.length ≤ 2 by omega), by rw [List.length_set]; exact hlen, c4, hr⟩
  ·by_cases o_2 : o = 2
   ·obtain ⟨p, i4, y4, e4, _, c4⟩ := pickint_some l hl i3 y3 [(-1), 1, 999, 1000] (by simp) c3
    exact ⟨_, _, _, _, _, Ev.bind e1 (Ev.bind (Ev.const e2) (Ev.bind (Ev.const e3) (Ev.neg o_0 (Ev.neg o_1 (Ev.pos o_2 (Ev.bind (Ev.const e4) (Ev.pos k0 (Ev.pos k1 (Ev.ret _))))))))), (show fx.length ≤ 2 by omega), by rw [List.length_set]; exact hlen, c4, hr⟩
   ·by_cases o_3 : o = 3
    ·obtain ⟨p, i4, y4, e4, p0, _, p1, c4⟩ := below_some l hl i3 y3 14 c3
     have p1 := p1 (by omega)
     refine ⟨_, _, _, _, _, Ev.bind e1 (Ev.bind (Ev.const e2) (Ev.bind (Ev.const e3) (Ev.neg o_0 (Ev.neg o_1 (Ev.neg o_2 (Ev.pos o_3 (Ev.bind (Ev.const e4) (Ev.pos ?_ (Ev.ret _))))))))), by simp; omega, hlen, c4, fun x hx => ?_⟩
     ·show fx.length < _; omega
     ·rcases List.mem_append.mp hx with hx | hx
      ·exact hr x hx
      ·rw [List.mem_singleton.mp hx]
       show -9223372036854775808 ≤ p ∧ p ≤ _
       omega
    ·by_cases o_4 : o = 4
     ·exact ⟨_, _, _, _, _, Ev.bind e1 (Ev.bind (Ev.const e2) (Ev.bind (Ev.const e3) (Ev.neg o_0 (Ev.neg o_1 (Ev.neg o_2 (Ev.neg o_3 (Ev.pos o_4 (Ev.ret _)))))))), (show fx.length ≤ 2 by omega), by simp, c3, hr⟩
     ·exact ⟨_, _, _, _, _, Ev.bind e1 (Ev.bind (Ev.const e2) (Ev.bind (Ev.const e3) (Ev.neg o_0 (Ev.neg o_1 (Ev.neg o_2 (Ev.neg o_3 (Ev.neg o_4 (Ev.ret _)))))))), (show fx.length ≤ 2 by omega), hlen, c3, hr⟩
theorem newEv_loop (l : List Int) (hl : l.length ≤ 140737488351232) : ∀ (d : Nat) (h i : Int), 0 ≤ i → (l.length : Int) - i ≤ d → ∃ h', Ev (fun k => spec_l01New.l0 k l h i) (l, 0, h')
 | 0, h, i, h0, hd => by
  refine ⟨h, Ev.succ ?_⟩
  simp only [spec_l01New.l0]
  exact Ev.neg (by omega) (Ev.ret _)
 | d + 1, h, i, h0, hd => by
  by_cases h1 : i < (l.length : Int)
  ·by_cases h2 : i < 4000
   ·have e : wrap64 (i + 1) = i + 1 := by unfold wrap64; omega
    obtain ⟨h', hh⟩ := newEv_loop l hl d (Go.bits .and .i64 (wrap64 ((wrap64 ((wrap64 (h * 131)) + (wrap64 (rd l i)))) + 7)) 1073741823) (i + 1) (by omega) (by omega)
    refine ⟨h', Ev.succ ?_⟩
    simp only [spec_l01New.l0, e]
    exact Ev.pos h1 (Ev.pos h2 (Ev.pos h0 hh))
   ·refine ⟨h, Ev.succ ?_⟩
    simp only [spec_l01New.l0]
    exact Ev.pos h1 (Ev.neg h2 (Ev.ret _))
  ·refine ⟨h, Ev.succ ?_⟩
   simp only [spec_l01New.l0]
   exact Ev.neg h1 (Ev.ret _)
theorem new_draw (l : List Int) (hl : l.length ≤ 140737488351232) : ∃ h', Ev (fun k => spec_l01New.f k l) (l, 0, h') :=
 newEv_loop l hl l.length _ 0 (by omega) (by omega)
end Go.Proofs.Ytghfeapncmlihaa.A

namespace Go.Proofs.Ytghfeapncmlihaa.A
open Go.RowKit Go.Proofs.YtghfeapncmlihaaW.PrintWords Go.Proofs.YtghfeapncmlihaaW.PrintLast Go.Proofs.YtghfeapncmlihaaW.PrintMore
set_option linter.unusedVariables false
set_option linter.unusedSimpArgs false
theorem clear_loop (h : Int) (fx : List Int) (hf : fx.length ≤ 1048576) (G : List S54) (hG : G.length ≤ 24) : ∀ (rest : List S54) (i : Nat) (bx : List S71), G.drop i = rest → i ≤ G.length → Clr h fx G bx → Ev (fun k => impl_Cleared.l0 k G (G.length : Int) (i : Int) h fx bx) (h, fx, clearL bx rest)
 | [], i, bx, hd, hi, c => by
  have he := drop_end hd hi
  refine Ev.succ ?_
  simp only [impl_Cleared.l0]
  exact Ev.neg (by omega) (Ev.ret _)
 | g :: rest, i, bx, hd, hi, c => by
  obtain ⟨h1, h2, h3⟩ := drop_step z54 hd
  have er : rd_T54 G (i : Int) = g := h2
  have hg : g ∈ G := by rw [← h2, getD_gen _ h1]; exact List.getElem_mem _
  obtain ⟨c1, _, c3⟩ := c.step g hg
  refine Ev.succ ?_
  simp only [impl_Cleared.l0, er]
  rw [wsucc i (by omega)]
  refine Ev.pos (by omega) (Ev.pos (by omega) (Ev.pos (by omega) (Ev.bind (filled_ev h fx hf bx c.len.1 c.len.2 g.f1 _ (by simp)) ?_)))
  rw [c3]
  exact clear_loop h fx hf G hG rest (i + 1) _ h3 (by omega) c1
theorem clearS_loop (h : Int) (fx : List Int) (hf : fx.length ≤ 1048576) (G : List S54) (hG : G.length ≤ 24) : ∀ (rest : List S54) (i : Nat) (bx : List S71), G.drop i = rest → i ≤ G.length → Clr h fx G bx → Ev (fun k => spec_Cleared.l0 k G (i : Int) h fx bx) (h, fx, clearL bx rest)
 | [], i, bx, hd, hi, c => by
  have he := drop_end hd hi
  refine Ev.succ ?_
  simp only [spec_Cleared.l0]
  exact Ev.neg (by omega) (Ev.ret _)
 | g :: rest, i, bx, hd, hi, c => by
  obtain ⟨h1, h2, h3⟩ := drop_step z54 hd
  have er : rd_T54 G (i : Int) = g := h2
  have hg : g ∈ G := by rw [← h2, getD_gen _ h1]; exact List.getElem_mem _
  obtain ⟨c1, c2, _⟩ := c.step g hg
  refine Ev.succ ?_
  simp only [spec_Cleared.l0, er]
  rw [wsucc i (by omega)]
  refine Ev.pos (by omega) (Ev.pos (by omega) (Ev.bind (fillS_ev h fx hf bx c.len.1 g.f0 g.f1 g.f2 0 g.f2 (by omega) (by omega) (by omega) (by omega) (by omega) (by omega)) ?_))
  exact clearS_loop h fx hf G hG rest (i + 1) _ h3 (by omega) c1
theorem clear_ev (h : Int) (fx : List Int) (hf : fx.length ≤ 1048576) (bx : List S71) (hb : bx.length ≤ 1048576) : Ev (fun k => impl_Cleared.f k h fx bx) (h, fx, clearP h fx bx) := by
 unfold impl_Cleared.f clearP
 refine Ev.bind (copy_ev h fx bx (by omega) (by omega)) (Ev.bind (gaps_ev h fx hf bx) ?_)
 dsimp only
 have hl := gapsP_len h fx bx
 by_cases c : colP h fx bx = true
 ·have v := (colP_iff h fx bx).mp c
  have e : gapsP h fx bx = gapsB fx bx := by unfold gapsP; rw [if_pos c]
  rw [e] at hl ⊢
  exact clear_loop h fx hf _ hl _ 0 bx rfl (by omega) v.clr
 ·have e : gapsP h fx bx = [] := by unfold gapsP; rw [if_neg c]
  rw [e]
  refine Ev.succ ?_
  simp only [impl_Cleared.l0]
  exact Ev.neg (by simp) (Ev.ret _)
theorem clearS_ev (h : Int) (fx : List Int) (hf : fx.length ≤ 1048576) (bx : List S71) (hb : bx.length ≤ 1048576) : Ev (fun k => spec_Cleared.f k h fx bx) (h, fx, clearP h fx bx) := by
 unfold spec_Cleared.f clearP
 refine Ev.bind (copyS_ev h fx bx (by omega) (by omega)) (Ev.bind (gapsS_ev h fx hf bx hb) ?_)
 dsimp only
 have hl := gapsP_len h fx bx
 by_cases c : colP h fx bx = true
 ·have v := (colP_iff h fx bx).mp c
  have e : gapsP h fx bx = gapsB fx bx := by unfold gapsP; rw [if_pos c]
  rw [e] at hl ⊢
  exact clearS_loop h fx hf _ hl _ 0 bx rfl (by omega) v.clr
 ·have e : gapsP h fx bx = [] := by unfold gapsP; rw [if_neg c]
  rw [e]
  refine Ev.succ ?_
  simp only [spec_Cleared.l0]
  exact Ev.neg (by simp) (Ev.ret _)
end Go.Proofs.Ytghfeapncmlihaa.A

namespace Go.Proofs.Ytghfeapncmlihaa.A
open Go.RowKit Go.Proofs.YtghfeapncmlihaaW.PrintWords Go.Proofs.YtghfeapncmlihaaW.PrintLast Go.Proofs.YtghfeapncmlihaaW.PrintMore
set_option linter.unusedVariables false
set_option linter.unusedSimpArgs false
theorem sameInts_ev (l : List Int) (hl : l.length ≤ 1048576) : Ev (fun k => laws_sameInts.f k l l) true := Ev.mk l.length (fun k hk => by
 unfold laws_sameInts.f
 rw [if_pos rfl]
 have h := all_loop (L := fun k i => laws_sameInts.l0 k l l i) (n := l.length) (P := fun _ => true) (fun k i hi => ?_) (fun k => ?_) l.length k 0 (by omega) hk
 ·have e : (List.range' 0 l.length).all (fun _ => true) = true := by simp
  rw [e] at h
  exact h
 ·simp only [laws_sameInts.l0]
  rw [if_pos (by omega), if_pos (by omega), if_pos (by omega)]
  simp only [if_true]
  rw [wsucc i (by omega)]
 ·simp only [laws_sameInts.l0]
  rw [if_neg (by omega)])
theorem sameBoxes_ev (l : List S71) (hl : l.length ≤ 1048576) : Ev (fun k => laws_sameBoxes.f k l l) true := Ev.mk l.length (fun k hk => by
 unfold laws_sameBoxes.f
 rw [if_pos rfl]
 have h := all_loop (L := fun k i => laws_sameBoxes.l0 k l l i) (n := l.length) (P := fun _ => true) (fun k i hi => ?_) (fun k => ?_) l.length k 0 (by omega) hk
 ·have e : (List.range' 0 l.length).all (fun _ => true) = true := by simp
  rw [e] at h
  exact h
 ·simp only [laws_sameBoxes.l0]
  rw [if_pos (by omega), if_pos (by omega), if_pos (by omega), if_neg (by simp), wsucc i (by omega)]
  simp only [if_true]
 ·simp only [laws_sameBoxes.l0]
  rw [if_neg (by omega)])
theorem sameColumn_ev (h : Int) (fx : List Int) (bx : List S71) (hf : fx.length ≤ 1048576) (hb : bx.length ≤ 1048576) : Ev (fun k => laws_sameColumn.f k h fx bx h fx bx) true := by
 unfold laws_sameColumn.f
 exact Ev.pos rfl (Ev.bind (sameInts_ev fx hf) (Ev.pos (by trivial) (Ev.bind (sameBoxes_ev bx hb) (Ev.ret _))))
def roomL : List S54 → Int
 | [] => 0
 | g :: l => g.f2 + roomL l
theorem roomL_app : ∀ (a b : List S54), roomL (a ++ b) = roomL a + roomL b
 | [], b => by simp [roomL]
 | g :: a, b => by rw [List.cons_append, roomL, roomL, roomL_app a b]; omega
theorem room_loop (l : List S54) (hl : l.length ≤ 1000) (hp : ∀ g ∈ l, 0 ≤ g.f2 ∧ g.f2 ≤ 1000) : ∀ (rest : List S54) (i : Nat) (n : Int), l.drop i = rest → i ≤ l.length → 0 ≤ n → n ≤ 1000 * i → Ev (fun k => laws_room.l0 k l n (i : Int)) (n + roomL rest)
 | [], i, n, hd, hi, h0, h1 => by
  have he := drop_end hd hi
  refine Ev.succ ?_
  simp only [laws_room.l0]
  exact Ev.neg (by omega) ((Ev.ret _).to (by simp [roomL]))
 | g :: rest, i, n, hd, hi, h0, h1 => by
  obtain ⟨h2, h3, h4⟩ := drop_step z54 hd
  have er : rd_T54 l (i : Int) = g := h3
  have hg : g ∈ l := by rw [← h3, getD_gen _ h2]; exact List.getElem_mem _
  have h5 := hp g hg
  refine Ev.succ ?_
  simp only [laws_room.l0, er]
  rw [wsucc i (by omega), wid (n + g.f2) (by omega) (by omega)]
  refine Ev.pos (by omega) (Ev.pos (by omega) ((room_loop l hl hp rest (i + 1) _ h4 (by omega) (by omega) (by omega)).to ?_))
  rw [roomL]
  omega
theorem room_ev (l : List S54) (hl : l.length ≤ 1000) (hp : ∀ g ∈ l, 0 ≤ g.f2 ∧ g.f2 ≤ 1000) : Ev (fun k => laws_room.f k l) (roomL l) := by
 unfold laws_room.f
 exact (room_loop l hl hp l 0 0 rfl (by omega) (by omega) (by omega)).to (by omega)
def openS : List S71 → Int
 | [] => 0
 | b :: l => (if opB b = true then b.f1 else 0) + openS l
theorem gapsW_room (fx : List Int) : ∀ (bs cur : List S71), roomL (gapsW fx cur bs) = sumB cur + openS bs
 | [], cur => by
  simp only [gapsW, emR, openS]
  split
  ·next h => subst h; rfl
  ·next h => rw [gapR_is h]; show sumB cur + 0 = _; rfl
 | b :: bs, cur => by
  have em : roomL (emR cur) = sumB cur := by
   unfold emR
   split
   ·next h => subst h; rfl
   ·next h => rw [gapR_is h]; exact Int.add_zero _
  have sb : sumB [b] = b.f1 := by rw [sumB_cons, sumB_nil]; omega
  simp only [gapsW, openS]
  split
  ·next hb =>
   split
   ·rw [gapsW_room fx bs (cur ++ [b]), sumB_app, sb]; omega
   ·rw [roomL_app, em, gapsW_room fx bs [b], sb]
  ·rw [roomL_app, em, gapsW_room fx bs [], sumB_nil]
theorem gapsB_room (fx : List Int) (bx : List S71) : roomL (gapsB fx bx) = openS bx := by
 unfold gapsB
 rw [gapsW_room, sumB_nil]; omega
theorem sameGaps_ev (l : List S54) (hl : l.length ≤ 1048576) : Ev (fun k => laws_sameGaps.f k l l) true := Ev.mk l.length (fun k hk => by
 unfold laws_sameGaps.f
 rw [if_pos rfl]
 have h := all_loop (L := fun k i => laws_sameGaps.l0 k l l i) (n := l.length) (P := fun _ => true) (fun k i hi => ?_) (fun k => ?_) l.length k 0 (by omega) hk
 ·have e : (List.range' 0 l.length).all (fun _ => true) = true := by simp
  rw [e] at h
  exact h
 ·simp only [laws_sameGaps.l0]
  rw [if_pos (by omega), if_pos (by omega), if_pos (by omega), if_neg (by simp), wsucc i (by omega)]
  simp only [if_true]
 ·simp only [laws_sameGaps.l0]
  rw [if_neg (by omega)])
def otherS : List S71 → Int
 | [] => 0
 | b :: l => (if opB b = true then 0 else b.f1) + otherS l
theorem other_open : ∀ (l : List S71), openS l + otherS l = sumB l
 | [] => rfl
 | b :: l => by
  have := other_open l
  rw [openS, otherS, sumB_cons]
  split <;> omega
theorem clearP_v {h : Int} {fx : List Int} {bx : List S71} (v : ColV h fx bx) : ColV h fx (clearP h fx bx) := by
 have e : gapsP h fx bx = gapsB fx bx := by unfold gapsP; rw [if_pos ((colP_iff _ _ _).mpr v)]
 unfold clearP
 rw [e]
 have go : ∀ (l : List S54) (b : List S71), (∀ g ∈ l, g ∈ gapsB fx bx) → gapsB fx b = gapsB fx bx → ColV h fx b → ColV h fx (clearL b l) := by
  intro l
  induction l with
  | nil => intro b _ _ hv; exact hv
  | cons g l ih =>
   intro b hl hg hv
   have hgm : g ∈ gapsB fx b := by rw [hg]; exact hl g (by simp)
   have hc := hv.clr.step g hgm
   obtain ⟨A, R, B, hr, e1, f1, _⟩ := gap_run fx b 0 h hv.til g hgm
   have ec : clear1 b g = A ++ [⟨g.f1, g.f2, 0, false⟩] ++ B := by unfold clear1; rw [newB_full, f1]
   have g1 : g.f1 = loR R := by rw [e1]
   have g2 : g.f2 = sumB R := by rw [e1]
   refine ih (clear1 b g) (fun x hx => hl x (by simp [hx])) (hc.1.gaps.trans hg) ?_
   rw [ec]
   refine hv.put hr ⟨g1, hc.2.1.2.1, ?_⟩ (by simp) ((parcs_mid (by simp)).mpr (RunAt.parcs hv hr))
   show loR R + g.f2 = _
   rw [g2]
 exact go _ bx (fun g hg => hg) rfl v
theorem clearP_gaps {h : Int} {fx : List Int} {bx : List S71} (v : ColV h fx bx) : gapsB fx (clearP h fx bx) = gapsB fx bx := by
 have e : gapsP h fx bx = gapsB fx bx := by unfold gapsP; rw [if_pos ((colP_iff _ _ _).mpr v)]
 unfold clearP
 rw [e]
 exact (clearL_clr _ bx (fun g hg => hg) v.clr).gaps
theorem gaps_law_loop (h : Int) (fx : List Int) (hf : fx.length ≤ 1048576) (bx : List S71) (v : ColV h fx bx) : ∀ (rest : List S71) (i : Nat) (n : Int), bx.drop i = rest → i ≤ bx.length → 0 ≤ n → n ≤ 24 * i → n + otherS rest = otherS bx →
  Ev (fun k => laws_FnGaps.l0 k (gapsB fx bx) n (i : Int) h fx bx h fx (clearP h fx bx)) true
 | [], i, n, hd, hi, h0, h1, hs => by
  have he := drop_end hd hi
  have hlen := v.len
  have hgl := gapsB_len fx bx
  have hgp := gapsB_pos fx bx 0 h v.til
  have hhi := v.hi
  have hr := gapsB_room fx bx
  have ho := other_open bx
  have ht := tile_sum _ _ _ v.til
  have hv := clearP_v v
  rw [otherS] at hs
  refine Ev.succ ?_
  simp only [laws_FnGaps.l0]
  refine Ev.neg (by omega) (Ev.bind (Ev.const rfl) (Ev.pos ((colP_iff _ _ _).mpr hv) ?_))
  refine Ev.bind (gaps_ev h fx hf _) ?_
  have e : gapsP h fx (clearP h fx bx) = gapsB fx bx := by
   unfold gapsP
   rw [if_pos ((colP_iff _ _ _).mpr hv)]
   exact clearP_gaps v
  rw [e]
  refine Ev.bind (sameGaps_ev _ (by omega)) (Ev.pos (by trivial) ?_)
  refine Ev.bind (room_ev _ (by omega) (fun g hg => by have := hgp g hg; omega)) ((Ev.ret _).to ?_)
  rw [wid _ (by omega) (by omega)]
  simp only [beq_iff_eq]
  omega
 | b :: rest, i, n, hd, hi, h0, h1, hs => by
  obtain ⟨h2, h3, h4⟩ := drop_step z71 hd
  have er : rd_T71 bx (i : Int) = b := h3
  have hb : b ∈ bx := by rw [← h3, getD_gen _ h2]; exact List.getElem_mem _
  have hlen := v.len
  have hm := v.mem hb
  have hpar := (parcs_top bx).mp v.par
  have hp0 := hpar.1 b hb
  rw [otherS] at hs
  refine Ev.succ ?_
  simp only [laws_FnGaps.l0, er]
  rw [wsucc i (by omega), wid (n + b.f1) (by omega) (by omega)]
  refine Ev.pos (by omega) (Ev.pos (by omega) ?_)
  by_cases c1 : b.f2 > 0
  ·have ho : opB b = false := by unfold opB; rw [decide_eq_false (by omega)]; rfl
   rw [ho] at hs
   exact Ev.pos c1 (gaps_law_loop h fx hf bx v rest (i + 1) _ h4 (by omega) (by omega) (by omega) (by simp at hs; omega))
  ·refine Ev.neg c1 ?_
   have hz : decide (b.f2 = 0) = true := decide_eq_true (by omega)
   cases c2 : b.f3 with
   | true =>
    have ho : opB b = false := by unfold opB; rw [hz, c2]; rfl
    rw [ho] at hs
    exact Ev.pos (by trivial) (gaps_law_loop h fx hf bx v rest (i + 1) _ h4 (by omega) (by omega) (by omega) (by simp at hs; omega))
   | false =>
    have ho : opB b = true := by unfold opB; rw [hz, c2]; rfl
    rw [ho] at hs
    exact Ev.neg (by simp) (gaps_law_loop h fx hf bx v rest (i + 1) _ h4 (by omega) (by omega) (by omega) (by simp at hs; omega))
theorem pureFnGaps : ∀ (l0 : List Int), ok67 l0 → ∃ k, laws_FnGaps.f k l0 = some true := by
 rintro l ⟨hl, _⟩
 unfold maxLen at hl
 refine Ev.get ?_
 unfold laws_FnGaps.f
 refine Ev.bind (Ev.const rfl) ?_
 by_cases c : (l.length : Int) > 1048576
 ·exact Ev.pos (decide_eq_true c) (Ev.ret _)
 ·refine Ev.neg (by simpa using c) ?_
  obtain ⟨y0, e0⟩ := new_draw l (by omega)
  obtain ⟨h, fx, bx, i1, y1, e1, hf, hb, _, _⟩ := anyColumn_draw l (by omega) 0 y0 (by omega)
  refine Ev.bind (a := (h, fx, bx)) (by unfold spec_DrawGapsOf.f; exact Ev.bind e0 (Ev.bind e1 (Ev.ret _))) ?_
  have hgl := gapsP_len h fx bx
  have hcl := clearP_len h fx bx (by omega)
  refine Ev.bind (gaps_ev h fx (by omega) bx) (Ev.bind (clear_ev h fx (by omega) bx (by omega)) (Ev.bind (gapsS_ev h fx (by omega) bx (by omega)) (Ev.bind (sameGaps_ev _ (by omega)) (Ev.pos (by trivial) ?_))))
  refine Ev.bind (clearS_ev h fx (by omega) bx (by omega)) (Ev.bind (sameColumn_ev h fx _ (by omega) (by omega)) ?_)
  refine Ev.succ ?_
  simp only [laws_FnGaps.j0]
  refine Ev.neg (by simp) (Ev.bind (Ev.const rfl) ?_)
  by_cases c : colP h fx bx = true
  ·have v := (colP_iff _ _ _).mp c
   have e : gapsP h fx bx = gapsB fx bx := by unfold gapsP; rw [if_pos c]
   refine Ev.pos c ?_
   rw [e]
   exact gaps_law_loop h fx (by omega) bx v bx 0 0 rfl (by omega) (by omega) (by omega) (by omega)
  ·have c2 : colP h fx bx = false := by simpa using c
   have e : gapsP h fx bx = [] := by unfold gapsP; rw [if_neg c]
   have e2 : clearP h fx bx = bx := by unfold clearP; rw [e]; rfl
   refine Ev.neg c ?_
   rw [e, e2]
   refine Ev.pos (by simp) (Ev.bind (sameColumn_ev h fx bx (by omega) (by omega)) (Ev.pos (by trivial) (Ev.bind (colok_ev h fx (by omega) bx (by omega)) ?_)))
   rw [c2]
   exact Ev.ret _
end Go.Proofs.Ytghfeapncmlihaa.A
