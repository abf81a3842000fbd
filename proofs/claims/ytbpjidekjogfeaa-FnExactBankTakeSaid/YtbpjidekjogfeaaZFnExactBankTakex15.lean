/- Used by the law FnExactBankTake. -/
import Derived.Test.YtbpjidekjogfeaaZFnExactBankTakex11
import Derived.Test.YtbpjidekjogfeaaZFnExactBankTakex14
import Derived.Test.YtbpjidekjogfeaaZFnExactBankTakeh
namespace Go.Proofs.Ytbpjidekjogfeaa.A
open Go.RowKit Go.Proofs.YtbpjidekjogfeaaW.PrintWords Go.Proofs.YtbpjidekjogfeaaW.PrintLast Go.Proofs.YtbpjidekjogfeaaW.PrintMore
attribute [local go_sem] max2_int min2_int max_two min_two max_three min_three max_four min_four   
set_option linter.unusedVariables false
set_option linter.unusedSimpArgs false
def Alike_ (u v : Value) : Prop := (∃ x y : Int, u = .int .i64 x ∧ v = .int .i64 y) ∨ ∃ x y : Bool, u = .bool x ∧ v = .bool y
structure SoftK_ {α : Type} (d : Kd α) (S : α → α → Prop) : Prop where
 val : ∀ {W : World} {base : Nat} {ok : Nat → Prop} {x : α} {cs : List Value} {g j : Nat} {u v : Value}, d.M W base ok x cs → W.cell? ⟨g, j, none⟩ = some u → Alike_ u v → ∃ x', S x x' ∧ d.M (W.setCell ⟨g, j, none⟩ v) base ok x' cs
 seg : ∀ {W : World} {base : Nat} {ok : Nat → Prop} {x : α} {cs : List Value} {j : Nat} {u v : Value}, d.M W base ok x cs → cs[j]? = some u → Alike_ u v → ∃ x', S x x' ∧ d.M W base ok x' (cs.set j v)
theorem soft_int_ : SoftK_ (Kd.int .i64) (fun _ _ => True) where
 val := fun h _ _ => ⟨_, trivial, h⟩
 seg := by
  rintro W base ok x cs j u v h hj ha
  have h' : cs = [.int .i64 x] := h
  subst h'
  cases j with
  | zero =>
   rcases ha with ⟨a, b, rfl, rfl⟩ | ⟨a, b, rfl, rfl⟩
   ·exact ⟨b, trivial, rfl⟩
   ·simp at hj
  | succ j => simp at hj
theorem soft_bool_ : SoftK_ Kd.bool (fun _ _ => True) where
 val := fun h _ _ => ⟨_, trivial, h⟩
 seg := by
  rintro W base ok x cs j u v h hj ha
  have h' : cs = [.bool x] := h
  subst h'
  cases j with
  | zero =>
   rcases ha with ⟨a, b, rfl, rfl⟩ | ⟨a, b, rfl, rfl⟩
   ·simp at hj
   ·exact ⟨b, trivial, rfl⟩
  | succ j => simp at hj
theorem soft_pair_ {α β : Type} {a : Kd α} {b : Kd β} {S : α → α → Prop} {T : β → β → Prop} (ra : ∀ x, S x x) (rb : ∀ x, T x x) (ha : SoftK_ a S) (hb : SoftK_ b T) : SoftK_ (Kd.pair a b) (fun x y => S x.1 y.1 ∧ T x.2 y.2) where
 val := by
  rintro W base ok x cs g j u v ⟨c0, c1, rfl, h0, h1⟩ hu hv
  obtain ⟨x0, s0, m0⟩ := ha.val h0 hu hv
  obtain ⟨x1, s1, m1⟩ := hb.val h1 hu hv
  exact ⟨(x0, x1), ⟨s0, s1⟩, c0, c1, rfl, m0, m1⟩
 seg := by
  rintro W base ok x cs j u v ⟨c0, c1, rfl, h0, h1⟩ hu hv
  by_cases hj : j < c0.length
  ·rw [List.getElem?_append_left hj] at hu
   obtain ⟨x0, s0, m0⟩ := ha.seg h0 hu hv
   exact ⟨(x0, x.2), ⟨s0, rb _⟩, c0.set j v, c1, by rw [List.set_append_left _ _ hj], m0, h1⟩
  ·rw [List.getElem?_append_right (by omega)] at hu
   obtain ⟨x1, s1, m1⟩ := hb.seg h1 hu hv
   exact ⟨(x.1, x1), ⟨ra _, s1⟩, c0, c1.set (j - c0.length) v, by rw [List.set_append_right _ _ (by omega)], h0, m1⟩
theorem soft_iso_ {α β : Type} {d : Kd α} {f : β → α} {g : α → β} (hfg : ∀ x, f (g x) = x) {S : α → α → Prop} (h : SoftK_ d S) : SoftK_ (Kd.iso d f) (fun x y => S (f x) (f y)) where
 val := by
  intro W base ok x cs b j u v hm hu hv
  obtain ⟨y, s, m⟩ := h.val (show d.M W base ok (f x) cs from hm) hu hv
  refine ⟨g y, ?_, ?_⟩
  ·show S (f x) (f (g y))
   rw [hfg]; exact s
  ·show d.M _ base ok (f (g y)) cs
   rw [hfg]; exact m
 seg := by
  intro W base ok x cs j u v hm hu hv
  obtain ⟨y, s, m⟩ := h.seg (show d.M W base ok (f x) cs from hm) hu hv
  refine ⟨g y, ?_, ?_⟩
  ·show S (f x) (f (g y))
   rw [hfg]; exact s
  ·show d.M _ base ok (f (g y)) _
   rw [hfg]; exact m
theorem exists_list_ {α : Type} (Q : Nat → α → Prop) : ∀ n, (∀ i, i < n → ∃ x, Q i x) → ∃ l : List α, l.length = n ∧ ∀ i x, l[i]? = some x → Q i x
 | 0, _ => ⟨[], rfl, fun i x h => by simp at h⟩
 | n + 1, h => by
  obtain ⟨l, h1, h2⟩ := exists_list_ Q n (fun i hi => h i (by omega))
  obtain ⟨x, hx⟩ := h n (by omega)
  refine ⟨l ++ [x], by rw [List.length_append, h1]; rfl, fun i y hy => ?_⟩
  by_cases hi : i < l.length
  ·rw [List.getElem?_append_left hi] at hy
   exact h2 i y hy
  ·rw [List.getElem?_append_right (by omega)] at hy
   have h0 : i - l.length = 0 := by
    have := (List.getElem?_eq_some_iff.mp hy).1
    rw [List.length_singleton] at this
    omega
   rw [h0] at hy
   have : x = y := by simpa using hy
   subst this
   rw [show i = n by omega]
   exact hx
def Rows_ {α : Type} (S : α → α → Prop) (xs ys : List α) : Prop := xs.length = ys.length ∧ ∀ (i : Nat) (x y : α), xs[i]? = some x → ys[i]? = some y → S x y
theorem Rows_.rfl_ {α : Type} {S : α → α → Prop} (h : ∀ x, S x x) (xs : List α) : Rows_ S xs xs := ⟨rfl, fun i x y h1 h2 => by rw [h1] at h2; cases h2; exact h x⟩
theorem Rows_.trans_ {α : Type} {S : α → α → Prop} (h : ∀ x y z, S x y → S y z → S x z) {xs ys zs : List α} (h1 : Rows_ S xs ys) (h2 : Rows_ S ys zs) : Rows_ S xs zs := by
 refine ⟨h1.1.trans h2.1, fun i x z e1 e2 => ?_⟩
 have hi : i < ys.length := by
  have := (List.getElem?_eq_some_iff.mp e1).1
  have := h1.1
  omega
 have e3 : ys[i]? = some ys[i] := List.getElem?_eq_getElem hi
 exact h _ _ _ (h1.2 i _ _ e1 e3) (h2.2 i _ _ e3 e2)
theorem soft_row_ {α : Type} {d : Kd α} {S : α → α → Prop} (hr : ∀ x, S x x) (ht : ∀ x y z, S x y → S y z → S x z) (h : SoftK_ d S) {e : Nat} {W : World} {base : Nat} {ok : Nat → Prop} {s : Value} {xs : List α} {g j : Nat} {u v : Value}
  (hR : d.R e W base ok s xs) (hu : W.cell? ⟨g, j, none⟩ = some u) (hv : Alike_ u v) : ∃ xs', Rows_ S xs xs' ∧ d.R e (W.setCell ⟨g, j, none⟩ v) base ok s xs' := by
 obtain ⟨h0, inner, ⟨hlen, ho⟩, hil, hreps⟩ := hR
 rcases ho with ⟨rfl, hn⟩ | ⟨b, cap, cur, rfl, hb, hheap, hcap, hmax, hsize, htake⟩
 ·have hxs : xs = [] := List.length_eq_zero_iff.mp hn
  subst hxs
  exact ⟨[], Rows_.rfl_ hr _, h0, inner, ⟨hlen, Or.inl ⟨rfl, rfl⟩⟩, hil, fun j p hp => by simp at hp⟩
 ·by_cases hg : g = b
  ·subst hg
   have hcu : cur[j]? = some u := by
    unfold World.cell? at hu
    rw [hheap] at hu
    exact hu
   have hheap2 : (W.setCell ⟨g, j, none⟩ v).heap[g]? = some (.cells (cur.setIfInBounds j v) e (0, 0)) := by
    unfold World.setCell
    simp [Array.getElem?_modify, hheap]
   have htake2 : (cur.setIfInBounds j v).toList.take (xs.length * d.sz) = inner.set j v := by
    rw [Array.toList_setIfInBounds, List.take_set, htake]
   obtain ⟨xs', hl', hq⟩ := exists_list_ (fun i x' => (∀ x, xs[i]? = some x → S x x') ∧ d.M (W.setCell ⟨g, j, none⟩ v) base (fun k => ok k ∧ some k ≠ (Value.slice (some ⟨g, 0, none⟩) xs.length cap).ownBlock) x' (((inner.set j v).drop (i * d.sz)).take d.sz)) xs.length (fun i hi => by
    have hx := List.getElem?_eq_getElem hi
    obtain ⟨x1, s1, m1⟩ := h.val (hreps i _ hx) hu hv
    by_cases hin : i * d.sz ≤ j ∧ j < i * d.sz + d.sz
    ·have hseg : ((inner.drop (i * d.sz)).take d.sz)[j - i * d.sz]? = some u := by
      rw [List.getElem?_take_of_lt (by omega), List.getElem?_drop, show i * d.sz + (j - i * d.sz) = j by omega, ← htake]
      have hjl : j < xs.length * d.sz := by
       have : i * d.sz + d.sz ≤ xs.length * d.sz := by rw [← Nat.succ_mul]; exact Nat.mul_le_mul_right _ hi
       omega
      rw [List.getElem?_take_of_lt hjl, Array.getElem?_toList]
      exact hcu
     obtain ⟨x2, s2, m2⟩ := h.seg m1 hseg hv
     refine ⟨x2, fun x hx' => ?_, ?_⟩
     ·rw [hx] at hx'; cases hx'; exact ht _ _ _ s1 s2
     ·rw [List.drop_set, if_neg (by omega), List.take_set]
      exact m2
    ·refine ⟨x1, fun x hx' => by rw [hx] at hx'; cases hx'; exact s1, ?_⟩
     rw [List.drop_set]
     by_cases hlt : j < i * d.sz
     ·rw [if_pos hlt]; exact m1
     ·rw [if_neg hlt, List.take_set, List.set_eq_of_length_le (by rw [List.length_take]; omega)]
      exact m1)
   refine ⟨xs', ⟨hl'.symm, fun i x y e1 e2 => (hq i y e2).1 x e1⟩, fun k hk => h0 k hk, inner.set j v, ⟨by rw [List.length_set, hlen, hl'], Or.inr ⟨g, cap, cur.setIfInBounds j v, by rw [hl'], hb, hheap2, by omega, hmax, by rw [Array.size_setIfInBounds]; exact hsize, by rw [hl']; exact htake2⟩⟩, by rw [List.length_set, hil, hl'], fun i p hp => ?_⟩
   exact (hq i p hp).2
  ·have hheap2 : (W.setCell ⟨g, j, none⟩ v).heap[b]? = some (.cells cur e (0, 0)) := (Below.heap_setCell W ⟨g, j, none⟩ v b (fun e_ => hg e_.symm)).trans hheap
   obtain ⟨xs', hl', hq⟩ := exists_list_ (fun i x' => (∀ x, xs[i]? = some x → S x x') ∧ d.M (W.setCell ⟨g, j, none⟩ v) base (fun k => ok k ∧ some k ≠ (Value.slice (some ⟨b, 0, none⟩) xs.length cap).ownBlock) x' ((inner.drop (i * d.sz)).take d.sz)) xs.length (fun i hi => by
    have hx := List.getElem?_eq_getElem hi
    obtain ⟨x1, s1, m1⟩ := h.val (hreps i _ hx) hu hv
    exact ⟨x1, fun x hx' => by rw [hx] at hx'; cases hx'; exact s1, m1⟩)
   refine ⟨xs', ⟨hl'.symm, fun i x y e1 e2 => (hq i y e2).1 x e1⟩, fun k hk => h0 k hk, inner, ⟨by rw [hlen, hl'], Or.inr ⟨b, cap, cur, by rw [hl'], hb, hheap2, by omega, hmax, hsize, by rw [hl']; exact htake⟩⟩, by rw [hil, hl'], fun i p hp => (hq i p hp).2⟩
theorem soft_slice_ {α : Type} {d : Kd α} {S : α → α → Prop} (hr : ∀ x, S x x) (ht : ∀ x y z, S x y → S y z → S x z) (h : SoftK_ d S) (e : Nat) : SoftK_ (Kd.slice e d) (fun xs ys => xs.length = ys.length) where
 val := by
  rintro W base ok x cs g j u v ⟨s, rfl, hR⟩ hu hv
  obtain ⟨xs', h1, h2⟩ := soft_row_ hr ht h hR hu hv
  exact ⟨xs', h1.1, s, rfl, h2⟩
 seg := by
  rintro W base ok x cs j u v ⟨s, rfl, hR⟩ hu hv
  cases j with
  | zero =>
   exfalso
   have e1 : s = u := by simpa using hu
   subst e1
   obtain ⟨_, inner, ⟨_, ho⟩, _⟩ := hR
   rcases ho with ⟨e2, _⟩ | ⟨b, cap, cur, e2, _⟩
   ·rw [e2] at hv
    rcases hv with ⟨a, b, h1, _⟩ | ⟨a, b, h1, _⟩ <;> cases h1
   ·rw [e2] at hv
    rcases hv with ⟨a, b, h1, _⟩ | ⟨a, b, h1, _⟩ <;> cases h1
  | succ j => simp at hu
set_option maxHeartbeats 8000000 in
set_option maxRecDepth 100000 in
theorem laws_markIntS.callsJ (J : World → Prop) (hJ : ∀ (W : World) (g j : Nat) (u v : Value), J W → W.cell? ⟨g, j, none⟩ = some u → Alike_ u v → J (W.setCell ⟨g, j, none⟩ v)) (k : Nat) (P0_ : Nat → Prop) (u9000_ : Value) (l0 : List Int) (a1 : Int) (r1 : Int) (r2 : List Int) (w0 w : World) (hB : Below w0.heap.size w0 w) (ho0 : Kd.R (Kd.int .i64) 3 w w0.heap.size P0_ u9000_ l0) (hJ0 : J w) (h : laws_markIntS.f k l0 a1 = some (r1, r2)) :
  Calls Try.prog 54 #[u9000_, .int .i64 a1] w fun e w' => e = .returned (.int .i64 r1) ∧ Kd.R (Kd.int .i64) 3 w' w0.heap.size (fun k_ => (P0_ k_ ∨ w.heap.size ≤ k_)) u9000_ r2 ∧ Below w0.heap.size w0 w' ∧ Kept w w' (fun k_ => P0_ k_) ∧ J w' := by
 have HO0 := Aside0.mk (show Kd.R (Kd.int .i64) 3 w w0.heap.size (fun k_ => (P0_ k_ ∨ w.heap.size ≤ k_)) u9000_ l0 from Kd.R_mono ho0 (fun k_ hk => (.inl hk)))
 have HK := Aside0.mk (Kept.refl w (fun k_ => P0_ k_))
 have HW0 := Aside0.mk hB.size
 have HB := Aside0.mk hB
 clear hB
 have H : (laws_markIntS.l0 k l0 a1 0) = some (r1, r2) := h
 clear h
 have H' := Aside0.mk H
 clear H
 go_enter Try.func54, Try.ntmps54
 go_wp2
 go_loopg [1, 5] k (fun kq v1 v5 w' => ∃ (x0_1 : List Int) (x1_1 : Int) (x5_1 : Int), v1 = .int .i64 x1_1 ∧ v5 = .int .i64 x5_1 ∧ Aside0 (laws_markIntS.l0 kq x0_1 x1_1 x5_1 = some (r1, r2)) ∧ Aside0 (kq ≤ k) ∧ Aside0 (Kd.R (Kd.int .i64) 3 w' w0.heap.size (fun k_ => (P0_ k_ ∨ w.heap.size ≤ k_)) u9000_ x0_1) ∧ Aside0 (Kept w w' (fun k_ => P0_ k_)) ∧ Aside0 (Below w0.heap.size w0 w') ∧ Aside0 (J w'))
 case atStart => exact ⟨(l0), (a1), (0), (by first | rfl | (simp; done) | (simp [*]; done)), (by first | rfl | (simp; done) | (simp [*]; done)), H', ⟨Nat.le_refl _⟩, ⟨rk HO0.out⟩, ⟨by repeat (first | (with_reducible first | exact HK.out | apply Kept.alloc | apply Kept.drewN | apply Kept.drew) | exact HK.out)⟩, ⟨bl HB.out⟩, ⟨hJ0⟩⟩
 case round =>
  clear H'
  try clear p2
  obtain ⟨x0_1, x1_1, x5_1, rfl, rfl, HA, HK1, HO_0, HK, HB, HJ⟩ := hrel
  cases gk with
  | zero => exact absurd HA.out (by simp [laws_markIntS.l0])
  | succ k1 =>
   have H := HA.out
   clear HA
   simp only [laws_markIntS.l0] at H
   by_cases c3 : x5_1 < (x0_1.length : Int)
   ·rw [if_pos c3] at H
    have c3b0 : decide (x5_1 < (x0_1.length : Int)) = true := decide_eq_true c3
    clear c3
    by_cases c4 : 0 ≤ x5_1
    ·rw [if_pos c4] at H
     have c4b0 : decide (0 ≤ x5_1) = true := decide_eq_true c4
     clear c4
     obtain ⟨y256, hy256⟩ : ∃ y_ : List Int, y_ = (x0_1.set (x5_1 : Int).toNat x1_1) := ⟨_, rfl⟩
     replace H : (laws_markIntS.l0 k1 y256 (wrap64 (x1_1 + 1)) (wrap64 (x5_1 + 1))) = some (r1, r2) := by first | (rw [hy256]; with_reducible exact H) | (have H2_ := (Option.bind_some _ _).symm.trans H; rw [hy256]; with_reducible exact H2_) | (have H2_ := (Option.bind_some _ _).symm.trans H; with_reducible exact H2_) | with_reducible exact H | (rw [hy256]; exact H) | exact H
     have Ny256 := Aside0.mk hy256
     clear hy256
     have H' := Aside0.mk H
     clear H
     obtain ⟨Ao6, co6, eo6⟩ := Kd.R_slice HO_0.out
     subst eo6
     have p5 : 0 ≤ (x5_1 : Int) := of_decide_eq_true asm
     have q5 : (x5_1 : Int) < ((x0_1.length : Int) : Int) := of_decide_eq_true asm
     obtain ⟨go5, co5, eo5, gb5, gl5, cl5, HG5⟩ := Kd.R_form HO_0.out (by omega)
     (first | cases eo5 | (injection eo5 with ea_ en_ ec_; (first | subst ea_ | (injection ea_ with ea_; subst ea_)); subst ec_; clear en_))
     have GB5 := Aside0.mk gb5
     have GG5 := Aside0.mk HG5
     clear gb5 gl5 HG5
     have HMgo5 := Aside0.mk (show (P0_ go5 ∨ w.heap.size ≤ go5) from (HO_0.out.1 _ rfl))
     obtain ⟨hx5_0, hf5_0⟩ := Kd.R_celln 0 HO_0.out (x5_1 : Int) p5 q5
     replace p5 := eq_true p5
     replace q5 := eq_true q5
     have HP7 := Kd.R_putg HO_0.out (x5_1 : Int) x1_1
     go_wp2_with (first | ((with_reducible refine gate_store (t := 3) (p := 15) rfl ?_); refine store_event (t := 3) (p := 15) (v := ?vo_w8) (w1 := (wr.setCell ⟨go5, (x5_1 : Int).toNat, none⟩ (.int .i64 x1_1))) ?hg ?ho ?hn ?hr ?_; (case ho => rfl); (case hg => rfl); (case hn => rfl); (case hr => first | (go_simp; done) | (go_simp; rfl)); intro w8 hw; have nJ_ := Aside0.mk (by rw [hw]; exact hJ _ _ _ _ _ HJ.out (by assumption) (by first | exact Or.inl ⟨_, _, rfl, rfl⟩ | exact Or.inr ⟨_, _, rfl, rfl⟩) : J w8); have hg : wr.grownBy w8 (some go5) := (by rw [hw]; exact HP7.2); have hp_ : Kd.R (Kd.int .i64) 3 w8 w0.heap.size (fun k_ => (P0_ k_ ∨ w.heap.size ≤ k_)) (.slice (some ⟨go5, 0, none⟩) x0_1.length co6) y256 := (by rw [hw, Ny256.out]; exact HP7.1); clear HP7; replace HB := Aside0.mk ((by rw [hw]; exact below_set (HB.out) GB5.out : Below w0.heap.size w0 w8)); replace HK := Aside0.mk (Kept.of_grown (S := (fun k_ => P0_ k_)) hg (by repeat (first | (with_reducible first | exact HK.out | apply Kept.alloc | apply Kept.drewN | apply Kept.drew) | exact HK.out)) (fun k_ e_ => (HO_0.out.1 k_ e_))); replace HO_0 := Aside0.mk (hp_); clear HJ; have HJ := nJ_; clear nJ_; clear hg hw hp_))
     go_roundg k1
     case measure => have := HK1.out; omega
     case rel => exact ⟨(y256), (wrap64 (x1_1 + 1)), (wrap64 (x5_1 + 1)), (by first | rfl | (simp; done) | (simp [*]; done)), (by first | rfl | (simp; done) | (simp [*]; done)), H', ⟨by have := HK1.out; omega⟩, ⟨rk HO_0.out⟩, ⟨by repeat (first | (with_reducible first | exact HK.out | apply Kept.alloc | apply Kept.drewN | apply Kept.drew) | exact HK.out)⟩, ⟨bl HB.out⟩, HJ⟩
    ·rw [if_neg c4] at H
     exact absurd H (by simp)
   ·rw [if_neg c3] at H
    have c3b0 : decide (x5_1 < (x0_1.length : Int)) = false := decide_eq_false c3
    clear c3
    simp only [Option.some.injEq, Prod.mk.injEq] at H
    obtain ⟨rfl, rfl⟩ := H
    obtain ⟨Ao9, co9, eo9⟩ := Kd.R_slice HO_0.out
    subst eo9
    go_wp2
    go_ret
    exact ⟨by first | rfl | (simp [errW_none, errW_some] <;> rfl) | (simp [*, errW_none, errW_some] <;> rfl), rk HO_0.out, bl HB.out, by repeat (first | (with_reducible first | exact HK.out | apply Kept.alloc | apply Kept.drewN | apply Kept.drew) | exact HK.out), HJ.out⟩
set_option maxHeartbeats 8000000 in
set_option maxRecDepth 100000 in
theorem laws_markBoxS.callsJ (J : World → Prop) (hJ : ∀ (W : World) (g j : Nat) (u v : Value), J W → W.cell? ⟨g, j, none⟩ = some u → Alike_ u v → J (W.setCell ⟨g, j, none⟩ v)) (k : Nat) (P0_ : Nat → Prop) (u9000_ : Value) (l0 : List (S98)) (a1 : Int) (r1 : Int) (r2 : List (S98)) (w0 w : World) (hB : Below w0.heap.size w0 w) (ho0 : Kd.R k98 98 w w0.heap.size P0_ u9000_ l0) (hJ0 : J w) (h : laws_markBoxS.f k l0 a1 = some (r1, r2)) :
  Calls Try.prog 68 #[u9000_, .int .i64 a1] w fun e w' => e = .returned (.int .i64 r1) ∧ Kd.R k98 98 w' w0.heap.size (fun k_ => (P0_ k_ ∨ w.heap.size ≤ k_)) u9000_ r2 ∧ Below w0.heap.size w0 w' ∧ Kept w w' (fun k_ => P0_ k_) ∧ J w' := by
 have HO0 := Aside0.mk (show Kd.R k98 98 w w0.heap.size (fun k_ => (P0_ k_ ∨ w.heap.size ≤ k_)) u9000_ l0 from Kd.R_mono ho0 (fun k_ hk => (.inl hk)))
 have HK := Aside0.mk (Kept.refl w (fun k_ => P0_ k_))
 have HW0 := Aside0.mk hB.size
 have HB := Aside0.mk hB
 clear hB
 have H : (laws_markBoxS.l0 k l0 a1 0) = some (r1, r2) := h
 clear h
 have H' := Aside0.mk H
 clear H
 go_enter Try.func68, Try.ntmps68
 go_wp2
 go_loopg [1, 5] k (fun kq v1 v5 w' => ∃ (x0_1 : List (S98)) (x1_1 : Int) (x5_1 : Int), v1 = .int .i64 x1_1 ∧ v5 = .int .i64 x5_1 ∧ Aside0 (laws_markBoxS.l0 kq x0_1 x1_1 x5_1 = some (r1, r2)) ∧ Aside0 (kq ≤ k) ∧ Aside0 (Kd.R k98 98 w' w0.heap.size (fun k_ => (P0_ k_ ∨ w.heap.size ≤ k_)) u9000_ x0_1) ∧ Aside0 (Kept w w' (fun k_ => P0_ k_)) ∧ Aside0 (Below w0.heap.size w0 w') ∧ Aside0 (J w'))
 case atStart => exact ⟨(l0), (a1), (0), (by first | rfl | (simp; done) | (simp [*]; done)), (by first | rfl | (simp; done) | (simp [*]; done)), H', ⟨Nat.le_refl _⟩, ⟨rk HO0.out⟩, ⟨by repeat (first | (with_reducible first | exact HK.out | apply Kept.alloc | apply Kept.drewN | apply Kept.drew) | exact HK.out)⟩, ⟨bl HB.out⟩, ⟨hJ0⟩⟩
 case round =>
  clear H'
  try clear p2
  obtain ⟨x0_1, x1_1, x5_1, rfl, rfl, HA, HK1, HO_0, HK, HB, HJ⟩ := hrel
  cases gk with
  | zero => exact absurd HA.out (by simp [laws_markBoxS.l0])
  | succ k1 =>
   have H := HA.out
   clear HA
   simp only [laws_markBoxS.l0] at H
   by_cases c3 : x5_1 < (x0_1.length : Int)
   ·rw [if_pos c3] at H
    have c3b0 : decide (x5_1 < (x0_1.length : Int)) = true := decide_eq_true c3
    clear c3
    by_cases c4 : 0 ≤ x5_1
    ·rw [if_pos c4] at H
     have c4b0 : decide (0 ≤ x5_1) = true := decide_eq_true c4
     clear c4
     obtain ⟨y257, hy257⟩ : ∃ y_ : List (S98), y_ = (x0_1.set (x5_1 : Int).toNat (⟨x1_1, (rd_T98 x0_1 x5_1).f1, (rd_T98 x0_1 x5_1).f2, (rd_T98 x0_1 x5_1).f3⟩ : S98)) := ⟨_, rfl⟩
     replace H : ((some (y257.set (x5_1 : Int).toNat (⟨(rd_T98 y257 x5_1).f0, wrap64 (x1_1 + 1), (rd_T98 y257 x5_1).f2, (rd_T98 y257 x5_1).f3⟩ : S98) : List (S98))).bind fun y258 => ((some (y258.set (x5_1 : Int).toNat (⟨(rd_T98 y258 x5_1).f0, (rd_T98 y258 x5_1).f1, wrap64 ((wrap64 (x1_1 + 1)) + 1), (rd_T98 y258 x5_1).f3⟩ : S98) : List (S98))).bind fun y259 => (laws_markBoxS.l0 k1 (y259.set (x5_1 : Int).toNat (⟨(rd_T98 y259 x5_1).f0, (rd_T98 y259 x5_1).f1, (rd_T98 y259 x5_1).f2, ((Int.tmod (wrap64 ((wrap64 ((wrap64 (x1_1 + 1)) + 1)) + 1)) 3) == 0)⟩ : S98)) (wrap64 ((wrap64 ((wrap64 ((wrap64 (x1_1 + 1)) + 1)) + 1)) + 1)) (wrap64 (x5_1 + 1))))) = some (r1, r2) := by first | (rw [hy257]; with_reducible exact H) | (have H2_ := (Option.bind_some _ _).symm.trans H; rw [hy257]; with_reducible exact H2_) | (have H2_ := (Option.bind_some _ _).symm.trans H; with_reducible exact H2_) | with_reducible exact H | (rw [hy257]; exact H) | exact H
     have Ny257 := Aside0.mk hy257
     clear hy257
     obtain ⟨y258, hy258⟩ : ∃ y_ : List (S98), y_ = (y257.set (x5_1 : Int).toNat (⟨(rd_T98 y257 x5_1).f0, wrap64 (x1_1 + 1), (rd_T98 y257 x5_1).f2, (rd_T98 y257 x5_1).f3⟩ : S98)) := ⟨_, rfl⟩
     replace H : ((some (y258.set (x5_1 : Int).toNat (⟨(rd_T98 y258 x5_1).f0, (rd_T98 y258 x5_1).f1, wrap64 ((wrap64 (x1_1 + 1)) + 1), (rd_T98 y258 x5_1).f3⟩ : S98) : List (S98))).bind fun y259 => (laws_markBoxS.l0 k1 (y259.set (x5_1 : Int).toNat (⟨(rd_T98 y259 x5_1).f0, (rd_T98 y259 x5_1).f1, (rd_T98 y259 x5_1).f2, ((Int.tmod (wrap64 ((wrap64 ((wrap64 (x1_1 + 1)) + 1)) + 1)) 3) == 0)⟩ : S98)) (wrap64 ((wrap64 ((wrap64 ((wrap64 (x1_1 + 1)) + 1)) + 1)) + 1)) (wrap64 (x5_1 + 1)))) = some (r1, r2) := by first | (rw [hy258]; with_reducible exact H) | (have H2_ := (Option.bind_some _ _).symm.trans H; rw [hy258]; with_reducible exact H2_) | (have H2_ := (Option.bind_some _ _).symm.trans H; with_reducible exact H2_) | with_reducible exact H | (rw [hy258]; exact H) | exact H
     have Ny258 := Aside0.mk hy258
     clear hy258
     obtain ⟨y259, hy259⟩ : ∃ y_ : List (S98), y_ = (y258.set (x5_1 : Int).toNat (⟨(rd_T98 y258 x5_1).f0, (rd_T98 y258 x5_1).f1, wrap64 ((wrap64 (x1_1 + 1)) + 1), (rd_T98 y258 x5_1).f3⟩ : S98)) := ⟨_, rfl⟩
     replace H : (laws_markBoxS.l0 k1 (y259.set (x5_1 : Int).toNat (⟨(rd_T98 y259 x5_1).f0, (rd_T98 y259 x5_1).f1, (rd_T98 y259 x5_1).f2, ((Int.tmod (wrap64 ((wrap64 ((wrap64 (x1_1 + 1)) + 1)) + 1)) 3) == 0)⟩ : S98)) (wrap64 ((wrap64 ((wrap64 ((wrap64 (x1_1 + 1)) + 1)) + 1)) + 1)) (wrap64 (x5_1 + 1))) = some (r1, r2) := by first | (rw [hy259]; with_reducible exact H) | (have H2_ := (Option.bind_some _ _).symm.trans H; rw [hy259]; with_reducible exact H2_) | (have H2_ := (Option.bind_some _ _).symm.trans H; with_reducible exact H2_) | with_reducible exact H | (rw [hy259]; exact H) | exact H
     have Ny259 := Aside0.mk hy259
     clear hy259
     obtain ⟨y260, hy260⟩ : ∃ y_ : List (S98), y_ = (y259.set (x5_1 : Int).toNat (⟨(rd_T98 y259 x5_1).f0, (rd_T98 y259 x5_1).f1, (rd_T98 y259 x5_1).f2, ((Int.tmod (wrap64 ((wrap64 ((wrap64 (x1_1 + 1)) + 1)) + 1)) 3) == 0)⟩ : S98)) := ⟨_, rfl⟩
     replace H : (laws_markBoxS.l0 k1 y260 (wrap64 ((wrap64 ((wrap64 ((wrap64 (x1_1 + 1)) + 1)) + 1)) + 1)) (wrap64 (x5_1 + 1))) = some (r1, r2) := by first | (rw [hy260]; with_reducible exact H) | (have H2_ := (Option.bind_some _ _).symm.trans H; rw [hy260]; with_reducible exact H2_) | (have H2_ := (Option.bind_some _ _).symm.trans H; with_reducible exact H2_) | with_reducible exact H | (rw [hy260]; exact H) | exact H
     have Ny260 := Aside0.mk hy260
     clear hy260
     have H' := Aside0.mk H
     clear H
     obtain ⟨Ao9, co9, eo9⟩ := Kd.R_slice HO_0.out
     subst eo9
     have p5 : 0 ≤ (x5_1 : Int) := of_decide_eq_true asm
     have q5 : (x5_1 : Int) < ((x0_1.length : Int) : Int) := of_decide_eq_true asm
     obtain ⟨go5, co5, eo5, gb5, gl5, cl5, HG5⟩ := Kd.R_form HO_0.out (by omega)
     (first | cases eo5 | (injection eo5 with ea_ en_ ec_; (first | subst ea_ | (injection ea_ with ea_; subst ea_)); subst ec_; clear en_))
     have GB5 := Aside0.mk gb5
     have GG5 := Aside0.mk HG5
     clear gb5 gl5 HG5
     have HMgo5 := Aside0.mk (show (P0_ go5 ∨ w.heap.size ≤ go5) from (HO_0.out.1 _ rfl))
     obtain ⟨ce5, hcl5, hM5, hcc5, hfr5⟩ := Kd.R_elem HO_0.out z98 (x5_1 : Int) p5 q5
     obtain rfl := k98_openM hM5
     have hx5_0 : wr.cell? ⟨go5, (x5_1 : Int).toNat * 4, none⟩ = some (.int .i64 ((rd_T98 x0_1 x5_1).f0)) := hcc5 0 _ rfl
     have hx5_1 : wr.cell? ⟨go5, (x5_1 : Int).toNat * 4 + 1, none⟩ = some (.int .i64 ((rd_T98 x0_1 x5_1).f1)) := hcc5 1 _ rfl
     have hx5_2 : wr.cell? ⟨go5, (x5_1 : Int).toNat * 4 + 2, none⟩ = some (.int .i64 ((rd_T98 x0_1 x5_1).f2)) := hcc5 2 _ rfl
     have hx5_3 : wr.cell? ⟨go5, (x5_1 : Int).toNat * 4 + 3, none⟩ = some (.bool ((rd_T98 x0_1 x5_1).f3)) := hcc5 3 _ rfl
     have hf5_0 : wr.frozen? ⟨go5, (x5_1 : Int).toNat * 4, none⟩ = false := hfr5 0
     have hf5_1 : wr.frozen? ⟨go5, (x5_1 : Int).toNat * 4 + 1, none⟩ = false := hfr5 1
     have hf5_2 : wr.frozen? ⟨go5, (x5_1 : Int).toNat * 4 + 2, none⟩ = false := hfr5 2
     have hf5_3 : wr.frozen? ⟨go5, (x5_1 : Int).toNat * 4 + 3, none⟩ = false := hfr5 3
     clear hcl5 hcc5 hfr5 hM5
     replace p5 := eq_true p5
     replace q5 := eq_true q5
     have HX10 := Aside0.mk (show Kd.R k98 98 wr w0.heap.size (fun k_ => (P0_ k_ ∨ w.heap.size ≤ k_)) (.slice (some ⟨go5, 0, none⟩) x0_1.length co9) x0_1 from (rk HO_0.out))
     obtain ⟨ce10, hcl10, hM10, hcc10, hfr10⟩ := Kd.R_elem HX10.out z98 (x5_1 : Int) (of_decide_eq_true asm) (by have h_ : (x5_1 : Int) < ((x0_1.length : Int) : Int) := of_decide_eq_true asm; first | exact h_ | (have e_ := (Kd.R_reads' HO_0.out).1; omega) | simpa using h_)
     obtain rfl := k98_openM hM10
     have HP10 := Kd.R_seg HX10.out (x5_1 : Int) (of_decide_eq_true asm) (by have h_ : (x5_1 : Int) < ((x0_1.length : Int) : Int) := of_decide_eq_true asm; first | exact h_ | (have e_ := (Kd.R_reads' HO_0.out).1; omega) | simpa using h_) (seg := [.int .i64 x1_1]) (j := 0) hcl10 hcc10 (show 1 ≤ 4 from by decide) (x' := (⟨x1_1, (rd_T98 x0_1 x5_1).f1, (rd_T98 x0_1 x5_1).f2, (rd_T98 x0_1 x5_1).f3⟩ : S98)) (k98_mkM _ _ _ (⟨x1_1, (rd_T98 x0_1 x5_1).f1, (rd_T98 x0_1 x5_1).f2, (rd_T98 x0_1 x5_1).f3⟩ : S98) ) (fun _ hk => hk)
     have hx10_0 := hcc10 0 _ rfl
     (try simp only [show (k98).sz = 4 from rfl, Nat.mul_one, Nat.add_zero] at hx10_0)
     have hf10_0 := hfr10 0
     (try simp only [show (k98).sz = 4 from rfl, Nat.mul_one, Nat.add_zero] at hf10_0)
     clear hcl10 hcc10 hfr10 hM10
     go_wp2_with (first | ((with_reducible refine gate_store (t := 3) (p := 16) rfl ?_); refine store_event (t := 3) (p := 16) (v := ?vo_w11) (w1 := (wr.setCell ⟨go5, (x5_1 : Int).toNat * 4, none⟩ (.int .i64 x1_1))) ?hg ?ho ?hn ?hr ?_; (case ho => rfl); (case hg => rfl); (case hn => rfl); (case hr => first | (go_simp; done) | (go_simp; rfl)); intro w11 hw; have nJ_ := Aside0.mk (by rw [hw]; exact hJ _ _ _ _ _ HJ.out (by assumption) (by first | exact Or.inl ⟨_, _, rfl, rfl⟩ | exact Or.inr ⟨_, _, rfl, rfl⟩) : J w11); have hg : wr.grownBy w11 (some go5) := (by rw [hw]; exact HP10.2); have hp_ : Kd.R k98 98 w11 w0.heap.size (fun k_ => (P0_ k_ ∨ w.heap.size ≤ k_)) (.slice (some ⟨go5, 0, none⟩) x0_1.length co9) y257 := (by rw [hw, Ny257.out]; exact HP10.1); clear HP10; replace HB := Aside0.mk ((by rw [hw]; exact below_set (HB.out) GB5.out : Below w0.heap.size w0 w11)); replace HK := Aside0.mk (Kept.of_grown (S := (fun k_ => P0_ k_)) hg (by repeat (first | (with_reducible first | exact HK.out | apply Kept.alloc | apply Kept.drewN | apply Kept.drew) | exact HK.out)) (fun k_ e_ => (HO_0.out.1 k_ e_))); replace HO_0 := Aside0.mk (hp_); clear HJ; have HJ := nJ_; clear nJ_; clear hg hw hp_; have p6 : 0 ≤ (x5_1 : Int) := of_decide_eq_true asm; have q6 : (x5_1 : Int) < ((x0_1.length : Int) : Int) := of_decide_eq_true asm; obtain ⟨ce6, hcl6, hM6, hcc6, hfr6⟩ := Kd.R_elem HO_0.out z98 (x5_1 : Int) p6 q6; obtain rfl := k98_openM hM6; have hx6_0 : w11.cell? ⟨go5, (x5_1 : Int).toNat * 4, none⟩ = some (.int .i64 ((rd_T98 y257 x5_1).f0)) := hcc6 0 _ rfl; have hx6_1 : w11.cell? ⟨go5, (x5_1 : Int).toNat * 4 + 1, none⟩ = some (.int .i64 ((rd_T98 y257 x5_1).f1)) := hcc6 1 _ rfl; have hx6_2 : w11.cell? ⟨go5, (x5_1 : Int).toNat * 4 + 2, none⟩ = some (.int .i64 ((rd_T98 y257 x5_1).f2)) := hcc6 2 _ rfl; have hx6_3 : w11.cell? ⟨go5, (x5_1 : Int).toNat * 4 + 3, none⟩ = some (.bool ((rd_T98 y257 x5_1).f3)) := hcc6 3 _ rfl; have hf6_0 : w11.frozen? ⟨go5, (x5_1 : Int).toNat * 4, none⟩ = false := hfr6 0; have hf6_1 : w11.frozen? ⟨go5, (x5_1 : Int).toNat * 4 + 1, none⟩ = false := hfr6 1; have hf6_2 : w11.frozen? ⟨go5, (x5_1 : Int).toNat * 4 + 2, none⟩ = false := hfr6 2; have hf6_3 : w11.frozen? ⟨go5, (x5_1 : Int).toNat * 4 + 3, none⟩ = false := hfr6 3; clear hcl6 hcc6 hfr6 hM6; replace p6 := eq_true p6; replace q6 := eq_true q6; have HX12 := Aside0.mk (show Kd.R k98 98 w11 w0.heap.size (fun k_ => (P0_ k_ ∨ w.heap.size ≤ k_)) (.slice (some ⟨go5, 0, none⟩) x0_1.length co9) y257 from (rk HO_0.out)); obtain ⟨ce12, hcl12, hM12, hcc12, hfr12⟩ := Kd.R_elem HX12.out z98 (x5_1 : Int) (of_decide_eq_true asm) (by have h_ : (x5_1 : Int) < ((x0_1.length : Int) : Int) := of_decide_eq_true asm; first | exact h_ | (have e_ := (Kd.R_reads' HO_0.out).1; omega) | simpa using h_); obtain rfl := k98_openM hM12; have HP12 := Kd.R_seg HX12.out (x5_1 : Int) (of_decide_eq_true asm) (by have h_ : (x5_1 : Int) < ((x0_1.length : Int) : Int) := of_decide_eq_true asm; first | exact h_ | (have e_ := (Kd.R_reads' HO_0.out).1; omega) | simpa using h_) (seg := [.int .i64 (wrap64 (x1_1 + 1))]) (j := 1) hcl12 hcc12 (show 2 ≤ 4 from by decide) (x' := (⟨(rd_T98 y257 x5_1).f0, wrap64 (x1_1 + 1), (rd_T98 y257 x5_1).f2, (rd_T98 y257 x5_1).f3⟩ : S98)) (k98_mkM _ _ _ (⟨(rd_T98 y257 x5_1).f0, wrap64 (x1_1 + 1), (rd_T98 y257 x5_1).f2, (rd_T98 y257 x5_1).f3⟩ : S98) ) (fun _ hk => hk); have hx12_1 := hcc12 1 _ rfl; (try simp only [show (k98).sz = 4 from rfl, Nat.mul_one, Nat.add_zero] at hx12_1); have hf12_1 := hfr12 1; (try simp only [show (k98).sz = 4 from rfl, Nat.mul_one, Nat.add_zero] at hf12_1); clear hcl12 hcc12 hfr12 hM12) | ((with_reducible refine gate_store (t := 3) (p := 23) rfl ?_); refine store_event (t := 3) (p := 23) (v := ?vo_w13) (w1 := (w11.setCell ⟨go5, (x5_1 : Int).toNat * 4 + 1, none⟩ (.int .i64 (wrap64 (x1_1 + 1))))) ?hg ?ho ?hn ?hr ?_; (case ho => rfl); (case hg => rfl); (case hn => rfl); (case hr => first | (go_simp; done) | (go_simp; rfl)); intro w13 hw; have nJ_ := Aside0.mk (by rw [hw]; exact hJ _ _ _ _ _ HJ.out (by assumption) (by first | exact Or.inl ⟨_, _, rfl, rfl⟩ | exact Or.inr ⟨_, _, rfl, rfl⟩) : J w13); have hg : w11.grownBy w13 (some go5) := (by rw [hw]; exact HP12.2); have hp_ : Kd.R k98 98 w13 w0.heap.size (fun k_ => (P0_ k_ ∨ w.heap.size ≤ k_)) (.slice (some ⟨go5, 0, none⟩) x0_1.length co9) y258 := (by rw [hw, Ny258.out]; exact HP12.1); clear HP12; replace HB := Aside0.mk ((by rw [hw]; exact below_set (HB.out) GB5.out : Below w0.heap.size w0 w13)); replace HK := Aside0.mk (Kept.of_grown (S := (fun k_ => P0_ k_)) hg (by repeat (first | (with_reducible first | exact HK.out | apply Kept.alloc | apply Kept.drewN | apply Kept.drew) | exact HK.out)) (fun k_ e_ => (HO_0.out.1 k_ e_))); replace HO_0 := Aside0.mk (hp_); clear HJ; have HJ := nJ_; clear nJ_; clear hg hw hp_; have p7 : 0 ≤ (x5_1 : Int) := of_decide_eq_true asm; have q7 : (x5_1 : Int) < ((x0_1.length : Int) : Int) := of_decide_eq_true asm; obtain ⟨ce7, hcl7, hM7, hcc7, hfr7⟩ := Kd.R_elem HO_0.out z98 (x5_1 : Int) p7 q7; obtain rfl := k98_openM hM7; have hx7_0 : w13.cell? ⟨go5, (x5_1 : Int).toNat * 4, none⟩ = some (.int .i64 ((rd_T98 y258 x5_1).f0)) := hcc7 0 _ rfl; have hx7_1 : w13.cell? ⟨go5, (x5_1 : Int).toNat * 4 + 1, none⟩ = some (.int .i64 ((rd_T98 y258 x5_1).f1)) := hcc7 1 _ rfl; have hx7_2 : w13.cell? ⟨go5, (x5_1 : Int).toNat * 4 + 2, none⟩ = some (.int .i64 ((rd_T98 y258 x5_1).f2)) := hcc7 2 _ rfl; have hx7_3 : w13.cell? ⟨go5, (x5_1 : Int).toNat * 4 + 3, none⟩ = some (.bool ((rd_T98 y258 x5_1).f3)) := hcc7 3 _ rfl; have hf7_0 : w13.frozen? ⟨go5, (x5_1 : Int).toNat * 4, none⟩ = false := hfr7 0; have hf7_1 : w13.frozen? ⟨go5, (x5_1 : Int).toNat * 4 + 1, none⟩ = false := hfr7 1; have hf7_2 : w13.frozen? ⟨go5, (x5_1 : Int).toNat * 4 + 2, none⟩ = false := hfr7 2; have hf7_3 : w13.frozen? ⟨go5, (x5_1 : Int).toNat * 4 + 3, none⟩ = false := hfr7 3; clear hcl7 hcc7 hfr7 hM7; replace p7 := eq_true p7; replace q7 := eq_true q7; have HX14 := Aside0.mk (show Kd.R k98 98 w13 w0.heap.size (fun k_ => (P0_ k_ ∨ w.heap.size ≤ k_)) (.slice (some ⟨go5, 0, none⟩) x0_1.length co9) y258 from (rk HO_0.out)); obtain ⟨ce14, hcl14, hM14, hcc14, hfr14⟩ := Kd.R_elem HX14.out z98 (x5_1 : Int) (of_decide_eq_true asm) (by have h_ : (x5_1 : Int) < ((x0_1.length : Int) : Int) := of_decide_eq_true asm; first | exact h_ | (have e_ := (Kd.R_reads' HO_0.out).1; omega) | simpa using h_); obtain rfl := k98_openM hM14; have HP14 := Kd.R_seg HX14.out (x5_1 : Int) (of_decide_eq_true asm) (by have h_ : (x5_1 : Int) < ((x0_1.length : Int) : Int) := of_decide_eq_true asm; first | exact h_ | (have e_ := (Kd.R_reads' HO_0.out).1; omega) | simpa using h_) (seg := [.int .i64 (wrap64 ((wrap64 (x1_1 + 1)) + 1))]) (j := 2) hcl14 hcc14 (show 3 ≤ 4 from by decide) (x' := (⟨(rd_T98 y258 x5_1).f0, (rd_T98 y258 x5_1).f1, wrap64 ((wrap64 (x1_1 + 1)) + 1), (rd_T98 y258 x5_1).f3⟩ : S98)) (k98_mkM _ _ _ (⟨(rd_T98 y258 x5_1).f0, (rd_T98 y258 x5_1).f1, wrap64 ((wrap64 (x1_1 + 1)) + 1), (rd_T98 y258 x5_1).f3⟩ : S98) ) (fun _ hk => hk); have hx14_2 := hcc14 2 _ rfl; (try simp only [show (k98).sz = 4 from rfl, Nat.mul_one, Nat.add_zero] at hx14_2); have hf14_2 := hfr14 2; (try simp only [show (k98).sz = 4 from rfl, Nat.mul_one, Nat.add_zero] at hf14_2); clear hcl14 hcc14 hfr14 hM14) | ((with_reducible refine gate_store (t := 3) (p := 30) rfl ?_); refine store_event (t := 3) (p := 30) (v := ?vo_w15) (w1 := (w13.setCell ⟨go5, (x5_1 : Int).toNat * 4 + 2, none⟩ (.int .i64 (wrap64 ((wrap64 (x1_1 + 1)) + 1))))) ?hg ?ho ?hn ?hr ?_; (case ho => rfl); (case hg => rfl); (case hn => rfl); (case hr => first | (go_simp; done) | (go_simp; rfl)); intro w15 hw; have nJ_ := Aside0.mk (by rw [hw]; exact hJ _ _ _ _ _ HJ.out (by assumption) (by first | exact Or.inl ⟨_, _, rfl, rfl⟩ | exact Or.inr ⟨_, _, rfl, rfl⟩) : J w15); have hg : w13.grownBy w15 (some go5) := (by rw [hw]; exact HP14.2); have hp_ : Kd.R k98 98 w15 w0.heap.size (fun k_ => (P0_ k_ ∨ w.heap.size ≤ k_)) (.slice (some ⟨go5, 0, none⟩) x0_1.length co9) y259 := (by rw [hw, Ny259.out]; exact HP14.1); clear HP14; replace HB := Aside0.mk ((by rw [hw]; exact below_set (HB.out) GB5.out : Below w0.heap.size w0 w15)); replace HK := Aside0.mk (Kept.of_grown (S := (fun k_ => P0_ k_)) hg (by repeat (first | (with_reducible first | exact HK.out | apply Kept.alloc | apply Kept.drewN | apply Kept.drew) | exact HK.out)) (fun k_ e_ => (HO_0.out.1 k_ e_))); replace HO_0 := Aside0.mk (hp_); clear HJ; have HJ := nJ_; clear nJ_; clear hg hw hp_; have p8 : 0 ≤ (x5_1 : Int) := of_decide_eq_true asm; have q8 : (x5_1 : Int) < ((x0_1.length : Int) : Int) := of_decide_eq_true asm; obtain ⟨ce8, hcl8, hM8, hcc8, hfr8⟩ := Kd.R_elem HO_0.out z98 (x5_1 : Int) p8 q8; obtain rfl := k98_openM hM8; have hx8_0 : w15.cell? ⟨go5, (x5_1 : Int).toNat * 4, none⟩ = some (.int .i64 ((rd_T98 y259 x5_1).f0)) := hcc8 0 _ rfl; have hx8_1 : w15.cell? ⟨go5, (x5_1 : Int).toNat * 4 + 1, none⟩ = some (.int .i64 ((rd_T98 y259 x5_1).f1)) := hcc8 1 _ rfl; have hx8_2 : w15.cell? ⟨go5, (x5_1 : Int).toNat * 4 + 2, none⟩ = some (.int .i64 ((rd_T98 y259 x5_1).f2)) := hcc8 2 _ rfl; have hx8_3 : w15.cell? ⟨go5, (x5_1 : Int).toNat * 4 + 3, none⟩ = some (.bool ((rd_T98 y259 x5_1).f3)) := hcc8 3 _ rfl; have hf8_0 : w15.frozen? ⟨go5, (x5_1 : Int).toNat * 4, none⟩ = false := hfr8 0; have hf8_1 : w15.frozen? ⟨go5, (x5_1 : Int).toNat * 4 + 1, none⟩ = false := hfr8 1; have hf8_2 : w15.frozen? ⟨go5, (x5_1 : Int).toNat * 4 + 2, none⟩ = false := hfr8 2; have hf8_3 : w15.frozen? ⟨go5, (x5_1 : Int).toNat * 4 + 3, none⟩ = false := hfr8 3; clear hcl8 hcc8 hfr8 hM8; replace p8 := eq_true p8; replace q8 := eq_true q8; have HX16 := Aside0.mk (show Kd.R k98 98 w15 w0.heap.size (fun k_ => (P0_ k_ ∨ w.heap.size ≤ k_)) (.slice (some ⟨go5, 0, none⟩) x0_1.length co9) y259 from (rk HO_0.out)); obtain ⟨ce16, hcl16, hM16, hcc16, hfr16⟩ := Kd.R_elem HX16.out z98 (x5_1 : Int) (of_decide_eq_true asm) (by have h_ : (x5_1 : Int) < ((x0_1.length : Int) : Int) := of_decide_eq_true asm; first | exact h_ | (have e_ := (Kd.R_reads' HO_0.out).1; omega) | simpa using h_); obtain rfl := k98_openM hM16; have HP16 := Kd.R_seg HX16.out (x5_1 : Int) (of_decide_eq_true asm) (by have h_ : (x5_1 : Int) < ((x0_1.length : Int) : Int) := of_decide_eq_true asm; first | exact h_ | (have e_ := (Kd.R_reads' HO_0.out).1; omega) | simpa using h_) (seg := [.bool ((Int.tmod (wrap64 ((wrap64 ((wrap64 (x1_1 + 1)) + 1)) + 1)) 3) == 0)]) (j := 3) hcl16 hcc16 (show 4 ≤ 4 from by decide) (x' := (⟨(rd_T98 y259 x5_1).f0, (rd_T98 y259 x5_1).f1, (rd_T98 y259 x5_1).f2, ((Int.tmod (wrap64 ((wrap64 ((wrap64 (x1_1 + 1)) + 1)) + 1)) 3) == 0)⟩ : S98)) (k98_mkM _ _ _ (⟨(rd_T98 y259 x5_1).f0, (rd_T98 y259 x5_1).f1, (rd_T98 y259 x5_1).f2, ((Int.tmod (wrap64 ((wrap64 ((wrap64 (x1_1 + 1)) + 1)) + 1)) 3) == 0)⟩ : S98) ) (fun _ hk => hk); have hx16_3 := hcc16 3 _ rfl; (try simp only [show (k98).sz = 4 from rfl, Nat.mul_one, Nat.add_zero] at hx16_3); have hf16_3 := hfr16 3; (try simp only [show (k98).sz = 4 from rfl, Nat.mul_one, Nat.add_zero] at hf16_3); clear hcl16 hcc16 hfr16 hM16) | ((with_reducible refine gate_store (t := 4) (p := 39) rfl ?_); refine store_event (t := 4) (p := 39) (v := ?vo_w17) (w1 := (w15.setCell ⟨go5, (x5_1 : Int).toNat * 4 + 3, none⟩ (.bool ((Int.tmod (wrap64 ((wrap64 ((wrap64 (x1_1 + 1)) + 1)) + 1)) 3) == 0)))) ?hg ?ho ?hn ?hr ?_; (case ho => rfl); (case hg => rfl); (case hn => rfl); (case hr => first | (go_simp; done) | (go_simp; rfl)); intro w17 hw; have nJ_ := Aside0.mk (by rw [hw]; exact hJ _ _ _ _ _ HJ.out (by assumption) (by first | exact Or.inl ⟨_, _, rfl, rfl⟩ | exact Or.inr ⟨_, _, rfl, rfl⟩) : J w17); have hg : w15.grownBy w17 (some go5) := (by rw [hw]; exact HP16.2); have hp_ : Kd.R k98 98 w17 w0.heap.size (fun k_ => (P0_ k_ ∨ w.heap.size ≤ k_)) (.slice (some ⟨go5, 0, none⟩) x0_1.length co9) y260 := (by rw [hw, Ny260.out]; exact HP16.1); clear HP16; replace HB := Aside0.mk ((by rw [hw]; exact below_set (HB.out) GB5.out : Below w0.heap.size w0 w17)); replace HK := Aside0.mk (Kept.of_grown (S := (fun k_ => P0_ k_)) hg (by repeat (first | (with_reducible first | exact HK.out | apply Kept.alloc | apply Kept.drewN | apply Kept.drew) | exact HK.out)) (fun k_ e_ => (HO_0.out.1 k_ e_))); replace HO_0 := Aside0.mk (hp_); clear HJ; have HJ := nJ_; clear nJ_; clear hg hw hp_))
     go_roundg k1
     case measure => have := HK1.out; omega
     case rel => exact ⟨(y260), (wrap64 ((wrap64 ((wrap64 ((wrap64 (x1_1 + 1)) + 1)) + 1)) + 1)), (wrap64 (x5_1 + 1)), (by first | rfl | (simp; done) | (simp [*]; done)), (by first | rfl | (simp; done) | (simp [*]; done)), H', ⟨by have := HK1.out; omega⟩, ⟨rk HO_0.out⟩, ⟨by repeat (first | (with_reducible first | exact HK.out | apply Kept.alloc | apply Kept.drewN | apply Kept.drew) | exact HK.out)⟩, ⟨bl HB.out⟩, HJ⟩
    ·rw [if_neg c4] at H
     exact absurd H (by simp)
   ·rw [if_neg c3] at H
    have c3b0 : decide (x5_1 < (x0_1.length : Int)) = false := decide_eq_false c3
    clear c3
    simp only [Option.some.injEq, Prod.mk.injEq] at H
    obtain ⟨rfl, rfl⟩ := H
    obtain ⟨Ao18, co18, eo18⟩ := Kd.R_slice HO_0.out
    subst eo18
    go_wp2
    go_ret
    exact ⟨by first | rfl | (simp [errW_none, errW_some] <;> rfl) | (simp [*, errW_none, errW_some] <;> rfl), rk HO_0.out, bl HB.out, by repeat (first | (with_reducible first | exact HK.out | apply Kept.alloc | apply Kept.drewN | apply Kept.drew) | exact HK.out), HJ.out⟩
theorem laws_markIntS.like_ : ∀ (k : Nat) (x0 z0 : List Int) (x1 x5 r : Int) (y : List Int), x0.length = z0.length → laws_markIntS.l0 k x0 x1 x5 = some (r, y) → ∃ y', laws_markIntS.l0 k z0 x1 x5 = some (r, y')
 | 0, _, _, _, _, _, _, _, h => by simp [laws_markIntS.l0] at h
 | k + 1, x0, z0, x1, x5, r, y, hl, h => by
  simp only [laws_markIntS.l0] at h ⊢
  rw [← hl]
  by_cases c1 : x5 < (x0.length : Int)
  ·rw [if_pos c1] at h ⊢
   by_cases c2 : 0 ≤ x5
   ·rw [if_pos c2] at h ⊢
    exact laws_markIntS.like_ k _ _ _ _ r y (by rw [List.length_set, List.length_set, hl]) h
   ·rw [if_neg c2] at h; simp at h
  ·rw [if_neg c1] at h ⊢
   simp only [Option.some.injEq, Prod.mk.injEq] at h
   exact ⟨z0, by rw [h.1]⟩
theorem laws_markBoxS.like_ : ∀ (k : Nat) (x0 z0 : List S98) (x1 x5 r : Int) (y : List S98), x0.length = z0.length → laws_markBoxS.l0 k x0 x1 x5 = some (r, y) → ∃ y', laws_markBoxS.l0 k z0 x1 x5 = some (r, y')
 | 0, _, _, _, _, _, _, _, h => by simp [laws_markBoxS.l0] at h
 | k + 1, x0, z0, x1, x5, r, y, hl, h => by
  simp only [laws_markBoxS.l0, Option.bind_some] at h ⊢
  rw [← hl]
  by_cases c1 : x5 < (x0.length : Int)
  ·rw [if_pos c1] at h ⊢
   by_cases c2 : 0 ≤ x5
   ·rw [if_pos c2] at h ⊢
    exact laws_markBoxS.like_ k _ _ _ _ r y (by simp only [List.length_set]; exact hl) h
   ·rw [if_neg c2] at h; simp at h
  ·rw [if_neg c1] at h ⊢
   simp only [Option.some.injEq, Prod.mk.injEq] at h
   exact ⟨z0, by rw [h.1]⟩
def laws_markColumnS.l0 : Nat → List (S41) → Int → Int → Option Int
 | 0, _, _, _ => none
 | k + 1, x0, x1, x5 => if x5 < (x0.length : Int) then (if 0 ≤ x5 then ((laws_markIntS.f k ((rd_T41 x0 x5).f1) (wrap64 (x1 + 1))).bind fun bt1 => ((laws_markBoxS.f k ((rd_T41 x0 x5).f2) bt1.1).bind fun bt2 => (laws_markColumnS.l0 k x0 bt2.1 (wrap64 (x5 + 1))))) else (none)) else (some x1)
def laws_markColumnS.f (k : Nat) (l0 : List (S41)) (a1 : Int) : Option Int := laws_markColumnS.l0 k l0 a1 0
def SC_ (x y : S41) : Prop := x.f1.length = y.f1.length ∧ x.f2.length = y.f2.length
theorem soft_k98_ : SoftK_ k98 (fun _ _ => True) :=
 have h := soft_iso_ (f := fun x : S98 => (x.f0, x.f1, x.f2, x.f3)) (g := fun t => ⟨t.1, t.2.1, t.2.2.1, t.2.2.2⟩) (fun _ => rfl) (soft_pair_ (fun _ => trivial) (fun _ => ⟨trivial, trivial, trivial⟩) soft_int_ (soft_pair_ (fun _ => trivial) (fun _ => ⟨trivial, trivial⟩) soft_int_ (soft_pair_ (fun _ => trivial) (fun _ => trivial) soft_int_ soft_bool_)))
 ⟨fun a b c => (h.val a b c).elim fun x' m => ⟨x', trivial, m.2⟩, fun a b c => (h.seg a b c).elim fun x' m => ⟨x', trivial, m.2⟩⟩
theorem soft_k41_ : SoftK_ k41 SC_ :=
 have h := soft_iso_ (f := fun x : S41 => (x.f0, x.f1, x.f2)) (g := fun t => ⟨t.1, t.2.1, t.2.2⟩) (fun _ => rfl) (soft_pair_ (fun _ => trivial) (fun _ => ⟨rfl, rfl⟩) soft_int_ (soft_pair_ (S := fun xs ys : List Int => xs.length = ys.length) (T := fun xs ys : List S98 => xs.length = ys.length) (fun _ => rfl) (fun _ => rfl) (soft_slice_ (fun _ => trivial) (fun _ _ _ _ _ => trivial) soft_int_ 3) (soft_slice_ (fun _ => trivial) (fun _ _ _ _ _ => trivial) soft_k98_ 98)))
 ⟨fun a b c => (h.val a b c).elim fun x' m => ⟨x', m.1.2, m.2⟩, fun a b c => (h.seg a b c).elim fun x' m => ⟨x', m.1.2, m.2⟩⟩
def MarkJ_ (base : Nat) (P : Nat → Prop) (s : Value) (l0 : List S41) (W : World) : Prop := ∃ l1, Rows_ SC_ l0 l1 ∧ Kd.R k41 41 W base P s l1
theorem markJ_set_ {base : Nat} {P : Nat → Prop} {s : Value} {l0 : List S41} (W : World) (g j : Nat) (u v : Value) (h : MarkJ_ base P s l0 W) (hu : W.cell? ⟨g, j, none⟩ = some u) (hv : Alike_ u v) : MarkJ_ base P s l0 (W.setCell ⟨g, j, none⟩ v) := by
 obtain ⟨l1, h1, h2⟩ := h
 obtain ⟨l2, h3, h4⟩ := soft_row_ (fun _ => ⟨rfl, rfl⟩) (fun _ _ _ a b => ⟨a.1.trans b.1, a.2.trans b.2⟩) soft_k41_ h2 hu hv
 exact ⟨l2, Rows_.trans_ (fun _ _ _ a b => ⟨a.1.trans b.1, a.2.trans b.2⟩) h1 h3, h4⟩
theorem markJ_open_ {base : Nat} {P : Nat → Prop} {g cap n : Nat} {l0 : List S41} {W : World} (hn : n = l0.length) (h : MarkJ_ base P (.slice (some ⟨g, 0, none⟩) n cap) l0 W) (i : Int) (h0 : 0 ≤ i) (h1 : i < n) :
  ∃ (x : Int) (m1 : List Int) (m2 : List S98) (A1 : Option Addr) (c1 : Nat) (A2 : Option Addr) (c2 : Nat), (rd_T41 l0 i).f1.length = m1.length ∧ (rd_T41 l0 i).f2.length = m2.length ∧
   W.cell? ⟨g, i.toNat * 3, none⟩ = some (.int .i64 x) ∧ W.cell? ⟨g, i.toNat * 3 + 1, none⟩ = some (.slice A1 m1.length c1) ∧ W.cell? ⟨g, i.toNat * 3 + 2, none⟩ = some (.slice A2 m2.length c2) ∧
   W.frozen? ⟨g, i.toNat * 3, none⟩ = false ∧ W.frozen? ⟨g, i.toNat * 3 + 1, none⟩ = false ∧ W.frozen? ⟨g, i.toNat * 3 + 2, none⟩ = false ∧
   Kd.R (Kd.int .i64) 3 W base P (.slice A1 m1.length c1) m1 ∧ Kd.R k98 98 W base P (.slice A2 m2.length c2) m2 := by
 obtain ⟨l1, hl, hR⟩ := h
 obtain ⟨c, hc, hM, hcell, hfr⟩ := Kd.R_elem hR z41 i h0 h1
 have hi : i.toNat < l1.length := by have := hl.1; omega
 have e1 : l1[i.toNat]? = some (l1.getD i.toNat z41) := by rw [List.getD_eq_getElem?_getD, List.getElem?_eq_getElem hi]; rfl
 have e0 : l0[i.toNat]? = some (rd_T41 l0 i) := by unfold rd_T41; rw [List.getD_eq_getElem?_getD, List.getElem?_eq_getElem (show i.toNat < l0.length by omega)]; rfl
 have hs := hl.2 _ _ _ e0 e1
 obtain ⟨v1, v2, rfl, g1, g2⟩ := k41_openM hM
 obtain ⟨A1, c1, rfl⟩ := Kd.R_slice g1
 obtain ⟨A2, c2, rfl⟩ := Kd.R_slice g2
 exact ⟨_, _, _, A1, c1, A2, c2, hs.1, hs.2, hcell 0 _ rfl, hcell 1 _ rfl, hcell 2 _ rfl, hfr 0, hfr 1, hfr 2, Kd.R_mono g1 (fun _ hk => hk.1), Kd.R_mono g2 (fun _ hk => hk.1)⟩
set_option maxHeartbeats 8000000 in
set_option maxRecDepth 100000 in
theorem laws_markColumnS.calls (k : Nat) (P0_ : Nat → Prop) (u9000_ : Value) (l0 : List (S41)) (a1 : Int) (r : Int) (w0 w : World) (hB : Below w0.heap.size w0 w) (ho0 : Kd.R k41 41 w w0.heap.size P0_ u9000_ l0) (h : laws_markColumnS.f k l0 a1 = some r) :
  Calls Try.prog 21 #[u9000_, .int .i64 a1] w fun e w' => e = .returned (.int .i64 r) ∧ Below w0.heap.size w0 w' ∧ Kept w w' (fun k_ => P0_ k_) := by
 have hu41 := Try.underlying41
 have HK := Aside0.mk (Kept.refl w (fun k_ => P0_ k_))
 have HB := Aside0.mk hB
 clear hB
 obtain ⟨Ao6, co6, eo6⟩ := Kd.R_slice ho0
 subst eo6
 have HJ := Aside0.mk (show MarkJ_ w0.heap.size P0_ (.slice Ao6 l0.length co6) l0 w from ⟨l0, Rows_.rfl_ (fun _ => ⟨rfl, rfl⟩) _, ho0⟩)
 have HF : 0 < l0.length → ∃ g, Ao6 = some ⟨g, 0, none⟩ ∧ P0_ g ∧ w0.heap.size ≤ g := by
  intro hp
  obtain ⟨g, cap, e, hb, _, _⟩ := Kd.R_form ho0 hp
  injection e with e1 e2 e3
  subst e1
  exact ⟨g, rfl, ho0.1 g rfl, hb⟩
 have HF' := Aside0.mk HF
 clear HF ho0
 have H : (laws_markColumnS.l0 k l0 a1 0) = some r := h
 clear h
 have H' := Aside0.mk H
 clear H
 go_enter Try.func21, Try.ntmps21
 go_wp2
 go_loopg [1, 5] k (fun kq v1 v5 w' => ∃ (x1_1 : Int) (x5_1 : Int), v1 = .int .i64 x1_1 ∧ v5 = .int .i64 x5_1 ∧ Aside0 (laws_markColumnS.l0 kq l0 x1_1 x5_1 = some r) ∧ Aside0 (kq ≤ k) ∧ Aside0 (MarkJ_ w0.heap.size P0_ (.slice Ao6 l0.length co6) l0 w') ∧ Aside0 (Kept w w' (fun k_ => P0_ k_)) ∧ Aside0 (Below w0.heap.size w0 w'))
 case atStart => exact ⟨(a1), (0), (by first | rfl | (simp; done) | (simp [*]; done)), (by first | rfl | (simp; done) | (simp [*]; done)), H', ⟨Nat.le_refl _⟩, HJ, HK, HB⟩
 case round =>
  clear H' HJ HK HB
  try clear p2
  obtain ⟨x1_1, x5_1, rfl, rfl, HA, HK1, HJ, HK, HB⟩ := hrel
  cases gk with
  | zero => exact absurd HA.out (by simp [laws_markColumnS.l0])
  | succ k1 =>
   have H := HA.out
   clear HA
   simp only [laws_markColumnS.l0] at H
   by_cases c3 : x5_1 < (l0.length : Int)
   ·rw [if_pos c3] at H
    have c3b0 : decide (x5_1 < (l0.length : Int)) = true := decide_eq_true c3
    by_cases c4 : 0 ≤ x5_1
    ·rw [if_pos c4] at H
     have c4b0 : decide (0 ≤ x5_1) = true := decide_eq_true c4
     replace H := Option.bind_eq_some_iff.mp H
     obtain ⟨⟨t1, y1⟩, A30, H⟩ := H
     replace H := Option.bind_eq_some_iff.mp H
     obtain ⟨⟨t2, y2⟩, A40, H⟩ := H
     try dsimp only at H
     replace A40 : laws_markBoxS.f k1 ((rd_T41 l0 x5_1).f2) t1 = some (t2, y2) := A40
     have A3 := Aside0.mk A30
     have A4 := Aside0.mk A40
     have H' := Aside0.mk H
     clear H A30 A40
     obtain ⟨go5, ea_, hP5, hg5⟩ := HF'.out (by omega)
     subst ea_
     have HP5 := Aside0.mk hP5
     have GB5 := Aside0.mk hg5
     clear hP5 hg5
     obtain ⟨x5c, m5_1, m5_2, A5_1, c5_1, A5_2, c5_2, el5_1, el5_2, hx5_0, hx5_1, hx5_2, hf5_0, hf5_1, hf5_2, hr5_1, hr5_2⟩ := markJ_open_ rfl HJ.out x5_1 c4 c3
     clear el5_1 el5_2 hr5_1 hr5_2
     have p5 : (0 ≤ (x5_1 : Int)) = True := eq_true c4
     have q5 : (x5_1 < (l0.length : Int)) = True := eq_true c3
     go_wp2_with (first | ((with_reducible refine gate_store (t := 3) (p := 16) rfl ?_); refine store_event (t := 3) (p := 16) (v := ?vo_w8) (w1 := (wr.setCell ⟨go5, (x5_1 : Int).toNat * 3, none⟩ (.int .i64 x1_1))) ?hg ?ho ?hn ?hr ?_; (case ho => rfl); (case hg => rfl); (case hn => rfl); (case hr => first | (go_simp; done) | (go_simp; rfl)); intro w8 hw; replace HJ := Aside0.mk (show MarkJ_ w0.heap.size P0_ (.slice (some ⟨go5, 0, none⟩) l0.length co6) l0 w8 from by rw [hw]; exact markJ_set_ _ _ _ _ _ HJ.out hx5_0 (Or.inl ⟨_, _, rfl, rfl⟩)); replace HB := Aside0.mk (show Below w0.heap.size w0 w8 from by rw [hw]; exact below_set HB.out GB5.out); replace HK := Aside0.mk (show Kept w w8 (fun k_ => P0_ k_) from by rw [hw]; exact Kept.setCell HK.out (.inl HP5.out) _); clear hw hx5_0 hx5_1 hx5_2 hf5_0 hf5_1 hf5_2; obtain ⟨x6c, m6_1, m6_2, A6_1, c6_1, A6_2, c6_2, el6_1, el6_2, hx6_0, hx6_1, hx6_2, hf6_0, hf6_1, hf6_2, hr6_1, hr6_2⟩ := markJ_open_ rfl HJ.out x5_1 c4 c3) | ((with_reducible refine gate_callee (f := 54) rfl ?_); refine goesL_ (some 25) rfl rfl Try.func54 (by kernel_rfl) rfl #[.slice A6_1 m6_1.length c6_1, .int .i64 (wrap64 (x1_1 + 1))] rfl mapd ?_; obtain ⟨y1', A3'⟩ := laws_markIntS.like_ k1 _ m6_1 _ _ _ _ el6_1 A3.out; refine (laws_markIntS.callsJ (MarkJ_ w0.heap.size P0_ (.slice (some ⟨go5, 0, none⟩) l0.length co6) l0) markJ_set_ k1 P0_ (.slice A6_1 m6_1.length c6_1) m6_1 (wrap64 (x1_1 + 1)) t1 y1' w0 _ HB.out hr6_1 HJ.out A3').mono ?_; rintro e w9 ⟨rfl, hy0, hb, hkp, hj⟩; refine ⟨_, rfl, ?_⟩; have n0_ := Aside0.mk hj; have n1_ := Aside0.mk hb; have n2_ := Aside0.mk (Kept.then_ (S := fun k_ => P0_ k_) HK.out hkp (fun k_ hs_ => .inl hs_)); clear HJ HB HK hy0 hb hkp hj hx6_0 hx6_1 hx6_2 hf6_0 hf6_1 hf6_2 hr6_1 hr6_2 A3'; have HJ := n0_; have HB := n1_; have HK := n2_; clear n0_ n1_ n2_; obtain ⟨x7c, m7_1, m7_2, A7_1, c7_1, A7_2, c7_2, el7_1, el7_2, hx7_0, hx7_1, hx7_2, hf7_0, hf7_1, hf7_2, hr7_1, hr7_2⟩ := markJ_open_ rfl HJ.out x5_1 c4 c3) | ((with_reducible refine gate_callee (f := 68) rfl ?_); refine goesL_ (some 32) rfl rfl Try.func68 (by kernel_rfl) rfl #[.slice A7_2 m7_2.length c7_2, .int .i64 t1] rfl mapd ?_; obtain ⟨y2', A4'⟩ := laws_markBoxS.like_ k1 _ m7_2 _ _ _ _ el7_2 A4.out; refine (laws_markBoxS.callsJ (MarkJ_ w0.heap.size P0_ (.slice (some ⟨go5, 0, none⟩) l0.length co6) l0) markJ_set_ k1 P0_ (.slice A7_2 m7_2.length c7_2) m7_2 t1 t2 y2' w0 _ HB.out hr7_2 HJ.out A4').mono ?_; rintro e w11 ⟨rfl, hy0, hb, hkp, hj⟩; refine ⟨_, rfl, ?_⟩; have n0_ := Aside0.mk hj; have n1_ := Aside0.mk hb; have n2_ := Aside0.mk (Kept.then_ (S := fun k_ => P0_ k_) HK.out hkp (fun k_ hs_ => .inl hs_)); clear HJ HB HK hy0 hb hkp hj hx7_0 hx7_1 hx7_2 hf7_0 hf7_1 hf7_2 hr7_1 hr7_2 A4'; have HJ := n0_; have HB := n1_; have HK := n2_; clear n0_ n1_ n2_))
     go_roundg k1
     case measure => have := HK1.out; omega
     case rel => exact ⟨t2, (wrap64 (x5_1 + 1)), (by first | rfl | (simp; done) | (simp [*]; done)), (by first | rfl | (simp; done) | (simp [*]; done)), H', ⟨by have := HK1.out; omega⟩, HJ, HK, HB⟩
    ·rw [if_neg c4] at H
     exact absurd H (by simp)
   ·rw [if_neg c3] at H
    have c3b0 : decide (x5_1 < (l0.length : Int)) = false := decide_eq_false c3
    clear c3
    obtain rfl := Option.some.inj H
    go_wp2
    go_ret
    exact ⟨by first | rfl | (simp [errW_none, errW_some] <;> rfl) | (simp [*, errW_none, errW_some] <;> rfl), HB.out, HK.out⟩
def laws_markColumnS.g0 : Nat → List (S41) → Int → Int → Option (Int × List (S41))
 | 0, _, _, _ => none
 | k + 1, x0, x1, x5 => if x5 < (x0.length : Int) then (if 0 ≤ x5 then ((laws_markIntS.f k ((rd_T41 x0 x5).f1) (wrap64 (x1 + 1))).bind fun bt1 => ((laws_markBoxS.f k ((rd_T41 x0 x5).f2) bt1.1).bind fun bt2 => (laws_markColumnS.g0 k (x0.set x5.toNat (⟨x1, bt1.2, bt2.2⟩ : S41)) bt2.1 (wrap64 (x5 + 1))))) else (none)) else (some (x1, x0))
def laws_markColumnS.g (k : Nat) (l0 : List (S41)) (a1 : Int) : Option (Int × List (S41)) := laws_markColumnS.g0 k l0 a1 0
set_option maxHeartbeats 8000000 in
set_option maxRecDepth 100000 in
theorem laws_markColumnS.callsS (k : Nat) (P0_ : Nat → Prop) (u9000_ : Value) (l0 : List (S41)) (a1 : Int) (r1 : Int) (r2 : List (S41)) (w0 w : World) (hB : Below w0.heap.size w0 w) (ho0 : Kd.S k41 41 w w0.heap.size P0_ u9000_ l0) (h : laws_markColumnS.g k l0 a1 = some (r1, r2)) :
  Calls Try.prog 21 #[u9000_, .int .i64 a1] w fun e w' => e = .returned (.int .i64 r1) ∧ Kd.S k41 41 w' w0.heap.size P0_ u9000_ r2 ∧ Below w0.heap.size w0 w' ∧ Kept w w' (fun k_ => P0_ k_) := by
 have hu41 := Try.underlying41
 have HK := Aside0.mk (Kept.refl w (fun k_ => P0_ k_))
 have HB := Aside0.mk hB
 clear hB
 obtain ⟨Ao6, co6, eo6⟩ := Kd.S_slice ho0
 subst eo6
 have HS := Aside0.mk ho0
 have HF : 0 < l0.length → ∃ g, Ao6 = some ⟨g, 0, none⟩ ∧ P0_ g ∧ w0.heap.size ≤ g := by
  intro hp
  obtain ⟨g, cap, e, hb, _, _⟩ := Kd.R_form (Kd.S_R ho0) hp
  injection e with e1 e2 e3
  subst e1
  exact ⟨g, rfl, (Kd.S_R ho0).1 g rfl, hb⟩
 have HF' := Aside0.mk HF
 clear HF ho0
 have H : (laws_markColumnS.g0 k l0 a1 0) = some (r1, r2) := h
 clear h
 have H' := Aside0.mk H
 clear H
 go_enter Try.func21, Try.ntmps21
 go_wp2
 go_loopg [1, 5] k (fun kq v1 v5 w' => ∃ (x0_1 : List S41) (x1_1 : Int) (x5_1 : Int), v1 = .int .i64 x1_1 ∧ v5 = .int .i64 x5_1 ∧ Aside0 (laws_markColumnS.g0 kq x0_1 x1_1 x5_1 = some (r1, r2)) ∧ Aside0 (kq ≤ k) ∧ Aside0 (x0_1.length = l0.length) ∧ Aside0 (Kd.S k41 41 w' w0.heap.size P0_ (.slice Ao6 l0.length co6) x0_1) ∧ Aside0 (Kept w w' (fun k_ => P0_ k_)) ∧ Aside0 (Below w0.heap.size w0 w'))
 case atStart => exact ⟨l0, (a1), (0), (by first | rfl | (simp; done) | (simp [*]; done)), (by first | rfl | (simp; done) | (simp [*]; done)), H', ⟨Nat.le_refl _⟩, ⟨rfl⟩, HS, HK, HB⟩
 case round =>
  clear H' HS HK HB
  try clear p2
  obtain ⟨x0_1, x1_1, x5_1, rfl, rfl, HA, HK1, HL, HS, HK, HB⟩ := hrel
  cases gk with
  | zero => exact absurd HA.out (by simp [laws_markColumnS.g0])
  | succ k1 =>
   have H := HA.out
   clear HA
   simp only [laws_markColumnS.g0] at H
   rw [HL.out] at H
   by_cases c3 : x5_1 < (l0.length : Int)
   ·rw [if_pos c3] at H
    have c3b0 : decide (x5_1 < (l0.length : Int)) = true := decide_eq_true c3
    by_cases c4 : 0 ≤ x5_1
    ·rw [if_pos c4] at H
     have c4b0 : decide (0 ≤ x5_1) = true := decide_eq_true c4
     replace H := Option.bind_eq_some_iff.mp H
     obtain ⟨⟨t1, y1⟩, A30, H⟩ := H
     replace H := Option.bind_eq_some_iff.mp H
     obtain ⟨⟨t2, y2⟩, A40, H⟩ := H
     try dsimp only at H
     replace A40 : laws_markBoxS.f k1 ((rd_T41 x0_1 x5_1).f2) t1 = some (t2, y2) := A40
     have A3 := Aside0.mk A30
     have A4 := Aside0.mk A40
     have H' := Aside0.mk H
     clear H A30 A40
     obtain ⟨go5, ea_, hP5, hg5⟩ := HF'.out (by omega)
     subst ea_
     have HP5 := Aside0.mk hP5
     have GB5 := Aside0.mk hg5
     clear hP5 hg5
     obtain ⟨oki, ce, hcl, hM, hcc, hfr, hoki, hH⟩ := Kd.S_elem HS.out z41 x5_1 c4 c3
     obtain ⟨v1, v2, rfl, hR1, hR2⟩ := k41_openM hM
     obtain ⟨A5_1, c5_1, e5_1⟩ := Kd.R_slice hR1
     obtain ⟨A5_2, c5_2, e5_2⟩ := Kd.R_slice hR2
     subst e5_1 e5_2
     have hx5_0 : wr.cell? ⟨go5, (x5_1 : Int).toNat * 3, none⟩ = some (.int .i64 ((x0_1.getD x5_1.toNat z41).f0)) := hcc 0 _ rfl
     have hf5_0 : wr.frozen? ⟨go5, (x5_1 : Int).toNat * 3, none⟩ = false := hfr 0
     have HO := Aside0.mk hoki
     have HH := Aside0.mk hH
     have HR1 := Aside0.mk hR1
     have HR2 := Aside0.mk hR2
     clear hcl hM hcc hfr hH hR1 hR2 hoki
     have p5 : (0 ≤ (x5_1 : Int)) = True := eq_true c4
     have q5 : (x5_1 < (l0.length : Int)) = True := eq_true c3
     go_wp2_with (first | ((with_reducible refine gate_store (t := 3) (p := 16) rfl ?_); refine store_event (t := 3) (p := 16) (v := ?vo_w8) (w1 := (wr.setCell ⟨go5, (x5_1 : Int).toNat * 3, none⟩ (.int .i64 x1_1))) ?hg ?ho ?hn ?hr ?_; (case ho => rfl); (case hg => rfl); (case hn => rfl); (case hr => first | (go_simp; done) | (go_simp; rfl)); intro w8 hw; replace HH := Aside0.mk (show Kd.H k41 41 w8 w0.heap.size P0_ (.slice (some ⟨go5, 0, none⟩) l0.length co6) x0_1 x5_1 oki [.int .i64 x1_1, .slice A5_1 _ c5_1, .slice A5_2 _ c5_2] from by rw [hw]; exact (Kd.H_seg HH.out c4 c3 (seg := [.int .i64 x1_1]) (j := 0) (show 1 ≤ 3 by decide) (by intro q hq; rw [List.mem_singleton.mp hq]; rfl)).1); replace HB := Aside0.mk (show Below w0.heap.size w0 w8 from by rw [hw]; exact below_set HB.out GB5.out); replace HK := Aside0.mk (show Kept w w8 (fun k_ => P0_ k_) from by rw [hw]; exact Kept.setCell HK.out (.inl HP5.out) _); replace HR1 := Aside0.mk (show Kd.R (Kd.int .i64) 3 w8 w0.heap.size oki _ _ from by rw [hw]; exact Kd.R_far HR1.out (fun k_ hk_ => (HO.out k_ hk_).2) _); replace HR2 := Aside0.mk (show Kd.R k98 98 w8 w0.heap.size oki _ _ from by rw [hw]; exact Kd.R_far HR2.out (fun k_ hk_ => (HO.out k_ hk_).2) _); clear HS hw hx5_0 hf5_0; obtain ⟨hcc6, hfr6⟩ := Kd.H_at HH.out c4 c3; have hx6_1 : w8.cell? ⟨go5, (x5_1 : Int).toNat * 3 + 1, none⟩ = some (.slice A5_1 _ c5_1) := hcc6 1 _ rfl; have hf6_1 : w8.frozen? ⟨go5, (x5_1 : Int).toNat * 3 + 1, none⟩ = false := hfr6 1; clear hcc6 hfr6) | ((with_reducible refine gate_callee (f := 54) rfl ?_); refine goesL_ (some 25) rfl rfl Try.func54 (by kernel_rfl) rfl #[.slice A5_1 ((x0_1.getD x5_1.toNat z41).f1).length c5_1, .int .i64 (wrap64 (x1_1 + 1))] rfl mapd ?_; refine (laws_markIntS.calls k1 (fun k_ => some k_ = (.slice A5_1 ((x0_1.getD x5_1.toNat z41).f1).length c5_1 : Value).ownBlock) (.slice A5_1 ((x0_1.getD x5_1.toNat z41).f1).length c5_1) ((x0_1.getD x5_1.toNat z41).f1) (wrap64 (x1_1 + 1)) t1 y1 w0 _ HB.out (Kd.R_tight rfl HR1.out) A3.out).mono ?_; rintro e w9 ⟨rfl, hy0, hb, hkp⟩; refine ⟨_, rfl, ?_⟩; have n0_ := Aside0.mk (Kd.H_kept HH.out hkp (fun k_ _ hn_ hs_ => hn_ (HR1.out.1 k_ hs_.symm))); have n1_ := Aside0.mk hb; have n2_ := Aside0.mk (Kept.then_ (S := fun k_ => P0_ k_) HK.out hkp (fun k_ hs_ => .inl (HO.out k_ (HR1.out.1 k_ hs_.symm)).1)); have n3_ := Aside0.mk (Kd.R_reok rfl hy0 (fun k_ e_ => HR1.out.1 k_ e_)); have n4_ := Aside0.mk (Kd.R_mono (ok' := oki) (Kd.R_kept (Kd.R_apart' HR2.out (Kd.R_typed HR1.out) (by decide)) hkp (fun k_ hk_ hs_ => hk_.2 hs_)) (fun k_ hk_ => hk_.1)); clear HH HB HK HR1 HR2 hy0 hb hkp hx6_1 hf6_1; have HH := n0_; have HB := n1_; have HK := n2_; have HR1 := n3_; have HR2 := n4_; clear n0_ n1_ n2_ n3_ n4_; obtain ⟨hcc7, hfr7⟩ := Kd.H_at HH.out c4 c3; have hx7_2 : w9.cell? ⟨go5, (x5_1 : Int).toNat * 3 + 2, none⟩ = some (.slice A5_2 _ c5_2) := hcc7 2 _ rfl; have hf7_2 : w9.frozen? ⟨go5, (x5_1 : Int).toNat * 3 + 2, none⟩ = false := hfr7 2; clear hcc7 hfr7) | ((with_reducible refine gate_callee (f := 68) rfl ?_); refine goesL_ (some 32) rfl rfl Try.func68 (by kernel_rfl) rfl #[.slice A5_2 ((x0_1.getD x5_1.toNat z41).f2).length c5_2, .int .i64 t1] rfl mapd ?_; refine (laws_markBoxS.calls k1 (fun k_ => some k_ = (.slice A5_2 ((x0_1.getD x5_1.toNat z41).f2).length c5_2 : Value).ownBlock) (.slice A5_2 ((x0_1.getD x5_1.toNat z41).f2).length c5_2) ((x0_1.getD x5_1.toNat z41).f2) t1 t2 y2 w0 _ HB.out (Kd.R_tight rfl HR2.out) A4.out).mono ?_; rintro e w11 ⟨rfl, hy0, hb, hkp⟩; refine ⟨_, rfl, ?_⟩; have n0_ := Aside0.mk (Kd.H_kept HH.out hkp (fun k_ _ hn_ hs_ => hn_ (HR2.out.1 k_ hs_.symm))); have n1_ := Aside0.mk hb; have n2_ := Aside0.mk (Kept.then_ (S := fun k_ => P0_ k_) HK.out hkp (fun k_ hs_ => .inl (HO.out k_ (HR2.out.1 k_ hs_.symm)).1)); have n3_ := Aside0.mk (Kd.R_mono (ok' := oki) (Kd.R_kept (Kd.R_apart' HR1.out (Kd.R_typed HR2.out) (by decide)) hkp (fun k_ hk_ hs_ => hk_.2 hs_)) (fun k_ hk_ => hk_.1)); have n4_ := Aside0.mk (Kd.R_reok rfl hy0 (fun k_ e_ => HR2.out.1 k_ e_)); clear HB HK hy0 hb hkp hx7_2 hf7_2; have HB := n1_; have HK := n2_; have HS := Aside0.mk (Kd.H_back n0_.out (k41_mkM _ _ oki (⟨x1_1, y1, y2⟩ : S41) n3_.out n4_.out) (fun _ h_ => h_)); clear HH HR1 HR2 n0_ n1_ n2_ n3_ n4_))
     go_roundg k1
     case measure => have := HK1.out; omega
     case rel => exact ⟨_, t2, (wrap64 (x5_1 + 1)), (by first | rfl | (simp; done) | (simp [*]; done)), (by first | rfl | (simp; done) | (simp [*]; done)), H', ⟨by have := HK1.out; omega⟩, ⟨by rw [List.length_set]; exact HL.out⟩, HS, HK, HB⟩
    ·rw [if_neg c4] at H
     exact absurd H (by simp)
   ·rw [if_neg c3] at H
    have c3b0 : decide (x5_1 < (l0.length : Int)) = false := decide_eq_false c3
    clear c3
    simp only [Option.some.injEq, Prod.mk.injEq] at H
    obtain ⟨rfl, rfl⟩ := H
    go_wp2
    go_ret
    exact ⟨by first | rfl | (simp [errW_none, errW_some] <;> rfl) | (simp [*, errW_none, errW_some] <;> rfl), HS.out, HB.out, HK.out⟩
end Go.Proofs.Ytbpjidekjogfeaa.A

namespace Go.Proofs.Ytbpjidekjogfeaa.A
open Go.RowKit Go.Proofs.YtbpjidekjogfeaaW.PrintWords Go.Proofs.YtbpjidekjogfeaaW.PrintLast Go.Proofs.YtbpjidekjogfeaaW.PrintMore
attribute [local go_sem] max2_int min2_int max_two min_two max_three min_three max_four min_four   
set_option linter.unusedVariables false
set_option linter.unusedSimpArgs false
def spec_l02Copy.f (a0_0 : Int) (l0_1 : List Int) (l0_2 : List (S98)) : Option (Int × List Int × (List (S98))) := (some (([] : List Int) : List Int)).bind fun y300 => (if y300.length + l0_1.length < 17592186044416 then ((some (([] : List (S98)) : List (S98))).bind fun y306 => (if y306.length + l0_2.length < 4398046511104 then (some (a0_0, (y300 ++ l0_1), (y306 ++ l0_2))) else (none))) else (none))
def spec_l02Copy.T1 : Bool × List (List Nat × List Nat) := (true, [([], []), ([0], [0]), ([], []), ([], []), ([3], [3]), ([2, 4], [2, 4]), ([], []), ([], []), ([7], [7]), ([6, 8, 5], [6, 8]), ([1, 5, 9], [1, 5, 9]), ([10, 9, 0, 1, 2, 3, 4, 5, 6, 7, 8, 9, 10], [10])])
def spec_l02Copy.B1 : List Nat := [0, 1, 0, 0, 8, 28, 0, 0, 128, 508, 1023, 2047]
theorem spec_l02Copy.tab1 : rtab .any (opsOf Try.f86 1) = spec_l02Copy.T1 := by kernel_rfl
theorem spec_l02Copy.bits1 : waitsOk spec_l02Copy.T1.2 spec_l02Copy.B1 = true := by kernel_rfl
set_option maxHeartbeats 8000000 in
set_option maxRecDepth 100000 in
theorem spec_l02Copy.calls (a0_0 : Int) (A0_1 : Option Addr) (c0_1 : Nat) (l0_1 : List Int) (A0_2 : Option Addr) (c0_2 : Nat) (l0_2 : List (S98)) (r1 : Int) (r2 : List Int) (r3 : List (S98)) (w : World) (hr0_1 : Kd.C (Kd.int .i64) w A0_1 l0_1.length l0_1) (hc0_1 : l0_1.length ≤ c0_1) (hr0_2 : Kd.C k98 w A0_2 l0_2.length l0_2) (hc0_2 : l0_2.length ≤ c0_2) (h : spec_l02Copy.f a0_0 l0_1 l0_2 = some (r1, r2, r3)) :
  Calls Try.prog 86 #[.agg #[.int .i64 a0_0, .slice A0_1 l0_1.length c0_1, .slice A0_2 l0_2.length c0_2]] w fun e w' => ∃ v1_ v2_ : Value, e = .returned (.agg #[.int .i64 r1, v1_, v2_]) ∧ Kd.R (Kd.int .i64) 3 w' w.heap.size (fun _ => True) v1_ r2 ∧ Kd.R k98 98 w' w.heap.size (fun _ => True) v2_ r3 ∧ Below w.heap.size w w' := by
 have hu41 := Try.underlying41
 have HR0_1 := Aside0.mk hr0_1
 have HC0_1 := Aside0.mk hc0_1
 clear hr0_1 hc0_1
 have HR0_2 := Aside0.mk hr0_2
 have HC0_2 := Aside0.mk hc0_2
 clear hr0_2 hc0_2
 have HB := Aside0.mk (Below.refl w.heap.size w)
 have H : ((some (([] : List Int) : List Int)).bind fun y300 => (if y300.length + l0_1.length < 17592186044416 then ((some (([] : List (S98)) : List (S98))).bind fun y306 => (if y306.length + l0_2.length < 4398046511104 then (some (a0_0, (y300 ++ l0_1), (y306 ++ l0_2))) else (none))) else (none))) = some (r1, r2, r3) := h
 clear h
 obtain ⟨y300, hy300⟩ : ∃ y_ : List Int, y_ = (([] : List Int)) := ⟨_, rfl⟩
 replace H : (if y300.length + l0_1.length < 17592186044416 then ((some (([] : List (S98)) : List (S98))).bind fun y306 => (if y306.length + l0_2.length < 4398046511104 then (some (a0_0, (y300 ++ l0_1), (y306 ++ l0_2))) else (none))) else (none)) = some (r1, r2, r3) := by first | (rw [hy300]; with_reducible exact H) | (have H2_ := (Option.bind_some _ _).symm.trans H; rw [hy300]; with_reducible exact H2_) | (have H2_ := (Option.bind_some _ _).symm.trans H; with_reducible exact H2_) | with_reducible exact H | (rw [hy300]; exact H) | exact H
 have Ny300 := Aside0.mk hy300
 clear hy300
 by_cases c2 : y300.length + l0_1.length < 17592186044416
 ·rw [if_pos c2] at H
  have LMc2 := Aside0.mk c2
  clear c2
  obtain ⟨y303, hy303⟩ : ∃ y_ : List Int, y_ = (y300 ++ l0_1) := ⟨_, rfl⟩
  replace H : ((some (([] : List (S98)) : List (S98))).bind fun y306 => (if y306.length + l0_2.length < 4398046511104 then (some (a0_0, y303, (y306 ++ l0_2))) else (none))) = some (r1, r2, r3) := by first | (rw [hy303]; with_reducible exact H) | (have H2_ := (Option.bind_some _ _).symm.trans H; rw [hy303]; with_reducible exact H2_) | (have H2_ := (Option.bind_some _ _).symm.trans H; with_reducible exact H2_) | with_reducible exact H | (rw [hy303]; exact H) | exact H
  have Ny303 := Aside0.mk hy303
  clear hy303
  obtain ⟨y306, hy306⟩ : ∃ y_ : List (S98), y_ = (([] : List (S98))) := ⟨_, rfl⟩
  replace H : (if y306.length + l0_2.length < 4398046511104 then (some (a0_0, y303, (y306 ++ l0_2))) else (none)) = some (r1, r2, r3) := by first | (rw [hy306]; with_reducible exact H) | (have H2_ := (Option.bind_some _ _).symm.trans H; rw [hy306]; with_reducible exact H2_) | (have H2_ := (Option.bind_some _ _).symm.trans H; with_reducible exact H2_) | with_reducible exact H | (rw [hy306]; exact H) | exact H
  have Ny306 := Aside0.mk hy306
  clear hy306
  by_cases c3 : y306.length + l0_2.length < 4398046511104
  ·rw [if_pos c3] at H
   have LMc3 := Aside0.mk c3
   clear c3
   obtain ⟨y309, hy309⟩ : ∃ y_ : List (S98), y_ = (y306 ++ l0_2) := ⟨_, rfl⟩
   replace H : (some (a0_0, y303, y309)) = some (r1, r2, r3) := by first | (rw [hy309]; with_reducible exact H) | (have H2_ := (Option.bind_some _ _).symm.trans H; rw [hy309]; with_reducible exact H2_) | (have H2_ := (Option.bind_some _ _).symm.trans H; with_reducible exact H2_) | with_reducible exact H | (rw [hy309]; exact H) | exact H
   have Ny309 := Aside0.mk hy309
   clear hy309
   simp only [Option.some.injEq, Prod.mk.injEq] at H
   obtain ⟨rfl, rfl, rfl⟩ := H
   go_enter Try.func86, Try.ntmps86
   try go_wp2_with (first | ((with_reducible refine gate_dst (N := 1) rfl ?_); refine bx (cs := #[.int .i64 a0_0, .slice A0_1 l0_1.length c0_1, .slice A0_2 l0_2.length c0_2]) (t := 41) fun gb298 hg w4 hbox hb => ?_; have BK298 := Aside0.mk (hbox); have GW298 := Aside0.mk (gs HB.out hg); have GE298 := Aside0.mk (gs HB.out hg); replace HB := Aside0.mk (below_step (bl HB.out) hb); clear hb hbox hg) | ((with_reducible refine gate_dst (N := 2) rfl ?_); refine bx (cs := #[.int .i64 0, .slice none 0 0, .slice none 0 0]) (t := 41) fun gb299 hg w5 hbox hb => ?_; have BK299 := Aside0.mk (hbox); have GW299 := Aside0.mk (gs HB.out hg); have GE299 := Aside0.mk (gs HB.out hg); replace HB := Aside0.mk (below_step (bl HB.out) hb); have NB298_299 := Aside0.mk ((nl BK298.out hg)); have NB299_298 := Aside0.mk ((ng BK298.out hg)); replace BK298 := Aside0.mk (bb BK298.out hb); clear hb hbox hg))
   replace BK298 := Aside0.mk (blk_drew BK298.out)
   replace BK299 := Aside0.mk (blk_drew BK299.out)
   replace HB := Aside0.mk (below_drew1 HB.out)
   refine start_ (n := 12) (S := fun w' => w'.cell? ⟨gb298, 0, none⟩ = some (.int .i64 a0_0) ∧ w'.cell? ⟨gb298, 1, none⟩ = some (.slice A0_1 l0_1.length c0_1) ∧ w'.cell? ⟨gb298, 2, none⟩ = some (.slice A0_2 l0_2.length c0_2)) (ds := []) #[false, false, false, false, false, false, false, false, false, false, false, false] (by kernel_rfl) rfl rfl ⟨(blk_cell BK298.out 0).trans rfl, (blk_cell BK298.out 1).trans rfl, (blk_cell BK298.out 2).trans rfl⟩ (fun hHeld => ?_); refine with_tabW spec_l02Copy.tab1 spec_l02Copy.bits1 (fun HT_ HW_ => ?_)
   generalize w5.drew = w6 at BK298 BK299 HB hHeld ⊢
   refine puA (i := 0) (N := some 3) HT_.out ?_
   refine puA (i := 3) (N := some 6) HT_.out ?_
   refine puA (i := 7) (N := some 10) HT_.out ?_
   refine tkA3 (i := 1) (N := some 4) HT_.out HW_.out hHeld ?_
   refine tkA3 (i := 4) (N := some 7) HT_.out HW_.out hHeld ?_
   refine tkA3 (i := 8) (N := some 11) HT_.out HW_.out hHeld ?_
   refine join_ (σ := Value × Value × Value) 3 #[true, true, true, true, true, true, true, true, true, false, false, false] (fun s_ => [(5, s_.1), (8, s_.2.1), (9, s_.2.2)]) (fun s_ w' => (w'.cell? ⟨gb298, 0, none⟩ = some (.int .i64 a0_0) ∧ w'.cell? ⟨gb298, 1, none⟩ = some (.slice A0_1 l0_1.length c0_1) ∧ w'.cell? ⟨gb298, 2, none⟩ = some (.slice A0_2 l0_2.length c0_2)) ∧ (Kd.R (Kd.int .i64) 3 w' w.heap.size (fun _ => True) s_.2.1 y303) ∧ (Kd.R k98 98 w' w.heap.size (fun _ => True) s_.2.2 y306) ∧ (w'.heap[gb298]? = some (.cells #[.int .i64 a0_0, .slice A0_1 l0_1.length c0_1, .slice A0_2 l0_2.length c0_2] 41 (0, 0))) ∧ (w'.heap[gb299]? = some (.cells #[.int .i64 0, .slice none 0 0, .slice none 0 0] 41 (0, 0))) ∧ (Below w.heap.size w w')) ?_ ?_
   rotate_left
   ·intro hCont
    refine two_ (i := 2) (j := 6) (Ni := some 5) (Nj := some 9) #[true, true, true, true, true, false, false, true, true, false, false, false] #[true, true, false, true, true, false, true, true, true, false, false, false] rfl rfl rfl rfl (two_of HT_.out (by kernel_rfl)) (by decide) (by decide) (fun K hK => ?_) (fun K hK => ?_)
    ·skip
     refine Kd.R_lit_step (Kd.int .i64) _ 3 ?hg (N := 5) ?hd (xs := ([] : List Int)) (inner := []) (ok := fun _ => True) (okp := fun _ => True) ?hr ?hp (fun _ hk => hk) trivial (Below.refl _ _) (Nat.le_refl _) (by simp) ?_; (case hd => rfl); (case hg => rfl); (case hr => first | (go_simp; done) | (go_simp; rfl)); (case hp => exact (Reps.none _ _))
     intro v301 w7 ho8 hb hg_ hnew_
     clear hg_ hnew_
     (first | rw [← Ny300.out] at ho8 | (simp only [Int.reduceToNat] at ho8; rw [← Ny300.out] at ho8))
     have HO302 := Aside0.mk (Kd.R_lower ho8 (below_size (bl HB.out)))
     replace BK298 := Aside0.mk (bb BK298.out hb)
     replace BK299 := Aside0.mk (bb BK299.out hb)
     replace HB := Aside0.mk (below_step (bl HB.out) hb)
     clear hb ho8
     refine hK.out _ _ ⟨(blk_cell BK298.out 0).trans rfl, (blk_cell BK298.out 1).trans rfl, (blk_cell BK298.out 2).trans rfl⟩ (fun hHeld => ?_)
     clear hK K
     refine norm_ (a' := ?_) ?_ ?_
     rotate_left
     ·show Act.put _ (some 5) _ = _
      simp only [Act.put, List.setIfInBounds_toArray, List.set_cons_zero, List.set_cons_succ, i64_w, i32_w]
      rfl
     refine two_ (i := 5) (j := 6) (Ni := some 8) (Nj := some 9) #[true, true, true, true, true, true, false, true, true, false, false, false] #[true, true, true, true, true, false, true, true, true, false, false, false] rfl rfl rfl rfl (two_of HT_.out (by kernel_rfl)) (by decide) (by decide) (fun K hK => ?_) (fun K hK => ?_)
     ·skip
      refine Kd.R_append_rows_step (Kd.int .i64) (w0 := w) w.heap.size (by rfl) (.tmp 5) (.tmp 7) 38 3 (.int .i64 0) 8 rfl Try.underlying38 info3 rfl (by decide) (by omega) v301 y300 l0_1 _ _ _ (fun _ => True) (fun _ => False) rfl rfl ?aO ?aR (fun _ _ h => h) (fun _ h => h.elim) ?aF ?aB ?aS ?aL ?_
      (case aR => exact cb (Kd.C_below HR0_1.out HB.out))
      (case aB => exact (bl HB.out))
      (case aF => exact (fun _ _ => trivial))
      (case aO => exact (rk HO302.out))
      (case aS => exact (below_size (bl HB.out)))
      (case aL => have := LMc2.out; omega)
      intro v304 w9 ho hb hg hat
      rw [← Ny303.out] at ho
      replace BK298 := Aside0.mk (blk_grown (g := gb298) (o := .cells #[.int .i64 a0_0, .slice A0_1 l0_1.length c0_1, .slice A0_2 l0_2.length c0_2] 41 (0, 0)) (bk BK298.out) hg (Kd.R_ne HO302.out BK298.out (by decide)))
      replace BK299 := Aside0.mk (blk_grown (g := gb299) (o := .cells #[.int .i64 0, .slice none 0 0, .slice none 0 0] 41 (0, 0)) (bk BK299.out) hg (Kd.R_ne HO302.out BK299.out (by decide)))
      replace HB := Aside0.mk (hb)
      have HO305 := Aside0.mk (ho)
      clear HO302
      clear ho hb hg hat
      refine hK.out _ _ ⟨(blk_cell BK298.out 0).trans rfl, (blk_cell BK298.out 1).trans rfl, (blk_cell BK298.out 2).trans rfl⟩ (fun hHeld => ?_)
      clear hK K
      refine norm_ (a' := ?_) ?_ ?_
      rotate_left
      ·show Act.put _ (some 8) _ = _
       simp only [Act.put, List.setIfInBounds_toArray, List.set_cons_zero, List.set_cons_succ, i64_w, i32_w]
       rfl
      refine onA (i := 6) (N := some 9) HT_.out (fun K hK => ?_)
      refine Kd.R_lit_step k98 _ 98 ?hg (N := 9) ?hd (xs := ([] : List (S98))) (inner := []) (ok := fun _ => True) (okp := fun _ => True) ?hr ?hp (fun _ hk => hk) trivial (Below.refl _ _) (Nat.le_refl _) (by simp) ?_; (case hd => rfl); (case hg => rfl); (case hr => first | (go_simp; done) | (go_simp; rfl)); (case hp => exact (Reps.none _ _))
      intro v307 w10 ho11 hb hg_ hnew_
      clear hg_ hnew_
      (first | rw [← Ny306.out] at ho11 | (simp only [Int.reduceToNat] at ho11; rw [← Ny306.out] at ho11))
      replace HO305 := Aside0.mk (Kd.R_below (rk HO305.out) hb)
      have HO308 := Aside0.mk (Kd.R_lower ho11 (below_size (bl HB.out)))
      replace BK298 := Aside0.mk (bb BK298.out hb)
      replace BK299 := Aside0.mk (bb BK299.out hb)
      replace HB := Aside0.mk (below_step (bl HB.out) hb)
      clear hb ho11
      refine hK.out _ _ ⟨(blk_cell BK298.out 0).trans rfl, (blk_cell BK298.out 1).trans rfl, (blk_cell BK298.out 2).trans rfl⟩ (fun hHeld => ?_)
      clear hK K
      refine norm_ (a' := ?_) ?_ ?_
      rotate_left
      ·show Act.put _ (some 9) _ = _
       simp only [Act.put, List.setIfInBounds_toArray, List.set_cons_zero, List.set_cons_succ, i64_w, i32_w]
       rfl
      exact norm_ (by simp only [putAll, Act.put, List.setIfInBounds_toArray, List.set_cons_zero, List.set_cons_succ]) (hCont (v301, v304, v307) _ ⟨hHeld, (rk HO305.out), (rk HO308.out), (bk BK298.out), (bk BK299.out), (bl HB.out)⟩)
     ·skip
      refine Kd.R_lit_step k98 _ 98 ?hg (N := 9) ?hd (xs := ([] : List (S98))) (inner := []) (ok := fun _ => True) (okp := fun _ => True) ?hr ?hp (fun _ hk => hk) trivial (Below.refl _ _) (Nat.le_refl _) (by simp) ?_; (case hd => rfl); (case hg => rfl); (case hr => first | (go_simp; done) | (go_simp; rfl)); (case hp => exact (Reps.none _ _))
      intro v307 w9 ho10 hb hg_ hnew_
      clear hg_ hnew_
      (first | rw [← Ny306.out] at ho10 | (simp only [Int.reduceToNat] at ho10; rw [← Ny306.out] at ho10))
      replace HO302 := Aside0.mk (Kd.R_below (rk HO302.out) hb)
      have HO308 := Aside0.mk (Kd.R_lower ho10 (below_size (bl HB.out)))
      replace BK298 := Aside0.mk (bb BK298.out hb)
      replace BK299 := Aside0.mk (bb BK299.out hb)
      replace HB := Aside0.mk (below_step (bl HB.out) hb)
      clear hb ho10
      refine hK.out _ _ ⟨(blk_cell BK298.out 0).trans rfl, (blk_cell BK298.out 1).trans rfl, (blk_cell BK298.out 2).trans rfl⟩ (fun hHeld => ?_)
      clear hK K
      refine norm_ (a' := ?_) ?_ ?_
      rotate_left
      ·show Act.put _ (some 9) _ = _
       simp only [Act.put, List.setIfInBounds_toArray, List.set_cons_zero, List.set_cons_succ, i64_w, i32_w]
       rfl
      refine onA (i := 5) (N := some 8) HT_.out (fun K hK => ?_)
      refine Kd.R_append_rows_step (Kd.int .i64) (w0 := w) w.heap.size (by rfl) (.tmp 5) (.tmp 7) 38 3 (.int .i64 0) 8 rfl Try.underlying38 info3 rfl (by decide) (by omega) v301 y300 l0_1 _ _ _ (fun _ => True) (fun _ => False) rfl rfl ?aO ?aR (fun _ _ h => h) (fun _ h => h.elim) ?aF ?aB ?aS ?aL ?_
      (case aR => exact cb (Kd.C_below HR0_1.out HB.out))
      (case aB => exact (bl HB.out))
      (case aF => exact (fun _ _ => trivial))
      (case aO => exact (rk HO302.out))
      (case aS => exact (below_size (bl HB.out)))
      (case aL => have := LMc2.out; omega)
      intro v304 w11 ho hb hg hat
      rw [← Ny303.out] at ho
      replace BK298 := Aside0.mk (blk_grown (g := gb298) (o := .cells #[.int .i64 a0_0, .slice A0_1 l0_1.length c0_1, .slice A0_2 l0_2.length c0_2] 41 (0, 0)) (bk BK298.out) hg (Kd.R_ne HO302.out BK298.out (by decide)))
      replace BK299 := Aside0.mk (blk_grown (g := gb299) (o := .cells #[.int .i64 0, .slice none 0 0, .slice none 0 0] 41 (0, 0)) (bk BK299.out) hg (Kd.R_ne HO302.out BK299.out (by decide)))
      replace HO308 := Aside0.mk (Kd.R_over' (rk HO308.out) (Kd.R_typed (rk HO302.out)) (by decide) hg)
      replace HB := Aside0.mk (hb)
      have HO305 := Aside0.mk (ho)
      clear HO302
      clear ho hb hg hat
      refine hK.out _ _ ⟨(blk_cell BK298.out 0).trans rfl, (blk_cell BK298.out 1).trans rfl, (blk_cell BK298.out 2).trans rfl⟩ (fun hHeld => ?_)
      clear hK K
      refine norm_ (a' := ?_) ?_ ?_
      rotate_left
      ·show Act.put _ (some 8) _ = _
       simp only [Act.put, List.setIfInBounds_toArray, List.set_cons_zero, List.set_cons_succ, i64_w, i32_w]
       rfl
      exact norm_ (by simp only [putAll, Act.put, List.setIfInBounds_toArray, List.set_cons_zero, List.set_cons_succ]) (hCont (v301, v304, v307) _ ⟨hHeld, (rk HO305.out), (rk HO308.out), (bk BK298.out), (bk BK299.out), (bl HB.out)⟩)
    ·skip
     refine Kd.R_lit_step k98 _ 98 ?hg (N := 9) ?hd (xs := ([] : List (S98))) (inner := []) (ok := fun _ => True) (okp := fun _ => True) ?hr ?hp (fun _ hk => hk) trivial (Below.refl _ _) (Nat.le_refl _) (by simp) ?_; (case hd => rfl); (case hg => rfl); (case hr => first | (go_simp; done) | (go_simp; rfl)); (case hp => exact (Reps.none _ _))
     intro v307 w7 ho8 hb hg_ hnew_
     clear hg_ hnew_
     (first | rw [← Ny306.out] at ho8 | (simp only [Int.reduceToNat] at ho8; rw [← Ny306.out] at ho8))
     have HO308 := Aside0.mk (Kd.R_lower ho8 (below_size (bl HB.out)))
     replace BK298 := Aside0.mk (bb BK298.out hb)
     replace BK299 := Aside0.mk (bb BK299.out hb)
     replace HB := Aside0.mk (below_step (bl HB.out) hb)
     clear hb ho8
     refine hK.out _ _ ⟨(blk_cell BK298.out 0).trans rfl, (blk_cell BK298.out 1).trans rfl, (blk_cell BK298.out 2).trans rfl⟩ (fun hHeld => ?_)
     clear hK K
     refine norm_ (a' := ?_) ?_ ?_
     rotate_left
     ·show Act.put _ (some 9) _ = _
      simp only [Act.put, List.setIfInBounds_toArray, List.set_cons_zero, List.set_cons_succ, i64_w, i32_w]
      rfl
     refine onA (i := 2) (N := some 5) HT_.out (fun K hK => ?_)
     refine Kd.R_lit_step (Kd.int .i64) _ 3 ?hg (N := 5) ?hd (xs := ([] : List Int)) (inner := []) (ok := fun _ => True) (okp := fun _ => True) ?hr ?hp (fun _ hk => hk) trivial (Below.refl _ _) (Nat.le_refl _) (by simp) ?_; (case hd => rfl); (case hg => rfl); (case hr => first | (go_simp; done) | (go_simp; rfl)); (case hp => exact (Reps.none _ _))
     intro v301 w9 ho10 hb hg_ hnew_
     clear hg_ hnew_
     (first | rw [← Ny300.out] at ho10 | (simp only [Int.reduceToNat] at ho10; rw [← Ny300.out] at ho10))
     replace HO308 := Aside0.mk (Kd.R_below (rk HO308.out) hb)
     have HO302 := Aside0.mk (Kd.R_lower ho10 (below_size (bl HB.out)))
     replace BK298 := Aside0.mk (bb BK298.out hb)
     replace BK299 := Aside0.mk (bb BK299.out hb)
     replace HB := Aside0.mk (below_step (bl HB.out) hb)
     clear hb ho10
     refine hK.out _ _ ⟨(blk_cell BK298.out 0).trans rfl, (blk_cell BK298.out 1).trans rfl, (blk_cell BK298.out 2).trans rfl⟩ (fun hHeld => ?_)
     clear hK K
     refine norm_ (a' := ?_) ?_ ?_
     rotate_left
     ·show Act.put _ (some 5) _ = _
      simp only [Act.put, List.setIfInBounds_toArray, List.set_cons_zero, List.set_cons_succ, i64_w, i32_w]
      rfl
     refine onA (i := 5) (N := some 8) HT_.out (fun K hK => ?_)
     refine Kd.R_append_rows_step (Kd.int .i64) (w0 := w) w.heap.size (by rfl) (.tmp 5) (.tmp 7) 38 3 (.int .i64 0) 8 rfl Try.underlying38 info3 rfl (by decide) (by omega) v301 y300 l0_1 _ _ _ (fun _ => True) (fun _ => False) rfl rfl ?aO ?aR (fun _ _ h => h) (fun _ h => h.elim) ?aF ?aB ?aS ?aL ?_
     (case aR => exact cb (Kd.C_below HR0_1.out HB.out))
     (case aB => exact (bl HB.out))
     (case aF => exact (fun _ _ => trivial))
     (case aO => exact (rk HO302.out))
     (case aS => exact (below_size (bl HB.out)))
     (case aL => have := LMc2.out; omega)
     intro v304 w11 ho hb hg hat
     rw [← Ny303.out] at ho
     replace BK298 := Aside0.mk (blk_grown (g := gb298) (o := .cells #[.int .i64 a0_0, .slice A0_1 l0_1.length c0_1, .slice A0_2 l0_2.length c0_2] 41 (0, 0)) (bk BK298.out) hg (Kd.R_ne HO302.out BK298.out (by decide)))
     replace BK299 := Aside0.mk (blk_grown (g := gb299) (o := .cells #[.int .i64 0, .slice none 0 0, .slice none 0 0] 41 (0, 0)) (bk BK299.out) hg (Kd.R_ne HO302.out BK299.out (by decide)))
     replace HO308 := Aside0.mk (Kd.R_over' (rk HO308.out) (Kd.R_typed (rk HO302.out)) (by decide) hg)
     replace HB := Aside0.mk (hb)
     have HO305 := Aside0.mk (ho)
     clear HO302
     clear ho hb hg hat
     refine hK.out _ _ ⟨(blk_cell BK298.out 0).trans rfl, (blk_cell BK298.out 1).trans rfl, (blk_cell BK298.out 2).trans rfl⟩ (fun hHeld => ?_)
     clear hK K
     refine norm_ (a' := ?_) ?_ ?_
     rotate_left
     ·show Act.put _ (some 8) _ = _
      simp only [Act.put, List.setIfInBounds_toArray, List.set_cons_zero, List.set_cons_succ, i64_w, i32_w]
      rfl
     exact norm_ (by simp only [putAll, Act.put, List.setIfInBounds_toArray, List.set_cons_zero, List.set_cons_succ]) (hCont (v301, v304, v307) _ ⟨hHeld, (rk HO305.out), (rk HO308.out), (bk BK298.out), (bk BK299.out), (bl HB.out)⟩)
   rintro ⟨v301, v304, v307⟩ w12 ⟨hS_, h0_, h1_, h2_, h3_, h4_⟩
   have n0_ : Aside0 (Kd.R (Kd.int .i64) 3 w12 w.heap.size (fun _ => True) v304 y303) := ⟨h0_⟩
   have n1_ : Aside0 (Kd.R k98 98 w12 w.heap.size (fun _ => True) v307 y306) := ⟨h1_⟩
   have n2_ : Aside0 (w12.heap[gb298]? = some (.cells #[.int .i64 a0_0, .slice A0_1 l0_1.length c0_1, .slice A0_2 l0_2.length c0_2] 41 (0, 0))) := ⟨h2_⟩
   have n3_ : Aside0 (w12.heap[gb299]? = some (.cells #[.int .i64 0, .slice none 0 0, .slice none 0 0] 41 (0, 0))) := ⟨h3_⟩
   have n4_ : Aside0 (Below w.heap.size w w12) := ⟨h4_⟩
   clear BK298
   clear BK299
   clear HB
   clear h0_ h1_ h2_ h3_ h4_
   have HO305 := n0_
   have HO308 := n1_
   have BK298 := n2_
   have BK299 := n3_
   have HB := n4_
   clear n0_ n1_ n2_ n3_ n4_
   have hHeld : w12.cell? ⟨gb298, 0, none⟩ = some (.int .i64 a0_0) ∧ w12.cell? ⟨gb298, 1, none⟩ = some (.slice A0_1 l0_1.length c0_1) ∧ w12.cell? ⟨gb298, 2, none⟩ = some (.slice A0_2 l0_2.length c0_2) := hS_
   refine norm_ (a' := ?_) ?_ ?_
   rotate_left
   ·simp only [putAll, Act.put, List.setIfInBounds_toArray, List.set_cons_zero, List.set_cons_succ]
    rfl
   refine onA (i := 9) (N := some 12) HT_.out (fun K hK => ?_)
   refine Kd.R_append_rows_step k98 (w0 := w) w.heap.size (by rfl) (.tmp 9) (.tmp 11) 39 98 (.agg #[(.int .i64 0), (.int .i64 0), (.int .i64 0), (.bool false)]) 32 rfl Try.underlying39 info98 rfl (by decide) (by omega) v307 y306 l0_2 _ _ _ (fun _ => True) (fun _ => False) rfl rfl ?aO ?aR (fun _ _ h => h) (fun _ h => h.elim) ?aF ?aB ?aS ?aL ?_
   (case aR => exact cb (Kd.C_below HR0_2.out HB.out))
   (case aB => exact (bl HB.out))
   (case aF => exact (fun _ _ => trivial))
   (case aO => exact (rk HO308.out))
   (case aS => exact (below_size (bl HB.out)))
   (case aL => have := LMc3.out; omega)
   intro v310 w13 ho hb hg hat
   rw [← Ny309.out] at ho
   replace BK298 := Aside0.mk (blk_grown (g := gb298) (o := .cells #[.int .i64 a0_0, .slice A0_1 l0_1.length c0_1, .slice A0_2 l0_2.length c0_2] 41 (0, 0)) (bk BK298.out) hg (Kd.R_ne HO308.out BK298.out (by decide)))
   replace BK299 := Aside0.mk (blk_grown (g := gb299) (o := .cells #[.int .i64 0, .slice none 0 0, .slice none 0 0] 41 (0, 0)) (bk BK299.out) hg (Kd.R_ne HO308.out BK299.out (by decide)))
   replace HO305 := Aside0.mk (Kd.R_over' (rk HO305.out) (Kd.R_typed (rk HO308.out)) (by decide) hg)
   replace HB := Aside0.mk (hb)
   have HO311 := Aside0.mk (ho)
   clear HO308
   clear ho hb hg hat
   obtain ⟨Ao14, co14, eo14⟩ := Kd.R_slice HO311.out
   (first | subst eo14 | (injection eo14 with f1_ f2_ f3_; have f4_ := f1_.symm; have f5_ := f3_.symm; clear f1_ f2_ f3_; subst f4_; subst f5_))
   obtain ⟨Ao15, co15, eo15⟩ := Kd.R_slice HO305.out
   (first | subst eo15 | (injection eo15 with f1_ f2_ f3_; have f4_ := f1_.symm; have f5_ := f3_.symm; clear f1_ f2_ f3_; subst f4_; subst f5_))
   refine hK.out _ _ ⟨(blk_cell BK298.out 0).trans rfl, (blk_cell BK298.out 1).trans rfl, (blk_cell BK298.out 2).trans rfl⟩ (fun hHeld => ?_)
   clear hK K
   refine norm_ (a' := ?_) ?_ ?_
   rotate_left
   ·show Act.put _ (some 12) _ = _
    simp only [Act.put, List.setIfInBounds_toArray, List.set_cons_zero, List.set_cons_succ, i64_w, i32_w]
    rfl
   refine puA (i := 10) (N := some 13) HT_.out ?_
   refine onA (i := 11) (N := none) HT_.out (fun K hK => ?_)
   have hs16 : w13.cell? ⟨gb299, 0, none⟩ = some (.int .i64 0) := (blk_cell BK299.out 0).trans rfl
   have hfs16 := blk_frozen BK299.out 0
   have hns16_0 := NB298_299.out
   have hms16_0 := NB299_298.out
   have hs17 : w13.cell? ⟨gb299, 1, none⟩ = some (.slice none 0 0) := (blk_cell BK299.out 1).trans rfl
   have hfs17 := blk_frozen BK299.out 1
   have hns17_0 := NB298_299.out
   have hms17_0 := NB299_298.out
   have hs18 : w13.cell? ⟨gb299, 2, none⟩ = some (.slice none 0 0) := (blk_cell BK299.out 2).trans rfl
   have hfs18 := blk_frozen BK299.out 2
   have hns18_0 := NB298_299.out
   have hms18_0 := NB299_298.out
   refine skip_ (w1 := ?_) (by rfl) rfl ?_ ?_
   rotate_left
   ·go_simp
    rfl
   refine hK.out _ _ ⟨((cell_far (p := ⟨gb299, _, none⟩) NB298_299.out _).trans (((cell_far (p := ⟨gb299, _, none⟩) NB298_299.out _).trans (((cell_far (p := ⟨gb299, _, none⟩) NB298_299.out _).trans (hHeld.1)))))), ((cell_far (p := ⟨gb299, _, none⟩) NB298_299.out _).trans (((cell_far (p := ⟨gb299, _, none⟩) NB298_299.out _).trans (((cell_far (p := ⟨gb299, _, none⟩) NB298_299.out _).trans (hHeld.2.1)))))), ((cell_far (p := ⟨gb299, _, none⟩) NB298_299.out _).trans (((cell_far (p := ⟨gb299, _, none⟩) NB298_299.out _).trans (((cell_far (p := ⟨gb299, _, none⟩) NB298_299.out _).trans (hHeld.2.2))))))⟩ (fun hHeld => ?_)
   clear hK K
   refine done_ (done_of HT_.out (by kernel_rfl)) ?_
   try go_wp2
   refine bodyPost_ret (results_cell_row rfl _ _ gb299 41 #[.int .i64 a0_0, .slice Ao15 y303.length co15, .slice Ao14 y309.length co14] (0, 0) _ rfl (by refine bk ?_; refine blk_put (cs := #[.int .i64 a0_0, .slice Ao15 y303.length co15, .slice none 0 0]) ?_ 2 _ rfl; refine bk ?_; refine blk_put (cs := #[.int .i64 a0_0, .slice none 0 0, .slice none 0 0]) ?_ 1 _ rfl; refine bk ?_; refine blk_put (cs := #[.int .i64 0, .slice none 0 0, .slice none 0 0]) ?_ 0 _ rfl; refine bk ?_; exact BK299.out) Try.underlying41 rfl (by kernel_rfl)) rfl ?_
   exact ⟨_, _, by first | rfl | (simp [errW_none, errW_some] <;> rfl) | (simp [*, errW_none, errW_some] <;> rfl), by refine rk ?_; exact Kd.R_mono (Kd.R_far (p := ⟨gb299, 2, none⟩) (Kd.R_far (p := ⟨gb299, 1, none⟩) (Kd.R_far (p := ⟨gb299, 0, none⟩) (Kd.R_types HO305.out BK299.out (by decide)) (fun _ hk => hk.2) (.int .i64 a0_0)) (fun _ hk => hk.2) (.slice Ao15 y303.length co15)) (fun _ hk => hk.2) (.slice Ao14 y309.length co14)) (fun _ hk => trivial), by refine rk ?_; exact Kd.R_mono (Kd.R_far (p := ⟨gb299, 2, none⟩) (Kd.R_far (p := ⟨gb299, 1, none⟩) (Kd.R_far (p := ⟨gb299, 0, none⟩) (Kd.R_types HO311.out BK299.out (by decide)) (fun _ hk => hk.2) (.int .i64 a0_0)) (fun _ hk => hk.2) (.slice Ao15 y303.length co15)) (fun _ hk => hk.2) (.slice Ao14 y309.length co14)) (fun _ hk => trivial), bl HB.out⟩
  ·rw [if_neg c3] at H
   exact absurd H (by simp)
 ·rw [if_neg c2] at H
  exact absurd H (by simp)
def spec_l02CopyBank.l0 : Nat → List (S41) → List (S41) → Int → Option ((List (S41)))
 | 0, _, _, _ => none
 | k + 1, x0, x3, x4 => if x4 < (x0.length : Int) then (if 0 ≤ x4 then ((spec_l02Copy.f ((rd_T41 x0 x4).f0) ((rd_T41 x0 x4).f1) ((rd_T41 x0 x4).f2)).bind fun bt316 => (if x3.length < 2513169434916 then (spec_l02CopyBank.l0 k x0 (x3 ++ [(⟨bt316.1, bt316.2.1, bt316.2.2⟩ : S41)]) (wrap64 (x4 + 1))) else (none))) else (none)) else (some x3)
def spec_l02CopyBank.f (k : Nat) (l0 : List (S41)) : Option ((List (S41))) := spec_l02CopyBank.l0 k l0 (([] : List (S41))) 0
set_option maxHeartbeats 8000000 in
set_option maxRecDepth 100000 in
theorem spec_l02CopyBank.calls (k : Nat) (A0 : Option Addr) (c0 : Nat) (l0 : List (S41)) (r : List (S41)) (w : World) (hr0 : Kd.C k41 w A0 l0.length l0) (hc0 : l0.length ≤ c0) (h : spec_l02CopyBank.f k l0 = some r) :
  Calls Try.prog 69 #[.slice A0 l0.length c0] w fun e w' => ∃ v0_ : Value, e = .returned (v0_) ∧ Kd.S k41 41 w' w.heap.size (fun _ => True) v0_ r ∧ Below w.heap.size w w' := by
 have hu41 := Try.underlying41
 have HR0 := Aside0.mk hr0
 have HC0 := Aside0.mk hc0
 clear hr0 hc0
 have HB := Aside0.mk (Below.refl w.heap.size w)
 have H : (spec_l02CopyBank.l0 k l0 (([] : List (S41))) 0) = some r := h
 clear h
 obtain ⟨y312, hy312⟩ : ∃ y_ : List (S41), y_ = (([] : List (S41))) := ⟨_, rfl⟩
 replace H : (spec_l02CopyBank.l0 k l0 y312 0) = some r := by first | (rw [hy312]; with_reducible exact H) | (have H2_ := (Option.bind_some _ _).symm.trans H; rw [hy312]; with_reducible exact H2_) | (have H2_ := (Option.bind_some _ _).symm.trans H; with_reducible exact H2_) | with_reducible exact H | (rw [hy312]; exact H) | exact H
 have Ny312 := Aside0.mk hy312
 clear hy312
 have H' := Aside0.mk H
 clear H
 go_enter Try.func69, Try.ntmps69
 go_wp2_with (first | ((with_reducible refine gate_dst (N := 6) rfl ?_); refine Kd.S_lit k41 _ 41 ?hg (N := 6) ?hd (xs := ([] : List (S41))) (inner := []) (ok := fun _ => True) (okp := fun _ => True) ?hr ?hp (fun _ hk => hk) trivial (Below.refl _ _) (Nat.le_refl _) (by simp) ?_; (case hd => rfl); (case hg => rfl); (case hr => first | (go_simp; done) | (go_simp; rfl)); (case hp => exact (Reps.none _ _)); intro v313 w2 ho3 hb hg_ hnew_; clear hg_ hnew_; (first | rw [← Ny312.out] at ho3 | (simp only [Int.reduceToNat] at ho3; rw [← Ny312.out] at ho3)); have HO314 := Aside0.mk (Kd.S_lower ho3 (below_size (bl HB.out))); replace HB := Aside0.mk (below_step (bl HB.out) hb); clear hb ho3))
 go_loopg [3, 4] k (fun kq v3 v4 w' => ∃ (x3_1 : List (S41)) (x4_1 : Int), v4 = .int .i64 x4_1 ∧ Aside0 (spec_l02CopyBank.l0 kq l0 x3_1 x4_1 = some r) ∧ Aside0 (kq ≤ k) ∧ Aside0 (Kd.S k41 41 w' w.heap.size (fun _ => True) v3 x3_1) ∧ Aside0 (Below w.heap.size w w'))
 case atStart => exact ⟨(y312), (0), (by first | rfl | (simp; done) | (simp [*]; done)), H', ⟨Nat.le_refl _⟩, ⟨by (with_reducible repeat (first | apply Kd.S_alloc | apply Kd.S_drewN | apply Kd.S_drew)); exact HO314.out⟩, ⟨bl HB.out⟩⟩
 case round =>
  clear H'
  try clear p2
  obtain ⟨x3_1, x4_1, rfl, HA, HK1, HO_3, HB⟩ := hrel
  cases gk with
  | zero => exact absurd HA.out (by simp [spec_l02CopyBank.l0])
  | succ k1 =>
   have H := HA.out
   clear HA
   simp only [spec_l02CopyBank.l0] at H
   by_cases c4 : x4_1 < (l0.length : Int)
   ·rw [if_pos c4] at H
    have c4b0 : decide (x4_1 < (l0.length : Int)) = true := decide_eq_true c4
    clear c4
    by_cases c5 : 0 ≤ x4_1
    ·rw [if_pos c5] at H
     have c5b0 : decide (0 ≤ x4_1) = true := decide_eq_true c5
     clear c5
     replace H := Option.bind_eq_some_iff.mp H
     obtain ⟨⟨t316, t317, t320⟩, A60, H⟩ := H
     try dsimp only at H
     have A6 := Aside0.mk A60
     clear A60
     by_cases c7 : x3_1.length < 2513169434916
     ·rw [if_pos c7] at H
      have LMc7 := Aside0.mk c7
      clear c7
      obtain ⟨y324, hy324⟩ : ∃ y_ : List (S41), y_ = (x3_1 ++ [(⟨t316, t317, t320⟩ : S41)]) := ⟨_, rfl⟩
      replace H : (spec_l02CopyBank.l0 k1 l0 y324 (wrap64 (x4_1 + 1))) = some r := by first | (rw [hy324]; with_reducible exact H) | (have H2_ := (Option.bind_some _ _).symm.trans H; rw [hy324]; with_reducible exact H2_) | (have H2_ := (Option.bind_some _ _).symm.trans H; with_reducible exact H2_) | with_reducible exact H | (rw [hy324]; exact H) | exact H
      have Ny324 := Aside0.mk hy324
      clear hy324
      have H' := Aside0.mk H
      clear H
      have p315 : 0 ≤ (x4_1 : Int) := of_decide_eq_true asm
      have q315 : x4_1 < (l0.length : Int) := of_decide_eq_true asm
      obtain ⟨ad315, A315_1, c315_1, A315_2, c315_2, e315, hx315_0, hx315_1, hx315_2, hl315_1, hi315_1, hl315_2, hi315_2⟩ := at_T41 HR0.out x4_1 p315 q315
      cases e315
      replace hx315_0 := (HB.out.cell (World.block_lt_of_cell? w _ hx315_0)).trans hx315_0
      replace hx315_1 := (HB.out.cell (World.block_lt_of_cell? w _ hx315_1)).trans hx315_1
      replace hx315_2 := (HB.out.cell (World.block_lt_of_cell? w _ hx315_2)).trans hx315_2
      have HR315_1 := Aside0.mk hi315_1
      have HC315_1 := Aside0.mk hl315_1
      clear hi315_1 hl315_1
      have HR315_2 := Aside0.mk hi315_2
      have HC315_2 := Aside0.mk hl315_2
      clear hi315_2 hl315_2
      replace p315 := eq_true p315
      replace q315 := eq_true q315
      go_wp2_with (first | ((with_reducible refine gate_callee (f := 86) rfl ?_); refine goesL_ (some 17) rfl rfl Try.func86 (by kernel_rfl) rfl #[.agg #[.int .i64 ((rd_T41 l0 x4_1).f0), .slice A315_1 ((rd_T41 l0 x4_1).f1).length c315_1, .slice A315_2 ((rd_T41 l0 x4_1).f2).length c315_2]] rfl mapd ?_; (with_reducible refine (spec_l02Copy.calls ((rd_T41 l0 x4_1).f0) _ _ ((rd_T41 l0 x4_1).f1) _ _ ((rd_T41 l0 x4_1).f2) t316 t317 t320 _ ?side1 ?side2 ?side3 ?side4 A6.out).mono ?_); (case side1 => exact cb (Kd.C_below HR315_1.out HB.out)); (case side2 => exact HC315_1.out); (case side3 => exact cb (Kd.C_below HR315_2.out HB.out)); (case side4 => exact HC315_2.out); rintro e w8 ⟨v318, v321, rfl, ho0, ho1, hb⟩; refine ⟨_, rfl, ?_⟩; replace HO_3 := Aside0.mk (Kd.S_mono (Kd.S_told (Kd.S_told (Kd.S_old (by (with_reducible repeat (first | apply Kd.S_alloc | apply Kd.S_drewN | apply Kd.S_drew)); exact HO_3.out) hb) (Kd.R_base ho0)) (Kd.R_base ho1)) (fun _ h_ => h_.1)); have HO319 := Aside0.mk (Kd.R_lower ho0 (below_size (bl HB.out))); have HO322 := Aside0.mk (Kd.R_lower ho1 (below_size (bl HB.out))); replace HB := Aside0.mk (below_step (bl HB.out) hb); (try clear hb); (try clear hb2); (try clear hk); (try clear hi); (try clear ho0); (try clear ho1)) | ((with_reducible refine gate_dst (N := 5) rfl ?_); refine bx (cs := #[.int .i64 0, .slice none 0 0, .slice none 0 0]) (t := 41) fun gb323 hg w9 hbox hb => ?_; replace HO_3 := Aside0.mk (Kd.S_below (Kd.S_elderB (by (with_reducible repeat (first | apply Kd.S_alloc | apply Kd.S_drewN | apply Kd.S_drew)); exact HO_3.out) gb323 (Nat.le_of_eq hg.symm)) hb); replace HO319 := Aside0.mk (Kd.R_below (rk HO319.out) hb); replace HO322 := Aside0.mk (Kd.R_below (rk HO322.out) hb); have BK323 := Aside0.mk (hbox); have GW323 := Aside0.mk (gs HB.out hg); have GE323 := Aside0.mk (gs HB.out hg); replace HB := Aside0.mk (below_step (bl HB.out) hb); clear hb hbox hg; obtain ⟨hcz10_0, hcz10_1, hcz10_2, hfz10_0, hfz10_1, hfz10_2⟩ := cz3 BK323.out; obtain ⟨Ao11, co11, eo11⟩ := Kd.R_slice HO319.out; subst eo11; obtain ⟨Ao12, co12, eo12⟩ := Kd.R_slice HO322.out; subst eo12) | ((with_reducible refine gate_store (t := 41) (p := 5) rfl ?_); refine store_event (t := 41) (p := 5) (v := ?vo_w13) (w1 := (((w9.setCell ⟨gb323, 0, none⟩ (.int .i64 t316)).setCell ⟨gb323, 1, none⟩ (.slice Ao11 t317.length co11)).setCell ⟨gb323, 2, none⟩ (.slice Ao12 t320.length co12))) ?hg ?ho ?hn ?hr ?_; (case ho => rfl); (case hg => rfl); (case hn => rfl); (case hr => first | (go_simp; done) | (go_simp; rfl)); intro w13 hw; have n0_ : Aside0 (Kd.S k41 41 w13 w.heap.size (fun k_ => some k_ ≠ (.slice Ao11 t317.length co11 : Value).ownBlock ∧ some k_ ≠ (.slice Ao12 t320.length co12 : Value).ownBlock ∧ k_ ≠ gb323) u3 x3_1) := ⟨(by rw [hw]; exact (by (with_reducible repeat (first | apply Kd.S_alloc | apply Kd.S_drewN | apply Kd.S_drew)); exact Kd.S_mono (Kd.S_far (p := ⟨gb323, 2, none⟩) (Kd.S_far (p := ⟨gb323, 1, none⟩) (Kd.S_far (p := ⟨gb323, 0, none⟩) (Kd.S_mono HO_3.out (fun k_ hk => (⟨hk, hk.2⟩ : _ ∧ k_ ≠ gb323))) (fun _ hk => hk.2) (.int .i64 t316)) (fun _ hk => hk.2) (.slice Ao11 t317.length co11)) (fun _ hk => hk.2) (.slice Ao12 t320.length co12)) (fun _ hk => ⟨hk.1.1.1.2, ⟨hk.1.1.2, hk.1.2⟩⟩)))⟩; have n1_ : Aside0 (Kd.R (Kd.int .i64) 3 w13 w.heap.size (fun _ => True) (.slice Ao11 t317.length co11) t317) := ⟨(by rw [hw]; exact (by refine rk ?_; exact Kd.R_mono (Kd.R_far (p := ⟨gb323, 2, none⟩) (Kd.R_far (p := ⟨gb323, 1, none⟩) (Kd.R_far (p := ⟨gb323, 0, none⟩) (Kd.R_types HO319.out BK323.out (by decide)) (fun _ hk => hk.2) (.int .i64 t316)) (fun _ hk => hk.2) (.slice Ao11 t317.length co11)) (fun _ hk => hk.2) (.slice Ao12 t320.length co12)) (fun _ hk => trivial)))⟩; have n2_ : Aside0 (Kd.R k98 98 w13 w.heap.size (fun _ => True) (.slice Ao12 t320.length co12) t320) := ⟨(by rw [hw]; exact (by refine rk ?_; exact Kd.R_mono (Kd.R_far (p := ⟨gb323, 2, none⟩) (Kd.R_far (p := ⟨gb323, 1, none⟩) (Kd.R_far (p := ⟨gb323, 0, none⟩) (Kd.R_types HO322.out BK323.out (by decide)) (fun _ hk => hk.2) (.int .i64 t316)) (fun _ hk => hk.2) (.slice Ao11 t317.length co11)) (fun _ hk => hk.2) (.slice Ao12 t320.length co12)) (fun _ hk => trivial)))⟩; have n3_ : Aside0 (w13.heap[gb323]? = some (.cells #[.int .i64 t316, .slice Ao11 t317.length co11, .slice Ao12 t320.length co12] 41 (0, 0))) := ⟨(by rw [hw]; exact (by refine bk ?_; refine blk_put (cs := #[.int .i64 t316, .slice Ao11 t317.length co11, .slice none 0 0]) ?_ 2 _ rfl; refine bk ?_; refine blk_put (cs := #[.int .i64 t316, .slice none 0 0, .slice none 0 0]) ?_ 1 _ rfl; refine bk ?_; refine blk_put (cs := #[.int .i64 0, .slice none 0 0, .slice none 0 0]) ?_ 0 _ rfl; refine bk ?_; exact BK323.out))⟩; have n4_ : Aside0 (Below w.heap.size w w13) := ⟨(by rw [hw]; exact (bl HB.out))⟩; clear hw; clear HO_3; clear HO319; clear HO322; clear BK323; clear HB; have HO_3 := n0_; have HO319 := n1_; have HO322 := n2_; have BK323 := n3_; have HB := n4_; clear n0_ n1_ n2_ n3_ n4_; obtain ⟨hcz14_0, hcz14_1, hcz14_2, hfz14_0, hfz14_1, hfz14_2⟩ := cz3 BK323.out) | ((with_reducible refine gate_builtin (b := .append) (xs := #[.tmp 18, .tmp 20]) rfl ?_); at_builtin; refine Kd.S_append k41 (w0 := w) w.heap.size rfl (.tmp 18) (.tmp 20) 26 41 (.agg #[(.int .i64 0), (.slice none 0 0), (.slice none 0 0)]) 56 rfl Try.underlying26 info41 rfl (by decide) (by omega) u3 x3_1 (⟨t316, t317, t320⟩ : S41) [.int .i64 t316, .slice Ao11 t317.length co11, .slice Ao12 t320.length co12] (fun k_ => k_ ≠ gb323) (fun k_ => some k_ = (.slice Ao11 t317.length co11 : Value).ownBlock ∨ some k_ = (.slice Ao12 t320.length co12 : Value).ownBlock) rfl rfl ?aP (fun k_ hk_ => hk_.elim (fun h_ => ((Kd.R_mono (ok' := fun k_ => ((fun k_ => k_ ≠ gb323)) k_ ∧ some k_ ≠ (u3 : Value).ownBlock) (Kd.R_types (Kd.R_apart' (HO319.out) (Kd.S_typed HO_3.out) (by decide)) BK323.out (by decide)) (fun k_ hk => ⟨hk.2, hk.1.2⟩))).1 k_ h_.symm) (fun h_ => ((Kd.R_mono (ok' := fun k_ => ((fun k_ => k_ ≠ gb323)) k_ ∧ some k_ ≠ (u3 : Value).ownBlock) (Kd.R_types (Kd.R_apart' (HO322.out) (Kd.S_typed HO_3.out) (by decide)) BK323.out (by decide)) (fun k_ hk => ⟨hk.2, hk.1.2⟩))).1 k_ h_.symm)) ?aF ?aO ?aB ?aS ?aL ?_; (case aP => exact k41_mkM _ _ _ (⟨t316, t317, t320⟩ : S41) (Kd.R_mono (Kd.R_tight rfl (Kd.R_mono (ok' := fun k_ => ((fun k_ => k_ ≠ gb323)) k_ ∧ some k_ ≠ (u3 : Value).ownBlock) (Kd.R_types (Kd.R_apart' (HO319.out) (Kd.S_typed HO_3.out) (by decide)) BK323.out (by decide)) (fun k_ hk => ⟨hk.2, hk.1.2⟩))) (fun _ h_ => Or.inl h_)) (Kd.R_mono (Kd.R_tight rfl (Kd.R_mono (ok' := fun k_ => ((fun k_ => k_ ≠ gb323)) k_ ∧ some k_ ≠ (u3 : Value).ownBlock) (Kd.R_types (Kd.R_apart' (HO322.out) (Kd.S_typed HO_3.out) (by decide)) BK323.out (by decide)) (fun k_ hk => ⟨hk.2, hk.1.2⟩))) (fun _ h_ => Or.inr (h_)))); (case aB => exact (bl HB.out)); (case aF => exact (fun k_ hk => Kd.freshB (g := gb323) (o := .cells #[.int .i64 t316, .slice Ao11 t317.length co11, .slice Ao12 t320.length co12] 41 (0, 0)) (bk BK323.out) k_ hk)); (case aO => exact (by (with_reducible repeat (first | apply Kd.S_alloc | apply Kd.S_drewN | apply Kd.S_drew)); exact Kd.S_mono HO_3.out (fun k_ hk => ⟨hk.2.2, fun e_ => e_.elim (fun h_ => hk.1 h_) (fun h_ => hk.2.1 h_)⟩))); (case aS => exact (below_size (bl HB.out))); (case aL => have := LMc7.out; omega); intro v325 w15 ho hb hg hat; rw [← Ny324.out] at ho; replace BK323 := Aside0.mk (blk_grown (g := gb323) (o := .cells #[.int .i64 t316, .slice Ao11 t317.length co11, .slice Ao12 t320.length co12] 41 (0, 0)) (bk BK323.out) hg (Kd.S_away HO_3.out (fun _ hk => hk.2.2))); replace HB := Aside0.mk (hb); have HO326 := Aside0.mk (ho); clear HO_3 HO319 HO322; clear ho hb hg hat))
      go_roundg k1
      case measure => have := HK1.out; omega
      case rel => exact ⟨(y324), (wrap64 (x4_1 + 1)), (by first | rfl | (simp; done) | (simp [*]; done)), H', ⟨by have := HK1.out; omega⟩, ⟨by (with_reducible repeat (first | apply Kd.S_alloc | apply Kd.S_drewN | apply Kd.S_drew)); exact Kd.S_mono HO326.out (fun _ hk => trivial)⟩, ⟨bl HB.out⟩⟩
     ·rw [if_neg c7] at H
      exact absurd H (by simp)
    ·rw [if_neg c5] at H
     exact absurd H (by simp)
   ·rw [if_neg c4] at H
    have c4b0 : decide (x4_1 < (l0.length : Int)) = false := decide_eq_false c4
    clear c4
    obtain rfl := Option.some.inj H
    go_wp2
    go_ret
    exact ⟨_, by first | rfl | (simp [errW_none, errW_some] <;> rfl) | (simp [*, errW_none, errW_some] <;> rfl), by (with_reducible repeat (first | apply Kd.S_alloc | apply Kd.S_drewN | apply Kd.S_drew)); exact HO_3.out, bl HB.out⟩
end Go.Proofs.Ytbpjidekjogfeaa.A
