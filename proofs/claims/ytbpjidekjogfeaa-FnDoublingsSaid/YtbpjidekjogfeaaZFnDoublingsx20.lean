/- Used by the law FnDoublings. -/
import Derived.Test.YtbpjidekjogfeaaZFnDoublingsx16
import Derived.Test.YtbpjidekjogfeaaZFnDoublingsx18
import Derived.Test.YtbpjidekjogfeaaZFnDoublingsx19
import Derived.Test.YtbpjidekjogfeaaZFnDoublingsx17
import Derived.Test.YtbpjidekjogfeaaZFnDoublingsh
namespace Go.Proofs.Ytbpjidekjogfeaa.A
open Go.RowKit Go.Proofs.YtbpjidekjogfeaaW.PrintWords Go.Proofs.YtbpjidekjogfeaaW.PrintLast Go.Proofs.YtbpjidekjogfeaaW.PrintMore
attribute [local go_sem] max2_int min2_int max_two min_two max_three min_three max_four min_four   
set_option linter.unusedVariables false
set_option linter.unusedSimpArgs false
def laws_big.f (l0 : List Int) : Option (Bool) := some (decide ((l0.length : Int) > 1048576))
set_option maxHeartbeats 8000000 in
set_option maxRecDepth 100000 in
theorem laws_big.calls (A0 : Option Addr) (c0 : Nat) (l0 : List Int) (r : Bool) (w : World) (hr0 : Kd.C (Kd.int .u8) w A0 l0.length l0) (hc0 : l0.length ≤ c0) (h : laws_big.f l0 = some r) :
  Calls Try.prog 27 #[.slice A0 l0.length c0] w fun e w' => e = .returned (.bool r) ∧ Drawn0 w w' := by
 have HR0 := Aside0.mk hr0
 have HC0 := Aside0.mk hc0
 clear hr0 hc0
 have H : (some (decide ((l0.length : Int) > 1048576))) = some r := h
 clear h
 obtain rfl := Option.some.inj H
 go_enter Try.func27, Try.ntmps27
 go_wp2
 go_ret
 exact ⟨by first | rfl | (simp; done) | (simp [*]; done), by repeat (first | exact Drawn0.refl _ | apply Drawn0.step)⟩
def IsS116 (w0 W : World) (g : Nat) (f0 : List Int) (f1 : Int) (f2 : Int) : Prop := ∃ A0 c0, W.heap[g]? = some (.cells #[.slice A0 f0.length c0, .int .i64 f1, .int .i64 f2] 116 (0, 0)) ∧ w0.heap.size ≤ g ∧ Kd.C (Kd.int .u8) w0 A0 f0.length f0
theorem IsS116.grown {w0 W : World} {g : Nat} {f0 : List Int} {f1 : Int} {f2 : Int} {W1 : World} {row : Option Nat} (h : IsS116 w0 W g f0 f1 f2) (hw : W.grownBy W1 row) (hne : some g ≠ row) : IsS116 w0 W1 g f0 f1 f2 := by
 obtain ⟨A0, c0, hb, hg, hr0⟩ := h
 exact ⟨A0, c0, blk_grown hb hw hne, hg, hr0⟩
theorem IsS116.kept {w0 W : World} {g : Nat} {f0 : List Int} {f1 : Int} {f2 : Int} {W1 : World} {S : Nat → Prop} (h : IsS116 w0 W g f0 f1 f2) (hk : Kept W W1 S) (hne : ¬ S g) : IsS116 w0 W1 g f0 f1 f2 := by
 obtain ⟨A0, c0, hb, hg, hr0⟩ := h
 exact ⟨A0, c0, blk_kept hb hk hne, hg, hr0⟩
theorem IsS116.below {w0 W : World} {g : Nat} {f0 : List Int} {f1 : Int} {f2 : Int} {W1 : World} (h : IsS116 w0 W g f0 f1 f2) (hw : Below W.heap.size W W1) : IsS116 w0 W1 g f0 f1 f2 := h.grown (grown_of_below hw none) (by simp)
theorem IsS116.alloc {w0 W : World} {g : Nat} {f0 : List Int} {f1 : Int} {f2 : Int} (h : IsS116 w0 W g f0 f1 f2) (o : Obj) : IsS116 w0 (W.alloc o) g f0 f1 f2 := h.below (below_alloc (Below.refl _ _) o)
theorem IsS116.drewN {w0 W : World} {g : Nat} {f0 : List Int} {f1 : Int} {f2 : Int} (h : IsS116 w0 W g f0 f1 f2) (m : Nat) : IsS116 w0 (W.drewN m) g f0 f1 f2 := h
theorem IsS116.drew {w0 W : World} {g : Nat} {f0 : List Int} {f1 : Int} {f2 : Int} (h : IsS116 w0 W g f0 f1 f2) : IsS116 w0 W.drew g f0 f1 f2 := h
theorem IsS116.at_ {w0 W : World} {g : Nat} {f0 : List Int} {f1 : Int} {f2 : Int} {w' : World} {m : Nat} (hq : W.drewN m = w') (h : IsS116 w0 W g f0 f1 f2) : IsS116 w0 w' g f0 f1 f2 := by subst hq; exact IsS116.drewN h m
theorem IsS116.apart {w0 W : World} {g : Nat} {f0 : List Int} {f1 : Int} {f2 : Int} {α : Type} {d : Kd α} {e : Nat} {base : Nat} {ok : Nat → Prop} {v : Value} {xs : List α} (h : IsS116 w0 W g f0 f1 f2) (ho : d.R e W base ok v xs) (ht : ∀ q, q ∈ e :: d.E → q ≠ 116) : d.R e W base (fun k => ok k ∧ k ≠ g) v xs := by
 obtain ⟨A0, c0, hb, hg, hr0⟩ := h
 exact Kd.R_types ho hb ht
theorem IsS116.own_ne {w0 W : World} {g : Nat} {f0 : List Int} {f1 : Int} {f2 : Int} {α : Type} {d : Kd α} {e : Nat} {base : Nat} {ok : Nat → Prop} {v : Value} {xs : List α} (h : IsS116 w0 W g f0 f1 f2) (ho : d.R e W base ok v xs) (ht : e ≠ 116) : some g ≠ v.ownBlock := by
 obtain ⟨A0, c0, hb, hg, hr0⟩ := h
 exact Kd.R_ne ho hb ht
theorem IsS116.apartS {w0 W : World} {g : Nat} {f0 : List Int} {f1 : Int} {f2 : Int} {α : Type} {d : Kd α} {e : Nat} {base : Nat} {ok : Nat → Prop} {v : Value} {xs : List α} (h : IsS116 w0 W g f0 f1 f2) (ho : d.S e W base ok v xs) (ht : ∀ q, q ∈ e :: d.E → q ≠ 116) : d.S e W base (fun k => ok k ∧ k ≠ g) v xs := by
 obtain ⟨A0, c0, hb, hg, hr0⟩ := h
 exact Kd.S_types ho hb ht
theorem IsS116.own_neS {w0 W : World} {g : Nat} {f0 : List Int} {f1 : Int} {f2 : Int} {α : Type} {d : Kd α} {e : Nat} {base : Nat} {ok : Nat → Prop} {v : Value} {xs : List α} (h : IsS116 w0 W g f0 f1 f2) (ho : d.S e W base ok v xs) (ht : e ≠ 116) : some g ≠ v.ownBlock := by
 obtain ⟨A0, c0, hb, hg, hr0⟩ := h
 exact Kd.S_ne ho hb ht
theorem IsS116.lt {w0 W : World} {g : Nat} {f0 : List Int} {f1 : Int} {f2 : Int} (h : IsS116 w0 W g f0 f1 f2) : g < W.heap.size := by
 obtain ⟨A0, c0, hb, hg, hr0⟩ := h
 exact blk_lt hb
theorem IsS116.ge {w0 W : World} {g : Nat} {f0 : List Int} {f1 : Int} {f2 : Int} (h : IsS116 w0 W g f0 f1 f2) : w0.heap.size ≤ g := by
 obtain ⟨A0, c0, hb, hg, hr0⟩ := h
 exact hg
theorem IsS116.far {w0 W : World} {g : Nat} {f0 : List Int} {f1 : Int} {f2 : Int} {p : Addr} (h : IsS116 w0 W g f0 f1 f2) (hne : g ≠ p.block) (u : Value) : IsS116 w0 (W.setCell p u) g f0 f1 f2 := by
 obtain ⟨A0, c0, hb, hg, hr0⟩ := h
 exact ⟨A0, c0, blk_far hb hne u, hg, hr0⟩
theorem cellS116_0 {W : World} {g : Nat} {A0 : Option Addr} {c0 : Nat} {f0 : List Int} {f1 : Int} {f2 : Int} (h : W.heap[g]? = some (.cells #[.slice A0 f0.length c0, .int .i64 f1, .int .i64 f2] 116 (0, 0))) : W.cell? ⟨g, 0, none⟩ = some (.slice A0 f0.length c0) := (blk_cell h 0).trans rfl
theorem cellS116_1 {W : World} {g : Nat} {A0 : Option Addr} {c0 : Nat} {f0 : List Int} {f1 : Int} {f2 : Int} (h : W.heap[g]? = some (.cells #[.slice A0 f0.length c0, .int .i64 f1, .int .i64 f2] 116 (0, 0))) : W.cell? ⟨g, 1, none⟩ = some (.int .i64 f1) := (blk_cell h 1).trans rfl
theorem IsS116.set_1 {w0 W : World} {g : Nat} {f0 : List Int} {f1 : Int} {f2 : Int} (h : IsS116 w0 W g f0 f1 f2) (x : Int) : IsS116 w0 (W.setCell ⟨g, 1, none⟩ (.int .i64 x)) g f0 x f2 := by
 obtain ⟨A0, c0, hb, hg, hr0⟩ := h
 exact ⟨A0, c0, by simpa using blk_set hb 1 (.int .i64 x), hg, hr0⟩
theorem cellS116_2 {W : World} {g : Nat} {A0 : Option Addr} {c0 : Nat} {f0 : List Int} {f1 : Int} {f2 : Int} (h : W.heap[g]? = some (.cells #[.slice A0 f0.length c0, .int .i64 f1, .int .i64 f2] 116 (0, 0))) : W.cell? ⟨g, 2, none⟩ = some (.int .i64 f2) := (blk_cell h 2).trans rfl
theorem IsS116.set_2 {w0 W : World} {g : Nat} {f0 : List Int} {f1 : Int} {f2 : Int} (h : IsS116 w0 W g f0 f1 f2) (x : Int) : IsS116 w0 (W.setCell ⟨g, 2, none⟩ (.int .i64 x)) g f0 f1 x := by
 obtain ⟨A0, c0, hb, hg, hr0⟩ := h
 exact ⟨A0, c0, by simpa using blk_set hb 2 (.int .i64 x), hg, hr0⟩
theorem IsS116.new (w0 W : World) (A0 : Option Addr) (c0 : Nat) (f0 : List Int) (f1 : Int) (f2 : Int) (hB : Below w0.heap.size w0 W) (hr0 : Kd.C (Kd.int .u8) w0 A0 f0.length f0) : IsS116 w0 (W.alloc (.cells #[.slice A0 f0.length c0, .int .i64 f1, .int .i64 f2] 116)) W.heap.size f0 f1 f2 := ⟨A0, c0, by simpa using heap_alloc_new W _, hB.size, hr0⟩
def spec_l01New.l0 : Nat → List Int → Int → Int → Option (List Int × Int × Int)
 | 0, _, _, _ => none
 | k + 1, x0, x3, x4 => if x4 < (x0.length : Int) then (if x4 < 4000 then (if 0 ≤ x4 then (spec_l01New.l0 k x0 (Go.bits .and .i64 (wrap64 ((wrap64 ((wrap64 (x3 * 131)) + (wrap64 (rd x0 x4)))) + 7)) 1073741823) (wrap64 (x4 + 1))) else (none)) else (some (x0, 0, x3))) else (some (x0, 0, x3))
def spec_l01New.f (k : Nat) (l0 : List Int) : Option (List Int × Int × Int) := spec_l01New.l0 k l0 (wrap64 (33183 + (l0.length : Int))) 0
theorem spec_l01New.mono_l : ∀ k, (∀ y0 y1 y2, LeO (spec_l01New.l0 k y0 y1 y2) (spec_l01New.l0 (k + 1) y0 y1 y2))
 | 0 => fun _ _ _ r h => by simp [spec_l01New.l0] at h
 | k + 1 => by
  have ih0 := spec_l01New.mono_l k
  ·intro y0 y1 y2
   unfold spec_l01New.l0
   repeat' first
   | (with_reducible exact ih0 _ _ _)
   | (with_reducible exact LeO.refl _)
   | (with_reducible exact LeO.none _)
   | (with_reducible refine LeO.ite ?_ ?_)
   | (with_reducible refine LeO.bind ?_ (fun _ => ?_))
   | exact ih0 _ _ _
   | exact LeO.none _
   | refine LeO.ite ?_ ?_
   | refine LeO.bind ?_ (fun _ => ?_)
theorem spec_l01New.mono : ∀ a0 k, LeO (spec_l01New.f k a0) (spec_l01New.f (k + 1) a0) := by
 intro a0 k
 have ih0 := spec_l01New.mono_l k
 unfold spec_l01New.f
 repeat' first
   | (with_reducible exact ih0 _ _ _)
   | (with_reducible exact LeO.refl _)
   | (with_reducible exact LeO.none _)
   | (with_reducible refine LeO.ite ?_ ?_)
   | (with_reducible refine LeO.bind ?_ (fun _ => ?_))
   | exact ih0 _ _ _
   | exact LeO.none _
   | refine LeO.ite ?_ ?_
   | refine LeO.bind ?_ (fun _ => ?_)
set_option maxHeartbeats 8000000 in
set_option maxRecDepth 100000 in
theorem spec_l01New.calls (k : Nat) (A0 : Option Addr) (c0 : Nat) (l0 : List Int) (r1 : List Int) (r2 : Int) (r3 : Int) (w0 w : World) (hB : Below w0.heap.size w0 w) (hr0 : Kd.C (Kd.int .u8) w0 A0 l0.length l0) (hc0 : l0.length ≤ c0) (h : spec_l01New.f k l0 = some (r1, r2, r3)) :
  Calls Try.prog 75 #[.slice A0 l0.length c0] w fun e w' => ∃ g_ : Nat, e = .returned (.pointer (some ⟨g_, 0, none⟩)) ∧ IsS116 w0 w' g_ r1 r2 r3 ∧ Below w0.heap.size w0 w' ∧ Below w.heap.size w w' := by
 have hu116 := Try.underlying116
 have HR0 := Aside0.mk hr0
 have HC0 := Aside0.mk hc0
 clear hr0 hc0
 have HBW := Aside0.mk (Below.refl w.heap.size w)
 have HW0 := Aside0.mk hB.size
 have HB := Aside0.mk hB
 clear hB
 have H : (spec_l01New.l0 k l0 (wrap64 (33183 + (l0.length : Int))) 0) = some (r1, r2, r3) := h
 clear h
 have H' := Aside0.mk H
 clear H
 go_enter Try.func75, Try.ntmps75
 go_wp2
 go_loopg [3, 4] k (fun kq v3 v4 w' => ∃ (x3_1 : Int) (x4_1 : Int), v3 = .int .i64 x3_1 ∧ v4 = .int .i64 x4_1 ∧ Aside0 (spec_l01New.l0 kq l0 x3_1 x4_1 = some (r1, r2, r3)) ∧ Aside0 (kq ≤ k) ∧ Aside0 (Below w.heap.size w w') ∧ Aside0 (Below w0.heap.size w0 w'))
 case atStart => exact ⟨(wrap64 (33183 + (l0.length : Int))), (0), (by first | rfl | (simp; done) | (simp [*]; done)), (by first | rfl | (simp; done) | (simp [*]; done)), H', ⟨Nat.le_refl _⟩, ⟨bl HBW.out⟩, ⟨bl HB.out⟩⟩
 case round =>
  clear H'
  obtain ⟨x3_1, x4_1, rfl, rfl, HA, HK1, HBW, HB⟩ := hrel
  cases gk with
  | zero => exact absurd HA.out (by simp [spec_l01New.l0])
  | succ k1 =>
   have H := HA.out
   clear HA
   simp only [spec_l01New.l0] at H
   by_cases c2 : x4_1 < (l0.length : Int)
   ·rw [if_pos c2] at H
    have c2b0 : decide (x4_1 < (l0.length : Int)) = true := decide_eq_true c2
    clear c2
    by_cases c3 : x4_1 < 4000
    ·rw [if_pos c3] at H
     have c3b0 : decide (x4_1 < 4000) = true := decide_eq_true c3
     clear c3
     by_cases c4 : 0 ≤ x4_1
     ·rw [if_pos c4] at H
      have c4b0 : decide (0 ≤ x4_1) = true := decide_eq_true c4
      clear c4
      have H' := Aside0.mk H
      clear H
      have p441 : 0 ≤ (x4_1 : Int) := of_decide_eq_true asm
      have q441 : x4_1 < (l0.length : Int) := of_decide_eq_true asm
      obtain ⟨ad441, e441, hx441_0⟩ := Kd.at_int HR0.out x4_1 p441 q441
      cases e441
      replace hx441_0 := pw_cell_below HB.out hx441_0
      replace p441 := eq_true p441
      replace q441 := eq_true q441
      go_wp2
      go_roundg k1
      case measure => have := HK1.out; omega
      case rel => exact ⟨(Go.bits .and .i64 (wrap64 ((wrap64 ((wrap64 (x3_1 * 131)) + (wrap64 (rd l0 x4_1)))) + 7)) 1073741823), (wrap64 (x4_1 + 1)), (by first | rfl | (simp; done) | (simp [*]; done)), (by first | rfl | (simp; done) | (simp [*]; done)), H', ⟨by have := HK1.out; omega⟩, ⟨bl HBW.out⟩, ⟨bl HB.out⟩⟩
     ·rw [if_neg c4] at H
      exact absurd H (by simp)
    ·rw [if_neg c3] at H
     have c3b0 : decide (x4_1 < 4000) = false := decide_eq_false c3
     clear c3
     simp only [Option.some.injEq, Prod.mk.injEq] at H
     obtain ⟨rfl, rfl, rfl⟩ := H
     go_wp2_with (first | ((with_reducible refine gate_dst (N := 31) rfl ?_); refine bx (cs := #[.slice A0 l0.length c0, .int .i64 0, .int .i64 x3_1]) (t := 116) fun gb442 hg w5 hbox hb => ?_; replace HB := Aside0.mk (below_step (bl HB.out) hb); have BK442 := Aside0.mk (hbox); have GW442 := Aside0.mk (gs HBW.out hg); have GE442 := Aside0.mk ((Nat.le_trans HW0.out (gs HBW.out hg) : w0.heap.size ≤ gb442)); replace HBW := Aside0.mk (below_step HBW.out hb); clear hb hbox hg))
     go_ret
     exact ⟨_, rfl, (show IsS116 w0 _ gb442 l0 0 x3_1 from ⟨_, _, by refine bk ?_; exact BK442.out, GE442.out, HR0.out⟩), bl HB.out, by repeat (first | (with_reducible first | exact HBW.out | apply below_alloc | apply pw_below_drewN | apply below_drew1 | refine below_set ?_ GW442.out) | exact HBW.out)⟩
   ·rw [if_neg c2] at H
    have c2b0 : decide (x4_1 < (l0.length : Int)) = false := decide_eq_false c2
    clear c2
    simp only [Option.some.injEq, Prod.mk.injEq] at H
    obtain ⟨rfl, rfl, rfl⟩ := H
    go_wp2_with (first | ((with_reducible refine gate_dst (N := 31) rfl ?_); refine bx (cs := #[.slice A0 l0.length c0, .int .i64 0, .int .i64 x3_1]) (t := 116) fun gb443 hg w6 hbox hb => ?_; replace HB := Aside0.mk (below_step (bl HB.out) hb); have BK443 := Aside0.mk (hbox); have GW443 := Aside0.mk (gs HBW.out hg); have GE443 := Aside0.mk ((Nat.le_trans HW0.out (gs HBW.out hg) : w0.heap.size ≤ gb443)); replace HBW := Aside0.mk (below_step HBW.out hb); clear hb hbox hg))
    go_ret
    exact ⟨_, rfl, (show IsS116 w0 _ gb443 l0 0 x3_1 from ⟨_, _, by refine bk ?_; exact BK443.out, GE443.out, HR0.out⟩), bl HB.out, by repeat (first | (with_reducible first | exact HBW.out | apply below_alloc | apply pw_below_drewN | apply below_drew1 | refine below_set ?_ GW443.out) | exact HBW.out)⟩
def spec_l01Byte.f (s0_0 : List Int) (s0_1 : Int) (s0_2 : Int) : Option (Int × Int × Int) := if s0_1 < (s0_0.length : Int) then (if 0 ≤ s0_1 then (some (Go.bits .and .i64 (wrap64 ((Go.bits .and .i64 (Go.bits .xor .i64 ((wrap64 ((wrap64 (s0_2 * 6364136223846793005)) + 1442695040888963407)) / 8589934592) ((wrap64 ((wrap64 (s0_2 * 6364136223846793005)) + 1442695040888963407)) / 35184372088832)) 255) + (wrap64 (rd s0_0 s0_1)))) 255, wrap64 (s0_1 + 1), wrap64 ((wrap64 (s0_2 * 6364136223846793005)) + 1442695040888963407))) else (none)) else (some (Go.bits .and .i64 (Go.bits .xor .i64 ((wrap64 ((wrap64 (s0_2 * 6364136223846793005)) + 1442695040888963407)) / 8589934592) ((wrap64 ((wrap64 (s0_2 * 6364136223846793005)) + 1442695040888963407)) / 35184372088832)) 255, s0_1, wrap64 ((wrap64 (s0_2 * 6364136223846793005)) + 1442695040888963407)))
set_option maxHeartbeats 8000000 in
set_option maxRecDepth 100000 in
theorem spec_l01Byte.calls (g : Nat) (s0_0 : List Int) (s0_1 : Int) (s0_2 : Int) (r1 : Int) (r2 : Int) (r3 : Int) (w0 w : World) (hI : IsS116 w0 w g s0_0 s0_1 s0_2) (hB : Below w0.heap.size w0 w) (h : spec_l01Byte.f s0_0 s0_1 s0_2 = some (r1, r2, r3)) :
  Calls Try.prog 113 #[.pointer (some ⟨g, 0, none⟩)] w fun e w' => e = .returned (.int .i64 r1) ∧ IsS116 w0 w' g s0_0 r2 r3 ∧ Below w0.heap.size w0 w' ∧ KeepBut w w' g none := by
 have HI0 := Aside0.mk hI
 have HK := Aside0.mk (KeepBut.refl w g none)
 have HL := Aside0.mk hB.size
 clear hI
 have HW0 := Aside0.mk hB.size
 have HB := Aside0.mk hB
 clear hB
 have H : (if s0_1 < (s0_0.length : Int) then (if 0 ≤ s0_1 then (some (Go.bits .and .i64 (wrap64 ((Go.bits .and .i64 (Go.bits .xor .i64 ((wrap64 ((wrap64 (s0_2 * 6364136223846793005)) + 1442695040888963407)) / 8589934592) ((wrap64 ((wrap64 (s0_2 * 6364136223846793005)) + 1442695040888963407)) / 35184372088832)) 255) + (wrap64 (rd s0_0 s0_1)))) 255, wrap64 (s0_1 + 1), wrap64 ((wrap64 (s0_2 * 6364136223846793005)) + 1442695040888963407))) else (none)) else (some (Go.bits .and .i64 (Go.bits .xor .i64 ((wrap64 ((wrap64 (s0_2 * 6364136223846793005)) + 1442695040888963407)) / 8589934592) ((wrap64 ((wrap64 (s0_2 * 6364136223846793005)) + 1442695040888963407)) / 35184372088832)) 255, s0_1, wrap64 ((wrap64 (s0_2 * 6364136223846793005)) + 1442695040888963407)))) = some (r1, r2, r3) := h
 clear h
 by_cases c2 : s0_1 < (s0_0.length : Int)
 ·rw [if_pos c2] at H
  have c2b0 : decide (s0_1 < (s0_0.length : Int)) = true := decide_eq_true c2
  clear c2
  by_cases c3 : 0 ≤ s0_1
  ·rw [if_pos c3] at H
   have c3b0 : decide (0 ≤ s0_1) = true := decide_eq_true c3
   clear c3
   simp only [Option.some.injEq, Prod.mk.injEq] at H
   obtain ⟨rfl, rfl, rfl⟩ := H
   obtain ⟨ASz4_0, cSz4_0, HGz4, hgz4, HSz4_0⟩ := HI0.out
   have hcz4_0 := cellS116_0 HGz4
   have hcz4_1 := cellS116_1 HGz4
   have hcz4_2 := cellS116_2 HGz4
   have hfz4_1 := blk_frozen HGz4 1
   have hfz4_2 := blk_frozen HGz4 2
   clear HGz4 hgz4
   have p444 : 0 ≤ (s0_1 : Int) := of_decide_eq_true asm
   have q444 : s0_1 < (s0_0.length : Int) := of_decide_eq_true asm
   obtain ⟨ad444, e444, hx444_0⟩ := Kd.at_int HSz4_0 s0_1 p444 q444
   cases e444
   have hn444_0 : ad444.block ≠ g := Nat.ne_of_lt (Nat.lt_of_lt_of_le (by have := World.block_lt_of_cell? _ _ hx444_0; first | rwa [add_block] at this | exact this) (IsS116.ge HI0.out))
   replace hx444_0 := pw_cell_below HB.out hx444_0
   replace hx444_0 := (cell_far (p := ⟨g, 2, none⟩) (by first | (rw [add_block]; exact hn444_0) | (show (Addr.add _ _).block ≠ _; rw [add_block]; exact hn444_0) | exact hn444_0) (.int .i64 (wrap64 ((wrap64 (s0_2 * 6364136223846793005)) + 1442695040888963407)))).trans hx444_0
   (try have hy444_0 := fun (n_ : Nat) => (show (((w.drewN n_).setCell ⟨g, 2, none⟩ (.int .i64 (wrap64 ((wrap64 (s0_2 * 6364136223846793005)) + 1442695040888963407))))).cell? _ = some _ from hx444_0))
   clear hn444_0
   replace p444 := eq_true p444
   replace q444 := eq_true q444
   go_enter Try.func113, Try.ntmps113
   go_wp2
   repeat (go_quiet (fail); try go_wp2)
   go_ret
   exact ⟨by first | rfl | (simp [errW_none, errW_some] <;> rfl) | (simp [*, errW_none, errW_some] <;> rfl), is116 HI0.out, bl116 HB.out, kp HK.out⟩
  ·rw [if_neg c3] at H
   exact absurd H (by simp)
 ·rw [if_neg c2] at H
  have c2b0 : decide (s0_1 < (s0_0.length : Int)) = false := decide_eq_false c2
  clear c2
  simp only [Option.some.injEq, Prod.mk.injEq] at H
  obtain ⟨rfl, rfl, rfl⟩ := H
  obtain ⟨ASz5_0, cSz5_0, HGz5, hgz5, HSz5_0⟩ := HI0.out
  have hcz5_0 := cellS116_0 HGz5
  have hcz5_1 := cellS116_1 HGz5
  have hcz5_2 := cellS116_2 HGz5
  have hfz5_1 := blk_frozen HGz5 1
  have hfz5_2 := blk_frozen HGz5 2
  clear HGz5 hgz5
  go_enter Try.func113, Try.ntmps113
  go_wp2
  repeat (go_quiet (fail); try go_wp2)
  go_ret
  exact ⟨by first | rfl | (simp [errW_none, errW_some] <;> rfl) | (simp [*, errW_none, errW_some] <;> rfl), is116 HI0.out, bl116 HB.out, kp HK.out⟩
def spec_l01Below.f (s0_0 : List Int) (s0_1 : Int) (s0_2 : Int) (a1 : Int) : Option (Int × Int × Int) := if a1 ≤ 0 then (some (0, s0_1, s0_2)) else (if a1 ≤ 256 then ((spec_l01Byte.f s0_0 s0_1 s0_2).bind fun bt445 => (if a1 = 0 then (none) else (some (Int.tmod bt445.1 a1, bt445.2.1, bt445.2.2)))) else ((spec_l01Byte.f s0_0 s0_1 s0_2).bind fun bt448 => ((spec_l01Byte.f s0_0 bt448.2.1 bt448.2.2).bind fun bt451 => ((spec_l01Byte.f s0_0 bt451.2.1 bt451.2.2).bind fun bt454 => ((spec_l01Byte.f s0_0 bt454.2.1 bt454.2.2).bind fun bt457 => (if a1 = 0 then (none) else (some (Int.tmod (wrap64 ((wrap64 ((wrap64 ((wrap64 (bt448.1 * 16777216)) + (wrap64 (bt451.1 * 65536)))) + (wrap64 (bt454.1 * 256)))) + bt457.1)) a1, bt457.2.1, bt457.2.2))))))))
set_option maxHeartbeats 8000000 in
set_option maxRecDepth 100000 in
theorem spec_l01Below.calls (g : Nat) (s0_0 : List Int) (s0_1 : Int) (s0_2 : Int) (a1 : Int) (r1 : Int) (r2 : Int) (r3 : Int) (w0 w : World) (hI : IsS116 w0 w g s0_0 s0_1 s0_2) (hB : Below w0.heap.size w0 w) (h : spec_l01Below.f s0_0 s0_1 s0_2 a1 = some (r1, r2, r3)) :
  Calls Try.prog 78 #[.pointer (some ⟨g, 0, none⟩), .int .i64 a1] w fun e w' => e = .returned (.int .i64 r1) ∧ IsS116 w0 w' g s0_0 r2 r3 ∧ Below w0.heap.size w0 w' ∧ KeepBut w w' g none := by
 have HI0 := Aside0.mk hI
 have HK := Aside0.mk (KeepBut.refl w g none)
 have HL := Aside0.mk hB.size
 clear hI
 have HW0 := Aside0.mk hB.size
 have HB := Aside0.mk hB
 clear hB
 have H : (if a1 ≤ 0 then (some (0, s0_1, s0_2)) else (if a1 ≤ 256 then ((spec_l01Byte.f s0_0 s0_1 s0_2).bind fun bt445 => (if a1 = 0 then (none) else (some (Int.tmod bt445.1 a1, bt445.2.1, bt445.2.2)))) else ((spec_l01Byte.f s0_0 s0_1 s0_2).bind fun bt448 => ((spec_l01Byte.f s0_0 bt448.2.1 bt448.2.2).bind fun bt451 => ((spec_l01Byte.f s0_0 bt451.2.1 bt451.2.2).bind fun bt454 => ((spec_l01Byte.f s0_0 bt454.2.1 bt454.2.2).bind fun bt457 => (if a1 = 0 then (none) else (some (Int.tmod (wrap64 ((wrap64 ((wrap64 ((wrap64 (bt448.1 * 16777216)) + (wrap64 (bt451.1 * 65536)))) + (wrap64 (bt454.1 * 256)))) + bt457.1)) a1, bt457.2.1, bt457.2.2))))))))) = some (r1, r2, r3) := h
 clear h
 by_cases c3 : a1 ≤ 0
 ·rw [if_pos c3] at H
  have c3b0 : decide (a1 ≤ 0) = true := decide_eq_true c3
  clear c3
  simp only [Option.some.injEq, Prod.mk.injEq] at H
  obtain ⟨rfl, rfl, rfl⟩ := H
  go_enter Try.func78, Try.ntmps78
  go_wp2
  go_ret
  exact ⟨by first | rfl | (simp [errW_none, errW_some] <;> rfl) | (simp [*, errW_none, errW_some] <;> rfl), is116 HI0.out, bl116 HB.out, kp HK.out⟩
 ·rw [if_neg c3] at H
  have c3b0 : decide (a1 ≤ 0) = false := decide_eq_false c3
  clear c3
  by_cases c4 : a1 ≤ 256
  ·rw [if_pos c4] at H
   have c4b0 : decide (a1 ≤ 256) = true := decide_eq_true c4
   clear c4
   replace H := Option.bind_eq_some_iff.mp H
   obtain ⟨⟨t445, t446, t447⟩, A50, H⟩ := H
   try dsimp only at H
   have A5 := Aside0.mk A50
   clear A50
   by_cases c6 : a1 = 0
   ·rw [if_pos c6] at H
    exact absurd H (by simp)
   ·rw [if_neg c6] at H
    have c6b0 : (a1 == 0) = false := beq_eq_false_iff_ne.mpr c6
    have c6b1 : (a1 != 0) = true := bne_iff_ne.mpr c6
    simp only [Option.some.injEq, Prod.mk.injEq] at H
    obtain ⟨rfl, rfl, rfl⟩ := H
    go_enter Try.func78, Try.ntmps78
    go_wp2_with (first | ((with_reducible refine gate_callee (f := 113) rfl ?_); refine goesL_ (some 14) rfl rfl Try.func113 (by kernel_rfl) rfl #[.pointer (some ⟨g, 0, none⟩)] rfl mapd ?_; (with_reducible refine (spec_l01Byte.calls g s0_0 s0_1 s0_2 t445 t446 t447 w0 _ ?side1 ?side2 A5.out).mono ?_); (case side1 => exact is116 HI0.out); (case side2 => exact bl116 HB.out); rintro e w7 ⟨rfl, hi, hb, hk⟩; refine ⟨_, rfl, ?_⟩; replace HK := Aside0.mk (KeepBut.trans (kp HK.out) hk (.inl rfl)); replace HB := Aside0.mk (hb); replace HI0 := Aside0.mk (hi); (try clear hb); (try clear hb2); (try clear hk); (try clear hi)))
    go_ret
    exact ⟨by first | rfl | (simp [errW_none, errW_some] <;> rfl) | (simp [*, errW_none, errW_some] <;> rfl), is116 HI0.out, bl116 HB.out, kp HK.out⟩
  ·rw [if_neg c4] at H
   have c4b0 : decide (a1 ≤ 256) = false := decide_eq_false c4
   clear c4
   replace H := Option.bind_eq_some_iff.mp H
   obtain ⟨⟨t448, t449, t450⟩, A80, H⟩ := H
   try dsimp only at H
   have A8 := Aside0.mk A80
   clear A80
   replace H := Option.bind_eq_some_iff.mp H
   obtain ⟨⟨t451, t452, t453⟩, A90, H⟩ := H
   try dsimp only at H
   have A9 := Aside0.mk A90
   clear A90
   replace H := Option.bind_eq_some_iff.mp H
   obtain ⟨⟨t454, t455, t456⟩, A100, H⟩ := H
   try dsimp only at H
   have A10 := Aside0.mk A100
   clear A100
   replace H := Option.bind_eq_some_iff.mp H
   obtain ⟨⟨t457, t458, t459⟩, A110, H⟩ := H
   try dsimp only at H
   have A11 := Aside0.mk A110
   clear A110
   by_cases c12 : a1 = 0
   ·rw [if_pos c12] at H
    exact absurd H (by simp)
   ·rw [if_neg c12] at H
    have c12b0 : (a1 == 0) = false := beq_eq_false_iff_ne.mpr c12
    have c12b1 : (a1 != 0) = true := bne_iff_ne.mpr c12
    simp only [Option.some.injEq, Prod.mk.injEq] at H
    obtain ⟨rfl, rfl, rfl⟩ := H
    go_enter Try.func78, Try.ntmps78
    go_wp2_with (first | ((with_reducible refine gate_callee (f := 113) rfl ?_); refine goesL_ (some 18) rfl rfl Try.func113 (by kernel_rfl) rfl #[.pointer (some ⟨g, 0, none⟩)] rfl mapd ?_; (with_reducible refine (spec_l01Byte.calls g s0_0 s0_1 s0_2 t448 t449 t450 w0 _ ?side1 ?side2 A8.out).mono ?_); (case side1 => exact is116 HI0.out); (case side2 => exact bl116 HB.out); rintro e w13 ⟨rfl, hi, hb, hk⟩; refine ⟨_, rfl, ?_⟩; replace HK := Aside0.mk (KeepBut.trans (kp HK.out) hk (.inl rfl)); replace HB := Aside0.mk (hb); replace HI0 := Aside0.mk (hi); (try clear hb); (try clear hb2); (try clear hk); (try clear hi)) | ((with_reducible refine gate_callee (f := 113) rfl ?_); refine goesL_ (some 20) rfl rfl Try.func113 (by kernel_rfl) rfl #[.pointer (some ⟨g, 0, none⟩)] rfl mapd ?_; (with_reducible refine (spec_l01Byte.calls g s0_0 t449 t450 t451 t452 t453 w0 _ ?side1 ?side2 A9.out).mono ?_); (case side1 => exact is116 HI0.out); (case side2 => exact bl116 HB.out); rintro e w14 ⟨rfl, hi, hb, hk⟩; refine ⟨_, rfl, ?_⟩; replace HK := Aside0.mk (KeepBut.trans (kp HK.out) hk (.inl rfl)); replace HB := Aside0.mk (hb); replace HI0 := Aside0.mk (hi); (try clear hb); (try clear hb2); (try clear hk); (try clear hi)) | ((with_reducible refine gate_callee (f := 113) rfl ?_); refine goesL_ (some 22) rfl rfl Try.func113 (by kernel_rfl) rfl #[.pointer (some ⟨g, 0, none⟩)] rfl mapd ?_; (with_reducible refine (spec_l01Byte.calls g s0_0 t452 t453 t454 t455 t456 w0 _ ?side1 ?side2 A10.out).mono ?_); (case side1 => exact is116 HI0.out); (case side2 => exact bl116 HB.out); rintro e w15 ⟨rfl, hi, hb, hk⟩; refine ⟨_, rfl, ?_⟩; replace HK := Aside0.mk (KeepBut.trans (kp HK.out) hk (.inl rfl)); replace HB := Aside0.mk (hb); replace HI0 := Aside0.mk (hi); (try clear hb); (try clear hb2); (try clear hk); (try clear hi)) | ((with_reducible refine gate_callee (f := 113) rfl ?_); refine goesL_ (some 24) rfl rfl Try.func113 (by kernel_rfl) rfl #[.pointer (some ⟨g, 0, none⟩)] rfl mapd ?_; (with_reducible refine (spec_l01Byte.calls g s0_0 t455 t456 t457 t458 t459 w0 _ ?side1 ?side2 A11.out).mono ?_); (case side1 => exact is116 HI0.out); (case side2 => exact bl116 HB.out); rintro e w16 ⟨rfl, hi, hb, hk⟩; refine ⟨_, rfl, ?_⟩; replace HK := Aside0.mk (KeepBut.trans (kp HK.out) hk (.inl rfl)); replace HB := Aside0.mk (hb); replace HI0 := Aside0.mk (hi); (try clear hb); (try clear hb2); (try clear hk); (try clear hi)))
    go_ret
    exact ⟨by first | rfl | (simp [errW_none, errW_some] <;> rfl) | (simp [*, errW_none, errW_some] <;> rfl), is116 HI0.out, bl116 HB.out, kp HK.out⟩
end Go.Proofs.Ytbpjidekjogfeaa.A

namespace Go.Proofs.Ytbpjidekjogfeaa.A
open Go.RowKit Go.Proofs.YtbpjidekjogfeaaW.PrintWords Go.Proofs.YtbpjidekjogfeaaW.PrintLast Go.Proofs.YtbpjidekjogfeaaW.PrintMore
attribute [local go_sem] max2_int min2_int max_two min_two max_three min_three max_four min_four   
set_option linter.unusedVariables false
set_option linter.unusedSimpArgs false
mutual
def impl_runsOf.l0 : Nat → List (S113) → Bool → List (S98) → Int → Int → Int → List Int → List (S98) → Option ((List (S113)))
 | 0, _, _, _, _, _, _, _, _ => none
 | k + 1, x3, x4, x9, x10, x11, x209000, x209001, x209002 => if x11 < x10 then (if 0 ≤ x11 then (if x11 < (x9.length : Int) then (if ((rd_T98 x9 x11).f2) = 0 then (impl_runsOf.j1 k x3 x4 x11 x9 x10 x11 ((rd_T98 x9 x11).f3) x209000 x209001 x209002 ((rd_T98 x9 x11).f0) ((rd_T98 x9 x11).f1) ((rd_T98 x9 x11).f2) ((rd_T98 x9 x11).f3)) else (impl_runsOf.j1 k x3 x4 x11 x9 x10 x11 true x209000 x209001 x209002 ((rd_T98 x9 x11).f0) ((rd_T98 x9 x11).f1) ((rd_T98 x9 x11).f2) ((rd_T98 x9 x11).f3))) else (none)) else (none)) else (some x3)
def impl_runsOf.j1 : Nat → List (S113) → Bool → Int → List (S98) → Int → Int → Bool → Int → List Int → List (S98) → Int → Int → Int → Bool → Option ((List (S113)))
 | 0, _, _, _, _, _, _, _, _, _, _, _, _, _, _ => none
 | k + 1, x3, x4, x5, x9, x10, x11, x22, x209000, x209001, x209002, x211000, x211001, x211002, x211003 => if x22 = true then (impl_runsOf.l0 k x3 false x9 x10 (wrap64 (x11 + 1)) x209000 x209001 x209002) else (if x4 = true then ((slices_Contains_int_int.f k x209001 x211000).bind fun t211 => (if t211 = true then (if x3.length < 3518437208883 then (impl_runsOf.l0 k (x3 ++ [(⟨(⟨0, x211000, x211001⟩ : S50), x5, wrap64 (x5 + 1)⟩ : S113)]) true x9 x10 (wrap64 (x11 + 1)) x209000 x209001 x209002) else (none)) else (if 0 ≤ (wrap64 ((x3.length : Int) - 1)) then (if (wrap64 ((x3.length : Int) - 1)) < (x3.length : Int) then ((some (x3.set ((wrap64 ((x3.length : Int) - 1)) : Int).toNat (⟨(⟨(rd_T113 x3 (wrap64 ((x3.length : Int) - 1))).f0.f0, (rd_T113 x3 (wrap64 ((x3.length : Int) - 1))).f0.f1, wrap64 (((rd_T113 x3 (wrap64 ((x3.length : Int) - 1))).f0.f2) + x211001)⟩ : S50), (rd_T113 x3 (wrap64 ((x3.length : Int) - 1))).f1, (rd_T113 x3 (wrap64 ((x3.length : Int) - 1))).f2⟩ : S113) : List (S113))).bind fun y216 => (impl_runsOf.l0 k (y216.set ((wrap64 ((x3.length : Int) - 1)) : Int).toNat (⟨(⟨(rd_T113 y216 (wrap64 ((x3.length : Int) - 1))).f0.f0, (rd_T113 y216 (wrap64 ((x3.length : Int) - 1))).f0.f1, (rd_T113 y216 (wrap64 ((x3.length : Int) - 1))).f0.f2⟩ : S50), (rd_T113 y216 (wrap64 ((x3.length : Int) - 1))).f1, wrap64 (((rd_T113 y216 (wrap64 ((x3.length : Int) - 1))).f2) + 1)⟩ : S113)) true x9 x10 (wrap64 (x11 + 1)) x209000 x209001 x209002)) else (none)) else (none)))) else (if x3.length < 3518437208883 then (impl_runsOf.l0 k (x3 ++ [(⟨(⟨0, x211000, x211001⟩ : S50), x5, wrap64 (x5 + 1)⟩ : S113)]) true x9 x10 (wrap64 (x11 + 1)) x209000 x209001 x209002) else (none)))
end
def impl_runsOf.f (k : Nat) (a0_0 : Int) (l0_1 : List Int) (l0_2 : List (S98)) : Option ((List (S113))) := impl_runsOf.l0 k ([] : List (S113)) false l0_2 (l0_2.length : Int) 0 a0_0 l0_1 l0_2
def impl_runsOf.T10 : Bool × List (List Nat × List Nat) := (true, [([], []), ([0], [0]), ([1], [1]), ([2], [2]), ([3], [3]), ([], []), ([5], [5]), ([4, 6], [4, 6]), ([0, 0, 1, 2, 3, 4, 5, 6, 7], [0]), ([8, 0, 1, 2, 3, 4, 5, 6, 7], [8]), ([9, 0, 1, 2, 3, 4, 5, 6, 7], [9]), ([10, 7, 0, 1, 2, 3, 4, 5, 6, 7], [7, 10])])
def impl_runsOf.B10 : List Nat := [0, 1, 3, 7, 15, 0, 32, 127, 255, 511, 1023, 2047]
theorem impl_runsOf.tab10 : rtab .any (opsOf Try.f109 10) = impl_runsOf.T10 := by kernel_rfl
theorem impl_runsOf.bits10 : waitsOk impl_runsOf.T10.2 impl_runsOf.B10 = true := by kernel_rfl
set_option maxHeartbeats 8000000 in
set_option maxRecDepth 100000 in
theorem impl_runsOf.calls (k : Nat) (a0_0 : Int) (A0_1 : Option Addr) (c0_1 : Nat) (l0_1 : List Int) (A0_2 : Option Addr) (c0_2 : Nat) (l0_2 : List (S98)) (r : List (S113)) (w : World) (hr0_1 : Kd.C (Kd.int .i64) w A0_1 l0_1.length l0_1) (hc0_1 : l0_1.length ≤ c0_1) (hr0_2 : Kd.C k98 w A0_2 l0_2.length l0_2) (hc0_2 : l0_2.length ≤ c0_2) (h : impl_runsOf.f k a0_0 l0_1 l0_2 = some r) :
  Calls Try.prog 109 #[.agg #[.int .i64 a0_0, .slice A0_1 l0_1.length c0_1, .slice A0_2 l0_2.length c0_2]] w fun e w' => ∃ v0_ : Value, e = .returned (v0_) ∧ Kd.R k113 113 w' w.heap.size (fun _ => True) v0_ r ∧ Below w.heap.size w w' := by
 have hu41 := Try.underlying41
 have hu98 := Try.underlying98
 have hu50 := Try.underlying50
 have hu113 := Try.underlying113
 have HR0_1 := Aside0.mk hr0_1
 have HC0_1 := Aside0.mk hc0_1
 clear hr0_1 hc0_1
 have HR0_2 := Aside0.mk hr0_2
 have HC0_2 := Aside0.mk hc0_2
 clear hr0_2 hc0_2
 have HB := Aside0.mk (Below.refl w.heap.size w)
 have H : (impl_runsOf.l0 k ([] : List (S113)) false l0_2 (l0_2.length : Int) 0 a0_0 l0_1 l0_2) = some r := h
 clear h
 have H' := Aside0.mk H
 clear H
 go_enter Try.func109, Try.ntmps109
 go_wp2_with (first | ((with_reducible refine gate_dst (N := 1) rfl ?_); refine bx (cs := #[.int .i64 a0_0, .slice A0_1 l0_1.length c0_1, .slice A0_2 l0_2.length c0_2]) (t := 41) fun gb208 hg w2 hbox hb => ?_; have BK208 := Aside0.mk (hbox); have GW208 := Aside0.mk (gs HB.out hg); have GE208 := Aside0.mk (gs HB.out hg); replace HB := Aside0.mk (below_step (bl HB.out) hb); clear hb hbox hg; obtain ⟨hcz3_0, hcz3_1, hcz3_2, hfz3_0, hfz3_1, hfz3_2⟩ := cz3 BK208.out))
 go_loopg [3, 4, 11] k (fun kq v3 v4 v11 w' => ∃ (x3_1 : List (S113)) (x4_1 : Bool) (x11_1 : Int), v4 = .bool x4_1 ∧ v11 = .int .i64 x11_1 ∧ Aside0 (impl_runsOf.l0 kq x3_1 x4_1 l0_2 (l0_2.length : Int) x11_1 a0_0 l0_1 l0_2 = some r) ∧ Aside0 (kq ≤ k) ∧ Aside0 (Kd.R k113 113 w' w.heap.size (fun _ => True) v3 x3_1) ∧ Aside0 (w'.heap[gb208]? = some (.cells #[.int .i64 a0_0, (.slice A0_1 l0_1.length c0_1), (.slice A0_2 l0_2.length c0_2)] 41 (0, 0))) ∧ Aside0 (Below w.heap.size w w'))
 case atStart => exact ⟨(([] : List (S113))), (false), (0), (by first | rfl | (simp; done) | (simp [*]; done)), (by first | rfl | (simp; done) | (simp [*]; done)), H', ⟨Nat.le_refl _⟩, ⟨by first | exact Kd.R_nil _ _ _ _ _ | exact Kd.N_nil _ _ _ _ _ | exact Kd.V_nil _ _ _ _ _ | exact Kd.Q_nil _ _ _ _ _ | exact Kd.S_nil _ _ _ _ _⟩, ⟨by refine bk ?_; exact BK208.out⟩, ⟨bl HB.out⟩⟩
 case round =>
  clear H'
  try clear c1
  try clear p2
  try clear hcz3_0
  try clear hcz3_1
  try clear hcz3_2
  try clear hfz3_0
  try clear hfz3_1
  try clear hfz3_2
  obtain ⟨x3_1, x4_1, x11_1, rfl, rfl, HA, HK1, HO_3, BK208, HB⟩ := hrel
  cases gk with
  | zero => exact absurd HA.out (by simp [impl_runsOf.l0])
  | succ k1 =>
   have H := HA.out
   clear HA
   simp only [impl_runsOf.l0] at H
   by_cases c4 : x11_1 < (l0_2.length : Int)
   ·rw [if_pos c4] at H
    have c4b0 : decide (x11_1 < (l0_2.length : Int)) = true := decide_eq_true c4
    clear c4
    by_cases c5 : 0 ≤ x11_1
    ·rw [if_pos c5] at H
     have c5b0 : decide (0 ≤ x11_1) = true := decide_eq_true c5
     clear c5
     by_cases c6 : x11_1 < (l0_2.length : Int)
     ·rw [if_pos c6] at H
      have c6b0 : decide (x11_1 < (l0_2.length : Int)) = true := decide_eq_true c6
      clear c6
      have HC7 := Aside0.mk H
      clear H
      have p209 : 0 ≤ (x11_1 : Int) := of_decide_eq_true asm
      have q209 : x11_1 < (l0_2.length : Int) := of_decide_eq_true asm
      obtain ⟨ad209, e209, hx209_0, hx209_1, hx209_2, hx209_3⟩ := at_T98 HR0_2.out x11_1 p209 q209
      cases e209
      replace hx209_0 := (HB.out.cell (World.block_lt_of_cell? w _ hx209_0)).trans hx209_0
      replace hx209_1 := (HB.out.cell (World.block_lt_of_cell? w _ hx209_1)).trans hx209_1
      replace hx209_2 := (HB.out.cell (World.block_lt_of_cell? w _ hx209_2)).trans hx209_2
      replace hx209_3 := (HB.out.cell (World.block_lt_of_cell? w _ hx209_3)).trans hx209_3
      replace p209 := eq_true p209
      replace q209 := eq_true q209
      go_upto_region 6 with (first | ((with_reducible refine gate_dst (N := 6) rfl ?_); refine bx (cs := #[.int .i64 0, .int .i64 0, .int .i64 0, .bool false]) (t := 98) fun gb210 hg w8 hbox hb => ?_; replace HO_3 := Aside0.mk (Kd.R_below (rk HO_3.out) hb); have BK210 := Aside0.mk (hbox); have GW210 := Aside0.mk (gs HB.out hg); have GE210 := Aside0.mk (gs HB.out hg); replace HB := Aside0.mk (below_step (bl HB.out) hb); have NB208_210 := Aside0.mk ((nl BK208.out hg)); have NB210_208 := Aside0.mk ((ng BK208.out hg)); replace BK208 := Aside0.mk (bb BK208.out hb); clear hb hbox hg; have hnb9 := NB210_208.out; have hnc9 := NB208_210.out; obtain ⟨hcz10_0, hcz10_1, hcz10_2, hcz10_3, hfz10_0, hfz10_1, hfz10_2, hfz10_3⟩ := cz4 BK210.out))
      (try simp only [Act.put, List.setIfInBounds_toArray, List.set_cons_zero, List.set_cons_succ])
      go_cut [22] (fun v22 wc => ∃ (kq : Nat) (x22_6 : Bool), v22 = .bool x22_6 ∧ Aside0 (impl_runsOf.j1 kq x3_1 x4_1 x11_1 l0_2 (l0_2.length : Int) x11_1 x22_6 a0_0 l0_1 l0_2 ((rd_T98 l0_2 x11_1).f0) ((rd_T98 l0_2 x11_1).f1) ((rd_T98 l0_2 x11_1).f2) ((rd_T98 l0_2 x11_1).f3) = some r) ∧ Aside0 (kq ≤ k1) ∧ Aside0 (Kd.R k113 113 wc w.heap.size (fun _ => True) u3 x3_1) ∧ Aside0 (wc.heap[gb208]? = some (.cells #[.int .i64 a0_0, (.slice A0_1 l0_1.length c0_1), (.slice (some ad209) l0_2.length c0_2)] 41 (0, 0))) ∧ Aside0 (wc.heap[gb210]? = some (.cells #[.int .i64 ((rd_T98 l0_2 x11_1).f0), .int .i64 ((rd_T98 l0_2 x11_1).f1), .int .i64 ((rd_T98 l0_2 x11_1).f2), .bool ((rd_T98 l0_2 x11_1).f3)] 98 (0, 0))) ∧ Aside0 (Below w.heap.size w wc))
      case first =>
       have H := HC7.out
       clear HC7
       by_cases c11 : ((rd_T98 l0_2 x11_1).f2) = 0
       ·rw [if_pos c11] at H
        have c11b0 : (((rd_T98 l0_2 x11_1).f2) == 0) = true := beq_iff_eq.mpr c11
        have c11b1 : (((rd_T98 l0_2 x11_1).f2) != 0) = false := bne_eq_false_iff_eq.mpr c11
        clear c11
        (first | rw [c11b0] | (simp only [i64_w, i32_w]; rw [c11b0]) | skip)
        have H' := Aside0.mk H
        clear H
        have hnb12 := NB210_208.out
        have hnc12 := NB208_210.out
        obtain ⟨hcz13_0, hcz13_1, hcz13_2, hcz13_3, hfz13_0, hfz13_1, hfz13_2, hfz13_3⟩ := cz4 BK210.out
        go_wp2
        go_meet
        case rel => exact ⟨_, ((rd_T98 l0_2 x11_1).f3), (by first | rfl | (simp; done) | (simp [*]; done)), H', ⟨by have := HK1.out; first | omega | exact Nat.le_refl _⟩, ⟨by refine rk ?_; exact Kd.R_mono (Kd.R_far (p := ⟨gb210, 3, none⟩) (Kd.R_far (p := ⟨gb210, 2, none⟩) (Kd.R_far (p := ⟨gb210, 1, none⟩) (Kd.R_far (p := ⟨gb210, 0, none⟩) (Kd.R_types HO_3.out BK210.out (by decide)) (fun _ hk => hk.2) (.int .i64 ((rd_T98 l0_2 x11_1).f0))) (fun _ hk => hk.2) (.int .i64 ((rd_T98 l0_2 x11_1).f1))) (fun _ hk => hk.2) (.int .i64 ((rd_T98 l0_2 x11_1).f2))) (fun _ hk => hk.2) (.bool ((rd_T98 l0_2 x11_1).f3))) (fun _ hk => trivial)⟩, ⟨by refine bk ?_; refine blk_far ?_ NB208_210.out _; refine bk ?_; refine blk_far ?_ NB208_210.out _; refine bk ?_; refine blk_far ?_ NB208_210.out _; refine bk ?_; refine blk_far ?_ NB208_210.out _; refine bk ?_; exact BK208.out⟩, ⟨by refine bk ?_; refine blk_put (cs := #[.int .i64 ((rd_T98 l0_2 x11_1).f0), .int .i64 ((rd_T98 l0_2 x11_1).f1), .int .i64 ((rd_T98 l0_2 x11_1).f2), .bool false]) ?_ 3 _ rfl; refine bk ?_; refine blk_put (cs := #[.int .i64 ((rd_T98 l0_2 x11_1).f0), .int .i64 ((rd_T98 l0_2 x11_1).f1), .int .i64 0, .bool false]) ?_ 2 _ rfl; refine bk ?_; refine blk_put (cs := #[.int .i64 ((rd_T98 l0_2 x11_1).f0), .int .i64 0, .int .i64 0, .bool false]) ?_ 1 _ rfl; refine bk ?_; refine blk_put (cs := #[.int .i64 0, .int .i64 0, .int .i64 0, .bool false]) ?_ 0 _ rfl; refine bk ?_; exact BK210.out⟩, ⟨bl HB.out⟩⟩
       ·rw [if_neg c11] at H
        have c11b0 : (((rd_T98 l0_2 x11_1).f2) == 0) = false := beq_eq_false_iff_ne.mpr c11
        have c11b1 : (((rd_T98 l0_2 x11_1).f2) != 0) = true := bne_iff_ne.mpr c11
        (first | rw [c11b0] | (simp only [i64_w, i32_w]; rw [c11b0]) | skip)
        have H' := Aside0.mk H
        clear H
        have hnb14 := NB210_208.out
        have hnc14 := NB208_210.out
        obtain ⟨hcz15_0, hcz15_1, hcz15_2, hcz15_3, hfz15_0, hfz15_1, hfz15_2, hfz15_3⟩ := cz4 BK210.out
        go_wp2
        go_meet
        case rel => exact ⟨_, (true), (by first | rfl | (simp; done) | (simp [*]; done)), H', ⟨by have := HK1.out; first | omega | exact Nat.le_refl _⟩, ⟨by refine rk ?_; exact Kd.R_mono (Kd.R_far (p := ⟨gb210, 3, none⟩) (Kd.R_far (p := ⟨gb210, 2, none⟩) (Kd.R_far (p := ⟨gb210, 1, none⟩) (Kd.R_far (p := ⟨gb210, 0, none⟩) (Kd.R_types HO_3.out BK210.out (by decide)) (fun _ hk => hk.2) (.int .i64 ((rd_T98 l0_2 x11_1).f0))) (fun _ hk => hk.2) (.int .i64 ((rd_T98 l0_2 x11_1).f1))) (fun _ hk => hk.2) (.int .i64 ((rd_T98 l0_2 x11_1).f2))) (fun _ hk => hk.2) (.bool ((rd_T98 l0_2 x11_1).f3))) (fun _ hk => trivial)⟩, ⟨by refine bk ?_; refine blk_far ?_ NB208_210.out _; refine bk ?_; refine blk_far ?_ NB208_210.out _; refine bk ?_; refine blk_far ?_ NB208_210.out _; refine bk ?_; refine blk_far ?_ NB208_210.out _; refine bk ?_; exact BK208.out⟩, ⟨by refine bk ?_; refine blk_put (cs := #[.int .i64 ((rd_T98 l0_2 x11_1).f0), .int .i64 ((rd_T98 l0_2 x11_1).f1), .int .i64 ((rd_T98 l0_2 x11_1).f2), .bool false]) ?_ 3 _ rfl; refine bk ?_; refine blk_put (cs := #[.int .i64 ((rd_T98 l0_2 x11_1).f0), .int .i64 ((rd_T98 l0_2 x11_1).f1), .int .i64 0, .bool false]) ?_ 2 _ rfl; refine bk ?_; refine blk_put (cs := #[.int .i64 ((rd_T98 l0_2 x11_1).f0), .int .i64 0, .int .i64 0, .bool false]) ?_ 1 _ rfl; refine bk ?_; refine blk_put (cs := #[.int .i64 0, .int .i64 0, .int .i64 0, .bool false]) ?_ 0 _ rfl; refine bk ?_; exact BK210.out⟩, ⟨bl HB.out⟩⟩
      case rest =>
       clear HC7
       try clear c1
       try clear p2
       try clear q2
       try clear hx2
       try clear c4
       try clear c4b0
       try clear c5
       try clear c5b0
       try clear c6
       try clear c6b0
       try clear c9
       try clear c10
       try clear c11
       try clear c11b0
       try clear c11b1
       try clear c12
       try clear c14
       try clear hcz10_0
       try clear hcz10_1
       try clear hcz10_2
       try clear hcz10_3
       try clear hcz13_0
       try clear hcz13_1
       try clear hcz13_2
       try clear hcz13_3
       try clear hcz15_0
       try clear hcz15_1
       try clear hcz15_2
       try clear hcz15_3
       try clear hcz3_0
       try clear hcz3_1
       try clear hcz3_2
       try clear hfz10_0
       try clear hfz10_1
       try clear hfz10_2
       try clear hfz10_3
       try clear hfz13_0
       try clear hfz13_1
       try clear hfz13_2
       try clear hfz13_3
       try clear hfz15_0
       try clear hfz15_1
       try clear hfz15_2
       try clear hfz15_3
       try clear hfz3_0
       try clear hfz3_1
       try clear hfz3_2
       try clear hx209_0
       try clear hx209_1
       try clear hx209_2
       try clear hx209_3
       try clear p2
       try clear p209
       try clear q209
       obtain ⟨kq, x22_6, rfl, HA, HJ6, HO_3, BK208, BK210, HB⟩ := hcut
       cases kq with
       | zero => exact absurd HA.out (by simp [impl_runsOf.j1])
       | succ kj6 =>
        have H := HA.out
        clear HA
        simp only [impl_runsOf.j1] at H
        by_cases c16 : x22_6 = true
        ·subst c16
         rw [if_pos rfl] at H
         have H' := Aside0.mk H
         clear H
         go_wp2
         go_roundg kj6
         case measure => have := HK1.out; have := HJ6.out; omega
         case rel => exact ⟨(x3_1), (false), (wrap64 (x11_1 + 1)), (by first | rfl | (simp; done) | (simp [*]; done)), (by first | rfl | (simp; done) | (simp [*]; done)), H', ⟨by have := HK1.out; have := HJ6.out; omega⟩, ⟨rk HO_3.out⟩, ⟨by refine bk ?_; exact BK208.out⟩, ⟨bl HB.out⟩⟩
        ·replace c16 := Bool.eq_false_iff.mpr c16
         subst c16
         rw [if_neg (show ¬ (false = true) by decide)] at H
         by_cases c17 : x4_1 = true
         ·subst c17
          rw [if_pos rfl] at H
          replace H := Option.bind_eq_some_iff.mp H
          obtain ⟨t211, A180, H⟩ := H
          try dsimp only at H
          have A18 := Aside0.mk A180
          clear A180
          by_cases c19 : t211 = true
          ·subst c19
           rw [if_pos rfl] at H
           by_cases c20 : x3_1.length < 3518437208883
           ·rw [if_pos c20] at H
            have LMc20 := Aside0.mk c20
            clear c20
            obtain ⟨y212, hy212⟩ : ∃ y_ : List (S113), y_ = (x3_1 ++ [(⟨(⟨0, ((rd_T98 l0_2 x11_1).f0), ((rd_T98 l0_2 x11_1).f1)⟩ : S50), x11_1, wrap64 (x11_1 + 1)⟩ : S113)]) := ⟨_, rfl⟩
            replace H : (impl_runsOf.l0 kj6 y212 true l0_2 (l0_2.length : Int) (wrap64 (x11_1 + 1)) a0_0 l0_1 l0_2) = some r := by first | (rw [hy212]; with_reducible exact H) | (have H2_ := (Option.bind_some _ _).symm.trans H; rw [hy212]; with_reducible exact H2_) | (have H2_ := (Option.bind_some _ _).symm.trans H; with_reducible exact H2_) | with_reducible exact H | (rw [hy212]; exact H) | exact H
            have Ny212 := Aside0.mk hy212
            clear hy212
            have H' := Aside0.mk H
            clear H
            have hnb21 := NB208_210.out
            have hnc21 := NB210_208.out
            obtain ⟨hcz22_0, hcz22_1, hcz22_2, hfz22_0, hfz22_1, hfz22_2⟩ := cz3 BK208.out
            obtain ⟨hcz23_0, hcz23_1, hcz23_2, hcz23_3, hfz23_0, hfz23_1, hfz23_2, hfz23_3⟩ := cz4 BK210.out
            go_wp2_with (first | (go_at_call 124; (with_reducible refine (slices_Contains_int_int.calls kj6 _ _ l0_1 ((rd_T98 l0_2 x11_1).f0) true _ ?side1 ?side2 A18.out).mono ?_); (case side1 => exact cb (Kd.C_below HR0_1.out HB.out)); (case side2 => exact HC0_1.out); rintro e w' ⟨rfl, ⟨nd, rfl⟩⟩) | ((with_reducible refine gate_builtin (b := .append) (xs := #[.tmp 55, .tmp 65]) rfl ?_); at_builtin; refine Kd.R_append k113 (w0 := w) w.heap.size rfl (.tmp 55) (.tmp 65) 110 113 (.agg #[(.int .i64 0), (.int .i64 0), (.int .i64 0), (.int .i64 0), (.int .i64 0)]) 40 rfl Try.underlying110 info113 rfl (by decide) (by omega) u3 x3_1 (⟨(⟨0, ((rd_T98 l0_2 x11_1).f0), ((rd_T98 l0_2 x11_1).f1)⟩ : S50), x11_1, wrap64 (x11_1 + 1)⟩ : S113) [.int .i64 0, .int .i64 ((rd_T98 l0_2 x11_1).f0), .int .i64 ((rd_T98 l0_2 x11_1).f1), .int .i64 x11_1, .int .i64 (wrap64 (x11_1 + 1))] (fun _ => True) (fun _ => False) rfl rfl ?aP (fun _ hk => hk.elim) ?aF ?aO ?aB ?aS ?aL ?_; (case aP => exact k113_mkM _ _ _ (⟨(⟨0, ((rd_T98 l0_2 x11_1).f0), ((rd_T98 l0_2 x11_1).f1)⟩ : S50), x11_1, wrap64 (x11_1 + 1)⟩ : S113)); (case aB => exact (bl HB.out)); (case aF => exact (fun _ _ => trivial)); (case aO => exact (rk HO_3.out)); (case aS => exact (below_size (bl HB.out))); (case aL => have := LMc20.out; omega); intro v213 w24 ho hb hg hat; rw [← Ny212.out] at ho; replace BK208 := Aside0.mk (blk_grown (g := gb208) (o := .cells #[.int .i64 a0_0, .slice A0_1 l0_1.length c0_1, .slice (some ad209) l0_2.length c0_2] 41 (0, 0)) (bk BK208.out) hg (Kd.R_ne HO_3.out BK208.out (by decide))); replace BK210 := Aside0.mk (blk_grown (g := gb210) (o := .cells #[.int .i64 ((rd_T98 l0_2 x11_1).f0), .int .i64 ((rd_T98 l0_2 x11_1).f1), .int .i64 ((rd_T98 l0_2 x11_1).f2), .bool ((rd_T98 l0_2 x11_1).f3)] 98 (0, 0)) (bk BK210.out) hg (Kd.R_ne HO_3.out BK210.out (by decide))); replace HB := Aside0.mk (hb); have HO214 := Aside0.mk (ho); clear HO_3; clear ho hb hg hat))
            go_roundg kj6
            case measure => have := HK1.out; have := HJ6.out; omega
            case rel => exact ⟨(y212), (true), (wrap64 (x11_1 + 1)), (by first | rfl | (simp; done) | (simp [*]; done)), (by first | rfl | (simp; done) | (simp [*]; done)), H', ⟨by have := HK1.out; have := HJ6.out; omega⟩, ⟨rk HO214.out⟩, ⟨by refine bk ?_; exact BK208.out⟩, ⟨bl HB.out⟩⟩
           ·rw [if_neg c20] at H
            exact absurd H (by simp)
          ·replace c19 := Bool.eq_false_iff.mpr c19
           subst c19
           rw [if_neg (show ¬ (false = true) by decide)] at H
           obtain ⟨ji25, hji25⟩ : ∃ j_ : Int, (wrap64 ((x3_1.length : Int) - 1)) = j_ := ⟨_, rfl⟩
           replace H : (if 0 ≤ (ji25) then (if (ji25) < (x3_1.length : Int) then ((some (x3_1.set ((ji25) : Int).toNat (⟨(⟨(rd_T113 x3_1 (ji25)).f0.f0, (rd_T113 x3_1 (ji25)).f0.f1, wrap64 (((rd_T113 x3_1 (ji25)).f0.f2) + ((rd_T98 l0_2 x11_1).f1))⟩ : S50), (rd_T113 x3_1 (ji25)).f1, (rd_T113 x3_1 (ji25)).f2⟩ : S113) : List (S113))).bind fun y216 => (impl_runsOf.l0 kj6 (y216.set ((ji25) : Int).toNat (⟨(⟨(rd_T113 y216 (ji25)).f0.f0, (rd_T113 y216 (ji25)).f0.f1, (rd_T113 y216 (ji25)).f0.f2⟩ : S50), (rd_T113 y216 (ji25)).f1, wrap64 (((rd_T113 y216 (ji25)).f2) + 1)⟩ : S113)) true l0_2 (l0_2.length : Int) (wrap64 (x11_1 + 1)) a0_0 l0_1 l0_2)) else (none)) else (none)) = some r := by first | (rw [hji25] at H; exact H) | (simp only [hji25] at H ⊢; exact H)
           (try rw [hji25] at A18)
           have hji25w : (IntKind.i64.wrap ((x3_1.length : Int) - 1)) = ji25 := (i64_w _).trans hji25
           by_cases c26 : 0 ≤ (ji25)
           ·rw [if_pos c26] at H
            have c26b0 : decide (0 ≤ (ji25)) = true := decide_eq_true c26
            clear c26
            by_cases c27 : (ji25) < (x3_1.length : Int)
            ·rw [if_pos c27] at H
             have c27b0 : decide ((ji25) < (x3_1.length : Int)) = true := decide_eq_true c27
             clear c27
             obtain ⟨y216, hy216⟩ : ∃ y_ : List (S113), y_ = (x3_1.set ((ji25) : Int).toNat (⟨(⟨(rd_T113 x3_1 (ji25)).f0.f0, (rd_T113 x3_1 (ji25)).f0.f1, wrap64 (((rd_T113 x3_1 (ji25)).f0.f2) + ((rd_T98 l0_2 x11_1).f1))⟩ : S50), (rd_T113 x3_1 (ji25)).f1, (rd_T113 x3_1 (ji25)).f2⟩ : S113)) := ⟨_, rfl⟩
             replace H : (impl_runsOf.l0 kj6 (y216.set ((ji25) : Int).toNat (⟨(⟨(rd_T113 y216 (ji25)).f0.f0, (rd_T113 y216 (ji25)).f0.f1, (rd_T113 y216 (ji25)).f0.f2⟩ : S50), (rd_T113 y216 (ji25)).f1, wrap64 (((rd_T113 y216 (ji25)).f2) + 1)⟩ : S113)) true l0_2 (l0_2.length : Int) (wrap64 (x11_1 + 1)) a0_0 l0_1 l0_2) = some r := by first | (rw [hy216]; with_reducible exact H) | (have H2_ := (Option.bind_some _ _).symm.trans H; rw [hy216]; with_reducible exact H2_) | (have H2_ := (Option.bind_some _ _).symm.trans H; with_reducible exact H2_) | with_reducible exact H | (rw [hy216]; exact H) | exact H
             have Ny216 := Aside0.mk hy216
             clear hy216
             obtain ⟨y218, hy218⟩ : ∃ y_ : List (S113), y_ = (y216.set ((ji25) : Int).toNat (⟨(⟨(rd_T113 y216 (ji25)).f0.f0, (rd_T113 y216 (ji25)).f0.f1, (rd_T113 y216 (ji25)).f0.f2⟩ : S50), (rd_T113 y216 (ji25)).f1, wrap64 (((rd_T113 y216 (ji25)).f2) + 1)⟩ : S113)) := ⟨_, rfl⟩
             replace H : (impl_runsOf.l0 kj6 y218 true l0_2 (l0_2.length : Int) (wrap64 (x11_1 + 1)) a0_0 l0_1 l0_2) = some r := by first | (rw [hy218]; with_reducible exact H) | (have H2_ := (Option.bind_some _ _).symm.trans H; rw [hy218]; with_reducible exact H2_) | (have H2_ := (Option.bind_some _ _).symm.trans H; with_reducible exact H2_) | with_reducible exact H | (rw [hy218]; exact H) | exact H
             have Ny218 := Aside0.mk hy218
             clear hy218
             have H' := Aside0.mk H
             clear H
             have hnb31 := NB208_210.out
             have hnc31 := NB210_208.out
             obtain ⟨hcz32_0, hcz32_1, hcz32_2, hfz32_0, hfz32_1, hfz32_2⟩ := cz3 BK208.out
             obtain ⟨hcz33_0, hcz33_1, hcz33_2, hcz33_3, hfz33_0, hfz33_1, hfz33_2, hfz33_3⟩ := cz4 BK210.out
             try go_wp2_with (first | (go_at_call 124; (with_reducible refine (slices_Contains_int_int.calls kj6 _ _ l0_1 ((rd_T98 l0_2 x11_1).f0) false _ ?side1 ?side2 A18.out).mono ?_); (case side1 => exact cb (Kd.C_below HR0_1.out HB.out)); (case side2 => exact HC0_1.out); rintro e w' ⟨rfl, ⟨nd, rfl⟩⟩; (try (rw [drewN_self wc]; generalize hq_ : World.drewN wc _ = wc; have n0_ : Aside0 (Kd.R k113 113 wc w.heap.size (fun _ => True) u3 x3_1) := ⟨by rw [← hq_]; exact (rk HO_3.out)⟩; have n1_ : Aside0 (wc.heap[gb208]? = some (.cells #[.int .i64 a0_0, .slice A0_1 l0_1.length c0_1, .slice (some ad209) l0_2.length c0_2] 41 (0, 0))) := ⟨by rw [← hq_]; exact (bk BK208.out)⟩; have n2_ : Aside0 (wc.heap[gb210]? = some (.cells #[.int .i64 ((rd_T98 l0_2 x11_1).f0), .int .i64 ((rd_T98 l0_2 x11_1).f1), .int .i64 ((rd_T98 l0_2 x11_1).f2), .bool ((rd_T98 l0_2 x11_1).f3)] 98 (0, 0))) := ⟨by rw [← hq_]; exact (bk BK210.out)⟩; have n3_ : Aside0 (Below w.heap.size w wc) := ⟨by rw [← hq_]; exact (bl HB.out)⟩; clear HO_3 BK208 BK210 HB hq_; have HO_3 := n0_; have BK208 := n1_; have BK210 := n2_; have HB := n3_; clear n0_ n1_ n2_ n3_)); obtain ⟨Ao34, co34, eo34⟩ := Kd.R_slice HO_3.out; subst eo34; have p28 : 0 ≤ ((ji25) : Int) := of_decide_eq_true asm; have q28 : ((ji25) : Int) < ((x3_1.length : Int) : Int) := of_decide_eq_true asm; obtain ⟨go28, co28, eo28, gb28, gl28, cl28, HG28⟩ := Kd.R_form HO_3.out (by omega); (first | cases eo28 | (injection eo28 with ea_ en_ ec_; (first | subst ea_ | (injection ea_ with ea_; subst ea_)); subst ec_; clear en_)); have GB28 := Aside0.mk gb28; have GG28 := Aside0.mk HG28; clear gb28 gl28 HG28; obtain ⟨ce28, hcl28, hM28, hcc28, hfr28⟩ := Kd.R_elem HO_3.out z113 ((ji25) : Int) p28 q28; obtain rfl := k113_openM hM28; have hx28_0 : wc.cell? ⟨go28, ((ji25) : Int).toNat * 5, none⟩ = some (.int .i64 ((rd_T113 x3_1 (ji25)).f0.f0)) := hcc28 0 _ rfl; have hx28_1 : wc.cell? ⟨go28, ((ji25) : Int).toNat * 5 + 1, none⟩ = some (.int .i64 ((rd_T113 x3_1 (ji25)).f0.f1)) := hcc28 1 _ rfl; have hx28_2 : wc.cell? ⟨go28, ((ji25) : Int).toNat * 5 + 2, none⟩ = some (.int .i64 ((rd_T113 x3_1 (ji25)).f0.f2)) := hcc28 2 _ rfl; have hx28_3 : wc.cell? ⟨go28, ((ji25) : Int).toNat * 5 + 3, none⟩ = some (.int .i64 ((rd_T113 x3_1 (ji25)).f1)) := hcc28 3 _ rfl; have hx28_4 : wc.cell? ⟨go28, ((ji25) : Int).toNat * 5 + 4, none⟩ = some (.int .i64 ((rd_T113 x3_1 (ji25)).f2)) := hcc28 4 _ rfl; have hf28_0 : wc.frozen? ⟨go28, ((ji25) : Int).toNat * 5, none⟩ = false := hfr28 0; have hf28_1 : wc.frozen? ⟨go28, ((ji25) : Int).toNat * 5 + 1, none⟩ = false := hfr28 1; have hf28_2 : wc.frozen? ⟨go28, ((ji25) : Int).toNat * 5 + 2, none⟩ = false := hfr28 2; have hf28_3 : wc.frozen? ⟨go28, ((ji25) : Int).toNat * 5 + 3, none⟩ = false := hfr28 3; have hf28_4 : wc.frozen? ⟨go28, ((ji25) : Int).toNat * 5 + 4, none⟩ = false := hfr28 4; clear hcl28 hcc28 hfr28 hM28; replace p28 := eq_true p28; replace q28 := eq_true q28))
             replace HO_3 := Aside0.mk (Kd.R_drew HO_3.out)
             replace BK208 := Aside0.mk (blk_drew BK208.out)
             replace BK210 := Aside0.mk (blk_drew BK210.out)
             replace HB := Aside0.mk (below_drew1 HB.out)
             have p215 : 0 ≤ ((ji25) : Int) := of_decide_eq_true asm
             have q215 : (ji25) < (x3_1.length : Int) := of_decide_eq_true asm
             obtain ⟨ad215, e215, hx215_0, hx215_1, hx215_2, hx215_3, hx215_4⟩ := at_T113 (Kd.R_reads' HO_3.out).2.2 (ji25) p215 q215
             obtain rfl : (⟨go28, 0, none⟩ : Addr) = ad215 := (by injection e215)
             (first | simp only [add_plain] at hx215_0 | simp only [add_at] at hx215_0 | simp only [Addr.add, Nat.zero_add] at hx215_0 | skip)
             (first | simp only [add_plain] at hx215_1 | simp only [add_at] at hx215_1 | simp only [Addr.add, Nat.zero_add] at hx215_1 | skip)
             (first | simp only [add_plain] at hx215_2 | simp only [add_at] at hx215_2 | simp only [Addr.add, Nat.zero_add] at hx215_2 | skip)
             (first | simp only [add_plain] at hx215_3 | simp only [add_at] at hx215_3 | simp only [Addr.add, Nat.zero_add] at hx215_3 | skip)
             (first | simp only [add_plain] at hx215_4 | simp only [add_at] at hx215_4 | simp only [Addr.add, Nat.zero_add] at hx215_4 | skip)
             replace p215 := eq_true p215
             replace q215 := eq_true q215
             have p29 : 0 ≤ ((ji25) : Int) := of_decide_eq_true asm
             have q29 : ((ji25) : Int) < ((x3_1.length : Int) : Int) := of_decide_eq_true asm
             obtain ⟨ce29, hcl29, hM29, hcc29, hfr29⟩ := Kd.R_elem HO_3.out z113 ((ji25) : Int) p29 q29
             obtain rfl := k113_openM hM29
             have hx29_0 : World.cell? _ ⟨go28, ((ji25) : Int).toNat * 5, none⟩ = some (.int .i64 ((rd_T113 x3_1 (ji25)).f0.f0)) := hcc29 0 _ rfl
             have hx29_1 : World.cell? _ ⟨go28, ((ji25) : Int).toNat * 5 + 1, none⟩ = some (.int .i64 ((rd_T113 x3_1 (ji25)).f0.f1)) := hcc29 1 _ rfl
             have hx29_2 : World.cell? _ ⟨go28, ((ji25) : Int).toNat * 5 + 2, none⟩ = some (.int .i64 ((rd_T113 x3_1 (ji25)).f0.f2)) := hcc29 2 _ rfl
             have hx29_3 : World.cell? _ ⟨go28, ((ji25) : Int).toNat * 5 + 3, none⟩ = some (.int .i64 ((rd_T113 x3_1 (ji25)).f1)) := hcc29 3 _ rfl
             have hx29_4 : World.cell? _ ⟨go28, ((ji25) : Int).toNat * 5 + 4, none⟩ = some (.int .i64 ((rd_T113 x3_1 (ji25)).f2)) := hcc29 4 _ rfl
             have hf29_0 : World.frozen? _ ⟨go28, ((ji25) : Int).toNat * 5, none⟩ = false := hfr29 0
             have hf29_1 : World.frozen? _ ⟨go28, ((ji25) : Int).toNat * 5 + 1, none⟩ = false := hfr29 1
             have hf29_2 : World.frozen? _ ⟨go28, ((ji25) : Int).toNat * 5 + 2, none⟩ = false := hfr29 2
             have hf29_3 : World.frozen? _ ⟨go28, ((ji25) : Int).toNat * 5 + 3, none⟩ = false := hfr29 3
             have hf29_4 : World.frozen? _ ⟨go28, ((ji25) : Int).toNat * 5 + 4, none⟩ = false := hfr29 4
             clear hcl29 hcc29 hfr29 hM29
             replace p29 := eq_true p29
             replace q29 := eq_true q29
             obtain ⟨ce36, hcl36, hM36, hcc36, hfr36⟩ := Kd.R_elem HO_3.out z113 ((ji25) : Int) (of_decide_eq_true asm) (by have h_ : ((ji25) : Int) < ((x3_1.length : Int) : Int) := of_decide_eq_true asm; first | exact h_ | (have e_ := (Kd.R_reads' HO_3.out).1; omega) | simpa using h_)
             obtain rfl := k113_openM hM36
             have HP36 := (Kd.R_seg HO_3.out ((ji25) : Int) (of_decide_eq_true asm) (by have h_ : ((ji25) : Int) < ((x3_1.length : Int) : Int) := of_decide_eq_true asm; first | exact h_ | (have e_ := (Kd.R_reads' HO_3.out).1; omega) | simpa using h_) (seg := [.int .i64 (wrap64 (((rd_T113 x3_1 (ji25)).f0.f2) + ((rd_T98 l0_2 x11_1).f1)))]) (j := 2) hcl36 hcc36 (show 3 ≤ 5 from by decide) (x' := (⟨(⟨(rd_T113 x3_1 (ji25)).f0.f0, (rd_T113 x3_1 (ji25)).f0.f1, wrap64 (((rd_T113 x3_1 (ji25)).f0.f2) + ((rd_T98 l0_2 x11_1).f1))⟩ : S50), (rd_T113 x3_1 (ji25)).f1, (rd_T113 x3_1 (ji25)).f2⟩ : S113)) (k113_mkM _ _ _ (⟨(⟨(rd_T113 x3_1 (ji25)).f0.f0, (rd_T113 x3_1 (ji25)).f0.f1, wrap64 (((rd_T113 x3_1 (ji25)).f0.f2) + ((rd_T98 l0_2 x11_1).f1))⟩ : S50), (rd_T113 x3_1 (ji25)).f1, (rd_T113 x3_1 (ji25)).f2⟩ : S113) ) (fun _ hk => hk)).1
             rw [← Ny216.out] at HP36
             have HQ36 := Aside0.mk HP36
             clear hcl36 hcc36 hfr36 hM36 HP36
             refine start_ (n := 12) (S := fun w' => w'.cell? ⟨gb210, 0, none⟩ = some (.int .i64 ((rd_T98 l0_2 x11_1).f0)) ∧ w'.cell? ⟨gb210, 1, none⟩ = some (.int .i64 ((rd_T98 l0_2 x11_1).f1)) ∧ w'.cell? ⟨gb210, 2, none⟩ = some (.int .i64 ((rd_T98 l0_2 x11_1).f2)) ∧ w'.cell? ⟨gb210, 3, none⟩ = some (.bool ((rd_T98 l0_2 x11_1).f3)) ∧ w'.cell? ⟨go28, ((ji25)).toNat * 5, none⟩ = some (.int .i64 ((rd_T113 x3_1 (ji25)).f0.f0)) ∧ w'.cell? ⟨go28, ((ji25)).toNat * 5 + 1, none⟩ = some (.int .i64 ((rd_T113 x3_1 (ji25)).f0.f1)) ∧ w'.cell? ⟨go28, ((ji25)).toNat * 5 + 2, none⟩ = some (.int .i64 ((rd_T113 x3_1 (ji25)).f0.f2)) ∧ w'.cell? ⟨go28, ((ji25)).toNat * 5 + 3, none⟩ = some (.int .i64 ((rd_T113 x3_1 (ji25)).f1)) ∧ w'.cell? ⟨go28, ((ji25)).toNat * 5 + 4, none⟩ = some (.int .i64 ((rd_T113 x3_1 (ji25)).f2))) (ds := [11]) #[false, false, false, false, false, false, false, false, false, false, false, false] (by kernel_rfl) rfl rfl ⟨(blk_cell BK210.out 0).trans rfl, (blk_cell BK210.out 1).trans rfl, (blk_cell BK210.out 2).trans rfl, (blk_cell BK210.out 3).trans rfl, hx215_0, hx215_1, hx215_2, hx215_3, hx215_4⟩ (fun hHeld => ?_); refine with_tabW impl_runsOf.tab10 impl_runsOf.bits10 (fun HT_ HW_ => ?_)
             generalize wc.drew = w35 at HO_3 BK208 BK210 HB HQ36 hf29_0 hf29_1 hf29_2 hf29_3 hf29_4 hx215_0 hx215_1 hx215_2 hx215_3 hx215_4 hx29_0 hx29_1 hx29_2 hx29_3 hx29_4 hHeld ⊢
             refine puA (i := 0) (N := some 37) HT_.out ?_
             refine puA (i := 1) (N := some 38) HT_.out ?_
             refine puA (i := 2) (N := some 39) HT_.out ?_
             refine puA (i := 3) (N := some 40) HT_.out ?_
             refine puA (i := 5) (N := some 42) HT_.out ?_
             refine tkA9 (i := 4) (N := some 41) HT_.out HW_.out hHeld ?_
             refine tkA9 (i := 6) (N := some 43) HT_.out HW_.out hHeld ?_
             refine puA (i := 7) (N := some 44) HT_.out ?_
             refine puA (i := 8) (N := some 45) HT_.out ?_
             refine puA (i := 9) (N := some 46) HT_.out ?_
             refine puA (i := 10) (N := some 47) HT_.out ?_
             refine last_ (i := 11) (N := none) #[true, true, true, true, true, true, true, true, true, true, true, true] rfl rfl (one_of HT_.out (by kernel_rfl)) (by decide) (fun K hK => ?_)
             refine skip_ (w1 := ?_) (by rfl) rfl ?_ ?_
             rotate_left
             ·go_simp
              rfl
             refine hK.out _ _ ?_
             clear hK K
             refine done_ (done_of HT_.out (by kernel_rfl)) ?_
             have n0_ : Aside0 (Kd.R k113 113 (w35.setCell ⟨go28, ((ji25) : Int).toNat * 5 + 2, none⟩ (.int .i64 (wrap64 (((rd_T113 x3_1 (ji25)).f0.f2) + ((rd_T98 l0_2 x11_1).f1))))) w.heap.size (fun _ => True) (.slice (some ⟨go28, 0, none⟩) x3_1.length co34) y216) := ⟨rk HQ36.out⟩
             have n1_ : Aside0 ((w35.setCell ⟨go28, ((ji25) : Int).toNat * 5 + 2, none⟩ (.int .i64 (wrap64 (((rd_T113 x3_1 (ji25)).f0.f2) + ((rd_T98 l0_2 x11_1).f1))))).heap[gb208]? = some (.cells #[.int .i64 a0_0, .slice A0_1 l0_1.length c0_1, .slice (some ad209) l0_2.length c0_2] 41 (0, 0))) := ⟨by refine bk ?_; refine blk_far ?_ (by have h_ := Kd.R_ne HO_3.out BK208.out (by decide); intro e_; exact h_ (by rw [e_]; rfl)) _; refine bk ?_; exact BK208.out⟩
             have n2_ : Aside0 ((w35.setCell ⟨go28, ((ji25) : Int).toNat * 5 + 2, none⟩ (.int .i64 (wrap64 (((rd_T113 x3_1 (ji25)).f0.f2) + ((rd_T98 l0_2 x11_1).f1))))).heap[gb210]? = some (.cells #[.int .i64 ((rd_T98 l0_2 x11_1).f0), .int .i64 ((rd_T98 l0_2 x11_1).f1), .int .i64 ((rd_T98 l0_2 x11_1).f2), .bool ((rd_T98 l0_2 x11_1).f3)] 98 (0, 0))) := ⟨by refine bk ?_; refine blk_far ?_ (by have h_ := Kd.R_ne HO_3.out BK210.out (by decide); intro e_; exact h_ (by rw [e_]; rfl)) _; refine bk ?_; exact BK210.out⟩
             have n3_ : Aside0 (Below w.heap.size w (w35.setCell ⟨go28, ((ji25) : Int).toNat * 5 + 2, none⟩ (.int .i64 (wrap64 (((rd_T113 x3_1 (ji25)).f0.f2) + ((rd_T98 l0_2 x11_1).f1)))))) := ⟨by repeat (first | (with_reducible first | exact HB.out | apply below_alloc | apply pw_below_drewN | apply below_drew1 | refine below_set ?_ GB28.out | refine below_set ?_ GE208.out | refine below_set ?_ GE210.out) | exact HB.out)⟩
             (try clear HO_3)
             (try clear BK208)
             (try clear BK210)
             (try clear HB)
             generalize (w35.setCell ⟨go28, ((ji25) : Int).toNat * 5 + 2, none⟩ (.int .i64 (wrap64 (((rd_T113 x3_1 (ji25)).f0.f2) + ((rd_T98 l0_2 x11_1).f1))))) = w37 at n0_ n1_ n2_ n3_ ⊢
             have HO_3 := n0_
             have BK208 := n1_
             have BK210 := n2_
             have HB := n3_
             clear n0_ n1_ n2_ n3_
             have p217 : 0 ≤ ((ji25) : Int) := of_decide_eq_true asm
             have q217 : (ji25) < (y216.length : Int) := (by have h_ : ((ji25) : Int) < ((x3_1.length : Int) : Int) := of_decide_eq_true asm; first | (have e_ := (Kd.R_reads' HO_3.out).1; omega) | simpa only [Ny216.out, List.length_set] using h_)
             have ql217 : (((ji25) : Int) < ((x3_1.length : Int) : Int)) = True := eq_true (of_decide_eq_true asm)
             obtain ⟨ad217, e217, hx217_0, hx217_1, hx217_2, hx217_3, hx217_4⟩ := at_T113 (Kd.R_reads' HO_3.out).2.2 (ji25) p217 q217
             obtain rfl : (⟨go28, 0, none⟩ : Addr) = ad217 := (by injection e217)
             (first | simp only [add_plain] at hx217_0 | simp only [add_at] at hx217_0 | simp only [Addr.add, Nat.zero_add] at hx217_0 | skip)
             (first | simp only [add_plain] at hx217_1 | simp only [add_at] at hx217_1 | simp only [Addr.add, Nat.zero_add] at hx217_1 | skip)
             (first | simp only [add_plain] at hx217_2 | simp only [add_at] at hx217_2 | simp only [Addr.add, Nat.zero_add] at hx217_2 | skip)
             (first | simp only [add_plain] at hx217_3 | simp only [add_at] at hx217_3 | simp only [Addr.add, Nat.zero_add] at hx217_3 | skip)
             (first | simp only [add_plain] at hx217_4 | simp only [add_at] at hx217_4 | simp only [Addr.add, Nat.zero_add] at hx217_4 | skip)
             replace p217 := eq_true p217
             replace q217 := eq_true q217
             have p30 : 0 ≤ ((ji25) : Int) := of_decide_eq_true asm
             have q30 : ((ji25) : Int) < ((x3_1.length : Int) : Int) := of_decide_eq_true asm
             obtain ⟨ce30, hcl30, hM30, hcc30, hfr30⟩ := Kd.R_elem HO_3.out z113 ((ji25) : Int) p30 q30
             obtain rfl := k113_openM hM30
             have hx30_0 : w37.cell? ⟨go28, ((ji25) : Int).toNat * 5, none⟩ = some (.int .i64 ((rd_T113 y216 (ji25)).f0.f0)) := hcc30 0 _ rfl
             have hx30_1 : w37.cell? ⟨go28, ((ji25) : Int).toNat * 5 + 1, none⟩ = some (.int .i64 ((rd_T113 y216 (ji25)).f0.f1)) := hcc30 1 _ rfl
             have hx30_2 : w37.cell? ⟨go28, ((ji25) : Int).toNat * 5 + 2, none⟩ = some (.int .i64 ((rd_T113 y216 (ji25)).f0.f2)) := hcc30 2 _ rfl
             have hx30_3 : w37.cell? ⟨go28, ((ji25) : Int).toNat * 5 + 3, none⟩ = some (.int .i64 ((rd_T113 y216 (ji25)).f1)) := hcc30 3 _ rfl
             have hx30_4 : w37.cell? ⟨go28, ((ji25) : Int).toNat * 5 + 4, none⟩ = some (.int .i64 ((rd_T113 y216 (ji25)).f2)) := hcc30 4 _ rfl
             have hf30_0 : w37.frozen? ⟨go28, ((ji25) : Int).toNat * 5, none⟩ = false := hfr30 0
             have hf30_1 : w37.frozen? ⟨go28, ((ji25) : Int).toNat * 5 + 1, none⟩ = false := hfr30 1
             have hf30_2 : w37.frozen? ⟨go28, ((ji25) : Int).toNat * 5 + 2, none⟩ = false := hfr30 2
             have hf30_3 : w37.frozen? ⟨go28, ((ji25) : Int).toNat * 5 + 3, none⟩ = false := hfr30 3
             have hf30_4 : w37.frozen? ⟨go28, ((ji25) : Int).toNat * 5 + 4, none⟩ = false := hfr30 4
             clear hcl30 hcc30 hfr30 hM30
             replace p30 := eq_true p30
             replace q30 := eq_true q30
             have HX38 := Aside0.mk (show Kd.R k113 113 w37 w.heap.size (fun _ => True) (.slice (some ⟨go28, 0, none⟩) x3_1.length co34) y216 from (rk HO_3.out))
             obtain ⟨ce38, hcl38, hM38, hcc38, hfr38⟩ := Kd.R_elem HX38.out z113 ((ji25) : Int) (of_decide_eq_true asm) (by have h_ : ((ji25) : Int) < ((x3_1.length : Int) : Int) := of_decide_eq_true asm; first | exact h_ | (have e_ := (Kd.R_reads' HO_3.out).1; omega) | simpa using h_)
             obtain rfl := k113_openM hM38
             have HP38 := Kd.R_seg HX38.out ((ji25) : Int) (of_decide_eq_true asm) (by have h_ : ((ji25) : Int) < ((x3_1.length : Int) : Int) := of_decide_eq_true asm; first | exact h_ | (have e_ := (Kd.R_reads' HO_3.out).1; omega) | simpa using h_) (seg := [.int .i64 (wrap64 (((rd_T113 y216 (ji25)).f2) + 1))]) (j := 4) hcl38 hcc38 (show 5 ≤ 5 from by decide) (x' := (⟨(⟨(rd_T113 y216 (ji25)).f0.f0, (rd_T113 y216 (ji25)).f0.f1, (rd_T113 y216 (ji25)).f0.f2⟩ : S50), (rd_T113 y216 (ji25)).f1, wrap64 (((rd_T113 y216 (ji25)).f2) + 1)⟩ : S113)) (k113_mkM _ _ _ (⟨(⟨(rd_T113 y216 (ji25)).f0.f0, (rd_T113 y216 (ji25)).f0.f1, (rd_T113 y216 (ji25)).f0.f2⟩ : S50), (rd_T113 y216 (ji25)).f1, wrap64 (((rd_T113 y216 (ji25)).f2) + 1)⟩ : S113) ) (fun _ hk => hk)
             have hx38_4 := hcc38 4 _ rfl
             (try simp only [show (k113).sz = 5 from rfl, Nat.mul_one, Nat.add_zero] at hx38_4)
             have hf38_4 := hfr38 4
             (try simp only [show (k113).sz = 5 from rfl, Nat.mul_one, Nat.add_zero] at hf38_4)
             clear hcl38 hcc38 hfr38 hM38
             try go_wp2_with (first | ((with_reducible refine gate_store (t := 3) (p := 54) rfl ?_); refine store_event (t := 3) (p := 54) (v := ?vo_w39) (w1 := (w37.setCell ⟨go28, ((ji25) : Int).toNat * 5 + 4, none⟩ (.int .i64 (wrap64 (((rd_T113 y216 (ji25)).f2) + 1))))) ?hg ?ho ?hn ?hr ?_; (case ho => rfl); (case hg => rfl); (case hn => rfl); (case hr => first | (go_simp; done) | (go_simp; rfl)); intro w39 hw; have hg : w37.grownBy w39 (some go28) := (by rw [hw]; exact HP38.2); have hp_ : Kd.R k113 113 w39 w.heap.size (fun _ => True) (.slice (some ⟨go28, 0, none⟩) x3_1.length co34) y218 := (by rw [hw, Ny218.out]; exact HP38.1); clear HP38; replace BK208 := Aside0.mk (blk_grown (g := gb208) (o := .cells #[.int .i64 a0_0, .slice A0_1 l0_1.length c0_1, .slice (some ad209) l0_2.length c0_2] 41 (0, 0)) (bk BK208.out) hg (Kd.R_ne HO_3.out BK208.out (by decide))); replace BK210 := Aside0.mk (blk_grown (g := gb210) (o := .cells #[.int .i64 ((rd_T98 l0_2 x11_1).f0), .int .i64 ((rd_T98 l0_2 x11_1).f1), .int .i64 ((rd_T98 l0_2 x11_1).f2), .bool ((rd_T98 l0_2 x11_1).f3)] 98 (0, 0)) (bk BK210.out) hg (Kd.R_ne HO_3.out BK210.out (by decide))); replace HO_3 := Aside0.mk (hp_); replace HB := Aside0.mk ((by rw [hw]; exact below_set (HB.out) GB28.out : Below w.heap.size w w39)); clear hg hw hp_))
             go_roundg kj6
             case measure => have := HK1.out; have := HJ6.out; omega
             case rel => exact ⟨(y218), (true), (wrap64 (x11_1 + 1)), (by first | rfl | (simp; done) | (simp [*]; done)), (by first | rfl | (simp; done) | (simp [*]; done)), H', ⟨by have := HK1.out; have := HJ6.out; omega⟩, ⟨rk HO_3.out⟩, ⟨by refine bk ?_; exact BK208.out⟩, ⟨bl HB.out⟩⟩
            ·rw [if_neg c27] at H
             exact absurd H (by simp)
           ·rw [if_neg c26] at H
            exact absurd H (by simp)
         ·replace c17 := Bool.eq_false_iff.mpr c17
          subst c17
          rw [if_neg (show ¬ (false = true) by decide)] at H
          by_cases c40 : x3_1.length < 3518437208883
          ·rw [if_pos c40] at H
           have LMc40 := Aside0.mk c40
           clear c40
           obtain ⟨y219, hy219⟩ : ∃ y_ : List (S113), y_ = (x3_1 ++ [(⟨(⟨0, ((rd_T98 l0_2 x11_1).f0), ((rd_T98 l0_2 x11_1).f1)⟩ : S50), x11_1, wrap64 (x11_1 + 1)⟩ : S113)]) := ⟨_, rfl⟩
           replace H : (impl_runsOf.l0 kj6 y219 true l0_2 (l0_2.length : Int) (wrap64 (x11_1 + 1)) a0_0 l0_1 l0_2) = some r := by first | (rw [hy219]; with_reducible exact H) | (have H2_ := (Option.bind_some _ _).symm.trans H; rw [hy219]; with_reducible exact H2_) | (have H2_ := (Option.bind_some _ _).symm.trans H; with_reducible exact H2_) | with_reducible exact H | (rw [hy219]; exact H) | exact H
           have Ny219 := Aside0.mk hy219
           clear hy219
           have H' := Aside0.mk H
           clear H
           have hnb41 := NB210_208.out
           have hnc41 := NB208_210.out
           obtain ⟨hcz42_0, hcz42_1, hcz42_2, hcz42_3, hfz42_0, hfz42_1, hfz42_2, hfz42_3⟩ := cz4 BK210.out
           go_wp2_with (first | ((with_reducible refine gate_builtin (b := .append) (xs := #[.tmp 55, .tmp 65]) rfl ?_); at_builtin; refine Kd.R_append k113 (w0 := w) w.heap.size rfl (.tmp 55) (.tmp 65) 110 113 (.agg #[(.int .i64 0), (.int .i64 0), (.int .i64 0), (.int .i64 0), (.int .i64 0)]) 40 rfl Try.underlying110 info113 rfl (by decide) (by omega) u3 x3_1 (⟨(⟨0, ((rd_T98 l0_2 x11_1).f0), ((rd_T98 l0_2 x11_1).f1)⟩ : S50), x11_1, wrap64 (x11_1 + 1)⟩ : S113) [.int .i64 0, .int .i64 ((rd_T98 l0_2 x11_1).f0), .int .i64 ((rd_T98 l0_2 x11_1).f1), .int .i64 x11_1, .int .i64 (wrap64 (x11_1 + 1))] (fun _ => True) (fun _ => False) rfl rfl ?aP (fun _ hk => hk.elim) ?aF ?aO ?aB ?aS ?aL ?_; (case aP => exact k113_mkM _ _ _ (⟨(⟨0, ((rd_T98 l0_2 x11_1).f0), ((rd_T98 l0_2 x11_1).f1)⟩ : S50), x11_1, wrap64 (x11_1 + 1)⟩ : S113)); (case aB => exact (bl HB.out)); (case aF => exact (fun _ _ => trivial)); (case aO => exact (rk HO_3.out)); (case aS => exact (below_size (bl HB.out))); (case aL => have := LMc40.out; omega); intro v220 w43 ho hb hg hat; rw [← Ny219.out] at ho; replace BK208 := Aside0.mk (blk_grown (g := gb208) (o := .cells #[.int .i64 a0_0, .slice A0_1 l0_1.length c0_1, .slice (some ad209) l0_2.length c0_2] 41 (0, 0)) (bk BK208.out) hg (Kd.R_ne HO_3.out BK208.out (by decide))); replace BK210 := Aside0.mk (blk_grown (g := gb210) (o := .cells #[.int .i64 ((rd_T98 l0_2 x11_1).f0), .int .i64 ((rd_T98 l0_2 x11_1).f1), .int .i64 ((rd_T98 l0_2 x11_1).f2), .bool ((rd_T98 l0_2 x11_1).f3)] 98 (0, 0)) (bk BK210.out) hg (Kd.R_ne HO_3.out BK210.out (by decide))); replace HB := Aside0.mk (hb); have HO221 := Aside0.mk (ho); clear HO_3; clear ho hb hg hat))
           go_roundg kj6
           case measure => have := HK1.out; have := HJ6.out; omega
           case rel => exact ⟨(y219), (true), (wrap64 (x11_1 + 1)), (by first | rfl | (simp; done) | (simp [*]; done)), (by first | rfl | (simp; done) | (simp [*]; done)), H', ⟨by have := HK1.out; have := HJ6.out; omega⟩, ⟨rk HO221.out⟩, ⟨by refine bk ?_; exact BK208.out⟩, ⟨bl HB.out⟩⟩
          ·rw [if_neg c40] at H
           exact absurd H (by simp)
     ·rw [if_neg c6] at H
      exact absurd H (by simp)
    ·rw [if_neg c5] at H
     exact absurd H (by simp)
   ·rw [if_neg c4] at H
    have c4b0 : decide (x11_1 < (l0_2.length : Int)) = false := decide_eq_false c4
    clear c4
    obtain rfl := Option.some.inj H
    go_wp2
    go_ret
    exact ⟨_, by first | rfl | (simp [errW_none, errW_some] <;> rfl) | (simp [*, errW_none, errW_some] <;> rfl), rk HO_3.out, bl HB.out⟩
end Go.Proofs.Ytbpjidekjogfeaa.A

namespace Go.Proofs.Ytbpjidekjogfeaa.A
open Go.RowKit Go.Proofs.YtbpjidekjogfeaaW.PrintWords Go.Proofs.YtbpjidekjogfeaaW.PrintLast Go.Proofs.YtbpjidekjogfeaaW.PrintMore
attribute [local go_sem] max2_int min2_int max_two min_two max_three min_three max_four min_four   
set_option linter.unusedVariables false
set_option linter.unusedSimpArgs false
mutual
def impl_bankGaps.l0 : Nat → List (S50) → List (S41) → Int → Int → Option ((List (S50)))
 | 0, _, _, _, _ => none
 | k + 1, x3, x9, x10, x11 => if x11 < x10 then (if 0 ≤ x11 then (if x11 < (x9.length : Int) then ((impl_runsOf.f k ((rd_T41 x9 x11).f0) ((rd_T41 x9 x11).f1) ((rd_T41 x9 x11).f2)).bind fun t224 => (impl_bankGaps.l1 k x3 x11 x9 x10 x11 t224 (t224.length : Int) 0)) else (none)) else (none)) else (some x3)
def impl_bankGaps.l1 : Nat → List (S50) → Int → List (S41) → Int → Int → List (S113) → Int → Int → Option ((List (S50)))
 | 0, _, _, _, _, _, _, _, _ => none
 | k + 1, x3, x4, x9, x10, x11, x17, x18, x19 => if x19 < x18 then (if 0 ≤ x19 then (if x19 < (x17.length : Int) then (if x3.length < 5864062014805 then (impl_bankGaps.l1 k (x3 ++ [(⟨x4, (rd_T113 x17 x19).f0.f1, (rd_T113 x17 x19).f0.f2⟩ : S50)]) x4 x9 x10 x11 x17 x18 (wrap64 (x19 + 1))) else (none)) else (none)) else (none)) else (impl_bankGaps.l0 k x3 x9 x10 (wrap64 (x11 + 1)))
end
def impl_bankGaps.f (k : Nat) (l0 : List (S41)) : Option ((List (S50))) := impl_bankGaps.l0 k ([] : List (S50)) l0 (l0.length : Int) 0
set_option maxHeartbeats 8000000 in
set_option maxRecDepth 100000 in
theorem impl_bankGaps.calls (k : Nat) (A0 : Option Addr) (c0 : Nat) (l0 : List (S41)) (r : List (S50)) (w : World) (hr0 : Kd.C k41 w A0 l0.length l0) (hc0 : l0.length ≤ c0) (h : impl_bankGaps.f k l0 = some r) :
  Calls Try.prog 67 #[.slice A0 l0.length c0] w fun e w' => ∃ v0_ : Value, e = .returned (v0_) ∧ Kd.R k50 50 w' w.heap.size (fun _ => True) v0_ r ∧ Below w.heap.size w w' := by
 have hu41 := Try.underlying41
 have hu113 := Try.underlying113
 have hu50 := Try.underlying50
 have HR0 := Aside0.mk hr0
 have HC0 := Aside0.mk hc0
 clear hr0 hc0
 have HB := Aside0.mk (Below.refl w.heap.size w)
 have H : (impl_bankGaps.l0 k ([] : List (S50)) l0 (l0.length : Int) 0) = some r := h
 clear h
 have H' := Aside0.mk H
 clear H
 go_enter Try.func67, Try.ntmps67
 go_wp2
 go_loopg [3, 11] k (fun kq v3 v11 w' => ∃ (x3_1 : List (S50)) (x11_1 : Int), v11 = .int .i64 x11_1 ∧ Aside0 (impl_bankGaps.l0 kq x3_1 l0 (l0.length : Int) x11_1 = some r) ∧ Aside0 (kq ≤ k) ∧ Aside0 (Kd.R k50 50 w' w.heap.size (fun _ => True) v3 x3_1) ∧ Aside0 (Below w.heap.size w w'))
 case atStart => exact ⟨(([] : List (S50))), (0), (by first | rfl | (simp; done) | (simp [*]; done)), H', ⟨Nat.le_refl _⟩, ⟨by first | exact Kd.R_nil _ _ _ _ _ | exact Kd.N_nil _ _ _ _ _ | exact Kd.V_nil _ _ _ _ _ | exact Kd.Q_nil _ _ _ _ _ | exact Kd.S_nil _ _ _ _ _⟩, ⟨bl HB.out⟩⟩
 case round =>
  clear H'
  obtain ⟨x3_1, x11_1, rfl, HA, HK1, HO_3, HB⟩ := hrel
  cases gk with
  | zero => exact absurd HA.out (by simp [impl_bankGaps.l0])
  | succ k1 =>
   have H := HA.out
   clear HA
   simp only [impl_bankGaps.l0] at H
   by_cases c2 : x11_1 < (l0.length : Int)
   ·rw [if_pos c2] at H
    have c2b0 : decide (x11_1 < (l0.length : Int)) = true := decide_eq_true c2
    clear c2
    by_cases c3 : 0 ≤ x11_1
    ·rw [if_pos c3] at H
     have c3b0 : decide (0 ≤ x11_1) = true := decide_eq_true c3
     clear c3
     by_cases c4 : x11_1 < (l0.length : Int)
     ·rw [if_pos c4] at H
      have c4b0 : decide (x11_1 < (l0.length : Int)) = true := decide_eq_true c4
      clear c4
      replace H := Option.bind_eq_some_iff.mp H
      obtain ⟨t224, A50, H⟩ := H
      try dsimp only at H
      have A5 := Aside0.mk A50
      clear A50
      have H' := Aside0.mk H
      clear H
      have p222 : 0 ≤ (x11_1 : Int) := of_decide_eq_true asm
      have q222 : x11_1 < (l0.length : Int) := of_decide_eq_true asm
      obtain ⟨ad222, A222_1, c222_1, A222_2, c222_2, e222, hx222_0, hx222_1, hx222_2, hl222_1, hi222_1, hl222_2, hi222_2⟩ := at_T41 HR0.out x11_1 p222 q222
      cases e222
      replace hx222_0 := (HB.out.cell (World.block_lt_of_cell? w _ hx222_0)).trans hx222_0
      replace hx222_1 := (HB.out.cell (World.block_lt_of_cell? w _ hx222_1)).trans hx222_1
      replace hx222_2 := (HB.out.cell (World.block_lt_of_cell? w _ hx222_2)).trans hx222_2
      have HR222_1 := Aside0.mk hi222_1
      have HC222_1 := Aside0.mk hl222_1
      clear hi222_1 hl222_1
      have HR222_2 := Aside0.mk hi222_2
      have HC222_2 := Aside0.mk hl222_2
      clear hi222_2 hl222_2
      replace p222 := eq_true p222
      replace q222 := eq_true q222
      go_wp2_with (first | ((with_reducible refine gate_dst (N := 5) rfl ?_); refine bx (cs := #[.int .i64 0, .slice none 0 0, .slice none 0 0]) (t := 41) fun gb223 hg w6 hbox hb => ?_; replace HO_3 := Aside0.mk (Kd.R_below (rk HO_3.out) hb); have BK223 := Aside0.mk (hbox); have GW223 := Aside0.mk (gs HB.out hg); have GE223 := Aside0.mk (gs HB.out hg); replace HB := Aside0.mk (below_step (bl HB.out) hb); clear hb hbox hg; obtain ⟨hcz7_0, hcz7_1, hcz7_2, hfz7_0, hfz7_1, hfz7_2⟩ := cz3 BK223.out) | ((with_reducible refine gate_callee (f := 109) rfl ?_); refine goesL_ (some 17) rfl rfl Try.func109 (by kernel_rfl) rfl #[.agg #[.int .i64 ((rd_T41 l0 x11_1).f0), .slice A222_1 ((rd_T41 l0 x11_1).f1).length c222_1, .slice A222_2 ((rd_T41 l0 x11_1).f2).length c222_2]] rfl mapd ?_; (with_reducible refine (impl_runsOf.calls k1 ((rd_T41 l0 x11_1).f0) _ _ ((rd_T41 l0 x11_1).f1) _ _ ((rd_T41 l0 x11_1).f2) t224 _ ?side1 ?side2 ?side3 ?side4 A5.out).mono ?_); (case side1 => exact Kd.C_below HR222_1.out (bl HB.out)); (case side2 => exact HC222_1.out); (case side3 => exact Kd.C_below HR222_2.out (bl HB.out)); (case side4 => exact HC222_2.out); rintro e w8 ⟨v225, rfl, ho0, hb⟩; refine ⟨_, rfl, ?_⟩; replace HO_3 := Aside0.mk (Kd.R_below (by refine rk ?_; exact (Kd.R_mono (Kd.R_far (p := ⟨gb223, 2, none⟩) (Kd.R_far (p := ⟨gb223, 1, none⟩) (Kd.R_far (p := ⟨gb223, 0, none⟩) (Kd.R_types HO_3.out BK223.out (by decide)) (fun _ hk => hk.2) (.int .i64 ((rd_T41 l0 x11_1).f0))) (fun _ hk => hk.2) (.slice A222_1 ((rd_T41 l0 x11_1).f1).length c222_1)) (fun _ hk => hk.2) (.slice A222_2 ((rd_T41 l0 x11_1).f2).length c222_2)) (fun _ h_ => h_.1))) hb); have HO226 := Aside0.mk (Kd.R_lower ho0 (below_size (bl HB.out))); replace BK223 := Aside0.mk (blk_below (g := gb223) (o := .cells #[.int .i64 ((rd_T41 l0 x11_1).f0), .slice A222_1 ((rd_T41 l0 x11_1).f1).length c222_1, .slice A222_2 ((rd_T41 l0 x11_1).f2).length c222_2] 41 (0, 0)) (by refine bk ?_; refine blk_put (cs := #[.int .i64 ((rd_T41 l0 x11_1).f0), .slice A222_1 ((rd_T41 l0 x11_1).f1).length c222_1, .slice none 0 0]) ?_ 2 _ rfl; refine bk ?_; refine blk_put (cs := #[.int .i64 ((rd_T41 l0 x11_1).f0), .slice none 0 0, .slice none 0 0]) ?_ 1 _ rfl; refine bk ?_; refine blk_put (cs := #[.int .i64 0, .slice none 0 0, .slice none 0 0]) ?_ 0 _ rfl; refine bk ?_; exact BK223.out) hb); replace HB := Aside0.mk (below_step (bl HB.out) hb); (try clear hb); (try clear hb2); (try clear hk); (try clear hi); (try clear ho0); obtain ⟨Ao9, co9, eo9⟩ := Kd.R_slice HO226.out; subst eo9))
      go_loopg [3, 19] k1 (fun kq v3 v19 w' => ∃ (x3_2 : List (S50)) (x19_2 : Int), v19 = .int .i64 x19_2 ∧ Aside0 (impl_bankGaps.l1 kq x3_2 x11_1 l0 (l0.length : Int) x11_1 t224 (t224.length : Int) x19_2 = some r) ∧ Aside0 (kq ≤ k1) ∧ Aside0 (Kd.R k50 50 w' w.heap.size (fun _ => True) v3 x3_2) ∧ Aside0 (Kd.R k113 113 w' w.heap.size (fun _ => True) (.slice Ao9 t224.length co9) t224) ∧ Aside0 (w'.heap[gb223]? = some (.cells #[.int .i64 ((rd_T41 l0 x11_1).f0), (.slice A222_1 ((rd_T41 l0 x11_1).f1).length c222_1), (.slice A222_2 ((rd_T41 l0 x11_1).f2).length c222_2)] 41 (0, 0))) ∧ Aside0 (Below w.heap.size w w'))
      case atStart => exact ⟨(x3_1), (0), (by first | rfl | (simp; done) | (simp [*]; done)), H', ⟨Nat.le_refl _⟩, ⟨rk HO_3.out⟩, ⟨rk HO226.out⟩, ⟨by refine bk ?_; exact BK223.out⟩, ⟨bl HB.out⟩⟩
      case round =>
       clear H'
       try clear c1
       try clear c2
       try clear c2b0
       try clear p2
       try clear q2
       try clear hx2
       try clear c3
       try clear c3b0
       try clear c4
       try clear c4b0
       try clear c6
       try clear hcz7_0
       try clear hcz7_1
       try clear hcz7_2
       try clear hfz7_0
       try clear hfz7_1
       try clear hfz7_2
       try clear hx222_0
       try clear hx222_1
       try clear hx222_2
       try clear p222
       try clear q222
       obtain ⟨x3_2, x19_2, rfl, HA, HK2, HO_3, HO_17, BK223, HB⟩ := hrel
       cases gk with
       | zero => exact absurd HA.out (by simp [impl_bankGaps.l1])
       | succ k2 =>
        have H := HA.out
        clear HA
        simp only [impl_bankGaps.l1] at H
        by_cases c10 : x19_2 < (t224.length : Int)
        ·rw [if_pos c10] at H
         have c10b0 : decide (x19_2 < (t224.length : Int)) = true := decide_eq_true c10
         clear c10
         by_cases c11 : 0 ≤ x19_2
         ·rw [if_pos c11] at H
          have c11b0 : decide (0 ≤ x19_2) = true := decide_eq_true c11
          clear c11
          by_cases c12 : x19_2 < (t224.length : Int)
          ·rw [if_pos c12] at H
           have c12b0 : decide (x19_2 < (t224.length : Int)) = true := decide_eq_true c12
           clear c12
           by_cases c13 : x3_2.length < 5864062014805
           ·rw [if_pos c13] at H
            have LMc13 := Aside0.mk c13
            clear c13
            obtain ⟨y230, hy230⟩ : ∃ y_ : List (S50), y_ = (x3_2 ++ [(⟨x11_1, (rd_T113 t224 x19_2).f0.f1, (rd_T113 t224 x19_2).f0.f2⟩ : S50)]) := ⟨_, rfl⟩
            replace H : (impl_bankGaps.l1 k2 y230 x11_1 l0 (l0.length : Int) x11_1 t224 (t224.length : Int) (wrap64 (x19_2 + 1))) = some r := by first | (rw [hy230]; with_reducible exact H) | (have H2_ := (Option.bind_some _ _).symm.trans H; rw [hy230]; with_reducible exact H2_) | (have H2_ := (Option.bind_some _ _).symm.trans H; with_reducible exact H2_) | with_reducible exact H | (rw [hy230]; exact H) | exact H
            have Ny230 := Aside0.mk hy230
            clear hy230
            have H' := Aside0.mk H
            clear H
            have p227 : 0 ≤ (x19_2 : Int) := of_decide_eq_true asm
            have q227 : x19_2 < (t224.length : Int) := of_decide_eq_true asm
            obtain ⟨ad227, e227, hx227_0, hx227_1, hx227_2, hx227_3, hx227_4⟩ := at_T113 (Kd.R_reads' HO_17.out).2.2 x19_2 p227 q227
            cases e227
            replace p227 := eq_true p227
            replace q227 := eq_true q227
            go_wp2_with (first | ((with_reducible refine gate_dst (N := 7) rfl ?_); refine bx (cs := #[.int .i64 0, .int .i64 0, .int .i64 0, .int .i64 0, .int .i64 0]) (t := 113) fun gb228 hg w14 hbox hb => ?_; replace HO_3 := Aside0.mk (Kd.R_below (rk HO_3.out) hb); replace HO_17 := Aside0.mk (Kd.R_below (Kd.R_elderB (rk HO_17.out) gb228 (Nat.le_of_eq hg.symm)) hb); have BK228 := Aside0.mk (hbox); have GW228 := Aside0.mk (gs HB.out hg); have GE228 := Aside0.mk (gs HB.out hg); replace HB := Aside0.mk (below_step (bl HB.out) hb); have NB223_228 := Aside0.mk ((nl BK223.out hg)); have NB228_223 := Aside0.mk ((ng BK223.out hg)); replace BK223 := Aside0.mk (bb BK223.out hb); clear hb hbox hg; have hnb15 := NB228_223.out; have hnc15 := NB223_228.out; obtain ⟨hcz16_0, hcz16_1, hcz16_2, hcz16_3, hcz16_4, hfz16_0, hfz16_1, hfz16_2, hfz16_3, hfz16_4⟩ := cz5 BK228.out) | ((with_reducible refine gate_dst (N := 8) rfl ?_); refine bx (cs := #[.int .i64 0, .int .i64 0, .int .i64 0]) (t := 50) fun gb229 hg w17 hbox hb => ?_; replace HO_3 := Aside0.mk (Kd.R_below (Kd.R_elderB (by refine rk ?_; exact (Kd.R_mono (Kd.R_far (p := ⟨gb228, 4, none⟩) (Kd.R_far (p := ⟨gb228, 3, none⟩) (Kd.R_far (p := ⟨gb228, 2, none⟩) (Kd.R_far (p := ⟨gb228, 1, none⟩) (Kd.R_far (p := ⟨gb228, 0, none⟩) (Kd.R_types HO_3.out BK228.out (by decide)) (fun _ hk => hk.2) (.int .i64 ((rd_T113 t224 x19_2).f0.f0))) (fun _ hk => hk.2) (.int .i64 ((rd_T113 t224 x19_2).f0.f1))) (fun _ hk => hk.2) (.int .i64 ((rd_T113 t224 x19_2).f0.f2))) (fun _ hk => hk.2) (.int .i64 ((rd_T113 t224 x19_2).f1))) (fun _ hk => hk.2) (.int .i64 ((rd_T113 t224 x19_2).f2))) (fun _ h_ => h_.1))) gb229 (Nat.le_of_eq hg.symm)) hb); replace HO_17 := Aside0.mk (Kd.R_below (by refine rk ?_; exact (Kd.R_mono (Kd.R_far (p := ⟨gb228, 4, none⟩) (Kd.R_far (p := ⟨gb228, 3, none⟩) (Kd.R_far (p := ⟨gb228, 2, none⟩) (Kd.R_far (p := ⟨gb228, 1, none⟩) (Kd.R_far (p := ⟨gb228, 0, none⟩) (Kd.R_mono HO_17.out (fun k_ hk => (⟨hk, hk.2⟩ : _ ∧ k_ ≠ gb228))) (fun _ hk => hk.2) (.int .i64 ((rd_T113 t224 x19_2).f0.f0))) (fun _ hk => hk.2) (.int .i64 ((rd_T113 t224 x19_2).f0.f1))) (fun _ hk => hk.2) (.int .i64 ((rd_T113 t224 x19_2).f0.f2))) (fun _ hk => hk.2) (.int .i64 ((rd_T113 t224 x19_2).f1))) (fun _ hk => hk.2) (.int .i64 ((rd_T113 t224 x19_2).f2))) (fun _ h_ => h_.1))) hb); have BK229 := Aside0.mk (hbox); have GW229 := Aside0.mk (gs HB.out hg); have GE229 := Aside0.mk (gs HB.out hg); replace HB := Aside0.mk (below_step (bl HB.out) hb); have NB223_229 := Aside0.mk ((by rw [hg]; exact Nat.ne_of_lt (blk_lt (g := gb223) (o := .cells #[.int .i64 ((rd_T41 l0 x11_1).f0), .slice A222_1 ((rd_T41 l0 x11_1).f1).length c222_1, .slice A222_2 ((rd_T41 l0 x11_1).f2).length c222_2] 41 (0, 0)) (bf BK223.out)) : gb223 ≠ gb229)); have NB229_223 := Aside0.mk ((by rw [hg]; exact Nat.ne_of_gt (blk_lt (g := gb223) (o := .cells #[.int .i64 ((rd_T41 l0 x11_1).f0), .slice A222_1 ((rd_T41 l0 x11_1).f1).length c222_1, .slice A222_2 ((rd_T41 l0 x11_1).f2).length c222_2] 41 (0, 0)) (bf BK223.out)) : gb229 ≠ gb223)); replace BK223 := Aside0.mk (blk_below (g := gb223) (o := .cells #[.int .i64 ((rd_T41 l0 x11_1).f0), .slice A222_1 ((rd_T41 l0 x11_1).f1).length c222_1, .slice A222_2 ((rd_T41 l0 x11_1).f2).length c222_2] 41 (0, 0)) (bf BK223.out) hb); have NB228_229 := Aside0.mk ((by rw [hg]; exact Nat.ne_of_lt (blk_lt (g := gb228) (o := .cells #[.int .i64 ((rd_T113 t224 x19_2).f0.f0), .int .i64 ((rd_T113 t224 x19_2).f0.f1), .int .i64 ((rd_T113 t224 x19_2).f0.f2), .int .i64 ((rd_T113 t224 x19_2).f1), .int .i64 ((rd_T113 t224 x19_2).f2)] 113 (0, 0)) (by refine bk ?_; refine blk_put (cs := #[.int .i64 ((rd_T113 t224 x19_2).f0.f0), .int .i64 ((rd_T113 t224 x19_2).f0.f1), .int .i64 ((rd_T113 t224 x19_2).f0.f2), .int .i64 ((rd_T113 t224 x19_2).f1), .int .i64 0]) ?_ 4 _ rfl; refine bk ?_; refine blk_put (cs := #[.int .i64 ((rd_T113 t224 x19_2).f0.f0), .int .i64 ((rd_T113 t224 x19_2).f0.f1), .int .i64 ((rd_T113 t224 x19_2).f0.f2), .int .i64 0, .int .i64 0]) ?_ 3 _ rfl; refine bk ?_; refine blk_put (cs := #[.int .i64 ((rd_T113 t224 x19_2).f0.f0), .int .i64 ((rd_T113 t224 x19_2).f0.f1), .int .i64 0, .int .i64 0, .int .i64 0]) ?_ 2 _ rfl; refine bk ?_; refine blk_put (cs := #[.int .i64 ((rd_T113 t224 x19_2).f0.f0), .int .i64 0, .int .i64 0, .int .i64 0, .int .i64 0]) ?_ 1 _ rfl; refine bk ?_; refine blk_put (cs := #[.int .i64 0, .int .i64 0, .int .i64 0, .int .i64 0, .int .i64 0]) ?_ 0 _ rfl; refine bk ?_; exact BK228.out)) : gb228 ≠ gb229)); have NB229_228 := Aside0.mk ((by rw [hg]; exact Nat.ne_of_gt (blk_lt (g := gb228) (o := .cells #[.int .i64 ((rd_T113 t224 x19_2).f0.f0), .int .i64 ((rd_T113 t224 x19_2).f0.f1), .int .i64 ((rd_T113 t224 x19_2).f0.f2), .int .i64 ((rd_T113 t224 x19_2).f1), .int .i64 ((rd_T113 t224 x19_2).f2)] 113 (0, 0)) (by refine bk ?_; refine blk_put (cs := #[.int .i64 ((rd_T113 t224 x19_2).f0.f0), .int .i64 ((rd_T113 t224 x19_2).f0.f1), .int .i64 ((rd_T113 t224 x19_2).f0.f2), .int .i64 ((rd_T113 t224 x19_2).f1), .int .i64 0]) ?_ 4 _ rfl; refine bk ?_; refine blk_put (cs := #[.int .i64 ((rd_T113 t224 x19_2).f0.f0), .int .i64 ((rd_T113 t224 x19_2).f0.f1), .int .i64 ((rd_T113 t224 x19_2).f0.f2), .int .i64 0, .int .i64 0]) ?_ 3 _ rfl; refine bk ?_; refine blk_put (cs := #[.int .i64 ((rd_T113 t224 x19_2).f0.f0), .int .i64 ((rd_T113 t224 x19_2).f0.f1), .int .i64 0, .int .i64 0, .int .i64 0]) ?_ 2 _ rfl; refine bk ?_; refine blk_put (cs := #[.int .i64 ((rd_T113 t224 x19_2).f0.f0), .int .i64 0, .int .i64 0, .int .i64 0, .int .i64 0]) ?_ 1 _ rfl; refine bk ?_; refine blk_put (cs := #[.int .i64 0, .int .i64 0, .int .i64 0, .int .i64 0, .int .i64 0]) ?_ 0 _ rfl; refine bk ?_; exact BK228.out)) : gb229 ≠ gb228)); replace BK228 := Aside0.mk (blk_below (g := gb228) (o := .cells #[.int .i64 ((rd_T113 t224 x19_2).f0.f0), .int .i64 ((rd_T113 t224 x19_2).f0.f1), .int .i64 ((rd_T113 t224 x19_2).f0.f2), .int .i64 ((rd_T113 t224 x19_2).f1), .int .i64 ((rd_T113 t224 x19_2).f2)] 113 (0, 0)) (by refine bk ?_; refine blk_put (cs := #[.int .i64 ((rd_T113 t224 x19_2).f0.f0), .int .i64 ((rd_T113 t224 x19_2).f0.f1), .int .i64 ((rd_T113 t224 x19_2).f0.f2), .int .i64 ((rd_T113 t224 x19_2).f1), .int .i64 0]) ?_ 4 _ rfl; refine bk ?_; refine blk_put (cs := #[.int .i64 ((rd_T113 t224 x19_2).f0.f0), .int .i64 ((rd_T113 t224 x19_2).f0.f1), .int .i64 ((rd_T113 t224 x19_2).f0.f2), .int .i64 0, .int .i64 0]) ?_ 3 _ rfl; refine bk ?_; refine blk_put (cs := #[.int .i64 ((rd_T113 t224 x19_2).f0.f0), .int .i64 ((rd_T113 t224 x19_2).f0.f1), .int .i64 0, .int .i64 0, .int .i64 0]) ?_ 2 _ rfl; refine bk ?_; refine blk_put (cs := #[.int .i64 ((rd_T113 t224 x19_2).f0.f0), .int .i64 0, .int .i64 0, .int .i64 0, .int .i64 0]) ?_ 1 _ rfl; refine bk ?_; refine blk_put (cs := #[.int .i64 0, .int .i64 0, .int .i64 0, .int .i64 0, .int .i64 0]) ?_ 0 _ rfl; refine bk ?_; exact BK228.out) hb); clear hb hbox hg; have hnb18 := NB229_223.out; have hnc18 := NB223_229.out; have hnb19 := NB229_228.out; have hnc19 := NB228_229.out; obtain ⟨hcz20_0, hcz20_1, hcz20_2, hfz20_0, hfz20_1, hfz20_2⟩ := cz3 BK229.out) | ((with_reducible refine gate_builtin (b := .append) (xs := #[.tmp 27, .tmp 29]) rfl ?_); at_builtin; refine Kd.R_append k50 (w0 := w) w.heap.size rfl (.tmp 27) (.tmp 29) 24 50 (.agg #[(.int .i64 0), (.int .i64 0), (.int .i64 0)]) 24 rfl Try.underlying24 info50 rfl (by decide) (by omega) u3 x3_2 (⟨x11_1, (rd_T113 t224 x19_2).f0.f1, (rd_T113 t224 x19_2).f0.f2⟩ : S50) [.int .i64 x11_1, .int .i64 ((rd_T113 t224 x19_2).f0.f1), .int .i64 ((rd_T113 t224 x19_2).f0.f2)] (fun k_ => k_ ≠ gb229) (fun _ => False) rfl (by first | (go_simp; done) | (go_simp; rfl)) ?aP (fun _ hk => hk.elim) ?aF ?aO ?aB ?aS ?aL ?_; (case aP => exact k50_mkM _ _ _ (⟨x11_1, (rd_T113 t224 x19_2).f0.f1, (rd_T113 t224 x19_2).f0.f2⟩ : S50)); (case aB => exact (bl HB.out)); (case aF => exact (fun k_ hk => Kd.freshB (g := gb229) (o := .cells #[.int .i64 x11_1, .int .i64 ((rd_T113 t224 x19_2).f0.f1), .int .i64 ((rd_T113 t224 x19_2).f0.f2)] 50 (0, 0)) (by refine bk ?_; refine blk_put (cs := #[.int .i64 ((rd_T113 t224 x19_2).f0.f0), .int .i64 ((rd_T113 t224 x19_2).f0.f1), .int .i64 ((rd_T113 t224 x19_2).f0.f2)]) ?_ 0 _ rfl; refine bk ?_; refine blk_put (cs := #[.int .i64 ((rd_T113 t224 x19_2).f0.f0), .int .i64 ((rd_T113 t224 x19_2).f0.f1), .int .i64 0]) ?_ 2 _ rfl; refine bk ?_; refine blk_put (cs := #[.int .i64 ((rd_T113 t224 x19_2).f0.f0), .int .i64 0, .int .i64 0]) ?_ 1 _ rfl; refine bk ?_; refine blk_put (cs := #[.int .i64 0, .int .i64 0, .int .i64 0]) ?_ 0 _ rfl; refine bk ?_; exact BK229.out) k_ hk)); (case aO => exact (by refine rk ?_; exact Kd.R_mono (Kd.R_far (p := ⟨gb229, 0, none⟩) (Kd.R_far (p := ⟨gb229, 2, none⟩) (Kd.R_far (p := ⟨gb229, 1, none⟩) (Kd.R_far (p := ⟨gb229, 0, none⟩) (Kd.R_mono HO_3.out (fun k_ hk => (⟨hk, hk.2⟩ : _ ∧ k_ ≠ gb229))) (fun _ hk => hk.2) (.int .i64 ((rd_T113 t224 x19_2).f0.f0))) (fun _ hk => hk.2) (.int .i64 ((rd_T113 t224 x19_2).f0.f1))) (fun _ hk => hk.2) (.int .i64 ((rd_T113 t224 x19_2).f0.f2))) (fun _ hk => hk.2) (.int .i64 x11_1)) (fun _ hk => hk.1.2))); (case aS => exact (below_size (bl HB.out))); (case aL => have := LMc13.out; omega); intro v231 w21 ho hb hg hat; rw [← Ny230.out] at ho; replace HO_17 := Aside0.mk (Kd.R_over' (by refine rk ?_; exact (Kd.R_mono (Kd.R_far (p := ⟨gb229, 0, none⟩) (Kd.R_far (p := ⟨gb229, 2, none⟩) (Kd.R_far (p := ⟨gb229, 1, none⟩) (Kd.R_far (p := ⟨gb229, 0, none⟩) (Kd.R_types HO_17.out BK229.out (by decide)) (fun _ hk => hk.2) (.int .i64 ((rd_T113 t224 x19_2).f0.f0))) (fun _ hk => hk.2) (.int .i64 ((rd_T113 t224 x19_2).f0.f1))) (fun _ hk => hk.2) (.int .i64 ((rd_T113 t224 x19_2).f0.f2))) (fun _ hk => hk.2) (.int .i64 x11_1)) (fun _ h_ => h_.1))) (Kd.R_typed (by refine rk ?_; exact (Kd.R_mono (Kd.R_far (p := ⟨gb229, 0, none⟩) (Kd.R_far (p := ⟨gb229, 2, none⟩) (Kd.R_far (p := ⟨gb229, 1, none⟩) (Kd.R_far (p := ⟨gb229, 0, none⟩) (Kd.R_mono HO_3.out (fun k_ hk => (⟨hk, hk.2⟩ : _ ∧ k_ ≠ gb229))) (fun _ hk => hk.2) (.int .i64 ((rd_T113 t224 x19_2).f0.f0))) (fun _ hk => hk.2) (.int .i64 ((rd_T113 t224 x19_2).f0.f1))) (fun _ hk => hk.2) (.int .i64 ((rd_T113 t224 x19_2).f0.f2))) (fun _ hk => hk.2) (.int .i64 x11_1)) (fun _ h_ => h_.1)))) (by decide) hg); replace BK223 := Aside0.mk (blk_grown (g := gb223) (o := .cells #[.int .i64 ((rd_T41 l0 x11_1).f0), .slice A222_1 ((rd_T41 l0 x11_1).f1).length c222_1, .slice A222_2 ((rd_T41 l0 x11_1).f2).length c222_2] 41 (0, 0)) (bf BK223.out) hg (Kd.R_ne HO_3.out BK223.out (by decide))); replace BK228 := Aside0.mk (blk_grown (g := gb228) (o := .cells #[.int .i64 ((rd_T113 t224 x19_2).f0.f0), .int .i64 ((rd_T113 t224 x19_2).f0.f1), .int .i64 ((rd_T113 t224 x19_2).f0.f2), .int .i64 ((rd_T113 t224 x19_2).f1), .int .i64 ((rd_T113 t224 x19_2).f2)] 113 (0, 0)) (bf BK228.out) hg (Kd.R_ne HO_3.out BK228.out (by decide))); replace BK229 := Aside0.mk (blk_grown (g := gb229) (o := .cells #[.int .i64 x11_1, .int .i64 ((rd_T113 t224 x19_2).f0.f1), .int .i64 ((rd_T113 t224 x19_2).f0.f2)] 50 (0, 0)) (by refine bk ?_; refine blk_put (cs := #[.int .i64 ((rd_T113 t224 x19_2).f0.f0), .int .i64 ((rd_T113 t224 x19_2).f0.f1), .int .i64 ((rd_T113 t224 x19_2).f0.f2)]) ?_ 0 _ rfl; refine bk ?_; refine blk_put (cs := #[.int .i64 ((rd_T113 t224 x19_2).f0.f0), .int .i64 ((rd_T113 t224 x19_2).f0.f1), .int .i64 0]) ?_ 2 _ rfl; refine bk ?_; refine blk_put (cs := #[.int .i64 ((rd_T113 t224 x19_2).f0.f0), .int .i64 0, .int .i64 0]) ?_ 1 _ rfl; refine bk ?_; refine blk_put (cs := #[.int .i64 0, .int .i64 0, .int .i64 0]) ?_ 0 _ rfl; refine bk ?_; exact BK229.out) hg (Kd.R_away HO_3.out (fun _ hk => hk.2))); replace HB := Aside0.mk (hb); have HO232 := Aside0.mk (ho); clear HO_3; clear ho hb hg hat))
            go_roundg k2
            case measure => have := HK1.out; have := HK2.out; omega
            case rel => exact ⟨(y230), (wrap64 (x19_2 + 1)), (by first | rfl | (simp; done) | (simp [*]; done)), H', ⟨by have := HK1.out; have := HK2.out; omega⟩, ⟨by refine rk ?_; exact Kd.R_mono HO232.out (fun _ hk => trivial)⟩, ⟨by refine rk ?_; exact Kd.R_mono HO_17.out (fun _ hk => trivial)⟩, ⟨by refine bk ?_; exact BK223.out⟩, ⟨bl HB.out⟩⟩
           ·rw [if_neg c13] at H
            exact absurd H (by simp)
          ·rw [if_neg c12] at H
           exact absurd H (by simp)
         ·rw [if_neg c11] at H
          exact absurd H (by simp)
        ·rw [if_neg c10] at H
         have c10b0 : decide (x19_2 < (t224.length : Int)) = false := decide_eq_false c10
         clear c10
         have H' := Aside0.mk H
         clear H
         go_wp2
         go_roundg k2
         case measure => have := HK1.out; have := HK2.out; omega
         case rel => exact ⟨(x3_2), (wrap64 (x11_1 + 1)), (by first | rfl | (simp; done) | (simp [*]; done)), H', ⟨by have := HK1.out; have := HK2.out; omega⟩, ⟨rk HO_3.out⟩, ⟨bl HB.out⟩⟩
     ·rw [if_neg c4] at H
      exact absurd H (by simp)
    ·rw [if_neg c3] at H
     exact absurd H (by simp)
   ·rw [if_neg c2] at H
    have c2b0 : decide (x11_1 < (l0.length : Int)) = false := decide_eq_false c2
    clear c2
    obtain rfl := Option.some.inj H
    go_wp2
    go_ret
    exact ⟨_, by first | rfl | (simp [errW_none, errW_some] <;> rfl) | (simp [*, errW_none, errW_some] <;> rfl), rk HO_3.out, bl HB.out⟩
def impl_BankGaps.f (k : Nat) (l0 : List (S41)) : Option ((List (S50))) := (impl_BankOk.f l0).bind fun t233 => (if t233 = true then ((impl_bankGaps.f k l0).bind fun t234 => (some t234)) else (some ([] : List (S50))))
set_option maxHeartbeats 8000000 in
set_option maxRecDepth 100000 in
theorem impl_BankGaps.calls (k : Nat) (A0 : Option Addr) (c0 : Nat) (l0 : List (S41)) (r : List (S50)) (w : World) (hr0 : Kd.C k41 w A0 l0.length l0) (hc0 : l0.length ≤ c0) (h : impl_BankGaps.f k l0 = some r) :
  Calls Try.prog 18 #[.slice A0 l0.length c0] w fun e w' => ∃ v0_ : Value, e = .returned (v0_) ∧ Kd.R k50 50 w' w.heap.size (fun _ => True) v0_ r ∧ Below w.heap.size w w' := by
 have HR0 := Aside0.mk hr0
 have HC0 := Aside0.mk hc0
 clear hr0 hc0
 have HB := Aside0.mk (Below.refl w.heap.size w)
 have H : ((impl_BankOk.f l0).bind fun t233 => (if t233 = true then ((impl_bankGaps.f k l0).bind fun t234 => (some t234)) else (some ([] : List (S50))))) = some r := h
 clear h
 replace H := Option.bind_eq_some_iff.mp H
 obtain ⟨t233, A20, H⟩ := H
 try dsimp only at H
 have A2 := Aside0.mk A20
 clear A20
 by_cases c3 : t233 = true
 ·subst c3
  rw [if_pos rfl] at H
  replace H := Option.bind_eq_some_iff.mp H
  obtain ⟨t234, A40, H⟩ := H
  try dsimp only at H
  have A4 := Aside0.mk A40
  clear A40
  obtain rfl := Option.some.inj H
  go_enter Try.func18, Try.ntmps18
  go_wp2_with (first | ((with_reducible refine gate_callee (f := 51) rfl ?_); refine goesL_ (some 4) rfl rfl Try.func51 (by kernel_rfl) rfl #[.slice A0 l0.length c0] rfl mapd ?_; (with_reducible refine (impl_BankOk.calls _ _ l0 true _ ?side1 ?side2 A2.out).mono ?_); (case side1 => repeat (first | exact HR0.out | (with_reducible refine Kd.C_alloc ?_ _) | (with_reducible refine Kd.C_drewN ?_ _) | (with_reducible refine Kd.C_drew ?_))); (case side2 => exact HC0.out); rintro e w5 ⟨rfl, hb⟩; refine ⟨_, rfl, ?_⟩; replace HB := Aside0.mk (below_step (bl HB.out) hb); (try clear hb); (try clear hb2); (try clear hk); (try clear hi)) | ((with_reducible refine gate_callee (f := 67) rfl ?_); refine goesL_ (some 7) rfl rfl Try.func67 (by kernel_rfl) rfl #[.slice A0 l0.length c0] rfl mapd ?_; (with_reducible refine (impl_bankGaps.calls k _ _ l0 t234 _ ?side1 ?side2 A4.out).mono ?_); (case side1 => exact cb (Kd.C_below HR0.out HB.out)); (case side2 => exact HC0.out); rintro e w6 ⟨v235, rfl, ho0, hb⟩; refine ⟨_, rfl, ?_⟩; have HO236 := Aside0.mk (Kd.R_lower ho0 (below_size (bl HB.out))); replace HB := Aside0.mk (below_step (bl HB.out) hb); (try clear hb); (try clear hb2); (try clear hk); (try clear hi); (try clear ho0)))
  go_ret
  exact ⟨_, by first | rfl | (simp [errW_none, errW_some] <;> rfl) | (simp [*, errW_none, errW_some] <;> rfl), rk HO236.out, bl HB.out⟩
 ·replace c3 := Bool.eq_false_iff.mpr c3
  subst c3
  rw [if_neg (show ¬ (false = true) by decide)] at H
  obtain rfl := Option.some.inj H
  go_enter Try.func18, Try.ntmps18
  go_wp2_with (first | ((with_reducible refine gate_callee (f := 51) rfl ?_); refine goesL_ (some 4) rfl rfl Try.func51 (by kernel_rfl) rfl #[.slice A0 l0.length c0] rfl mapd ?_; (with_reducible refine (impl_BankOk.calls _ _ l0 false _ ?side1 ?side2 A2.out).mono ?_); (case side1 => repeat (first | exact HR0.out | (with_reducible refine Kd.C_alloc ?_ _) | (with_reducible refine Kd.C_drewN ?_ _) | (with_reducible refine Kd.C_drew ?_))); (case side2 => exact HC0.out); rintro e w7 ⟨rfl, hb⟩; refine ⟨_, rfl, ?_⟩; replace HB := Aside0.mk (below_step (bl HB.out) hb); (try clear hb); (try clear hb2); (try clear hk); (try clear hi)))
  go_ret
  exact ⟨_, by first | rfl | (simp [errW_none, errW_some] <;> rfl) | (simp [*, errW_none, errW_some] <;> rfl), by first | exact Kd.R_nil _ _ _ _ _ | exact Kd.N_nil _ _ _ _ _ | exact Kd.V_nil _ _ _ _ _ | exact Kd.Q_nil _ _ _ _ _ | exact Kd.S_nil _ _ _ _ _, bl HB.out⟩
end Go.Proofs.Ytbpjidekjogfeaa.A

namespace Go.Proofs.Ytbpjidekjogfeaa.A
open Go.RowKit Go.Proofs.YtbpjidekjogfeaaW.PrintWords Go.Proofs.YtbpjidekjogfeaaW.PrintLast Go.Proofs.YtbpjidekjogfeaaW.PrintMore
attribute [local go_sem] max2_int min2_int max_two min_two max_three min_three max_four min_four   
set_option linter.unusedVariables false
set_option linter.unusedSimpArgs false
def impl_sizesOk.l0 : Nat → List Int → List Int → Int → Int → Option (Bool)
 | 0, _, _, _, _ => none
 | k + 1, x0, x5, x6, x7 => if x7 < x6 then (if 0 ≤ x7 then (if x7 < (x5.length : Int) then (if (rd x5 x7) < 1 then (some false) else (impl_sizesOk.l0 k x0 x5 x6 (wrap64 (x7 + 1)))) else (none)) else (none)) else (some (decide ((x0.length : Int) ≤ 8)))
def impl_sizesOk.f (k : Nat) (l0 : List Int) : Option (Bool) := impl_sizesOk.l0 k l0 l0 (l0.length : Int) 0
set_option maxHeartbeats 8000000 in
set_option maxRecDepth 100000 in
theorem impl_sizesOk.calls (k : Nat) (A0 : Option Addr) (c0 : Nat) (l0 : List Int) (r : Bool) (w : World) (hr0 : Kd.C (Kd.int .i64) w A0 l0.length l0) (hc0 : l0.length ≤ c0) (h : impl_sizesOk.f k l0 = some r) :
  Calls Try.prog 100 #[.slice A0 l0.length c0] w fun e w' => e = .returned (.bool r) ∧ Drawn0 w w' := by
 have HR0 := Aside0.mk hr0
 have HC0 := Aside0.mk hc0
 clear hr0 hc0
 have H : (impl_sizesOk.l0 k l0 l0 (l0.length : Int) 0) = some r := h
 clear h
 have H' := Aside0.mk H
 clear H
 go_enter Try.func100, Try.ntmps100
 go_wp2
 go_loopg [7] k (fun kq v7 w' => ∃ (x7_1 : Int), v7 = .int .i64 x7_1 ∧ Aside0 (impl_sizesOk.l0 kq l0 l0 (l0.length : Int) x7_1 = some r) ∧ Aside0 (kq ≤ k) ∧ Drawn0 w w')
 case atStart => exact ⟨(0), (by first | rfl | (simp; done) | (simp [*]; done)), H', ⟨Nat.le_refl _⟩, by repeat (first | exact Drawn0.refl _ | apply Drawn0.step)⟩
 case round =>
  clear H'
  try clear c1
  obtain ⟨x7_1, rfl, HA, HK1, ⟨m1, rfl⟩⟩ := hrel
  cases gk with
  | zero => exact absurd HA.out (by simp [impl_sizesOk.l0])
  | succ k1 =>
   have H := HA.out
   clear HA
   simp only [impl_sizesOk.l0] at H
   by_cases c2 : x7_1 < (l0.length : Int)
   ·rw [if_pos c2] at H
    have c2b0 : decide (x7_1 < (l0.length : Int)) = true := decide_eq_true c2
    clear c2
    by_cases c3 : 0 ≤ x7_1
    ·rw [if_pos c3] at H
     have c3b0 : decide (0 ≤ x7_1) = true := decide_eq_true c3
     clear c3
     by_cases c4 : x7_1 < (l0.length : Int)
     ·rw [if_pos c4] at H
      have c4b0 : decide (x7_1 < (l0.length : Int)) = true := decide_eq_true c4
      clear c4
      by_cases c5 : (rd l0 x7_1) < 1
      ·rw [if_pos c5] at H
       have c5b0 : decide ((rd l0 x7_1) < 1) = true := decide_eq_true c5
       clear c5
       obtain rfl := Option.some.inj H
       have p1047 : 0 ≤ (x7_1 : Int) := of_decide_eq_true asm
       have q1047 : x7_1 < (l0.length : Int) := of_decide_eq_true asm
       obtain ⟨ad1047, e1047, hx1047_0⟩ := Kd.at_int HR0.out x7_1 p1047 q1047
       cases e1047
       replace p1047 := eq_true p1047
       replace q1047 := eq_true q1047
       go_wp2
       go_ret
       exact ⟨by first | rfl | (simp; done) | (simp [*]; done), by repeat (first | exact Drawn0.refl _ | apply Drawn0.step)⟩
      ·rw [if_neg c5] at H
       have c5b0 : decide ((rd l0 x7_1) < 1) = false := decide_eq_false c5
       clear c5
       have H' := Aside0.mk H
       clear H
       have p1047 : 0 ≤ (x7_1 : Int) := of_decide_eq_true asm
       have q1047 : x7_1 < (l0.length : Int) := of_decide_eq_true asm
       obtain ⟨ad1047, e1047, hx1047_0⟩ := Kd.at_int HR0.out x7_1 p1047 q1047
       cases e1047
       replace p1047 := eq_true p1047
       replace q1047 := eq_true q1047
       go_wp2
       go_roundg k1
       case measure => have := HK1.out; omega
       case rel => exact ⟨(wrap64 (x7_1 + 1)), (by first | rfl | (simp; done) | (simp [*]; done)), H', ⟨by have := HK1.out; omega⟩, by repeat (first | exact Drawn0.refl _ | apply Drawn0.step)⟩
     ·rw [if_neg c4] at H
      exact absurd H (by simp)
    ·rw [if_neg c3] at H
     exact absurd H (by simp)
   ·rw [if_neg c2] at H
    have c2b0 : decide (x7_1 < (l0.length : Int)) = false := decide_eq_false c2
    clear c2
    obtain rfl := Option.some.inj H
    go_wp2
    go_ret
    exact ⟨by first | rfl | (simp; done) | (simp [*]; done), by repeat (first | exact Drawn0.refl _ | apply Drawn0.step)⟩
end Go.Proofs.Ytbpjidekjogfeaa.A
