/- What the proof of the law FnGaps uses: lemmas, the Lean functions of the Go functions that it reaches, their contracts, and the pure statement's proof. -/
import Derived.Test.YtghfeapncmlihaaZFnGapsx16
import Derived.Test.YtghfeapncmlihaaZFnGapsx18
import Derived.Test.YtghfeapncmlihaaZFnGapsx17
import Derived.Test.YtghfeapncmlihaaZFnGapsh
namespace Go.Proofs.Ytghfeapncmlihaa.A
open Go.RowKit Go.Proofs.YtghfeapncmlihaaW.PrintWords Go.Proofs.YtghfeapncmlihaaW.PrintLast Go.Proofs.YtghfeapncmlihaaW.PrintMore
attribute [local go_sem] max2_int min2_int max_two min_two max_three min_three max_four min_four   
set_option linter.unusedVariables false
set_option linter.unusedSimpArgs false
mutual
def impl_runsOf.l0 : Nat → List (S85) → Bool → List (S71) → Int → Int → Int → List Int → List (S71) → Option ((List (S85)))
 | 0, _, _, _, _, _, _, _, _ => none
 | k + 1, x3, x4, x9, x10, x11, x521000, x521001, x521002 => if x11 < x10 then (if 0 ≤ x11 then (if x11 < (x9.length : Int) then (if ((rd_T71 x9 x11).f2) = 0 then (impl_runsOf.j1 k x3 x4 x11 x9 x10 x11 ((rd_T71 x9 x11).f3) x521000 x521001 x521002 ((rd_T71 x9 x11).f0) ((rd_T71 x9 x11).f1) ((rd_T71 x9 x11).f2) ((rd_T71 x9 x11).f3)) else (impl_runsOf.j1 k x3 x4 x11 x9 x10 x11 true x521000 x521001 x521002 ((rd_T71 x9 x11).f0) ((rd_T71 x9 x11).f1) ((rd_T71 x9 x11).f2) ((rd_T71 x9 x11).f3))) else (none)) else (none)) else (some x3)
def impl_runsOf.j1 : Nat → List (S85) → Bool → Int → List (S71) → Int → Int → Bool → Int → List Int → List (S71) → Int → Int → Int → Bool → Option ((List (S85)))
 | 0, _, _, _, _, _, _, _, _, _, _, _, _, _, _ => none
 | k + 1, x3, x4, x5, x9, x10, x11, x22, x521000, x521001, x521002, x523000, x523001, x523002, x523003 => if x22 = true then (impl_runsOf.l0 k x3 false x9 x10 (wrap64 (x11 + 1)) x521000 x521001 x521002) else (if x4 = true then ((slices_Contains_int_int.f k x521001 x523000).bind fun t523 => (if t523 = true then (if x3.length < 3518437208883 then (impl_runsOf.l0 k (x3 ++ [(⟨(⟨0, x523000, x523001⟩ : S54), x5, wrap64 (x5 + 1)⟩ : S85)]) true x9 x10 (wrap64 (x11 + 1)) x521000 x521001 x521002) else (none)) else (if 0 ≤ (wrap64 ((x3.length : Int) - 1)) then (if (wrap64 ((x3.length : Int) - 1)) < (x3.length : Int) then ((some (x3.set ((wrap64 ((x3.length : Int) - 1)) : Int).toNat (⟨(⟨(rd_T85 x3 (wrap64 ((x3.length : Int) - 1))).f0.f0, (rd_T85 x3 (wrap64 ((x3.length : Int) - 1))).f0.f1, wrap64 (((rd_T85 x3 (wrap64 ((x3.length : Int) - 1))).f0.f2) + x523001)⟩ : S54), (rd_T85 x3 (wrap64 ((x3.length : Int) - 1))).f1, (rd_T85 x3 (wrap64 ((x3.length : Int) - 1))).f2⟩ : S85) : List (S85))).bind fun y528 => (impl_runsOf.l0 k (y528.set ((wrap64 ((x3.length : Int) - 1)) : Int).toNat (⟨(⟨(rd_T85 y528 (wrap64 ((x3.length : Int) - 1))).f0.f0, (rd_T85 y528 (wrap64 ((x3.length : Int) - 1))).f0.f1, (rd_T85 y528 (wrap64 ((x3.length : Int) - 1))).f0.f2⟩ : S54), (rd_T85 y528 (wrap64 ((x3.length : Int) - 1))).f1, wrap64 (((rd_T85 y528 (wrap64 ((x3.length : Int) - 1))).f2) + 1)⟩ : S85)) true x9 x10 (wrap64 (x11 + 1)) x521000 x521001 x521002)) else (none)) else (none)))) else (if x3.length < 3518437208883 then (impl_runsOf.l0 k (x3 ++ [(⟨(⟨0, x523000, x523001⟩ : S54), x5, wrap64 (x5 + 1)⟩ : S85)]) true x9 x10 (wrap64 (x11 + 1)) x521000 x521001 x521002) else (none)))
end
def impl_runsOf.f (k : Nat) (a0_0 : Int) (l0_1 : List Int) (l0_2 : List (S71)) : Option ((List (S85))) := impl_runsOf.l0 k ([] : List (S85)) false l0_2 (l0_2.length : Int) 0 a0_0 l0_1 l0_2
def impl_runsOf.T10 : Bool × List (List Nat × List Nat) := (true, [([], []), ([0], [0]), ([1], [1]), ([2], [2]), ([3], [3]), ([], []), ([5], [5]), ([4, 6], [4, 6]), ([0, 0, 1, 2, 3, 4, 5, 6, 7], [0]), ([8, 0, 1, 2, 3, 4, 5, 6, 7], [8]), ([9, 0, 1, 2, 3, 4, 5, 6, 7], [9]), ([10, 7, 0, 1, 2, 3, 4, 5, 6, 7], [7, 10])])
def impl_runsOf.B10 : List Nat := [0, 1, 3, 7, 15, 0, 32, 127, 255, 511, 1023, 2047]
theorem impl_runsOf.tab10 : rtab .any (opsOf Try.f77 10) = impl_runsOf.T10 := by kernel_rfl
theorem impl_runsOf.bits10 : waitsOk impl_runsOf.T10.2 impl_runsOf.B10 = true := by kernel_rfl
set_option maxHeartbeats 8000000 in
set_option maxRecDepth 100000 in
theorem impl_runsOf.calls (k : Nat) (a0_0 : Int) (A0_1 : Option Addr) (c0_1 : Nat) (l0_1 : List Int) (A0_2 : Option Addr) (c0_2 : Nat) (l0_2 : List (S71)) (r : List (S85)) (w : World) (hr0_1 : Kd.C (Kd.int .i64) w A0_1 l0_1.length l0_1) (hc0_1 : l0_1.length ≤ c0_1) (hr0_2 : Kd.C k71 w A0_2 l0_2.length l0_2) (hc0_2 : l0_2.length ≤ c0_2) (h : impl_runsOf.f k a0_0 l0_1 l0_2 = some r) :
  Calls Try.prog 77 #[.agg #[.int .i64 a0_0, .slice A0_1 l0_1.length c0_1, .slice A0_2 l0_2.length c0_2]] w fun e w' => ∃ v0_ : Value, e = .returned (v0_) ∧ Kd.R k85 85 w' w.heap.size (fun _ => True) v0_ r ∧ Below w.heap.size w w' := by
 have hu30 := Try.underlying30
 have hu71 := Try.underlying71
 have hu54 := Try.underlying54
 have hu85 := Try.underlying85
 have HR0_1 := Aside0.mk hr0_1
 have HC0_1 := Aside0.mk hc0_1
 clear hr0_1 hc0_1
 have HR0_2 := Aside0.mk hr0_2
 have HC0_2 := Aside0.mk hc0_2
 clear hr0_2 hc0_2
 have HB := Aside0.mk (Below.refl w.heap.size w)
 have H : (impl_runsOf.l0 k ([] : List (S85)) false l0_2 (l0_2.length : Int) 0 a0_0 l0_1 l0_2) = some r := h
 clear h
 have H' := Aside0.mk H
 clear H
 go_enter Try.func77, Try.ntmps77
 go_wp2_with (first | ((with_reducible refine gate_dst (N := 1) rfl ?_); refine bx (cs := #[.int .i64 a0_0, .slice A0_1 l0_1.length c0_1, .slice A0_2 l0_2.length c0_2]) (t := 30) fun gb520 hg w2 hbox hb => ?_; have BK520 := Aside0.mk (hbox); have GW520 := Aside0.mk (gs HB.out hg); have GE520 := Aside0.mk (gs HB.out hg); replace HB := Aside0.mk (below_step (bl HB.out) hb); clear hb hbox hg; obtain ⟨hcz3_0, hcz3_1, hcz3_2, hfz3_0, hfz3_1, hfz3_2⟩ := cz3 BK520.out))
 go_loopg [3, 4, 11] k (fun kq v3 v4 v11 w' => ∃ (x3_1 : List (S85)) (x4_1 : Bool) (x11_1 : Int), v4 = .bool x4_1 ∧ v11 = .int .i64 x11_1 ∧ Aside0 (impl_runsOf.l0 kq x3_1 x4_1 l0_2 (l0_2.length : Int) x11_1 a0_0 l0_1 l0_2 = some r) ∧ Aside0 (kq ≤ k) ∧ Aside0 (Kd.R k85 85 w' w.heap.size (fun _ => True) v3 x3_1) ∧ Aside0 (w'.heap[gb520]? = some (.cells #[.int .i64 a0_0, (.slice A0_1 l0_1.length c0_1), (.slice A0_2 l0_2.length c0_2)] 30 (0, 0))) ∧ Aside0 (Below w.heap.size w w'))
 case atStart => exact ⟨(([] : List (S85))), (false), (0), (by first | rfl | (simp; done) | (simp [*]; done)), (by first | rfl | (simp; done) | (simp [*]; done)), H', ⟨Nat.le_refl _⟩, ⟨by first | exact Kd.R_nil _ _ _ _ _ | exact Kd.N_nil _ _ _ _ _ | exact Kd.V_nil _ _ _ _ _ | exact Kd.Q_nil _ _ _ _ _ | exact Kd.S_nil _ _ _ _ _⟩, ⟨by refine bk ?_; exact BK520.out⟩, ⟨bl HB.out⟩⟩
 case round =>
  clear H'
  try clear p2
  try clear hcz3_0
  try clear hcz3_1
  try clear hcz3_2
  try clear hfz3_0
  try clear hfz3_1
  try clear hfz3_2
  obtain ⟨x3_1, x4_1, x11_1, rfl, rfl, HA, HK1, HO_3, BK520, HB⟩ := hrel
  cases gk with
  | zero => exact absurd HA.out (by simp [impl_runsOf.l0])
  | succ k1 =>
   have H := HA.out
   clear HA
   simp only [impl_runsOf.l0] at H
   by_cases c4 : x11_1 < (l0_2.length : Int)
   ·rw [if_pos c4] at H
    have c4b0 : decide (x11_1 < (l0_2.length : Int)) = true := decide_eq_true c4
    clear c4
    by_cases c5 : 0 ≤ x11_1
    ·rw [if_pos c5] at H
     have c5b0 : decide (0 ≤ x11_1) = true := decide_eq_true c5
     clear c5
     by_cases c6 : x11_1 < (l0_2.length : Int)
     ·rw [if_pos c6] at H
      have c6b0 : decide (x11_1 < (l0_2.length : Int)) = true := decide_eq_true c6
      clear c6
      have HC7 := Aside0.mk H
      clear H
      have p521 : 0 ≤ (x11_1 : Int) := of_decide_eq_true asm
      have q521 : x11_1 < (l0_2.length : Int) := of_decide_eq_true asm
      obtain ⟨ad521, e521, hx521_0, hx521_1, hx521_2, hx521_3⟩ := at_T71 HR0_2.out x11_1 p521 q521
      cases e521
      replace hx521_0 := (HB.out.cell (World.block_lt_of_cell? w _ hx521_0)).trans hx521_0
      replace hx521_1 := (HB.out.cell (World.block_lt_of_cell? w _ hx521_1)).trans hx521_1
      replace hx521_2 := (HB.out.cell (World.block_lt_of_cell? w _ hx521_2)).trans hx521_2
      replace hx521_3 := (HB.out.cell (World.block_lt_of_cell? w _ hx521_3)).trans hx521_3
      replace p521 := eq_true p521
      replace q521 := eq_true q521
      go_upto_region 6 with (first | ((with_reducible refine gate_dst (N := 6) rfl ?_); refine bx (cs := #[.int .i64 0, .int .i64 0, .int .i64 0, .bool false]) (t := 71) fun gb522 hg w8 hbox hb => ?_; replace HO_3 := Aside0.mk (Kd.R_below (rk HO_3.out) hb); have BK522 := Aside0.mk (hbox); have GW522 := Aside0.mk (gs HB.out hg); have GE522 := Aside0.mk (gs HB.out hg); replace HB := Aside0.mk (below_step (bl HB.out) hb); have NB520_522 := Aside0.mk ((nl BK520.out hg)); have NB522_520 := Aside0.mk ((ng BK520.out hg)); replace BK520 := Aside0.mk (bb BK520.out hb); clear hb hbox hg; have hnb9 := NB522_520.out; have hnc9 := NB520_522.out; obtain ⟨hcz10_0, hcz10_1, hcz10_2, hcz10_3, hfz10_0, hfz10_1, hfz10_2, hfz10_3⟩ := cz4 BK522.out))
      (try simp only [Act.put, List.setIfInBounds_toArray, List.set_cons_zero, List.set_cons_succ])
      go_cut [22] (fun v22 wc => ∃ (kq : Nat) (x22_6 : Bool), v22 = .bool x22_6 ∧ Aside0 (impl_runsOf.j1 kq x3_1 x4_1 x11_1 l0_2 (l0_2.length : Int) x11_1 x22_6 a0_0 l0_1 l0_2 ((rd_T71 l0_2 x11_1).f0) ((rd_T71 l0_2 x11_1).f1) ((rd_T71 l0_2 x11_1).f2) ((rd_T71 l0_2 x11_1).f3) = some r) ∧ Aside0 (kq ≤ k1) ∧ Aside0 (Kd.R k85 85 wc w.heap.size (fun _ => True) u3 x3_1) ∧ Aside0 (wc.heap[gb520]? = some (.cells #[.int .i64 a0_0, (.slice A0_1 l0_1.length c0_1), (.slice (some ad521) l0_2.length c0_2)] 30 (0, 0))) ∧ Aside0 (wc.heap[gb522]? = some (.cells #[.int .i64 ((rd_T71 l0_2 x11_1).f0), .int .i64 ((rd_T71 l0_2 x11_1).f1), .int .i64 ((rd_T71 l0_2 x11_1).f2), .bool ((rd_T71 l0_2 x11_1).f3)] 71 (0, 0))) ∧ Aside0 (Below w.heap.size w wc))
      case first =>
       have H := HC7.out
       clear HC7
       by_cases c11 : ((rd_T71 l0_2 x11_1).f2) = 0
       ·rw [if_pos c11] at H
        have c11b0 : (((rd_T71 l0_2 x11_1).f2) == 0) = true := beq_iff_eq.mpr c11
        have c11b1 : (((rd_T71 l0_2 x11_1).f2) != 0) = false := bne_eq_false_iff_eq.mpr c11
        clear c11
        (first | rw [c11b0] | (simp only [i64_w, i32_w]; rw [c11b0]) | skip)
        have H' := Aside0.mk H
        clear H
        have hnb12 := NB522_520.out
        have hnc12 := NB520_522.out
        obtain ⟨hcz13_0, hcz13_1, hcz13_2, hcz13_3, hfz13_0, hfz13_1, hfz13_2, hfz13_3⟩ := cz4 BK522.out
        go_wp2
        go_meet
        case rel => exact ⟨_, ((rd_T71 l0_2 x11_1).f3), (by first | rfl | (simp; done) | (simp [*]; done)), H', ⟨by have := HK1.out; first | omega | exact Nat.le_refl _⟩, ⟨by refine rk ?_; exact Kd.R_mono (Kd.R_far (p := ⟨gb522, 3, none⟩) (Kd.R_far (p := ⟨gb522, 2, none⟩) (Kd.R_far (p := ⟨gb522, 1, none⟩) (Kd.R_far (p := ⟨gb522, 0, none⟩) (Kd.R_types HO_3.out BK522.out (by decide)) (fun _ hk => hk.2) (.int .i64 ((rd_T71 l0_2 x11_1).f0))) (fun _ hk => hk.2) (.int .i64 ((rd_T71 l0_2 x11_1).f1))) (fun _ hk => hk.2) (.int .i64 ((rd_T71 l0_2 x11_1).f2))) (fun _ hk => hk.2) (.bool ((rd_T71 l0_2 x11_1).f3))) (fun _ hk => trivial)⟩, ⟨by refine bk ?_; refine blk_far ?_ NB520_522.out _; refine bk ?_; refine blk_far ?_ NB520_522.out _; refine bk ?_; refine blk_far ?_ NB520_522.out _; refine bk ?_; refine blk_far ?_ NB520_522.out _; refine bk ?_; exact BK520.out⟩, ⟨by refine bk ?_; refine blk_put (cs := #[.int .i64 ((rd_T71 l0_2 x11_1).f0), .int .i64 ((rd_T71 l0_2 x11_1).f1), .int .i64 ((rd_T71 l0_2 x11_1).f2), .bool false]) ?_ 3 _ rfl; refine bk ?_; refine blk_put (cs := #[.int .i64 ((rd_T71 l0_2 x11_1).f0), .int .i64 ((rd_T71 l0_2 x11_1).f1), .int .i64 0, .bool false]) ?_ 2 _ rfl; refine bk ?_; refine blk_put (cs := #[.int .i64 ((rd_T71 l0_2 x11_1).f0), .int .i64 0, .int .i64 0, .bool false]) ?_ 1 _ rfl; refine bk ?_; refine blk_put (cs := #[.int .i64 0, .int .i64 0, .int .i64 0, .bool false]) ?_ 0 _ rfl; refine bk ?_; exact BK522.out⟩, ⟨bl HB.out⟩⟩
       ·rw [if_neg c11] at H
        have c11b0 : (((rd_T71 l0_2 x11_1).f2) == 0) = false := beq_eq_false_iff_ne.mpr c11
        have c11b1 : (((rd_T71 l0_2 x11_1).f2) != 0) = true := bne_iff_ne.mpr c11
        (first | rw [c11b0] | (simp only [i64_w, i32_w]; rw [c11b0]) | skip)
        have H' := Aside0.mk H
        clear H
        have hnb14 := NB522_520.out
        have hnc14 := NB520_522.out
        obtain ⟨hcz15_0, hcz15_1, hcz15_2, hcz15_3, hfz15_0, hfz15_1, hfz15_2, hfz15_3⟩ := cz4 BK522.out
        go_wp2
        go_meet
        case rel => exact ⟨_, (true), (by first | rfl | (simp; done) | (simp [*]; done)), H', ⟨by have := HK1.out; first | omega | exact Nat.le_refl _⟩, ⟨by refine rk ?_; exact Kd.R_mono (Kd.R_far (p := ⟨gb522, 3, none⟩) (Kd.R_far (p := ⟨gb522, 2, none⟩) (Kd.R_far (p := ⟨gb522, 1, none⟩) (Kd.R_far (p := ⟨gb522, 0, none⟩) (Kd.R_types HO_3.out BK522.out (by decide)) (fun _ hk => hk.2) (.int .i64 ((rd_T71 l0_2 x11_1).f0))) (fun _ hk => hk.2) (.int .i64 ((rd_T71 l0_2 x11_1).f1))) (fun _ hk => hk.2) (.int .i64 ((rd_T71 l0_2 x11_1).f2))) (fun _ hk => hk.2) (.bool ((rd_T71 l0_2 x11_1).f3))) (fun _ hk => trivial)⟩, ⟨by refine bk ?_; refine blk_far ?_ NB520_522.out _; refine bk ?_; refine blk_far ?_ NB520_522.out _; refine bk ?_; refine blk_far ?_ NB520_522.out _; refine bk ?_; refine blk_far ?_ NB520_522.out _; refine bk ?_; exact BK520.out⟩, ⟨by refine bk ?_; refine blk_put (cs := #[.int .i64 ((rd_T71 l0_2 x11_1).f0), .int .i64 ((rd_T71 l0_2 x11_1).f1), .int .i64 ((rd_T71 l0_2 x11_1).f2), .bool false]) ?_ 3 _ rfl; refine bk ?_; refine blk_put (cs := #[.int .i64 ((rd_T71 l0_2 x11_1).f0), .int .i64 ((rd_T71 l0_2 x11_1).f1), .int .i64 0, .bool false]) ?_ 2 _ rfl; refine bk ?_; refine blk_put (cs := #[.int .i64 ((rd_T71 l0_2 x11_1).f0), .int .i64 0, .int .i64 0, .bool false]) ?_ 1 _ rfl; refine bk ?_; refine blk_put (cs := #[.int .i64 0, .int .i64 0, .int .i64 0, .bool false]) ?_ 0 _ rfl; refine bk ?_; exact BK522.out⟩, ⟨bl HB.out⟩⟩
      case rest =>
       clear HC7
       try clear c1
       try clear p2
       try clear c4
       try clear c4b0
       try clear c5
       try clear c5b0
       try clear p5
       try clear q5
       try clear hx5
       try clear c6
       try clear c6b0
       try clear c7
       try clear c9
       try clear c11
       try clear c11b0
       try clear c11b1
       try clear c12
       try clear c14
       try clear hcz10_0
       try clear hcz10_1
       try clear hcz10_2
       try clear hcz10_3
       try clear hcz13_0
       try clear hcz13_1
       try clear hcz13_2
       try clear hcz13_3
       try clear hcz15_0
       try clear hcz15_1
       try clear hcz15_2
       try clear hcz15_3
       try clear hcz3_0
       try clear hcz3_1
       try clear hcz3_2
       try clear hfz10_0
       try clear hfz10_1
       try clear hfz10_2
       try clear hfz10_3
       try clear hfz13_0
       try clear hfz13_1
       try clear hfz13_2
       try clear hfz13_3
       try clear hfz15_0
       try clear hfz15_1
       try clear hfz15_2
       try clear hfz15_3
       try clear hfz3_0
       try clear hfz3_1
       try clear hfz3_2
       try clear hx521_0
       try clear hx521_1
       try clear hx521_2
       try clear hx521_3
       try clear p2
       try clear p521
       try clear q521
       obtain ⟨kq, x22_6, rfl, HA, HJ6, HO_3, BK520, BK522, HB⟩ := hcut
       cases kq with
       | zero => exact absurd HA.out (by simp [impl_runsOf.j1])
       | succ kj6 =>
        have H := HA.out
        clear HA
        simp only [impl_runsOf.j1] at H
        by_cases c16 : x22_6 = true
        ·subst c16
         rw [if_pos rfl] at H
         have H' := Aside0.mk H
         clear H
         go_wp2
         go_roundg kj6
         case measure => have := HK1.out; have := HJ6.out; omega
         case rel => exact ⟨(x3_1), (false), (wrap64 (x11_1 + 1)), (by first | rfl | (simp; done) | (simp [*]; done)), (by first | rfl | (simp; done) | (simp [*]; done)), H', ⟨by have := HK1.out; have := HJ6.out; omega⟩, ⟨rk HO_3.out⟩, ⟨by refine bk ?_; exact BK520.out⟩, ⟨bl HB.out⟩⟩
        ·replace c16 := Bool.eq_false_iff.mpr c16
         subst c16
         rw [if_neg (show ¬ (false = true) by decide)] at H
         by_cases c17 : x4_1 = true
         ·subst c17
          rw [if_pos rfl] at H
          replace H := Option.bind_eq_some_iff.mp H
          obtain ⟨t523, A180, H⟩ := H
          try dsimp only at H
          have A18 := Aside0.mk A180
          clear A180
          by_cases c19 : t523 = true
          ·subst c19
           rw [if_pos rfl] at H
           by_cases c20 : x3_1.length < 3518437208883
           ·rw [if_pos c20] at H
            have LMc20 := Aside0.mk c20
            clear c20
            obtain ⟨y524, hy524⟩ : ∃ y_ : List (S85), y_ = (x3_1 ++ [(⟨(⟨0, ((rd_T71 l0_2 x11_1).f0), ((rd_T71 l0_2 x11_1).f1)⟩ : S54), x11_1, wrap64 (x11_1 + 1)⟩ : S85)]) := ⟨_, rfl⟩
            replace H : (impl_runsOf.l0 kj6 y524 true l0_2 (l0_2.length : Int) (wrap64 (x11_1 + 1)) a0_0 l0_1 l0_2) = some r := by first | (rw [hy524]; with_reducible exact H) | (have H2_ := (Option.bind_some _ _).symm.trans H; rw [hy524]; with_reducible exact H2_) | (have H2_ := (Option.bind_some _ _).symm.trans H; with_reducible exact H2_) | with_reducible exact H | (rw [hy524]; exact H) | exact H
            have Ny524 := Aside0.mk hy524
            clear hy524
            have H' := Aside0.mk H
            clear H
            have hnb21 := NB520_522.out
            have hnc21 := NB522_520.out
            obtain ⟨hcz22_0, hcz22_1, hcz22_2, hfz22_0, hfz22_1, hfz22_2⟩ := cz3 BK520.out
            obtain ⟨hcz23_0, hcz23_1, hcz23_2, hcz23_3, hfz23_0, hfz23_1, hfz23_2, hfz23_3⟩ := cz4 BK522.out
            go_wp2_with (first | (go_at_call 93; (with_reducible refine (slices_Contains_int_int.calls kj6 _ _ l0_1 ((rd_T71 l0_2 x11_1).f0) true _ ?side1 ?side2 A18.out).mono ?_); (case side1 => exact cb (Kd.C_below HR0_1.out HB.out)); (case side2 => exact HC0_1.out); rintro e w' ⟨rfl, ⟨nd, rfl⟩⟩) | ((with_reducible refine gate_builtin (b := .append) (xs := #[.tmp 55, .tmp 65]) rfl ?_); at_builtin; refine Kd.R_append k85 (w0 := w) w.heap.size rfl (.tmp 55) (.tmp 65) 82 85 (.agg #[(.int .i64 0), (.int .i64 0), (.int .i64 0), (.int .i64 0), (.int .i64 0)]) 40 rfl Try.underlying82 info85 rfl (by decide) (by omega) u3 x3_1 (⟨(⟨0, ((rd_T71 l0_2 x11_1).f0), ((rd_T71 l0_2 x11_1).f1)⟩ : S54), x11_1, wrap64 (x11_1 + 1)⟩ : S85) [.int .i64 0, .int .i64 ((rd_T71 l0_2 x11_1).f0), .int .i64 ((rd_T71 l0_2 x11_1).f1), .int .i64 x11_1, .int .i64 (wrap64 (x11_1 + 1))] (fun _ => True) (fun _ => False) rfl rfl ?aP (fun _ hk => hk.elim) ?aF ?aO ?aB ?aS ?aL ?_; (case aP => exact k85_mkM _ _ _ (⟨(⟨0, ((rd_T71 l0_2 x11_1).f0), ((rd_T71 l0_2 x11_1).f1)⟩ : S54), x11_1, wrap64 (x11_1 + 1)⟩ : S85)); (case aB => exact (bl HB.out)); (case aF => exact (fun _ _ => trivial)); (case aO => exact (rk HO_3.out)); (case aS => exact (below_size (bl HB.out))); (case aL => have := LMc20.out; omega); intro v525 w24 ho hb hg hat; rw [← Ny524.out] at ho; replace BK520 := Aside0.mk (blk_grown (g := gb520) (o := .cells #[.int .i64 a0_0, .slice A0_1 l0_1.length c0_1, .slice (some ad521) l0_2.length c0_2] 30 (0, 0)) (bk BK520.out) hg (Kd.R_ne HO_3.out BK520.out (by decide))); replace BK522 := Aside0.mk (blk_grown (g := gb522) (o := .cells #[.int .i64 ((rd_T71 l0_2 x11_1).f0), .int .i64 ((rd_T71 l0_2 x11_1).f1), .int .i64 ((rd_T71 l0_2 x11_1).f2), .bool ((rd_T71 l0_2 x11_1).f3)] 71 (0, 0)) (bk BK522.out) hg (Kd.R_ne HO_3.out BK522.out (by decide))); replace HB := Aside0.mk (hb); have HO526 := Aside0.mk (ho); clear HO_3; clear ho hb hg hat))
            go_roundg kj6
            case measure => have := HK1.out; have := HJ6.out; omega
            case rel => exact ⟨(y524), (true), (wrap64 (x11_1 + 1)), (by first | rfl | (simp; done) | (simp [*]; done)), (by first | rfl | (simp; done) | (simp [*]; done)), H', ⟨by have := HK1.out; have := HJ6.out; omega⟩, ⟨rk HO526.out⟩, ⟨by refine bk ?_; exact BK520.out⟩, ⟨bl HB.out⟩⟩
           ·rw [if_neg c20] at H
            exact absurd H (by simp)
          ·replace c19 := Bool.eq_false_iff.mpr c19
           subst c19
           rw [if_neg (show ¬ (false = true) by decide)] at H
           obtain ⟨ji25, hji25⟩ : ∃ j_ : Int, (wrap64 ((x3_1.length : Int) - 1)) = j_ := ⟨_, rfl⟩
           replace H : (if 0 ≤ (ji25) then (if (ji25) < (x3_1.length : Int) then ((some (x3_1.set ((ji25) : Int).toNat (⟨(⟨(rd_T85 x3_1 (ji25)).f0.f0, (rd_T85 x3_1 (ji25)).f0.f1, wrap64 (((rd_T85 x3_1 (ji25)).f0.f2) + ((rd_T71 l0_2 x11_1).f1))⟩ : S54), (rd_T85 x3_1 (ji25)).f1, (rd_T85 x3_1 (ji25)).f2⟩ : S85) : List (S85))).bind fun y528 => (impl_runsOf.l0 kj6 (y528.set ((ji25) : Int).toNat (⟨(⟨(rd_T85 y528 (ji25)).f0.f0, (rd_T85 y528 (ji25)).f0.f1, (rd_T85 y528 (ji25)).f0.f2⟩ : S54), (rd_T85 y528 (ji25)).f1, wrap64 (((rd_T85 y528 (ji25)).f2) + 1)⟩ : S85)) true l0_2 (l0_2.length : Int) (wrap64 (x11_1 + 1)) a0_0 l0_1 l0_2)) else (none)) else (none)) = some r := by first | (rw [hji25] at H; exact H) | (simp only [hji25] at H ⊢; exact H)
           (try rw [hji25] at A18)
           have hji25w : (IntKind.i64.wrap ((x3_1.length : Int) - 1)) = ji25 := (i64_w _).trans hji25
           by_cases c26 : 0 ≤ (ji25)
           ·rw [if_pos c26] at H
            have c26b0 : decide (0 ≤ (ji25)) = true := decide_eq_true c26
            clear c26
            by_cases c27 : (ji25) < (x3_1.length : Int)
            ·rw [if_pos c27] at H
             have c27b0 : decide ((ji25) < (x3_1.length : Int)) = true := decide_eq_true c27
             clear c27
             obtain ⟨y528, hy528⟩ : ∃ y_ : List (S85), y_ = (x3_1.set ((ji25) : Int).toNat (⟨(⟨(rd_T85 x3_1 (ji25)).f0.f0, (rd_T85 x3_1 (ji25)).f0.f1, wrap64 (((rd_T85 x3_1 (ji25)).f0.f2) + ((rd_T71 l0_2 x11_1).f1))⟩ : S54), (rd_T85 x3_1 (ji25)).f1, (rd_T85 x3_1 (ji25)).f2⟩ : S85)) := ⟨_, rfl⟩
             replace H : (impl_runsOf.l0 kj6 (y528.set ((ji25) : Int).toNat (⟨(⟨(rd_T85 y528 (ji25)).f0.f0, (rd_T85 y528 (ji25)).f0.f1, (rd_T85 y528 (ji25)).f0.f2⟩ : S54), (rd_T85 y528 (ji25)).f1, wrap64 (((rd_T85 y528 (ji25)).f2) + 1)⟩ : S85)) true l0_2 (l0_2.length : Int) (wrap64 (x11_1 + 1)) a0_0 l0_1 l0_2) = some r := by first | (rw [hy528]; with_reducible exact H) | (have H2_ := (Option.bind_some _ _).symm.trans H; rw [hy528]; with_reducible exact H2_) | (have H2_ := (Option.bind_some _ _).symm.trans H; with_reducible exact H2_) | with_reducible exact H | (rw [hy528]; exact H) | exact H
             have Ny528 := Aside0.mk hy528
             clear hy528
             obtain ⟨y530, hy530⟩ : ∃ y_ : List (S85), y_ = (y528.set ((ji25) : Int).toNat (⟨(⟨(rd_T85 y528 (ji25)).f0.f0, (rd_T85 y528 (ji25)).f0.f1, (rd_T85 y528 (ji25)).f0.f2⟩ : S54), (rd_T85 y528 (ji25)).f1, wrap64 (((rd_T85 y528 (ji25)).f2) + 1)⟩ : S85)) := ⟨_, rfl⟩
             replace H : (impl_runsOf.l0 kj6 y530 true l0_2 (l0_2.length : Int) (wrap64 (x11_1 + 1)) a0_0 l0_1 l0_2) = some r := by first | (rw [hy530]; with_reducible exact H) | (have H2_ := (Option.bind_some _ _).symm.trans H; rw [hy530]; with_reducible exact H2_) | (have H2_ := (Option.bind_some _ _).symm.trans H; with_reducible exact H2_) | with_reducible exact H | (rw [hy530]; exact H) | exact H
             have Ny530 := Aside0.mk hy530
             clear hy530
             have H' := Aside0.mk H
             clear H
             have hnb31 := NB520_522.out
             have hnc31 := NB522_520.out
             obtain ⟨hcz32_0, hcz32_1, hcz32_2, hfz32_0, hfz32_1, hfz32_2⟩ := cz3 BK520.out
             obtain ⟨hcz33_0, hcz33_1, hcz33_2, hcz33_3, hfz33_0, hfz33_1, hfz33_2, hfz33_3⟩ := cz4 BK522.out
             try go_wp2_with (first | (go_at_call 93; (with_reducible refine (slices_Contains_int_int.calls kj6 _ _ l0_1 ((rd_T71 l0_2 x11_1).f0) false _ ?side1 ?side2 A18.out).mono ?_); (case side1 => exact cb (Kd.C_below HR0_1.out HB.out)); (case side2 => exact HC0_1.out); rintro e w' ⟨rfl, ⟨nd, rfl⟩⟩; (try (rw [drewN_self wc]; generalize hq_ : World.drewN wc _ = wc; have n0_ : Aside0 (Kd.R k85 85 wc w.heap.size (fun _ => True) u3 x3_1) := ⟨by rw [← hq_]; exact (rk HO_3.out)⟩; have n1_ : Aside0 (wc.heap[gb520]? = some (.cells #[.int .i64 a0_0, .slice A0_1 l0_1.length c0_1, .slice (some ad521) l0_2.length c0_2] 30 (0, 0))) := ⟨by rw [← hq_]; exact (bk BK520.out)⟩; have n2_ : Aside0 (wc.heap[gb522]? = some (.cells #[.int .i64 ((rd_T71 l0_2 x11_1).f0), .int .i64 ((rd_T71 l0_2 x11_1).f1), .int .i64 ((rd_T71 l0_2 x11_1).f2), .bool ((rd_T71 l0_2 x11_1).f3)] 71 (0, 0))) := ⟨by rw [← hq_]; exact (bk BK522.out)⟩; have n3_ : Aside0 (Below w.heap.size w wc) := ⟨by rw [← hq_]; exact (bl HB.out)⟩; clear HO_3 BK520 BK522 HB hq_; have HO_3 := n0_; have BK520 := n1_; have BK522 := n2_; have HB := n3_; clear n0_ n1_ n2_ n3_)); obtain ⟨Ao34, co34, eo34⟩ := Kd.R_slice HO_3.out; subst eo34; have p28 : 0 ≤ ((ji25) : Int) := of_decide_eq_true asm; have q28 : ((ji25) : Int) < ((x3_1.length : Int) : Int) := of_decide_eq_true asm; obtain ⟨go28, co28, eo28, gb28, gl28, cl28, HG28⟩ := Kd.R_form HO_3.out (by omega); (first | cases eo28 | (injection eo28 with ea_ en_ ec_; (first | subst ea_ | (injection ea_ with ea_; subst ea_)); subst ec_; clear en_)); have GB28 := Aside0.mk gb28; have GG28 := Aside0.mk HG28; clear gb28 gl28 HG28; obtain ⟨ce28, hcl28, hM28, hcc28, hfr28⟩ := Kd.R_elem HO_3.out z85 ((ji25) : Int) p28 q28; obtain rfl := k85_openM hM28; have hx28_0 : wc.cell? ⟨go28, ((ji25) : Int).toNat * 5, none⟩ = some (.int .i64 ((rd_T85 x3_1 (ji25)).f0.f0)) := hcc28 0 _ rfl; have hx28_1 : wc.cell? ⟨go28, ((ji25) : Int).toNat * 5 + 1, none⟩ = some (.int .i64 ((rd_T85 x3_1 (ji25)).f0.f1)) := hcc28 1 _ rfl; have hx28_2 : wc.cell? ⟨go28, ((ji25) : Int).toNat * 5 + 2, none⟩ = some (.int .i64 ((rd_T85 x3_1 (ji25)).f0.f2)) := hcc28 2 _ rfl; have hx28_3 : wc.cell? ⟨go28, ((ji25) : Int).toNat * 5 + 3, none⟩ = some (.int .i64 ((rd_T85 x3_1 (ji25)).f1)) := hcc28 3 _ rfl; have hx28_4 : wc.cell? ⟨go28, ((ji25) : Int).toNat * 5 + 4, none⟩ = some (.int .i64 ((rd_T85 x3_1 (ji25)).f2)) := hcc28 4 _ rfl; have hf28_0 : wc.frozen? ⟨go28, ((ji25) : Int).toNat * 5, none⟩ = false := hfr28 0; have hf28_1 : wc.frozen? ⟨go28, ((ji25) : Int).toNat * 5 + 1, none⟩ = false := hfr28 1; have hf28_2 : wc.frozen? ⟨go28, ((ji25) : Int).toNat * 5 + 2, none⟩ = false := hfr28 2; have hf28_3 : wc.frozen? ⟨go28, ((ji25) : Int).toNat * 5 + 3, none⟩ = false := hfr28 3; have hf28_4 : wc.frozen? ⟨go28, ((ji25) : Int).toNat * 5 + 4, none⟩ = false := hfr28 4; clear hcl28 hcc28 hfr28 hM28; replace p28 := eq_true p28; replace q28 := eq_true q28))
             replace HO_3 := Aside0.mk (Kd.R_drew HO_3.out)
             replace BK520 := Aside0.mk (blk_drew BK520.out)
             replace BK522 := Aside0.mk (blk_drew BK522.out)
             replace HB := Aside0.mk (below_drew1 HB.out)
             have p527 : 0 ≤ ((ji25) : Int) := of_decide_eq_true asm
             have q527 : (ji25) < (x3_1.length : Int) := of_decide_eq_true asm
             obtain ⟨ad527, e527, hx527_0, hx527_1, hx527_2, hx527_3, hx527_4⟩ := at_T85 (Kd.R_reads' HO_3.out).2.2 (ji25) p527 q527
             obtain rfl : (⟨go28, 0, none⟩ : Addr) = ad527 := (by injection e527)
             (first | simp only [add_plain] at hx527_0 | simp only [add_at] at hx527_0 | simp only [Addr.add, Nat.zero_add] at hx527_0 | skip)
             (first | simp only [add_plain] at hx527_1 | simp only [add_at] at hx527_1 | simp only [Addr.add, Nat.zero_add] at hx527_1 | skip)
             (first | simp only [add_plain] at hx527_2 | simp only [add_at] at hx527_2 | simp only [Addr.add, Nat.zero_add] at hx527_2 | skip)
             (first | simp only [add_plain] at hx527_3 | simp only [add_at] at hx527_3 | simp only [Addr.add, Nat.zero_add] at hx527_3 | skip)
             (first | simp only [add_plain] at hx527_4 | simp only [add_at] at hx527_4 | simp only [Addr.add, Nat.zero_add] at hx527_4 | skip)
             replace p527 := eq_true p527
             replace q527 := eq_true q527
             have p29 : 0 ≤ ((ji25) : Int) := of_decide_eq_true asm
             have q29 : ((ji25) : Int) < ((x3_1.length : Int) : Int) := of_decide_eq_true asm
             obtain ⟨ce29, hcl29, hM29, hcc29, hfr29⟩ := Kd.R_elem HO_3.out z85 ((ji25) : Int) p29 q29
             obtain rfl := k85_openM hM29
             have hx29_0 : World.cell? _ ⟨go28, ((ji25) : Int).toNat * 5, none⟩ = some (.int .i64 ((rd_T85 x3_1 (ji25)).f0.f0)) := hcc29 0 _ rfl
             have hx29_1 : World.cell? _ ⟨go28, ((ji25) : Int).toNat * 5 + 1, none⟩ = some (.int .i64 ((rd_T85 x3_1 (ji25)).f0.f1)) := hcc29 1 _ rfl
             have hx29_2 : World.cell? _ ⟨go28, ((ji25) : Int).toNat * 5 + 2, none⟩ = some (.int .i64 ((rd_T85 x3_1 (ji25)).f0.f2)) := hcc29 2 _ rfl
             have hx29_3 : World.cell? _ ⟨go28, ((ji25) : Int).toNat * 5 + 3, none⟩ = some (.int .i64 ((rd_T85 x3_1 (ji25)).f1)) := hcc29 3 _ rfl
             have hx29_4 : World.cell? _ ⟨go28, ((ji25) : Int).toNat * 5 + 4, none⟩ = some (.int .i64 ((rd_T85 x3_1 (ji25)).f2)) := hcc29 4 _ rfl
             have hf29_0 : World.frozen? _ ⟨go28, ((ji25) : Int).toNat * 5, none⟩ = false := hfr29 0
             have hf29_1 : World.frozen? _ ⟨go28, ((ji25) : Int).toNat * 5 + 1, none⟩ = false := hfr29 1
             have hf29_2 : World.frozen? _ ⟨go28, ((ji25) : Int).toNat * 5 + 2, none⟩ = false := hfr29 2
             have hf29_3 : World.frozen? _ ⟨go28, ((ji25) : Int).toNat * 5 + 3, none⟩ = false := hfr29 3
             have hf29_4 : World.frozen? _ ⟨go28, ((ji25) : Int).toNat * 5 + 4, none⟩ = false := hfr29 4
             clear hcl29 hcc29 hfr29 hM29
             replace p29 := eq_true p29
             replace q29 := eq_true q29
             obtain ⟨ce36, hcl36, hM36, hcc36, hfr36⟩ := Kd.R_elem HO_3.out z85 ((ji25) : Int) (of_decide_eq_true asm) (by have h_ : ((ji25) : Int) < ((x3_1.length : Int) : Int) := of_decide_eq_true asm; first | exact h_ | (have e_ := (Kd.R_reads' HO_3.out).1; omega) | simpa using h_)
             obtain rfl := k85_openM hM36
             have HP36 := (Kd.R_seg HO_3.out ((ji25) : Int) (of_decide_eq_true asm) (by have h_ : ((ji25) : Int) < ((x3_1.length : Int) : Int) := of_decide_eq_true asm; first | exact h_ | (have e_ := (Kd.R_reads' HO_3.out).1; omega) | simpa using h_) (seg := [.int .i64 (wrap64 (((rd_T85 x3_1 (ji25)).f0.f2) + ((rd_T71 l0_2 x11_1).f1)))]) (j := 2) hcl36 hcc36 (show 3 ≤ 5 from by decide) (x' := (⟨(⟨(rd_T85 x3_1 (ji25)).f0.f0, (rd_T85 x3_1 (ji25)).f0.f1, wrap64 (((rd_T85 x3_1 (ji25)).f0.f2) + ((rd_T71 l0_2 x11_1).f1))⟩ : S54), (rd_T85 x3_1 (ji25)).f1, (rd_T85 x3_1 (ji25)).f2⟩ : S85)) (k85_mkM _ _ _ (⟨(⟨(rd_T85 x3_1 (ji25)).f0.f0, (rd_T85 x3_1 (ji25)).f0.f1, wrap64 (((rd_T85 x3_1 (ji25)).f0.f2) + ((rd_T71 l0_2 x11_1).f1))⟩ : S54), (rd_T85 x3_1 (ji25)).f1, (rd_T85 x3_1 (ji25)).f2⟩ : S85) ) (fun _ hk => hk)).1
             rw [← Ny528.out] at HP36
             have HQ36 := Aside0.mk HP36
             clear hcl36 hcc36 hfr36 hM36 HP36
             refine start_ (n := 12) (S := fun w' => w'.cell? ⟨gb522, 0, none⟩ = some (.int .i64 ((rd_T71 l0_2 x11_1).f0)) ∧ w'.cell? ⟨gb522, 1, none⟩ = some (.int .i64 ((rd_T71 l0_2 x11_1).f1)) ∧ w'.cell? ⟨gb522, 2, none⟩ = some (.int .i64 ((rd_T71 l0_2 x11_1).f2)) ∧ w'.cell? ⟨gb522, 3, none⟩ = some (.bool ((rd_T71 l0_2 x11_1).f3)) ∧ w'.cell? ⟨go28, ((ji25)).toNat * 5, none⟩ = some (.int .i64 ((rd_T85 x3_1 (ji25)).f0.f0)) ∧ w'.cell? ⟨go28, ((ji25)).toNat * 5 + 1, none⟩ = some (.int .i64 ((rd_T85 x3_1 (ji25)).f0.f1)) ∧ w'.cell? ⟨go28, ((ji25)).toNat * 5 + 2, none⟩ = some (.int .i64 ((rd_T85 x3_1 (ji25)).f0.f2)) ∧ w'.cell? ⟨go28, ((ji25)).toNat * 5 + 3, none⟩ = some (.int .i64 ((rd_T85 x3_1 (ji25)).f1)) ∧ w'.cell? ⟨go28, ((ji25)).toNat * 5 + 4, none⟩ = some (.int .i64 ((rd_T85 x3_1 (ji25)).f2))) (ds := [11]) #[false, false, false, false, false, false, false, false, false, false, false, false] (by kernel_rfl) rfl rfl ⟨(blk_cell BK522.out 0).trans rfl, (blk_cell BK522.out 1).trans rfl, (blk_cell BK522.out 2).trans rfl, (blk_cell BK522.out 3).trans rfl, hx527_0, hx527_1, hx527_2, hx527_3, hx527_4⟩ (fun hHeld => ?_); refine with_tabW impl_runsOf.tab10 impl_runsOf.bits10 (fun HT_ HW_ => ?_)
             generalize wc.drew = w35 at HO_3 BK520 BK522 HB HQ36 hf29_0 hf29_1 hf29_2 hf29_3 hf29_4 hx29_0 hx29_1 hx29_2 hx29_3 hx29_4 hx527_0 hx527_1 hx527_2 hx527_3 hx527_4 hHeld ⊢
             refine puA (i := 0) (N := some 37) HT_.out ?_
             refine puA (i := 1) (N := some 38) HT_.out ?_
             refine puA (i := 2) (N := some 39) HT_.out ?_
             refine puA (i := 3) (N := some 40) HT_.out ?_
             refine puA (i := 5) (N := some 42) HT_.out ?_
             refine tkA9 (i := 4) (N := some 41) HT_.out HW_.out hHeld ?_
             refine tkA9 (i := 6) (N := some 43) HT_.out HW_.out hHeld ?_
             refine puA (i := 7) (N := some 44) HT_.out ?_
             refine puA (i := 8) (N := some 45) HT_.out ?_
             refine puA (i := 9) (N := some 46) HT_.out ?_
             refine puA (i := 10) (N := some 47) HT_.out ?_
             refine last_ (i := 11) (N := none) #[true, true, true, true, true, true, true, true, true, true, true, true] rfl rfl (one_of HT_.out (by kernel_rfl)) (by decide) (fun K hK => ?_)
             refine skip_ (w1 := ?_) (by rfl) rfl ?_ ?_
             rotate_left
             ·go_simp
              rfl
             refine hK.out _ _ ?_
             clear hK K
             refine done_ (done_of HT_.out (by kernel_rfl)) ?_
             have n0_ : Aside0 (Kd.R k85 85 (w35.setCell ⟨go28, ((ji25) : Int).toNat * 5 + 2, none⟩ (.int .i64 (wrap64 (((rd_T85 x3_1 (ji25)).f0.f2) + ((rd_T71 l0_2 x11_1).f1))))) w.heap.size (fun _ => True) (.slice (some ⟨go28, 0, none⟩) x3_1.length co34) y528) := ⟨rk HQ36.out⟩
             have n1_ : Aside0 ((w35.setCell ⟨go28, ((ji25) : Int).toNat * 5 + 2, none⟩ (.int .i64 (wrap64 (((rd_T85 x3_1 (ji25)).f0.f2) + ((rd_T71 l0_2 x11_1).f1))))).heap[gb520]? = some (.cells #[.int .i64 a0_0, .slice A0_1 l0_1.length c0_1, .slice (some ad521) l0_2.length c0_2] 30 (0, 0))) := ⟨by refine bk ?_; refine blk_far ?_ (by have h_ := Kd.R_ne HO_3.out BK520.out (by decide); intro e_; exact h_ (by rw [e_]; rfl)) _; refine bk ?_; exact BK520.out⟩
             have n2_ : Aside0 ((w35.setCell ⟨go28, ((ji25) : Int).toNat * 5 + 2, none⟩ (.int .i64 (wrap64 (((rd_T85 x3_1 (ji25)).f0.f2) + ((rd_T71 l0_2 x11_1).f1))))).heap[gb522]? = some (.cells #[.int .i64 ((rd_T71 l0_2 x11_1).f0), .int .i64 ((rd_T71 l0_2 x11_1).f1), .int .i64 ((rd_T71 l0_2 x11_1).f2), .bool ((rd_T71 l0_2 x11_1).f3)] 71 (0, 0))) := ⟨by refine bk ?_; refine blk_far ?_ (by have h_ := Kd.R_ne HO_3.out BK522.out (by decide); intro e_; exact h_ (by rw [e_]; rfl)) _; refine bk ?_; exact BK522.out⟩
             have n3_ : Aside0 (Below w.heap.size w (w35.setCell ⟨go28, ((ji25) : Int).toNat * 5 + 2, none⟩ (.int .i64 (wrap64 (((rd_T85 x3_1 (ji25)).f0.f2) + ((rd_T71 l0_2 x11_1).f1)))))) := ⟨by repeat (first | (with_reducible first | exact HB.out | apply below_alloc | apply pw_below_drewN | apply below_drew1 | refine below_set ?_ GB28.out | refine below_set ?_ GE520.out | refine below_set ?_ GE522.out) | exact HB.out)⟩
             (try clear HO_3)
             (try clear BK520)
             (try clear BK522)
             (try clear HB)
             generalize (w35.setCell ⟨go28, ((ji25) : Int).toNat * 5 + 2, none⟩ (.int .i64 (wrap64 (((rd_T85 x3_1 (ji25)).f0.f2) + ((rd_T71 l0_2 x11_1).f1))))) = w37 at n0_ n1_ n2_ n3_ ⊢
             have HO_3 := n0_
             have BK520 := n1_
             have BK522 := n2_
             have HB := n3_
             clear n0_ n1_ n2_ n3_
             have p529 : 0 ≤ ((ji25) : Int) := of_decide_eq_true asm
             have q529 : (ji25) < (y528.length : Int) := (by have h_ : ((ji25) : Int) < ((x3_1.length : Int) : Int) := of_decide_eq_true asm; first | (have e_ := (Kd.R_reads' HO_3.out).1; omega) | simpa only [Ny528.out, List.length_set] using h_)
             have ql529 : (((ji25) : Int) < ((x3_1.length : Int) : Int)) = True := eq_true (of_decide_eq_true asm)
             obtain ⟨ad529, e529, hx529_0, hx529_1, hx529_2, hx529_3, hx529_4⟩ := at_T85 (Kd.R_reads' HO_3.out).2.2 (ji25) p529 q529
             obtain rfl : (⟨go28, 0, none⟩ : Addr) = ad529 := (by injection e529)
             (first | simp only [add_plain] at hx529_0 | simp only [add_at] at hx529_0 | simp only [Addr.add, Nat.zero_add] at hx529_0 | skip)
             (first | simp only [add_plain] at hx529_1 | simp only [add_at] at hx529_1 | simp only [Addr.add, Nat.zero_add] at hx529_1 | skip)
             (first | simp only [add_plain] at hx529_2 | simp only [add_at] at hx529_2 | simp only [Addr.add, Nat.zero_add] at hx529_2 | skip)
             (first | simp only [add_plain] at hx529_3 | simp only [add_at] at hx529_3 | simp only [Addr.add, Nat.zero_add] at hx529_3 | skip)
             (first | simp only [add_plain] at hx529_4 | simp only [add_at] at hx529_4 | simp only [Addr.add, Nat.zero_add] at hx529_4 | skip)
             replace p529 := eq_true p529
             replace q529 := eq_true q529
             have p30 : 0 ≤ ((ji25) : Int) := of_decide_eq_true asm
             have q30 : ((ji25) : Int) < ((x3_1.length : Int) : Int) := of_decide_eq_true asm
             obtain ⟨ce30, hcl30, hM30, hcc30, hfr30⟩ := Kd.R_elem HO_3.out z85 ((ji25) : Int) p30 q30
             obtain rfl := k85_openM hM30
             have hx30_0 : w37.cell? ⟨go28, ((ji25) : Int).toNat * 5, none⟩ = some (.int .i64 ((rd_T85 y528 (ji25)).f0.f0)) := hcc30 0 _ rfl
             have hx30_1 : w37.cell? ⟨go28, ((ji25) : Int).toNat * 5 + 1, none⟩ = some (.int .i64 ((rd_T85 y528 (ji25)).f0.f1)) := hcc30 1 _ rfl
             have hx30_2 : w37.cell? ⟨go28, ((ji25) : Int).toNat * 5 + 2, none⟩ = some (.int .i64 ((rd_T85 y528 (ji25)).f0.f2)) := hcc30 2 _ rfl
             have hx30_3 : w37.cell? ⟨go28, ((ji25) : Int).toNat * 5 + 3, none⟩ = some (.int .i64 ((rd_T85 y528 (ji25)).f1)) := hcc30 3 _ rfl
             have hx30_4 : w37.cell? ⟨go28, ((ji25) : Int).toNat * 5 + 4, none⟩ = some (.int .i64 ((rd_T85 y528 (ji25)).f2)) := hcc30 4 _ rfl
             have hf30_0 : w37.frozen? ⟨go28, ((ji25) : Int).toNat * 5, none⟩ = false := hfr30 0
             have hf30_1 : w37.frozen? ⟨go28, ((ji25) : Int).toNat * 5 + 1, none⟩ = false := hfr30 1
             have hf30_2 : w37.frozen? ⟨go28, ((ji25) : Int).toNat * 5 + 2, none⟩ = false := hfr30 2
             have hf30_3 : w37.frozen? ⟨go28, ((ji25) : Int).toNat * 5 + 3, none⟩ = false := hfr30 3
             have hf30_4 : w37.frozen? ⟨go28, ((ji25) : Int).toNat * 5 + 4, none⟩ = false := hfr30 4
             clear hcl30 hcc30 hfr30 hM30
             replace p30 := eq_true p30
             replace q30 := eq_true q30
             have HX38 := Aside0.mk (show Kd.R k85 85 w37 w.heap.size (fun _ => True) (.slice (some ⟨go28, 0, none⟩) x3_1.length co34) y528 from (rk HO_3.out))
             obtain ⟨ce38, hcl38, hM38, hcc38, hfr38⟩ := Kd.R_elem HX38.out z85 ((ji25) : Int) (of_decide_eq_true asm) (by have h_ : ((ji25) : Int) < ((x3_1.length : Int) : Int) := of_decide_eq_true asm; first | exact h_ | (have e_ := (Kd.R_reads' HO_3.out).1; omega) | simpa using h_)
             obtain rfl := k85_openM hM38
             have HP38 := Kd.R_seg HX38.out ((ji25) : Int) (of_decide_eq_true asm) (by have h_ : ((ji25) : Int) < ((x3_1.length : Int) : Int) := of_decide_eq_true asm; first | exact h_ | (have e_ := (Kd.R_reads' HO_3.out).1; omega) | simpa using h_) (seg := [.int .i64 (wrap64 (((rd_T85 y528 (ji25)).f2) + 1))]) (j := 4) hcl38 hcc38 (show 5 ≤ 5 from by decide) (x' := (⟨(⟨(rd_T85 y528 (ji25)).f0.f0, (rd_T85 y528 (ji25)).f0.f1, (rd_T85 y528 (ji25)).f0.f2⟩ : S54), (rd_T85 y528 (ji25)).f1, wrap64 (((rd_T85 y528 (ji25)).f2) + 1)⟩ : S85)) (k85_mkM _ _ _ (⟨(⟨(rd_T85 y528 (ji25)).f0.f0, (rd_T85 y528 (ji25)).f0.f1, (rd_T85 y528 (ji25)).f0.f2⟩ : S54), (rd_T85 y528 (ji25)).f1, wrap64 (((rd_T85 y528 (ji25)).f2) + 1)⟩ : S85) ) (fun _ hk => hk)
             have hx38_4 := hcc38 4 _ rfl
             (try simp only [show (k85).sz = 5 from rfl, Nat.mul_one, Nat.add_zero] at hx38_4)
             have hf38_4 := hfr38 4
             (try simp only [show (k85).sz = 5 from rfl, Nat.mul_one, Nat.add_zero] at hf38_4)
             clear hcl38 hcc38 hfr38 hM38
             try go_wp2_with (first | ((with_reducible refine gate_store (t := 3) (p := 54) rfl ?_); refine store_event (t := 3) (p := 54) (v := ?vo_w39) (w1 := (w37.setCell ⟨go28, ((ji25) : Int).toNat * 5 + 4, none⟩ (.int .i64 (wrap64 (((rd_T85 y528 (ji25)).f2) + 1))))) ?hg ?ho ?hn ?hr ?_; (case ho => rfl); (case hg => rfl); (case hn => rfl); (case hr => first | (go_simp; done) | (go_simp; rfl)); intro w39 hw; have hg : w37.grownBy w39 (some go28) := (by rw [hw]; exact HP38.2); have hp_ : Kd.R k85 85 w39 w.heap.size (fun _ => True) (.slice (some ⟨go28, 0, none⟩) x3_1.length co34) y530 := (by rw [hw, Ny530.out]; exact HP38.1); clear HP38; replace BK520 := Aside0.mk (blk_grown (g := gb520) (o := .cells #[.int .i64 a0_0, .slice A0_1 l0_1.length c0_1, .slice (some ad521) l0_2.length c0_2] 30 (0, 0)) (bk BK520.out) hg (Kd.R_ne HO_3.out BK520.out (by decide))); replace BK522 := Aside0.mk (blk_grown (g := gb522) (o := .cells #[.int .i64 ((rd_T71 l0_2 x11_1).f0), .int .i64 ((rd_T71 l0_2 x11_1).f1), .int .i64 ((rd_T71 l0_2 x11_1).f2), .bool ((rd_T71 l0_2 x11_1).f3)] 71 (0, 0)) (bk BK522.out) hg (Kd.R_ne HO_3.out BK522.out (by decide))); replace HO_3 := Aside0.mk (hp_); replace HB := Aside0.mk ((by rw [hw]; exact below_set (HB.out) GB28.out : Below w.heap.size w w39)); clear hg hw hp_))
             go_roundg kj6
             case measure => have := HK1.out; have := HJ6.out; omega
             case rel => exact ⟨(y530), (true), (wrap64 (x11_1 + 1)), (by first | rfl | (simp; done) | (simp [*]; done)), (by first | rfl | (simp; done) | (simp [*]; done)), H', ⟨by have := HK1.out; have := HJ6.out; omega⟩, ⟨rk HO_3.out⟩, ⟨by refine bk ?_; exact BK520.out⟩, ⟨bl HB.out⟩⟩
            ·rw [if_neg c27] at H
             exact absurd H (by simp)
           ·rw [if_neg c26] at H
            exact absurd H (by simp)
         ·replace c17 := Bool.eq_false_iff.mpr c17
          subst c17
          rw [if_neg (show ¬ (false = true) by decide)] at H
          by_cases c40 : x3_1.length < 3518437208883
          ·rw [if_pos c40] at H
           have LMc40 := Aside0.mk c40
           clear c40
           obtain ⟨y531, hy531⟩ : ∃ y_ : List (S85), y_ = (x3_1 ++ [(⟨(⟨0, ((rd_T71 l0_2 x11_1).f0), ((rd_T71 l0_2 x11_1).f1)⟩ : S54), x11_1, wrap64 (x11_1 + 1)⟩ : S85)]) := ⟨_, rfl⟩
           replace H : (impl_runsOf.l0 kj6 y531 true l0_2 (l0_2.length : Int) (wrap64 (x11_1 + 1)) a0_0 l0_1 l0_2) = some r := by first | (rw [hy531]; with_reducible exact H) | (have H2_ := (Option.bind_some _ _).symm.trans H; rw [hy531]; with_reducible exact H2_) | (have H2_ := (Option.bind_some _ _).symm.trans H; with_reducible exact H2_) | with_reducible exact H | (rw [hy531]; exact H) | exact H
           have Ny531 := Aside0.mk hy531
           clear hy531
           have H' := Aside0.mk H
           clear H
           have hnb41 := NB522_520.out
           have hnc41 := NB520_522.out
           obtain ⟨hcz42_0, hcz42_1, hcz42_2, hcz42_3, hfz42_0, hfz42_1, hfz42_2, hfz42_3⟩ := cz4 BK522.out
           go_wp2_with (first | ((with_reducible refine gate_builtin (b := .append) (xs := #[.tmp 55, .tmp 65]) rfl ?_); at_builtin; refine Kd.R_append k85 (w0 := w) w.heap.size rfl (.tmp 55) (.tmp 65) 82 85 (.agg #[(.int .i64 0), (.int .i64 0), (.int .i64 0), (.int .i64 0), (.int .i64 0)]) 40 rfl Try.underlying82 info85 rfl (by decide) (by omega) u3 x3_1 (⟨(⟨0, ((rd_T71 l0_2 x11_1).f0), ((rd_T71 l0_2 x11_1).f1)⟩ : S54), x11_1, wrap64 (x11_1 + 1)⟩ : S85) [.int .i64 0, .int .i64 ((rd_T71 l0_2 x11_1).f0), .int .i64 ((rd_T71 l0_2 x11_1).f1), .int .i64 x11_1, .int .i64 (wrap64 (x11_1 + 1))] (fun _ => True) (fun _ => False) rfl rfl ?aP (fun _ hk => hk.elim) ?aF ?aO ?aB ?aS ?aL ?_; (case aP => exact k85_mkM _ _ _ (⟨(⟨0, ((rd_T71 l0_2 x11_1).f0), ((rd_T71 l0_2 x11_1).f1)⟩ : S54), x11_1, wrap64 (x11_1 + 1)⟩ : S85)); (case aB => exact (bl HB.out)); (case aF => exact (fun _ _ => trivial)); (case aO => exact (rk HO_3.out)); (case aS => exact (below_size (bl HB.out))); (case aL => have := LMc40.out; omega); intro v532 w43 ho hb hg hat; rw [← Ny531.out] at ho; replace BK520 := Aside0.mk (blk_grown (g := gb520) (o := .cells #[.int .i64 a0_0, .slice A0_1 l0_1.length c0_1, .slice (some ad521) l0_2.length c0_2] 30 (0, 0)) (bk BK520.out) hg (Kd.R_ne HO_3.out BK520.out (by decide))); replace BK522 := Aside0.mk (blk_grown (g := gb522) (o := .cells #[.int .i64 ((rd_T71 l0_2 x11_1).f0), .int .i64 ((rd_T71 l0_2 x11_1).f1), .int .i64 ((rd_T71 l0_2 x11_1).f2), .bool ((rd_T71 l0_2 x11_1).f3)] 71 (0, 0)) (bk BK522.out) hg (Kd.R_ne HO_3.out BK522.out (by decide))); replace HB := Aside0.mk (hb); have HO533 := Aside0.mk (ho); clear HO_3; clear ho hb hg hat))
           go_roundg kj6
           case measure => have := HK1.out; have := HJ6.out; omega
           case rel => exact ⟨(y531), (true), (wrap64 (x11_1 + 1)), (by first | rfl | (simp; done) | (simp [*]; done)), (by first | rfl | (simp; done) | (simp [*]; done)), H', ⟨by have := HK1.out; have := HJ6.out; omega⟩, ⟨rk HO533.out⟩, ⟨by refine bk ?_; exact BK520.out⟩, ⟨bl HB.out⟩⟩
          ·rw [if_neg c40] at H
           exact absurd H (by simp)
     ·rw [if_neg c6] at H
      exact absurd H (by simp)
    ·rw [if_neg c5] at H
     exact absurd H (by simp)
   ·rw [if_neg c4] at H
    have c4b0 : decide (x11_1 < (l0_2.length : Int)) = false := decide_eq_false c4
    clear c4
    obtain rfl := Option.some.inj H
    go_wp2
    go_ret
    exact ⟨_, by first | rfl | (simp [errW_none, errW_some] <;> rfl) | (simp [*, errW_none, errW_some] <;> rfl), rk HO_3.out, bl HB.out⟩
end Go.Proofs.Ytghfeapncmlihaa.A

namespace Go.Proofs.Ytghfeapncmlihaa.A
open Go.RowKit Go.Proofs.YtghfeapncmlihaaW.PrintWords Go.Proofs.YtghfeapncmlihaaW.PrintLast Go.Proofs.YtghfeapncmlihaaW.PrintMore
attribute [local go_sem] max2_int min2_int max_two min_two max_three min_three max_four min_four   
set_option linter.unusedVariables false
set_option linter.unusedSimpArgs false
def impl_GapsOf.l0 : Nat → List (S54) → List (S85) → Int → Int → Option ((List (S54)))
 | 0, _, _, _, _ => none
 | k + 1, x3, x10, x11, x12 => if x12 < x11 then (if 0 ≤ x12 then (if x12 < (x10.length : Int) then (if x3.length < 5864062014805 then (impl_GapsOf.l0 k (x3 ++ [(⟨(rd_T85 x10 x12).f0.f0, (rd_T85 x10 x12).f0.f1, (rd_T85 x10 x12).f0.f2⟩ : S54)]) x10 x11 (wrap64 (x12 + 1))) else (none)) else (none)) else (none)) else (some x3)
def impl_GapsOf.f (k : Nat) (a0_0 : Int) (l0_1 : List Int) (l0_2 : List (S71)) : Option ((List (S54))) := (impl_ColumnOk.f a0_0 l0_1 l0_2).bind fun t535 => (if t535 = true then ((impl_runsOf.f k a0_0 l0_1 l0_2).bind fun t536 => (impl_GapsOf.l0 k ([] : List (S54)) t536 (t536.length : Int) 0)) else (some ([] : List (S54))))
set_option maxHeartbeats 8000000 in
set_option maxRecDepth 100000 in
theorem impl_GapsOf.calls (k : Nat) (a0_0 : Int) (A0_1 : Option Addr) (c0_1 : Nat) (l0_1 : List Int) (A0_2 : Option Addr) (c0_2 : Nat) (l0_2 : List (S71)) (r : List (S54)) (w : World) (hr0_1 : Kd.C (Kd.int .i64) w A0_1 l0_1.length l0_1) (hc0_1 : l0_1.length ≤ c0_1) (hr0_2 : Kd.C k71 w A0_2 l0_2.length l0_2) (hc0_2 : l0_2.length ≤ c0_2) (h : impl_GapsOf.f k a0_0 l0_1 l0_2 = some r) :
  Calls Try.prog 42 #[.agg #[.int .i64 a0_0, .slice A0_1 l0_1.length c0_1, .slice A0_2 l0_2.length c0_2]] w fun e w' => ∃ v0_ : Value, e = .returned (v0_) ∧ Kd.R k54 54 w' w.heap.size (fun _ => True) v0_ r ∧ Below w.heap.size w w' := by
 have hu30 := Try.underlying30
 have hu85 := Try.underlying85
 have hu54 := Try.underlying54
 have HR0_1 := Aside0.mk hr0_1
 have HC0_1 := Aside0.mk hc0_1
 clear hr0_1 hc0_1
 have HR0_2 := Aside0.mk hr0_2
 have HC0_2 := Aside0.mk hc0_2
 clear hr0_2 hc0_2
 have HB := Aside0.mk (Below.refl w.heap.size w)
 have H : ((impl_ColumnOk.f a0_0 l0_1 l0_2).bind fun t535 => (if t535 = true then ((impl_runsOf.f k a0_0 l0_1 l0_2).bind fun t536 => (impl_GapsOf.l0 k ([] : List (S54)) t536 (t536.length : Int) 0)) else (some ([] : List (S54))))) = some r := h
 clear h
 replace H := Option.bind_eq_some_iff.mp H
 obtain ⟨t535, A20, H⟩ := H
 try dsimp only at H
 have A2 := Aside0.mk A20
 clear A20
 by_cases c3 : t535 = true
 ·subst c3
  rw [if_pos rfl] at H
  replace H := Option.bind_eq_some_iff.mp H
  obtain ⟨t536, A40, H⟩ := H
  try dsimp only at H
  have A4 := Aside0.mk A40
  clear A40
  have H' := Aside0.mk H
  clear H
  go_enter Try.func42, Try.ntmps42
  go_wp2_with (first | ((with_reducible refine gate_dst (N := 1) rfl ?_); refine bx (cs := #[.int .i64 a0_0, .slice A0_1 l0_1.length c0_1, .slice A0_2 l0_2.length c0_2]) (t := 30) fun gb534 hg w5 hbox hb => ?_; have BK534 := Aside0.mk (hbox); have GW534 := Aside0.mk (gs HB.out hg); have GE534 := Aside0.mk (gs HB.out hg); replace HB := Aside0.mk (below_step (bl HB.out) hb); clear hb hbox hg; obtain ⟨hcz6_0, hcz6_1, hcz6_2, hfz6_0, hfz6_1, hfz6_2⟩ := cz3 BK534.out) | ((with_reducible refine gate_callee (f := 18) rfl ?_); refine goesL_ (some 7) rfl rfl Try.func18 (by kernel_rfl) rfl #[.agg #[.int .i64 a0_0, .slice A0_1 l0_1.length c0_1, .slice A0_2 l0_2.length c0_2]] rfl mapd ?_; (with_reducible refine (impl_ColumnOk.calls a0_0 _ _ l0_1 _ _ l0_2 true _ ?side1 ?side2 ?side3 ?side4 A2.out).mono ?_); (case side1 => exact cb (Kd.C_below HR0_1.out HB.out)); (case side2 => exact HC0_1.out); (case side3 => exact cb (Kd.C_below HR0_2.out HB.out)); (case side4 => exact HC0_2.out); rintro e w7 ⟨rfl, hb⟩; refine ⟨_, rfl, ?_⟩; replace BK534 := Aside0.mk (bb BK534.out hb); replace HB := Aside0.mk (below_step (bl HB.out) hb); (try clear hb); (try clear hb2); (try clear hk); (try clear hi); obtain ⟨hcz8_0, hcz8_1, hcz8_2, hfz8_0, hfz8_1, hfz8_2⟩ := cz3 BK534.out) | ((with_reducible refine gate_callee (f := 77) rfl ?_); refine goesL_ (some 10) rfl rfl Try.func77 (by kernel_rfl) rfl #[.agg #[.int .i64 a0_0, .slice A0_1 l0_1.length c0_1, .slice A0_2 l0_2.length c0_2]] rfl mapd ?_; (with_reducible refine (impl_runsOf.calls k a0_0 _ _ l0_1 _ _ l0_2 t536 _ ?side1 ?side2 ?side3 ?side4 A4.out).mono ?_); (case side1 => exact cb (Kd.C_below HR0_1.out HB.out)); (case side2 => exact HC0_1.out); (case side3 => exact cb (Kd.C_below HR0_2.out HB.out)); (case side4 => exact HC0_2.out); rintro e w9 ⟨v537, rfl, ho0, hb⟩; refine ⟨_, rfl, ?_⟩; have HO538 := Aside0.mk (Kd.R_lower ho0 (below_size (bl HB.out))); replace BK534 := Aside0.mk (bb BK534.out hb); replace HB := Aside0.mk (below_step (bl HB.out) hb); (try clear hb); (try clear hb2); (try clear hk); (try clear hi); (try clear ho0); obtain ⟨Ao10, co10, eo10⟩ := Kd.R_slice HO538.out; subst eo10))
  go_loopg [3, 12] k (fun kq v3 v12 w' => ∃ (x3_1 : List (S54)) (x12_1 : Int), v12 = .int .i64 x12_1 ∧ Aside0 (impl_GapsOf.l0 kq x3_1 t536 (t536.length : Int) x12_1 = some r) ∧ Aside0 (kq ≤ k) ∧ Aside0 (Kd.R k54 54 w' w.heap.size (fun _ => True) v3 x3_1) ∧ Aside0 (Kd.R k85 85 w' w.heap.size (fun _ => True) (.slice Ao10 t536.length co10) t536) ∧ Aside0 (w'.heap[gb534]? = some (.cells #[.int .i64 a0_0, (.slice A0_1 l0_1.length c0_1), (.slice A0_2 l0_2.length c0_2)] 30 (0, 0))) ∧ Aside0 (Below w.heap.size w w'))
  case atStart => exact ⟨(([] : List (S54))), (0), (by first | rfl | (simp; done) | (simp [*]; done)), H', ⟨Nat.le_refl _⟩, ⟨by first | exact Kd.R_nil _ _ _ _ _ | exact Kd.N_nil _ _ _ _ _ | exact Kd.V_nil _ _ _ _ _ | exact Kd.Q_nil _ _ _ _ _ | exact Kd.S_nil _ _ _ _ _⟩, ⟨rk HO538.out⟩, ⟨by refine bk ?_; exact BK534.out⟩, ⟨bl HB.out⟩⟩
  case round =>
   clear H'
   try clear c1
   try clear p2
   try clear c3
   try clear c4
   try clear c7
   try clear hcz6_0
   try clear hcz6_1
   try clear hcz6_2
   try clear hcz8_0
   try clear hcz8_1
   try clear hcz8_2
   try clear hfz6_0
   try clear hfz6_1
   try clear hfz6_2
   try clear hfz8_0
   try clear hfz8_1
   try clear hfz8_2
   obtain ⟨x3_1, x12_1, rfl, HA, HK1, HO_3, HO_10, BK534, HB⟩ := hrel
   cases gk with
   | zero => exact absurd HA.out (by simp [impl_GapsOf.l0])
   | succ k1 =>
    have H := HA.out
    clear HA
    simp only [impl_GapsOf.l0] at H
    by_cases c11 : x12_1 < (t536.length : Int)
    ·rw [if_pos c11] at H
     have c11b0 : decide (x12_1 < (t536.length : Int)) = true := decide_eq_true c11
     clear c11
     by_cases c12 : 0 ≤ x12_1
     ·rw [if_pos c12] at H
      have c12b0 : decide (0 ≤ x12_1) = true := decide_eq_true c12
      clear c12
      by_cases c13 : x12_1 < (t536.length : Int)
      ·rw [if_pos c13] at H
       have c13b0 : decide (x12_1 < (t536.length : Int)) = true := decide_eq_true c13
       clear c13
       by_cases c14 : x3_1.length < 5864062014805
       ·rw [if_pos c14] at H
        have LMc14 := Aside0.mk c14
        clear c14
        obtain ⟨y541, hy541⟩ : ∃ y_ : List (S54), y_ = (x3_1 ++ [(⟨(rd_T85 t536 x12_1).f0.f0, (rd_T85 t536 x12_1).f0.f1, (rd_T85 t536 x12_1).f0.f2⟩ : S54)]) := ⟨_, rfl⟩
        replace H : (impl_GapsOf.l0 k1 y541 t536 (t536.length : Int) (wrap64 (x12_1 + 1))) = some r := by first | (rw [hy541]; with_reducible exact H) | (have H2_ := (Option.bind_some _ _).symm.trans H; rw [hy541]; with_reducible exact H2_) | (have H2_ := (Option.bind_some _ _).symm.trans H; with_reducible exact H2_) | with_reducible exact H | (rw [hy541]; exact H) | exact H
        have Ny541 := Aside0.mk hy541
        clear hy541
        have H' := Aside0.mk H
        clear H
        have p539 : 0 ≤ (x12_1 : Int) := of_decide_eq_true asm
        have q539 : x12_1 < (t536.length : Int) := of_decide_eq_true asm
        obtain ⟨ad539, e539, hx539_0, hx539_1, hx539_2, hx539_3, hx539_4⟩ := at_T85 (Kd.R_reads' HO_10.out).2.2 x12_1 p539 q539
        cases e539
        replace p539 := eq_true p539
        replace q539 := eq_true q539
        go_wp2_with (first | ((with_reducible refine gate_dst (N := 5) rfl ?_); refine bx (cs := #[.int .i64 0, .int .i64 0, .int .i64 0, .int .i64 0, .int .i64 0]) (t := 85) fun gb540 hg w15 hbox hb => ?_; replace HO_3 := Aside0.mk (Kd.R_below (rk HO_3.out) hb); replace HO_10 := Aside0.mk (Kd.R_below (Kd.R_elderB (rk HO_10.out) gb540 (Nat.le_of_eq hg.symm)) hb); have BK540 := Aside0.mk (hbox); have GW540 := Aside0.mk (gs HB.out hg); have GE540 := Aside0.mk (gs HB.out hg); replace HB := Aside0.mk (below_step (bl HB.out) hb); have NB534_540 := Aside0.mk ((nl BK534.out hg)); have NB540_534 := Aside0.mk ((ng BK534.out hg)); replace BK534 := Aside0.mk (bb BK534.out hb); clear hb hbox hg; have hnb16 := NB540_534.out; have hnc16 := NB534_540.out; obtain ⟨hcz17_0, hcz17_1, hcz17_2, hcz17_3, hcz17_4, hfz17_0, hfz17_1, hfz17_2, hfz17_3, hfz17_4⟩ := cz5 BK540.out) | ((with_reducible refine gate_builtin (b := .append) (xs := #[.tmp 16, .tmp 19]) rfl ?_); at_builtin; refine Kd.R_append k54 (w0 := w) w.heap.size rfl (.tmp 16) (.tmp 19) 60 54 (.agg #[(.int .i64 0), (.int .i64 0), (.int .i64 0)]) 24 rfl Try.underlying60 info54 rfl (by decide) (by omega) u3 x3_1 (⟨(rd_T85 t536 x12_1).f0.f0, (rd_T85 t536 x12_1).f0.f1, (rd_T85 t536 x12_1).f0.f2⟩ : S54) [.int .i64 ((rd_T85 t536 x12_1).f0.f0), .int .i64 ((rd_T85 t536 x12_1).f0.f1), .int .i64 ((rd_T85 t536 x12_1).f0.f2)] (fun _ => True) (fun _ => False) rfl (by first | (go_simp; done) | (go_simp; rfl)) ?aP (fun _ hk => hk.elim) ?aF ?aO ?aB ?aS ?aL ?_; (case aP => exact k54_mkM _ _ _ (⟨(rd_T85 t536 x12_1).f0.f0, (rd_T85 t536 x12_1).f0.f1, (rd_T85 t536 x12_1).f0.f2⟩ : S54)); (case aB => exact (bl HB.out)); (case aF => exact (fun _ _ => trivial)); (case aO => exact (by refine rk ?_; exact Kd.R_mono (Kd.R_far (p := ⟨gb540, 4, none⟩) (Kd.R_far (p := ⟨gb540, 3, none⟩) (Kd.R_far (p := ⟨gb540, 2, none⟩) (Kd.R_far (p := ⟨gb540, 1, none⟩) (Kd.R_far (p := ⟨gb540, 0, none⟩) (Kd.R_types HO_3.out BK540.out (by decide)) (fun _ hk => hk.2) (.int .i64 ((rd_T85 t536 x12_1).f0.f0))) (fun _ hk => hk.2) (.int .i64 ((rd_T85 t536 x12_1).f0.f1))) (fun _ hk => hk.2) (.int .i64 ((rd_T85 t536 x12_1).f0.f2))) (fun _ hk => hk.2) (.int .i64 ((rd_T85 t536 x12_1).f1))) (fun _ hk => hk.2) (.int .i64 ((rd_T85 t536 x12_1).f2))) (fun _ hk => trivial))); (case aS => exact (below_size (bl HB.out))); (case aL => have := LMc14.out; omega); intro v542 w18 ho hb hg hat; rw [← Ny541.out] at ho; replace HO_10 := Aside0.mk (Kd.R_over' (by refine rk ?_; exact (Kd.R_mono (Kd.R_far (p := ⟨gb540, 4, none⟩) (Kd.R_far (p := ⟨gb540, 3, none⟩) (Kd.R_far (p := ⟨gb540, 2, none⟩) (Kd.R_far (p := ⟨gb540, 1, none⟩) (Kd.R_far (p := ⟨gb540, 0, none⟩) (Kd.R_mono HO_10.out (fun k_ hk => (⟨hk, hk.2⟩ : _ ∧ k_ ≠ gb540))) (fun _ hk => hk.2) (.int .i64 ((rd_T85 t536 x12_1).f0.f0))) (fun _ hk => hk.2) (.int .i64 ((rd_T85 t536 x12_1).f0.f1))) (fun _ hk => hk.2) (.int .i64 ((rd_T85 t536 x12_1).f0.f2))) (fun _ hk => hk.2) (.int .i64 ((rd_T85 t536 x12_1).f1))) (fun _ hk => hk.2) (.int .i64 ((rd_T85 t536 x12_1).f2))) (fun _ h_ => h_.1))) (Kd.R_typed (by refine rk ?_; exact (Kd.R_mono (Kd.R_far (p := ⟨gb540, 4, none⟩) (Kd.R_far (p := ⟨gb540, 3, none⟩) (Kd.R_far (p := ⟨gb540, 2, none⟩) (Kd.R_far (p := ⟨gb540, 1, none⟩) (Kd.R_far (p := ⟨gb540, 0, none⟩) (Kd.R_types HO_3.out BK540.out (by decide)) (fun _ hk => hk.2) (.int .i64 ((rd_T85 t536 x12_1).f0.f0))) (fun _ hk => hk.2) (.int .i64 ((rd_T85 t536 x12_1).f0.f1))) (fun _ hk => hk.2) (.int .i64 ((rd_T85 t536 x12_1).f0.f2))) (fun _ hk => hk.2) (.int .i64 ((rd_T85 t536 x12_1).f1))) (fun _ hk => hk.2) (.int .i64 ((rd_T85 t536 x12_1).f2))) (fun _ h_ => h_.1)))) (by decide) hg); replace BK534 := Aside0.mk (blk_grown (g := gb534) (o := .cells #[.int .i64 a0_0, .slice A0_1 l0_1.length c0_1, .slice A0_2 l0_2.length c0_2] 30 (0, 0)) (bf BK534.out) hg (Kd.R_ne HO_3.out BK534.out (by decide))); replace BK540 := Aside0.mk (blk_grown (g := gb540) (o := .cells #[.int .i64 ((rd_T85 t536 x12_1).f0.f0), .int .i64 ((rd_T85 t536 x12_1).f0.f1), .int .i64 ((rd_T85 t536 x12_1).f0.f2), .int .i64 ((rd_T85 t536 x12_1).f1), .int .i64 ((rd_T85 t536 x12_1).f2)] 85 (0, 0)) (by refine bk ?_; refine blk_put (cs := #[.int .i64 ((rd_T85 t536 x12_1).f0.f0), .int .i64 ((rd_T85 t536 x12_1).f0.f1), .int .i64 ((rd_T85 t536 x12_1).f0.f2), .int .i64 ((rd_T85 t536 x12_1).f1), .int .i64 0]) ?_ 4 _ rfl; refine bk ?_; refine blk_put (cs := #[.int .i64 ((rd_T85 t536 x12_1).f0.f0), .int .i64 ((rd_T85 t536 x12_1).f0.f1), .int .i64 ((rd_T85 t536 x12_1).f0.f2), .int .i64 0, .int .i64 0]) ?_ 3 _ rfl; refine bk ?_; refine blk_put (cs := #[.int .i64 ((rd_T85 t536 x12_1).f0.f0), .int .i64 ((rd_T85 t536 x12_1).f0.f1), .int .i64 0, .int .i64 0, .int .i64 0]) ?_ 2 _ rfl; refine bk ?_; refine blk_put (cs := #[.int .i64 ((rd_T85 t536 x12_1).f0.f0), .int .i64 0, .int .i64 0, .int .i64 0, .int .i64 0]) ?_ 1 _ rfl; refine bk ?_; refine blk_put (cs := #[.int .i64 0, .int .i64 0, .int .i64 0, .int .i64 0, .int .i64 0]) ?_ 0 _ rfl; refine bk ?_; exact BK540.out) hg (Kd.R_ne HO_3.out BK540.out (by decide))); replace HB := Aside0.mk (hb); have HO543 := Aside0.mk (ho); clear HO_3; clear ho hb hg hat))
        go_roundg k1
        case measure => have := HK1.out; omega
        case rel => exact ⟨(y541), (wrap64 (x12_1 + 1)), (by first | rfl | (simp; done) | (simp [*]; done)), H', ⟨by have := HK1.out; omega⟩, ⟨rk HO543.out⟩, ⟨by refine rk ?_; exact Kd.R_mono HO_10.out (fun _ hk => trivial)⟩, ⟨by refine bk ?_; exact BK534.out⟩, ⟨bl HB.out⟩⟩
       ·rw [if_neg c14] at H
        exact absurd H (by simp)
      ·rw [if_neg c13] at H
       exact absurd H (by simp)
     ·rw [if_neg c12] at H
      exact absurd H (by simp)
    ·rw [if_neg c11] at H
     have c11b0 : decide (x12_1 < (t536.length : Int)) = false := decide_eq_false c11
     clear c11
     obtain rfl := Option.some.inj H
     go_wp2
     go_ret
     exact ⟨_, by first | rfl | (simp [errW_none, errW_some] <;> rfl) | (simp [*, errW_none, errW_some] <;> rfl), rk HO_3.out, bl HB.out⟩
 ·replace c3 := Bool.eq_false_iff.mpr c3
  subst c3
  rw [if_neg (show ¬ (false = true) by decide)] at H
  obtain rfl := Option.some.inj H
  go_enter Try.func42, Try.ntmps42
  go_wp2_with (first | ((with_reducible refine gate_dst (N := 1) rfl ?_); refine bx (cs := #[.int .i64 a0_0, .slice A0_1 l0_1.length c0_1, .slice A0_2 l0_2.length c0_2]) (t := 30) fun gb534 hg w19 hbox hb => ?_; have BK534 := Aside0.mk (hbox); have GW534 := Aside0.mk (gs HB.out hg); have GE534 := Aside0.mk (gs HB.out hg); replace HB := Aside0.mk (below_step (bl HB.out) hb); clear hb hbox hg; obtain ⟨hcz20_0, hcz20_1, hcz20_2, hfz20_0, hfz20_1, hfz20_2⟩ := cz3 BK534.out) | ((with_reducible refine gate_callee (f := 18) rfl ?_); refine goesL_ (some 7) rfl rfl Try.func18 (by kernel_rfl) rfl #[.agg #[.int .i64 a0_0, .slice A0_1 l0_1.length c0_1, .slice A0_2 l0_2.length c0_2]] rfl mapd ?_; (with_reducible refine (impl_ColumnOk.calls a0_0 _ _ l0_1 _ _ l0_2 false _ ?side1 ?side2 ?side3 ?side4 A2.out).mono ?_); (case side1 => exact cb (Kd.C_below HR0_1.out HB.out)); (case side2 => exact HC0_1.out); (case side3 => exact cb (Kd.C_below HR0_2.out HB.out)); (case side4 => exact HC0_2.out); rintro e w21 ⟨rfl, hb⟩; refine ⟨_, rfl, ?_⟩; replace BK534 := Aside0.mk (bb BK534.out hb); replace HB := Aside0.mk (below_step (bl HB.out) hb); (try clear hb); (try clear hb2); (try clear hk); (try clear hi)))
  go_ret
  exact ⟨_, by first | rfl | (simp [errW_none, errW_some] <;> rfl) | (simp [*, errW_none, errW_some] <;> rfl), by first | exact Kd.R_nil _ _ _ _ _ | exact Kd.N_nil _ _ _ _ _ | exact Kd.V_nil _ _ _ _ _ | exact Kd.Q_nil _ _ _ _ _ | exact Kd.S_nil _ _ _ _ _, bl HB.out⟩
end Go.Proofs.Ytghfeapncmlihaa.A

namespace Go.Proofs.Ytghfeapncmlihaa.A
open Go.RowKit Go.Proofs.YtghfeapncmlihaaW.PrintWords Go.Proofs.YtghfeapncmlihaaW.PrintLast Go.Proofs.YtghfeapncmlihaaW.PrintMore
attribute [local go_sem] max2_int min2_int max_two min_two max_three min_three max_four min_four   
set_option linter.unusedVariables false
set_option linter.unusedSimpArgs false
def spec_l02Copy.f (a0_0 : Int) (l0_1 : List Int) (l0_2 : List (S71)) : Option (Int × List Int × (List (S71))) := (some (([] : List Int) : List Int)).bind fun y358 => (if y358.length + l0_1.length < 17592186044416 then ((some (([] : List (S71)) : List (S71))).bind fun y364 => (if y364.length + l0_2.length < 4398046511104 then (some (a0_0, (y358 ++ l0_1), (y364 ++ l0_2))) else (none))) else (none))
def spec_l02Copy.T1 : Bool × List (List Nat × List Nat) := (true, [([], []), ([0], [0]), ([], []), ([], []), ([3], [3]), ([2, 4], [2, 4]), ([], []), ([], []), ([7], [7]), ([6, 8, 5], [6, 8]), ([1, 5, 9], [1, 5, 9]), ([10, 9, 0, 1, 2, 3, 4, 5, 6, 7, 8, 9, 10], [10])])
def spec_l02Copy.B1 : List Nat := [0, 1, 0, 0, 8, 28, 0, 0, 128, 508, 1023, 2047]
theorem spec_l02Copy.tab1 : rtab .any (opsOf Try.f71 1) = spec_l02Copy.T1 := by kernel_rfl
theorem spec_l02Copy.bits1 : waitsOk spec_l02Copy.T1.2 spec_l02Copy.B1 = true := by kernel_rfl
set_option maxHeartbeats 8000000 in
set_option maxRecDepth 100000 in
theorem spec_l02Copy.calls (a0_0 : Int) (A0_1 : Option Addr) (c0_1 : Nat) (l0_1 : List Int) (A0_2 : Option Addr) (c0_2 : Nat) (l0_2 : List (S71)) (r1 : Int) (r2 : List Int) (r3 : List (S71)) (w : World) (hr0_1 : Kd.C (Kd.int .i64) w A0_1 l0_1.length l0_1) (hc0_1 : l0_1.length ≤ c0_1) (hr0_2 : Kd.C k71 w A0_2 l0_2.length l0_2) (hc0_2 : l0_2.length ≤ c0_2) (h : spec_l02Copy.f a0_0 l0_1 l0_2 = some (r1, r2, r3)) :
  Calls Try.prog 71 #[.agg #[.int .i64 a0_0, .slice A0_1 l0_1.length c0_1, .slice A0_2 l0_2.length c0_2]] w fun e w' => ∃ v1_ v2_ : Value, e = .returned (.agg #[.int .i64 r1, v1_, v2_]) ∧ Kd.R (Kd.int .i64) 3 w' w.heap.size (fun _ => True) v1_ r2 ∧ Kd.R k71 71 w' w.heap.size (fun _ => True) v2_ r3 ∧ Below w.heap.size w w' := by
 have hu30 := Try.underlying30
 have HR0_1 := Aside0.mk hr0_1
 have HC0_1 := Aside0.mk hc0_1
 clear hr0_1 hc0_1
 have HR0_2 := Aside0.mk hr0_2
 have HC0_2 := Aside0.mk hc0_2
 clear hr0_2 hc0_2
 have HB := Aside0.mk (Below.refl w.heap.size w)
 have H : ((some (([] : List Int) : List Int)).bind fun y358 => (if y358.length + l0_1.length < 17592186044416 then ((some (([] : List (S71)) : List (S71))).bind fun y364 => (if y364.length + l0_2.length < 4398046511104 then (some (a0_0, (y358 ++ l0_1), (y364 ++ l0_2))) else (none))) else (none))) = some (r1, r2, r3) := h
 clear h
 obtain ⟨y358, hy358⟩ : ∃ y_ : List Int, y_ = (([] : List Int)) := ⟨_, rfl⟩
 replace H : (if y358.length + l0_1.length < 17592186044416 then ((some (([] : List (S71)) : List (S71))).bind fun y364 => (if y364.length + l0_2.length < 4398046511104 then (some (a0_0, (y358 ++ l0_1), (y364 ++ l0_2))) else (none))) else (none)) = some (r1, r2, r3) := by first | (rw [hy358]; with_reducible exact H) | (have H2_ := (Option.bind_some _ _).symm.trans H; rw [hy358]; with_reducible exact H2_) | (have H2_ := (Option.bind_some _ _).symm.trans H; with_reducible exact H2_) | with_reducible exact H | (rw [hy358]; exact H) | exact H
 have Ny358 := Aside0.mk hy358
 clear hy358
 by_cases c2 : y358.length + l0_1.length < 17592186044416
 ·rw [if_pos c2] at H
  have LMc2 := Aside0.mk c2
  clear c2
  obtain ⟨y361, hy361⟩ : ∃ y_ : List Int, y_ = (y358 ++ l0_1) := ⟨_, rfl⟩
  replace H : ((some (([] : List (S71)) : List (S71))).bind fun y364 => (if y364.length + l0_2.length < 4398046511104 then (some (a0_0, y361, (y364 ++ l0_2))) else (none))) = some (r1, r2, r3) := by first | (rw [hy361]; with_reducible exact H) | (have H2_ := (Option.bind_some _ _).symm.trans H; rw [hy361]; with_reducible exact H2_) | (have H2_ := (Option.bind_some _ _).symm.trans H; with_reducible exact H2_) | with_reducible exact H | (rw [hy361]; exact H) | exact H
  have Ny361 := Aside0.mk hy361
  clear hy361
  obtain ⟨y364, hy364⟩ : ∃ y_ : List (S71), y_ = (([] : List (S71))) := ⟨_, rfl⟩
  replace H : (if y364.length + l0_2.length < 4398046511104 then (some (a0_0, y361, (y364 ++ l0_2))) else (none)) = some (r1, r2, r3) := by first | (rw [hy364]; with_reducible exact H) | (have H2_ := (Option.bind_some _ _).symm.trans H; rw [hy364]; with_reducible exact H2_) | (have H2_ := (Option.bind_some _ _).symm.trans H; with_reducible exact H2_) | with_reducible exact H | (rw [hy364]; exact H) | exact H
  have Ny364 := Aside0.mk hy364
  clear hy364
  by_cases c3 : y364.length + l0_2.length < 4398046511104
  ·rw [if_pos c3] at H
   have LMc3 := Aside0.mk c3
   clear c3
   obtain ⟨y367, hy367⟩ : ∃ y_ : List (S71), y_ = (y364 ++ l0_2) := ⟨_, rfl⟩
   replace H : (some (a0_0, y361, y367)) = some (r1, r2, r3) := by first | (rw [hy367]; with_reducible exact H) | (have H2_ := (Option.bind_some _ _).symm.trans H; rw [hy367]; with_reducible exact H2_) | (have H2_ := (Option.bind_some _ _).symm.trans H; with_reducible exact H2_) | with_reducible exact H | (rw [hy367]; exact H) | exact H
   have Ny367 := Aside0.mk hy367
   clear hy367
   simp only [Option.some.injEq, Prod.mk.injEq] at H
   obtain ⟨rfl, rfl, rfl⟩ := H
   go_enter Try.func71, Try.ntmps71
   try go_wp2_with (first | ((with_reducible refine gate_dst (N := 1) rfl ?_); refine bx (cs := #[.int .i64 a0_0, .slice A0_1 l0_1.length c0_1, .slice A0_2 l0_2.length c0_2]) (t := 30) fun gb356 hg w4 hbox hb => ?_; have BK356 := Aside0.mk (hbox); have GW356 := Aside0.mk (gs HB.out hg); have GE356 := Aside0.mk (gs HB.out hg); replace HB := Aside0.mk (below_step (bl HB.out) hb); clear hb hbox hg) | ((with_reducible refine gate_dst (N := 2) rfl ?_); refine bx (cs := #[.int .i64 0, .slice none 0 0, .slice none 0 0]) (t := 30) fun gb357 hg w5 hbox hb => ?_; have BK357 := Aside0.mk (hbox); have GW357 := Aside0.mk (gs HB.out hg); have GE357 := Aside0.mk (gs HB.out hg); replace HB := Aside0.mk (below_step (bl HB.out) hb); have NB356_357 := Aside0.mk ((nl BK356.out hg)); have NB357_356 := Aside0.mk ((ng BK356.out hg)); replace BK356 := Aside0.mk (bb BK356.out hb); clear hb hbox hg))
   replace BK356 := Aside0.mk (blk_drew BK356.out)
   replace BK357 := Aside0.mk (blk_drew BK357.out)
   replace HB := Aside0.mk (below_drew1 HB.out)
   refine start_ (n := 12) (S := fun w' => w'.cell? ⟨gb356, 0, none⟩ = some (.int .i64 a0_0) ∧ w'.cell? ⟨gb356, 1, none⟩ = some (.slice A0_1 l0_1.length c0_1) ∧ w'.cell? ⟨gb356, 2, none⟩ = some (.slice A0_2 l0_2.length c0_2)) (ds := []) #[false, false, false, false, false, false, false, false, false, false, false, false] (by kernel_rfl) rfl rfl ⟨(blk_cell BK356.out 0).trans rfl, (blk_cell BK356.out 1).trans rfl, (blk_cell BK356.out 2).trans rfl⟩ (fun hHeld => ?_); refine with_tabW spec_l02Copy.tab1 spec_l02Copy.bits1 (fun HT_ HW_ => ?_)
   generalize w5.drew = w6 at BK356 BK357 HB hHeld ⊢
   refine puA (i := 0) (N := some 3) HT_.out ?_
   refine puA (i := 3) (N := some 6) HT_.out ?_
   refine puA (i := 7) (N := some 10) HT_.out ?_
   refine tkA3 (i := 1) (N := some 4) HT_.out HW_.out hHeld ?_
   refine tkA3 (i := 4) (N := some 7) HT_.out HW_.out hHeld ?_
   refine tkA3 (i := 8) (N := some 11) HT_.out HW_.out hHeld ?_
   refine join_ (σ := Value × Value × Value) 3 #[true, true, true, true, true, true, true, true, true, false, false, false] (fun s_ => [(5, s_.1), (8, s_.2.1), (9, s_.2.2)]) (fun s_ w' => (w'.cell? ⟨gb356, 0, none⟩ = some (.int .i64 a0_0) ∧ w'.cell? ⟨gb356, 1, none⟩ = some (.slice A0_1 l0_1.length c0_1) ∧ w'.cell? ⟨gb356, 2, none⟩ = some (.slice A0_2 l0_2.length c0_2)) ∧ (Kd.R (Kd.int .i64) 3 w' w.heap.size (fun _ => True) s_.2.1 y361) ∧ (Kd.R k71 71 w' w.heap.size (fun _ => True) s_.2.2 y364) ∧ (w'.heap[gb356]? = some (.cells #[.int .i64 a0_0, .slice A0_1 l0_1.length c0_1, .slice A0_2 l0_2.length c0_2] 30 (0, 0))) ∧ (w'.heap[gb357]? = some (.cells #[.int .i64 0, .slice none 0 0, .slice none 0 0] 30 (0, 0))) ∧ (Below w.heap.size w w')) ?_ ?_
   rotate_left
   ·intro hCont
    refine two_ (i := 2) (j := 6) (Ni := some 5) (Nj := some 9) #[true, true, true, true, true, false, false, true, true, false, false, false] #[true, true, false, true, true, false, true, true, true, false, false, false] rfl rfl rfl rfl (two_of HT_.out (by kernel_rfl)) (by decide) (by decide) (fun K hK => ?_) (fun K hK => ?_)
    ·skip
     refine Kd.R_lit_step (Kd.int .i64) _ 3 ?hg (N := 5) ?hd (xs := ([] : List Int)) (inner := []) (ok := fun _ => True) (okp := fun _ => True) ?hr ?hp (fun _ hk => hk) trivial (Below.refl _ _) (Nat.le_refl _) (by simp) ?_; (case hd => rfl); (case hg => rfl); (case hr => first | (go_simp; done) | (go_simp; rfl)); (case hp => exact (Reps.none _ _))
     intro v359 w7 ho8 hb hg_ hnew_
     clear hg_ hnew_
     (first | rw [← Ny358.out] at ho8 | (simp only [Int.reduceToNat] at ho8; rw [← Ny358.out] at ho8))
     have HO360 := Aside0.mk (Kd.R_lower ho8 (below_size (bl HB.out)))
     replace BK356 := Aside0.mk (bb BK356.out hb)
     replace BK357 := Aside0.mk (bb BK357.out hb)
     replace HB := Aside0.mk (below_step (bl HB.out) hb)
     clear hb ho8
     refine hK.out _ _ ⟨(blk_cell BK356.out 0).trans rfl, (blk_cell BK356.out 1).trans rfl, (blk_cell BK356.out 2).trans rfl⟩ (fun hHeld => ?_)
     clear hK K
     refine norm_ (a' := ?_) ?_ ?_
     rotate_left
     ·show Act.put _ (some 5) _ = _
      simp only [Act.put, List.setIfInBounds_toArray, List.set_cons_zero, List.set_cons_succ, i64_w, i32_w]
      rfl
     refine two_ (i := 5) (j := 6) (Ni := some 8) (Nj := some 9) #[true, true, true, true, true, true, false, true, true, false, false, false] #[true, true, true, true, true, false, true, true, true, false, false, false] rfl rfl rfl rfl (two_of HT_.out (by kernel_rfl)) (by decide) (by decide) (fun K hK => ?_) (fun K hK => ?_)
     ·skip
      refine Kd.R_append_rows_step (Kd.int .i64) (w0 := w) w.heap.size (by rfl) (.tmp 5) (.tmp 7) 22 3 (.int .i64 0) 8 rfl Try.underlying22 info3 rfl (by decide) (by omega) v359 y358 l0_1 _ _ _ (fun _ => True) (fun _ => False) rfl rfl ?aO ?aR (fun _ _ h => h) (fun _ h => h.elim) ?aF ?aB ?aS ?aL ?_
      (case aR => exact cb (Kd.C_below HR0_1.out HB.out))
      (case aB => exact (bl HB.out))
      (case aF => exact (fun _ _ => trivial))
      (case aO => exact (rk HO360.out))
      (case aS => exact (below_size (bl HB.out)))
      (case aL => have := LMc2.out; omega)
      intro v362 w9 ho hb hg hat
      rw [← Ny361.out] at ho
      replace BK356 := Aside0.mk (blk_grown (g := gb356) (o := .cells #[.int .i64 a0_0, .slice A0_1 l0_1.length c0_1, .slice A0_2 l0_2.length c0_2] 30 (0, 0)) (bk BK356.out) hg (Kd.R_ne HO360.out BK356.out (by decide)))
      replace BK357 := Aside0.mk (blk_grown (g := gb357) (o := .cells #[.int .i64 0, .slice none 0 0, .slice none 0 0] 30 (0, 0)) (bk BK357.out) hg (Kd.R_ne HO360.out BK357.out (by decide)))
      replace HB := Aside0.mk (hb)
      have HO363 := Aside0.mk (ho)
      clear HO360
      clear ho hb hg hat
      refine hK.out _ _ ⟨(blk_cell BK356.out 0).trans rfl, (blk_cell BK356.out 1).trans rfl, (blk_cell BK356.out 2).trans rfl⟩ (fun hHeld => ?_)
      clear hK K
      refine norm_ (a' := ?_) ?_ ?_
      rotate_left
      ·show Act.put _ (some 8) _ = _
       simp only [Act.put, List.setIfInBounds_toArray, List.set_cons_zero, List.set_cons_succ, i64_w, i32_w]
       rfl
      refine onA (i := 6) (N := some 9) HT_.out (fun K hK => ?_)
      refine Kd.R_lit_step k71 _ 71 ?hg (N := 9) ?hd (xs := ([] : List (S71))) (inner := []) (ok := fun _ => True) (okp := fun _ => True) ?hr ?hp (fun _ hk => hk) trivial (Below.refl _ _) (Nat.le_refl _) (by simp) ?_; (case hd => rfl); (case hg => rfl); (case hr => first | (go_simp; done) | (go_simp; rfl)); (case hp => exact (Reps.none _ _))
      intro v365 w10 ho11 hb hg_ hnew_
      clear hg_ hnew_
      (first | rw [← Ny364.out] at ho11 | (simp only [Int.reduceToNat] at ho11; rw [← Ny364.out] at ho11))
      replace HO363 := Aside0.mk (Kd.R_below (rk HO363.out) hb)
      have HO366 := Aside0.mk (Kd.R_lower ho11 (below_size (bl HB.out)))
      replace BK356 := Aside0.mk (bb BK356.out hb)
      replace BK357 := Aside0.mk (bb BK357.out hb)
      replace HB := Aside0.mk (below_step (bl HB.out) hb)
      clear hb ho11
      refine hK.out _ _ ⟨(blk_cell BK356.out 0).trans rfl, (blk_cell BK356.out 1).trans rfl, (blk_cell BK356.out 2).trans rfl⟩ (fun hHeld => ?_)
      clear hK K
      refine norm_ (a' := ?_) ?_ ?_
      rotate_left
      ·show Act.put _ (some 9) _ = _
       simp only [Act.put, List.setIfInBounds_toArray, List.set_cons_zero, List.set_cons_succ, i64_w, i32_w]
       rfl
      exact norm_ (by simp only [putAll, Act.put, List.setIfInBounds_toArray, List.set_cons_zero, List.set_cons_succ]) (hCont (v359, v362, v365) _ ⟨hHeld, (rk HO363.out), (rk HO366.out), (bk BK356.out), (bk BK357.out), (bl HB.out)⟩)
     ·skip
      refine Kd.R_lit_step k71 _ 71 ?hg (N := 9) ?hd (xs := ([] : List (S71))) (inner := []) (ok := fun _ => True) (okp := fun _ => True) ?hr ?hp (fun _ hk => hk) trivial (Below.refl _ _) (Nat.le_refl _) (by simp) ?_; (case hd => rfl); (case hg => rfl); (case hr => first | (go_simp; done) | (go_simp; rfl)); (case hp => exact (Reps.none _ _))
      intro v365 w9 ho10 hb hg_ hnew_
      clear hg_ hnew_
      (first | rw [← Ny364.out] at ho10 | (simp only [Int.reduceToNat] at ho10; rw [← Ny364.out] at ho10))
      replace HO360 := Aside0.mk (Kd.R_below (rk HO360.out) hb)
      have HO366 := Aside0.mk (Kd.R_lower ho10 (below_size (bl HB.out)))
      replace BK356 := Aside0.mk (bb BK356.out hb)
      replace BK357 := Aside0.mk (bb BK357.out hb)
      replace HB := Aside0.mk (below_step (bl HB.out) hb)
      clear hb ho10
      refine hK.out _ _ ⟨(blk_cell BK356.out 0).trans rfl, (blk_cell BK356.out 1).trans rfl, (blk_cell BK356.out 2).trans rfl⟩ (fun hHeld => ?_)
      clear hK K
      refine norm_ (a' := ?_) ?_ ?_
      rotate_left
      ·show Act.put _ (some 9) _ = _
       simp only [Act.put, List.setIfInBounds_toArray, List.set_cons_zero, List.set_cons_succ, i64_w, i32_w]
       rfl
      refine onA (i := 5) (N := some 8) HT_.out (fun K hK => ?_)
      refine Kd.R_append_rows_step (Kd.int .i64) (w0 := w) w.heap.size (by rfl) (.tmp 5) (.tmp 7) 22 3 (.int .i64 0) 8 rfl Try.underlying22 info3 rfl (by decide) (by omega) v359 y358 l0_1 _ _ _ (fun _ => True) (fun _ => False) rfl rfl ?aO ?aR (fun _ _ h => h) (fun _ h => h.elim) ?aF ?aB ?aS ?aL ?_
      (case aR => exact cb (Kd.C_below HR0_1.out HB.out))
      (case aB => exact (bl HB.out))
      (case aF => exact (fun _ _ => trivial))
      (case aO => exact (rk HO360.out))
      (case aS => exact (below_size (bl HB.out)))
      (case aL => have := LMc2.out; omega)
      intro v362 w11 ho hb hg hat
      rw [← Ny361.out] at ho
      replace BK356 := Aside0.mk (blk_grown (g := gb356) (o := .cells #[.int .i64 a0_0, .slice A0_1 l0_1.length c0_1, .slice A0_2 l0_2.length c0_2] 30 (0, 0)) (bk BK356.out) hg (Kd.R_ne HO360.out BK356.out (by decide)))
      replace BK357 := Aside0.mk (blk_grown (g := gb357) (o := .cells #[.int .i64 0, .slice none 0 0, .slice none 0 0] 30 (0, 0)) (bk BK357.out) hg (Kd.R_ne HO360.out BK357.out (by decide)))
      replace HO366 := Aside0.mk (Kd.R_over' (rk HO366.out) (Kd.R_typed (rk HO360.out)) (by decide) hg)
      replace HB := Aside0.mk (hb)
      have HO363 := Aside0.mk (ho)
      clear HO360
      clear ho hb hg hat
      refine hK.out _ _ ⟨(blk_cell BK356.out 0).trans rfl, (blk_cell BK356.out 1).trans rfl, (blk_cell BK356.out 2).trans rfl⟩ (fun hHeld => ?_)
      clear hK K
      refine norm_ (a' := ?_) ?_ ?_
      rotate_left
      ·show Act.put _ (some 8) _ = _
       simp only [Act.put, List.setIfInBounds_toArray, List.set_cons_zero, List.set_cons_succ, i64_w, i32_w]
       rfl
      exact norm_ (by simp only [putAll, Act.put, List.setIfInBounds_toArray, List.set_cons_zero, List.set_cons_succ]) (hCont (v359, v362, v365) _ ⟨hHeld, (rk HO363.out), (rk HO366.out), (bk BK356.out), (bk BK357.out), (bl HB.out)⟩)
    ·skip
     refine Kd.R_lit_step k71 _ 71 ?hg (N := 9) ?hd (xs := ([] : List (S71))) (inner := []) (ok := fun _ => True) (okp := fun _ => True) ?hr ?hp (fun _ hk => hk) trivial (Below.refl _ _) (Nat.le_refl _) (by simp) ?_; (case hd => rfl); (case hg => rfl); (case hr => first | (go_simp; done) | (go_simp; rfl)); (case hp => exact (Reps.none _ _))
     intro v365 w7 ho8 hb hg_ hnew_
     clear hg_ hnew_
     (first | rw [← Ny364.out] at ho8 | (simp only [Int.reduceToNat] at ho8; rw [← Ny364.out] at ho8))
     have HO366 := Aside0.mk (Kd.R_lower ho8 (below_size (bl HB.out)))
     replace BK356 := Aside0.mk (bb BK356.out hb)
     replace BK357 := Aside0.mk (bb BK357.out hb)
     replace HB := Aside0.mk (below_step (bl HB.out) hb)
     clear hb ho8
     refine hK.out _ _ ⟨(blk_cell BK356.out 0).trans rfl, (blk_cell BK356.out 1).trans rfl, (blk_cell BK356.out 2).trans rfl⟩ (fun hHeld => ?_)
     clear hK K
     refine norm_ (a' := ?_) ?_ ?_
     rotate_left
     ·show Act.put _ (some 9) _ = _
      simp only [Act.put, List.setIfInBounds_toArray, List.set_cons_zero, List.set_cons_succ, i64_w, i32_w]
      rfl
     refine onA (i := 2) (N := some 5) HT_.out (fun K hK => ?_)
     refine Kd.R_lit_step (Kd.int .i64) _ 3 ?hg (N := 5) ?hd (xs := ([] : List Int)) (inner := []) (ok := fun _ => True) (okp := fun _ => True) ?hr ?hp (fun _ hk => hk) trivial (Below.refl _ _) (Nat.le_refl _) (by simp) ?_; (case hd => rfl); (case hg => rfl); (case hr => first | (go_simp; done) | (go_simp; rfl)); (case hp => exact (Reps.none _ _))
     intro v359 w9 ho10 hb hg_ hnew_
     clear hg_ hnew_
     (first | rw [← Ny358.out] at ho10 | (simp only [Int.reduceToNat] at ho10; rw [← Ny358.out] at ho10))
     replace HO366 := Aside0.mk (Kd.R_below (rk HO366.out) hb)
     have HO360 := Aside0.mk (Kd.R_lower ho10 (below_size (bl HB.out)))
     replace BK356 := Aside0.mk (bb BK356.out hb)
     replace BK357 := Aside0.mk (bb BK357.out hb)
     replace HB := Aside0.mk (below_step (bl HB.out) hb)
     clear hb ho10
     refine hK.out _ _ ⟨(blk_cell BK356.out 0).trans rfl, (blk_cell BK356.out 1).trans rfl, (blk_cell BK356.out 2).trans rfl⟩ (fun hHeld => ?_)
     clear hK K
     refine norm_ (a' := ?_) ?_ ?_
     rotate_left
     ·show Act.put _ (some 5) _ = _
      simp only [Act.put, List.setIfInBounds_toArray, List.set_cons_zero, List.set_cons_succ, i64_w, i32_w]
      rfl
     refine onA (i := 5) (N := some 8) HT_.out (fun K hK => ?_)
     refine Kd.R_append_rows_step (Kd.int .i64) (w0 := w) w.heap.size (by rfl) (.tmp 5) (.tmp 7) 22 3 (.int .i64 0) 8 rfl Try.underlying22 info3 rfl (by decide) (by omega) v359 y358 l0_1 _ _ _ (fun _ => True) (fun _ => False) rfl rfl ?aO ?aR (fun _ _ h => h) (fun _ h => h.elim) ?aF ?aB ?aS ?aL ?_
     (case aR => exact cb (Kd.C_below HR0_1.out HB.out))
     (case aB => exact (bl HB.out))
     (case aF => exact (fun _ _ => trivial))
     (case aO => exact (rk HO360.out))
     (case aS => exact (below_size (bl HB.out)))
     (case aL => have := LMc2.out; omega)
     intro v362 w11 ho hb hg hat
     rw [← Ny361.out] at ho
     replace BK356 := Aside0.mk (blk_grown (g := gb356) (o := .cells #[.int .i64 a0_0, .slice A0_1 l0_1.length c0_1, .slice A0_2 l0_2.length c0_2] 30 (0, 0)) (bk BK356.out) hg (Kd.R_ne HO360.out BK356.out (by decide)))
     replace BK357 := Aside0.mk (blk_grown (g := gb357) (o := .cells #[.int .i64 0, .slice none 0 0, .slice none 0 0] 30 (0, 0)) (bk BK357.out) hg (Kd.R_ne HO360.out BK357.out (by decide)))
     replace HO366 := Aside0.mk (Kd.R_over' (rk HO366.out) (Kd.R_typed (rk HO360.out)) (by decide) hg)
     replace HB := Aside0.mk (hb)
     have HO363 := Aside0.mk (ho)
     clear HO360
     clear ho hb hg hat
     refine hK.out _ _ ⟨(blk_cell BK356.out 0).trans rfl, (blk_cell BK356.out 1).trans rfl, (blk_cell BK356.out 2).trans rfl⟩ (fun hHeld => ?_)
     clear hK K
     refine norm_ (a' := ?_) ?_ ?_
     rotate_left
     ·show Act.put _ (some 8) _ = _
      simp only [Act.put, List.setIfInBounds_toArray, List.set_cons_zero, List.set_cons_succ, i64_w, i32_w]
      rfl
     exact norm_ (by simp only [putAll, Act.put, List.setIfInBounds_toArray, List.set_cons_zero, List.set_cons_succ]) (hCont (v359, v362, v365) _ ⟨hHeld, (rk HO363.out), (rk HO366.out), (bk BK356.out), (bk BK357.out), (bl HB.out)⟩)
   rintro ⟨v359, v362, v365⟩ w12 ⟨hS_, h0_, h1_, h2_, h3_, h4_⟩
   have n0_ : Aside0 (Kd.R (Kd.int .i64) 3 w12 w.heap.size (fun _ => True) v362 y361) := ⟨h0_⟩
   have n1_ : Aside0 (Kd.R k71 71 w12 w.heap.size (fun _ => True) v365 y364) := ⟨h1_⟩
   have n2_ : Aside0 (w12.heap[gb356]? = some (.cells #[.int .i64 a0_0, .slice A0_1 l0_1.length c0_1, .slice A0_2 l0_2.length c0_2] 30 (0, 0))) := ⟨h2_⟩
   have n3_ : Aside0 (w12.heap[gb357]? = some (.cells #[.int .i64 0, .slice none 0 0, .slice none 0 0] 30 (0, 0))) := ⟨h3_⟩
   have n4_ : Aside0 (Below w.heap.size w w12) := ⟨h4_⟩
   clear BK356
   clear BK357
   clear HB
   clear h0_ h1_ h2_ h3_ h4_
   have HO363 := n0_
   have HO366 := n1_
   have BK356 := n2_
   have BK357 := n3_
   have HB := n4_
   clear n0_ n1_ n2_ n3_ n4_
   have hHeld : w12.cell? ⟨gb356, 0, none⟩ = some (.int .i64 a0_0) ∧ w12.cell? ⟨gb356, 1, none⟩ = some (.slice A0_1 l0_1.length c0_1) ∧ w12.cell? ⟨gb356, 2, none⟩ = some (.slice A0_2 l0_2.length c0_2) := hS_
   refine norm_ (a' := ?_) ?_ ?_
   rotate_left
   ·simp only [putAll, Act.put, List.setIfInBounds_toArray, List.set_cons_zero, List.set_cons_succ]
    rfl
   refine onA (i := 9) (N := some 12) HT_.out (fun K hK => ?_)
   refine Kd.R_append_rows_step k71 (w0 := w) w.heap.size (by rfl) (.tmp 9) (.tmp 11) 28 71 (.agg #[(.int .i64 0), (.int .i64 0), (.int .i64 0), (.bool false)]) 32 rfl Try.underlying28 info71 rfl (by decide) (by omega) v365 y364 l0_2 _ _ _ (fun _ => True) (fun _ => False) rfl rfl ?aO ?aR (fun _ _ h => h) (fun _ h => h.elim) ?aF ?aB ?aS ?aL ?_
   (case aR => exact cb (Kd.C_below HR0_2.out HB.out))
   (case aB => exact (bl HB.out))
   (case aF => exact (fun _ _ => trivial))
   (case aO => exact (rk HO366.out))
   (case aS => exact (below_size (bl HB.out)))
   (case aL => have := LMc3.out; omega)
   intro v368 w13 ho hb hg hat
   rw [← Ny367.out] at ho
   replace BK356 := Aside0.mk (blk_grown (g := gb356) (o := .cells #[.int .i64 a0_0, .slice A0_1 l0_1.length c0_1, .slice A0_2 l0_2.length c0_2] 30 (0, 0)) (bk BK356.out) hg (Kd.R_ne HO366.out BK356.out (by decide)))
   replace BK357 := Aside0.mk (blk_grown (g := gb357) (o := .cells #[.int .i64 0, .slice none 0 0, .slice none 0 0] 30 (0, 0)) (bk BK357.out) hg (Kd.R_ne HO366.out BK357.out (by decide)))
   replace HO363 := Aside0.mk (Kd.R_over' (rk HO363.out) (Kd.R_typed (rk HO366.out)) (by decide) hg)
   replace HB := Aside0.mk (hb)
   have HO369 := Aside0.mk (ho)
   clear HO366
   clear ho hb hg hat
   obtain ⟨Ao14, co14, eo14⟩ := Kd.R_slice HO369.out
   (first | subst eo14 | (injection eo14 with f1_ f2_ f3_; have f4_ := f1_.symm; have f5_ := f3_.symm; clear f1_ f2_ f3_; subst f4_; subst f5_))
   obtain ⟨Ao15, co15, eo15⟩ := Kd.R_slice HO363.out
   (first | subst eo15 | (injection eo15 with f1_ f2_ f3_; have f4_ := f1_.symm; have f5_ := f3_.symm; clear f1_ f2_ f3_; subst f4_; subst f5_))
   refine hK.out _ _ ⟨(blk_cell BK356.out 0).trans rfl, (blk_cell BK356.out 1).trans rfl, (blk_cell BK356.out 2).trans rfl⟩ (fun hHeld => ?_)
   clear hK K
   refine norm_ (a' := ?_) ?_ ?_
   rotate_left
   ·show Act.put _ (some 12) _ = _
    simp only [Act.put, List.setIfInBounds_toArray, List.set_cons_zero, List.set_cons_succ, i64_w, i32_w]
    rfl
   refine puA (i := 10) (N := some 13) HT_.out ?_
   refine onA (i := 11) (N := none) HT_.out (fun K hK => ?_)
   have hs16 : w13.cell? ⟨gb357, 0, none⟩ = some (.int .i64 0) := (blk_cell BK357.out 0).trans rfl
   have hfs16 := blk_frozen BK357.out 0
   have hns16_0 := NB356_357.out
   have hms16_0 := NB357_356.out
   have hs17 : w13.cell? ⟨gb357, 1, none⟩ = some (.slice none 0 0) := (blk_cell BK357.out 1).trans rfl
   have hfs17 := blk_frozen BK357.out 1
   have hns17_0 := NB356_357.out
   have hms17_0 := NB357_356.out
   have hs18 : w13.cell? ⟨gb357, 2, none⟩ = some (.slice none 0 0) := (blk_cell BK357.out 2).trans rfl
   have hfs18 := blk_frozen BK357.out 2
   have hns18_0 := NB356_357.out
   have hms18_0 := NB357_356.out
   refine skip_ (w1 := ?_) (by rfl) rfl ?_ ?_
   rotate_left
   ·go_simp
    rfl
   refine hK.out _ _ ⟨((cell_far (p := ⟨gb357, _, none⟩) NB356_357.out _).trans (((cell_far (p := ⟨gb357, _, none⟩) NB356_357.out _).trans (((cell_far (p := ⟨gb357, _, none⟩) NB356_357.out _).trans (hHeld.1)))))), ((cell_far (p := ⟨gb357, _, none⟩) NB356_357.out _).trans (((cell_far (p := ⟨gb357, _, none⟩) NB356_357.out _).trans (((cell_far (p := ⟨gb357, _, none⟩) NB356_357.out _).trans (hHeld.2.1)))))), ((cell_far (p := ⟨gb357, _, none⟩) NB356_357.out _).trans (((cell_far (p := ⟨gb357, _, none⟩) NB356_357.out _).trans (((cell_far (p := ⟨gb357, _, none⟩) NB356_357.out _).trans (hHeld.2.2))))))⟩ (fun hHeld => ?_)
   clear hK K
   refine done_ (done_of HT_.out (by kernel_rfl)) ?_
   try go_wp2
   refine bodyPost_ret (results_cell_row rfl _ _ gb357 30 #[.int .i64 a0_0, .slice Ao15 y361.length co15, .slice Ao14 y367.length co14] (0, 0) _ rfl (by refine bk ?_; refine blk_put (cs := #[.int .i64 a0_0, .slice Ao15 y361.length co15, .slice none 0 0]) ?_ 2 _ rfl; refine bk ?_; refine blk_put (cs := #[.int .i64 a0_0, .slice none 0 0, .slice none 0 0]) ?_ 1 _ rfl; refine bk ?_; refine blk_put (cs := #[.int .i64 0, .slice none 0 0, .slice none 0 0]) ?_ 0 _ rfl; refine bk ?_; exact BK357.out) Try.underlying30 rfl (by kernel_rfl)) rfl ?_
   exact ⟨_, _, by first | rfl | (simp [errW_none, errW_some] <;> rfl) | (simp [*, errW_none, errW_some] <;> rfl), by refine rk ?_; exact Kd.R_mono (Kd.R_far (p := ⟨gb357, 2, none⟩) (Kd.R_far (p := ⟨gb357, 1, none⟩) (Kd.R_far (p := ⟨gb357, 0, none⟩) (Kd.R_types HO363.out BK357.out (by decide)) (fun _ hk => hk.2) (.int .i64 a0_0)) (fun _ hk => hk.2) (.slice Ao15 y361.length co15)) (fun _ hk => hk.2) (.slice Ao14 y367.length co14)) (fun _ hk => trivial), by refine rk ?_; exact Kd.R_mono (Kd.R_far (p := ⟨gb357, 2, none⟩) (Kd.R_far (p := ⟨gb357, 1, none⟩) (Kd.R_far (p := ⟨gb357, 0, none⟩) (Kd.R_types HO369.out BK357.out (by decide)) (fun _ hk => hk.2) (.int .i64 a0_0)) (fun _ hk => hk.2) (.slice Ao15 y361.length co15)) (fun _ hk => hk.2) (.slice Ao14 y367.length co14)) (fun _ hk => trivial), bl HB.out⟩
  ·rw [if_neg c3] at H
   exact absurd H (by simp)
 ·rw [if_neg c2] at H
  exact absurd H (by simp)
end Go.Proofs.Ytghfeapncmlihaa.A
