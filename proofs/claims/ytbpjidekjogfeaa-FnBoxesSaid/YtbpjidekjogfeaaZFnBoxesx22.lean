/- Used by the law FnBoxes. -/
import Derived.Test.YtbpjidekjogfeaaZFnBoxesx16
import Derived.Test.YtbpjidekjogfeaaZFnBoxesx19
import Derived.Test.YtbpjidekjogfeaaZFnBoxesx20
import Derived.Test.YtbpjidekjogfeaaZFnBoxesh
namespace Go.Proofs.Ytbpjidekjogfeaa.A
open Go.RowKit Go.Proofs.YtbpjidekjogfeaaW.PrintWords Go.Proofs.YtbpjidekjogfeaaW.PrintLast Go.Proofs.YtbpjidekjogfeaaW.PrintMore
attribute [local go_sem] max2_int min2_int max_two min_two max_three min_three max_four min_four   
set_option linter.unusedVariables false
set_option linter.unusedSimpArgs false
mutual
def impl_runsOf.l0 : Nat → List (S113) → Bool → List (S98) → Int → Int → Int → List Int → List (S98) → Option ((List (S113)))
 | 0, _, _, _, _, _, _, _, _ => none
 | k + 1, x3, x4, x9, x10, x11, x209000, x209001, x209002 => if x11 < x10 then (if 0 ≤ x11 then (if x11 < (x9.length : Int) then (if ((rd_T98 x9 x11).f2) = 0 then (impl_runsOf.j1 k x3 x4 x11 x9 x10 x11 ((rd_T98 x9 x11).f3) x209000 x209001 x209002 ((rd_T98 x9 x11).f0) ((rd_T98 x9 x11).f1) ((rd_T98 x9 x11).f2) ((rd_T98 x9 x11).f3)) else (impl_runsOf.j1 k x3 x4 x11 x9 x10 x11 true x209000 x209001 x209002 ((rd_T98 x9 x11).f0) ((rd_T98 x9 x11).f1) ((rd_T98 x9 x11).f2) ((rd_T98 x9 x11).f3))) else (none)) else (none)) else (some x3)
def impl_runsOf.j1 : Nat → List (S113) → Bool → Int → List (S98) → Int → Int → Bool → Int → List Int → List (S98) → Int → Int → Int → Bool → Option ((List (S113)))
 | 0, _, _, _, _, _, _, _, _, _, _, _, _, _, _ => none
 | k + 1, x3, x4, x5, x9, x10, x11, x22, x209000, x209001, x209002, x211000, x211001, x211002, x211003 => if x22 = true then (impl_runsOf.l0 k x3 false x9 x10 (wrap64 (x11 + 1)) x209000 x209001 x209002) else (if x4 = true then ((slices_Contains_int_int.f k x209001 x211000).bind fun t211 => (if t211 = true then (if x3.length < 3518437208883 then (impl_runsOf.l0 k (x3 ++ [(⟨(⟨0, x211000, x211001⟩ : S50), x5, wrap64 (x5 + 1)⟩ : S113)]) true x9 x10 (wrap64 (x11 + 1)) x209000 x209001 x209002) else (none)) else (if 0 ≤ (wrap64 ((x3.length : Int) - 1)) then (if (wrap64 ((x3.length : Int) - 1)) < (x3.length : Int) then ((some (x3.set ((wrap64 ((x3.length : Int) - 1)) : Int).toNat (⟨(⟨(rd_T113 x3 (wrap64 ((x3.length : Int) - 1))).f0.f0, (rd_T113 x3 (wrap64 ((x3.length : Int) - 1))).f0.f1, wrap64 (((rd_T113 x3 (wrap64 ((x3.length : Int) - 1))).f0.f2) + x211001)⟩ : S50), (rd_T113 x3 (wrap64 ((x3.length : Int) - 1))).f1, (rd_T113 x3 (wrap64 ((x3.length : Int) - 1))).f2⟩ : S113) : List (S113))).bind fun y216 => (impl_runsOf.l0 k (y216.set ((wrap64 ((x3.length : Int) - 1)) : Int).toNat (⟨(⟨(rd_T113 y216 (wrap64 ((x3.length : Int) - 1))).f0.f0, (rd_T113 y216 (wrap64 ((x3.length : Int) - 1))).f0.f1, (rd_T113 y216 (wrap64 ((x3.length : Int) - 1))).f0.f2⟩ : S50), (rd_T113 y216 (wrap64 ((x3.length : Int) - 1))).f1, wrap64 (((rd_T113 y216 (wrap64 ((x3.length : Int) - 1))).f2) + 1)⟩ : S113)) true x9 x10 (wrap64 (x11 + 1)) x209000 x209001 x209002)) else (none)) else (none)))) else (if x3.length < 3518437208883 then (impl_runsOf.l0 k (x3 ++ [(⟨(⟨0, x211000, x211001⟩ : S50), x5, wrap64 (x5 + 1)⟩ : S113)]) true x9 x10 (wrap64 (x11 + 1)) x209000 x209001 x209002) else (none)))
end
def impl_runsOf.f (k : Nat) (a0_0 : Int) (l0_1 : List Int) (l0_2 : List (S98)) : Option ((List (S113))) := impl_runsOf.l0 k ([] : List (S113)) false l0_2 (l0_2.length : Int) 0 a0_0 l0_1 l0_2
def impl_runsOf.T10 : Bool × List (List Nat × List Nat) := (true, [([], []), ([0], [0]), ([1], [1]), ([2], [2]), ([3], [3]), ([], []), ([5], [5]), ([4, 6], [4, 6]), ([0, 0, 1, 2, 3, 4, 5, 6, 7], [0]), ([8, 0, 1, 2, 3, 4, 5, 6, 7], [8]), ([9, 0, 1, 2, 3, 4, 5, 6, 7], [9]), ([10, 7, 0, 1, 2, 3, 4, 5, 6, 7], [7, 10])])
def impl_runsOf.B10 : List Nat := [0, 1, 3, 7, 15, 0, 32, 127, 255, 511, 1023, 2047]
theorem impl_runsOf.tab10 : rtab .any (opsOf Try.f109 10) = impl_runsOf.T10 := by kernel_rfl
theorem impl_runsOf.bits10 : waitsOk impl_runsOf.T10.2 impl_runsOf.B10 = true := by kernel_rfl
set_option maxHeartbeats 8000000 in
set_option maxRecDepth 100000 in
theorem impl_runsOf.calls (k : Nat) (a0_0 : Int) (A0_1 : Option Addr) (c0_1 : Nat) (l0_1 : List Int) (A0_2 : Option Addr) (c0_2 : Nat) (l0_2 : List (S98)) (r : List (S113)) (w : World) (hr0_1 : Kd.C (Kd.int .i64) w A0_1 l0_1.length l0_1) (hc0_1 : l0_1.length ≤ c0_1) (hr0_2 : Kd.C k98 w A0_2 l0_2.length l0_2) (hc0_2 : l0_2.length ≤ c0_2) (h : impl_runsOf.f k a0_0 l0_1 l0_2 = some r) :
  Calls Try.prog 109 #[.agg #[.int .i64 a0_0, .slice A0_1 l0_1.length c0_1, .slice A0_2 l0_2.length c0_2]] w fun e w' => ∃ v0_ : Value, e = .returned (v0_) ∧ Kd.R k113 113 w' w.heap.size (fun _ => True) v0_ r ∧ Below w.heap.size w w' := by
 have hu41 := Try.underlying41
 have hu98 := Try.underlying98
 have hu50 := Try.underlying50
 have hu113 := Try.underlying113
 have HR0_1 := Aside0.mk hr0_1
 have HC0_1 := Aside0.mk hc0_1
 clear hr0_1 hc0_1
 have HR0_2 := Aside0.mk hr0_2
 have HC0_2 := Aside0.mk hc0_2
 clear hr0_2 hc0_2
 have HB := Aside0.mk (Below.refl w.heap.size w)
 have H : (impl_runsOf.l0 k ([] : List (S113)) false l0_2 (l0_2.length : Int) 0 a0_0 l0_1 l0_2) = some r := h
 clear h
 have H' := Aside0.mk H
 clear H
 go_enter Try.func109, Try.ntmps109
 go_wp2_with (first | ((with_reducible refine gate_dst (N := 1) rfl ?_); refine bx (cs := #[.int .i64 a0_0, .slice A0_1 l0_1.length c0_1, .slice A0_2 l0_2.length c0_2]) (t := 41) fun gb208 hg w2 hbox hb => ?_; have BK208 := Aside0.mk (hbox); have GW208 := Aside0.mk (gs HB.out hg); have GE208 := Aside0.mk (gs HB.out hg); replace HB := Aside0.mk (below_step (bl HB.out) hb); clear hb hbox hg; obtain ⟨hcz3_0, hcz3_1, hcz3_2, hfz3_0, hfz3_1, hfz3_2⟩ := cz3 BK208.out))
 go_loopg [3, 4, 11] k (fun kq v3 v4 v11 w' => ∃ (x3_1 : List (S113)) (x4_1 : Bool) (x11_1 : Int), v4 = .bool x4_1 ∧ v11 = .int .i64 x11_1 ∧ Aside0 (impl_runsOf.l0 kq x3_1 x4_1 l0_2 (l0_2.length : Int) x11_1 a0_0 l0_1 l0_2 = some r) ∧ Aside0 (kq ≤ k) ∧ Aside0 (Kd.R k113 113 w' w.heap.size (fun _ => True) v3 x3_1) ∧ Aside0 (w'.heap[gb208]? = some (.cells #[.int .i64 a0_0, (.slice A0_1 l0_1.length c0_1), (.slice A0_2 l0_2.length c0_2)] 41 (0, 0))) ∧ Aside0 (Below w.heap.size w w'))
 case atStart => exact ⟨(([] : List (S113))), (false), (0), (by first | rfl | (simp; done) | (simp [*]; done)), (by first | rfl | (simp; done) | (simp [*]; done)), H', ⟨Nat.le_refl _⟩, ⟨by first | exact Kd.R_nil _ _ _ _ _ | exact Kd.N_nil _ _ _ _ _ | exact Kd.V_nil _ _ _ _ _ | exact Kd.Q_nil _ _ _ _ _ | exact Kd.S_nil _ _ _ _ _⟩, ⟨by refine bk ?_; exact BK208.out⟩, ⟨bl HB.out⟩⟩
 case round =>
  clear H'
  try clear c1
  try clear p2
  try clear hcz3_0
  try clear hcz3_1
  try clear hcz3_2
  try clear hfz3_0
  try clear hfz3_1
  try clear hfz3_2
  obtain ⟨x3_1, x4_1, x11_1, rfl, rfl, HA, HK1, HO_3, BK208, HB⟩ := hrel
  cases gk with
  | zero => exact absurd HA.out (by simp [impl_runsOf.l0])
  | succ k1 =>
   have H := HA.out
   clear HA
   simp only [impl_runsOf.l0] at H
   by_cases c4 : x11_1 < (l0_2.length : Int)
   ·rw [if_pos c4] at H
    have c4b0 : decide (x11_1 < (l0_2.length : Int)) = true := decide_eq_true c4
    clear c4
    by_cases c5 : 0 ≤ x11_1
    ·rw [if_pos c5] at H
     have c5b0 : decide (0 ≤ x11_1) = true := decide_eq_true c5
     clear c5
     by_cases c6 : x11_1 < (l0_2.length : Int)
     ·rw [if_pos c6] at H
      have c6b0 : decide (x11_1 < (l0_2.length : Int)) = true := decide_eq_true c6
      clear c6
      have HC7 := Aside0.mk H
      clear H
      have p209 : 0 ≤ (x11_1 : Int) := of_decide_eq_true asm
      have q209 : x11_1 < (l0_2.length : Int) := of_decide_eq_true asm
      obtain ⟨ad209, e209, hx209_0, hx209_1, hx209_2, hx209_3⟩ := at_T98 HR0_2.out x11_1 p209 q209
      cases e209
      replace hx209_0 := (HB.out.cell (World.block_lt_of_cell? w _ hx209_0)).trans hx209_0
      replace hx209_1 := (HB.out.cell (World.block_lt_of_cell? w _ hx209_1)).trans hx209_1
      replace hx209_2 := (HB.out.cell (World.block_lt_of_cell? w _ hx209_2)).trans hx209_2
      replace hx209_3 := (HB.out.cell (World.block_lt_of_cell? w _ hx209_3)).trans hx209_3
      replace p209 := eq_true p209
      replace q209 := eq_true q209
      go_upto_region 6 with (first | ((with_reducible refine gate_dst (N := 6) rfl ?_); refine bx (cs := #[.int .i64 0, .int .i64 0, .int .i64 0, .bool false]) (t := 98) fun gb210 hg w8 hbox hb => ?_; replace HO_3 := Aside0.mk (Kd.R_below (rk HO_3.out) hb); have BK210 := Aside0.mk (hbox); have GW210 := Aside0.mk (gs HB.out hg); have GE210 := Aside0.mk (gs HB.out hg); replace HB := Aside0.mk (below_step (bl HB.out) hb); have NB208_210 := Aside0.mk ((nl BK208.out hg)); have NB210_208 := Aside0.mk ((ng BK208.out hg)); replace BK208 := Aside0.mk (bb BK208.out hb); clear hb hbox hg; have hnb9 := NB210_208.out; have hnc9 := NB208_210.out; obtain ⟨hcz10_0, hcz10_1, hcz10_2, hcz10_3, hfz10_0, hfz10_1, hfz10_2, hfz10_3⟩ := cz4 BK210.out))
      (try simp only [Act.put, List.setIfInBounds_toArray, List.set_cons_zero, List.set_cons_succ])
      go_cut [22] (fun v22 wc => ∃ (kq : Nat) (x22_6 : Bool), v22 = .bool x22_6 ∧ Aside0 (impl_runsOf.j1 kq x3_1 x4_1 x11_1 l0_2 (l0_2.length : Int) x11_1 x22_6 a0_0 l0_1 l0_2 ((rd_T98 l0_2 x11_1).f0) ((rd_T98 l0_2 x11_1).f1) ((rd_T98 l0_2 x11_1).f2) ((rd_T98 l0_2 x11_1).f3) = some r) ∧ Aside0 (kq ≤ k1) ∧ Aside0 (Kd.R k113 113 wc w.heap.size (fun _ => True) u3 x3_1) ∧ Aside0 (wc.heap[gb208]? = some (.cells #[.int .i64 a0_0, (.slice A0_1 l0_1.length c0_1), (.slice (some ad209) l0_2.length c0_2)] 41 (0, 0))) ∧ Aside0 (wc.heap[gb210]? = some (.cells #[.int .i64 ((rd_T98 l0_2 x11_1).f0), .int .i64 ((rd_T98 l0_2 x11_1).f1), .int .i64 ((rd_T98 l0_2 x11_1).f2), .bool ((rd_T98 l0_2 x11_1).f3)] 98 (0, 0))) ∧ Aside0 (Below w.heap.size w wc))
      case first =>
       have H := HC7.out
       clear HC7
       by_cases c11 : ((rd_T98 l0_2 x11_1).f2) = 0
       ·rw [if_pos c11] at H
        have c11b0 : (((rd_T98 l0_2 x11_1).f2) == 0) = true := beq_iff_eq.mpr c11
        have c11b1 : (((rd_T98 l0_2 x11_1).f2) != 0) = false := bne_eq_false_iff_eq.mpr c11
        clear c11
        (first | rw [c11b0] | (simp only [i64_w, i32_w]; rw [c11b0]) | skip)
        have H' := Aside0.mk H
        clear H
        have hnb12 := NB210_208.out
        have hnc12 := NB208_210.out
        obtain ⟨hcz13_0, hcz13_1, hcz13_2, hcz13_3, hfz13_0, hfz13_1, hfz13_2, hfz13_3⟩ := cz4 BK210.out
        go_wp2
        go_meet
        case rel => exact ⟨_, ((rd_T98 l0_2 x11_1).f3), (by first | rfl | (simp; done) | (simp [*]; done)), H', ⟨by have := HK1.out; first | omega | exact Nat.le_refl _⟩, ⟨by refine rk ?_; exact Kd.R_mono (Kd.R_far (p := ⟨gb210, 3, none⟩) (Kd.R_far (p := ⟨gb210, 2, none⟩) (Kd.R_far (p := ⟨gb210, 1, none⟩) (Kd.R_far (p := ⟨gb210, 0, none⟩) (Kd.R_types HO_3.out BK210.out (by decide)) (fun _ hk => hk.2) (.int .i64 ((rd_T98 l0_2 x11_1).f0))) (fun _ hk => hk.2) (.int .i64 ((rd_T98 l0_2 x11_1).f1))) (fun _ hk => hk.2) (.int .i64 ((rd_T98 l0_2 x11_1).f2))) (fun _ hk => hk.2) (.bool ((rd_T98 l0_2 x11_1).f3))) (fun _ hk => trivial)⟩, ⟨by refine bk ?_; refine blk_far ?_ NB208_210.out _; refine bk ?_; refine blk_far ?_ NB208_210.out _; refine bk ?_; refine blk_far ?_ NB208_210.out _; refine bk ?_; refine blk_far ?_ NB208_210.out _; refine bk ?_; exact BK208.out⟩, ⟨by refine bk ?_; refine blk_put (cs := #[.int .i64 ((rd_T98 l0_2 x11_1).f0), .int .i64 ((rd_T98 l0_2 x11_1).f1), .int .i64 ((rd_T98 l0_2 x11_1).f2), .bool false]) ?_ 3 _ rfl; refine bk ?_; refine blk_put (cs := #[.int .i64 ((rd_T98 l0_2 x11_1).f0), .int .i64 ((rd_T98 l0_2 x11_1).f1), .int .i64 0, .bool false]) ?_ 2 _ rfl; refine bk ?_; refine blk_put (cs := #[.int .i64 ((rd_T98 l0_2 x11_1).f0), .int .i64 0, .int .i64 0, .bool false]) ?_ 1 _ rfl; refine bk ?_; refine blk_put (cs := #[.int .i64 0, .int .i64 0, .int .i64 0, .bool false]) ?_ 0 _ rfl; refine bk ?_; exact BK210.out⟩, ⟨bl HB.out⟩⟩
       ·rw [if_neg c11] at H
        have c11b0 : (((rd_T98 l0_2 x11_1).f2) == 0) = false := beq_eq_false_iff_ne.mpr c11
        have c11b1 : (((rd_T98 l0_2 x11_1).f2) != 0) = true := bne_iff_ne.mpr c11
        (first | rw [c11b0] | (simp only [i64_w, i32_w]; rw [c11b0]) | skip)
        have H' := Aside0.mk H
        clear H
        have hnb14 := NB210_208.out
        have hnc14 := NB208_210.out
        obtain ⟨hcz15_0, hcz15_1, hcz15_2, hcz15_3, hfz15_0, hfz15_1, hfz15_2, hfz15_3⟩ := cz4 BK210.out
        go_wp2
        go_meet
        case rel => exact ⟨_, (true), (by first | rfl | (simp; done) | (simp [*]; done)), H', ⟨by have := HK1.out; first | omega | exact Nat.le_refl _⟩, ⟨by refine rk ?_; exact Kd.R_mono (Kd.R_far (p := ⟨gb210, 3, none⟩) (Kd.R_far (p := ⟨gb210, 2, none⟩) (Kd.R_far (p := ⟨gb210, 1, none⟩) (Kd.R_far (p := ⟨gb210, 0, none⟩) (Kd.R_types HO_3.out BK210.out (by decide)) (fun _ hk => hk.2) (.int .i64 ((rd_T98 l0_2 x11_1).f0))) (fun _ hk => hk.2) (.int .i64 ((rd_T98 l0_2 x11_1).f1))) (fun _ hk => hk.2) (.int .i64 ((rd_T98 l0_2 x11_1).f2))) (fun _ hk => hk.2) (.bool ((rd_T98 l0_2 x11_1).f3))) (fun _ hk => trivial)⟩, ⟨by refine bk ?_; refine blk_far ?_ NB208_210.out _; refine bk ?_; refine blk_far ?_ NB208_210.out _; refine bk ?_; refine blk_far ?_ NB208_210.out _; refine bk ?_; refine blk_far ?_ NB208_210.out _; refine bk ?_; exact BK208.out⟩, ⟨by refine bk ?_; refine blk_put (cs := #[.int .i64 ((rd_T98 l0_2 x11_1).f0), .int .i64 ((rd_T98 l0_2 x11_1).f1), .int .i64 ((rd_T98 l0_2 x11_1).f2), .bool false]) ?_ 3 _ rfl; refine bk ?_; refine blk_put (cs := #[.int .i64 ((rd_T98 l0_2 x11_1).f0), .int .i64 ((rd_T98 l0_2 x11_1).f1), .int .i64 0, .bool false]) ?_ 2 _ rfl; refine bk ?_; refine blk_put (cs := #[.int .i64 ((rd_T98 l0_2 x11_1).f0), .int .i64 0, .int .i64 0, .bool false]) ?_ 1 _ rfl; refine bk ?_; refine blk_put (cs := #[.int .i64 0, .int .i64 0, .int .i64 0, .bool false]) ?_ 0 _ rfl; refine bk ?_; exact BK210.out⟩, ⟨bl HB.out⟩⟩
      case rest =>
       clear HC7
       try clear c1
       try clear p2
       try clear q2
       try clear hx2
       try clear c4
       try clear c4b0
       try clear c5
       try clear c5b0
       try clear c6
       try clear c6b0
       try clear c9
       try clear c10
       try clear c11
       try clear c11b0
       try clear c11b1
       try clear c12
       try clear c14
       try clear hcz10_0
       try clear hcz10_1
       try clear hcz10_2
       try clear hcz10_3
       try clear hcz13_0
       try clear hcz13_1
       try clear hcz13_2
       try clear hcz13_3
       try clear hcz15_0
       try clear hcz15_1
       try clear hcz15_2
       try clear hcz15_3
       try clear hcz3_0
       try clear hcz3_1
       try clear hcz3_2
       try clear hfz10_0
       try clear hfz10_1
       try clear hfz10_2
       try clear hfz10_3
       try clear hfz13_0
       try clear hfz13_1
       try clear hfz13_2
       try clear hfz13_3
       try clear hfz15_0
       try clear hfz15_1
       try clear hfz15_2
       try clear hfz15_3
       try clear hfz3_0
       try clear hfz3_1
       try clear hfz3_2
       try clear hx209_0
       try clear hx209_1
       try clear hx209_2
       try clear hx209_3
       try clear p2
       try clear p209
       try clear q209
       obtain ⟨kq, x22_6, rfl, HA, HJ6, HO_3, BK208, BK210, HB⟩ := hcut
       cases kq with
       | zero => exact absurd HA.out (by simp [impl_runsOf.j1])
       | succ kj6 =>
        have H := HA.out
        clear HA
        simp only [impl_runsOf.j1] at H
        by_cases c16 : x22_6 = true
        ·subst c16
         rw [if_pos rfl] at H
         have H' := Aside0.mk H
         clear H
         go_wp2
         go_roundg kj6
         case measure => have := HK1.out; have := HJ6.out; omega
         case rel => exact ⟨(x3_1), (false), (wrap64 (x11_1 + 1)), (by first | rfl | (simp; done) | (simp [*]; done)), (by first | rfl | (simp; done) | (simp [*]; done)), H', ⟨by have := HK1.out; have := HJ6.out; omega⟩, ⟨rk HO_3.out⟩, ⟨by refine bk ?_; exact BK208.out⟩, ⟨bl HB.out⟩⟩
        ·replace c16 := Bool.eq_false_iff.mpr c16
         subst c16
         rw [if_neg (show ¬ (false = true) by decide)] at H
         by_cases c17 : x4_1 = true
         ·subst c17
          rw [if_pos rfl] at H
          replace H := Option.bind_eq_some_iff.mp H
          obtain ⟨t211, A180, H⟩ := H
          try dsimp only at H
          have A18 := Aside0.mk A180
          clear A180
          by_cases c19 : t211 = true
          ·subst c19
           rw [if_pos rfl] at H
           by_cases c20 : x3_1.length < 3518437208883
           ·rw [if_pos c20] at H
            have LMc20 := Aside0.mk c20
            clear c20
            obtain ⟨y212, hy212⟩ : ∃ y_ : List (S113), y_ = (x3_1 ++ [(⟨(⟨0, ((rd_T98 l0_2 x11_1).f0), ((rd_T98 l0_2 x11_1).f1)⟩ : S50), x11_1, wrap64 (x11_1 + 1)⟩ : S113)]) := ⟨_, rfl⟩
            replace H : (impl_runsOf.l0 kj6 y212 true l0_2 (l0_2.length : Int) (wrap64 (x11_1 + 1)) a0_0 l0_1 l0_2) = some r := by first | (rw [hy212]; with_reducible exact H) | (have H2_ := (Option.bind_some _ _).symm.trans H; rw [hy212]; with_reducible exact H2_) | (have H2_ := (Option.bind_some _ _).symm.trans H; with_reducible exact H2_) | with_reducible exact H | (rw [hy212]; exact H) | exact H
            have Ny212 := Aside0.mk hy212
            clear hy212
            have H' := Aside0.mk H
            clear H
            have hnb21 := NB208_210.out
            have hnc21 := NB210_208.out
            obtain ⟨hcz22_0, hcz22_1, hcz22_2, hfz22_0, hfz22_1, hfz22_2⟩ := cz3 BK208.out
            obtain ⟨hcz23_0, hcz23_1, hcz23_2, hcz23_3, hfz23_0, hfz23_1, hfz23_2, hfz23_3⟩ := cz4 BK210.out
            go_wp2_with (first | (go_at_call 124; (with_reducible refine (slices_Contains_int_int.calls kj6 _ _ l0_1 ((rd_T98 l0_2 x11_1).f0) true _ ?side1 ?side2 A18.out).mono ?_); (case side1 => exact cb (Kd.C_below HR0_1.out HB.out)); (case side2 => exact HC0_1.out); rintro e w' ⟨rfl, ⟨nd, rfl⟩⟩) | ((with_reducible refine gate_builtin (b := .append) (xs := #[.tmp 55, .tmp 65]) rfl ?_); at_builtin; refine Kd.R_append k113 (w0 := w) w.heap.size rfl (.tmp 55) (.tmp 65) 110 113 (.agg #[(.int .i64 0), (.int .i64 0), (.int .i64 0), (.int .i64 0), (.int .i64 0)]) 40 rfl Try.underlying110 info113 rfl (by decide) (by omega) u3 x3_1 (⟨(⟨0, ((rd_T98 l0_2 x11_1).f0), ((rd_T98 l0_2 x11_1).f1)⟩ : S50), x11_1, wrap64 (x11_1 + 1)⟩ : S113) [.int .i64 0, .int .i64 ((rd_T98 l0_2 x11_1).f0), .int .i64 ((rd_T98 l0_2 x11_1).f1), .int .i64 x11_1, .int .i64 (wrap64 (x11_1 + 1))] (fun _ => True) (fun _ => False) rfl rfl ?aP (fun _ hk => hk.elim) ?aF ?aO ?aB ?aS ?aL ?_; (case aP => exact k113_mkM _ _ _ (⟨(⟨0, ((rd_T98 l0_2 x11_1).f0), ((rd_T98 l0_2 x11_1).f1)⟩ : S50), x11_1, wrap64 (x11_1 + 1)⟩ : S113)); (case aB => exact (bl HB.out)); (case aF => exact (fun _ _ => trivial)); (case aO => exact (rk HO_3.out)); (case aS => exact (below_size (bl HB.out))); (case aL => have := LMc20.out; omega); intro v213 w24 ho hb hg hat; rw [← Ny212.out] at ho; replace BK208 := Aside0.mk (blk_grown (g := gb208) (o := .cells #[.int .i64 a0_0, .slice A0_1 l0_1.length c0_1, .slice (some ad209) l0_2.length c0_2] 41 (0, 0)) (bk BK208.out) hg (Kd.R_ne HO_3.out BK208.out (by decide))); replace BK210 := Aside0.mk (blk_grown (g := gb210) (o := .cells #[.int .i64 ((rd_T98 l0_2 x11_1).f0), .int .i64 ((rd_T98 l0_2 x11_1).f1), .int .i64 ((rd_T98 l0_2 x11_1).f2), .bool ((rd_T98 l0_2 x11_1).f3)] 98 (0, 0)) (bk BK210.out) hg (Kd.R_ne HO_3.out BK210.out (by decide))); replace HB := Aside0.mk (hb); have HO214 := Aside0.mk (ho); clear HO_3; clear ho hb hg hat))
            go_roundg kj6
            case measure => have := HK1.out; have := HJ6.out; omega
            case rel => exact ⟨(y212), (true), (wrap64 (x11_1 + 1)), (by first | rfl | (simp; done) | (simp [*]; done)), (by first | rfl | (simp; done) | (simp [*]; done)), H', ⟨by have := HK1.out; have := HJ6.out; omega⟩, ⟨rk HO214.out⟩, ⟨by refine bk ?_; exact BK208.out⟩, ⟨bl HB.out⟩⟩
           ·rw [if_neg c20] at H
            exact absurd H (by simp)
          ·replace c19 := Bool.eq_false_iff.mpr c19
           subst c19
           rw [if_neg (show ¬ (false = true) by decide)] at H
           obtain ⟨ji25, hji25⟩ : ∃ j_ : Int, (wrap64 ((x3_1.length : Int) - 1)) = j_ := ⟨_, rfl⟩
           replace H : (if 0 ≤ (ji25) then (if (ji25) < (x3_1.length : Int) then ((some (x3_1.set ((ji25) : Int).toNat (⟨(⟨(rd_T113 x3_1 (ji25)).f0.f0, (rd_T113 x3_1 (ji25)).f0.f1, wrap64 (((rd_T113 x3_1 (ji25)).f0.f2) + ((rd_T98 l0_2 x11_1).f1))⟩ : S50), (rd_T113 x3_1 (ji25)).f1, (rd_T113 x3_1 (ji25)).f2⟩ : S113) : List (S113))).bind fun y216 => (impl_runsOf.l0 kj6 (y216.set ((ji25) : Int).toNat (⟨(⟨(rd_T113 y216 (ji25)).f0.f0, (rd_T113 y216 (ji25)).f0.f1, (rd_T113 y216 (ji25)).f0.f2⟩ : S50), (rd_T113 y216 (ji25)).f1, wrap64 (((rd_T113 y216 (ji25)).f2) + 1)⟩ : S113)) true l0_2 (l0_2.length : Int) (wrap64 (x11_1 + 1)) a0_0 l0_1 l0_2)) else (none)) else (none)) = some r := by first | (rw [hji25] at H; exact H) | (simp only [hji25] at H ⊢; exact H)
           (try rw [hji25] at A18)
           have hji25w : (IntKind.i64.wrap ((x3_1.length : Int) - 1)) = ji25 := (i64_w _).trans hji25
           by_cases c26 : 0 ≤ (ji25)
           ·rw [if_pos c26] at H
            have c26b0 : decide (0 ≤ (ji25)) = true := decide_eq_true c26
            clear c26
            by_cases c27 : (ji25) < (x3_1.length : Int)
            ·rw [if_pos c27] at H
             have c27b0 : decide ((ji25) < (x3_1.length : Int)) = true := decide_eq_true c27
             clear c27
             obtain ⟨y216, hy216⟩ : ∃ y_ : List (S113), y_ = (x3_1.set ((ji25) : Int).toNat (⟨(⟨(rd_T113 x3_1 (ji25)).f0.f0, (rd_T113 x3_1 (ji25)).f0.f1, wrap64 (((rd_T113 x3_1 (ji25)).f0.f2) + ((rd_T98 l0_2 x11_1).f1))⟩ : S50), (rd_T113 x3_1 (ji25)).f1, (rd_T113 x3_1 (ji25)).f2⟩ : S113)) := ⟨_, rfl⟩
             replace H : (impl_runsOf.l0 kj6 (y216.set ((ji25) : Int).toNat (⟨(⟨(rd_T113 y216 (ji25)).f0.f0, (rd_T113 y216 (ji25)).f0.f1, (rd_T113 y216 (ji25)).f0.f2⟩ : S50), (rd_T113 y216 (ji25)).f1, wrap64 (((rd_T113 y216 (ji25)).f2) + 1)⟩ : S113)) true l0_2 (l0_2.length : Int) (wrap64 (x11_1 + 1)) a0_0 l0_1 l0_2) = some r := by first | (rw [hy216]; with_reducible exact H) | (have H2_ := (Option.bind_some _ _).symm.trans H; rw [hy216]; with_reducible exact H2_) | (have H2_ := (Option.bind_some _ _).symm.trans H; with_reducible exact H2_) | with_reducible exact H | (rw [hy216]; exact H) | exact H
             have Ny216 := Aside0.mk hy216
             clear hy216
             obtain ⟨y218, hy218⟩ : ∃ y_ : List (S113), y_ = (y216.set ((ji25) : Int).toNat (⟨(⟨(rd_T113 y216 (ji25)).f0.f0, (rd_T113 y216 (ji25)).f0.f1, (rd_T113 y216 (ji25)).f0.f2⟩ : S50), (rd_T113 y216 (ji25)).f1, wrap64 (((rd_T113 y216 (ji25)).f2) + 1)⟩ : S113)) := ⟨_, rfl⟩
             replace H : (impl_runsOf.l0 kj6 y218 true l0_2 (l0_2.length : Int) (wrap64 (x11_1 + 1)) a0_0 l0_1 l0_2) = some r := by first | (rw [hy218]; with_reducible exact H) | (have H2_ := (Option.bind_some _ _).symm.trans H; rw [hy218]; with_reducible exact H2_) | (have H2_ := (Option.bind_some _ _).symm.trans H; with_reducible exact H2_) | with_reducible exact H | (rw [hy218]; exact H) | exact H
             have Ny218 := Aside0.mk hy218
             clear hy218
             have H' := Aside0.mk H
             clear H
             have hnb31 := NB208_210.out
             have hnc31 := NB210_208.out
             obtain ⟨hcz32_0, hcz32_1, hcz32_2, hfz32_0, hfz32_1, hfz32_2⟩ := cz3 BK208.out
             obtain ⟨hcz33_0, hcz33_1, hcz33_2, hcz33_3, hfz33_0, hfz33_1, hfz33_2, hfz33_3⟩ := cz4 BK210.out
             try go_wp2_with (first | (go_at_call 124; (with_reducible refine (slices_Contains_int_int.calls kj6 _ _ l0_1 ((rd_T98 l0_2 x11_1).f0) false _ ?side1 ?side2 A18.out).mono ?_); (case side1 => exact cb (Kd.C_below HR0_1.out HB.out)); (case side2 => exact HC0_1.out); rintro e w' ⟨rfl, ⟨nd, rfl⟩⟩; (try (rw [drewN_self wc]; generalize hq_ : World.drewN wc _ = wc; have n0_ : Aside0 (Kd.R k113 113 wc w.heap.size (fun _ => True) u3 x3_1) := ⟨by rw [← hq_]; exact (rk HO_3.out)⟩; have n1_ : Aside0 (wc.heap[gb208]? = some (.cells #[.int .i64 a0_0, .slice A0_1 l0_1.length c0_1, .slice (some ad209) l0_2.length c0_2] 41 (0, 0))) := ⟨by rw [← hq_]; exact (bk BK208.out)⟩; have n2_ : Aside0 (wc.heap[gb210]? = some (.cells #[.int .i64 ((rd_T98 l0_2 x11_1).f0), .int .i64 ((rd_T98 l0_2 x11_1).f1), .int .i64 ((rd_T98 l0_2 x11_1).f2), .bool ((rd_T98 l0_2 x11_1).f3)] 98 (0, 0))) := ⟨by rw [← hq_]; exact (bk BK210.out)⟩; have n3_ : Aside0 (Below w.heap.size w wc) := ⟨by rw [← hq_]; exact (bl HB.out)⟩; clear HO_3 BK208 BK210 HB hq_; have HO_3 := n0_; have BK208 := n1_; have BK210 := n2_; have HB := n3_; clear n0_ n1_ n2_ n3_)); obtain ⟨Ao34, co34, eo34⟩ := Kd.R_slice HO_3.out; subst eo34; have p28 : 0 ≤ ((ji25) : Int) := of_decide_eq_true asm; have q28 : ((ji25) : Int) < ((x3_1.length : Int) : Int) := of_decide_eq_true asm; obtain ⟨go28, co28, eo28, gb28, gl28, cl28, HG28⟩ := Kd.R_form HO_3.out (by omega); (first | cases eo28 | (injection eo28 with ea_ en_ ec_; (first | subst ea_ | (injection ea_ with ea_; subst ea_)); subst ec_; clear en_)); have GB28 := Aside0.mk gb28; have GG28 := Aside0.mk HG28; clear gb28 gl28 HG28; obtain ⟨ce28, hcl28, hM28, hcc28, hfr28⟩ := Kd.R_elem HO_3.out z113 ((ji25) : Int) p28 q28; obtain rfl := k113_openM hM28; have hx28_0 : wc.cell? ⟨go28, ((ji25) : Int).toNat * 5, none⟩ = some (.int .i64 ((rd_T113 x3_1 (ji25)).f0.f0)) := hcc28 0 _ rfl; have hx28_1 : wc.cell? ⟨go28, ((ji25) : Int).toNat * 5 + 1, none⟩ = some (.int .i64 ((rd_T113 x3_1 (ji25)).f0.f1)) := hcc28 1 _ rfl; have hx28_2 : wc.cell? ⟨go28, ((ji25) : Int).toNat * 5 + 2, none⟩ = some (.int .i64 ((rd_T113 x3_1 (ji25)).f0.f2)) := hcc28 2 _ rfl; have hx28_3 : wc.cell? ⟨go28, ((ji25) : Int).toNat * 5 + 3, none⟩ = some (.int .i64 ((rd_T113 x3_1 (ji25)).f1)) := hcc28 3 _ rfl; have hx28_4 : wc.cell? ⟨go28, ((ji25) : Int).toNat * 5 + 4, none⟩ = some (.int .i64 ((rd_T113 x3_1 (ji25)).f2)) := hcc28 4 _ rfl; have hf28_0 : wc.frozen? ⟨go28, ((ji25) : Int).toNat * 5, none⟩ = false := hfr28 0; have hf28_1 : wc.frozen? ⟨go28, ((ji25) : Int).toNat * 5 + 1, none⟩ = false := hfr28 1; have hf28_2 : wc.frozen? ⟨go28, ((ji25) : Int).toNat * 5 + 2, none⟩ = false := hfr28 2; have hf28_3 : wc.frozen? ⟨go28, ((ji25) : Int).toNat * 5 + 3, none⟩ = false := hfr28 3; have hf28_4 : wc.frozen? ⟨go28, ((ji25) : Int).toNat * 5 + 4, none⟩ = false := hfr28 4; clear hcl28 hcc28 hfr28 hM28; replace p28 := eq_true p28; replace q28 := eq_true q28))
             replace HO_3 := Aside0.mk (Kd.R_drew HO_3.out)
             replace BK208 := Aside0.mk (blk_drew BK208.out)
             replace BK210 := Aside0.mk (blk_drew BK210.out)
             replace HB := Aside0.mk (below_drew1 HB.out)
             have p215 : 0 ≤ ((ji25) : Int) := of_decide_eq_true asm
             have q215 : (ji25) < (x3_1.length : Int) := of_decide_eq_true asm
             obtain ⟨ad215, e215, hx215_0, hx215_1, hx215_2, hx215_3, hx215_4⟩ := at_T113 (Kd.R_reads' HO_3.out).2.2 (ji25) p215 q215
             obtain rfl : (⟨go28, 0, none⟩ : Addr) = ad215 := (by injection e215)
             (first | simp only [add_plain] at hx215_0 | simp only [add_at] at hx215_0 | simp only [Addr.add, Nat.zero_add] at hx215_0 | skip)
             (first | simp only [add_plain] at hx215_1 | simp only [add_at] at hx215_1 | simp only [Addr.add, Nat.zero_add] at hx215_1 | skip)
             (first | simp only [add_plain] at hx215_2 | simp only [add_at] at hx215_2 | simp only [Addr.add, Nat.zero_add] at hx215_2 | skip)
             (first | simp only [add_plain] at hx215_3 | simp only [add_at] at hx215_3 | simp only [Addr.add, Nat.zero_add] at hx215_3 | skip)
             (first | simp only [add_plain] at hx215_4 | simp only [add_at] at hx215_4 | simp only [Addr.add, Nat.zero_add] at hx215_4 | skip)
             replace p215 := eq_true p215
             replace q215 := eq_true q215
             have p29 : 0 ≤ ((ji25) : Int) := of_decide_eq_true asm
             have q29 : ((ji25) : Int) < ((x3_1.length : Int) : Int) := of_decide_eq_true asm
             obtain ⟨ce29, hcl29, hM29, hcc29, hfr29⟩ := Kd.R_elem HO_3.out z113 ((ji25) : Int) p29 q29
             obtain rfl := k113_openM hM29
             have hx29_0 : World.cell? _ ⟨go28, ((ji25) : Int).toNat * 5, none⟩ = some (.int .i64 ((rd_T113 x3_1 (ji25)).f0.f0)) := hcc29 0 _ rfl
             have hx29_1 : World.cell? _ ⟨go28, ((ji25) : Int).toNat * 5 + 1, none⟩ = some (.int .i64 ((rd_T113 x3_1 (ji25)).f0.f1)) := hcc29 1 _ rfl
             have hx29_2 : World.cell? _ ⟨go28, ((ji25) : Int).toNat * 5 + 2, none⟩ = some (.int .i64 ((rd_T113 x3_1 (ji25)).f0.f2)) := hcc29 2 _ rfl
             have hx29_3 : World.cell? _ ⟨go28, ((ji25) : Int).toNat * 5 + 3, none⟩ = some (.int .i64 ((rd_T113 x3_1 (ji25)).f1)) := hcc29 3 _ rfl
             have hx29_4 : World.cell? _ ⟨go28, ((ji25) : Int).toNat * 5 + 4, none⟩ = some (.int .i64 ((rd_T113 x3_1 (ji25)).f2)) := hcc29 4 _ rfl
             have hf29_0 : World.frozen? _ ⟨go28, ((ji25) : Int).toNat * 5, none⟩ = false := hfr29 0
             have hf29_1 : World.frozen? _ ⟨go28, ((ji25) : Int).toNat * 5 + 1, none⟩ = false := hfr29 1
             have hf29_2 : World.frozen? _ ⟨go28, ((ji25) : Int).toNat * 5 + 2, none⟩ = false := hfr29 2
             have hf29_3 : World.frozen? _ ⟨go28, ((ji25) : Int).toNat * 5 + 3, none⟩ = false := hfr29 3
             have hf29_4 : World.frozen? _ ⟨go28, ((ji25) : Int).toNat * 5 + 4, none⟩ = false := hfr29 4
             clear hcl29 hcc29 hfr29 hM29
             replace p29 := eq_true p29
             replace q29 := eq_true q29
             obtain ⟨ce36, hcl36, hM36, hcc36, hfr36⟩ := Kd.R_elem HO_3.out z113 ((ji25) : Int) (of_decide_eq_true asm) (by have h_ : ((ji25) : Int) < ((x3_1.length : Int) : Int) := of_decide_eq_true asm; first | exact h_ | (have e_ := (Kd.R_reads' HO_3.out).1; omega) | simpa using h_)
             obtain rfl := k113_openM hM36
             have HP36 := (Kd.R_seg HO_3.out ((ji25) : Int) (of_decide_eq_true asm) (by have h_ : ((ji25) : Int) < ((x3_1.length : Int) : Int) := of_decide_eq_true asm; first | exact h_ | (have e_ := (Kd.R_reads' HO_3.out).1; omega) | simpa using h_) (seg := [.int .i64 (wrap64 (((rd_T113 x3_1 (ji25)).f0.f2) + ((rd_T98 l0_2 x11_1).f1)))]) (j := 2) hcl36 hcc36 (show 3 ≤ 5 from by decide) (x' := (⟨(⟨(rd_T113 x3_1 (ji25)).f0.f0, (rd_T113 x3_1 (ji25)).f0.f1, wrap64 (((rd_T113 x3_1 (ji25)).f0.f2) + ((rd_T98 l0_2 x11_1).f1))⟩ : S50), (rd_T113 x3_1 (ji25)).f1, (rd_T113 x3_1 (ji25)).f2⟩ : S113)) (k113_mkM _ _ _ (⟨(⟨(rd_T113 x3_1 (ji25)).f0.f0, (rd_T113 x3_1 (ji25)).f0.f1, wrap64 (((rd_T113 x3_1 (ji25)).f0.f2) + ((rd_T98 l0_2 x11_1).f1))⟩ : S50), (rd_T113 x3_1 (ji25)).f1, (rd_T113 x3_1 (ji25)).f2⟩ : S113) ) (fun _ hk => hk)).1
             rw [← Ny216.out] at HP36
             have HQ36 := Aside0.mk HP36
             clear hcl36 hcc36 hfr36 hM36 HP36
             refine start_ (n := 12) (S := fun w' => w'.cell? ⟨gb210, 0, none⟩ = some (.int .i64 ((rd_T98 l0_2 x11_1).f0)) ∧ w'.cell? ⟨gb210, 1, none⟩ = some (.int .i64 ((rd_T98 l0_2 x11_1).f1)) ∧ w'.cell? ⟨gb210, 2, none⟩ = some (.int .i64 ((rd_T98 l0_2 x11_1).f2)) ∧ w'.cell? ⟨gb210, 3, none⟩ = some (.bool ((rd_T98 l0_2 x11_1).f3)) ∧ w'.cell? ⟨go28, ((ji25)).toNat * 5, none⟩ = some (.int .i64 ((rd_T113 x3_1 (ji25)).f0.f0)) ∧ w'.cell? ⟨go28, ((ji25)).toNat * 5 + 1, none⟩ = some (.int .i64 ((rd_T113 x3_1 (ji25)).f0.f1)) ∧ w'.cell? ⟨go28, ((ji25)).toNat * 5 + 2, none⟩ = some (.int .i64 ((rd_T113 x3_1 (ji25)).f0.f2)) ∧ w'.cell? ⟨go28, ((ji25)).toNat * 5 + 3, none⟩ = some (.int .i64 ((rd_T113 x3_1 (ji25)).f1)) ∧ w'.cell? ⟨go28, ((ji25)).toNat * 5 + 4, none⟩ = some (.int .i64 ((rd_T113 x3_1 (ji25)).f2))) (ds := [11]) #[false, false, false, false, false, false, false, false, false, false, false, false] (by kernel_rfl) rfl rfl ⟨(blk_cell BK210.out 0).trans rfl, (blk_cell BK210.out 1).trans rfl, (blk_cell BK210.out 2).trans rfl, (blk_cell BK210.out 3).trans rfl, hx215_0, hx215_1, hx215_2, hx215_3, hx215_4⟩ (fun hHeld => ?_); refine with_tabW impl_runsOf.tab10 impl_runsOf.bits10 (fun HT_ HW_ => ?_)
             generalize wc.drew = w35 at HO_3 BK208 BK210 HB HQ36 hf29_0 hf29_1 hf29_2 hf29_3 hf29_4 hx215_0 hx215_1 hx215_2 hx215_3 hx215_4 hx29_0 hx29_1 hx29_2 hx29_3 hx29_4 hHeld ⊢
             refine puA (i := 0) (N := some 37) HT_.out ?_
             refine puA (i := 1) (N := some 38) HT_.out ?_
             refine puA (i := 2) (N := some 39) HT_.out ?_
             refine puA (i := 3) (N := some 40) HT_.out ?_
             refine puA (i := 5) (N := some 42) HT_.out ?_
             refine tkA9 (i := 4) (N := some 41) HT_.out HW_.out hHeld ?_
             refine tkA9 (i := 6) (N := some 43) HT_.out HW_.out hHeld ?_
             refine puA (i := 7) (N := some 44) HT_.out ?_
             refine puA (i := 8) (N := some 45) HT_.out ?_
             refine puA (i := 9) (N := some 46) HT_.out ?_
             refine puA (i := 10) (N := some 47) HT_.out ?_
             refine last_ (i := 11) (N := none) #[true, true, true, true, true, true, true, true, true, true, true, true] rfl rfl (one_of HT_.out (by kernel_rfl)) (by decide) (fun K hK => ?_)
             refine skip_ (w1 := ?_) (by rfl) rfl ?_ ?_
             rotate_left
             ·go_simp
              rfl
             refine hK.out _ _ ?_
             clear hK K
             refine done_ (done_of HT_.out (by kernel_rfl)) ?_
             have n0_ : Aside0 (Kd.R k113 113 (w35.setCell ⟨go28, ((ji25) : Int).toNat * 5 + 2, none⟩ (.int .i64 (wrap64 (((rd_T113 x3_1 (ji25)).f0.f2) + ((rd_T98 l0_2 x11_1).f1))))) w.heap.size (fun _ => True) (.slice (some ⟨go28, 0, none⟩) x3_1.length co34) y216) := ⟨rk HQ36.out⟩
             have n1_ : Aside0 ((w35.setCell ⟨go28, ((ji25) : Int).toNat * 5 + 2, none⟩ (.int .i64 (wrap64 (((rd_T113 x3_1 (ji25)).f0.f2) + ((rd_T98 l0_2 x11_1).f1))))).heap[gb208]? = some (.cells #[.int .i64 a0_0, .slice A0_1 l0_1.length c0_1, .slice (some ad209) l0_2.length c0_2] 41 (0, 0))) := ⟨by refine bk ?_; refine blk_far ?_ (by have h_ := Kd.R_ne HO_3.out BK208.out (by decide); intro e_; exact h_ (by rw [e_]; rfl)) _; refine bk ?_; exact BK208.out⟩
             have n2_ : Aside0 ((w35.setCell ⟨go28, ((ji25) : Int).toNat * 5 + 2, none⟩ (.int .i64 (wrap64 (((rd_T113 x3_1 (ji25)).f0.f2) + ((rd_T98 l0_2 x11_1).f1))))).heap[gb210]? = some (.cells #[.int .i64 ((rd_T98 l0_2 x11_1).f0), .int .i64 ((rd_T98 l0_2 x11_1).f1), .int .i64 ((rd_T98 l0_2 x11_1).f2), .bool ((rd_T98 l0_2 x11_1).f3)] 98 (0, 0))) := ⟨by refine bk ?_; refine blk_far ?_ (by have h_ := Kd.R_ne HO_3.out BK210.out (by decide); intro e_; exact h_ (by rw [e_]; rfl)) _; refine bk ?_; exact BK210.out⟩
             have n3_ : Aside0 (Below w.heap.size w (w35.setCell ⟨go28, ((ji25) : Int).toNat * 5 + 2, none⟩ (.int .i64 (wrap64 (((rd_T113 x3_1 (ji25)).f0.f2) + ((rd_T98 l0_2 x11_1).f1)))))) := ⟨by repeat (first | (with_reducible first | exact HB.out | apply below_alloc | apply pw_below_drewN | apply below_drew1 | refine below_set ?_ GB28.out | refine below_set ?_ GE208.out | refine below_set ?_ GE210.out) | exact HB.out)⟩
             (try clear HO_3)
             (try clear BK208)
             (try clear BK210)
             (try clear HB)
             generalize (w35.setCell ⟨go28, ((ji25) : Int).toNat * 5 + 2, none⟩ (.int .i64 (wrap64 (((rd_T113 x3_1 (ji25)).f0.f2) + ((rd_T98 l0_2 x11_1).f1))))) = w37 at n0_ n1_ n2_ n3_ ⊢
             have HO_3 := n0_
             have BK208 := n1_
             have BK210 := n2_
             have HB := n3_
             clear n0_ n1_ n2_ n3_
             have p217 : 0 ≤ ((ji25) : Int) := of_decide_eq_true asm
             have q217 : (ji25) < (y216.length : Int) := (by have h_ : ((ji25) : Int) < ((x3_1.length : Int) : Int) := of_decide_eq_true asm; first | (have e_ := (Kd.R_reads' HO_3.out).1; omega) | simpa only [Ny216.out, List.length_set] using h_)
             have ql217 : (((ji25) : Int) < ((x3_1.length : Int) : Int)) = True := eq_true (of_decide_eq_true asm)
             obtain ⟨ad217, e217, hx217_0, hx217_1, hx217_2, hx217_3, hx217_4⟩ := at_T113 (Kd.R_reads' HO_3.out).2.2 (ji25) p217 q217
             obtain rfl : (⟨go28, 0, none⟩ : Addr) = ad217 := (by injection e217)
             (first | simp only [add_plain] at hx217_0 | simp only [add_at] at hx217_0 | simp only [Addr.add, Nat.zero_add] at hx217_0 | skip)
             (first | simp only [add_plain] at hx217_1 | simp only [add_at] at hx217_1 | simp only [Addr.add, Nat.zero_add] at hx217_1 | skip)
             (first | simp only [add_plain] at hx217_2 | simp only [add_at] at hx217_2 | simp only [Addr.add, Nat.zero_add] at hx217_2 | skip)
             (first | simp only [add_plain] at hx217_3 | simp only [add_at] at hx217_3 | simp only [Addr.add, Nat.zero_add] at hx217_3 | skip)
             (first | simp only [add_plain] at hx217_4 | simp only [add_at] at hx217_4 | simp only [Addr.add, Nat.zero_add] at hx217_4 | skip)
             replace p217 := eq_true p217
             replace q217 := eq_true q217
             have p30 : 0 ≤ ((ji25) : Int) := of_decide_eq_true asm
             have q30 : ((ji25) : Int) < ((x3_1.length : Int) : Int) := of_decide_eq_true asm
             obtain ⟨ce30, hcl30, hM30, hcc30, hfr30⟩ := Kd.R_elem HO_3.out z113 ((ji25) : Int) p30 q30
             obtain rfl := k113_openM hM30
             have hx30_0 : w37.cell? ⟨go28, ((ji25) : Int).toNat * 5, none⟩ = some (.int .i64 ((rd_T113 y216 (ji25)).f0.f0)) := hcc30 0 _ rfl
             have hx30_1 : w37.cell? ⟨go28, ((ji25) : Int).toNat * 5 + 1, none⟩ = some (.int .i64 ((rd_T113 y216 (ji25)).f0.f1)) := hcc30 1 _ rfl
             have hx30_2 : w37.cell? ⟨go28, ((ji25) : Int).toNat * 5 + 2, none⟩ = some (.int .i64 ((rd_T113 y216 (ji25)).f0.f2)) := hcc30 2 _ rfl
             have hx30_3 : w37.cell? ⟨go28, ((ji25) : Int).toNat * 5 + 3, none⟩ = some (.int .i64 ((rd_T113 y216 (ji25)).f1)) := hcc30 3 _ rfl
             have hx30_4 : w37.cell? ⟨go28, ((ji25) : Int).toNat * 5 + 4, none⟩ = some (.int .i64 ((rd_T113 y216 (ji25)).f2)) := hcc30 4 _ rfl
             have hf30_0 : w37.frozen? ⟨go28, ((ji25) : Int).toNat * 5, none⟩ = false := hfr30 0
             have hf30_1 : w37.frozen? ⟨go28, ((ji25) : Int).toNat * 5 + 1, none⟩ = false := hfr30 1
             have hf30_2 : w37.frozen? ⟨go28, ((ji25) : Int).toNat * 5 + 2, none⟩ = false := hfr30 2
             have hf30_3 : w37.frozen? ⟨go28, ((ji25) : Int).toNat * 5 + 3, none⟩ = false := hfr30 3
             have hf30_4 : w37.frozen? ⟨go28, ((ji25) : Int).toNat * 5 + 4, none⟩ = false := hfr30 4
             clear hcl30 hcc30 hfr30 hM30
             replace p30 := eq_true p30
             replace q30 := eq_true q30
             have HX38 := Aside0.mk (show Kd.R k113 113 w37 w.heap.size (fun _ => True) (.slice (some ⟨go28, 0, none⟩) x3_1.length co34) y216 from (rk HO_3.out))
             obtain ⟨ce38, hcl38, hM38, hcc38, hfr38⟩ := Kd.R_elem HX38.out z113 ((ji25) : Int) (of_decide_eq_true asm) (by have h_ : ((ji25) : Int) < ((x3_1.length : Int) : Int) := of_decide_eq_true asm; first | exact h_ | (have e_ := (Kd.R_reads' HO_3.out).1; omega) | simpa using h_)
             obtain rfl := k113_openM hM38
             have HP38 := Kd.R_seg HX38.out ((ji25) : Int) (of_decide_eq_true asm) (by have h_ : ((ji25) : Int) < ((x3_1.length : Int) : Int) := of_decide_eq_true asm; first | exact h_ | (have e_ := (Kd.R_reads' HO_3.out).1; omega) | simpa using h_) (seg := [.int .i64 (wrap64 (((rd_T113 y216 (ji25)).f2) + 1))]) (j := 4) hcl38 hcc38 (show 5 ≤ 5 from by decide) (x' := (⟨(⟨(rd_T113 y216 (ji25)).f0.f0, (rd_T113 y216 (ji25)).f0.f1, (rd_T113 y216 (ji25)).f0.f2⟩ : S50), (rd_T113 y216 (ji25)).f1, wrap64 (((rd_T113 y216 (ji25)).f2) + 1)⟩ : S113)) (k113_mkM _ _ _ (⟨(⟨(rd_T113 y216 (ji25)).f0.f0, (rd_T113 y216 (ji25)).f0.f1, (rd_T113 y216 (ji25)).f0.f2⟩ : S50), (rd_T113 y216 (ji25)).f1, wrap64 (((rd_T113 y216 (ji25)).f2) + 1)⟩ : S113) ) (fun _ hk => hk)
             have hx38_4 := hcc38 4 _ rfl
             (try simp only [show (k113).sz = 5 from rfl, Nat.mul_one, Nat.add_zero] at hx38_4)
             have hf38_4 := hfr38 4
             (try simp only [show (k113).sz = 5 from rfl, Nat.mul_one, Nat.add_zero] at hf38_4)
             clear hcl38 hcc38 hfr38 hM38
             try go_wp2_with (first | ((with_reducible refine gate_store (t := 3) (p := 54) rfl ?_); refine store_event (t := 3) (p := 54) (v := ?vo_w39) (w1 := (w37.setCell ⟨go28, ((ji25) : Int).toNat * 5 + 4, none⟩ (.int .i64 (wrap64 (((rd_T113 y216 (ji25)).f2) + 1))))) ?hg ?ho ?hn ?hr ?_; (case ho => rfl); (case hg => rfl); (case hn => rfl); (case hr => first | (go_simp; done) | (go_simp; rfl)); intro w39 hw; have hg : w37.grownBy w39 (some go28) := (by rw [hw]; exact HP38.2); have hp_ : Kd.R k113 113 w39 w.heap.size (fun _ => True) (.slice (some ⟨go28, 0, none⟩) x3_1.length co34) y218 := (by rw [hw, Ny218.out]; exact HP38.1); clear HP38; replace BK208 := Aside0.mk (blk_grown (g := gb208) (o := .cells #[.int .i64 a0_0, .slice A0_1 l0_1.length c0_1, .slice (some ad209) l0_2.length c0_2] 41 (0, 0)) (bk BK208.out) hg (Kd.R_ne HO_3.out BK208.out (by decide))); replace BK210 := Aside0.mk (blk_grown (g := gb210) (o := .cells #[.int .i64 ((rd_T98 l0_2 x11_1).f0), .int .i64 ((rd_T98 l0_2 x11_1).f1), .int .i64 ((rd_T98 l0_2 x11_1).f2), .bool ((rd_T98 l0_2 x11_1).f3)] 98 (0, 0)) (bk BK210.out) hg (Kd.R_ne HO_3.out BK210.out (by decide))); replace HO_3 := Aside0.mk (hp_); replace HB := Aside0.mk ((by rw [hw]; exact below_set (HB.out) GB28.out : Below w.heap.size w w39)); clear hg hw hp_))
             go_roundg kj6
             case measure => have := HK1.out; have := HJ6.out; omega
             case rel => exact ⟨(y218), (true), (wrap64 (x11_1 + 1)), (by first | rfl | (simp; done) | (simp [*]; done)), (by first | rfl | (simp; done) | (simp [*]; done)), H', ⟨by have := HK1.out; have := HJ6.out; omega⟩, ⟨rk HO_3.out⟩, ⟨by refine bk ?_; exact BK208.out⟩, ⟨bl HB.out⟩⟩
            ·rw [if_neg c27] at H
             exact absurd H (by simp)
           ·rw [if_neg c26] at H
            exact absurd H (by simp)
         ·replace c17 := Bool.eq_false_iff.mpr c17
          subst c17
          rw [if_neg (show ¬ (false = true) by decide)] at H
          by_cases c40 : x3_1.length < 3518437208883
          ·rw [if_pos c40] at H
           have LMc40 := Aside0.mk c40
           clear c40
           obtain ⟨y219, hy219⟩ : ∃ y_ : List (S113), y_ = (x3_1 ++ [(⟨(⟨0, ((rd_T98 l0_2 x11_1).f0), ((rd_T98 l0_2 x11_1).f1)⟩ : S50), x11_1, wrap64 (x11_1 + 1)⟩ : S113)]) := ⟨_, rfl⟩
           replace H : (impl_runsOf.l0 kj6 y219 true l0_2 (l0_2.length : Int) (wrap64 (x11_1 + 1)) a0_0 l0_1 l0_2) = some r := by first | (rw [hy219]; with_reducible exact H) | (have H2_ := (Option.bind_some _ _).symm.trans H; rw [hy219]; with_reducible exact H2_) | (have H2_ := (Option.bind_some _ _).symm.trans H; with_reducible exact H2_) | with_reducible exact H | (rw [hy219]; exact H) | exact H
           have Ny219 := Aside0.mk hy219
           clear hy219
           have H' := Aside0.mk H
           clear H
           have hnb41 := NB210_208.out
           have hnc41 := NB208_210.out
           obtain ⟨hcz42_0, hcz42_1, hcz42_2, hcz42_3, hfz42_0, hfz42_1, hfz42_2, hfz42_3⟩ := cz4 BK210.out
           go_wp2_with (first | ((with_reducible refine gate_builtin (b := .append) (xs := #[.tmp 55, .tmp 65]) rfl ?_); at_builtin; refine Kd.R_append k113 (w0 := w) w.heap.size rfl (.tmp 55) (.tmp 65) 110 113 (.agg #[(.int .i64 0), (.int .i64 0), (.int .i64 0), (.int .i64 0), (.int .i64 0)]) 40 rfl Try.underlying110 info113 rfl (by decide) (by omega) u3 x3_1 (⟨(⟨0, ((rd_T98 l0_2 x11_1).f0), ((rd_T98 l0_2 x11_1).f1)⟩ : S50), x11_1, wrap64 (x11_1 + 1)⟩ : S113) [.int .i64 0, .int .i64 ((rd_T98 l0_2 x11_1).f0), .int .i64 ((rd_T98 l0_2 x11_1).f1), .int .i64 x11_1, .int .i64 (wrap64 (x11_1 + 1))] (fun _ => True) (fun _ => False) rfl rfl ?aP (fun _ hk => hk.elim) ?aF ?aO ?aB ?aS ?aL ?_; (case aP => exact k113_mkM _ _ _ (⟨(⟨0, ((rd_T98 l0_2 x11_1).f0), ((rd_T98 l0_2 x11_1).f1)⟩ : S50), x11_1, wrap64 (x11_1 + 1)⟩ : S113)); (case aB => exact (bl HB.out)); (case aF => exact (fun _ _ => trivial)); (case aO => exact (rk HO_3.out)); (case aS => exact (below_size (bl HB.out))); (case aL => have := LMc40.out; omega); intro v220 w43 ho hb hg hat; rw [← Ny219.out] at ho; replace BK208 := Aside0.mk (blk_grown (g := gb208) (o := .cells #[.int .i64 a0_0, .slice A0_1 l0_1.length c0_1, .slice (some ad209) l0_2.length c0_2] 41 (0, 0)) (bk BK208.out) hg (Kd.R_ne HO_3.out BK208.out (by decide))); replace BK210 := Aside0.mk (blk_grown (g := gb210) (o := .cells #[.int .i64 ((rd_T98 l0_2 x11_1).f0), .int .i64 ((rd_T98 l0_2 x11_1).f1), .int .i64 ((rd_T98 l0_2 x11_1).f2), .bool ((rd_T98 l0_2 x11_1).f3)] 98 (0, 0)) (bk BK210.out) hg (Kd.R_ne HO_3.out BK210.out (by decide))); replace HB := Aside0.mk (hb); have HO221 := Aside0.mk (ho); clear HO_3; clear ho hb hg hat))
           go_roundg kj6
           case measure => have := HK1.out; have := HJ6.out; omega
           case rel => exact ⟨(y219), (true), (wrap64 (x11_1 + 1)), (by first | rfl | (simp; done) | (simp [*]; done)), (by first | rfl | (simp; done) | (simp [*]; done)), H', ⟨by have := HK1.out; have := HJ6.out; omega⟩, ⟨rk HO221.out⟩, ⟨by refine bk ?_; exact BK208.out⟩, ⟨bl HB.out⟩⟩
          ·rw [if_neg c40] at H
           exact absurd H (by simp)
     ·rw [if_neg c6] at H
      exact absurd H (by simp)
    ·rw [if_neg c5] at H
     exact absurd H (by simp)
   ·rw [if_neg c4] at H
    have c4b0 : decide (x11_1 < (l0_2.length : Int)) = false := decide_eq_false c4
    clear c4
    obtain rfl := Option.some.inj H
    go_wp2
    go_ret
    exact ⟨_, by first | rfl | (simp [errW_none, errW_some] <;> rfl) | (simp [*, errW_none, errW_some] <;> rfl), rk HO_3.out, bl HB.out⟩
end Go.Proofs.Ytbpjidekjogfeaa.A

namespace Go.Proofs.Ytbpjidekjogfeaa.A
open Go.RowKit Go.Proofs.YtbpjidekjogfeaaW.PrintWords Go.Proofs.YtbpjidekjogfeaaW.PrintLast Go.Proofs.YtbpjidekjogfeaaW.PrintMore
attribute [local go_sem] max2_int min2_int max_two min_two max_three min_three max_four min_four   
set_option linter.unusedVariables false
set_option linter.unusedSimpArgs false
def spec_NewColumn.l0 : Nat → Int → List Int → Int → Int → Int → List Int → List (S98) → Option (Int × List Int × (List (S98)) × Bool)
 | 0, _, _, _, _, _, _, _ => none
 | k + 1, x0, x1, x7, x8, x529000, x529001, x529002 => if x8 ≤ (x1.length : Int) then (if x8 < (x1.length : Int) then (if 0 ≤ x8 then (if (rd x1 x8) ≤ x7 then (some (0, ([] : List Int), ([] : List (S98)), false)) else (if (rd x1 x8) > 24 then (some (0, ([] : List Int), ([] : List (S98)), false)) else (if x529002.length < 4398046511104 then (spec_NewColumn.l0 k x0 x1 (rd x1 x8) (wrap64 (x8 + 1)) x529000 x529001 (x529002 ++ [(⟨x7, wrap64 ((rd x1 x8) - x7), 0, false⟩ : S98)])) else (none)))) else (none)) else (if x0 ≤ x7 then (some (0, ([] : List Int), ([] : List (S98)), false)) else (if x0 > 24 then (some (0, ([] : List Int), ([] : List (S98)), false)) else (if x529002.length < 4398046511104 then (spec_NewColumn.l0 k x0 x1 x0 (wrap64 (x8 + 1)) x529000 x529001 (x529002 ++ [(⟨x7, wrap64 (x0 - x7), 0, false⟩ : S98)])) else (none))))) else ((spec_ColumnOk.f k x529000 x529001 x529002).bind fun t529 => (if t529 = true then (some (x529000, x529001, x529002, true)) else (some (0, ([] : List Int), ([] : List (S98)), false))))
def spec_NewColumn.f (k : Nat) (a0 : Int) (l1 : List Int) : Option (Int × List Int × (List (S98)) × Bool) := (some (([] : List Int) : List Int)).bind fun y522 => (if y522.length + l1.length < 17592186044416 then (spec_NewColumn.l0 k a0 l1 0 0 a0 (y522 ++ l1) ([] : List (S98))) else (none))
set_option maxHeartbeats 8000000 in
set_option maxRecDepth 100000 in
theorem spec_NewColumn.calls (k : Nat) (a0 : Int) (A1 : Option Addr) (c1 : Nat) (l1 : List Int) (r1 : Int) (r2 : List Int) (r3 : List (S98)) (r4 : Bool) (w : World) (hr1 : Kd.C (Kd.int .i64) w A1 l1.length l1) (hc1 : l1.length ≤ c1) (h : spec_NewColumn.f k a0 l1 = some (r1, r2, r3, r4)) :
  Calls Try.prog 122 #[.int .i64 a0, .slice A1 l1.length c1] w fun e w' => ∃ v1_ v2_ : Value, e = .returned (.tuple #[.agg #[.int .i64 r1, v1_, v2_], .bool r4]) ∧ Kd.R (Kd.int .i64) 3 w' w.heap.size (fun _ => True) v1_ r2 ∧ Kd.R k98 98 w' w.heap.size (fun _ => True) v2_ r3 ∧ Below w.heap.size w w' := by
 have hu41 := Try.underlying41
 have hu98 := Try.underlying98
 have HR1 := Aside0.mk hr1
 have HC1 := Aside0.mk hc1
 clear hr1 hc1
 have HB := Aside0.mk (Below.refl w.heap.size w)
 have H : ((some (([] : List Int) : List Int)).bind fun y522 => (if y522.length + l1.length < 17592186044416 then (spec_NewColumn.l0 k a0 l1 0 0 a0 (y522 ++ l1) ([] : List (S98))) else (none))) = some (r1, r2, r3, r4) := h
 clear h
 obtain ⟨y522, hy522⟩ : ∃ y_ : List Int, y_ = (([] : List Int)) := ⟨_, rfl⟩
 replace H : (if y522.length + l1.length < 17592186044416 then (spec_NewColumn.l0 k a0 l1 0 0 a0 (y522 ++ l1) ([] : List (S98))) else (none)) = some (r1, r2, r3, r4) := by first | (rw [hy522]; with_reducible exact H) | (have H2_ := (Option.bind_some _ _).symm.trans H; rw [hy522]; with_reducible exact H2_) | (have H2_ := (Option.bind_some _ _).symm.trans H; with_reducible exact H2_) | with_reducible exact H | (rw [hy522]; exact H) | exact H
 have Ny522 := Aside0.mk hy522
 clear hy522
 by_cases c3 : y522.length + l1.length < 17592186044416
 ·rw [if_pos c3] at H
  have LMc3 := Aside0.mk c3
  clear c3
  obtain ⟨y525, hy525⟩ : ∃ y_ : List Int, y_ = (y522 ++ l1) := ⟨_, rfl⟩
  replace H : (spec_NewColumn.l0 k a0 l1 0 0 a0 y525 ([] : List (S98))) = some (r1, r2, r3, r4) := by first | (rw [hy525]; with_reducible exact H) | (have H2_ := (Option.bind_some _ _).symm.trans H; rw [hy525]; with_reducible exact H2_) | (have H2_ := (Option.bind_some _ _).symm.trans H; with_reducible exact H2_) | with_reducible exact H | (rw [hy525]; exact H) | exact H
  have Ny525 := Aside0.mk hy525
  clear hy525
  have H' := Aside0.mk H
  clear H
  go_enter Try.func122, Try.ntmps122
  go_wp2_with (first | ((with_reducible refine gate_dst (N := 4) rfl ?_); refine bx (cs := #[.int .i64 0, .slice none 0 0, .slice none 0 0]) (t := 41) fun gb521 hg w4 hbox hb => ?_; have BK521 := Aside0.mk (hbox); have GW521 := Aside0.mk (gs HB.out hg); have GE521 := Aside0.mk (gs HB.out hg); replace HB := Aside0.mk (below_step (bl HB.out) hb); clear hb hbox hg) | ((with_reducible refine gate_dst (N := 11) rfl ?_); refine Kd.R_lit (Kd.int .i64) _ 3 ?hg (N := 11) ?hd (xs := ([] : List Int)) (inner := []) (ok := fun _ => True) (okp := fun _ => True) ?hr ?hp (fun _ hk => hk) trivial (Below.refl _ _) (Nat.le_refl _) (by simp) ?_; (case hd => rfl); (case hg => rfl); (case hr => first | (go_simp; done) | (go_simp; rfl)); (case hp => exact (Reps.none _ _)); intro v523 w5 ho6 hb hg_ hnew_; clear hg_ hnew_; (first | rw [← Ny522.out] at ho6 | (simp only [Int.reduceToNat] at ho6; rw [← Ny522.out] at ho6)); have HO524 := Aside0.mk (Kd.R_lower ho6 (below_size (bl HB.out))); replace BK521 := Aside0.mk (bb BK521.out hb); replace HB := Aside0.mk (below_step (bl HB.out) hb); clear hb ho6) | ((with_reducible refine gate_builtin (b := .append) (xs := #[.tmp 11, .tmp 12]) rfl ?_); at_builtin; refine Kd.R_append_rows (Kd.int .i64) (w0 := w) w.heap.size rfl (.tmp 11) (.tmp 12) 38 3 (.int .i64 0) 8 rfl Try.underlying38 info3 rfl (by decide) (by omega) v523 y522 l1 _ _ _ (fun _ => True) (fun _ => False) rfl rfl ?aO ?aR (fun _ _ h => h) (fun _ h => h.elim) ?aF ?aB ?aS ?aL ?_; (case aR => exact cb (Kd.C_below HR1.out HB.out)); (case aB => exact (bl HB.out)); (case aF => exact (fun _ _ => trivial)); (case aO => exact (rk HO524.out)); (case aS => exact (below_size (bl HB.out))); (case aL => have := LMc3.out; omega); intro v526 w7 ho hb hg hat; rw [← Ny525.out] at ho; replace BK521 := Aside0.mk (blk_grown (g := gb521) (o := .cells #[.int .i64 0, .slice none 0 0, .slice none 0 0] 41 (0, 0)) (bk BK521.out) hg (Kd.R_ne HO524.out BK521.out (by decide))); replace HB := Aside0.mk (hb); have HO527 := Aside0.mk (ho); clear HO524; clear ho hb hg hat; obtain ⟨Ao8, co8, eo8⟩ := Kd.R_slice HO527.out; subst eo8) | ((with_reducible refine gate_dst (N := 6) rfl ?_); refine bx (cs := #[.int .i64 0, .slice none 0 0, .slice none 0 0]) (t := 41) fun gb528 hg w9 hbox hb => ?_; replace HO527 := Aside0.mk (Kd.R_below (rk HO527.out) hb); have BK528 := Aside0.mk (hbox); have GW528 := Aside0.mk (gs HB.out hg); have GE528 := Aside0.mk (gs HB.out hg); replace HB := Aside0.mk (below_step (bl HB.out) hb); have NB521_528 := Aside0.mk ((nl BK521.out hg)); have NB528_521 := Aside0.mk ((ng BK521.out hg)); replace BK521 := Aside0.mk (bb BK521.out hb); clear hb hbox hg; have hnb10 := NB528_521.out; have hnc10 := NB521_528.out; obtain ⟨hcz11_0, hcz11_1, hcz11_2, hfz11_0, hfz11_1, hfz11_2⟩ := cz3 BK528.out))
  go_loopg [7, 8] k (fun kq v7 v8 w' => ∃ (x7_1 : Int) (x8_1 : Int) (x522000_1 : Int) (x529002_1 : List (S98)) (u529002 : Value), v7 = .int .i64 x7_1 ∧ v8 = .int .i64 x8_1 ∧ Aside0 (spec_NewColumn.l0 kq a0 l1 x7_1 x8_1 a0 y525 x529002_1 = some (r1, r2, r3, r4)) ∧ Aside0 (kq ≤ k) ∧ Aside0 (Kd.R (Kd.int .i64) 3 w' w.heap.size (fun _ => True) (.slice Ao8 y525.length co8) y525) ∧ Aside0 (Kd.R k98 98 w' w.heap.size (fun _ => True) u529002 x529002_1) ∧ Aside0 (w'.heap[gb521]? = some (.cells #[.int .i64 x522000_1, (.slice none 0 0), (.slice none 0 0)] 41 (0, 0))) ∧ Aside0 (w'.heap[gb528]? = some (.cells #[.int .i64 a0, (.slice Ao8 y525.length co8), u529002] 41 (0, 0))) ∧ Aside0 (Below w.heap.size w w'))
  case atStart => exact ⟨(0), (0), (0), (([] : List (S98))), (.slice none 0 0), (by first | rfl | (simp; done) | (simp [*]; done)), (by first | rfl | (simp; done) | (simp [*]; done)), H', ⟨Nat.le_refl _⟩, ⟨by refine rk ?_; exact Kd.R_mono (Kd.R_far (p := ⟨gb528, 2, none⟩) (Kd.R_far (p := ⟨gb528, 1, none⟩) (Kd.R_far (p := ⟨gb528, 0, none⟩) (Kd.R_types HO527.out BK528.out (by decide)) (fun _ hk => hk.2) (.int .i64 a0)) (fun _ hk => hk.2) (.slice Ao8 y525.length co8)) (fun _ hk => hk.2) (.slice none 0 0)) (fun _ hk => trivial)⟩, ⟨by first | exact Kd.R_nil _ _ _ _ _ | exact Kd.N_nil _ _ _ _ _ | exact Kd.V_nil _ _ _ _ _ | exact Kd.Q_nil _ _ _ _ _ | exact Kd.S_nil _ _ _ _ _⟩, ⟨by refine bk ?_; refine blk_far ?_ NB521_528.out _; refine bk ?_; refine blk_far ?_ NB521_528.out _; refine bk ?_; refine blk_far ?_ NB521_528.out _; refine bk ?_; exact BK521.out⟩, ⟨by refine bk ?_; refine blk_put (cs := #[.int .i64 a0, .slice Ao8 y525.length co8, .slice none 0 0]) ?_ 2 _ rfl; refine bk ?_; refine blk_put (cs := #[.int .i64 a0, .slice none 0 0, .slice none 0 0]) ?_ 1 _ rfl; refine bk ?_; refine blk_put (cs := #[.int .i64 0, .slice none 0 0, .slice none 0 0]) ?_ 0 _ rfl; refine bk ?_; exact BK528.out⟩, ⟨bl HB.out⟩⟩
  case round =>
   clear H'
   try clear c1
   try clear p2
   try clear c3
   try clear c10
   try clear hcz11_0
   try clear hcz11_1
   try clear hcz11_2
   try clear hfz11_0
   try clear hfz11_1
   try clear hfz11_2
   obtain ⟨x7_1, x8_1, x522000_1, x529002_1, u529002, rfl, rfl, HA, HK1, HO_529001, HO_529002, BK521, BK528, HB⟩ := hrel
   cases gk with
   | zero => exact absurd HA.out (by simp [spec_NewColumn.l0])
   | succ k1 =>
    have H := HA.out
    clear HA
    simp only [spec_NewColumn.l0] at H
    by_cases c12 : x8_1 ≤ (l1.length : Int)
    ·rw [if_pos c12] at H
     have c12b0 : decide (x8_1 ≤ (l1.length : Int)) = true := decide_eq_true c12
     clear c12
     by_cases c13 : x8_1 < (l1.length : Int)
     ·rw [if_pos c13] at H
      have c13b0 : decide (x8_1 < (l1.length : Int)) = true := decide_eq_true c13
      clear c13
      by_cases c14 : 0 ≤ x8_1
      ·rw [if_pos c14] at H
       have c14b0 : decide (0 ≤ x8_1) = true := decide_eq_true c14
       clear c14
       by_cases c15 : (rd l1 x8_1) ≤ x7_1
       ·rw [if_pos c15] at H
        have c15b0 : decide ((rd l1 x8_1) ≤ x7_1) = true := decide_eq_true c15
        clear c15
        simp only [Option.some.injEq, Prod.mk.injEq] at H
        obtain ⟨rfl, rfl, rfl, rfl⟩ := H
        have p530 : 0 ≤ (x8_1 : Int) := of_decide_eq_true asm
        have q530 : x8_1 < (l1.length : Int) := of_decide_eq_true asm
        obtain ⟨ad530, e530, hx530_0⟩ := Kd.at_int HR1.out x8_1 p530 q530
        cases e530
        replace hx530_0 := (HB.out.cell (World.block_lt_of_cell? w _ hx530_0)).trans hx530_0
        replace p530 := eq_true p530
        replace q530 := eq_true q530
        have hnb16 := NB521_528.out
        have hnc16 := NB528_521.out
        obtain ⟨hcz17_0, hcz17_1, hcz17_2, hfz17_0, hfz17_1, hfz17_2⟩ := cz3 BK521.out
        go_wp2
        refine bodyPost_ret (results_ct rfl _ _ gb521 41 #[.int .i64 0, .slice none 0 0, .slice none 0 0] (0, 0) _ rfl (by refine bk ?_; refine blk_put (cs := #[.int .i64 0, .slice none 0 0, .slice none 0 0]) ?_ 2 _ rfl; refine bk ?_; refine blk_put (cs := #[.int .i64 0, .slice none 0 0, .slice none 0 0]) ?_ 1 _ rfl; refine bk ?_; refine blk_put (cs := #[.int .i64 x522000_1, .slice none 0 0, .slice none 0 0]) ?_ 0 _ rfl; refine bk ?_; exact BK521.out) Try.underlying41 rfl (by kernel_rfl)) rfl ?_
        exact ⟨_, _, by first | rfl | (simp [errW_none, errW_some] <;> rfl) | (simp [*, errW_none, errW_some] <;> rfl), by first | exact Kd.R_nil _ _ _ _ _ | exact Kd.N_nil _ _ _ _ _ | exact Kd.V_nil _ _ _ _ _ | exact Kd.Q_nil _ _ _ _ _ | exact Kd.S_nil _ _ _ _ _, by first | exact Kd.R_nil _ _ _ _ _ | exact Kd.N_nil _ _ _ _ _ | exact Kd.V_nil _ _ _ _ _ | exact Kd.Q_nil _ _ _ _ _ | exact Kd.S_nil _ _ _ _ _, bl HB.out⟩
       ·rw [if_neg c15] at H
        have c15b0 : decide ((rd l1 x8_1) ≤ x7_1) = false := decide_eq_false c15
        clear c15
        by_cases c18 : (rd l1 x8_1) > 24
        ·rw [if_pos c18] at H
         have c18b0 : decide (24 < (rd l1 x8_1)) = true := decide_eq_true c18
         clear c18
         simp only [Option.some.injEq, Prod.mk.injEq] at H
         obtain ⟨rfl, rfl, rfl, rfl⟩ := H
         have p530 : 0 ≤ (x8_1 : Int) := of_decide_eq_true asm
         have q530 : x8_1 < (l1.length : Int) := of_decide_eq_true asm
         obtain ⟨ad530, e530, hx530_0⟩ := Kd.at_int HR1.out x8_1 p530 q530
         cases e530
         replace hx530_0 := (HB.out.cell (World.block_lt_of_cell? w _ hx530_0)).trans hx530_0
         replace p530 := eq_true p530
         replace q530 := eq_true q530
         have hnb19 := NB521_528.out
         have hnc19 := NB528_521.out
         obtain ⟨hcz20_0, hcz20_1, hcz20_2, hfz20_0, hfz20_1, hfz20_2⟩ := cz3 BK521.out
         go_wp2
         refine bodyPost_ret (results_ct rfl _ _ gb521 41 #[.int .i64 0, .slice none 0 0, .slice none 0 0] (0, 0) _ rfl (by refine bk ?_; refine blk_put (cs := #[.int .i64 0, .slice none 0 0, .slice none 0 0]) ?_ 2 _ rfl; refine bk ?_; refine blk_put (cs := #[.int .i64 0, .slice none 0 0, .slice none 0 0]) ?_ 1 _ rfl; refine bk ?_; refine blk_put (cs := #[.int .i64 x522000_1, .slice none 0 0, .slice none 0 0]) ?_ 0 _ rfl; refine bk ?_; exact BK521.out) Try.underlying41 rfl (by kernel_rfl)) rfl ?_
         exact ⟨_, _, by first | rfl | (simp [errW_none, errW_some] <;> rfl) | (simp [*, errW_none, errW_some] <;> rfl), by first | exact Kd.R_nil _ _ _ _ _ | exact Kd.N_nil _ _ _ _ _ | exact Kd.V_nil _ _ _ _ _ | exact Kd.Q_nil _ _ _ _ _ | exact Kd.S_nil _ _ _ _ _, by first | exact Kd.R_nil _ _ _ _ _ | exact Kd.N_nil _ _ _ _ _ | exact Kd.V_nil _ _ _ _ _ | exact Kd.Q_nil _ _ _ _ _ | exact Kd.S_nil _ _ _ _ _, bl HB.out⟩
        ·rw [if_neg c18] at H
         have c18b0 : decide (24 < (rd l1 x8_1)) = false := decide_eq_false c18
         clear c18
         by_cases c21 : x529002_1.length < 4398046511104
         ·rw [if_pos c21] at H
          have LMc21 := Aside0.mk c21
          clear c21
          obtain ⟨y531, hy531⟩ : ∃ y_ : List (S98), y_ = (x529002_1 ++ [(⟨x7_1, wrap64 ((rd l1 x8_1) - x7_1), 0, false⟩ : S98)]) := ⟨_, rfl⟩
          replace H : (spec_NewColumn.l0 k1 a0 l1 (rd l1 x8_1) (wrap64 (x8_1 + 1)) a0 y525 y531) = some (r1, r2, r3, r4) := by first | (rw [hy531]; with_reducible exact H) | (have H2_ := (Option.bind_some _ _).symm.trans H; rw [hy531]; with_reducible exact H2_) | (have H2_ := (Option.bind_some _ _).symm.trans H; with_reducible exact H2_) | with_reducible exact H | (rw [hy531]; exact H) | exact H
          have Ny531 := Aside0.mk hy531
          clear hy531
          have H' := Aside0.mk H
          clear H
          have p530 : 0 ≤ (x8_1 : Int) := of_decide_eq_true asm
          have q530 : x8_1 < (l1.length : Int) := of_decide_eq_true asm
          obtain ⟨ad530, e530, hx530_0⟩ := Kd.at_int HR1.out x8_1 p530 q530
          cases e530
          replace hx530_0 := (HB.out.cell (World.block_lt_of_cell? w _ hx530_0)).trans hx530_0
          replace p530 := eq_true p530
          replace q530 := eq_true q530
          have hnb22 := NB528_521.out
          have hnc22 := NB521_528.out
          obtain ⟨hcz23_0, hcz23_1, hcz23_2, hfz23_0, hfz23_1, hfz23_2⟩ := cz3 BK528.out
          go_wp2_with (first | ((with_reducible refine gate_builtin (b := .append) (xs := #[.tmp 39, .tmp 45]) rfl ?_); at_builtin; refine Kd.R_append k98 (w0 := w) w.heap.size rfl (.tmp 39) (.tmp 45) 39 98 (.agg #[(.int .i64 0), (.int .i64 0), (.int .i64 0), (.bool false)]) 32 rfl Try.underlying39 info98 rfl (by decide) (by omega) u529002 x529002_1 (⟨x7_1, wrap64 ((rd l1 x8_1) - x7_1), 0, false⟩ : S98) [.int .i64 x7_1, .int .i64 (wrap64 ((rd l1 x8_1) - x7_1)), .int .i64 0, .bool false] (fun _ => True) (fun _ => False) rfl rfl ?aP (fun _ hk => hk.elim) ?aF ?aO ?aB ?aS ?aL ?_; (case aP => exact k98_mkM _ _ _ (⟨x7_1, wrap64 ((rd l1 x8_1) - x7_1), 0, false⟩ : S98)); (case aB => exact (bl HB.out)); (case aF => exact (fun _ _ => trivial)); (case aO => exact (rk HO_529002.out)); (case aS => exact (below_size (bl HB.out))); (case aL => have := LMc21.out; omega); intro v532 w24 ho hb hg hat; rw [← Ny531.out] at ho; replace HO_529001 := Aside0.mk (Kd.R_over' (rk HO_529001.out) (Kd.R_typed (rk HO_529002.out)) (by decide) hg); replace BK521 := Aside0.mk (blk_grown (g := gb521) (o := .cells #[.int .i64 x522000_1, .slice none 0 0, .slice none 0 0] 41 (0, 0)) (bk BK521.out) hg (Kd.R_ne HO_529002.out BK521.out (by decide))); replace BK528 := Aside0.mk (blk_grown (g := gb528) (o := .cells #[.int .i64 a0, .slice Ao8 y525.length co8, u529002] 41 (0, 0)) (bk BK528.out) hg (Kd.R_ne HO_529002.out BK528.out (by decide))); replace HB := Aside0.mk (hb); have HO533 := Aside0.mk (ho); clear HO_529002; clear ho hb hg hat; obtain ⟨Ao25, co25, eo25⟩ := Kd.R_slice HO533.out; subst eo25; obtain ⟨hcz26_0, hcz26_1, hcz26_2, hfz26_0, hfz26_1, hfz26_2⟩ := cz3 BK528.out))
          go_roundg k1
          case measure => have := HK1.out; omega
          case rel => exact ⟨(rd l1 x8_1), (wrap64 (x8_1 + 1)), (x522000_1), (y531), (.slice Ao25 y531.length co25), (by first | rfl | (simp; done) | (simp [*]; done)), (by first | rfl | (simp; done) | (simp [*]; done)), H', ⟨by have := HK1.out; omega⟩, ⟨by refine rk ?_; exact Kd.R_mono (Kd.R_far (p := ⟨gb528, 2, none⟩) (Kd.R_types HO_529001.out BK528.out (by decide)) (fun _ hk => hk.2) (.slice Ao25 y531.length co25)) (fun _ hk => trivial)⟩, ⟨by refine rk ?_; exact Kd.R_mono (Kd.R_far (p := ⟨gb528, 2, none⟩) (Kd.R_types HO533.out BK528.out (by decide)) (fun _ hk => hk.2) (.slice Ao25 y531.length co25)) (fun _ hk => trivial)⟩, ⟨by refine bk ?_; refine blk_far ?_ NB521_528.out _; refine bk ?_; exact BK521.out⟩, ⟨by refine bk ?_; refine blk_put (cs := #[.int .i64 a0, .slice Ao8 y525.length co8, u529002]) ?_ 2 _ rfl; refine bk ?_; exact BK528.out⟩, ⟨bl HB.out⟩⟩
         ·rw [if_neg c21] at H
          exact absurd H (by simp)
      ·rw [if_neg c14] at H
       exact absurd H (by simp)
     ·rw [if_neg c13] at H
      have c13b0 : decide (x8_1 < (l1.length : Int)) = false := decide_eq_false c13
      clear c13
      by_cases c27 : a0 ≤ x7_1
      ·rw [if_pos c27] at H
       have c27b0 : decide (a0 ≤ x7_1) = true := decide_eq_true c27
       clear c27
       simp only [Option.some.injEq, Prod.mk.injEq] at H
       obtain ⟨rfl, rfl, rfl, rfl⟩ := H
       have hnb28 := NB521_528.out
       have hnc28 := NB528_521.out
       obtain ⟨hcz29_0, hcz29_1, hcz29_2, hfz29_0, hfz29_1, hfz29_2⟩ := cz3 BK521.out
       go_wp2
       refine bodyPost_ret (results_ct rfl _ _ gb521 41 #[.int .i64 0, .slice none 0 0, .slice none 0 0] (0, 0) _ rfl (by refine bk ?_; refine blk_put (cs := #[.int .i64 0, .slice none 0 0, .slice none 0 0]) ?_ 2 _ rfl; refine bk ?_; refine blk_put (cs := #[.int .i64 0, .slice none 0 0, .slice none 0 0]) ?_ 1 _ rfl; refine bk ?_; refine blk_put (cs := #[.int .i64 x522000_1, .slice none 0 0, .slice none 0 0]) ?_ 0 _ rfl; refine bk ?_; exact BK521.out) Try.underlying41 rfl (by kernel_rfl)) rfl ?_
       exact ⟨_, _, by first | rfl | (simp [errW_none, errW_some] <;> rfl) | (simp [*, errW_none, errW_some] <;> rfl), by first | exact Kd.R_nil _ _ _ _ _ | exact Kd.N_nil _ _ _ _ _ | exact Kd.V_nil _ _ _ _ _ | exact Kd.Q_nil _ _ _ _ _ | exact Kd.S_nil _ _ _ _ _, by first | exact Kd.R_nil _ _ _ _ _ | exact Kd.N_nil _ _ _ _ _ | exact Kd.V_nil _ _ _ _ _ | exact Kd.Q_nil _ _ _ _ _ | exact Kd.S_nil _ _ _ _ _, bl HB.out⟩
      ·rw [if_neg c27] at H
       have c27b0 : decide (a0 ≤ x7_1) = false := decide_eq_false c27
       clear c27
       by_cases c30 : a0 > 24
       ·rw [if_pos c30] at H
        have c30b0 : decide (24 < a0) = true := decide_eq_true c30
        clear c30
        simp only [Option.some.injEq, Prod.mk.injEq] at H
        obtain ⟨rfl, rfl, rfl, rfl⟩ := H
        have hnb31 := NB521_528.out
        have hnc31 := NB528_521.out
        obtain ⟨hcz32_0, hcz32_1, hcz32_2, hfz32_0, hfz32_1, hfz32_2⟩ := cz3 BK521.out
        go_wp2
        refine bodyPost_ret (results_ct rfl _ _ gb521 41 #[.int .i64 0, .slice none 0 0, .slice none 0 0] (0, 0) _ rfl (by refine bk ?_; refine blk_put (cs := #[.int .i64 0, .slice none 0 0, .slice none 0 0]) ?_ 2 _ rfl; refine bk ?_; refine blk_put (cs := #[.int .i64 0, .slice none 0 0, .slice none 0 0]) ?_ 1 _ rfl; refine bk ?_; refine blk_put (cs := #[.int .i64 x522000_1, .slice none 0 0, .slice none 0 0]) ?_ 0 _ rfl; refine bk ?_; exact BK521.out) Try.underlying41 rfl (by kernel_rfl)) rfl ?_
        exact ⟨_, _, by first | rfl | (simp [errW_none, errW_some] <;> rfl) | (simp [*, errW_none, errW_some] <;> rfl), by first | exact Kd.R_nil _ _ _ _ _ | exact Kd.N_nil _ _ _ _ _ | exact Kd.V_nil _ _ _ _ _ | exact Kd.Q_nil _ _ _ _ _ | exact Kd.S_nil _ _ _ _ _, by first | exact Kd.R_nil _ _ _ _ _ | exact Kd.N_nil _ _ _ _ _ | exact Kd.V_nil _ _ _ _ _ | exact Kd.Q_nil _ _ _ _ _ | exact Kd.S_nil _ _ _ _ _, bl HB.out⟩
       ·rw [if_neg c30] at H
        have c30b0 : decide (24 < a0) = false := decide_eq_false c30
        clear c30
        by_cases c33 : x529002_1.length < 4398046511104
        ·rw [if_pos c33] at H
         have LMc33 := Aside0.mk c33
         clear c33
         obtain ⟨y534, hy534⟩ : ∃ y_ : List (S98), y_ = (x529002_1 ++ [(⟨x7_1, wrap64 (a0 - x7_1), 0, false⟩ : S98)]) := ⟨_, rfl⟩
         replace H : (spec_NewColumn.l0 k1 a0 l1 a0 (wrap64 (x8_1 + 1)) a0 y525 y534) = some (r1, r2, r3, r4) := by first | (rw [hy534]; with_reducible exact H) | (have H2_ := (Option.bind_some _ _).symm.trans H; rw [hy534]; with_reducible exact H2_) | (have H2_ := (Option.bind_some _ _).symm.trans H; with_reducible exact H2_) | with_reducible exact H | (rw [hy534]; exact H) | exact H
         have Ny534 := Aside0.mk hy534
         clear hy534
         have H' := Aside0.mk H
         clear H
         have hnb34 := NB528_521.out
         have hnc34 := NB521_528.out
         obtain ⟨hcz35_0, hcz35_1, hcz35_2, hfz35_0, hfz35_1, hfz35_2⟩ := cz3 BK528.out
         go_wp2_with (first | ((with_reducible refine gate_builtin (b := .append) (xs := #[.tmp 39, .tmp 45]) rfl ?_); at_builtin; refine Kd.R_append k98 (w0 := w) w.heap.size rfl (.tmp 39) (.tmp 45) 39 98 (.agg #[(.int .i64 0), (.int .i64 0), (.int .i64 0), (.bool false)]) 32 rfl Try.underlying39 info98 rfl (by decide) (by omega) u529002 x529002_1 (⟨x7_1, wrap64 (a0 - x7_1), 0, false⟩ : S98) [.int .i64 x7_1, .int .i64 (wrap64 (a0 - x7_1)), .int .i64 0, .bool false] (fun _ => True) (fun _ => False) rfl rfl ?aP (fun _ hk => hk.elim) ?aF ?aO ?aB ?aS ?aL ?_; (case aP => exact k98_mkM _ _ _ (⟨x7_1, wrap64 (a0 - x7_1), 0, false⟩ : S98)); (case aB => exact (bl HB.out)); (case aF => exact (fun _ _ => trivial)); (case aO => exact (rk HO_529002.out)); (case aS => exact (below_size (bl HB.out))); (case aL => have := LMc33.out; omega); intro v535 w36 ho hb hg hat; rw [← Ny534.out] at ho; replace HO_529001 := Aside0.mk (Kd.R_over' (rk HO_529001.out) (Kd.R_typed (rk HO_529002.out)) (by decide) hg); replace BK521 := Aside0.mk (blk_grown (g := gb521) (o := .cells #[.int .i64 x522000_1, .slice none 0 0, .slice none 0 0] 41 (0, 0)) (bk BK521.out) hg (Kd.R_ne HO_529002.out BK521.out (by decide))); replace BK528 := Aside0.mk (blk_grown (g := gb528) (o := .cells #[.int .i64 a0, .slice Ao8 y525.length co8, u529002] 41 (0, 0)) (bk BK528.out) hg (Kd.R_ne HO_529002.out BK528.out (by decide))); replace HB := Aside0.mk (hb); have HO536 := Aside0.mk (ho); clear HO_529002; clear ho hb hg hat; obtain ⟨Ao37, co37, eo37⟩ := Kd.R_slice HO536.out; subst eo37; obtain ⟨hcz38_0, hcz38_1, hcz38_2, hfz38_0, hfz38_1, hfz38_2⟩ := cz3 BK528.out))
         go_roundg k1
         case measure => have := HK1.out; omega
         case rel => exact ⟨(a0), (wrap64 (x8_1 + 1)), (x522000_1), (y534), (.slice Ao37 y534.length co37), (by first | rfl | (simp; done) | (simp [*]; done)), (by first | rfl | (simp; done) | (simp [*]; done)), H', ⟨by have := HK1.out; omega⟩, ⟨by refine rk ?_; exact Kd.R_mono (Kd.R_far (p := ⟨gb528, 2, none⟩) (Kd.R_types HO_529001.out BK528.out (by decide)) (fun _ hk => hk.2) (.slice Ao37 y534.length co37)) (fun _ hk => trivial)⟩, ⟨by refine rk ?_; exact Kd.R_mono (Kd.R_far (p := ⟨gb528, 2, none⟩) (Kd.R_types HO536.out BK528.out (by decide)) (fun _ hk => hk.2) (.slice Ao37 y534.length co37)) (fun _ hk => trivial)⟩, ⟨by refine bk ?_; refine blk_far ?_ NB521_528.out _; refine bk ?_; exact BK521.out⟩, ⟨by refine bk ?_; refine blk_put (cs := #[.int .i64 a0, .slice Ao8 y525.length co8, u529002]) ?_ 2 _ rfl; refine bk ?_; exact BK528.out⟩, ⟨bl HB.out⟩⟩
        ·rw [if_neg c33] at H
         exact absurd H (by simp)
    ·rw [if_neg c12] at H
     have c12b0 : decide (x8_1 ≤ (l1.length : Int)) = false := decide_eq_false c12
     clear c12
     replace H := Option.bind_eq_some_iff.mp H
     obtain ⟨t529, A390, H⟩ := H
     try dsimp only at H
     have A39 := Aside0.mk A390
     clear A390
     by_cases c40 : t529 = true
     ·subst c40
      rw [if_pos rfl] at H
      simp only [Option.some.injEq, Prod.mk.injEq] at H
      obtain ⟨rfl, rfl, rfl, rfl⟩ := H
      have hnb41 := NB528_521.out
      have hnc41 := NB521_528.out
      obtain ⟨hcz42_0, hcz42_1, hcz42_2, hfz42_0, hfz42_1, hfz42_2⟩ := cz3 BK528.out
      obtain ⟨Ao43, co43, eo43⟩ := Kd.R_slice HO_529002.out
      subst eo43
      go_wp2_with (first | ((with_reducible refine gate_callee (f := 91) rfl ?_); refine goesL_ (some 50) rfl rfl Try.func91 (by kernel_rfl) rfl #[.agg #[.int .i64 a0, .slice Ao8 y525.length co8, .slice Ao43 x529002_1.length co43]] rfl mapd ?_; (with_reducible refine (spec_ColumnOk.calls k1 a0 _ _ y525 _ _ x529002_1 true _ ?side1 ?side2 ?side3 ?side4 A39.out).mono ?_); (case side1 => exact cb ((Kd.R_reads' HO_529001.out).2.2)); (case side2 => exact (Kd.R_reads' HO_529001.out).2.1); (case side3 => exact cb ((Kd.R_reads' HO_529002.out).2.2)); (case side4 => exact (Kd.R_reads' HO_529002.out).2.1); rintro e w44 ⟨rfl, hb⟩; refine ⟨_, rfl, ?_⟩; replace HO_529001 := Aside0.mk (Kd.R_below (rk HO_529001.out) hb); replace HO_529002 := Aside0.mk (Kd.R_below (rk HO_529002.out) hb); replace BK521 := Aside0.mk (bb BK521.out hb); replace BK528 := Aside0.mk (bb BK528.out hb); replace HB := Aside0.mk (below_step (bl HB.out) hb); (try clear hb); (try clear hb2); (try clear hk); (try clear hi); obtain ⟨hcz45_0, hcz45_1, hcz45_2, hfz45_0, hfz45_1, hfz45_2⟩ := cz3 BK528.out; obtain ⟨hcz46_0, hcz46_1, hcz46_2, hfz46_0, hfz46_1, hfz46_2⟩ := cz3 BK521.out))
      refine bodyPost_ret (results_ct rfl _ _ gb521 41 #[.int .i64 a0, .slice Ao8 y525.length co8, .slice Ao43 x529002_1.length co43] (0, 0) _ rfl (by refine bk ?_; refine blk_put (cs := #[.int .i64 a0, .slice Ao8 y525.length co8, .slice none 0 0]) ?_ 2 _ rfl; refine bk ?_; refine blk_put (cs := #[.int .i64 a0, .slice none 0 0, .slice none 0 0]) ?_ 1 _ rfl; refine bk ?_; refine blk_put (cs := #[.int .i64 x522000_1, .slice none 0 0, .slice none 0 0]) ?_ 0 _ rfl; refine bk ?_; exact BK521.out) Try.underlying41 rfl (by kernel_rfl)) rfl ?_
      exact ⟨_, _, by first | rfl | (simp [errW_none, errW_some] <;> rfl) | (simp [*, errW_none, errW_some] <;> rfl), by refine rk ?_; exact Kd.R_mono (Kd.R_far (p := ⟨gb521, 2, none⟩) (Kd.R_far (p := ⟨gb521, 1, none⟩) (Kd.R_far (p := ⟨gb521, 0, none⟩) (Kd.R_types HO_529001.out BK521.out (by decide)) (fun _ hk => hk.2) (.int .i64 a0)) (fun _ hk => hk.2) (.slice Ao8 y525.length co8)) (fun _ hk => hk.2) (.slice Ao43 x529002_1.length co43)) (fun _ hk => trivial), by refine rk ?_; exact Kd.R_mono (Kd.R_far (p := ⟨gb521, 2, none⟩) (Kd.R_far (p := ⟨gb521, 1, none⟩) (Kd.R_far (p := ⟨gb521, 0, none⟩) (Kd.R_types HO_529002.out BK521.out (by decide)) (fun _ hk => hk.2) (.int .i64 a0)) (fun _ hk => hk.2) (.slice Ao8 y525.length co8)) (fun _ hk => hk.2) (.slice Ao43 x529002_1.length co43)) (fun _ hk => trivial), bl HB.out⟩
     ·replace c40 := Bool.eq_false_iff.mpr c40
      subst c40
      rw [if_neg (show ¬ (false = true) by decide)] at H
      simp only [Option.some.injEq, Prod.mk.injEq] at H
      obtain ⟨rfl, rfl, rfl, rfl⟩ := H
      have hnb47 := NB528_521.out
      have hnc47 := NB521_528.out
      obtain ⟨hcz48_0, hcz48_1, hcz48_2, hfz48_0, hfz48_1, hfz48_2⟩ := cz3 BK528.out
      obtain ⟨Ao49, co49, eo49⟩ := Kd.R_slice HO_529002.out
      subst eo49
      go_wp2_with (first | ((with_reducible refine gate_callee (f := 91) rfl ?_); refine goesL_ (some 50) rfl rfl Try.func91 (by kernel_rfl) rfl #[.agg #[.int .i64 a0, .slice Ao8 y525.length co8, .slice Ao49 x529002_1.length co49]] rfl mapd ?_; (with_reducible refine (spec_ColumnOk.calls k1 a0 _ _ y525 _ _ x529002_1 false _ ?side1 ?side2 ?side3 ?side4 A39.out).mono ?_); (case side1 => exact cb ((Kd.R_reads' HO_529001.out).2.2)); (case side2 => exact (Kd.R_reads' HO_529001.out).2.1); (case side3 => exact cb ((Kd.R_reads' HO_529002.out).2.2)); (case side4 => exact (Kd.R_reads' HO_529002.out).2.1); rintro e w50 ⟨rfl, hb⟩; refine ⟨_, rfl, ?_⟩; replace HO_529001 := Aside0.mk (Kd.R_below (rk HO_529001.out) hb); replace HO_529002 := Aside0.mk (Kd.R_below (rk HO_529002.out) hb); replace BK521 := Aside0.mk (bb BK521.out hb); replace BK528 := Aside0.mk (bb BK528.out hb); replace HB := Aside0.mk (below_step (bl HB.out) hb); (try clear hb); (try clear hb2); (try clear hk); (try clear hi); obtain ⟨hcz51_0, hcz51_1, hcz51_2, hfz51_0, hfz51_1, hfz51_2⟩ := cz3 BK521.out))
      refine bodyPost_ret (results_ct rfl _ _ gb521 41 #[.int .i64 0, .slice none 0 0, .slice none 0 0] (0, 0) _ rfl (by refine bk ?_; refine blk_put (cs := #[.int .i64 0, .slice none 0 0, .slice none 0 0]) ?_ 2 _ rfl; refine bk ?_; refine blk_put (cs := #[.int .i64 0, .slice none 0 0, .slice none 0 0]) ?_ 1 _ rfl; refine bk ?_; refine blk_put (cs := #[.int .i64 x522000_1, .slice none 0 0, .slice none 0 0]) ?_ 0 _ rfl; refine bk ?_; exact BK521.out) Try.underlying41 rfl (by kernel_rfl)) rfl ?_
      exact ⟨_, _, by first | rfl | (simp [errW_none, errW_some] <;> rfl) | (simp [*, errW_none, errW_some] <;> rfl), by first | exact Kd.R_nil _ _ _ _ _ | exact Kd.N_nil _ _ _ _ _ | exact Kd.V_nil _ _ _ _ _ | exact Kd.Q_nil _ _ _ _ _ | exact Kd.S_nil _ _ _ _ _, by first | exact Kd.R_nil _ _ _ _ _ | exact Kd.N_nil _ _ _ _ _ | exact Kd.V_nil _ _ _ _ _ | exact Kd.Q_nil _ _ _ _ _ | exact Kd.S_nil _ _ _ _ _, bl HB.out⟩
 ·rw [if_neg c3] at H
  exact absurd H (by simp)
def spec_l01Once.f (s0_0 : List Int) (s0_1 : Int) (s0_2 : Int) (a1 : Int) : Option (Bool × Int × Int) := (spec_l01Below.f s0_0 s0_1 s0_2 a1).bind fun bt537 => (some ((bt537.1 == 0), bt537.2.1, bt537.2.2))
set_option maxHeartbeats 8000000 in
set_option maxRecDepth 100000 in
theorem spec_l01Once.calls (g : Nat) (s0_0 : List Int) (s0_1 : Int) (s0_2 : Int) (a1 : Int) (r1 : Bool) (r2 : Int) (r3 : Int) (w0 w : World) (hI : IsS116 w0 w g s0_0 s0_1 s0_2) (hB : Below w0.heap.size w0 w) (h : spec_l01Once.f s0_0 s0_1 s0_2 a1 = some (r1, r2, r3)) :
  Calls Try.prog 123 #[.pointer (some ⟨g, 0, none⟩), .int .i64 a1] w fun e w' => e = .returned (.bool r1) ∧ IsS116 w0 w' g s0_0 r2 r3 ∧ Below w0.heap.size w0 w' ∧ KeepBut w w' g none := by
 have HI0 := Aside0.mk hI
 have HK := Aside0.mk (KeepBut.refl w g none)
 have HL := Aside0.mk hB.size
 clear hI
 have HW0 := Aside0.mk hB.size
 have HB := Aside0.mk hB
 clear hB
 have H : ((spec_l01Below.f s0_0 s0_1 s0_2 a1).bind fun bt537 => (some ((bt537.1 == 0), bt537.2.1, bt537.2.2))) = some (r1, r2, r3) := h
 clear h
 replace H := Option.bind_eq_some_iff.mp H
 obtain ⟨⟨t537, t538, t539⟩, A30, H⟩ := H
 try dsimp only at H
 have A3 := Aside0.mk A30
 clear A30
 simp only [Option.some.injEq, Prod.mk.injEq] at H
 obtain ⟨rfl, rfl, rfl⟩ := H
 go_enter Try.func123, Try.ntmps123
 go_wp2_with (first | ((with_reducible refine gate_callee (f := 78) rfl ?_); refine goesL_ (some 7) rfl rfl Try.func78 (by kernel_rfl) rfl #[.pointer (some ⟨g, 0, none⟩), .int .i64 a1] rfl mapd ?_; (with_reducible refine (spec_l01Below.calls g s0_0 s0_1 s0_2 a1 t537 t538 t539 w0 _ ?side1 ?side2 A3.out).mono ?_); (case side1 => exact is116 HI0.out); (case side2 => exact bl116 HB.out); rintro e w4 ⟨rfl, hi, hb, hk⟩; refine ⟨_, rfl, ?_⟩; replace HK := Aside0.mk (KeepBut.trans (kp HK.out) hk (.inl rfl)); replace HB := Aside0.mk (hb); replace HI0 := Aside0.mk (hi); (try clear hb); (try clear hb2); (try clear hk); (try clear hi)))
 go_ret
 exact ⟨by first | rfl | (simp [errW_none, errW_some] <;> rfl) | (simp [*, errW_none, errW_some] <;> rfl), is116 HI0.out, bl116 HB.out, kp HK.out⟩
end Go.Proofs.Ytbpjidekjogfeaa.A
