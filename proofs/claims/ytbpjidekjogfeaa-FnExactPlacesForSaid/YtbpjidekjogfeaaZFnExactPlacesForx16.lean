/- Used by the law FnExactPlacesFor. -/
import Derived.Test.YtbpjidekjogfeaaZFnExactPlacesForx12
import Derived.Test.YtbpjidekjogfeaaZFnExactPlacesForx15
import Derived.Test.YtbpjidekjogfeaaZFnExactPlacesForh
namespace Go.Proofs.Ytbpjidekjogfeaa.A
open Go.RowKit Go.Proofs.YtbpjidekjogfeaaW.PrintWords Go.Proofs.YtbpjidekjogfeaaW.PrintLast Go.Proofs.YtbpjidekjogfeaaW.PrintMore
attribute [local go_sem] max2_int min2_int max_two min_two max_three min_three max_four min_four   
set_option linter.unusedVariables false
set_option linter.unusedSimpArgs false
mutual
def impl_runsOf.l0 : Nat → List (S113) → Bool → List (S98) → Int → Int → Int → List Int → List (S98) → Option ((List (S113)))
 | 0, _, _, _, _, _, _, _, _ => none
 | k + 1, x3, x4, x9, x10, x11, x209000, x209001, x209002 => if x11 < x10 then (if 0 ≤ x11 then (if x11 < (x9.length : Int) then (if ((rd_T98 x9 x11).f2) = 0 then (impl_runsOf.j1 k x3 x4 x11 x9 x10 x11 ((rd_T98 x9 x11).f3) x209000 x209001 x209002 ((rd_T98 x9 x11).f0) ((rd_T98 x9 x11).f1) ((rd_T98 x9 x11).f2) ((rd_T98 x9 x11).f3)) else (impl_runsOf.j1 k x3 x4 x11 x9 x10 x11 true x209000 x209001 x209002 ((rd_T98 x9 x11).f0) ((rd_T98 x9 x11).f1) ((rd_T98 x9 x11).f2) ((rd_T98 x9 x11).f3))) else (none)) else (none)) else (some x3)
def impl_runsOf.j1 : Nat → List (S113) → Bool → Int → List (S98) → Int → Int → Bool → Int → List Int → List (S98) → Int → Int → Int → Bool → Option ((List (S113)))
 | 0, _, _, _, _, _, _, _, _, _, _, _, _, _, _ => none
 | k + 1, x3, x4, x5, x9, x10, x11, x22, x209000, x209001, x209002, x211000, x211001, x211002, x211003 => if x22 = true then (impl_runsOf.l0 k x3 false x9 x10 (wrap64 (x11 + 1)) x209000 x209001 x209002) else (if x4 = true then ((slices_Contains_int_int.f k x209001 x211000).bind fun t211 => (if t211 = true then (if x3.length < 3518437208883 then (impl_runsOf.l0 k (x3 ++ [(⟨(⟨0, x211000, x211001⟩ : S50), x5, wrap64 (x5 + 1)⟩ : S113)]) true x9 x10 (wrap64 (x11 + 1)) x209000 x209001 x209002) else (none)) else (if 0 ≤ (wrap64 ((x3.length : Int) - 1)) then (if (wrap64 ((x3.length : Int) - 1)) < (x3.length : Int) then ((some (x3.set ((wrap64 ((x3.length : Int) - 1)) : Int).toNat (⟨(⟨(rd_T113 x3 (wrap64 ((x3.length : Int) - 1))).f0.f0, (rd_T113 x3 (wrap64 ((x3.length : Int) - 1))).f0.f1, wrap64 (((rd_T113 x3 (wrap64 ((x3.length : Int) - 1))).f0.f2) + x211001)⟩ : S50), (rd_T113 x3 (wrap64 ((x3.length : Int) - 1))).f1, (rd_T113 x3 (wrap64 ((x3.length : Int) - 1))).f2⟩ : S113) : List (S113))).bind fun y216 => (impl_runsOf.l0 k (y216.set ((wrap64 ((x3.length : Int) - 1)) : Int).toNat (⟨(⟨(rd_T113 y216 (wrap64 ((x3.length : Int) - 1))).f0.f0, (rd_T113 y216 (wrap64 ((x3.length : Int) - 1))).f0.f1, (rd_T113 y216 (wrap64 ((x3.length : Int) - 1))).f0.f2⟩ : S50), (rd_T113 y216 (wrap64 ((x3.length : Int) - 1))).f1, wrap64 (((rd_T113 y216 (wrap64 ((x3.length : Int) - 1))).f2) + 1)⟩ : S113)) true x9 x10 (wrap64 (x11 + 1)) x209000 x209001 x209002)) else (none)) else (none)))) else (if x3.length < 3518437208883 then (impl_runsOf.l0 k (x3 ++ [(⟨(⟨0, x211000, x211001⟩ : S50), x5, wrap64 (x5 + 1)⟩ : S113)]) true x9 x10 (wrap64 (x11 + 1)) x209000 x209001 x209002) else (none)))
end
def impl_runsOf.f (k : Nat) (a0_0 : Int) (l0_1 : List Int) (l0_2 : List (S98)) : Option ((List (S113))) := impl_runsOf.l0 k ([] : List (S113)) false l0_2 (l0_2.length : Int) 0 a0_0 l0_1 l0_2
def impl_runsOf.T10 : Bool × List (List Nat × List Nat) := (true, [([], []), ([0], [0]), ([1], [1]), ([2], [2]), ([3], [3]), ([], []), ([5], [5]), ([4, 6], [4, 6]), ([0, 0, 1, 2, 3, 4, 5, 6, 7], [0]), ([8, 0, 1, 2, 3, 4, 5, 6, 7], [8]), ([9, 0, 1, 2, 3, 4, 5, 6, 7], [9]), ([10, 7, 0, 1, 2, 3, 4, 5, 6, 7], [7, 10])])
def impl_runsOf.B10 : List Nat := [0, 1, 3, 7, 15, 0, 32, 127, 255, 511, 1023, 2047]
theorem impl_runsOf.tab10 : rtab .any (opsOf Try.f109 10) = impl_runsOf.T10 := by kernel_rfl
theorem impl_runsOf.bits10 : waitsOk impl_runsOf.T10.2 impl_runsOf.B10 = true := by kernel_rfl
set_option maxHeartbeats 8000000 in
set_option maxRecDepth 100000 in
theorem impl_runsOf.calls (k : Nat) (a0_0 : Int) (A0_1 : Option Addr) (c0_1 : Nat) (l0_1 : List Int) (A0_2 : Option Addr) (c0_2 : Nat) (l0_2 : List (S98)) (r : List (S113)) (w : World) (hr0_1 : Kd.C (Kd.int .i64) w A0_1 l0_1.length l0_1) (hc0_1 : l0_1.length ≤ c0_1) (hr0_2 : Kd.C k98 w A0_2 l0_2.length l0_2) (hc0_2 : l0_2.length ≤ c0_2) (h : impl_runsOf.f k a0_0 l0_1 l0_2 = some r) :
  Calls Try.prog 109 #[.agg #[.int .i64 a0_0, .slice A0_1 l0_1.length c0_1, .slice A0_2 l0_2.length c0_2]] w fun e w' => ∃ v0_ : Value, e = .returned (v0_) ∧ Kd.R k113 113 w' w.heap.size (fun _ => True) v0_ r ∧ Below w.heap.size w w' := by
 have hu41 := Try.underlying41
 have hu98 := Try.underlying98
 have hu50 := Try.underlying50
 have hu113 := Try.underlying113
 have HR0_1 := Aside0.mk hr0_1
 have HC0_1 := Aside0.mk hc0_1
 clear hr0_1 hc0_1
 have HR0_2 := Aside0.mk hr0_2
 have HC0_2 := Aside0.mk hc0_2
 clear hr0_2 hc0_2
 have HB := Aside0.mk (Below.refl w.heap.size w)
 have H : (impl_runsOf.l0 k ([] : List (S113)) false l0_2 (l0_2.length : Int) 0 a0_0 l0_1 l0_2) = some r := h
 clear h
 have H' := Aside0.mk H
 clear H
 go_enter Try.func109, Try.ntmps109
 go_wp2_with (first | ((with_reducible refine gate_dst (N := 1) rfl ?_); refine bx (cs := #[.int .i64 a0_0, .slice A0_1 l0_1.length c0_1, .slice A0_2 l0_2.length c0_2]) (t := 41) fun gb208 hg w2 hbox hb => ?_; have BK208 := Aside0.mk (hbox); have GW208 := Aside0.mk (gs HB.out hg); have GE208 := Aside0.mk (gs HB.out hg); replace HB := Aside0.mk (below_step (bl HB.out) hb); clear hb hbox hg; obtain ⟨hcz3_0, hcz3_1, hcz3_2, hfz3_0, hfz3_1, hfz3_2⟩ := cz3 BK208.out))
 go_loopg [3, 4, 11] k (fun kq v3 v4 v11 w' => ∃ (x3_1 : List (S113)) (x4_1 : Bool) (x11_1 : Int), v4 = .bool x4_1 ∧ v11 = .int .i64 x11_1 ∧ Aside0 (impl_runsOf.l0 kq x3_1 x4_1 l0_2 (l0_2.length : Int) x11_1 a0_0 l0_1 l0_2 = some r) ∧ Aside0 (kq ≤ k) ∧ Aside0 (Kd.R k113 113 w' w.heap.size (fun _ => True) v3 x3_1) ∧ Aside0 (w'.heap[gb208]? = some (.cells #[.int .i64 a0_0, (.slice A0_1 l0_1.length c0_1), (.slice A0_2 l0_2.length c0_2)] 41 (0, 0))) ∧ Aside0 (Below w.heap.size w w'))
 case atStart => exact ⟨(([] : List (S113))), (false), (0), (by first | rfl | (simp; done) | (simp [*]; done)), (by first | rfl | (simp; done) | (simp [*]; done)), H', ⟨Nat.le_refl _⟩, ⟨by first | exact Kd.R_nil _ _ _ _ _ | exact Kd.N_nil _ _ _ _ _ | exact Kd.V_nil _ _ _ _ _ | exact Kd.Q_nil _ _ _ _ _ | exact Kd.S_nil _ _ _ _ _⟩, ⟨by refine bk ?_; exact BK208.out⟩, ⟨bl HB.out⟩⟩
 case round =>
  clear H'
  try clear c1
  try clear p2
  try clear hcz3_0
  try clear hcz3_1
  try clear hcz3_2
  try clear hfz3_0
  try clear hfz3_1
  try clear hfz3_2
  obtain ⟨x3_1, x4_1, x11_1, rfl, rfl, HA, HK1, HO_3, BK208, HB⟩ := hrel
  cases gk with
  | zero => exact absurd HA.out (by simp [impl_runsOf.l0])
  | succ k1 =>
   have H := HA.out
   clear HA
   simp only [impl_runsOf.l0] at H
   by_cases c4 : x11_1 < (l0_2.length : Int)
   ·rw [if_pos c4] at H
    have c4b0 : decide (x11_1 < (l0_2.length : Int)) = true := decide_eq_true c4
    clear c4
    by_cases c5 : 0 ≤ x11_1
    ·rw [if_pos c5] at H
     have c5b0 : decide (0 ≤ x11_1) = true := decide_eq_true c5
     clear c5
     by_cases c6 : x11_1 < (l0_2.length : Int)
     ·rw [if_pos c6] at H
      have c6b0 : decide (x11_1 < (l0_2.length : Int)) = true := decide_eq_true c6
      clear c6
      have HC7 := Aside0.mk H
      clear H
      have p209 : 0 ≤ (x11_1 : Int) := of_decide_eq_true asm
      have q209 : x11_1 < (l0_2.length : Int) := of_decide_eq_true asm
      obtain ⟨ad209, e209, hx209_0, hx209_1, hx209_2, hx209_3⟩ := at_T98 HR0_2.out x11_1 p209 q209
      cases e209
      replace hx209_0 := (HB.out.cell (World.block_lt_of_cell? w _ hx209_0)).trans hx209_0
      replace hx209_1 := (HB.out.cell (World.block_lt_of_cell? w _ hx209_1)).trans hx209_1
      replace hx209_2 := (HB.out.cell (World.block_lt_of_cell? w _ hx209_2)).trans hx209_2
      replace hx209_3 := (HB.out.cell (World.block_lt_of_cell? w _ hx209_3)).trans hx209_3
      replace p209 := eq_true p209
      replace q209 := eq_true q209
      go_upto_region 6 with (first | ((with_reducible refine gate_dst (N := 6) rfl ?_); refine bx (cs := #[.int .i64 0, .int .i64 0, .int .i64 0, .bool false]) (t := 98) fun gb210 hg w8 hbox hb => ?_; replace HO_3 := Aside0.mk (Kd.R_below (rk HO_3.out) hb); have BK210 := Aside0.mk (hbox); have GW210 := Aside0.mk (gs HB.out hg); have GE210 := Aside0.mk (gs HB.out hg); replace HB := Aside0.mk (below_step (bl HB.out) hb); have NB208_210 := Aside0.mk ((nl BK208.out hg)); have NB210_208 := Aside0.mk ((ng BK208.out hg)); replace BK208 := Aside0.mk (bb BK208.out hb); clear hb hbox hg; have hnb9 := NB210_208.out; have hnc9 := NB208_210.out; obtain ⟨hcz10_0, hcz10_1, hcz10_2, hcz10_3, hfz10_0, hfz10_1, hfz10_2, hfz10_3⟩ := cz4 BK210.out))
      (try simp only [Act.put, List.setIfInBounds_toArray, List.set_cons_zero, List.set_cons_succ])
      go_cut [22] (fun v22 wc => ∃ (kq : Nat) (x22_6 : Bool), v22 = .bool x22_6 ∧ Aside0 (impl_runsOf.j1 kq x3_1 x4_1 x11_1 l0_2 (l0_2.length : Int) x11_1 x22_6 a0_0 l0_1 l0_2 ((rd_T98 l0_2 x11_1).f0) ((rd_T98 l0_2 x11_1).f1) ((rd_T98 l0_2 x11_1).f2) ((rd_T98 l0_2 x11_1).f3) = some r) ∧ Aside0 (kq ≤ k1) ∧ Aside0 (Kd.R k113 113 wc w.heap.size (fun _ => True) u3 x3_1) ∧ Aside0 (wc.heap[gb208]? = some (.cells #[.int .i64 a0_0, (.slice A0_1 l0_1.length c0_1), (.slice (some ad209) l0_2.length c0_2)] 41 (0, 0))) ∧ Aside0 (wc.heap[gb210]? = some (.cells #[.int .i64 ((rd_T98 l0_2 x11_1).f0), .int .i64 ((rd_T98 l0_2 x11_1).f1), .int .i64 ((rd_T98 l0_2 x11_1).f2), .bool ((rd_T98 l0_2 x11_1).f3)] 98 (0, 0))) ∧ Aside0 (Below w.heap.size w wc))
      case first =>
       have H := HC7.out
       clear HC7
       by_cases c11 : ((rd_T98 l0_2 x11_1).f2) = 0
       ·rw [if_pos c11] at H
        have c11b0 : (((rd_T98 l0_2 x11_1).f2) == 0) = true := beq_iff_eq.mpr c11
        have c11b1 : (((rd_T98 l0_2 x11_1).f2) != 0) = false := bne_eq_false_iff_eq.mpr c11
        clear c11
        (first | rw [c11b0] | (simp only [i64_w, i32_w]; rw [c11b0]) | skip)
        have H' := Aside0.mk H
        clear H
        have hnb12 := NB210_208.out
        have hnc12 := NB208_210.out
        obtain ⟨hcz13_0, hcz13_1, hcz13_2, hcz13_3, hfz13_0, hfz13_1, hfz13_2, hfz13_3⟩ := cz4 BK210.out
        go_wp2
        go_meet
        case rel => exact ⟨_, ((rd_T98 l0_2 x11_1).f3), (by first | rfl | (simp; done) | (simp [*]; done)), H', ⟨by have := HK1.out; first | omega | exact Nat.le_refl _⟩, ⟨by refine rk ?_; exact Kd.R_mono (Kd.R_far (p := ⟨gb210, 3, none⟩) (Kd.R_far (p := ⟨gb210, 2, none⟩) (Kd.R_far (p := ⟨gb210, 1, none⟩) (Kd.R_far (p := ⟨gb210, 0, none⟩) (Kd.R_types HO_3.out BK210.out (by decide)) (fun _ hk => hk.2) (.int .i64 ((rd_T98 l0_2 x11_1).f0))) (fun _ hk => hk.2) (.int .i64 ((rd_T98 l0_2 x11_1).f1))) (fun _ hk => hk.2) (.int .i64 ((rd_T98 l0_2 x11_1).f2))) (fun _ hk => hk.2) (.bool ((rd_T98 l0_2 x11_1).f3))) (fun _ hk => trivial)⟩, ⟨by refine bk ?_; refine blk_far ?_ NB208_210.out _; refine bk ?_; refine blk_far ?_ NB208_210.out _; refine bk ?_; refine blk_far ?_ NB208_210.out _; refine bk ?_; refine blk_far ?_ NB208_210.out _; refine bk ?_; exact BK208.out⟩, ⟨by refine bk ?_; refine blk_put (cs := #[.int .i64 ((rd_T98 l0_2 x11_1).f0), .int .i64 ((rd_T98 l0_2 x11_1).f1), .int .i64 ((rd_T98 l0_2 x11_1).f2), .bool false]) ?_ 3 _ rfl; refine bk ?_; refine blk_put (cs := #[.int .i64 ((rd_T98 l0_2 x11_1).f0), .int .i64 ((rd_T98 l0_2 x11_1).f1), .int .i64 0, .bool false]) ?_ 2 _ rfl; refine bk ?_; refine blk_put (cs := #[.int .i64 ((rd_T98 l0_2 x11_1).f0), .int .i64 0, .int .i64 0, .bool false]) ?_ 1 _ rfl; refine bk ?_; refine blk_put (cs := #[.int .i64 0, .int .i64 0, .int .i64 0, .bool false]) ?_ 0 _ rfl; refine bk ?_; exact BK210.out⟩, ⟨bl HB.out⟩⟩
       ·rw [if_neg c11] at H
        have c11b0 : (((rd_T98 l0_2 x11_1).f2) == 0) = false := beq_eq_false_iff_ne.mpr c11
        have c11b1 : (((rd_T98 l0_2 x11_1).f2) != 0) = true := bne_iff_ne.mpr c11
        (first | rw [c11b0] | (simp only [i64_w, i32_w]; rw [c11b0]) | skip)
        have H' := Aside0.mk H
        clear H
        have hnb14 := NB210_208.out
        have hnc14 := NB208_210.out
        obtain ⟨hcz15_0, hcz15_1, hcz15_2, hcz15_3, hfz15_0, hfz15_1, hfz15_2, hfz15_3⟩ := cz4 BK210.out
        go_wp2
        go_meet
        case rel => exact ⟨_, (true), (by first | rfl | (simp; done) | (simp [*]; done)), H', ⟨by have := HK1.out; first | omega | exact Nat.le_refl _⟩, ⟨by refine rk ?_; exact Kd.R_mono (Kd.R_far (p := ⟨gb210, 3, none⟩) (Kd.R_far (p := ⟨gb210, 2, none⟩) (Kd.R_far (p := ⟨gb210, 1, none⟩) (Kd.R_far (p := ⟨gb210, 0, none⟩) (Kd.R_types HO_3.out BK210.out (by decide)) (fun _ hk => hk.2) (.int .i64 ((rd_T98 l0_2 x11_1).f0))) (fun _ hk => hk.2) (.int .i64 ((rd_T98 l0_2 x11_1).f1))) (fun _ hk => hk.2) (.int .i64 ((rd_T98 l0_2 x11_1).f2))) (fun _ hk => hk.2) (.bool ((rd_T98 l0_2 x11_1).f3))) (fun _ hk => trivial)⟩, ⟨by refine bk ?_; refine blk_far ?_ NB208_210.out _; refine bk ?_; refine blk_far ?_ NB208_210.out _; refine bk ?_; refine blk_far ?_ NB208_210.out _; refine bk ?_; refine blk_far ?_ NB208_210.out _; refine bk ?_; exact BK208.out⟩, ⟨by refine bk ?_; refine blk_put (cs := #[.int .i64 ((rd_T98 l0_2 x11_1).f0), .int .i64 ((rd_T98 l0_2 x11_1).f1), .int .i64 ((rd_T98 l0_2 x11_1).f2), .bool false]) ?_ 3 _ rfl; refine bk ?_; refine blk_put (cs := #[.int .i64 ((rd_T98 l0_2 x11_1).f0), .int .i64 ((rd_T98 l0_2 x11_1).f1), .int .i64 0, .bool false]) ?_ 2 _ rfl; refine bk ?_; refine blk_put (cs := #[.int .i64 ((rd_T98 l0_2 x11_1).f0), .int .i64 0, .int .i64 0, .bool false]) ?_ 1 _ rfl; refine bk ?_; refine blk_put (cs := #[.int .i64 0, .int .i64 0, .int .i64 0, .bool false]) ?_ 0 _ rfl; refine bk ?_; exact BK210.out⟩, ⟨bl HB.out⟩⟩
      case rest =>
       clear HC7
       try clear c1
       try clear p2
       try clear q2
       try clear hx2
       try clear c4
       try clear c4b0
       try clear c5
       try clear c5b0
       try clear c6
       try clear c6b0
       try clear c9
       try clear c10
       try clear c11
       try clear c11b0
       try clear c11b1
       try clear c12
       try clear c14
       try clear hcz10_0
       try clear hcz10_1
       try clear hcz10_2
       try clear hcz10_3
       try clear hcz13_0
       try clear hcz13_1
       try clear hcz13_2
       try clear hcz13_3
       try clear hcz15_0
       try clear hcz15_1
       try clear hcz15_2
       try clear hcz15_3
       try clear hcz3_0
       try clear hcz3_1
       try clear hcz3_2
       try clear hfz10_0
       try clear hfz10_1
       try clear hfz10_2
       try clear hfz10_3
       try clear hfz13_0
       try clear hfz13_1
       try clear hfz13_2
       try clear hfz13_3
       try clear hfz15_0
       try clear hfz15_1
       try clear hfz15_2
       try clear hfz15_3
       try clear hfz3_0
       try clear hfz3_1
       try clear hfz3_2
       try clear hx209_0
       try clear hx209_1
       try clear hx209_2
       try clear hx209_3
       try clear p2
       try clear p209
       try clear q209
       obtain ⟨kq, x22_6, rfl, HA, HJ6, HO_3, BK208, BK210, HB⟩ := hcut
       cases kq with
       | zero => exact absurd HA.out (by simp [impl_runsOf.j1])
       | succ kj6 =>
        have H := HA.out
        clear HA
        simp only [impl_runsOf.j1] at H
        by_cases c16 : x22_6 = true
        ·subst c16
         rw [if_pos rfl] at H
         have H' := Aside0.mk H
         clear H
         go_wp2
         go_roundg kj6
         case measure => have := HK1.out; have := HJ6.out; omega
         case rel => exact ⟨(x3_1), (false), (wrap64 (x11_1 + 1)), (by first | rfl | (simp; done) | (simp [*]; done)), (by first | rfl | (simp; done) | (simp [*]; done)), H', ⟨by have := HK1.out; have := HJ6.out; omega⟩, ⟨rk HO_3.out⟩, ⟨by refine bk ?_; exact BK208.out⟩, ⟨bl HB.out⟩⟩
        ·replace c16 := Bool.eq_false_iff.mpr c16
         subst c16
         rw [if_neg (show ¬ (false = true) by decide)] at H
         by_cases c17 : x4_1 = true
         ·subst c17
          rw [if_pos rfl] at H
          replace H := Option.bind_eq_some_iff.mp H
          obtain ⟨t211, A180, H⟩ := H
          try dsimp only at H
          have A18 := Aside0.mk A180
          clear A180
          by_cases c19 : t211 = true
          ·subst c19
           rw [if_pos rfl] at H
           by_cases c20 : x3_1.length < 3518437208883
           ·rw [if_pos c20] at H
            have LMc20 := Aside0.mk c20
            clear c20
            obtain ⟨y212, hy212⟩ : ∃ y_ : List (S113), y_ = (x3_1 ++ [(⟨(⟨0, ((rd_T98 l0_2 x11_1).f0), ((rd_T98 l0_2 x11_1).f1)⟩ : S50), x11_1, wrap64 (x11_1 + 1)⟩ : S113)]) := ⟨_, rfl⟩
            replace H : (impl_runsOf.l0 kj6 y212 true l0_2 (l0_2.length : Int) (wrap64 (x11_1 + 1)) a0_0 l0_1 l0_2) = some r := by first | (rw [hy212]; with_reducible exact H) | (have H2_ := (Option.bind_some _ _).symm.trans H; rw [hy212]; with_reducible exact H2_) | (have H2_ := (Option.bind_some _ _).symm.trans H; with_reducible exact H2_) | with_reducible exact H | (rw [hy212]; exact H) | exact H
            have Ny212 := Aside0.mk hy212
            clear hy212
            have H' := Aside0.mk H
            clear H
            have hnb21 := NB208_210.out
            have hnc21 := NB210_208.out
            obtain ⟨hcz22_0, hcz22_1, hcz22_2, hfz22_0, hfz22_1, hfz22_2⟩ := cz3 BK208.out
            obtain ⟨hcz23_0, hcz23_1, hcz23_2, hcz23_3, hfz23_0, hfz23_1, hfz23_2, hfz23_3⟩ := cz4 BK210.out
            go_wp2_with (first | (go_at_call 124; (with_reducible refine (slices_Contains_int_int.calls kj6 _ _ l0_1 ((rd_T98 l0_2 x11_1).f0) true _ ?side1 ?side2 A18.out).mono ?_); (case side1 => exact cb (Kd.C_below HR0_1.out HB.out)); (case side2 => exact HC0_1.out); rintro e w' ⟨rfl, ⟨nd, rfl⟩⟩) | ((with_reducible refine gate_builtin (b := .append) (xs := #[.tmp 55, .tmp 65]) rfl ?_); at_builtin; refine Kd.R_append k113 (w0 := w) w.heap.size rfl (.tmp 55) (.tmp 65) 110 113 (.agg #[(.int .i64 0), (.int .i64 0), (.int .i64 0), (.int .i64 0), (.int .i64 0)]) 40 rfl Try.underlying110 info113 rfl (by decide) (by omega) u3 x3_1 (⟨(⟨0, ((rd_T98 l0_2 x11_1).f0), ((rd_T98 l0_2 x11_1).f1)⟩ : S50), x11_1, wrap64 (x11_1 + 1)⟩ : S113) [.int .i64 0, .int .i64 ((rd_T98 l0_2 x11_1).f0), .int .i64 ((rd_T98 l0_2 x11_1).f1), .int .i64 x11_1, .int .i64 (wrap64 (x11_1 + 1))] (fun _ => True) (fun _ => False) rfl rfl ?aP (fun _ hk => hk.elim) ?aF ?aO ?aB ?aS ?aL ?_; (case aP => exact k113_mkM _ _ _ (⟨(⟨0, ((rd_T98 l0_2 x11_1).f0), ((rd_T98 l0_2 x11_1).f1)⟩ : S50), x11_1, wrap64 (x11_1 + 1)⟩ : S113)); (case aB => exact (bl HB.out)); (case aF => exact (fun _ _ => trivial)); (case aO => exact (rk HO_3.out)); (case aS => exact (below_size (bl HB.out))); (case aL => have := LMc20.out; omega); intro v213 w24 ho hb hg hat; rw [← Ny212.out] at ho; replace BK208 := Aside0.mk (blk_grown (g := gb208) (o := .cells #[.int .i64 a0_0, .slice A0_1 l0_1.length c0_1, .slice (some ad209) l0_2.length c0_2] 41 (0, 0)) (bk BK208.out) hg (Kd.R_ne HO_3.out BK208.out (by decide))); replace BK210 := Aside0.mk (blk_grown (g := gb210) (o := .cells #[.int .i64 ((rd_T98 l0_2 x11_1).f0), .int .i64 ((rd_T98 l0_2 x11_1).f1), .int .i64 ((rd_T98 l0_2 x11_1).f2), .bool ((rd_T98 l0_2 x11_1).f3)] 98 (0, 0)) (bk BK210.out) hg (Kd.R_ne HO_3.out BK210.out (by decide))); replace HB := Aside0.mk (hb); have HO214 := Aside0.mk (ho); clear HO_3; clear ho hb hg hat))
            go_roundg kj6
            case measure => have := HK1.out; have := HJ6.out; omega
            case rel => exact ⟨(y212), (true), (wrap64 (x11_1 + 1)), (by first | rfl | (simp; done) | (simp [*]; done)), (by first | rfl | (simp; done) | (simp [*]; done)), H', ⟨by have := HK1.out; have := HJ6.out; omega⟩, ⟨rk HO214.out⟩, ⟨by refine bk ?_; exact BK208.out⟩, ⟨bl HB.out⟩⟩
           ·rw [if_neg c20] at H
            exact absurd H (by simp)
          ·replace c19 := Bool.eq_false_iff.mpr c19
           subst c19
           rw [if_neg (show ¬ (false = true) by decide)] at H
           obtain ⟨ji25, hji25⟩ : ∃ j_ : Int, (wrap64 ((x3_1.length : Int) - 1)) = j_ := ⟨_, rfl⟩
           replace H : (if 0 ≤ (ji25) then (if (ji25) < (x3_1.length : Int) then ((some (x3_1.set ((ji25) : Int).toNat (⟨(⟨(rd_T113 x3_1 (ji25)).f0.f0, (rd_T113 x3_1 (ji25)).f0.f1, wrap64 (((rd_T113 x3_1 (ji25)).f0.f2) + ((rd_T98 l0_2 x11_1).f1))⟩ : S50), (rd_T113 x3_1 (ji25)).f1, (rd_T113 x3_1 (ji25)).f2⟩ : S113) : List (S113))).bind fun y216 => (impl_runsOf.l0 kj6 (y216.set ((ji25) : Int).toNat (⟨(⟨(rd_T113 y216 (ji25)).f0.f0, (rd_T113 y216 (ji25)).f0.f1, (rd_T113 y216 (ji25)).f0.f2⟩ : S50), (rd_T113 y216 (ji25)).f1, wrap64 (((rd_T113 y216 (ji25)).f2) + 1)⟩ : S113)) true l0_2 (l0_2.length : Int) (wrap64 (x11_1 + 1)) a0_0 l0_1 l0_2)) else (none)) else (none)) = some r := by first | (rw [hji25] at H; exact H) | (simp only [hji25] at H ⊢; exact H)
           (try rw [hji25] at A18)
           have hji25w : (IntKind.i64.wrap ((x3_1.length : Int) - 1)) = ji25 := (i64_w _).trans hji25
           by_cases c26 : 0 ≤ (ji25)
           ·rw [if_pos c26] at H
            have c26b0 : decide (0 ≤ (ji25)) = true := decide_eq_true c26
            clear c26
            by_cases c27 : (ji25) < (x3_1.length : Int)
            ·rw [if_pos c27] at H
             have c27b0 : decide ((ji25) < (x3_1.length : Int)) = true := decide_eq_true c27
             clear c27
             obtain ⟨y216, hy216⟩ : ∃ y_ : List (S113), y_ = (x3_1.set ((ji25) : Int).toNat (⟨(⟨(rd_T113 x3_1 (ji25)).f0.f0, (rd_T113 x3_1 (ji25)).f0.f1, wrap64 (((rd_T113 x3_1 (ji25)).f0.f2) + ((rd_T98 l0_2 x11_1).f1))⟩ : S50), (rd_T113 x3_1 (ji25)).f1, (rd_T113 x3_1 (ji25)).f2⟩ : S113)) := ⟨_, rfl⟩
             replace H : (impl_runsOf.l0 kj6 (y216.set ((ji25) : Int).toNat (⟨(⟨(rd_T113 y216 (ji25)).f0.f0, (rd_T113 y216 (ji25)).f0.f1, (rd_T113 y216 (ji25)).f0.f2⟩ : S50), (rd_T113 y216 (ji25)).f1, wrap64 (((rd_T113 y216 (ji25)).f2) + 1)⟩ : S113)) true l0_2 (l0_2.length : Int) (wrap64 (x11_1 + 1)) a0_0 l0_1 l0_2) = some r := by first | (rw [hy216]; with_reducible exact H) | (have H2_ := (Option.bind_some _ _).symm.trans H; rw [hy216]; with_reducible exact H2_) | (have H2_ := (Option.bind_some _ _).symm.trans H; with_reducible exact H2_) | with_reducible exact H | (rw [hy216]; exact H) | exact H
             have Ny216 := Aside0.mk hy216
             clear hy216
             obtain ⟨y218, hy218⟩ : ∃ y_ : List (S113), y_ = (y216.set ((ji25) : Int).toNat (⟨(⟨(rd_T113 y216 (ji25)).f0.f0, (rd_T113 y216 (ji25)).f0.f1, (rd_T113 y216 (ji25)).f0.f2⟩ : S50), (rd_T113 y216 (ji25)).f1, wrap64 (((rd_T113 y216 (ji25)).f2) + 1)⟩ : S113)) := ⟨_, rfl⟩
             replace H : (impl_runsOf.l0 kj6 y218 true l0_2 (l0_2.length : Int) (wrap64 (x11_1 + 1)) a0_0 l0_1 l0_2) = some r := by first | (rw [hy218]; with_reducible exact H) | (have H2_ := (Option.bind_some _ _).symm.trans H; rw [hy218]; with_reducible exact H2_) | (have H2_ := (Option.bind_some _ _).symm.trans H; with_reducible exact H2_) | with_reducible exact H | (rw [hy218]; exact H) | exact H
             have Ny218 := Aside0.mk hy218
             clear hy218
             have H' := Aside0.mk H
             clear H
             have hnb31 := NB208_210.out
             have hnc31 := NB210_208.out
             obtain ⟨hcz32_0, hcz32_1, hcz32_2, hfz32_0, hfz32_1, hfz32_2⟩ := cz3 BK208.out
             obtain ⟨hcz33_0, hcz33_1, hcz33_2, hcz33_3, hfz33_0, hfz33_1, hfz33_2, hfz33_3⟩ := cz4 BK210.out
             try go_wp2_with (first | (go_at_call 124; (with_reducible refine (slices_Contains_int_int.calls kj6 _ _ l0_1 ((rd_T98 l0_2 x11_1).f0) false _ ?side1 ?side2 A18.out).mono ?_); (case side1 => exact cb (Kd.C_below HR0_1.out HB.out)); (case side2 => exact HC0_1.out); rintro e w' ⟨rfl, ⟨nd, rfl⟩⟩; (try (rw [drewN_self wc]; generalize hq_ : World.drewN wc _ = wc; have n0_ : Aside0 (Kd.R k113 113 wc w.heap.size (fun _ => True) u3 x3_1) := ⟨by rw [← hq_]; exact (rk HO_3.out)⟩; have n1_ : Aside0 (wc.heap[gb208]? = some (.cells #[.int .i64 a0_0, .slice A0_1 l0_1.length c0_1, .slice (some ad209) l0_2.length c0_2] 41 (0, 0))) := ⟨by rw [← hq_]; exact (bk BK208.out)⟩; have n2_ : Aside0 (wc.heap[gb210]? = some (.cells #[.int .i64 ((rd_T98 l0_2 x11_1).f0), .int .i64 ((rd_T98 l0_2 x11_1).f1), .int .i64 ((rd_T98 l0_2 x11_1).f2), .bool ((rd_T98 l0_2 x11_1).f3)] 98 (0, 0))) := ⟨by rw [← hq_]; exact (bk BK210.out)⟩; have n3_ : Aside0 (Below w.heap.size w wc) := ⟨by rw [← hq_]; exact (bl HB.out)⟩; clear HO_3 BK208 BK210 HB hq_; have HO_3 := n0_; have BK208 := n1_; have BK210 := n2_; have HB := n3_; clear n0_ n1_ n2_ n3_)); obtain ⟨Ao34, co34, eo34⟩ := Kd.R_slice HO_3.out; subst eo34; have p28 : 0 ≤ ((ji25) : Int) := of_decide_eq_true asm; have q28 : ((ji25) : Int) < ((x3_1.length : Int) : Int) := of_decide_eq_true asm; obtain ⟨go28, co28, eo28, gb28, gl28, cl28, HG28⟩ := Kd.R_form HO_3.out (by omega); (first | cases eo28 | (injection eo28 with ea_ en_ ec_; (first | subst ea_ | (injection ea_ with ea_; subst ea_)); subst ec_; clear en_)); have GB28 := Aside0.mk gb28; have GG28 := Aside0.mk HG28; clear gb28 gl28 HG28; obtain ⟨ce28, hcl28, hM28, hcc28, hfr28⟩ := Kd.R_elem HO_3.out z113 ((ji25) : Int) p28 q28; obtain rfl := k113_openM hM28; have hx28_0 : wc.cell? ⟨go28, ((ji25) : Int).toNat * 5, none⟩ = some (.int .i64 ((rd_T113 x3_1 (ji25)).f0.f0)) := hcc28 0 _ rfl; have hx28_1 : wc.cell? ⟨go28, ((ji25) : Int).toNat * 5 + 1, none⟩ = some (.int .i64 ((rd_T113 x3_1 (ji25)).f0.f1)) := hcc28 1 _ rfl; have hx28_2 : wc.cell? ⟨go28, ((ji25) : Int).toNat * 5 + 2, none⟩ = some (.int .i64 ((rd_T113 x3_1 (ji25)).f0.f2)) := hcc28 2 _ rfl; have hx28_3 : wc.cell? ⟨go28, ((ji25) : Int).toNat * 5 + 3, none⟩ = some (.int .i64 ((rd_T113 x3_1 (ji25)).f1)) := hcc28 3 _ rfl; have hx28_4 : wc.cell? ⟨go28, ((ji25) : Int).toNat * 5 + 4, none⟩ = some (.int .i64 ((rd_T113 x3_1 (ji25)).f2)) := hcc28 4 _ rfl; have hf28_0 : wc.frozen? ⟨go28, ((ji25) : Int).toNat * 5, none⟩ = false := hfr28 0; have hf28_1 : wc.frozen? ⟨go28, ((ji25) : Int).toNat * 5 + 1, none⟩ = false := hfr28 1; have hf28_2 : wc.frozen? ⟨go28, ((ji25) : Int).toNat * 5 + 2, none⟩ = false := hfr28 2; have hf28_3 : wc.frozen? ⟨go28, ((ji25) : Int).toNat * 5 + 3, none⟩ = false := hfr28 3; have hf28_4 : wc.frozen? ⟨go28, ((ji25) : Int).toNat * 5 + 4, none⟩ = false := hfr28 4; clear hcl28 hcc28 hfr28 hM28; replace p28 := eq_true p28; replace q28 := eq_true q28))
             replace HO_3 := Aside0.mk (Kd.R_drew HO_3.out)
             replace BK208 := Aside0.mk (blk_drew BK208.out)
             replace BK210 := Aside0.mk (blk_drew BK210.out)
             replace HB := Aside0.mk (below_drew1 HB.out)
             have p215 : 0 ≤ ((ji25) : Int) := of_decide_eq_true asm
             have q215 : (ji25) < (x3_1.length : Int) := of_decide_eq_true asm
             obtain ⟨ad215, e215, hx215_0, hx215_1, hx215_2, hx215_3, hx215_4⟩ := at_T113 (Kd.R_reads' HO_3.out).2.2 (ji25) p215 q215
             obtain rfl : (⟨go28, 0, none⟩ : Addr) = ad215 := (by injection e215)
             (first | simp only [add_plain] at hx215_0 | simp only [add_at] at hx215_0 | simp only [Addr.add, Nat.zero_add] at hx215_0 | skip)
             (first | simp only [add_plain] at hx215_1 | simp only [add_at] at hx215_1 | simp only [Addr.add, Nat.zero_add] at hx215_1 | skip)
             (first | simp only [add_plain] at hx215_2 | simp only [add_at] at hx215_2 | simp only [Addr.add, Nat.zero_add] at hx215_2 | skip)
             (first | simp only [add_plain] at hx215_3 | simp only [add_at] at hx215_3 | simp only [Addr.add, Nat.zero_add] at hx215_3 | skip)
             (first | simp only [add_plain] at hx215_4 | simp only [add_at] at hx215_4 | simp only [Addr.add, Nat.zero_add] at hx215_4 | skip)
             replace p215 := eq_true p215
             replace q215 := eq_true q215
             have p29 : 0 ≤ ((ji25) : Int) := of_decide_eq_true asm
             have q29 : ((ji25) : Int) < ((x3_1.length : Int) : Int) := of_decide_eq_true asm
             obtain ⟨ce29, hcl29, hM29, hcc29, hfr29⟩ := Kd.R_elem HO_3.out z113 ((ji25) : Int) p29 q29
             obtain rfl := k113_openM hM29
             have hx29_0 : World.cell? _ ⟨go28, ((ji25) : Int).toNat * 5, none⟩ = some (.int .i64 ((rd_T113 x3_1 (ji25)).f0.f0)) := hcc29 0 _ rfl
             have hx29_1 : World.cell? _ ⟨go28, ((ji25) : Int).toNat * 5 + 1, none⟩ = some (.int .i64 ((rd_T113 x3_1 (ji25)).f0.f1)) := hcc29 1 _ rfl
             have hx29_2 : World.cell? _ ⟨go28, ((ji25) : Int).toNat * 5 + 2, none⟩ = some (.int .i64 ((rd_T113 x3_1 (ji25)).f0.f2)) := hcc29 2 _ rfl
             have hx29_3 : World.cell? _ ⟨go28, ((ji25) : Int).toNat * 5 + 3, none⟩ = some (.int .i64 ((rd_T113 x3_1 (ji25)).f1)) := hcc29 3 _ rfl
             have hx29_4 : World.cell? _ ⟨go28, ((ji25) : Int).toNat * 5 + 4, none⟩ = some (.int .i64 ((rd_T113 x3_1 (ji25)).f2)) := hcc29 4 _ rfl
             have hf29_0 : World.frozen? _ ⟨go28, ((ji25) : Int).toNat * 5, none⟩ = false := hfr29 0
             have hf29_1 : World.frozen? _ ⟨go28, ((ji25) : Int).toNat * 5 + 1, none⟩ = false := hfr29 1
             have hf29_2 : World.frozen? _ ⟨go28, ((ji25) : Int).toNat * 5 + 2, none⟩ = false := hfr29 2
             have hf29_3 : World.frozen? _ ⟨go28, ((ji25) : Int).toNat * 5 + 3, none⟩ = false := hfr29 3
             have hf29_4 : World.frozen? _ ⟨go28, ((ji25) : Int).toNat * 5 + 4, none⟩ = false := hfr29 4
             clear hcl29 hcc29 hfr29 hM29
             replace p29 := eq_true p29
             replace q29 := eq_true q29
             obtain ⟨ce36, hcl36, hM36, hcc36, hfr36⟩ := Kd.R_elem HO_3.out z113 ((ji25) : Int) (of_decide_eq_true asm) (by have h_ : ((ji25) : Int) < ((x3_1.length : Int) : Int) := of_decide_eq_true asm; first | exact h_ | (have e_ := (Kd.R_reads' HO_3.out).1; omega) | simpa using h_)
             obtain rfl := k113_openM hM36
             have HP36 := (Kd.R_seg HO_3.out ((ji25) : Int) (of_decide_eq_true asm) (by have h_ : ((ji25) : Int) < ((x3_1.length : Int) : Int) := of_decide_eq_true asm; first | exact h_ | (have e_ := (Kd.R_reads' HO_3.out).1; omega) | simpa using h_) (seg := [.int .i64 (wrap64 (((rd_T113 x3_1 (ji25)).f0.f2) + ((rd_T98 l0_2 x11_1).f1)))]) (j := 2) hcl36 hcc36 (show 3 ≤ 5 from by decide) (x' := (⟨(⟨(rd_T113 x3_1 (ji25)).f0.f0, (rd_T113 x3_1 (ji25)).f0.f1, wrap64 (((rd_T113 x3_1 (ji25)).f0.f2) + ((rd_T98 l0_2 x11_1).f1))⟩ : S50), (rd_T113 x3_1 (ji25)).f1, (rd_T113 x3_1 (ji25)).f2⟩ : S113)) (k113_mkM _ _ _ (⟨(⟨(rd_T113 x3_1 (ji25)).f0.f0, (rd_T113 x3_1 (ji25)).f0.f1, wrap64 (((rd_T113 x3_1 (ji25)).f0.f2) + ((rd_T98 l0_2 x11_1).f1))⟩ : S50), (rd_T113 x3_1 (ji25)).f1, (rd_T113 x3_1 (ji25)).f2⟩ : S113) ) (fun _ hk => hk)).1
             rw [← Ny216.out] at HP36
             have HQ36 := Aside0.mk HP36
             clear hcl36 hcc36 hfr36 hM36 HP36
             refine start_ (n := 12) (S := fun w' => w'.cell? ⟨gb210, 0, none⟩ = some (.int .i64 ((rd_T98 l0_2 x11_1).f0)) ∧ w'.cell? ⟨gb210, 1, none⟩ = some (.int .i64 ((rd_T98 l0_2 x11_1).f1)) ∧ w'.cell? ⟨gb210, 2, none⟩ = some (.int .i64 ((rd_T98 l0_2 x11_1).f2)) ∧ w'.cell? ⟨gb210, 3, none⟩ = some (.bool ((rd_T98 l0_2 x11_1).f3)) ∧ w'.cell? ⟨go28, ((ji25)).toNat * 5, none⟩ = some (.int .i64 ((rd_T113 x3_1 (ji25)).f0.f0)) ∧ w'.cell? ⟨go28, ((ji25)).toNat * 5 + 1, none⟩ = some (.int .i64 ((rd_T113 x3_1 (ji25)).f0.f1)) ∧ w'.cell? ⟨go28, ((ji25)).toNat * 5 + 2, none⟩ = some (.int .i64 ((rd_T113 x3_1 (ji25)).f0.f2)) ∧ w'.cell? ⟨go28, ((ji25)).toNat * 5 + 3, none⟩ = some (.int .i64 ((rd_T113 x3_1 (ji25)).f1)) ∧ w'.cell? ⟨go28, ((ji25)).toNat * 5 + 4, none⟩ = some (.int .i64 ((rd_T113 x3_1 (ji25)).f2))) (ds := [11]) #[false, false, false, false, false, false, false, false, false, false, false, false] (by kernel_rfl) rfl rfl ⟨(blk_cell BK210.out 0).trans rfl, (blk_cell BK210.out 1).trans rfl, (blk_cell BK210.out 2).trans rfl, (blk_cell BK210.out 3).trans rfl, hx215_0, hx215_1, hx215_2, hx215_3, hx215_4⟩ (fun hHeld => ?_); refine with_tabW impl_runsOf.tab10 impl_runsOf.bits10 (fun HT_ HW_ => ?_)
             generalize wc.drew = w35 at HO_3 BK208 BK210 HB HQ36 hf29_0 hf29_1 hf29_2 hf29_3 hf29_4 hx215_0 hx215_1 hx215_2 hx215_3 hx215_4 hx29_0 hx29_1 hx29_2 hx29_3 hx29_4 hHeld ⊢
             refine puA (i := 0) (N := some 37) HT_.out ?_
             refine puA (i := 1) (N := some 38) HT_.out ?_
             refine puA (i := 2) (N := some 39) HT_.out ?_
             refine puA (i := 3) (N := some 40) HT_.out ?_
             refine puA (i := 5) (N := some 42) HT_.out ?_
             refine tkA9 (i := 4) (N := some 41) HT_.out HW_.out hHeld ?_
             refine tkA9 (i := 6) (N := some 43) HT_.out HW_.out hHeld ?_
             refine puA (i := 7) (N := some 44) HT_.out ?_
             refine puA (i := 8) (N := some 45) HT_.out ?_
             refine puA (i := 9) (N := some 46) HT_.out ?_
             refine puA (i := 10) (N := some 47) HT_.out ?_
             refine last_ (i := 11) (N := none) #[true, true, true, true, true, true, true, true, true, true, true, true] rfl rfl (one_of HT_.out (by kernel_rfl)) (by decide) (fun K hK => ?_)
             refine skip_ (w1 := ?_) (by rfl) rfl ?_ ?_
             rotate_left
             ·go_simp
              rfl
             refine hK.out _ _ ?_
             clear hK K
             refine done_ (done_of HT_.out (by kernel_rfl)) ?_
             have n0_ : Aside0 (Kd.R k113 113 (w35.setCell ⟨go28, ((ji25) : Int).toNat * 5 + 2, none⟩ (.int .i64 (wrap64 (((rd_T113 x3_1 (ji25)).f0.f2) + ((rd_T98 l0_2 x11_1).f1))))) w.heap.size (fun _ => True) (.slice (some ⟨go28, 0, none⟩) x3_1.length co34) y216) := ⟨rk HQ36.out⟩
             have n1_ : Aside0 ((w35.setCell ⟨go28, ((ji25) : Int).toNat * 5 + 2, none⟩ (.int .i64 (wrap64 (((rd_T113 x3_1 (ji25)).f0.f2) + ((rd_T98 l0_2 x11_1).f1))))).heap[gb208]? = some (.cells #[.int .i64 a0_0, .slice A0_1 l0_1.length c0_1, .slice (some ad209) l0_2.length c0_2] 41 (0, 0))) := ⟨by refine bk ?_; refine blk_far ?_ (by have h_ := Kd.R_ne HO_3.out BK208.out (by decide); intro e_; exact h_ (by rw [e_]; rfl)) _; refine bk ?_; exact BK208.out⟩
             have n2_ : Aside0 ((w35.setCell ⟨go28, ((ji25) : Int).toNat * 5 + 2, none⟩ (.int .i64 (wrap64 (((rd_T113 x3_1 (ji25)).f0.f2) + ((rd_T98 l0_2 x11_1).f1))))).heap[gb210]? = some (.cells #[.int .i64 ((rd_T98 l0_2 x11_1).f0), .int .i64 ((rd_T98 l0_2 x11_1).f1), .int .i64 ((rd_T98 l0_2 x11_1).f2), .bool ((rd_T98 l0_2 x11_1).f3)] 98 (0, 0))) := ⟨by refine bk ?_; refine blk_far ?_ (by have h_ := Kd.R_ne HO_3.out BK210.out (by decide); intro e_; exact h_ (by rw [e_]; rfl)) _; refine bk ?_; exact BK210.out⟩
             have n3_ : Aside0 (Below w.heap.size w (w35.setCell ⟨go28, ((ji25) : Int).toNat * 5 + 2, none⟩ (.int .i64 (wrap64 (((rd_T113 x3_1 (ji25)).f0.f2) + ((rd_T98 l0_2 x11_1).f1)))))) := ⟨by repeat (first | (with_reducible first | exact HB.out | apply below_alloc | apply pw_below_drewN | apply below_drew1 | refine below_set ?_ GB28.out | refine below_set ?_ GE208.out | refine below_set ?_ GE210.out) | exact HB.out)⟩
             (try clear HO_3)
             (try clear BK208)
             (try clear BK210)
             (try clear HB)
             generalize (w35.setCell ⟨go28, ((ji25) : Int).toNat * 5 + 2, none⟩ (.int .i64 (wrap64 (((rd_T113 x3_1 (ji25)).f0.f2) + ((rd_T98 l0_2 x11_1).f1))))) = w37 at n0_ n1_ n2_ n3_ ⊢
             have HO_3 := n0_
             have BK208 := n1_
             have BK210 := n2_
             have HB := n3_
             clear n0_ n1_ n2_ n3_
             have p217 : 0 ≤ ((ji25) : Int) := of_decide_eq_true asm
             have q217 : (ji25) < (y216.length : Int) := (by have h_ : ((ji25) : Int) < ((x3_1.length : Int) : Int) := of_decide_eq_true asm; first | (have e_ := (Kd.R_reads' HO_3.out).1; omega) | simpa only [Ny216.out, List.length_set] using h_)
             have ql217 : (((ji25) : Int) < ((x3_1.length : Int) : Int)) = True := eq_true (of_decide_eq_true asm)
             obtain ⟨ad217, e217, hx217_0, hx217_1, hx217_2, hx217_3, hx217_4⟩ := at_T113 (Kd.R_reads' HO_3.out).2.2 (ji25) p217 q217
             obtain rfl : (⟨go28, 0, none⟩ : Addr) = ad217 := (by injection e217)
             (first | simp only [add_plain] at hx217_0 | simp only [add_at] at hx217_0 | simp only [Addr.add, Nat.zero_add] at hx217_0 | skip)
             (first | simp only [add_plain] at hx217_1 | simp only [add_at] at hx217_1 | simp only [Addr.add, Nat.zero_add] at hx217_1 | skip)
             (first | simp only [add_plain] at hx217_2 | simp only [add_at] at hx217_2 | simp only [Addr.add, Nat.zero_add] at hx217_2 | skip)
             (first | simp only [add_plain] at hx217_3 | simp only [add_at] at hx217_3 | simp only [Addr.add, Nat.zero_add] at hx217_3 | skip)
             (first | simp only [add_plain] at hx217_4 | simp only [add_at] at hx217_4 | simp only [Addr.add, Nat.zero_add] at hx217_4 | skip)
             replace p217 := eq_true p217
             replace q217 := eq_true q217
             have p30 : 0 ≤ ((ji25) : Int) := of_decide_eq_true asm
             have q30 : ((ji25) : Int) < ((x3_1.length : Int) : Int) := of_decide_eq_true asm
             obtain ⟨ce30, hcl30, hM30, hcc30, hfr30⟩ := Kd.R_elem HO_3.out z113 ((ji25) : Int) p30 q30
             obtain rfl := k113_openM hM30
             have hx30_0 : w37.cell? ⟨go28, ((ji25) : Int).toNat * 5, none⟩ = some (.int .i64 ((rd_T113 y216 (ji25)).f0.f0)) := hcc30 0 _ rfl
             have hx30_1 : w37.cell? ⟨go28, ((ji25) : Int).toNat * 5 + 1, none⟩ = some (.int .i64 ((rd_T113 y216 (ji25)).f0.f1)) := hcc30 1 _ rfl
             have hx30_2 : w37.cell? ⟨go28, ((ji25) : Int).toNat * 5 + 2, none⟩ = some (.int .i64 ((rd_T113 y216 (ji25)).f0.f2)) := hcc30 2 _ rfl
             have hx30_3 : w37.cell? ⟨go28, ((ji25) : Int).toNat * 5 + 3, none⟩ = some (.int .i64 ((rd_T113 y216 (ji25)).f1)) := hcc30 3 _ rfl
             have hx30_4 : w37.cell? ⟨go28, ((ji25) : Int).toNat * 5 + 4, none⟩ = some (.int .i64 ((rd_T113 y216 (ji25)).f2)) := hcc30 4 _ rfl
             have hf30_0 : w37.frozen? ⟨go28, ((ji25) : Int).toNat * 5, none⟩ = false := hfr30 0
             have hf30_1 : w37.frozen? ⟨go28, ((ji25) : Int).toNat * 5 + 1, none⟩ = false := hfr30 1
             have hf30_2 : w37.frozen? ⟨go28, ((ji25) : Int).toNat * 5 + 2, none⟩ = false := hfr30 2
             have hf30_3 : w37.frozen? ⟨go28, ((ji25) : Int).toNat * 5 + 3, none⟩ = false := hfr30 3
             have hf30_4 : w37.frozen? ⟨go28, ((ji25) : Int).toNat * 5 + 4, none⟩ = false := hfr30 4
             clear hcl30 hcc30 hfr30 hM30
             replace p30 := eq_true p30
             replace q30 := eq_true q30
             have HX38 := Aside0.mk (show Kd.R k113 113 w37 w.heap.size (fun _ => True) (.slice (some ⟨go28, 0, none⟩) x3_1.length co34) y216 from (rk HO_3.out))
             obtain ⟨ce38, hcl38, hM38, hcc38, hfr38⟩ := Kd.R_elem HX38.out z113 ((ji25) : Int) (of_decide_eq_true asm) (by have h_ : ((ji25) : Int) < ((x3_1.length : Int) : Int) := of_decide_eq_true asm; first | exact h_ | (have e_ := (Kd.R_reads' HO_3.out).1; omega) | simpa using h_)
             obtain rfl := k113_openM hM38
             have HP38 := Kd.R_seg HX38.out ((ji25) : Int) (of_decide_eq_true asm) (by have h_ : ((ji25) : Int) < ((x3_1.length : Int) : Int) := of_decide_eq_true asm; first | exact h_ | (have e_ := (Kd.R_reads' HO_3.out).1; omega) | simpa using h_) (seg := [.int .i64 (wrap64 (((rd_T113 y216 (ji25)).f2) + 1))]) (j := 4) hcl38 hcc38 (show 5 ≤ 5 from by decide) (x' := (⟨(⟨(rd_T113 y216 (ji25)).f0.f0, (rd_T113 y216 (ji25)).f0.f1, (rd_T113 y216 (ji25)).f0.f2⟩ : S50), (rd_T113 y216 (ji25)).f1, wrap64 (((rd_T113 y216 (ji25)).f2) + 1)⟩ : S113)) (k113_mkM _ _ _ (⟨(⟨(rd_T113 y216 (ji25)).f0.f0, (rd_T113 y216 (ji25)).f0.f1, (rd_T113 y216 (ji25)).f0.f2⟩ : S50), (rd_T113 y216 (ji25)).f1, wrap64 (((rd_T113 y216 (ji25)).f2) + 1)⟩ : S113) ) (fun _ hk => hk)
             have hx38_4 := hcc38 4 _ rfl
             (try simp only [show (k113).sz = 5 from rfl, Nat.mul_one, Nat.add_zero] at hx38_4)
             have hf38_4 := hfr38 4
             (try simp only [show (k113).sz = 5 from rfl, Nat.mul_one, Nat.add_zero] at hf38_4)
             clear hcl38 hcc38 hfr38 hM38
             try go_wp2_with (first | ((with_reducible refine gate_store (t := 3) (p := 54) rfl ?_); refine store_event (t := 3) (p := 54) (v := ?vo_w39) (w1 := (w37.setCell ⟨go28, ((ji25) : Int).toNat * 5 + 4, none⟩ (.int .i64 (wrap64 (((rd_T113 y216 (ji25)).f2) + 1))))) ?hg ?ho ?hn ?hr ?_; (case ho => rfl); (case hg => rfl); (case hn => rfl); (case hr => first | (go_simp; done) | (go_simp; rfl)); intro w39 hw; have hg : w37.grownBy w39 (some go28) := (by rw [hw]; exact HP38.2); have hp_ : Kd.R k113 113 w39 w.heap.size (fun _ => True) (.slice (some ⟨go28, 0, none⟩) x3_1.length co34) y218 := (by rw [hw, Ny218.out]; exact HP38.1); clear HP38; replace BK208 := Aside0.mk (blk_grown (g := gb208) (o := .cells #[.int .i64 a0_0, .slice A0_1 l0_1.length c0_1, .slice (some ad209) l0_2.length c0_2] 41 (0, 0)) (bk BK208.out) hg (Kd.R_ne HO_3.out BK208.out (by decide))); replace BK210 := Aside0.mk (blk_grown (g := gb210) (o := .cells #[.int .i64 ((rd_T98 l0_2 x11_1).f0), .int .i64 ((rd_T98 l0_2 x11_1).f1), .int .i64 ((rd_T98 l0_2 x11_1).f2), .bool ((rd_T98 l0_2 x11_1).f3)] 98 (0, 0)) (bk BK210.out) hg (Kd.R_ne HO_3.out BK210.out (by decide))); replace HO_3 := Aside0.mk (hp_); replace HB := Aside0.mk ((by rw [hw]; exact below_set (HB.out) GB28.out : Below w.heap.size w w39)); clear hg hw hp_))
             go_roundg kj6
             case measure => have := HK1.out; have := HJ6.out; omega
             case rel => exact ⟨(y218), (true), (wrap64 (x11_1 + 1)), (by first | rfl | (simp; done) | (simp [*]; done)), (by first | rfl | (simp; done) | (simp [*]; done)), H', ⟨by have := HK1.out; have := HJ6.out; omega⟩, ⟨rk HO_3.out⟩, ⟨by refine bk ?_; exact BK208.out⟩, ⟨bl HB.out⟩⟩
            ·rw [if_neg c27] at H
             exact absurd H (by simp)
           ·rw [if_neg c26] at H
            exact absurd H (by simp)
         ·replace c17 := Bool.eq_false_iff.mpr c17
          subst c17
          rw [if_neg (show ¬ (false = true) by decide)] at H
          by_cases c40 : x3_1.length < 3518437208883
          ·rw [if_pos c40] at H
           have LMc40 := Aside0.mk c40
           clear c40
           obtain ⟨y219, hy219⟩ : ∃ y_ : List (S113), y_ = (x3_1 ++ [(⟨(⟨0, ((rd_T98 l0_2 x11_1).f0), ((rd_T98 l0_2 x11_1).f1)⟩ : S50), x11_1, wrap64 (x11_1 + 1)⟩ : S113)]) := ⟨_, rfl⟩
           replace H : (impl_runsOf.l0 kj6 y219 true l0_2 (l0_2.length : Int) (wrap64 (x11_1 + 1)) a0_0 l0_1 l0_2) = some r := by first | (rw [hy219]; with_reducible exact H) | (have H2_ := (Option.bind_some _ _).symm.trans H; rw [hy219]; with_reducible exact H2_) | (have H2_ := (Option.bind_some _ _).symm.trans H; with_reducible exact H2_) | with_reducible exact H | (rw [hy219]; exact H) | exact H
           have Ny219 := Aside0.mk hy219
           clear hy219
           have H' := Aside0.mk H
           clear H
           have hnb41 := NB210_208.out
           have hnc41 := NB208_210.out
           obtain ⟨hcz42_0, hcz42_1, hcz42_2, hcz42_3, hfz42_0, hfz42_1, hfz42_2, hfz42_3⟩ := cz4 BK210.out
           go_wp2_with (first | ((with_reducible refine gate_builtin (b := .append) (xs := #[.tmp 55, .tmp 65]) rfl ?_); at_builtin; refine Kd.R_append k113 (w0 := w) w.heap.size rfl (.tmp 55) (.tmp 65) 110 113 (.agg #[(.int .i64 0), (.int .i64 0), (.int .i64 0), (.int .i64 0), (.int .i64 0)]) 40 rfl Try.underlying110 info113 rfl (by decide) (by omega) u3 x3_1 (⟨(⟨0, ((rd_T98 l0_2 x11_1).f0), ((rd_T98 l0_2 x11_1).f1)⟩ : S50), x11_1, wrap64 (x11_1 + 1)⟩ : S113) [.int .i64 0, .int .i64 ((rd_T98 l0_2 x11_1).f0), .int .i64 ((rd_T98 l0_2 x11_1).f1), .int .i64 x11_1, .int .i64 (wrap64 (x11_1 + 1))] (fun _ => True) (fun _ => False) rfl rfl ?aP (fun _ hk => hk.elim) ?aF ?aO ?aB ?aS ?aL ?_; (case aP => exact k113_mkM _ _ _ (⟨(⟨0, ((rd_T98 l0_2 x11_1).f0), ((rd_T98 l0_2 x11_1).f1)⟩ : S50), x11_1, wrap64 (x11_1 + 1)⟩ : S113)); (case aB => exact (bl HB.out)); (case aF => exact (fun _ _ => trivial)); (case aO => exact (rk HO_3.out)); (case aS => exact (below_size (bl HB.out))); (case aL => have := LMc40.out; omega); intro v220 w43 ho hb hg hat; rw [← Ny219.out] at ho; replace BK208 := Aside0.mk (blk_grown (g := gb208) (o := .cells #[.int .i64 a0_0, .slice A0_1 l0_1.length c0_1, .slice (some ad209) l0_2.length c0_2] 41 (0, 0)) (bk BK208.out) hg (Kd.R_ne HO_3.out BK208.out (by decide))); replace BK210 := Aside0.mk (blk_grown (g := gb210) (o := .cells #[.int .i64 ((rd_T98 l0_2 x11_1).f0), .int .i64 ((rd_T98 l0_2 x11_1).f1), .int .i64 ((rd_T98 l0_2 x11_1).f2), .bool ((rd_T98 l0_2 x11_1).f3)] 98 (0, 0)) (bk BK210.out) hg (Kd.R_ne HO_3.out BK210.out (by decide))); replace HB := Aside0.mk (hb); have HO221 := Aside0.mk (ho); clear HO_3; clear ho hb hg hat))
           go_roundg kj6
           case measure => have := HK1.out; have := HJ6.out; omega
           case rel => exact ⟨(y219), (true), (wrap64 (x11_1 + 1)), (by first | rfl | (simp; done) | (simp [*]; done)), (by first | rfl | (simp; done) | (simp [*]; done)), H', ⟨by have := HK1.out; have := HJ6.out; omega⟩, ⟨rk HO221.out⟩, ⟨by refine bk ?_; exact BK208.out⟩, ⟨bl HB.out⟩⟩
          ·rw [if_neg c40] at H
           exact absurd H (by simp)
     ·rw [if_neg c6] at H
      exact absurd H (by simp)
    ·rw [if_neg c5] at H
     exact absurd H (by simp)
   ·rw [if_neg c4] at H
    have c4b0 : decide (x11_1 < (l0_2.length : Int)) = false := decide_eq_false c4
    clear c4
    obtain rfl := Option.some.inj H
    go_wp2
    go_ret
    exact ⟨_, by first | rfl | (simp [errW_none, errW_some] <;> rfl) | (simp [*, errW_none, errW_some] <;> rfl), rk HO_3.out, bl HB.out⟩
end Go.Proofs.Ytbpjidekjogfeaa.A

namespace Go.Proofs.Ytbpjidekjogfeaa.A
open Go.RowKit Go.Proofs.YtbpjidekjogfeaaW.PrintWords Go.Proofs.YtbpjidekjogfeaaW.PrintLast Go.Proofs.YtbpjidekjogfeaaW.PrintMore
attribute [local go_sem] max2_int min2_int max_two min_two max_three min_three max_four min_four   
set_option linter.unusedVariables false
set_option linter.unusedSimpArgs false
mutual
def impl_bankGaps.l0 : Nat → List (S50) → List (S41) → Int → Int → Option ((List (S50)))
 | 0, _, _, _, _ => none
 | k + 1, x3, x9, x10, x11 => if x11 < x10 then (if 0 ≤ x11 then (if x11 < (x9.length : Int) then ((impl_runsOf.f k ((rd_T41 x9 x11).f0) ((rd_T41 x9 x11).f1) ((rd_T41 x9 x11).f2)).bind fun t224 => (impl_bankGaps.l1 k x3 x11 x9 x10 x11 t224 (t224.length : Int) 0)) else (none)) else (none)) else (some x3)
def impl_bankGaps.l1 : Nat → List (S50) → Int → List (S41) → Int → Int → List (S113) → Int → Int → Option ((List (S50)))
 | 0, _, _, _, _, _, _, _, _ => none
 | k + 1, x3, x4, x9, x10, x11, x17, x18, x19 => if x19 < x18 then (if 0 ≤ x19 then (if x19 < (x17.length : Int) then (if x3.length < 5864062014805 then (impl_bankGaps.l1 k (x3 ++ [(⟨x4, (rd_T113 x17 x19).f0.f1, (rd_T113 x17 x19).f0.f2⟩ : S50)]) x4 x9 x10 x11 x17 x18 (wrap64 (x19 + 1))) else (none)) else (none)) else (none)) else (impl_bankGaps.l0 k x3 x9 x10 (wrap64 (x11 + 1)))
end
def impl_bankGaps.f (k : Nat) (l0 : List (S41)) : Option ((List (S50))) := impl_bankGaps.l0 k ([] : List (S50)) l0 (l0.length : Int) 0
set_option maxHeartbeats 8000000 in
set_option maxRecDepth 100000 in
theorem impl_bankGaps.calls (k : Nat) (A0 : Option Addr) (c0 : Nat) (l0 : List (S41)) (r : List (S50)) (w : World) (hr0 : Kd.C k41 w A0 l0.length l0) (hc0 : l0.length ≤ c0) (h : impl_bankGaps.f k l0 = some r) :
  Calls Try.prog 67 #[.slice A0 l0.length c0] w fun e w' => ∃ v0_ : Value, e = .returned (v0_) ∧ Kd.R k50 50 w' w.heap.size (fun _ => True) v0_ r ∧ Below w.heap.size w w' := by
 have hu41 := Try.underlying41
 have hu113 := Try.underlying113
 have hu50 := Try.underlying50
 have HR0 := Aside0.mk hr0
 have HC0 := Aside0.mk hc0
 clear hr0 hc0
 have HB := Aside0.mk (Below.refl w.heap.size w)
 have H : (impl_bankGaps.l0 k ([] : List (S50)) l0 (l0.length : Int) 0) = some r := h
 clear h
 have H' := Aside0.mk H
 clear H
 go_enter Try.func67, Try.ntmps67
 go_wp2
 go_loopg [3, 11] k (fun kq v3 v11 w' => ∃ (x3_1 : List (S50)) (x11_1 : Int), v11 = .int .i64 x11_1 ∧ Aside0 (impl_bankGaps.l0 kq x3_1 l0 (l0.length : Int) x11_1 = some r) ∧ Aside0 (kq ≤ k) ∧ Aside0 (Kd.R k50 50 w' w.heap.size (fun _ => True) v3 x3_1) ∧ Aside0 (Below w.heap.size w w'))
 case atStart => exact ⟨(([] : List (S50))), (0), (by first | rfl | (simp; done) | (simp [*]; done)), H', ⟨Nat.le_refl _⟩, ⟨by first | exact Kd.R_nil _ _ _ _ _ | exact Kd.N_nil _ _ _ _ _ | exact Kd.V_nil _ _ _ _ _ | exact Kd.Q_nil _ _ _ _ _ | exact Kd.S_nil _ _ _ _ _⟩, ⟨bl HB.out⟩⟩
 case round =>
  clear H'
  obtain ⟨x3_1, x11_1, rfl, HA, HK1, HO_3, HB⟩ := hrel
  cases gk with
  | zero => exact absurd HA.out (by simp [impl_bankGaps.l0])
  | succ k1 =>
   have H := HA.out
   clear HA
   simp only [impl_bankGaps.l0] at H
   by_cases c2 : x11_1 < (l0.length : Int)
   ·rw [if_pos c2] at H
    have c2b0 : decide (x11_1 < (l0.length : Int)) = true := decide_eq_true c2
    clear c2
    by_cases c3 : 0 ≤ x11_1
    ·rw [if_pos c3] at H
     have c3b0 : decide (0 ≤ x11_1) = true := decide_eq_true c3
     clear c3
     by_cases c4 : x11_1 < (l0.length : Int)
     ·rw [if_pos c4] at H
      have c4b0 : decide (x11_1 < (l0.length : Int)) = true := decide_eq_true c4
      clear c4
      replace H := Option.bind_eq_some_iff.mp H
      obtain ⟨t224, A50, H⟩ := H
      try dsimp only at H
      have A5 := Aside0.mk A50
      clear A50
      have H' := Aside0.mk H
      clear H
      have p222 : 0 ≤ (x11_1 : Int) := of_decide_eq_true asm
      have q222 : x11_1 < (l0.length : Int) := of_decide_eq_true asm
      obtain ⟨ad222, A222_1, c222_1, A222_2, c222_2, e222, hx222_0, hx222_1, hx222_2, hl222_1, hi222_1, hl222_2, hi222_2⟩ := at_T41 HR0.out x11_1 p222 q222
      cases e222
      replace hx222_0 := (HB.out.cell (World.block_lt_of_cell? w _ hx222_0)).trans hx222_0
      replace hx222_1 := (HB.out.cell (World.block_lt_of_cell? w _ hx222_1)).trans hx222_1
      replace hx222_2 := (HB.out.cell (World.block_lt_of_cell? w _ hx222_2)).trans hx222_2
      have HR222_1 := Aside0.mk hi222_1
      have HC222_1 := Aside0.mk hl222_1
      clear hi222_1 hl222_1
      have HR222_2 := Aside0.mk hi222_2
      have HC222_2 := Aside0.mk hl222_2
      clear hi222_2 hl222_2
      replace p222 := eq_true p222
      replace q222 := eq_true q222
      go_wp2_with (first | ((with_reducible refine gate_dst (N := 5) rfl ?_); refine bx (cs := #[.int .i64 0, .slice none 0 0, .slice none 0 0]) (t := 41) fun gb223 hg w6 hbox hb => ?_; replace HO_3 := Aside0.mk (Kd.R_below (rk HO_3.out) hb); have BK223 := Aside0.mk (hbox); have GW223 := Aside0.mk (gs HB.out hg); have GE223 := Aside0.mk (gs HB.out hg); replace HB := Aside0.mk (below_step (bl HB.out) hb); clear hb hbox hg; obtain ⟨hcz7_0, hcz7_1, hcz7_2, hfz7_0, hfz7_1, hfz7_2⟩ := cz3 BK223.out) | ((with_reducible refine gate_callee (f := 109) rfl ?_); refine goesL_ (some 17) rfl rfl Try.func109 (by kernel_rfl) rfl #[.agg #[.int .i64 ((rd_T41 l0 x11_1).f0), .slice A222_1 ((rd_T41 l0 x11_1).f1).length c222_1, .slice A222_2 ((rd_T41 l0 x11_1).f2).length c222_2]] rfl mapd ?_; (with_reducible refine (impl_runsOf.calls k1 ((rd_T41 l0 x11_1).f0) _ _ ((rd_T41 l0 x11_1).f1) _ _ ((rd_T41 l0 x11_1).f2) t224 _ ?side1 ?side2 ?side3 ?side4 A5.out).mono ?_); (case side1 => exact Kd.C_below HR222_1.out (bl HB.out)); (case side2 => exact HC222_1.out); (case side3 => exact Kd.C_below HR222_2.out (bl HB.out)); (case side4 => exact HC222_2.out); rintro e w8 ⟨v225, rfl, ho0, hb⟩; refine ⟨_, rfl, ?_⟩; replace HO_3 := Aside0.mk (Kd.R_below (by refine rk ?_; exact (Kd.R_mono (Kd.R_far (p := ⟨gb223, 2, none⟩) (Kd.R_far (p := ⟨gb223, 1, none⟩) (Kd.R_far (p := ⟨gb223, 0, none⟩) (Kd.R_types HO_3.out BK223.out (by decide)) (fun _ hk => hk.2) (.int .i64 ((rd_T41 l0 x11_1).f0))) (fun _ hk => hk.2) (.slice A222_1 ((rd_T41 l0 x11_1).f1).length c222_1)) (fun _ hk => hk.2) (.slice A222_2 ((rd_T41 l0 x11_1).f2).length c222_2)) (fun _ h_ => h_.1))) hb); have HO226 := Aside0.mk (Kd.R_lower ho0 (below_size (bl HB.out))); replace BK223 := Aside0.mk (blk_below (g := gb223) (o := .cells #[.int .i64 ((rd_T41 l0 x11_1).f0), .slice A222_1 ((rd_T41 l0 x11_1).f1).length c222_1, .slice A222_2 ((rd_T41 l0 x11_1).f2).length c222_2] 41 (0, 0)) (by refine bk ?_; refine blk_put (cs := #[.int .i64 ((rd_T41 l0 x11_1).f0), .slice A222_1 ((rd_T41 l0 x11_1).f1).length c222_1, .slice none 0 0]) ?_ 2 _ rfl; refine bk ?_; refine blk_put (cs := #[.int .i64 ((rd_T41 l0 x11_1).f0), .slice none 0 0, .slice none 0 0]) ?_ 1 _ rfl; refine bk ?_; refine blk_put (cs := #[.int .i64 0, .slice none 0 0, .slice none 0 0]) ?_ 0 _ rfl; refine bk ?_; exact BK223.out) hb); replace HB := Aside0.mk (below_step (bl HB.out) hb); (try clear hb); (try clear hb2); (try clear hk); (try clear hi); (try clear ho0); obtain ⟨Ao9, co9, eo9⟩ := Kd.R_slice HO226.out; subst eo9))
      go_loopg [3, 19] k1 (fun kq v3 v19 w' => ∃ (x3_2 : List (S50)) (x19_2 : Int), v19 = .int .i64 x19_2 ∧ Aside0 (impl_bankGaps.l1 kq x3_2 x11_1 l0 (l0.length : Int) x11_1 t224 (t224.length : Int) x19_2 = some r) ∧ Aside0 (kq ≤ k1) ∧ Aside0 (Kd.R k50 50 w' w.heap.size (fun _ => True) v3 x3_2) ∧ Aside0 (Kd.R k113 113 w' w.heap.size (fun _ => True) (.slice Ao9 t224.length co9) t224) ∧ Aside0 (w'.heap[gb223]? = some (.cells #[.int .i64 ((rd_T41 l0 x11_1).f0), (.slice A222_1 ((rd_T41 l0 x11_1).f1).length c222_1), (.slice A222_2 ((rd_T41 l0 x11_1).f2).length c222_2)] 41 (0, 0))) ∧ Aside0 (Below w.heap.size w w'))
      case atStart => exact ⟨(x3_1), (0), (by first | rfl | (simp; done) | (simp [*]; done)), H', ⟨Nat.le_refl _⟩, ⟨rk HO_3.out⟩, ⟨rk HO226.out⟩, ⟨by refine bk ?_; exact BK223.out⟩, ⟨bl HB.out⟩⟩
      case round =>
       clear H'
       try clear c1
       try clear c2
       try clear c2b0
       try clear p2
       try clear q2
       try clear hx2
       try clear c3
       try clear c3b0
       try clear c4
       try clear c4b0
       try clear c6
       try clear hcz7_0
       try clear hcz7_1
       try clear hcz7_2
       try clear hfz7_0
       try clear hfz7_1
       try clear hfz7_2
       try clear hx222_0
       try clear hx222_1
       try clear hx222_2
       try clear p222
       try clear q222
       obtain ⟨x3_2, x19_2, rfl, HA, HK2, HO_3, HO_17, BK223, HB⟩ := hrel
       cases gk with
       | zero => exact absurd HA.out (by simp [impl_bankGaps.l1])
       | succ k2 =>
        have H := HA.out
        clear HA
        simp only [impl_bankGaps.l1] at H
        by_cases c10 : x19_2 < (t224.length : Int)
        ·rw [if_pos c10] at H
         have c10b0 : decide (x19_2 < (t224.length : Int)) = true := decide_eq_true c10
         clear c10
         by_cases c11 : 0 ≤ x19_2
         ·rw [if_pos c11] at H
          have c11b0 : decide (0 ≤ x19_2) = true := decide_eq_true c11
          clear c11
          by_cases c12 : x19_2 < (t224.length : Int)
          ·rw [if_pos c12] at H
           have c12b0 : decide (x19_2 < (t224.length : Int)) = true := decide_eq_true c12
           clear c12
           by_cases c13 : x3_2.length < 5864062014805
           ·rw [if_pos c13] at H
            have LMc13 := Aside0.mk c13
            clear c13
            obtain ⟨y230, hy230⟩ : ∃ y_ : List (S50), y_ = (x3_2 ++ [(⟨x11_1, (rd_T113 t224 x19_2).f0.f1, (rd_T113 t224 x19_2).f0.f2⟩ : S50)]) := ⟨_, rfl⟩
            replace H : (impl_bankGaps.l1 k2 y230 x11_1 l0 (l0.length : Int) x11_1 t224 (t224.length : Int) (wrap64 (x19_2 + 1))) = some r := by first | (rw [hy230]; with_reducible exact H) | (have H2_ := (Option.bind_some _ _).symm.trans H; rw [hy230]; with_reducible exact H2_) | (have H2_ := (Option.bind_some _ _).symm.trans H; with_reducible exact H2_) | with_reducible exact H | (rw [hy230]; exact H) | exact H
            have Ny230 := Aside0.mk hy230
            clear hy230
            have H' := Aside0.mk H
            clear H
            have p227 : 0 ≤ (x19_2 : Int) := of_decide_eq_true asm
            have q227 : x19_2 < (t224.length : Int) := of_decide_eq_true asm
            obtain ⟨ad227, e227, hx227_0, hx227_1, hx227_2, hx227_3, hx227_4⟩ := at_T113 (Kd.R_reads' HO_17.out).2.2 x19_2 p227 q227
            cases e227
            replace p227 := eq_true p227
            replace q227 := eq_true q227
            go_wp2_with (first | ((with_reducible refine gate_dst (N := 7) rfl ?_); refine bx (cs := #[.int .i64 0, .int .i64 0, .int .i64 0, .int .i64 0, .int .i64 0]) (t := 113) fun gb228 hg w14 hbox hb => ?_; replace HO_3 := Aside0.mk (Kd.R_below (rk HO_3.out) hb); replace HO_17 := Aside0.mk (Kd.R_below (Kd.R_elderB (rk HO_17.out) gb228 (Nat.le_of_eq hg.symm)) hb); have BK228 := Aside0.mk (hbox); have GW228 := Aside0.mk (gs HB.out hg); have GE228 := Aside0.mk (gs HB.out hg); replace HB := Aside0.mk (below_step (bl HB.out) hb); have NB223_228 := Aside0.mk ((nl BK223.out hg)); have NB228_223 := Aside0.mk ((ng BK223.out hg)); replace BK223 := Aside0.mk (bb BK223.out hb); clear hb hbox hg; have hnb15 := NB228_223.out; have hnc15 := NB223_228.out; obtain ⟨hcz16_0, hcz16_1, hcz16_2, hcz16_3, hcz16_4, hfz16_0, hfz16_1, hfz16_2, hfz16_3, hfz16_4⟩ := cz5 BK228.out) | ((with_reducible refine gate_dst (N := 8) rfl ?_); refine bx (cs := #[.int .i64 0, .int .i64 0, .int .i64 0]) (t := 50) fun gb229 hg w17 hbox hb => ?_; replace HO_3 := Aside0.mk (Kd.R_below (Kd.R_elderB (by refine rk ?_; exact (Kd.R_mono (Kd.R_far (p := ⟨gb228, 4, none⟩) (Kd.R_far (p := ⟨gb228, 3, none⟩) (Kd.R_far (p := ⟨gb228, 2, none⟩) (Kd.R_far (p := ⟨gb228, 1, none⟩) (Kd.R_far (p := ⟨gb228, 0, none⟩) (Kd.R_types HO_3.out BK228.out (by decide)) (fun _ hk => hk.2) (.int .i64 ((rd_T113 t224 x19_2).f0.f0))) (fun _ hk => hk.2) (.int .i64 ((rd_T113 t224 x19_2).f0.f1))) (fun _ hk => hk.2) (.int .i64 ((rd_T113 t224 x19_2).f0.f2))) (fun _ hk => hk.2) (.int .i64 ((rd_T113 t224 x19_2).f1))) (fun _ hk => hk.2) (.int .i64 ((rd_T113 t224 x19_2).f2))) (fun _ h_ => h_.1))) gb229 (Nat.le_of_eq hg.symm)) hb); replace HO_17 := Aside0.mk (Kd.R_below (by refine rk ?_; exact (Kd.R_mono (Kd.R_far (p := ⟨gb228, 4, none⟩) (Kd.R_far (p := ⟨gb228, 3, none⟩) (Kd.R_far (p := ⟨gb228, 2, none⟩) (Kd.R_far (p := ⟨gb228, 1, none⟩) (Kd.R_far (p := ⟨gb228, 0, none⟩) (Kd.R_mono HO_17.out (fun k_ hk => (⟨hk, hk.2⟩ : _ ∧ k_ ≠ gb228))) (fun _ hk => hk.2) (.int .i64 ((rd_T113 t224 x19_2).f0.f0))) (fun _ hk => hk.2) (.int .i64 ((rd_T113 t224 x19_2).f0.f1))) (fun _ hk => hk.2) (.int .i64 ((rd_T113 t224 x19_2).f0.f2))) (fun _ hk => hk.2) (.int .i64 ((rd_T113 t224 x19_2).f1))) (fun _ hk => hk.2) (.int .i64 ((rd_T113 t224 x19_2).f2))) (fun _ h_ => h_.1))) hb); have BK229 := Aside0.mk (hbox); have GW229 := Aside0.mk (gs HB.out hg); have GE229 := Aside0.mk (gs HB.out hg); replace HB := Aside0.mk (below_step (bl HB.out) hb); have NB223_229 := Aside0.mk ((by rw [hg]; exact Nat.ne_of_lt (blk_lt (g := gb223) (o := .cells #[.int .i64 ((rd_T41 l0 x11_1).f0), .slice A222_1 ((rd_T41 l0 x11_1).f1).length c222_1, .slice A222_2 ((rd_T41 l0 x11_1).f2).length c222_2] 41 (0, 0)) (bf BK223.out)) : gb223 ≠ gb229)); have NB229_223 := Aside0.mk ((by rw [hg]; exact Nat.ne_of_gt (blk_lt (g := gb223) (o := .cells #[.int .i64 ((rd_T41 l0 x11_1).f0), .slice A222_1 ((rd_T41 l0 x11_1).f1).length c222_1, .slice A222_2 ((rd_T41 l0 x11_1).f2).length c222_2] 41 (0, 0)) (bf BK223.out)) : gb229 ≠ gb223)); replace BK223 := Aside0.mk (blk_below (g := gb223) (o := .cells #[.int .i64 ((rd_T41 l0 x11_1).f0), .slice A222_1 ((rd_T41 l0 x11_1).f1).length c222_1, .slice A222_2 ((rd_T41 l0 x11_1).f2).length c222_2] 41 (0, 0)) (bf BK223.out) hb); have NB228_229 := Aside0.mk ((by rw [hg]; exact Nat.ne_of_lt (blk_lt (g := gb228) (o := .cells #[.int .i64 ((rd_T113 t224 x19_2).f0.f0), .int .i64 ((rd_T113 t224 x19_2).f0.f1), .int .i64 ((rd_T113 t224 x19_2).f0.f2), .int .i64 ((rd_T113 t224 x19_2).f1), .int .i64 ((rd_T113 t224 x19_2).f2)] 113 (0, 0)) (by refine bk ?_; refine blk_put (cs := #[.int .i64 ((rd_T113 t224 x19_2).f0.f0), .int .i64 ((rd_T113 t224 x19_2).f0.f1), .int .i64 ((rd_T113 t224 x19_2).f0.f2), .int .i64 ((rd_T113 t224 x19_2).f1), .int .i64 0]) ?_ 4 _ rfl; refine bk ?_; refine blk_put (cs := #[.int .i64 ((rd_T113 t224 x19_2).f0.f0), .int .i64 ((rd_T113 t224 x19_2).f0.f1), .int .i64 ((rd_T113 t224 x19_2).f0.f2), .int .i64 0, .int .i64 0]) ?_ 3 _ rfl; refine bk ?_; refine blk_put (cs := #[.int .i64 ((rd_T113 t224 x19_2).f0.f0), .int .i64 ((rd_T113 t224 x19_2).f0.f1), .int .i64 0, .int .i64 0, .int .i64 0]) ?_ 2 _ rfl; refine bk ?_; refine blk_put (cs := #[.int .i64 ((rd_T113 t224 x19_2).f0.f0), .int .i64 0, .int .i64 0, .int .i64 0, .int .i64 0]) ?_ 1 _ rfl; refine bk ?_; refine blk_put (cs := #[.int .i64 0, .int .i64 0, .int .i64 0, .int .i64 0, .int .i64 0]) ?_ 0 _ rfl; refine bk ?_; exact BK228.out)) : gb228 ≠ gb229)); have NB229_228 := Aside0.mk ((by rw [hg]; exact Nat.ne_of_gt (blk_lt (g := gb228) (o := .cells #[.int .i64 ((rd_T113 t224 x19_2).f0.f0), .int .i64 ((rd_T113 t224 x19_2).f0.f1), .int .i64 ((rd_T113 t224 x19_2).f0.f2), .int .i64 ((rd_T113 t224 x19_2).f1), .int .i64 ((rd_T113 t224 x19_2).f2)] 113 (0, 0)) (by refine bk ?_; refine blk_put (cs := #[.int .i64 ((rd_T113 t224 x19_2).f0.f0), .int .i64 ((rd_T113 t224 x19_2).f0.f1), .int .i64 ((rd_T113 t224 x19_2).f0.f2), .int .i64 ((rd_T113 t224 x19_2).f1), .int .i64 0]) ?_ 4 _ rfl; refine bk ?_; refine blk_put (cs := #[.int .i64 ((rd_T113 t224 x19_2).f0.f0), .int .i64 ((rd_T113 t224 x19_2).f0.f1), .int .i64 ((rd_T113 t224 x19_2).f0.f2), .int .i64 0, .int .i64 0]) ?_ 3 _ rfl; refine bk ?_; refine blk_put (cs := #[.int .i64 ((rd_T113 t224 x19_2).f0.f0), .int .i64 ((rd_T113 t224 x19_2).f0.f1), .int .i64 0, .int .i64 0, .int .i64 0]) ?_ 2 _ rfl; refine bk ?_; refine blk_put (cs := #[.int .i64 ((rd_T113 t224 x19_2).f0.f0), .int .i64 0, .int .i64 0, .int .i64 0, .int .i64 0]) ?_ 1 _ rfl; refine bk ?_; refine blk_put (cs := #[.int .i64 0, .int .i64 0, .int .i64 0, .int .i64 0, .int .i64 0]) ?_ 0 _ rfl; refine bk ?_; exact BK228.out)) : gb229 ≠ gb228)); replace BK228 := Aside0.mk (blk_below (g := gb228) (o := .cells #[.int .i64 ((rd_T113 t224 x19_2).f0.f0), .int .i64 ((rd_T113 t224 x19_2).f0.f1), .int .i64 ((rd_T113 t224 x19_2).f0.f2), .int .i64 ((rd_T113 t224 x19_2).f1), .int .i64 ((rd_T113 t224 x19_2).f2)] 113 (0, 0)) (by refine bk ?_; refine blk_put (cs := #[.int .i64 ((rd_T113 t224 x19_2).f0.f0), .int .i64 ((rd_T113 t224 x19_2).f0.f1), .int .i64 ((rd_T113 t224 x19_2).f0.f2), .int .i64 ((rd_T113 t224 x19_2).f1), .int .i64 0]) ?_ 4 _ rfl; refine bk ?_; refine blk_put (cs := #[.int .i64 ((rd_T113 t224 x19_2).f0.f0), .int .i64 ((rd_T113 t224 x19_2).f0.f1), .int .i64 ((rd_T113 t224 x19_2).f0.f2), .int .i64 0, .int .i64 0]) ?_ 3 _ rfl; refine bk ?_; refine blk_put (cs := #[.int .i64 ((rd_T113 t224 x19_2).f0.f0), .int .i64 ((rd_T113 t224 x19_2).f0.f1), .int .i64 0, .int .i64 0, .int .i64 0]) ?_ 2 _ rfl; refine bk ?_; refine blk_put (cs := #[.int .i64 ((rd_T113 t224 x19_2).f0.f0), .int .i64 0, .int .i64 0, .int .i64 0, .int .i64 0]) ?_ 1 _ rfl; refine bk ?_; refine blk_put (cs := #[.int .i64 0, .int .i64 0, .int .i64 0, .int .i64 0, .int .i64 0]) ?_ 0 _ rfl; refine bk ?_; exact BK228.out) hb); clear hb hbox hg; have hnb18 := NB229_223.out; have hnc18 := NB223_229.out; have hnb19 := NB229_228.out; have hnc19 := NB228_229.out; obtain ⟨hcz20_0, hcz20_1, hcz20_2, hfz20_0, hfz20_1, hfz20_2⟩ := cz3 BK229.out) | ((with_reducible refine gate_builtin (b := .append) (xs := #[.tmp 27, .tmp 29]) rfl ?_); at_builtin; refine Kd.R_append k50 (w0 := w) w.heap.size rfl (.tmp 27) (.tmp 29) 24 50 (.agg #[(.int .i64 0), (.int .i64 0), (.int .i64 0)]) 24 rfl Try.underlying24 info50 rfl (by decide) (by omega) u3 x3_2 (⟨x11_1, (rd_T113 t224 x19_2).f0.f1, (rd_T113 t224 x19_2).f0.f2⟩ : S50) [.int .i64 x11_1, .int .i64 ((rd_T113 t224 x19_2).f0.f1), .int .i64 ((rd_T113 t224 x19_2).f0.f2)] (fun k_ => k_ ≠ gb229) (fun _ => False) rfl (by first | (go_simp; done) | (go_simp; rfl)) ?aP (fun _ hk => hk.elim) ?aF ?aO ?aB ?aS ?aL ?_; (case aP => exact k50_mkM _ _ _ (⟨x11_1, (rd_T113 t224 x19_2).f0.f1, (rd_T113 t224 x19_2).f0.f2⟩ : S50)); (case aB => exact (bl HB.out)); (case aF => exact (fun k_ hk => Kd.freshB (g := gb229) (o := .cells #[.int .i64 x11_1, .int .i64 ((rd_T113 t224 x19_2).f0.f1), .int .i64 ((rd_T113 t224 x19_2).f0.f2)] 50 (0, 0)) (by refine bk ?_; refine blk_put (cs := #[.int .i64 ((rd_T113 t224 x19_2).f0.f0), .int .i64 ((rd_T113 t224 x19_2).f0.f1), .int .i64 ((rd_T113 t224 x19_2).f0.f2)]) ?_ 0 _ rfl; refine bk ?_; refine blk_put (cs := #[.int .i64 ((rd_T113 t224 x19_2).f0.f0), .int .i64 ((rd_T113 t224 x19_2).f0.f1), .int .i64 0]) ?_ 2 _ rfl; refine bk ?_; refine blk_put (cs := #[.int .i64 ((rd_T113 t224 x19_2).f0.f0), .int .i64 0, .int .i64 0]) ?_ 1 _ rfl; refine bk ?_; refine blk_put (cs := #[.int .i64 0, .int .i64 0, .int .i64 0]) ?_ 0 _ rfl; refine bk ?_; exact BK229.out) k_ hk)); (case aO => exact (by refine rk ?_; exact Kd.R_mono (Kd.R_far (p := ⟨gb229, 0, none⟩) (Kd.R_far (p := ⟨gb229, 2, none⟩) (Kd.R_far (p := ⟨gb229, 1, none⟩) (Kd.R_far (p := ⟨gb229, 0, none⟩) (Kd.R_mono HO_3.out (fun k_ hk => (⟨hk, hk.2⟩ : _ ∧ k_ ≠ gb229))) (fun _ hk => hk.2) (.int .i64 ((rd_T113 t224 x19_2).f0.f0))) (fun _ hk => hk.2) (.int .i64 ((rd_T113 t224 x19_2).f0.f1))) (fun _ hk => hk.2) (.int .i64 ((rd_T113 t224 x19_2).f0.f2))) (fun _ hk => hk.2) (.int .i64 x11_1)) (fun _ hk => hk.1.2))); (case aS => exact (below_size (bl HB.out))); (case aL => have := LMc13.out; omega); intro v231 w21 ho hb hg hat; rw [← Ny230.out] at ho; replace HO_17 := Aside0.mk (Kd.R_over' (by refine rk ?_; exact (Kd.R_mono (Kd.R_far (p := ⟨gb229, 0, none⟩) (Kd.R_far (p := ⟨gb229, 2, none⟩) (Kd.R_far (p := ⟨gb229, 1, none⟩) (Kd.R_far (p := ⟨gb229, 0, none⟩) (Kd.R_types HO_17.out BK229.out (by decide)) (fun _ hk => hk.2) (.int .i64 ((rd_T113 t224 x19_2).f0.f0))) (fun _ hk => hk.2) (.int .i64 ((rd_T113 t224 x19_2).f0.f1))) (fun _ hk => hk.2) (.int .i64 ((rd_T113 t224 x19_2).f0.f2))) (fun _ hk => hk.2) (.int .i64 x11_1)) (fun _ h_ => h_.1))) (Kd.R_typed (by refine rk ?_; exact (Kd.R_mono (Kd.R_far (p := ⟨gb229, 0, none⟩) (Kd.R_far (p := ⟨gb229, 2, none⟩) (Kd.R_far (p := ⟨gb229, 1, none⟩) (Kd.R_far (p := ⟨gb229, 0, none⟩) (Kd.R_mono HO_3.out (fun k_ hk => (⟨hk, hk.2⟩ : _ ∧ k_ ≠ gb229))) (fun _ hk => hk.2) (.int .i64 ((rd_T113 t224 x19_2).f0.f0))) (fun _ hk => hk.2) (.int .i64 ((rd_T113 t224 x19_2).f0.f1))) (fun _ hk => hk.2) (.int .i64 ((rd_T113 t224 x19_2).f0.f2))) (fun _ hk => hk.2) (.int .i64 x11_1)) (fun _ h_ => h_.1)))) (by decide) hg); replace BK223 := Aside0.mk (blk_grown (g := gb223) (o := .cells #[.int .i64 ((rd_T41 l0 x11_1).f0), .slice A222_1 ((rd_T41 l0 x11_1).f1).length c222_1, .slice A222_2 ((rd_T41 l0 x11_1).f2).length c222_2] 41 (0, 0)) (bf BK223.out) hg (Kd.R_ne HO_3.out BK223.out (by decide))); replace BK228 := Aside0.mk (blk_grown (g := gb228) (o := .cells #[.int .i64 ((rd_T113 t224 x19_2).f0.f0), .int .i64 ((rd_T113 t224 x19_2).f0.f1), .int .i64 ((rd_T113 t224 x19_2).f0.f2), .int .i64 ((rd_T113 t224 x19_2).f1), .int .i64 ((rd_T113 t224 x19_2).f2)] 113 (0, 0)) (bf BK228.out) hg (Kd.R_ne HO_3.out BK228.out (by decide))); replace BK229 := Aside0.mk (blk_grown (g := gb229) (o := .cells #[.int .i64 x11_1, .int .i64 ((rd_T113 t224 x19_2).f0.f1), .int .i64 ((rd_T113 t224 x19_2).f0.f2)] 50 (0, 0)) (by refine bk ?_; refine blk_put (cs := #[.int .i64 ((rd_T113 t224 x19_2).f0.f0), .int .i64 ((rd_T113 t224 x19_2).f0.f1), .int .i64 ((rd_T113 t224 x19_2).f0.f2)]) ?_ 0 _ rfl; refine bk ?_; refine blk_put (cs := #[.int .i64 ((rd_T113 t224 x19_2).f0.f0), .int .i64 ((rd_T113 t224 x19_2).f0.f1), .int .i64 0]) ?_ 2 _ rfl; refine bk ?_; refine blk_put (cs := #[.int .i64 ((rd_T113 t224 x19_2).f0.f0), .int .i64 0, .int .i64 0]) ?_ 1 _ rfl; refine bk ?_; refine blk_put (cs := #[.int .i64 0, .int .i64 0, .int .i64 0]) ?_ 0 _ rfl; refine bk ?_; exact BK229.out) hg (Kd.R_away HO_3.out (fun _ hk => hk.2))); replace HB := Aside0.mk (hb); have HO232 := Aside0.mk (ho); clear HO_3; clear ho hb hg hat))
            go_roundg k2
            case measure => have := HK1.out; have := HK2.out; omega
            case rel => exact ⟨(y230), (wrap64 (x19_2 + 1)), (by first | rfl | (simp; done) | (simp [*]; done)), H', ⟨by have := HK1.out; have := HK2.out; omega⟩, ⟨by refine rk ?_; exact Kd.R_mono HO232.out (fun _ hk => trivial)⟩, ⟨by refine rk ?_; exact Kd.R_mono HO_17.out (fun _ hk => trivial)⟩, ⟨by refine bk ?_; exact BK223.out⟩, ⟨bl HB.out⟩⟩
           ·rw [if_neg c13] at H
            exact absurd H (by simp)
          ·rw [if_neg c12] at H
           exact absurd H (by simp)
         ·rw [if_neg c11] at H
          exact absurd H (by simp)
        ·rw [if_neg c10] at H
         have c10b0 : decide (x19_2 < (t224.length : Int)) = false := decide_eq_false c10
         clear c10
         have H' := Aside0.mk H
         clear H
         go_wp2
         go_roundg k2
         case measure => have := HK1.out; have := HK2.out; omega
         case rel => exact ⟨(x3_2), (wrap64 (x11_1 + 1)), (by first | rfl | (simp; done) | (simp [*]; done)), H', ⟨by have := HK1.out; have := HK2.out; omega⟩, ⟨rk HO_3.out⟩, ⟨bl HB.out⟩⟩
     ·rw [if_neg c4] at H
      exact absurd H (by simp)
    ·rw [if_neg c3] at H
     exact absurd H (by simp)
   ·rw [if_neg c2] at H
    have c2b0 : decide (x11_1 < (l0.length : Int)) = false := decide_eq_false c2
    clear c2
    obtain rfl := Option.some.inj H
    go_wp2
    go_ret
    exact ⟨_, by first | rfl | (simp [errW_none, errW_some] <;> rfl) | (simp [*, errW_none, errW_some] <;> rfl), rk HO_3.out, bl HB.out⟩
end Go.Proofs.Ytbpjidekjogfeaa.A

namespace Go.Proofs.Ytbpjidekjogfeaa.A
open Go.RowKit Go.Proofs.YtbpjidekjogfeaaW.PrintWords Go.Proofs.YtbpjidekjogfeaaW.PrintLast Go.Proofs.YtbpjidekjogfeaaW.PrintMore
attribute [local go_sem] max2_int min2_int max_two min_two max_three min_three max_four min_four   
set_option linter.unusedVariables false
set_option linter.unusedSimpArgs false
def laws_eqIntS.l0 : Nat → List Int → List Int → Int → Option (Bool)
 | 0, _, _, _ => none
 | k + 1, x0, x1, x5 => if x5 < (x0.length : Int) then (if 0 ≤ x5 then (if x5 < (x1.length : Int) then (if (rd x0 x5) = (rd x1 x5) then (laws_eqIntS.l0 k x0 x1 (wrap64 (x5 + 1))) else (some false)) else (none)) else (none)) else (some true)
def laws_eqIntS.f (k : Nat) (l0 : List Int) (l1 : List Int) : Option (Bool) := if (l0.length : Int) = (l1.length : Int) then (laws_eqIntS.l0 k l0 l1 0) else (some false)
set_option maxHeartbeats 8000000 in
set_option maxRecDepth 100000 in
theorem laws_eqIntS.calls (k : Nat) (A0 : Option Addr) (c0 : Nat) (l0 : List Int) (A1 : Option Addr) (c1 : Nat) (l1 : List Int) (r : Bool) (w : World) (hr0 : Kd.C (Kd.int .i64) w A0 l0.length l0) (hc0 : l0.length ≤ c0) (hr1 : Kd.C (Kd.int .i64) w A1 l1.length l1) (hc1 : l1.length ≤ c1) (h : laws_eqIntS.f k l0 l1 = some r) :
  Calls Try.prog 45 #[.slice A0 l0.length c0, .slice A1 l1.length c1] w fun e w' => e = .returned (.bool r) ∧ Drawn0 w w' := by
 have HR0 := Aside0.mk hr0
 have HC0 := Aside0.mk hc0
 clear hr0 hc0
 have HR1 := Aside0.mk hr1
 have HC1 := Aside0.mk hc1
 clear hr1 hc1
 have H : (if (l0.length : Int) = (l1.length : Int) then (laws_eqIntS.l0 k l0 l1 0) else (some false)) = some r := h
 clear h
 by_cases c3 : (l0.length : Int) = (l1.length : Int)
 ·rw [if_pos c3] at H
  have c3b0 : ((l0.length : Int) == (l1.length : Int)) = true := beq_iff_eq.mpr c3
  have c3b1 : ((l0.length : Int) != (l1.length : Int)) = false := bne_eq_false_iff_eq.mpr c3
  have c3b2 : (l0.length == l1.length) = true := by first | simpa using c3 | (simp at c3 ⊢; omega)
  clear c3
  have H' := Aside0.mk H
  clear H
  go_enter Try.func45, Try.ntmps45
  go_wp2
  repeat (go_quiet (fail); try go_wp2)
  go_loopg [5] k (fun kq v5 w' => ∃ (x5_1 : Int), v5 = .int .i64 x5_1 ∧ Aside0 (laws_eqIntS.l0 kq l0 l1 x5_1 = some r) ∧ Aside0 (kq ≤ k) ∧ Drawn0 w w')
  case atStart => exact ⟨(0), (by first | rfl | (simp; done) | (simp [*]; done)), H', ⟨Nat.le_refl _⟩, by repeat (first | exact Drawn0.refl _ | apply Drawn0.step)⟩
  case round =>
   clear H'
   try clear c1
   try clear p2
   try clear c3
   try clear c3b0
   try clear c3b1
   try clear c3b2
   obtain ⟨x5_1, rfl, HA, HK1, ⟨m1, rfl⟩⟩ := hrel
   cases gk with
   | zero => exact absurd HA.out (by simp [laws_eqIntS.l0])
   | succ k1 =>
    have H := HA.out
    clear HA
    simp only [laws_eqIntS.l0] at H
    by_cases c4 : x5_1 < (l0.length : Int)
    ·rw [if_pos c4] at H
     have c4b0 : decide (x5_1 < (l0.length : Int)) = true := decide_eq_true c4
     clear c4
     by_cases c5 : 0 ≤ x5_1
     ·rw [if_pos c5] at H
      have c5b0 : decide (0 ≤ x5_1) = true := decide_eq_true c5
      clear c5
      by_cases c6 : x5_1 < (l1.length : Int)
      ·rw [if_pos c6] at H
       have c6b0 : decide (x5_1 < (l1.length : Int)) = true := decide_eq_true c6
       clear c6
       by_cases c7 : (rd l0 x5_1) = (rd l1 x5_1)
       ·rw [if_pos c7] at H
        have c7b0 : ((rd l0 x5_1) == (rd l1 x5_1)) = true := beq_iff_eq.mpr c7
        have c7b1 : ((rd l0 x5_1) != (rd l1 x5_1)) = false := bne_eq_false_iff_eq.mpr c7
        clear c7
        have H' := Aside0.mk H
        clear H
        have p242 : 0 ≤ (x5_1 : Int) := of_decide_eq_true asm
        have q242 : x5_1 < (l0.length : Int) := of_decide_eq_true asm
        obtain ⟨ad242, e242, hx242_0⟩ := Kd.at_int HR0.out x5_1 p242 q242
        cases e242
        replace p242 := eq_true p242
        replace q242 := eq_true q242
        have p243 : 0 ≤ (x5_1 : Int) := of_decide_eq_true asm
        have q243 : x5_1 < (l1.length : Int) := of_decide_eq_true asm
        obtain ⟨ad243, e243, hx243_0⟩ := Kd.at_int HR1.out x5_1 p243 q243
        cases e243
        replace p243 := eq_true p243
        replace q243 := eq_true q243
        go_wp2
        repeat (go_quiet (fail); try go_wp2)
        go_roundg k1
        case measure => have := HK1.out; omega
        case rel => exact ⟨(wrap64 (x5_1 + 1)), (by first | rfl | (simp; done) | (simp [*]; done)), H', ⟨by have := HK1.out; omega⟩, by repeat (first | exact Drawn0.refl _ | apply Drawn0.step)⟩
       ·rw [if_neg c7] at H
        have c7b0 : ((rd l0 x5_1) == (rd l1 x5_1)) = false := beq_eq_false_iff_ne.mpr c7
        have c7b1 : ((rd l0 x5_1) != (rd l1 x5_1)) = true := bne_iff_ne.mpr c7
        obtain rfl := Option.some.inj H
        have p242 : 0 ≤ (x5_1 : Int) := of_decide_eq_true asm
        have q242 : x5_1 < (l0.length : Int) := of_decide_eq_true asm
        obtain ⟨ad242, e242, hx242_0⟩ := Kd.at_int HR0.out x5_1 p242 q242
        cases e242
        replace p242 := eq_true p242
        replace q242 := eq_true q242
        have p243 : 0 ≤ (x5_1 : Int) := of_decide_eq_true asm
        have q243 : x5_1 < (l1.length : Int) := of_decide_eq_true asm
        obtain ⟨ad243, e243, hx243_0⟩ := Kd.at_int HR1.out x5_1 p243 q243
        cases e243
        replace p243 := eq_true p243
        replace q243 := eq_true q243
        go_wp2
        repeat (go_quiet (fail); try go_wp2)
        go_ret
        exact ⟨by first | rfl | (simp; done) | (simp [*]; done), by repeat (first | exact Drawn0.refl _ | apply Drawn0.step)⟩
      ·rw [if_neg c6] at H
       exact absurd H (by simp)
     ·rw [if_neg c5] at H
      exact absurd H (by simp)
    ·rw [if_neg c4] at H
     have c4b0 : decide (x5_1 < (l0.length : Int)) = false := decide_eq_false c4
     clear c4
     obtain rfl := Option.some.inj H
     go_wp2
     repeat (go_quiet (fail); try go_wp2)
     go_ret
     exact ⟨by first | rfl | (simp; done) | (simp [*]; done), by repeat (first | exact Drawn0.refl _ | apply Drawn0.step)⟩
 ·rw [if_neg c3] at H
  have c3b0 : ((l0.length : Int) == (l1.length : Int)) = false := beq_eq_false_iff_ne.mpr c3
  have c3b1 : ((l0.length : Int) != (l1.length : Int)) = true := bne_iff_ne.mpr c3
  have c3b2 : (l0.length == l1.length) = false := by first | simpa using c3 | (simp at c3 ⊢; omega)
  obtain rfl := Option.some.inj H
  go_enter Try.func45, Try.ntmps45
  go_wp2
  repeat (go_quiet (fail); try go_wp2)
  go_ret
  exact ⟨by first | rfl | (simp; done) | (simp [*]; done), by repeat (first | exact Drawn0.refl _ | apply Drawn0.step)⟩
end Go.Proofs.Ytbpjidekjogfeaa.A

namespace Go.Proofs.Ytbpjidekjogfeaa.A
open Go.RowKit Go.Proofs.YtbpjidekjogfeaaW.PrintWords Go.Proofs.YtbpjidekjogfeaaW.PrintLast Go.Proofs.YtbpjidekjogfeaaW.PrintMore
attribute [local go_sem] max2_int min2_int max_two min_two max_three min_three max_four min_four   
set_option linter.unusedVariables false
set_option linter.unusedSimpArgs false
def laws_eqBox.f (a0_0 : Int) (a0_1 : Int) (a0_2 : Int) (a0_3 : Bool) (a1_0 : Int) (a1_1 : Int) (a1_2 : Int) (a1_3 : Bool) : Option (Bool) := if a0_0 = a1_0 then (if a0_1 = a1_1 then (if a0_2 = a1_2 then (if (a0_3 != a1_3) = true then (some false) else (some true)) else (some false)) else (some false)) else (some false)
set_option maxHeartbeats 8000000 in
set_option maxRecDepth 100000 in
theorem laws_eqBox.calls (a0_0 : Int) (a0_1 : Int) (a0_2 : Int) (a0_3 : Bool) (a1_0 : Int) (a1_1 : Int) (a1_2 : Int) (a1_3 : Bool) (r : Bool) (w : World) (h : laws_eqBox.f a0_0 a0_1 a0_2 a0_3 a1_0 a1_1 a1_2 a1_3 = some r) :
  Calls Try.prog 121 #[.agg #[.int .i64 a0_0, .int .i64 a0_1, .int .i64 a0_2, .bool a0_3], .agg #[.int .i64 a1_0, .int .i64 a1_1, .int .i64 a1_2, .bool a1_3]] w fun e w' => e = .returned (.bool r) ∧ Below w.heap.size w w' := by
 have hu98 := Try.underlying98
 have HB := Aside0.mk (Below.refl w.heap.size w)
 have H : (if a0_0 = a1_0 then (if a0_1 = a1_1 then (if a0_2 = a1_2 then (if (a0_3 != a1_3) = true then (some false) else (some true)) else (some false)) else (some false)) else (some false)) = some r := h
 clear h
 by_cases c3 : a0_0 = a1_0
 focus
  rw [if_pos c3] at H
  have c3b0 : (a0_0 == a1_0) = true := beq_iff_eq.mpr c3
  have c3b1 : (a0_0 != a1_0) = false := bne_eq_false_iff_eq.mpr c3
  clear c3
  by_cases c4 : a0_1 = a1_1
  focus
   rw [if_pos c4] at H
   have c4b0 : (a0_1 == a1_1) = true := beq_iff_eq.mpr c4
   have c4b1 : (a0_1 != a1_1) = false := bne_eq_false_iff_eq.mpr c4
   clear c4
   by_cases c5 : a0_2 = a1_2
   focus
    rw [if_pos c5] at H
    have c5b0 : (a0_2 == a1_2) = true := beq_iff_eq.mpr c5
    have c5b1 : (a0_2 != a1_2) = false := bne_eq_false_iff_eq.mpr c5
    clear c5
    by_cases c6 : (a0_3 != a1_3) = true
    focus
     rw [if_pos c6] at H
     have c6b0 : (a0_3 != a1_3) = true := c6
     (try (have c6b1 : decide (a0_3 = a1_3) = false := by simpa using c6))
     (try (have c6b2 : (a0_3 == a1_3) = false := by simpa using c6))
     (try (have c6b3 : ¬ (a0_3 = a1_3) := by simpa using c6))
     clear c6
     obtain rfl := Option.some.inj H
    rotate_left
    focus
     rw [if_neg c6] at H
     have c6b0 : (a0_3 != a1_3) = false := by simpa using c6
     (try (have c6b1 : decide (a0_3 = a1_3) = true := by simpa using c6))
     (try (have c6b2 : (a0_3 == a1_3) = true := by simpa using c6))
     clear c6
     obtain rfl := Option.some.inj H
    rotate_left
   rotate_left 2
   focus
    rw [if_neg c5] at H
    have c5b0 : (a0_2 == a1_2) = false := beq_eq_false_iff_ne.mpr c5
    have c5b1 : (a0_2 != a1_2) = true := bne_iff_ne.mpr c5
    obtain rfl := Option.some.inj H
   rotate_left
  rotate_left 3
  focus
   rw [if_neg c4] at H
   have c4b0 : (a0_1 == a1_1) = false := beq_eq_false_iff_ne.mpr c4
   have c4b1 : (a0_1 != a1_1) = true := bne_iff_ne.mpr c4
   obtain rfl := Option.some.inj H
  rotate_left
 rotate_left 4
 focus
  rw [if_neg c3] at H
  have c3b0 : (a0_0 == a1_0) = false := beq_eq_false_iff_ne.mpr c3
  have c3b1 : (a0_0 != a1_0) = true := bne_iff_ne.mpr c3
  obtain rfl := Option.some.inj H
 rotate_left
 all_goals go_enter Try.func121, Try.ntmps121
 all_goals go_wp2_with (first | ((with_reducible refine gate_dst (N := 2) rfl ?_); refine bx (cs := #[.int .i64 a0_0, .int .i64 a0_1, .int .i64 a0_2, .bool a0_3]) (t := 98) fun gb244 hg w7 hbox hb => ?_; have BK244 := Aside0.mk (hbox); have GW244 := Aside0.mk (gs HB.out hg); have GE244 := Aside0.mk (gs HB.out hg); replace HB := Aside0.mk (below_step (bl HB.out) hb); clear hb hbox hg) | ((with_reducible refine gate_dst (N := 3) rfl ?_); refine bx (cs := #[.int .i64 a1_0, .int .i64 a1_1, .int .i64 a1_2, .bool a1_3]) (t := 98) fun gb245 hg w8 hbox hb => ?_; have BK245 := Aside0.mk (hbox); have GW245 := Aside0.mk (gs HB.out hg); have GE245 := Aside0.mk (gs HB.out hg); replace HB := Aside0.mk (below_step (bl HB.out) hb); have NB244_245 := Aside0.mk ((nl BK244.out hg)); have NB245_244 := Aside0.mk ((ng BK244.out hg)); replace BK244 := Aside0.mk (bb BK244.out hb); clear hb hbox hg; have hnb9 := NB244_245.out; have hnc9 := NB245_244.out; obtain ⟨hcz10_0, hcz10_1, hcz10_2, hcz10_3, hfz10_0, hfz10_1, hfz10_2, hfz10_3⟩ := cz4 BK244.out; obtain ⟨hcz11_0, hcz11_1, hcz11_2, hcz11_3, hfz11_0, hfz11_1, hfz11_2, hfz11_3⟩ := cz4 BK245.out))
 ·go_ret
  exact ⟨by first | rfl | (simp [errW_none, errW_some] <;> rfl) | (simp [*, errW_none, errW_some] <;> rfl), bl HB.out⟩
 ·go_ret
  exact ⟨by first | rfl | (simp [errW_none, errW_some] <;> rfl) | (simp [*, errW_none, errW_some] <;> rfl), bl HB.out⟩
 ·go_ret
  exact ⟨by first | rfl | (simp [errW_none, errW_some] <;> rfl) | (simp [*, errW_none, errW_some] <;> rfl), bl HB.out⟩
 ·go_ret
  exact ⟨by first | rfl | (simp [errW_none, errW_some] <;> rfl) | (simp [*, errW_none, errW_some] <;> rfl), bl HB.out⟩
 ·go_ret
  exact ⟨by first | rfl | (simp [errW_none, errW_some] <;> rfl) | (simp [*, errW_none, errW_some] <;> rfl), bl HB.out⟩

def laws_eqBoxS.l0 : Nat → List (S98) → List (S98) → Int → Option (Bool)
 | 0, _, _, _ => none
 | k + 1, x0, x1, x5 => if x5 < (x0.length : Int) then (if 0 ≤ x5 then (if x5 < (x1.length : Int) then ((laws_eqBox.f ((rd_T98 x0 x5).f0) ((rd_T98 x0 x5).f1) ((rd_T98 x0 x5).f2) ((rd_T98 x0 x5).f3) ((rd_T98 x1 x5).f0) ((rd_T98 x1 x5).f1) ((rd_T98 x1 x5).f2) ((rd_T98 x1 x5).f3)).bind fun t248 => (if t248 = true then (laws_eqBoxS.l0 k x0 x1 (wrap64 (x5 + 1))) else (some false))) else (none)) else (none)) else (some true)
def laws_eqBoxS.f (k : Nat) (l0 : List (S98)) (l1 : List (S98)) : Option (Bool) := if (l0.length : Int) = (l1.length : Int) then (laws_eqBoxS.l0 k l0 l1 0) else (some false)
def laws_eqBoxS.T6 : Bool × List (List Nat × List Nat) := (true, [([], []), ([], []), ([0, 1], [0, 1]), ([2], [2]), ([], []), ([], []), ([4, 5], [4, 5]), ([6], [6]), ([3, 7], [3, 7]), ([8], [8])])
def laws_eqBoxS.B6 : List Nat := [0, 0, 3, 7, 0, 0, 48, 112, 255, 511]
theorem laws_eqBoxS.tab6 : rtab .any (opsOf Try.f97 6) = laws_eqBoxS.T6 := by kernel_rfl
theorem laws_eqBoxS.bits6 : waitsOk laws_eqBoxS.T6.2 laws_eqBoxS.B6 = true := by kernel_rfl
set_option maxHeartbeats 8000000 in
set_option maxRecDepth 100000 in
theorem laws_eqBoxS.calls (k : Nat) (A0 : Option Addr) (c0 : Nat) (l0 : List (S98)) (A1 : Option Addr) (c1 : Nat) (l1 : List (S98)) (r : Bool) (w : World) (hr0 : Kd.C k98 w A0 l0.length l0) (hc0 : l0.length ≤ c0) (hr1 : Kd.C k98 w A1 l1.length l1) (hc1 : l1.length ≤ c1) (h : laws_eqBoxS.f k l0 l1 = some r) :
  Calls Try.prog 97 #[.slice A0 l0.length c0, .slice A1 l1.length c1] w fun e w' => e = .returned (.bool r) ∧ Below w.heap.size w w' := by
 have hu98 := Try.underlying98
 have HR0 := Aside0.mk hr0
 have HC0 := Aside0.mk hc0
 clear hr0 hc0
 have HR1 := Aside0.mk hr1
 have HC1 := Aside0.mk hc1
 clear hr1 hc1
 have HB := Aside0.mk (Below.refl w.heap.size w)
 have H : (if (l0.length : Int) = (l1.length : Int) then (laws_eqBoxS.l0 k l0 l1 0) else (some false)) = some r := h
 clear h
 by_cases c3 : (l0.length : Int) = (l1.length : Int)
 ·rw [if_pos c3] at H
  have c3b0 : ((l0.length : Int) == (l1.length : Int)) = true := beq_iff_eq.mpr c3
  have c3b1 : ((l0.length : Int) != (l1.length : Int)) = false := bne_eq_false_iff_eq.mpr c3
  have c3b2 : (l0.length == l1.length) = true := by first | simpa using c3 | (simp at c3 ⊢; omega)
  clear c3
  have H' := Aside0.mk H
  clear H
  go_enter Try.func97, Try.ntmps97
  go_wp2
  go_loopg [5] k (fun kq v5 w' => ∃ (x5_1 : Int), v5 = .int .i64 x5_1 ∧ Aside0 (laws_eqBoxS.l0 kq l0 l1 x5_1 = some r) ∧ Aside0 (kq ≤ k) ∧ Aside0 (Below w.heap.size w w'))
  case atStart => exact ⟨(0), (by first | rfl | (simp; done) | (simp [*]; done)), H', ⟨Nat.le_refl _⟩, ⟨bl HB.out⟩⟩
  case round =>
   clear H'
   try clear c1
   try clear p2
   try clear c3
   try clear c3b0
   try clear c3b1
   try clear c3b2
   obtain ⟨x5_1, rfl, HA, HK1, HB⟩ := hrel
   cases gk with
   | zero => exact absurd HA.out (by simp [laws_eqBoxS.l0])
   | succ k1 =>
    have H := HA.out
    clear HA
    simp only [laws_eqBoxS.l0] at H
    by_cases c4 : x5_1 < (l0.length : Int)
    ·rw [if_pos c4] at H
     have c4b0 : decide (x5_1 < (l0.length : Int)) = true := decide_eq_true c4
     clear c4
     by_cases c5 : 0 ≤ x5_1
     ·rw [if_pos c5] at H
      have c5b0 : decide (0 ≤ x5_1) = true := decide_eq_true c5
      clear c5
      by_cases c6 : x5_1 < (l1.length : Int)
      ·rw [if_pos c6] at H
       have c6b0 : decide (x5_1 < (l1.length : Int)) = true := decide_eq_true c6
       clear c6
       replace H := Option.bind_eq_some_iff.mp H
       obtain ⟨t248, A70, H⟩ := H
       try dsimp only at H
       have A7 := Aside0.mk A70
       clear A70
       by_cases c8 : t248 = true
       ·subst c8
        rw [if_pos rfl] at H
        have H' := Aside0.mk H
        clear H
        try go_wp2
        replace HB := Aside0.mk (below_drew1 HB.out)
        have p246 : 0 ≤ (x5_1 : Int) := of_decide_eq_true asm
        have q246 : x5_1 < (l0.length : Int) := of_decide_eq_true asm
        obtain ⟨ad246, e246, hx246_0, hx246_1, hx246_2, hx246_3⟩ := at_T98 HR0.out x5_1 p246 q246
        have hw246_3 := hx246_3
        have hw246_2 := hx246_2
        have hw246_1 := hx246_1
        have hw246_0 := hx246_0
        cases e246
        replace hx246_0 := (HB.out.cell (World.block_lt_of_cell? w _ hx246_0)).trans hx246_0
        replace hx246_1 := (HB.out.cell (World.block_lt_of_cell? w _ hx246_1)).trans hx246_1
        replace hx246_2 := (HB.out.cell (World.block_lt_of_cell? w _ hx246_2)).trans hx246_2
        replace hx246_3 := (HB.out.cell (World.block_lt_of_cell? w _ hx246_3)).trans hx246_3
        replace p246 := eq_true p246
        replace q246 := eq_true q246
        have p247 : 0 ≤ (x5_1 : Int) := of_decide_eq_true asm
        have q247 : x5_1 < (l1.length : Int) := of_decide_eq_true asm
        obtain ⟨ad247, e247, hx247_0, hx247_1, hx247_2, hx247_3⟩ := at_T98 HR1.out x5_1 p247 q247
        have hw247_3 := hx247_3
        have hw247_2 := hx247_2
        have hw247_1 := hx247_1
        have hw247_0 := hx247_0
        cases e247
        replace hx247_0 := (HB.out.cell (World.block_lt_of_cell? w _ hx247_0)).trans hx247_0
        replace hx247_1 := (HB.out.cell (World.block_lt_of_cell? w _ hx247_1)).trans hx247_1
        replace hx247_2 := (HB.out.cell (World.block_lt_of_cell? w _ hx247_2)).trans hx247_2
        replace hx247_3 := (HB.out.cell (World.block_lt_of_cell? w _ hx247_3)).trans hx247_3
        replace p247 := eq_true p247
        replace q247 := eq_true q247
        refine start_ (n := 10) (S := fun w' => w'.cell? (ad246.add ((x5_1).toNat * 4)) = some (.int .i64 ((rd_T98 l0 x5_1).f0)) ∧ w'.cell? ⟨(ad246.add ((x5_1).toNat * 4)).block, (ad246.add ((x5_1).toNat * 4)).off + 1, none⟩ = some (.int .i64 ((rd_T98 l0 x5_1).f1)) ∧ w'.cell? ⟨(ad246.add ((x5_1).toNat * 4)).block, (ad246.add ((x5_1).toNat * 4)).off + 2, none⟩ = some (.int .i64 ((rd_T98 l0 x5_1).f2)) ∧ w'.cell? ⟨(ad246.add ((x5_1).toNat * 4)).block, (ad246.add ((x5_1).toNat * 4)).off + 3, none⟩ = some (.bool ((rd_T98 l0 x5_1).f3)) ∧ w'.cell? (ad247.add ((x5_1).toNat * 4)) = some (.int .i64 ((rd_T98 l1 x5_1).f0)) ∧ w'.cell? ⟨(ad247.add ((x5_1).toNat * 4)).block, (ad247.add ((x5_1).toNat * 4)).off + 1, none⟩ = some (.int .i64 ((rd_T98 l1 x5_1).f1)) ∧ w'.cell? ⟨(ad247.add ((x5_1).toNat * 4)).block, (ad247.add ((x5_1).toNat * 4)).off + 2, none⟩ = some (.int .i64 ((rd_T98 l1 x5_1).f2)) ∧ w'.cell? ⟨(ad247.add ((x5_1).toNat * 4)).block, (ad247.add ((x5_1).toNat * 4)).off + 3, none⟩ = some (.bool ((rd_T98 l1 x5_1).f3))) (ds := []) #[false, false, false, false, false, false, false, false, false, false] (by kernel_rfl) rfl rfl ⟨((HB.out.cell (World.block_lt_of_cell? w _ hw246_0)).trans hw246_0), ((HB.out.cell (World.block_lt_of_cell? w _ hw246_1)).trans hw246_1), ((HB.out.cell (World.block_lt_of_cell? w _ hw246_2)).trans hw246_2), ((HB.out.cell (World.block_lt_of_cell? w _ hw246_3)).trans hw246_3), ((HB.out.cell (World.block_lt_of_cell? w _ hw247_0)).trans hw247_0), ((HB.out.cell (World.block_lt_of_cell? w _ hw247_1)).trans hw247_1), ((HB.out.cell (World.block_lt_of_cell? w _ hw247_2)).trans hw247_2), ((HB.out.cell (World.block_lt_of_cell? w _ hw247_3)).trans hw247_3)⟩ (fun hHeld => ?_); refine with_tabW laws_eqBoxS.tab6 laws_eqBoxS.bits6 (fun HT_ HW_ => ?_)
        generalize wr.drew = w9 at HB hx246_0 hx246_1 hx246_2 hx246_3 hx247_0 hx247_1 hx247_2 hx247_3 hHeld ⊢
        refine puA (i := 0) (N := some 17) HT_.out ?_
        refine puA (i := 1) (N := some 18) HT_.out ?_
        refine puA (i := 2) (N := some 19) HT_.out ?_
        refine puA (i := 4) (N := some 21) HT_.out ?_
        refine puA (i := 5) (N := some 22) HT_.out ?_
        refine puA (i := 6) (N := some 23) HT_.out ?_
        refine tkA8 (i := 3) (N := some 20) HT_.out HW_.out hHeld ?_
        refine tkA8 (i := 7) (N := some 24) HT_.out HW_.out hHeld ?_
        refine onA (i := 8) (N := some 25) HT_.out (fun K hK => ?_)
        refine goes_ Try.func121 (by kernel_rfl) rfl #[.agg #[.int .i64 ((rd_T98 l0 x5_1).f0), .int .i64 ((rd_T98 l0 x5_1).f1), .int .i64 ((rd_T98 l0 x5_1).f2), .bool ((rd_T98 l0 x5_1).f3)], .agg #[.int .i64 ((rd_T98 l1 x5_1).f0), .int .i64 ((rd_T98 l1 x5_1).f1), .int .i64 ((rd_T98 l1 x5_1).f2), .bool ((rd_T98 l1 x5_1).f3)]] (by rfl) rfl rfl mapd ?_
        with_reducible refine (laws_eqBox.calls ((rd_T98 l0 x5_1).f0) ((rd_T98 l0 x5_1).f1) ((rd_T98 l0 x5_1).f2) ((rd_T98 l0 x5_1).f3) ((rd_T98 l1 x5_1).f0) ((rd_T98 l1 x5_1).f1) ((rd_T98 l1 x5_1).f2) ((rd_T98 l1 x5_1).f3) true _ A7.out).mono ?_
        rintro e w10 ⟨rfl, hb⟩
        refine ⟨_, rfl, ?_⟩
        replace HB := Aside0.mk (below_step (bl HB.out) hb)
        (try clear hb)
        (try clear hb2)
        (try clear hk)
        (try clear hi)
        refine hK.out _ _ ⟨((HB.out.cell (World.block_lt_of_cell? w _ hw246_0)).trans hw246_0), ((HB.out.cell (World.block_lt_of_cell? w _ hw246_1)).trans hw246_1), ((HB.out.cell (World.block_lt_of_cell? w _ hw246_2)).trans hw246_2), ((HB.out.cell (World.block_lt_of_cell? w _ hw246_3)).trans hw246_3), ((HB.out.cell (World.block_lt_of_cell? w _ hw247_0)).trans hw247_0), ((HB.out.cell (World.block_lt_of_cell? w _ hw247_1)).trans hw247_1), ((HB.out.cell (World.block_lt_of_cell? w _ hw247_2)).trans hw247_2), ((HB.out.cell (World.block_lt_of_cell? w _ hw247_3)).trans hw247_3)⟩ (fun hHeld => ?_)
        clear hK K
        refine norm_ (a' := ?_) ?_ ?_
        rotate_left
        ·show Act.put _ (some 25) _ = _
         simp only [Act.put, List.setIfInBounds_toArray, List.set_cons_zero, List.set_cons_succ, i64_w, i32_w]
         rfl
        refine puA (i := 9) (N := some 26) HT_.out ?_
        refine done_ (done_of HT_.out (by kernel_rfl)) ?_
        try go_wp2
        go_roundg k1
        case measure => have := HK1.out; omega
        case rel => exact ⟨(wrap64 (x5_1 + 1)), (by first | rfl | (simp; done) | (simp [*]; done)), H', ⟨by have := HK1.out; omega⟩, ⟨bl HB.out⟩⟩
       ·replace c8 := Bool.eq_false_iff.mpr c8
        subst c8
        rw [if_neg (show ¬ (false = true) by decide)] at H
        obtain rfl := Option.some.inj H
        try go_wp2
        replace HB := Aside0.mk (below_drew1 HB.out)
        have p246 : 0 ≤ (x5_1 : Int) := of_decide_eq_true asm
        have q246 : x5_1 < (l0.length : Int) := of_decide_eq_true asm
        obtain ⟨ad246, e246, hx246_0, hx246_1, hx246_2, hx246_3⟩ := at_T98 HR0.out x5_1 p246 q246
        have hw246_3 := hx246_3
        have hw246_2 := hx246_2
        have hw246_1 := hx246_1
        have hw246_0 := hx246_0
        cases e246
        replace hx246_0 := (HB.out.cell (World.block_lt_of_cell? w _ hx246_0)).trans hx246_0
        replace hx246_1 := (HB.out.cell (World.block_lt_of_cell? w _ hx246_1)).trans hx246_1
        replace hx246_2 := (HB.out.cell (World.block_lt_of_cell? w _ hx246_2)).trans hx246_2
        replace hx246_3 := (HB.out.cell (World.block_lt_of_cell? w _ hx246_3)).trans hx246_3
        replace p246 := eq_true p246
        replace q246 := eq_true q246
        have p247 : 0 ≤ (x5_1 : Int) := of_decide_eq_true asm
        have q247 : x5_1 < (l1.length : Int) := of_decide_eq_true asm
        obtain ⟨ad247, e247, hx247_0, hx247_1, hx247_2, hx247_3⟩ := at_T98 HR1.out x5_1 p247 q247
        have hw247_3 := hx247_3
        have hw247_2 := hx247_2
        have hw247_1 := hx247_1
        have hw247_0 := hx247_0
        cases e247
        replace hx247_0 := (HB.out.cell (World.block_lt_of_cell? w _ hx247_0)).trans hx247_0
        replace hx247_1 := (HB.out.cell (World.block_lt_of_cell? w _ hx247_1)).trans hx247_1
        replace hx247_2 := (HB.out.cell (World.block_lt_of_cell? w _ hx247_2)).trans hx247_2
        replace hx247_3 := (HB.out.cell (World.block_lt_of_cell? w _ hx247_3)).trans hx247_3
        replace p247 := eq_true p247
        replace q247 := eq_true q247
        refine start_ (n := 10) (S := fun w' => w'.cell? (ad246.add ((x5_1).toNat * 4)) = some (.int .i64 ((rd_T98 l0 x5_1).f0)) ∧ w'.cell? ⟨(ad246.add ((x5_1).toNat * 4)).block, (ad246.add ((x5_1).toNat * 4)).off + 1, none⟩ = some (.int .i64 ((rd_T98 l0 x5_1).f1)) ∧ w'.cell? ⟨(ad246.add ((x5_1).toNat * 4)).block, (ad246.add ((x5_1).toNat * 4)).off + 2, none⟩ = some (.int .i64 ((rd_T98 l0 x5_1).f2)) ∧ w'.cell? ⟨(ad246.add ((x5_1).toNat * 4)).block, (ad246.add ((x5_1).toNat * 4)).off + 3, none⟩ = some (.bool ((rd_T98 l0 x5_1).f3)) ∧ w'.cell? (ad247.add ((x5_1).toNat * 4)) = some (.int .i64 ((rd_T98 l1 x5_1).f0)) ∧ w'.cell? ⟨(ad247.add ((x5_1).toNat * 4)).block, (ad247.add ((x5_1).toNat * 4)).off + 1, none⟩ = some (.int .i64 ((rd_T98 l1 x5_1).f1)) ∧ w'.cell? ⟨(ad247.add ((x5_1).toNat * 4)).block, (ad247.add ((x5_1).toNat * 4)).off + 2, none⟩ = some (.int .i64 ((rd_T98 l1 x5_1).f2)) ∧ w'.cell? ⟨(ad247.add ((x5_1).toNat * 4)).block, (ad247.add ((x5_1).toNat * 4)).off + 3, none⟩ = some (.bool ((rd_T98 l1 x5_1).f3))) (ds := []) #[false, false, false, false, false, false, false, false, false, false] (by kernel_rfl) rfl rfl ⟨((HB.out.cell (World.block_lt_of_cell? w _ hw246_0)).trans hw246_0), ((HB.out.cell (World.block_lt_of_cell? w _ hw246_1)).trans hw246_1), ((HB.out.cell (World.block_lt_of_cell? w _ hw246_2)).trans hw246_2), ((HB.out.cell (World.block_lt_of_cell? w _ hw246_3)).trans hw246_3), ((HB.out.cell (World.block_lt_of_cell? w _ hw247_0)).trans hw247_0), ((HB.out.cell (World.block_lt_of_cell? w _ hw247_1)).trans hw247_1), ((HB.out.cell (World.block_lt_of_cell? w _ hw247_2)).trans hw247_2), ((HB.out.cell (World.block_lt_of_cell? w _ hw247_3)).trans hw247_3)⟩ (fun hHeld => ?_); refine with_tabW laws_eqBoxS.tab6 laws_eqBoxS.bits6 (fun HT_ HW_ => ?_)
        generalize wr.drew = w11 at HB hx246_0 hx246_1 hx246_2 hx246_3 hx247_0 hx247_1 hx247_2 hx247_3 hHeld ⊢
        refine puA (i := 0) (N := some 17) HT_.out ?_
        refine puA (i := 1) (N := some 18) HT_.out ?_
        refine puA (i := 2) (N := some 19) HT_.out ?_
        refine puA (i := 4) (N := some 21) HT_.out ?_
        refine puA (i := 5) (N := some 22) HT_.out ?_
        refine puA (i := 6) (N := some 23) HT_.out ?_
        refine tkA8 (i := 3) (N := some 20) HT_.out HW_.out hHeld ?_
        refine tkA8 (i := 7) (N := some 24) HT_.out HW_.out hHeld ?_
        refine onA (i := 8) (N := some 25) HT_.out (fun K hK => ?_)
        refine goes_ Try.func121 (by kernel_rfl) rfl #[.agg #[.int .i64 ((rd_T98 l0 x5_1).f0), .int .i64 ((rd_T98 l0 x5_1).f1), .int .i64 ((rd_T98 l0 x5_1).f2), .bool ((rd_T98 l0 x5_1).f3)], .agg #[.int .i64 ((rd_T98 l1 x5_1).f0), .int .i64 ((rd_T98 l1 x5_1).f1), .int .i64 ((rd_T98 l1 x5_1).f2), .bool ((rd_T98 l1 x5_1).f3)]] (by rfl) rfl rfl mapd ?_
        with_reducible refine (laws_eqBox.calls ((rd_T98 l0 x5_1).f0) ((rd_T98 l0 x5_1).f1) ((rd_T98 l0 x5_1).f2) ((rd_T98 l0 x5_1).f3) ((rd_T98 l1 x5_1).f0) ((rd_T98 l1 x5_1).f1) ((rd_T98 l1 x5_1).f2) ((rd_T98 l1 x5_1).f3) false _ A7.out).mono ?_
        rintro e w12 ⟨rfl, hb⟩
        refine ⟨_, rfl, ?_⟩
        replace HB := Aside0.mk (below_step (bl HB.out) hb)
        (try clear hb)
        (try clear hb2)
        (try clear hk)
        (try clear hi)
        refine hK.out _ _ ⟨((HB.out.cell (World.block_lt_of_cell? w _ hw246_0)).trans hw246_0), ((HB.out.cell (World.block_lt_of_cell? w _ hw246_1)).trans hw246_1), ((HB.out.cell (World.block_lt_of_cell? w _ hw246_2)).trans hw246_2), ((HB.out.cell (World.block_lt_of_cell? w _ hw246_3)).trans hw246_3), ((HB.out.cell (World.block_lt_of_cell? w _ hw247_0)).trans hw247_0), ((HB.out.cell (World.block_lt_of_cell? w _ hw247_1)).trans hw247_1), ((HB.out.cell (World.block_lt_of_cell? w _ hw247_2)).trans hw247_2), ((HB.out.cell (World.block_lt_of_cell? w _ hw247_3)).trans hw247_3)⟩ (fun hHeld => ?_)
        clear hK K
        refine norm_ (a' := ?_) ?_ ?_
        rotate_left
        ·show Act.put _ (some 25) _ = _
         simp only [Act.put, List.setIfInBounds_toArray, List.set_cons_zero, List.set_cons_succ, i64_w, i32_w]
         rfl
        refine puA (i := 9) (N := some 26) HT_.out ?_
        refine done_ (done_of HT_.out (by kernel_rfl)) ?_
        try go_wp2
        go_ret
        exact ⟨by first | rfl | (simp [errW_none, errW_some] <;> rfl) | (simp [*, errW_none, errW_some] <;> rfl), bl HB.out⟩
      ·rw [if_neg c6] at H
       exact absurd H (by simp)
     ·rw [if_neg c5] at H
      exact absurd H (by simp)
    ·rw [if_neg c4] at H
     have c4b0 : decide (x5_1 < (l0.length : Int)) = false := decide_eq_false c4
     clear c4
     obtain rfl := Option.some.inj H
     go_wp2
     go_ret
     exact ⟨by first | rfl | (simp [errW_none, errW_some] <;> rfl) | (simp [*, errW_none, errW_some] <;> rfl), bl HB.out⟩
 ·rw [if_neg c3] at H
  have c3b0 : ((l0.length : Int) == (l1.length : Int)) = false := beq_eq_false_iff_ne.mpr c3
  have c3b1 : ((l0.length : Int) != (l1.length : Int)) = true := bne_iff_ne.mpr c3
  have c3b2 : (l0.length == l1.length) = false := by first | simpa using c3 | (simp at c3 ⊢; omega)
  obtain rfl := Option.some.inj H
  go_enter Try.func97, Try.ntmps97
  go_wp2
  go_ret
  exact ⟨by first | rfl | (simp [errW_none, errW_some] <;> rfl) | (simp [*, errW_none, errW_some] <;> rfl), bl HB.out⟩
def laws_eqColumn.f (k : Nat) (a0_0 : Int) (l0_1 : List Int) (l0_2 : List (S98)) (a1_0 : Int) (l1_1 : List Int) (l1_2 : List (S98)) : Option (Bool) := if a0_0 = a1_0 then ((laws_eqIntS.f k l0_1 l1_1).bind fun t251 => (if t251 = true then ((laws_eqBoxS.f k l0_2 l1_2).bind fun t252 => (if t252 = true then (some true) else (some false))) else (some false))) else (some false)
set_option maxHeartbeats 8000000 in
set_option maxRecDepth 100000 in
theorem laws_eqColumn.calls (k : Nat) (a0_0 : Int) (A0_1 : Option Addr) (c0_1 : Nat) (l0_1 : List Int) (A0_2 : Option Addr) (c0_2 : Nat) (l0_2 : List (S98)) (a1_0 : Int) (A1_1 : Option Addr) (c1_1 : Nat) (l1_1 : List Int) (A1_2 : Option Addr) (c1_2 : Nat) (l1_2 : List (S98)) (r : Bool) (w : World) (hr0_1 : Kd.C (Kd.int .i64) w A0_1 l0_1.length l0_1) (hc0_1 : l0_1.length ≤ c0_1) (hr0_2 : Kd.C k98 w A0_2 l0_2.length l0_2) (hc0_2 : l0_2.length ≤ c0_2) (hr1_1 : Kd.C (Kd.int .i64) w A1_1 l1_1.length l1_1) (hc1_1 : l1_1.length ≤ c1_1) (hr1_2 : Kd.C k98 w A1_2 l1_2.length l1_2) (hc1_2 : l1_2.length ≤ c1_2) (h : laws_eqColumn.f k a0_0 l0_1 l0_2 a1_0 l1_1 l1_2 = some r) :
  Calls Try.prog 39 #[.agg #[.int .i64 a0_0, .slice A0_1 l0_1.length c0_1, .slice A0_2 l0_2.length c0_2], .agg #[.int .i64 a1_0, .slice A1_1 l1_1.length c1_1, .slice A1_2 l1_2.length c1_2]] w fun e w' => e = .returned (.bool r) ∧ Below w.heap.size w w' := by
 have hu41 := Try.underlying41
 have HR0_1 := Aside0.mk hr0_1
 have HC0_1 := Aside0.mk hc0_1
 clear hr0_1 hc0_1
 have HR0_2 := Aside0.mk hr0_2
 have HC0_2 := Aside0.mk hc0_2
 clear hr0_2 hc0_2
 have HR1_1 := Aside0.mk hr1_1
 have HC1_1 := Aside0.mk hc1_1
 clear hr1_1 hc1_1
 have HR1_2 := Aside0.mk hr1_2
 have HC1_2 := Aside0.mk hc1_2
 clear hr1_2 hc1_2
 have HB := Aside0.mk (Below.refl w.heap.size w)
 have H : (if a0_0 = a1_0 then ((laws_eqIntS.f k l0_1 l1_1).bind fun t251 => (if t251 = true then ((laws_eqBoxS.f k l0_2 l1_2).bind fun t252 => (if t252 = true then (some true) else (some false))) else (some false))) else (some false)) = some r := h
 clear h
 by_cases c3 : a0_0 = a1_0
 focus
  rw [if_pos c3] at H
  have c3b0 : (a0_0 == a1_0) = true := beq_iff_eq.mpr c3
  have c3b1 : (a0_0 != a1_0) = false := bne_eq_false_iff_eq.mpr c3
  clear c3
  replace H := Option.bind_eq_some_iff.mp H
  obtain ⟨t251, A40, H⟩ := H
  try dsimp only at H
  have A4 := Aside0.mk A40
  clear A40
  by_cases c5 : t251 = true
  focus
   subst c5
   rw [if_pos rfl] at H
   replace H := Option.bind_eq_some_iff.mp H
   obtain ⟨t252, A60, H⟩ := H
   try dsimp only at H
   have A6 := Aside0.mk A60
   clear A60
   by_cases c7 : t252 = true
   focus
    subst c7
    rw [if_pos rfl] at H
    obtain rfl := Option.some.inj H
   rotate_left
   focus
    replace c7 := Bool.eq_false_iff.mpr c7
    subst c7
    rw [if_neg (show ¬ (false = true) by decide)] at H
    obtain rfl := Option.some.inj H
   rotate_left
  rotate_left 2
  focus
   replace c5 := Bool.eq_false_iff.mpr c5
   subst c5
   rw [if_neg (show ¬ (false = true) by decide)] at H
   obtain rfl := Option.some.inj H
  rotate_left
 rotate_left 3
 focus
  rw [if_neg c3] at H
  have c3b0 : (a0_0 == a1_0) = false := beq_eq_false_iff_ne.mpr c3
  have c3b1 : (a0_0 != a1_0) = true := bne_iff_ne.mpr c3
  obtain rfl := Option.some.inj H
 rotate_left
 all_goals go_enter Try.func39, Try.ntmps39
 all_goals go_wp2_with (first | ((with_reducible refine gate_dst (N := 2) rfl ?_); refine bx (cs := #[.int .i64 a0_0, .slice A0_1 l0_1.length c0_1, .slice A0_2 l0_2.length c0_2]) (t := 41) fun gb249 hg w8 hbox hb => ?_; have BK249 := Aside0.mk (hbox); have GW249 := Aside0.mk (gs HB.out hg); have GE249 := Aside0.mk (gs HB.out hg); replace HB := Aside0.mk (below_step (bl HB.out) hb); clear hb hbox hg) | ((with_reducible refine gate_dst (N := 3) rfl ?_); refine bx (cs := #[.int .i64 a1_0, .slice A1_1 l1_1.length c1_1, .slice A1_2 l1_2.length c1_2]) (t := 41) fun gb250 hg w9 hbox hb => ?_; have BK250 := Aside0.mk (hbox); have GW250 := Aside0.mk (gs HB.out hg); have GE250 := Aside0.mk (gs HB.out hg); replace HB := Aside0.mk (below_step (bl HB.out) hb); have NB249_250 := Aside0.mk ((nl BK249.out hg)); have NB250_249 := Aside0.mk ((ng BK249.out hg)); replace BK249 := Aside0.mk (bb BK249.out hb); clear hb hbox hg; have hnb10 := NB249_250.out; have hnc10 := NB250_249.out; obtain ⟨hcz11_0, hcz11_1, hcz11_2, hfz11_0, hfz11_1, hfz11_2⟩ := cz3 BK249.out; obtain ⟨hcz12_0, hcz12_1, hcz12_2, hfz12_0, hfz12_1, hfz12_2⟩ := cz3 BK250.out) | ((with_reducible refine gate_callee (f := 45) rfl ?_); refine goesL_ (some 14) rfl rfl Try.func45 (by kernel_rfl) rfl #[.slice A0_1 l0_1.length c0_1, .slice A1_1 l1_1.length c1_1] rfl mapd ?_; (with_reducible refine (laws_eqIntS.calls k _ _ l0_1 _ _ l1_1 false _ ?side1 ?side2 ?side3 ?side4 A4.out).mono ?_); (case side1 => exact cb (Kd.C_below HR0_1.out HB.out)); (case side2 => exact HC0_1.out); (case side3 => exact cb (Kd.C_below HR1_1.out HB.out)); (case side4 => exact HC1_1.out); rintro e w' ⟨rfl, ⟨nd, rfl⟩⟩; refine ⟨_, rfl, ?_⟩) | ((with_reducible refine gate_callee (f := 45) rfl ?_); refine goesL_ (some 14) rfl rfl Try.func45 (by kernel_rfl) rfl #[.slice A0_1 l0_1.length c0_1, .slice A1_1 l1_1.length c1_1] rfl mapd ?_; (with_reducible refine (laws_eqIntS.calls k _ _ l0_1 _ _ l1_1 true _ ?side1 ?side2 ?side3 ?side4 A4.out).mono ?_); (case side1 => exact cb (Kd.C_below HR0_1.out HB.out)); (case side2 => exact HC0_1.out); (case side3 => exact cb (Kd.C_below HR1_1.out HB.out)); (case side4 => exact HC1_1.out); rintro e w' ⟨rfl, ⟨nd, rfl⟩⟩; refine ⟨_, rfl, ?_⟩) | ((with_reducible refine gate_callee (f := 97) rfl ?_); refine goesL_ (some 20) rfl rfl Try.func97 (by kernel_rfl) rfl #[.slice A0_2 l0_2.length c0_2, .slice A1_2 l1_2.length c1_2] rfl mapd ?_; (with_reducible refine (laws_eqBoxS.calls k _ _ l0_2 _ _ l1_2 false _ ?side1 ?side2 ?side3 ?side4 A6.out).mono ?_); (case side1 => exact cb ((Kd.C_below HR0_2.out (bl HB.out)))); (case side2 => exact HC0_2.out); (case side3 => exact cb ((Kd.C_below HR1_2.out (bl HB.out)))); (case side4 => exact HC1_2.out); rintro e w19 ⟨rfl, hb⟩; refine ⟨_, rfl, ?_⟩; replace BK249 := Aside0.mk (bb BK249.out hb); replace BK250 := Aside0.mk (bb BK250.out hb); replace HB := Aside0.mk (below_step (bl HB.out) hb); (try clear hb); (try clear hb2); (try clear hk); (try clear hi)) | ((with_reducible refine gate_callee (f := 97) rfl ?_); refine goesL_ (some 20) rfl rfl Try.func97 (by kernel_rfl) rfl #[.slice A0_2 l0_2.length c0_2, .slice A1_2 l1_2.length c1_2] rfl mapd ?_; (with_reducible refine (laws_eqBoxS.calls k _ _ l0_2 _ _ l1_2 true _ ?side1 ?side2 ?side3 ?side4 A6.out).mono ?_); (case side1 => exact cb ((Kd.C_below HR0_2.out (bl HB.out)))); (case side2 => exact HC0_2.out); (case side3 => exact cb ((Kd.C_below HR1_2.out (bl HB.out)))); (case side4 => exact HC1_2.out); rintro e w13 ⟨rfl, hb⟩; refine ⟨_, rfl, ?_⟩; replace BK249 := Aside0.mk (bb BK249.out hb); replace BK250 := Aside0.mk (bb BK250.out hb); replace HB := Aside0.mk (below_step (bl HB.out) hb); (try clear hb); (try clear hb2); (try clear hk); (try clear hi)))
 ·go_ret
  exact ⟨by first | rfl | (simp [errW_none, errW_some] <;> rfl) | (simp [*, errW_none, errW_some] <;> rfl), bl HB.out⟩
 ·go_ret
  exact ⟨by first | rfl | (simp [errW_none, errW_some] <;> rfl) | (simp [*, errW_none, errW_some] <;> rfl), bl HB.out⟩
 ·go_ret
  exact ⟨by first | rfl | (simp [errW_none, errW_some] <;> rfl) | (simp [*, errW_none, errW_some] <;> rfl), bl HB.out⟩
 ·go_ret
  exact ⟨by first | rfl | (simp [errW_none, errW_some] <;> rfl) | (simp [*, errW_none, errW_some] <;> rfl), bl HB.out⟩

end Go.Proofs.Ytbpjidekjogfeaa.A
