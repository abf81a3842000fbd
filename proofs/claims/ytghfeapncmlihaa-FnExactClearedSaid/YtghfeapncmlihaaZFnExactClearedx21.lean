/- What the proof of the law FnExactCleared uses: lemmas, the Lean functions of the Go functions that it reaches, their contracts, and the pure statement's proof. -/
import Derived.Test.YtghfeapncmlihaaZFnExactClearedx14
import Derived.Test.YtghfeapncmlihaaZFnExactClearedx17
import Derived.Test.YtghfeapncmlihaaZFnExactClearedx19
import Derived.Test.YtghfeapncmlihaaZFnExactClearedx20
import Derived.Test.YtghfeapncmlihaaZFnExactClearedx18
import Derived.Test.YtghfeapncmlihaaZFnExactClearedx16
import Derived.Test.YtghfeapncmlihaaZFnExactClearedh
namespace Go.Proofs.Ytghfeapncmlihaa.A
open Go.RowKit Go.Proofs.YtghfeapncmlihaaW.PrintWords Go.Proofs.YtghfeapncmlihaaW.PrintLast Go.Proofs.YtghfeapncmlihaaW.PrintMore
attribute [local go_sem] max2_int min2_int max_two min_two max_three min_three max_four min_four   
set_option linter.unusedVariables false
set_option linter.unusedSimpArgs false
def spec_Cleared.l0 : Nat → List (S54) → Int → Int → List Int → List (S71) → Option (Int × List Int × (List (S71)))
  | 0, _, _, _, _, _ => none
  | k + 1, x4, x5, x873000, x873001, x873002 => if x5 < (x4.length : Int) then (if 0 ≤ x5 then ((spec_l02Fill.f k x873000 x873001 x873002 ((rd_T54 x4 x5).f0) ((rd_T54 x4 x5).f1) ((rd_T54 x4 x5).f2) 0 ((rd_T54 x4 x5).f2)).bind fun bt878 => (spec_Cleared.l0 k x4 (wrap64 (x5 + 1)) bt878.1 bt878.2.1 bt878.2.2)) else (none)) else (some (x873000, x873001, x873002))
def spec_Cleared.f (k : Nat) (a0_0 : Int) (l0_1 : List Int) (l0_2 : List (S71)) : Option (Int × List Int × (List (S71))) := (spec_l02Copy.f a0_0 l0_1 l0_2).bind fun bt865 => ((spec_GapsOf.f k a0_0 l0_1 l0_2).bind fun t873 => (spec_Cleared.l0 k t873 0 bt865.1 bt865.2.1 bt865.2.2))
def spec_Cleared.T6 : Bool × List (List Nat × List Nat) := (true, [([], []), ([], []), ([], []), ([1, 2], [1, 2]), ([3], [3]), ([], []), ([], []), ([5, 6], [5, 6]), ([7], [7]), ([8], [8]), ([0, 4, 9], [0, 4, 9]), ([10, 10, 0, 1, 2, 3, 4, 5, 6, 7, 8, 9, 10], [10])])
def spec_Cleared.B6 : List Nat := [0, 0, 0, 6, 14, 0, 0, 96, 224, 480, 1023, 2047]
theorem spec_Cleared.tab6 : rtab .any (opsOf Try.f50 6) = spec_Cleared.T6 := by kernel_rfl
theorem spec_Cleared.bits6 : waitsOk spec_Cleared.T6.2 spec_Cleared.B6 = true := by kernel_rfl
set_option maxHeartbeats 8000000 in
set_option maxRecDepth 100000 in
theorem spec_Cleared.calls (k : Nat) (a0_0 : Int) (A0_1 : Option Addr) (c0_1 : Nat) (l0_1 : List Int) (A0_2 : Option Addr) (c0_2 : Nat) (l0_2 : List (S71)) (r1 : Int) (r2 : List Int) (r3 : List (S71)) (w : World) (hr0_1 : Kd.C (Kd.int .i64) w A0_1 l0_1.length l0_1) (hc0_1 : l0_1.length ≤ c0_1) (hr0_2 : Kd.C k71 w A0_2 l0_2.length l0_2) (hc0_2 : l0_2.length ≤ c0_2) (h : spec_Cleared.f k a0_0 l0_1 l0_2 = some (r1, r2, r3)) :
    Calls Try.prog 50 #[.agg #[.int .i64 a0_0, .slice A0_1 l0_1.length c0_1, .slice A0_2 l0_2.length c0_2]] w fun e w' => ∃ v1_ v2_ : Value, e = .returned (.agg #[.int .i64 r1, v1_, v2_]) ∧ Kd.R (Kd.int .i64) 3 w' w.heap.size (fun _ => True) v1_ r2 ∧ Kd.R k71 71 w' w.heap.size (fun _ => True) v2_ r3 ∧ Below w.heap.size w w' := by
  have hu30 := Try.underlying30
  have hu54 := Try.underlying54
  have HR0_1 := Aside0.mk hr0_1
  have HC0_1 := Aside0.mk hc0_1
  clear hr0_1 hc0_1
  have HR0_2 := Aside0.mk hr0_2
  have HC0_2 := Aside0.mk hc0_2
  clear hr0_2 hc0_2
  have HB := Aside0.mk (Below.refl w.heap.size w)
  have H : ((spec_l02Copy.f a0_0 l0_1 l0_2).bind fun bt865 => ((spec_GapsOf.f k a0_0 l0_1 l0_2).bind fun t873 => (spec_Cleared.l0 k t873 0 bt865.1 bt865.2.1 bt865.2.2))) = some (r1, r2, r3) := h
  clear h
  replace H := Option.bind_eq_some_iff.mp H
  obtain ⟨⟨t865, t866, t869⟩, A20, H⟩ := H
  replace H : ((spec_GapsOf.f k a0_0 l0_1 l0_2).bind fun t873 => (spec_Cleared.l0 k t873 0 t865 t866 t869)) = some (r1, r2, r3) := H
  have A2 := Aside0.mk A20
  clear A20
  replace H := Option.bind_eq_some_iff.mp H
  obtain ⟨t873, A30, H⟩ := H
  replace H : (spec_Cleared.l0 k t873 0 t865 t866 t869) = some (r1, r2, r3) := H
  have A3 := Aside0.mk A30
  clear A30
  have H' := Aside0.mk H
  clear H
  go_enter Try.func50, Try.ntmps50
  go_wp2_with (first | ((with_reducible refine gate_dst (N := 1) rfl ?_); refine bx (cs := #[.int .i64 a0_0, .slice A0_1 l0_1.length c0_1, .slice A0_2 l0_2.length c0_2]) (t := 30) fun gb863 hg w4 hbox hb => ?_; have BK863 := Aside0.mk (hbox); have GW863 := Aside0.mk (gs HB.out hg); have GE863 := Aside0.mk (gs HB.out hg); replace HB := Aside0.mk (below_step (bl HB.out) hb); clear hb hbox hg) | ((with_reducible refine gate_dst (N := 2) rfl ?_); refine bx (cs := #[.int .i64 0, .slice none 0 0, .slice none 0 0]) (t := 30) fun gb864 hg w5 hbox hb => ?_; have n0_ := Aside0.mk (bb BK863.out hb); have n1_ := Aside0.mk (below_step (bl HB.out) hb); have n2_ := Aside0.mk (hbox); have n3_ := Aside0.mk (gs HB.out hg); have n4_ := Aside0.mk (gs HB.out hg); have n5_ := Aside0.mk ((nl BK863.out hg)); have n6_ := Aside0.mk ((ng BK863.out hg)); clear BK863; clear HB; have BK863 := n0_; have HB := n1_; have BK864 := n2_; have GW864 := n3_; have GE864 := n4_; have NB863_864 := n5_; have NB864_863 := n6_; clear n0_ n1_ n2_ n3_ n4_ n5_ n6_; clear hb hbox hg; have hnb6 := NB863_864.out; have hnc6 := NB864_863.out; have hcz7_0 : w5.cell? ⟨gb863, 0, none⟩ = some (.int .i64 a0_0) := (blk_cell BK863.out 0).trans rfl; have hcz7_1 : w5.cell? ⟨gb863, 1, none⟩ = some (.slice A0_1 l0_1.length c0_1) := (blk_cell BK863.out 1).trans rfl; have hcz7_2 : w5.cell? ⟨gb863, 2, none⟩ = some (.slice A0_2 l0_2.length c0_2) := (blk_cell BK863.out 2).trans rfl; have hfz7_0 := blk_frozen BK863.out 0; have hfz7_1 := blk_frozen BK863.out 1; have hfz7_2 := blk_frozen BK863.out 2) | ((with_reducible refine gate_callee (f := 71) rfl ?_); refine goesL_ (some 7) rfl rfl Try.func71 (by kernel_rfl) rfl #[.agg #[.int .i64 a0_0, .slice A0_1 l0_1.length c0_1, .slice A0_2 l0_2.length c0_2]] rfl (by (try simp only [List.map_toArray, List.map_cons, List.map_nil]); first | done | rfl | (simp only [List.length_drop, List.length_take]; rfl)) ?_; (with_reducible refine (spec_l02Copy.calls a0_0 _ _ l0_1 _ _ l0_2 t865 t866 t869 _ ?side1 ?side2 ?side3 ?side4 A2.out).mono ?_); (case side1 => repeat (first | exact (Kd.C_below HR0_1.out HB.out) | (with_reducible refine Kd.C_alloc ?_ _) | (with_reducible refine Kd.C_drewN ?_ _) | (with_reducible refine Kd.C_drew ?_))); (case side2 => exact HC0_1.out); (case side3 => repeat (first | exact (Kd.C_below HR0_2.out HB.out) | (with_reducible refine Kd.C_alloc ?_ _) | (with_reducible refine Kd.C_drewN ?_ _) | (with_reducible refine Kd.C_drew ?_))); (case side4 => exact HC0_2.out); rintro e w8 ⟨v867, v870, rfl, ho0, ho1, hb⟩; refine ⟨_, rfl, ?_⟩; have n0_ := Aside0.mk (Kd.R_lower ho0 (below_size (bl HB.out))); have n1_ := Aside0.mk (Kd.R_lower ho1 (below_size (bl HB.out))); have n2_ := Aside0.mk (bb BK863.out hb); have n3_ := Aside0.mk (bb BK864.out hb); have n4_ := Aside0.mk (below_step (bl HB.out) hb); clear BK863; clear BK864; clear HB; have HO868 := n0_; have HO871 := n1_; have BK863 := n2_; have BK864 := n3_; have HB := n4_; clear n0_ n1_ n2_ n3_ n4_; (try clear hb); (try clear hb2); (try clear hk); (try clear hi); (try clear ho0); (try clear ho1)) | ((with_reducible refine gate_dst (N := 3) rfl ?_); refine bx (cs := #[.int .i64 0, .slice none 0 0, .slice none 0 0]) (t := 30) fun gb872 hg w9 hbox hb => ?_; have n0_ := Aside0.mk (Kd.R_below (rk HO868.out) hb); have n1_ := Aside0.mk (Kd.R_below (rk HO871.out) hb); have n2_ := Aside0.mk (bb BK863.out hb); have n3_ := Aside0.mk (bb BK864.out hb); have n4_ := Aside0.mk (below_step (bl HB.out) hb); have n5_ := Aside0.mk (hbox); have n6_ := Aside0.mk (gs HB.out hg); have n7_ := Aside0.mk (gs HB.out hg); have n8_ := Aside0.mk ((nl BK863.out hg)); have n9_ := Aside0.mk ((ng BK863.out hg)); have n10_ := Aside0.mk ((nl BK864.out hg)); have n11_ := Aside0.mk ((ng BK864.out hg)); clear HO868; clear HO871; clear BK863; clear BK864; clear HB; have HO868 := n0_; have HO871 := n1_; have BK863 := n2_; have BK864 := n3_; have HB := n4_; have BK872 := n5_; have GW872 := n6_; have GE872 := n7_; have NB863_872 := n8_; have NB872_863 := n9_; have NB864_872 := n10_; have NB872_864 := n11_; clear n0_ n1_ n2_ n3_ n4_ n5_ n6_ n7_ n8_ n9_ n10_ n11_; clear hb hbox hg; have hnb10 := NB872_863.out; have hnc10 := NB863_872.out; have hnb11 := NB872_864.out; have hnc11 := NB864_872.out; have hcz12_0 : w9.cell? ⟨gb872, 0, none⟩ = some (.int .i64 0) := (blk_cell BK872.out 0).trans rfl; have hcz12_1 : w9.cell? ⟨gb872, 1, none⟩ = some (.slice none 0 0) := (blk_cell BK872.out 1).trans rfl; have hcz12_2 : w9.cell? ⟨gb872, 2, none⟩ = some (.slice none 0 0) := (blk_cell BK872.out 2).trans rfl; have hfz12_0 := blk_frozen BK872.out 0; have hfz12_1 := blk_frozen BK872.out 1; have hfz12_2 := blk_frozen BK872.out 2; obtain ⟨Ao13, co13, eo13⟩ := Kd.R_slice HO868.out; subst eo13; obtain ⟨Ao14, co14, eo14⟩ := Kd.R_slice HO871.out; subst eo14; have hcz15_0 : w9.cell? ⟨gb863, 0, none⟩ = some (.int .i64 a0_0) := (blk_cell BK863.out 0).trans rfl; have hcz15_1 : w9.cell? ⟨gb863, 1, none⟩ = some (.slice A0_1 l0_1.length c0_1) := (blk_cell BK863.out 1).trans rfl; have hcz15_2 : w9.cell? ⟨gb863, 2, none⟩ = some (.slice A0_2 l0_2.length c0_2) := (blk_cell BK863.out 2).trans rfl; have hfz15_0 := blk_frozen BK863.out 0; have hfz15_1 := blk_frozen BK863.out 1; have hfz15_2 := blk_frozen BK863.out 2) | ((with_reducible refine gate_callee (f := 41) rfl ?_); refine goesL_ (some 9) rfl rfl Try.func41 (by kernel_rfl) rfl #[.agg #[.int .i64 a0_0, .slice A0_1 l0_1.length c0_1, .slice A0_2 l0_2.length c0_2]] rfl (by (try simp only [List.map_toArray, List.map_cons, List.map_nil]); first | done | rfl | (simp only [List.length_drop, List.length_take]; rfl)) ?_; (with_reducible refine (spec_GapsOf.calls k a0_0 _ _ l0_1 _ _ l0_2 t873 _ ?side1 ?side2 ?side3 ?side4 A3.out).mono ?_); (case side1 => exact Kd.C_below HR0_1.out (bl HB.out)); (case side2 => exact HC0_1.out); (case side3 => exact Kd.C_below HR0_2.out (bl HB.out)); (case side4 => exact HC0_2.out); rintro e w16 ⟨v874, rfl, ho0, hb⟩; refine ⟨_, rfl, ?_⟩; have n0_ := Aside0.mk (Kd.R_below (by (with_reducible repeat (first | apply Kd.R_alloc | apply Kd.R_drewN | apply Kd.R_drew)); exact (Kd.R_mono (Kd.R_far (p := ⟨gb872, 2, none⟩) (Kd.R_far (p := ⟨gb872, 1, none⟩) (Kd.R_far (p := ⟨gb872, 0, none⟩) (Kd.R_types HO868.out BK872.out (by decide)) (fun _ hk => hk.2) (.int .i64 t865)) (fun _ hk => hk.2) (.slice Ao13 t866.length co13)) (fun _ hk => hk.2) (.slice Ao14 t869.length co14)) (fun _ h_ => h_.1))) hb); have n1_ := Aside0.mk (Kd.R_below (by (with_reducible repeat (first | apply Kd.R_alloc | apply Kd.R_drewN | apply Kd.R_drew)); exact (Kd.R_mono (Kd.R_far (p := ⟨gb872, 2, none⟩) (Kd.R_far (p := ⟨gb872, 1, none⟩) (Kd.R_far (p := ⟨gb872, 0, none⟩) (Kd.R_types HO871.out BK872.out (by decide)) (fun _ hk => hk.2) (.int .i64 t865)) (fun _ hk => hk.2) (.slice Ao13 t866.length co13)) (fun _ hk => hk.2) (.slice Ao14 t869.length co14)) (fun _ h_ => h_.1))) hb); have n2_ := Aside0.mk (Kd.R_lower ho0 (below_size (bl HB.out))); have n3_ := Aside0.mk (blk_below (g := gb863) (o := .cells #[.int .i64 a0_0, .slice A0_1 l0_1.length c0_1, .slice A0_2 l0_2.length c0_2] 30 (0, 0)) (by (with_reducible repeat (first | apply bN | apply bD | apply bA)); refine blk_far ?_ NB863_872.out _; (with_reducible repeat (first | apply bN | apply bD | apply bA)); refine blk_far ?_ NB863_872.out _; (with_reducible repeat (first | apply bN | apply bD | apply bA)); refine blk_far ?_ NB863_872.out _; (with_reducible repeat (first | apply bN | apply bD | apply bA)); exact BK863.out) hb); have n4_ := Aside0.mk (blk_below (g := gb864) (o := .cells #[.int .i64 0, .slice none 0 0, .slice none 0 0] 30 (0, 0)) (by (with_reducible repeat (first | apply bN | apply bD | apply bA)); refine blk_far ?_ NB864_872.out _; (with_reducible repeat (first | apply bN | apply bD | apply bA)); refine blk_far ?_ NB864_872.out _; (with_reducible repeat (first | apply bN | apply bD | apply bA)); refine blk_far ?_ NB864_872.out _; (with_reducible repeat (first | apply bN | apply bD | apply bA)); exact BK864.out) hb); have n5_ := Aside0.mk (blk_below (g := gb872) (o := .cells #[.int .i64 t865, .slice Ao13 t866.length co13, .slice Ao14 t869.length co14] 30 (0, 0)) (by (with_reducible repeat (first | apply bN | apply bD | apply bA)); refine blk_put (cs := #[.int .i64 t865, .slice Ao13 t866.length co13, .slice none 0 0]) ?_ 2 _ rfl; (with_reducible repeat (first | apply bN | apply bD | apply bA)); refine blk_put (cs := #[.int .i64 t865, .slice none 0 0, .slice none 0 0]) ?_ 1 _ rfl; (with_reducible repeat (first | apply bN | apply bD | apply bA)); refine blk_put (cs := #[.int .i64 0, .slice none 0 0, .slice none 0 0]) ?_ 0 _ rfl; (with_reducible repeat (first | apply bN | apply bD | apply bA)); exact BK872.out) hb); have n6_ := Aside0.mk (below_step (bl HB.out) hb); clear HO868; clear HO871; clear BK863; clear BK864; clear BK872; clear HB; have HO868 := n0_; have HO871 := n1_; have HO875 := n2_; have BK863 := n3_; have BK864 := n4_; have BK872 := n5_; have HB := n6_; clear n0_ n1_ n2_ n3_ n4_ n5_ n6_; (try clear hb); (try clear hb2); (try clear hk); (try clear hi); (try clear ho0)))
  go_loopg [5] k (fun kq v5 w' => ∃ (x5_1 : Int) (x873000_1 : Int) (x873001_1 : List Int) (x873002_1 : List (S71)) (u873001 : Value) (u873002 : Value), v5 = .int .i64 x5_1 ∧ Aside0 (spec_Cleared.l0 kq t873 x5_1 x873000_1 x873001_1 x873002_1 = some (r1, r2, r3)) ∧ Aside0 (kq ≤ k) ∧ Aside0 (Kd.R k54 54 w' w.heap.size (fun _ => True) v874 t873) ∧ Aside0 (Kd.R (Kd.int .i64) 3 w' w.heap.size (fun _ => True) u873001 x873001_1) ∧ Aside0 (Kd.R k71 71 w' w.heap.size (fun _ => True) u873002 x873002_1) ∧ Aside0 (w'.heap[gb863]? = some (.cells #[.int .i64 a0_0, (.slice A0_1 l0_1.length c0_1), (.slice A0_2 l0_2.length c0_2)] 30 (0, 0))) ∧ Aside0 (w'.heap[gb864]? = some (.cells #[.int .i64 0, (.slice none 0 0), (.slice none 0 0)] 30 (0, 0))) ∧ Aside0 (w'.heap[gb872]? = some (.cells #[.int .i64 x873000_1, u873001, u873002] 30 (0, 0))) ∧ Aside0 (Below w.heap.size w w'))
  case atStart => exact ⟨(0), (t865), (t866), (t869), (.slice Ao13 t866.length co13), (.slice Ao14 t869.length co14), (by first | rfl | (simp; done) | (simp [*]; done)), H', ⟨Nat.le_refl _⟩, ⟨rk HO875.out⟩, ⟨rk HO868.out⟩, ⟨rk HO871.out⟩, ⟨by (with_reducible repeat (first | apply bN | apply bD | apply bA)); exact BK863.out⟩, ⟨by (with_reducible repeat (first | apply bN | apply bD | apply bA)); exact BK864.out⟩, ⟨by (with_reducible repeat (first | apply bN | apply bD | apply bA)); exact BK872.out⟩, ⟨bl HB.out⟩⟩
  case round =>
    clear H'
    try clear c1
    try clear p2
    try clear c4
    try clear c5
    try clear c6
    try clear c7
    try clear c10
    try clear c11
    try clear hcz12_0
    try clear hcz12_1
    try clear hcz12_2
    try clear hcz15_0
    try clear hcz15_1
    try clear hcz15_2
    try clear hcz7_0
    try clear hcz7_1
    try clear hcz7_2
    try clear hfz12_0
    try clear hfz12_1
    try clear hfz12_2
    try clear hfz15_0
    try clear hfz15_1
    try clear hfz15_2
    try clear hfz7_0
    try clear hfz7_1
    try clear hfz7_2
    obtain ⟨x5_1, x873000_1, x873001_1, x873002_1, u873001, u873002, rfl, HA, HK1, HO_4, HO_873001, HO_873002, BK863, BK864, BK872, HB⟩ := hrel
    cases gk with
    | zero => exact absurd HA.out (by simp [spec_Cleared.l0])
    | succ k1 =>
      have H := HA.out
      clear HA
      simp only [spec_Cleared.l0] at H
      by_cases c17 : x5_1 < (t873.length : Int)
      · rw [if_pos c17] at H
        have c17b0 : decide (x5_1 < (t873.length : Int)) = true := decide_eq_true c17
        clear c17
        by_cases c18 : 0 ≤ x5_1
        · rw [if_pos c18] at H
          have c18b0 : decide (0 ≤ x5_1) = true := decide_eq_true c18
          clear c18
          replace H := Option.bind_eq_some_iff.mp H
          obtain ⟨⟨t878, t879, t882⟩, A190, H⟩ := H
          replace H : (spec_Cleared.l0 k1 t873 (wrap64 (x5_1 + 1)) t878 t879 t882) = some (r1, r2, r3) := H
          have A19 := Aside0.mk A190
          clear A190
          have H' := Aside0.mk H
          clear H
          obtain ⟨Ao20, co20, eo20⟩ := Kd.R_slice HO_4.out
          subst eo20
          try go_wp2
          have n0_ := Aside0.mk (Kd.R_drew HO_4.out)
          have n1_ := Aside0.mk (Kd.R_drew HO_873001.out)
          have n2_ := Aside0.mk (Kd.R_drew HO_873002.out)
          have n3_ := Aside0.mk (blk_drew BK863.out)
          have n4_ := Aside0.mk (blk_drew BK864.out)
          have n5_ := Aside0.mk (blk_drew BK872.out)
          have n6_ := Aside0.mk (below_drew1 HB.out)
          clear HO_4
          clear HO_873001
          clear HO_873002
          clear BK863
          clear BK864
          clear BK872
          clear HB
          have HO_4 := n0_
          have HO_873001 := n1_
          have HO_873002 := n2_
          have BK863 := n3_
          have BK864 := n4_
          have BK872 := n5_
          have HB := n6_
          clear n0_ n1_ n2_ n3_ n4_ n5_ n6_
          have p876 : 0 ≤ (x5_1 : Int) := of_decide_eq_true (by first | (with_reducible assumption) | assumption)
          have q876 : x5_1 < (t873.length : Int) := of_decide_eq_true (by first | (with_reducible assumption) | assumption)
          obtain ⟨ad876, e876, hx876_0, hx876_1, hx876_2⟩ := at_T54 (Kd.R_reads' HO_4.out).2.2 x5_1 p876 q876
          cases e876
          replace p876 := eq_true p876
          replace q876 := eq_true q876
          have p877 : 0 ≤ (x5_1 : Int) := of_decide_eq_true (by first | (with_reducible assumption) | assumption)
          have q877 : x5_1 < (t873.length : Int) := of_decide_eq_true (by first | (with_reducible assumption) | assumption)
          obtain ⟨ad877, e877, hx877_0, hx877_1, hx877_2⟩ := at_T54 (Kd.R_reads' HO_4.out).2.2 x5_1 p877 q877
          obtain rfl : ad876 = ad877 := (by injection e877)
          replace p877 := eq_true p877
          replace q877 := eq_true q877
          obtain ⟨Ao22, co22, eo22⟩ := Kd.R_slice HO_873001.out
          (first | subst eo22 | (injection eo22 with f1_ f2_ f3_; have f4_ := f1_.symm; have f5_ := f3_.symm; clear f1_ f2_ f3_; subst f4_; subst f5_))
          obtain ⟨Ao23, co23, eo23⟩ := Kd.R_slice HO_873002.out
          (first | subst eo23 | (injection eo23 with f1_ f2_ f3_; have f4_ := f1_.symm; have f5_ := f3_.symm; clear f1_ f2_ f3_; subst f4_; subst f5_))
          refine start_ (n := 12) (S := fun w' => w'.cell? ⟨gb872, 0, none⟩ = some (.int .i64 x873000_1) ∧ w'.cell? ⟨gb872, 1, none⟩ = some (.slice Ao22 x873001_1.length co22) ∧ w'.cell? ⟨gb872, 2, none⟩ = some (.slice Ao23 x873002_1.length co23) ∧ w'.cell? (ad876.add ((x5_1).toNat * 3)) = some (.int .i64 ((rd_T54 t873 x5_1).f0)) ∧ w'.cell? ⟨(ad876.add ((x5_1).toNat * 3)).block, (ad876.add ((x5_1).toNat * 3)).off + 1, none⟩ = some (.int .i64 ((rd_T54 t873 x5_1).f1)) ∧ w'.cell? ⟨(ad876.add ((x5_1).toNat * 3)).block, (ad876.add ((x5_1).toNat * 3)).off + 2, none⟩ = some (.int .i64 ((rd_T54 t873 x5_1).f2)) ∧ w'.cell? (ad876.add ((x5_1).toNat * 3)) = some (.int .i64 ((rd_T54 t873 x5_1).f0)) ∧ w'.cell? ⟨(ad876.add ((x5_1).toNat * 3)).block, (ad876.add ((x5_1).toNat * 3)).off + 1, none⟩ = some (.int .i64 ((rd_T54 t873 x5_1).f1)) ∧ w'.cell? ⟨(ad876.add ((x5_1).toNat * 3)).block, (ad876.add ((x5_1).toNat * 3)).off + 2, none⟩ = some (.int .i64 ((rd_T54 t873 x5_1).f2))) (ds := [11]) #[false, false, false, false, false, false, false, false, false, false, false, false] (by kernel_rfl) rfl rfl ⟨(blk_cell BK872.out 0).trans rfl, (blk_cell BK872.out 1).trans rfl, (blk_cell BK872.out 2).trans rfl, hx876_0, hx876_1, hx876_2, hx877_0, hx877_1, hx877_2⟩ (fun hHeld => ?_); refine with_tabW spec_Cleared.tab6 spec_Cleared.bits6 (fun HT_ HW_ => ?_)
          generalize wr.drew = w21 at HO_4 HO_873001 HO_873002 BK863 BK864 BK872 HB hx876_0 hx876_1 hx876_2 hx877_0 hx877_1 hx877_2 hHeld ⊢
          refine pure_ (i := 1) (N := some 17) (v := ?_) (a' := ?_) #[false, true, false, false, false, false, false, false, false, false, false, false] rfl rfl (any_of HT_.out (by kernel_rfl)) (fun _ _ _ h => h) (Or.inl ⟨by rfl, ?_⟩) ?_ ?_
          rotate_left
          · intro w'
            go_simp
            with_reducible rfl
          rotate_left
          · simp only [Act.put, List.setIfInBounds_toArray, List.set_cons_zero, List.set_cons_succ, i64_w, i32_w]
            rfl
          refine pure_ (i := 2) (N := some 18) (v := ?_) (a' := ?_) #[false, true, true, false, false, false, false, false, false, false, false, false] rfl rfl (any_of HT_.out (by kernel_rfl)) (fun _ _ _ h => h) (Or.inl ⟨by rfl, ?_⟩) ?_ ?_
          rotate_left
          · intro w'
            go_simp
            with_reducible rfl
          rotate_left
          · simp only [Act.put, List.setIfInBounds_toArray, List.set_cons_zero, List.set_cons_succ, i64_w, i32_w]
            rfl
          refine pure_ (i := 3) (N := some 19) (v := ?_) (a' := ?_) #[false, true, true, true, false, false, false, false, false, false, false, false] rfl rfl (any_of HT_.out (by kernel_rfl)) (fun _ _ _ h => h) (Or.inl ⟨by rfl, ?_⟩) ?_ ?_
          rotate_left
          · intro w'
            go_simp
            with_reducible rfl
          rotate_left
          · simp only [Act.put, List.setIfInBounds_toArray, List.set_cons_zero, List.set_cons_succ, i64_w, i32_w]
            rfl
          refine pure_ (i := 5) (N := some 21) (v := ?_) (a' := ?_) #[false, true, true, true, false, true, false, false, false, false, false, false] rfl rfl (any_of HT_.out (by kernel_rfl)) (fun _ _ _ h => h) (Or.inl ⟨by rfl, ?_⟩) ?_ ?_
          rotate_left
          · intro w'
            go_simp
            with_reducible rfl
          rotate_left
          · simp only [Act.put, List.setIfInBounds_toArray, List.set_cons_zero, List.set_cons_succ, i64_w, i32_w]
            rfl
          refine pure_ (i := 6) (N := some 22) (v := ?_) (a' := ?_) #[false, true, true, true, false, true, true, false, false, false, false, false] rfl rfl (any_of HT_.out (by kernel_rfl)) (fun _ _ _ h => h) (Or.inl ⟨by rfl, ?_⟩) ?_ ?_
          rotate_left
          · intro w'
            go_simp
            with_reducible rfl
          rotate_left
          · simp only [Act.put, List.setIfInBounds_toArray, List.set_cons_zero, List.set_cons_succ, i64_w, i32_w]
            rfl
          refine pure_ (i := 7) (N := some 23) (v := ?_) (a' := ?_) #[false, true, true, true, false, true, true, true, false, false, false, false] rfl rfl (any_of HT_.out (by kernel_rfl)) (fun _ _ _ h => h) (Or.inl ⟨by rfl, ?_⟩) ?_ ?_
          rotate_left
          · intro w'
            go_simp
            with_reducible rfl
          rotate_left
          · simp only [Act.put, List.setIfInBounds_toArray, List.set_cons_zero, List.set_cons_succ, i64_w, i32_w]
            rfl
          refine pure_ (i := 8) (N := some 24) (v := ?_) (a' := ?_) #[false, true, true, true, false, true, true, true, true, false, false, false] rfl rfl (any_of HT_.out (by kernel_rfl)) (fun _ _ _ h => h) (Or.inl ⟨by rfl, ?_⟩) ?_ ?_
          rotate_left
          · intro w'
            go_simp
            with_reducible rfl
          rotate_left
          · simp only [Act.put, List.setIfInBounds_toArray, List.set_cons_zero, List.set_cons_succ, i64_w, i32_w]
            rfl
          refine take_ (i := 0) (N := some 16) (v := ?_) (a' := ?_) #[true, true, true, true, false, true, true, true, true, false, false, false] rfl rfl (take_ofW HT_.out HW_.out (by kernel_rfl)) (fun _ _ _ h => h) (Or.inl ⟨by rfl, ?_⟩) hHeld ?_ ?_
          rotate_left
          · rintro w' ⟨s0, s1, s2, s3, s4, s5, s6, s7, s8⟩
            go_simp
            with_reducible rfl
          rotate_left
          · simp only [Act.put, List.setIfInBounds_toArray, List.set_cons_zero, List.set_cons_succ, i64_w, i32_w]
            rfl
          refine take_ (i := 4) (N := some 20) (v := ?_) (a' := ?_) #[true, true, true, true, true, true, true, true, true, false, false, false] rfl rfl (take_ofW HT_.out HW_.out (by kernel_rfl)) (fun _ _ _ h => h) (Or.inl ⟨by rfl, ?_⟩) hHeld ?_ ?_
          rotate_left
          · rintro w' ⟨s0, s1, s2, s3, s4, s5, s6, s7, s8⟩
            go_simp
            with_reducible rfl
          rotate_left
          · simp only [Act.put, List.setIfInBounds_toArray, List.set_cons_zero, List.set_cons_succ, i64_w, i32_w]
            rfl
          refine take_ (i := 9) (N := some 25) (v := ?_) (a' := ?_) #[true, true, true, true, true, true, true, true, true, true, false, false] rfl rfl (take_ofW HT_.out HW_.out (by kernel_rfl)) (fun _ _ _ h => h) (Or.inl ⟨by rfl, ?_⟩) hHeld ?_ ?_
          rotate_left
          · rintro w' ⟨s0, s1, s2, s3, s4, s5, s6, s7, s8⟩
            go_simp
            with_reducible rfl
          rotate_left
          · simp only [Act.put, List.setIfInBounds_toArray, List.set_cons_zero, List.set_cons_succ, i64_w, i32_w]
            rfl
          refine one_ (i := 10) (N := some 26) #[true, true, true, true, true, true, true, true, true, true, true, false] rfl rfl (one_of HT_.out (by kernel_rfl)) (by decide) (fun K hK => ?_)
          refine goes_ Try.func80 (by kernel_rfl) rfl #[.agg #[.int .i64 x873000_1, .slice Ao22 x873001_1.length co22, .slice Ao23 x873002_1.length co23], .agg #[.int .i64 ((rd_T54 t873 x5_1).f0), .int .i64 ((rd_T54 t873 x5_1).f1), .int .i64 ((rd_T54 t873 x5_1).f2)], .int .i64 0, .int .i64 ((rd_T54 t873 x5_1).f2)] (by rfl) rfl rfl (by (try simp only [List.map_toArray, List.map_cons, List.map_nil]); first | done | rfl | (simp only [List.length_drop, List.length_take]; rfl)) ?_
          with_reducible refine (spec_l02Fill.calls k1 x873000_1 _ _ x873001_1 _ _ x873002_1 ((rd_T54 t873 x5_1).f0) ((rd_T54 t873 x5_1).f1) ((rd_T54 t873 x5_1).f2) 0 ((rd_T54 t873 x5_1).f2) t878 t879 t882 _ ?side1 ?side2 ?side3 ?side4 A19.out).mono ?_
          (case side1 => repeat (first | exact (Kd.R_reads' HO_873001.out).2.2 | (with_reducible refine Kd.C_alloc ?_ _) | (with_reducible refine Kd.C_drewN ?_ _) | (with_reducible refine Kd.C_drew ?_)))
          (case side2 => exact (Kd.R_reads' HO_873001.out).2.1)
          (case side3 => repeat (first | exact (Kd.R_reads' HO_873002.out).2.2 | (with_reducible refine Kd.C_alloc ?_ _) | (with_reducible refine Kd.C_drewN ?_ _) | (with_reducible refine Kd.C_drew ?_)))
          (case side4 => exact (Kd.R_reads' HO_873002.out).2.1)
          rintro e w24 ⟨v880, v883, rfl, ho0, ho1, hb⟩
          have HS3_ := (hb.cell (World.block_lt_of_cell? _ _ (hHeld.2.2.2.1))).trans (hHeld.2.2.2.1)
          have HS4_ := (hb.cell (World.block_lt_of_cell? _ _ (hHeld.2.2.2.2.1))).trans (hHeld.2.2.2.2.1)
          have HS5_ := (hb.cell (World.block_lt_of_cell? _ _ (hHeld.2.2.2.2.2.1))).trans (hHeld.2.2.2.2.2.1)
          have HS6_ := (hb.cell (World.block_lt_of_cell? _ _ (hHeld.2.2.2.2.2.2.1))).trans (hHeld.2.2.2.2.2.2.1)
          have HS7_ := (hb.cell (World.block_lt_of_cell? _ _ (hHeld.2.2.2.2.2.2.2.1))).trans (hHeld.2.2.2.2.2.2.2.1)
          have HS8_ := (hb.cell (World.block_lt_of_cell? _ _ (hHeld.2.2.2.2.2.2.2.2))).trans (hHeld.2.2.2.2.2.2.2.2)
          refine ⟨_, rfl, ?_⟩
          have n0_ := Aside0.mk (Kd.R_below (rk HO_4.out) hb)
          have n1_ := Aside0.mk (Kd.R_elder' (rk HO_873001.out) (Kd.R_base ho0) hb)
          have n2_ := Aside0.mk (Kd.R_elder' (rk HO_873002.out) (Kd.R_base ho1) hb)
          have n3_ := Aside0.mk (Kd.R_lower (Kd.R_new' ho0 (Kd.R_lt (rk HO_873001.out))) (below_size (bl HB.out)))
          have n4_ := Aside0.mk (Kd.R_lower (Kd.R_new' ho1 (Kd.R_lt (rk HO_873002.out))) (below_size (bl HB.out)))
          have n5_ := Aside0.mk (bb BK863.out hb)
          have n6_ := Aside0.mk (bb BK864.out hb)
          have n7_ := Aside0.mk (bb BK872.out hb)
          have n8_ := Aside0.mk (below_step (bl HB.out) hb)
          clear HO_4
          clear HO_873001
          clear HO_873002
          clear BK863
          clear BK864
          clear BK872
          clear HB
          have HO_4 := n0_
          have HO_873001 := n1_
          have HO_873002 := n2_
          have HO881 := n3_
          have HO884 := n4_
          have BK863 := n5_
          have BK864 := n6_
          have BK872 := n7_
          have HB := n8_
          clear n0_ n1_ n2_ n3_ n4_ n5_ n6_ n7_ n8_
          (try clear hb)
          (try clear hb2)
          (try clear hk)
          (try clear hi)
          (try clear ho0)
          (try clear ho1)
          obtain ⟨Ao26, co26, eo26⟩ := Kd.R_slice HO881.out
          (first | subst eo26 | (injection eo26 with f1_ f2_ f3_; have f4_ := f1_.symm; have f5_ := f3_.symm; clear f1_ f2_ f3_; subst f4_; subst f5_))
          obtain ⟨Ao28, co28, eo28⟩ := Kd.R_slice HO884.out
          (first | subst eo28 | (injection eo28 with f1_ f2_ f3_; have f4_ := f1_.symm; have f5_ := f3_.symm; clear f1_ f2_ f3_; subst f4_; subst f5_))
          refine hK.out _ _ ⟨(blk_cell BK872.out 0).trans rfl, (blk_cell BK872.out 1).trans rfl, (blk_cell BK872.out 2).trans rfl, HS3_, HS4_, HS5_, HS6_, HS7_, HS8_⟩ (fun hHeld => ?_)
          clear hK K
          refine norm_ (a' := ?_) ?_ ?_
          rotate_left
          · show Act.put _ (some 26) _ = _
            simp only [Act.put, List.setIfInBounds_toArray, List.set_cons_zero, List.set_cons_succ, i64_w, i32_w]
            rfl
          refine last_ (i := 11) (N := none) #[true, true, true, true, true, true, true, true, true, true, true, true] rfl rfl (one_of HT_.out (by kernel_rfl)) (by decide) (fun K hK => ?_)
          have hs25 : w24.cell? ⟨gb872, 0, none⟩ = some (.int .i64 x873000_1) := (blk_cell BK872.out 0).trans rfl
          have hfs25 := blk_frozen BK872.out 0
          have hns25_0 := NB863_872.out
          have hns25_1 := NB864_872.out
          have hms25_0 := NB872_863.out
          have hms25_1 := NB872_864.out
          have hs27 : w24.cell? ⟨gb872, 1, none⟩ = some (.slice Ao22 x873001_1.length co22) := (blk_cell BK872.out 1).trans rfl
          have hfs27 := blk_frozen BK872.out 1
          have hns27_0 := NB863_872.out
          have hns27_1 := NB864_872.out
          have hms27_0 := NB872_863.out
          have hms27_1 := NB872_864.out
          have hs29 : w24.cell? ⟨gb872, 2, none⟩ = some (.slice Ao23 x873002_1.length co23) := (blk_cell BK872.out 2).trans rfl
          have hfs29 := blk_frozen BK872.out 2
          have hns29_0 := NB863_872.out
          have hns29_1 := NB864_872.out
          have hms29_0 := NB872_863.out
          have hms29_1 := NB872_864.out
          refine skip_ (w1 := ?_) (by rfl) rfl ?_ ?_
          rotate_left
          · go_simp
            rfl
          refine hK.out _ _ ?_
          clear hK K
          refine done_ (done_of HT_.out (by kernel_rfl)) ?_
          try go_wp2
          go_roundg k1
          case measure => have := HK1.out; omega
          case rel => exact ⟨(wrap64 (x5_1 + 1)), (t878), (t879), (t882), (.slice Ao26 t879.length co26), (.slice Ao28 t882.length co28), (by first | rfl | (simp; done) | (simp [*]; done)), H', ⟨by have := HK1.out; omega⟩, ⟨by (with_reducible repeat (first | apply Kd.R_alloc | apply Kd.R_drewN | apply Kd.R_drew)); exact Kd.R_mono (Kd.R_far (p := ⟨gb872, 2, none⟩) (Kd.R_far (p := ⟨gb872, 1, none⟩) (Kd.R_far (p := ⟨gb872, 0, none⟩) (Kd.R_types HO_4.out BK872.out (by decide)) (fun _ hk => hk.2) (.int .i64 t878)) (fun _ hk => hk.2) (.slice Ao26 t879.length co26)) (fun _ hk => hk.2) (.slice Ao28 t882.length co28)) (fun _ hk => trivial)⟩, ⟨by (with_reducible repeat (first | apply Kd.R_alloc | apply Kd.R_drewN | apply Kd.R_drew)); exact Kd.R_mono (Kd.R_far (p := ⟨gb872, 2, none⟩) (Kd.R_far (p := ⟨gb872, 1, none⟩) (Kd.R_far (p := ⟨gb872, 0, none⟩) (Kd.R_types HO881.out BK872.out (by decide)) (fun _ hk => hk.2) (.int .i64 t878)) (fun _ hk => hk.2) (.slice Ao26 t879.length co26)) (fun _ hk => hk.2) (.slice Ao28 t882.length co28)) (fun _ hk => trivial)⟩, ⟨by (with_reducible repeat (first | apply Kd.R_alloc | apply Kd.R_drewN | apply Kd.R_drew)); exact Kd.R_mono (Kd.R_far (p := ⟨gb872, 2, none⟩) (Kd.R_far (p := ⟨gb872, 1, none⟩) (Kd.R_far (p := ⟨gb872, 0, none⟩) (Kd.R_types HO884.out BK872.out (by decide)) (fun _ hk => hk.2) (.int .i64 t878)) (fun _ hk => hk.2) (.slice Ao26 t879.length co26)) (fun _ hk => hk.2) (.slice Ao28 t882.length co28)) (fun _ hk => trivial)⟩, ⟨by (with_reducible repeat (first | apply bN | apply bD | apply bA)); refine blk_far ?_ NB863_872.out _; (with_reducible repeat (first | apply bN | apply bD | apply bA)); refine blk_far ?_ NB863_872.out _; (with_reducible repeat (first | apply bN | apply bD | apply bA)); refine blk_far ?_ NB863_872.out _; (with_reducible repeat (first | apply bN | apply bD | apply bA)); exact BK863.out⟩, ⟨by (with_reducible repeat (first | apply bN | apply bD | apply bA)); refine blk_far ?_ NB864_872.out _; (with_reducible repeat (first | apply bN | apply bD | apply bA)); refine blk_far ?_ NB864_872.out _; (with_reducible repeat (first | apply bN | apply bD | apply bA)); refine blk_far ?_ NB864_872.out _; (with_reducible repeat (first | apply bN | apply bD | apply bA)); exact BK864.out⟩, ⟨by (with_reducible repeat (first | apply bN | apply bD | apply bA)); refine blk_put (cs := #[.int .i64 t878, .slice Ao26 t879.length co26, .slice Ao23 x873002_1.length co23]) ?_ 2 _ rfl; (with_reducible repeat (first | apply bN | apply bD | apply bA)); refine blk_put (cs := #[.int .i64 t878, .slice Ao22 x873001_1.length co22, .slice Ao23 x873002_1.length co23]) ?_ 1 _ rfl; (with_reducible repeat (first | apply bN | apply bD | apply bA)); refine blk_put (cs := #[.int .i64 x873000_1, .slice Ao22 x873001_1.length co22, .slice Ao23 x873002_1.length co23]) ?_ 0 _ rfl; (with_reducible repeat (first | apply bN | apply bD | apply bA)); exact BK872.out⟩, ⟨bl HB.out⟩⟩
        · rw [if_neg c18] at H
          exact absurd H (by simp)
      · rw [if_neg c17] at H
        have c17b0 : decide (x5_1 < (t873.length : Int)) = false := decide_eq_false c17
        clear c17
        simp only [Option.some.injEq, Prod.mk.injEq] at H
        obtain ⟨rfl, rfl, rfl⟩ := H
        obtain ⟨Ao30, co30, eo30⟩ := Kd.R_slice HO_4.out
        subst eo30
        have hnb31 := NB872_863.out
        have hnc31 := NB863_872.out
        have hnb32 := NB872_864.out
        have hnc32 := NB864_872.out
        have hcz33_0 : wr.cell? ⟨gb872, 0, none⟩ = some (.int .i64 x873000_1) := (blk_cell BK872.out 0).trans rfl
        have hcz33_1 : wr.cell? ⟨gb872, 1, none⟩ = some (u873001) := (blk_cell BK872.out 1).trans rfl
        have hcz33_2 : wr.cell? ⟨gb872, 2, none⟩ = some (u873002) := (blk_cell BK872.out 2).trans rfl
        have hfz33_0 := blk_frozen BK872.out 0
        have hfz33_1 := blk_frozen BK872.out 1
        have hfz33_2 := blk_frozen BK872.out 2
        have hnb34 := NB864_863.out
        have hnc34 := NB863_864.out
        have hcz35_0 : wr.cell? ⟨gb864, 0, none⟩ = some (.int .i64 0) := (blk_cell BK864.out 0).trans rfl
        have hcz35_1 : wr.cell? ⟨gb864, 1, none⟩ = some (.slice none 0 0) := (blk_cell BK864.out 1).trans rfl
        have hcz35_2 : wr.cell? ⟨gb864, 2, none⟩ = some (.slice none 0 0) := (blk_cell BK864.out 2).trans rfl
        have hfz35_0 := blk_frozen BK864.out 0
        have hfz35_1 := blk_frozen BK864.out 1
        have hfz35_2 := blk_frozen BK864.out 2
        obtain ⟨Ao36, co36, eo36⟩ := Kd.R_slice HO_873001.out
        subst eo36
        obtain ⟨Ao37, co37, eo37⟩ := Kd.R_slice HO_873002.out
        subst eo37
        go_wp2
        refine bodyPost_ret (results_cell_row rfl _ _ gb864 30 #[.int .i64 x873000_1, .slice Ao36 x873001_1.length co36, .slice Ao37 x873002_1.length co37] (0, 0) _ rfl (by (with_reducible repeat (first | apply bN | apply bD | apply bA)); refine blk_put (cs := #[.int .i64 x873000_1, .slice Ao36 x873001_1.length co36, .slice none 0 0]) ?_ 2 _ rfl; (with_reducible repeat (first | apply bN | apply bD | apply bA)); refine blk_put (cs := #[.int .i64 x873000_1, .slice none 0 0, .slice none 0 0]) ?_ 1 _ rfl; (with_reducible repeat (first | apply bN | apply bD | apply bA)); refine blk_put (cs := #[.int .i64 0, .slice none 0 0, .slice none 0 0]) ?_ 0 _ rfl; (with_reducible repeat (first | apply bN | apply bD | apply bA)); exact BK864.out) Try.underlying30 rfl (by kernel_rfl)) rfl ?_
        exact ⟨_, _, by first | rfl | (simp [errW_none, errW_some] <;> rfl) | (simp [*, errW_none, errW_some] <;> rfl), by (with_reducible repeat (first | apply Kd.R_alloc | apply Kd.R_drewN | apply Kd.R_drew)); exact Kd.R_mono (Kd.R_far (p := ⟨gb864, 2, none⟩) (Kd.R_far (p := ⟨gb864, 1, none⟩) (Kd.R_far (p := ⟨gb864, 0, none⟩) (Kd.R_types HO_873001.out BK864.out (by decide)) (fun _ hk => hk.2) (.int .i64 x873000_1)) (fun _ hk => hk.2) (.slice Ao36 x873001_1.length co36)) (fun _ hk => hk.2) (.slice Ao37 x873002_1.length co37)) (fun _ hk => trivial), by (with_reducible repeat (first | apply Kd.R_alloc | apply Kd.R_drewN | apply Kd.R_drew)); exact Kd.R_mono (Kd.R_far (p := ⟨gb864, 2, none⟩) (Kd.R_far (p := ⟨gb864, 1, none⟩) (Kd.R_far (p := ⟨gb864, 0, none⟩) (Kd.R_types HO_873002.out BK864.out (by decide)) (fun _ hk => hk.2) (.int .i64 x873000_1)) (fun _ hk => hk.2) (.slice Ao36 x873001_1.length co36)) (fun _ hk => hk.2) (.slice Ao37 x873002_1.length co37)) (fun _ hk => trivial), bl HB.out⟩
def impl_Box_100.f (a0 : Int) : Option ((List (S71))) := if 0 ≤ a0 ∧ a0 ≤ 4398046511103 then some [] else none
set_option maxHeartbeats 8000000 in
set_option maxRecDepth 100000 in
theorem impl_Box_100.calls (a0 : Int) (r : List (S71)) (w : World) (h : impl_Box_100.f a0 = some r) :
    Calls Try.prog 100 #[.slice none 0 0, .int .i64 a0] w fun e w' => ∃ v0_ : Value, e = .returned (v0_) ∧ Kd.R k71 71 w' w.heap.size (fun _ => True) v0_ r ∧ Below w.heap.size w w' := by
  obtain ⟨h0, h1⟩ : 0 ≤ a0 ∧ a0 ≤ 4398046511103 := by
    by_cases hc : 0 ≤ a0 ∧ a0 ≤ 4398046511103
    · exact hc
    · simp only [impl_Box_100.f] at h; rw [if_neg hc] at h; cases h
  obtain rfl : r = [] := by
    simp only [impl_Box_100.f] at h; rw [if_pos ⟨h0, h1⟩] at h; exact (Option.some.inj h).symm
  clear h
  by_cases hp : 0 < a0
  · have c0 : decide (a0 < 0) = false := decide_eq_false (by omega)
    have c1 : decide (0 < a0) = true := decide_eq_true hp
    have HL := Aside0.mk h1
    have HZ := Aside0.mk h0
    clear hp
    obtain ⟨i010, hi010, _, _, _⟩ := info_parts info71
    go_enter Try.func100, Try.ntmps100
    go_wp2_with (first | (at_builtin; refine Kd.R_append_zeros k71 (w0 := w) w.heap.size rfl (.tmp 20) (.tmp 21) 28 3 71 (.agg #[(.int .i64 0), (.int .i64 0), (.int .i64 0), (.bool false)]) 32 rfl Try.underlying28 Try.underlying3 info71 rfl (by decide) (by omega) (.slice none 0 0) ([] : List S71) z71 (a0 : Int) (fun _ => True) rfl rfl (k71_mkM _ _ _ z71) ?aF ?aO HZ.out ?aB ?aS ?aL ?_; (case aB => exact Below.refl _ _); (case aF => exact (fun _ _ => trivial)); (case aO => exact ((Kd.R_nil _ _ _ _ (fun _ => True)))); (case aS => exact Nat.le_refl _); (case aL => have := HL.out; simp; omega); intro v886 w9 ho hb hg hat; clear hg hat; obtain ⟨Ao11, co11, eo11⟩ := Kd.R_slice ho; subst eo11; have hcut10 := cut_to (P := Try.prog) 28 71 .i64 Try.underlying28 hi010 Ao11 _ co11 0 (by omega) (by omega) (Kd.R_reads' ho).2.1; have HO := Aside0.mk (Kd.R_take (m := 0) ho (Nat.zero_le _)); have HB := Aside0.mk hb; clear ho hb))
    go_ret
    exact ⟨_, rfl, HO.out, HB.out⟩
  · obtain rfl : a0 = 0 := by omega
    clear hp h0 h1
    go_enter Try.func100, Try.ntmps100
    go_wp2
    go_ret
    exact ⟨_, rfl, Kd.R_nil _ _ _ _ _, Below.refl _ _⟩
end Go.Proofs.Ytghfeapncmlihaa.A

namespace Go.Proofs.Ytghfeapncmlihaa.A
open Go.RowKit Go.Proofs.YtghfeapncmlihaaW.PrintWords Go.Proofs.YtghfeapncmlihaaW.PrintLast Go.Proofs.YtghfeapncmlihaaW.PrintMore
attribute [local go_sem] max2_int min2_int max_two min_two max_three min_three max_four min_four   
set_option linter.unusedVariables false
set_option linter.unusedSimpArgs false
def impl_Box_92.f (l0 : List (S71)) : Option ((List (S71))) := (some (([] : List (S71)) : List (S71))).bind fun y386 => (if y386.length + l0.length < 4398046511104 then (some (y386 ++ l0)) else (none))
set_option maxHeartbeats 8000000 in
set_option maxRecDepth 100000 in
theorem impl_Box_92.calls (A0 : Option Addr) (c0 : Nat) (l0 : List (S71)) (r : List (S71)) (w : World) (hr0 : Kd.C k71 w A0 l0.length l0) (hc0 : l0.length ≤ c0) (h : impl_Box_92.f l0 = some r) :
    Calls Try.prog 92 #[.slice A0 l0.length c0] w fun e w' => ∃ v0_ : Value, e = .returned (v0_) ∧ Kd.R k71 71 w' w.heap.size (fun _ => True) v0_ r ∧ Below w.heap.size w w' := by
  have heq_ := fun W => Go.Lib.run_eql_slice_nil (P := Try.prog) W 28 71 A0 l0.length c0 0 0 Try.underlying28
  by_cases hA_ : A0.isNone = true
  · obtain rfl : A0 = none := by simpa using hA_
    obtain rfl : l0 = [] := by
      rcases l0 with _ | ⟨x, xs⟩
      · rfl
      · obtain ⟨ad, e, _⟩ := hr0.2.2 (by simp)
        cases e
    obtain rfl : r = [] := by
      have h2 := h
      simp [impl_Box_92.f] at h2
      first | exact h2 | exact h2.symm
    clear hA_ h hr0 heq_
    have heq_ := fun W => Go.Lib.run_eql_slice_nil (P := Try.prog) W 28 71 none 0 c0 0 0 Try.underlying28
    show Calls _ _ #[.slice none 0 c0] w _
    go_enter Try.func92, Try.ntmps92
    go_wp2
    go_ret
    exact ⟨_, rfl, Kd.R_nil _ _ _ _ _, Below.refl _ _⟩
  replace hA_ : A0.isNone = false := Bool.eq_false_iff.mpr hA_
  have HR0 := Aside0.mk hr0
  have HC0 := Aside0.mk hc0
  clear hr0 hc0
  have HB := Aside0.mk (Below.refl w.heap.size w)
  have H : ((some (([] : List (S71)) : List (S71))).bind fun y386 => (if y386.length + l0.length < 4398046511104 then (some (y386 ++ l0)) else (none))) = some r := h
  clear h
  obtain ⟨y386, hy386⟩ : ∃ y_ : List (S71), y_ = (([] : List (S71))) := ⟨_, rfl⟩
  replace H : (if y386.length + l0.length < 4398046511104 then (some (y386 ++ l0)) else (none)) = some r := by first | (rw [hy386]; with_reducible exact H) | (have H2_ := (Option.bind_some _ _).symm.trans H; rw [hy386]; with_reducible exact H2_) | (have H2_ := (Option.bind_some _ _).symm.trans H; with_reducible exact H2_) | with_reducible exact H | (rw [hy386]; exact H) | exact H
  have Ny386 := Aside0.mk hy386
  clear hy386
  by_cases c2 : y386.length + l0.length < 4398046511104
  · rw [if_pos c2] at H
    have LMc2 := Aside0.mk c2
    clear c2
    obtain ⟨y389, hy389⟩ : ∃ y_ : List (S71), y_ = (y386 ++ l0) := ⟨_, rfl⟩
    replace H : (some y389) = some r := by first | (rw [hy389]; with_reducible exact H) | (have H2_ := (Option.bind_some _ _).symm.trans H; rw [hy389]; with_reducible exact H2_) | (have H2_ := (Option.bind_some _ _).symm.trans H; with_reducible exact H2_) | with_reducible exact H | (rw [hy389]; exact H) | exact H
    have Ny389 := Aside0.mk hy389
    clear hy389
    obtain rfl := Option.some.inj H
    go_enter Try.func92, Try.ntmps92
    go_wp2_with (first | ((with_reducible refine gate_dst (N := 5) rfl ?_); refine Kd.R_lit k71 _ 71 ?hg (N := 5) ?hd (xs := ([] : List (S71))) (inner := []) (ok := fun _ => True) (okp := fun _ => True) ?hr ?hp (fun _ hk => hk) trivial (Below.refl _ _) (Nat.le_refl _) (by simp) ?_; (case hd => rfl); (case hg => rfl); (case hr => first | (go_simp; done) | (go_simp; rfl)); (case hp => exact (Reps.none _ _)); intro v387 w3 ho4 hb hg_ hnew_; clear hg_ hnew_; (first | rw [← Ny386.out] at ho4 | (simp only [Int.reduceToNat] at ho4; rw [← Ny386.out] at ho4)); have HO388 := Aside0.mk (Kd.R_lower ho4 (below_size (bl HB.out))); replace HB := Aside0.mk (below_step (bl HB.out) hb); clear hb ho4) | ((with_reducible refine gate_builtin (b := .append) (xs := #[.tmp 5, .tmp 6]) rfl ?_); at_builtin; refine Kd.R_append_rows k71 (w0 := w) w.heap.size rfl (.tmp 5) (.tmp 6) 28 71 (.agg #[(.int .i64 0), (.int .i64 0), (.int .i64 0), (.bool false)]) 32 rfl Try.underlying28 info71 rfl (by decide) (by omega) v387 y386 l0 _ _ _ (fun _ => True) (fun _ => False) rfl rfl ?aO ?aR (fun _ _ h => h) (fun _ h => h.elim) ?aF ?aB ?aS ?aL ?_; (case aR => repeat (first | exact (Kd.C_below HR0.out HB.out) | (with_reducible refine Kd.C_alloc ?_ _) | (with_reducible refine Kd.C_drewN ?_ _) | (with_reducible refine Kd.C_drew ?_))); (case aB => exact (bl HB.out)); (case aF => exact (fun _ _ => trivial)); (case aO => exact (rk HO388.out)); (case aS => exact (below_size (bl HB.out))); (case aL => have := LMc2.out; omega); intro v390 w5 ho hb hg hat; rw [← Ny389.out] at ho; have n0_ := Aside0.mk (hb); have n1_ := Aside0.mk (ho); clear HB; clear HO388; have HB := n0_; have HO391 := n1_; clear n0_ n1_; clear ho hb hg hat))
    go_ret
    exact ⟨_, by first | rfl | (simp [errW_none, errW_some] <;> rfl) | (simp [*, errW_none, errW_some] <;> rfl), rk HO391.out, bl HB.out⟩
  · rw [if_neg c2] at H
    exact absurd H (by simp)
end Go.Proofs.Ytghfeapncmlihaa.A

namespace Go.Proofs.Ytghfeapncmlihaa.A
open Go.RowKit Go.Proofs.YtghfeapncmlihaaW.PrintWords Go.Proofs.YtghfeapncmlihaaW.PrintLast Go.Proofs.YtghfeapncmlihaaW.PrintMore
attribute [local go_sem] max2_int min2_int max_two min_two max_three min_three max_four min_four   
set_option linter.unusedVariables false
set_option linter.unusedSimpArgs false
def impl_copyColumn.f (a0_0 : Int) (l0_1 : List Int) (l0_2 : List (S71)) : Option (Int × List Int × (List (S71))) := (slices_Clone_int_int.f l0_1).bind fun t394 => ((impl_Box_92.f l0_2).bind fun t397 => (some (a0_0, t394, t397)))
def impl_copyColumn.T1 : Bool × List (List Nat × List Nat) := (true, [([], []), ([0], [0]), ([1], [1]), ([], []), ([3], [3]), ([4, 2], [4]), ([0, 1, 2, 3, 4], []), ([6, 2, 5, 0, 1, 2, 3, 4], [2, 6]), ([0, 1, 2, 3, 4, 5, 6, 7], []), ([8, 5, 7, 0, 1, 2, 3, 4, 5, 6, 7], [5, 8])])
def impl_copyColumn.B1 : List Nat := [0, 1, 3, 0, 8, 31, 31, 127, 255, 511]
theorem impl_copyColumn.tab1 : rtab .any (opsOf Try.f72 1) = impl_copyColumn.T1 := by kernel_rfl
theorem impl_copyColumn.bits1 : waitsOk impl_copyColumn.T1.2 impl_copyColumn.B1 = true := by kernel_rfl
set_option maxHeartbeats 8000000 in
set_option maxRecDepth 100000 in
theorem impl_copyColumn.calls (a0_0 : Int) (A0_1 : Option Addr) (c0_1 : Nat) (l0_1 : List Int) (A0_2 : Option Addr) (c0_2 : Nat) (l0_2 : List (S71)) (r1 : Int) (r2 : List Int) (r3 : List (S71)) (w : World) (hr0_1 : Kd.C (Kd.int .i64) w A0_1 l0_1.length l0_1) (hc0_1 : l0_1.length ≤ c0_1) (hr0_2 : Kd.C k71 w A0_2 l0_2.length l0_2) (hc0_2 : l0_2.length ≤ c0_2) (h : impl_copyColumn.f a0_0 l0_1 l0_2 = some (r1, r2, r3)) :
    Calls Try.prog 72 #[.agg #[.int .i64 a0_0, .slice A0_1 l0_1.length c0_1, .slice A0_2 l0_2.length c0_2]] w fun e w' => ∃ v1_ v2_ : Value, e = .returned (.agg #[.int .i64 r1, v1_, v2_]) ∧ Kd.R (Kd.int .i64) 3 w' w.heap.size (fun _ => True) v1_ r2 ∧ Kd.R k71 71 w' w.heap.size (fun _ => True) v2_ r3 ∧ Below w.heap.size w w' := by
  have hu30 := Try.underlying30
  have HR0_1 := Aside0.mk hr0_1
  have HC0_1 := Aside0.mk hc0_1
  clear hr0_1 hc0_1
  have HR0_2 := Aside0.mk hr0_2
  have HC0_2 := Aside0.mk hc0_2
  clear hr0_2 hc0_2
  have HB := Aside0.mk (Below.refl w.heap.size w)
  have H : ((slices_Clone_int_int.f l0_1).bind fun t394 => ((impl_Box_92.f l0_2).bind fun t397 => (some (a0_0, t394, t397)))) = some (r1, r2, r3) := h
  clear h
  replace H := Option.bind_eq_some_iff.mp H
  obtain ⟨t394, A20, H⟩ := H
  replace H : ((impl_Box_92.f l0_2).bind fun t397 => (some (a0_0, t394, t397))) = some (r1, r2, r3) := H
  have A2 := Aside0.mk A20
  clear A20
  replace H := Option.bind_eq_some_iff.mp H
  obtain ⟨t397, A30, H⟩ := H
  replace H : (some (a0_0, t394, t397)) = some (r1, r2, r3) := H
  have A3 := Aside0.mk A30
  clear A30
  simp only [Option.some.injEq, Prod.mk.injEq] at H
  obtain ⟨rfl, rfl, rfl⟩ := H
  go_enter Try.func72, Try.ntmps72
  try go_wp2_with (first | ((with_reducible refine gate_dst (N := 1) rfl ?_); refine bx (cs := #[.int .i64 a0_0, .slice A0_1 l0_1.length c0_1, .slice A0_2 l0_2.length c0_2]) (t := 30) fun gb392 hg w4 hbox hb => ?_; have BK392 := Aside0.mk (hbox); have GW392 := Aside0.mk (gs HB.out hg); have GE392 := Aside0.mk (gs HB.out hg); replace HB := Aside0.mk (below_step (bl HB.out) hb); clear hb hbox hg) | ((with_reducible refine gate_dst (N := 2) rfl ?_); refine bx (cs := #[.int .i64 0, .slice none 0 0, .slice none 0 0]) (t := 30) fun gb393 hg w5 hbox hb => ?_; have n0_ := Aside0.mk (bb BK392.out hb); have n1_ := Aside0.mk (below_step (bl HB.out) hb); have n2_ := Aside0.mk (hbox); have n3_ := Aside0.mk (gs HB.out hg); have n4_ := Aside0.mk (gs HB.out hg); have n5_ := Aside0.mk ((nl BK392.out hg)); have n6_ := Aside0.mk ((ng BK392.out hg)); clear BK392; clear HB; have BK392 := n0_; have HB := n1_; have BK393 := n2_; have GW393 := n3_; have GE393 := n4_; have NB392_393 := n5_; have NB393_392 := n6_; clear n0_ n1_ n2_ n3_ n4_ n5_ n6_; clear hb hbox hg))
  have n0_ := Aside0.mk (blk_drew BK392.out)
  have n1_ := Aside0.mk (blk_drew BK393.out)
  have n2_ := Aside0.mk (below_drew1 HB.out)
  clear BK392
  clear BK393
  clear HB
  have BK392 := n0_
  have BK393 := n1_
  have HB := n2_
  clear n0_ n1_ n2_
  refine start_ (n := 10) (S := fun w' => w'.cell? ⟨gb392, 0, none⟩ = some (.int .i64 a0_0) ∧ w'.cell? ⟨gb392, 1, none⟩ = some (.slice A0_1 l0_1.length c0_1) ∧ w'.cell? ⟨gb392, 2, none⟩ = some (.slice A0_2 l0_2.length c0_2)) (ds := [7, 9]) #[false, false, false, false, false, false, false, false, false, false] (by kernel_rfl) rfl rfl ⟨(blk_cell BK392.out 0).trans rfl, (blk_cell BK392.out 1).trans rfl, (blk_cell BK392.out 2).trans rfl⟩ (fun hHeld => ?_); refine with_tabW impl_copyColumn.tab1 impl_copyColumn.bits1 (fun HT_ HW_ => ?_)
  generalize w5.drew = w6 at BK392 BK393 HB hHeld ⊢
  refine pure_ (i := 0) (N := some 3) (v := ?_) (a' := ?_) #[true, false, false, false, false, false, false, false, false, false] rfl rfl (any_of HT_.out (by kernel_rfl)) (fun _ _ _ h => h) (Or.inl ⟨by rfl, ?_⟩) ?_ ?_
  rotate_left
  · intro w'
    go_simp
    with_reducible rfl
  rotate_left
  · simp only [Act.put, List.setIfInBounds_toArray, List.set_cons_zero, List.set_cons_succ, i64_w, i32_w]
    rfl
  refine pure_ (i := 3) (N := some 6) (v := ?_) (a' := ?_) #[true, false, false, true, false, false, false, false, false, false] rfl rfl (any_of HT_.out (by kernel_rfl)) (fun _ _ _ h => h) (Or.inl ⟨by rfl, ?_⟩) ?_ ?_
  rotate_left
  · intro w'
    go_simp
    with_reducible rfl
  rotate_left
  · simp only [Act.put, List.setIfInBounds_toArray, List.set_cons_zero, List.set_cons_succ, i64_w, i32_w]
    rfl
  refine take_ (i := 1) (N := some 4) (v := ?_) (a' := ?_) #[true, true, false, true, false, false, false, false, false, false] rfl rfl (take_ofW HT_.out HW_.out (by kernel_rfl)) (fun _ _ _ h => h) (Or.inl ⟨by rfl, ?_⟩) hHeld ?_ ?_
  rotate_left
  · rintro w' ⟨s0, s1, s2⟩
    go_simp
    with_reducible rfl
  rotate_left
  · simp only [Act.put, List.setIfInBounds_toArray, List.set_cons_zero, List.set_cons_succ, i64_w, i32_w]
    rfl
  refine take_ (i := 4) (N := some 7) (v := ?_) (a' := ?_) #[true, true, false, true, true, false, false, false, false, false] rfl rfl (take_ofW HT_.out HW_.out (by kernel_rfl)) (fun _ _ _ h => h) (Or.inl ⟨by rfl, ?_⟩) hHeld ?_ ?_
  rotate_left
  · rintro w' ⟨s0, s1, s2⟩
    go_simp
    with_reducible rfl
  rotate_left
  · simp only [Act.put, List.setIfInBounds_toArray, List.set_cons_zero, List.set_cons_succ, i64_w, i32_w]
    rfl
  refine one_ (i := 2) (N := some 5) #[true, true, true, true, true, false, false, false, false, false] rfl rfl (one_of HT_.out (by kernel_rfl)) (by decide) (fun K hK => ?_)
  refine goes_ Try.func64 (by kernel_rfl) rfl #[.slice A0_1 l0_1.length c0_1] (by rfl) rfl rfl (by (try simp only [List.map_toArray, List.map_cons, List.map_nil]); first | done | rfl | (simp only [List.length_drop, List.length_take]; rfl)) ?_
  with_reducible refine (slices_Clone_int_int.calls _ _ l0_1 t394 _ ?side1 ?side2 A2.out).mono ?_
  (case side1 => repeat (first | exact (Kd.C_below HR0_1.out HB.out) | (with_reducible refine Kd.C_alloc ?_ _) | (with_reducible refine Kd.C_drewN ?_ _) | (with_reducible refine Kd.C_drew ?_)))
  (case side2 => exact HC0_1.out)
  rintro e w7 ⟨v395, rfl, ho0, hb⟩
  refine ⟨_, rfl, ?_⟩
  have n0_ := Aside0.mk (Kd.R_lower ho0 (below_size (bl HB.out)))
  have n1_ := Aside0.mk (bb BK392.out hb)
  have n2_ := Aside0.mk (bb BK393.out hb)
  have n3_ := Aside0.mk (below_step (bl HB.out) hb)
  clear BK392
  clear BK393
  clear HB
  have HO396 := n0_
  have BK392 := n1_
  have BK393 := n2_
  have HB := n3_
  clear n0_ n1_ n2_ n3_
  (try clear hb)
  (try clear hb2)
  (try clear hk)
  (try clear hi)
  (try clear ho0)
  refine hK.out _ _ ⟨(blk_cell BK392.out 0).trans rfl, (blk_cell BK392.out 1).trans rfl, (blk_cell BK392.out 2).trans rfl⟩ (fun hHeld => ?_)
  clear hK K
  refine norm_ (a' := ?_) ?_ ?_
  rotate_left
  · show Act.put _ (some 5) _ = _
    simp only [Act.put, List.setIfInBounds_toArray, List.set_cons_zero, List.set_cons_succ, i64_w, i32_w]
    rfl
  refine pure_ (i := 6) (N := some 9) (v := ?_) (a' := ?_) #[true, true, true, true, true, false, true, false, false, false] rfl rfl (any_of HT_.out (by kernel_rfl)) (fun _ _ _ h => h) (Or.inl ⟨by rfl, ?_⟩) ?_ ?_
  rotate_left
  · intro w'
    go_simp
    with_reducible rfl
  rotate_left
  · simp only [Act.put, List.setIfInBounds_toArray, List.set_cons_zero, List.set_cons_succ, i64_w, i32_w]
    rfl
  refine one_ (i := 5) (N := some 8) #[true, true, true, true, true, true, true, false, false, false] rfl rfl (one_of HT_.out (by kernel_rfl)) (by decide) (fun K hK => ?_)
  refine goes_ Try.func92 (by kernel_rfl) rfl #[.slice A0_2 l0_2.length c0_2] (by rfl) rfl rfl (by (try simp only [List.map_toArray, List.map_cons, List.map_nil]); first | done | rfl | (simp only [List.length_drop, List.length_take]; rfl)) ?_
  with_reducible refine (impl_Box_92.calls _ _ l0_2 t397 _ ?side1 ?side2 A3.out).mono ?_
  (case side1 => repeat (first | exact (Kd.C_below HR0_2.out HB.out) | (with_reducible refine Kd.C_alloc ?_ _) | (with_reducible refine Kd.C_drewN ?_ _) | (with_reducible refine Kd.C_drew ?_)))
  (case side2 => exact HC0_2.out)
  rintro e w8 ⟨v398, rfl, ho0, hb⟩
  refine ⟨_, rfl, ?_⟩
  have n0_ := Aside0.mk (Kd.R_below (rk HO396.out) hb)
  have n1_ := Aside0.mk (Kd.R_lower ho0 (below_size (bl HB.out)))
  have n2_ := Aside0.mk (bb BK392.out hb)
  have n3_ := Aside0.mk (bb BK393.out hb)
  have n4_ := Aside0.mk (below_step (bl HB.out) hb)
  clear HO396
  clear BK392
  clear BK393
  clear HB
  have HO396 := n0_
  have HO399 := n1_
  have BK392 := n2_
  have BK393 := n3_
  have HB := n4_
  clear n0_ n1_ n2_ n3_ n4_
  (try clear hb)
  (try clear hb2)
  (try clear hk)
  (try clear hi)
  (try clear ho0)
  obtain ⟨Ao9, co9, eo9⟩ := Kd.R_slice HO396.out
  (first | subst eo9 | (injection eo9 with f1_ f2_ f3_; have f4_ := f1_.symm; have f5_ := f3_.symm; clear f1_ f2_ f3_; subst f4_; subst f5_))
  obtain ⟨Ao11, co11, eo11⟩ := Kd.R_slice HO399.out
  (first | subst eo11 | (injection eo11 with f1_ f2_ f3_; have f4_ := f1_.symm; have f5_ := f3_.symm; clear f1_ f2_ f3_; subst f4_; subst f5_))
  refine hK.out _ _ ⟨(blk_cell BK392.out 0).trans rfl, (blk_cell BK392.out 1).trans rfl, (blk_cell BK392.out 2).trans rfl⟩ (fun hHeld => ?_)
  clear hK K
  refine norm_ (a' := ?_) ?_ ?_
  rotate_left
  · show Act.put _ (some 8) _ = _
    simp only [Act.put, List.setIfInBounds_toArray, List.set_cons_zero, List.set_cons_succ, i64_w, i32_w]
    rfl
  refine last_ (i := 7) (N := none) #[true, true, true, true, true, true, true, true, false, false] rfl rfl (one_of HT_.out (by kernel_rfl)) (by decide) (fun K hK => ?_)
  have hs10 : w8.cell? ⟨gb392, 1, none⟩ = some (.slice A0_1 l0_1.length c0_1) := (blk_cell BK392.out 1).trans rfl
  have hfs10 := blk_frozen BK392.out 1
  have hns10_1 := NB393_392.out
  have hms10_1 := NB392_393.out
  refine skip_ (w1 := ?_) (by rfl) rfl ?_ ?_
  rotate_left
  · go_simp
    rfl
  refine hK.out _ _ ?_
  clear hK K
  refine pure_ (i := 8) (N := some 10) (v := ?_) (a' := ?_) #[true, true, true, true, true, true, true, true, true, false] rfl rfl (any_of HT_.out (by kernel_rfl)) (fun _ _ _ h => h) (Or.inl ⟨by rfl, ?_⟩) ?_ ?_
  rotate_left
  · intro w'
    go_simp
    with_reducible rfl
  rotate_left
  · simp only [Act.put, List.setIfInBounds_toArray, List.set_cons_zero, List.set_cons_succ, i64_w, i32_w]
    rfl
  refine last_ (i := 9) (N := none) #[true, true, true, true, true, true, true, true, true, true] rfl rfl (one_of HT_.out (by kernel_rfl)) (by decide) (fun K hK => ?_)
  have hs12 : w8.cell? ⟨gb392, 2, none⟩ = some (.slice A0_2 l0_2.length c0_2) := (blk_cell BK392.out 2).trans rfl
  have hfs12 := blk_frozen BK392.out 2
  have hns12_1 := NB393_392.out
  have hms12_1 := NB392_393.out
  refine skip_ (w1 := ?_) (by rfl) rfl ?_ ?_
  rotate_left
  · go_simp
    rfl
  refine hK.out _ _ ?_
  clear hK K
  refine done_ (done_of HT_.out (by kernel_rfl)) ?_
  have hnb13 := NB392_393.out
  have hnc13 := NB393_392.out
  have hcz14_0 : w8.cell? ⟨gb392, 0, none⟩ = some (.int .i64 a0_0) := (blk_cell BK392.out 0).trans rfl
  have hcz14_1 : w8.cell? ⟨gb392, 1, none⟩ = some (.slice A0_1 l0_1.length c0_1) := (blk_cell BK392.out 1).trans rfl
  have hcz14_2 : w8.cell? ⟨gb392, 2, none⟩ = some (.slice A0_2 l0_2.length c0_2) := (blk_cell BK392.out 2).trans rfl
  have hfz14_0 := blk_frozen BK392.out 0
  have hfz14_1 := blk_frozen BK392.out 1
  have hfz14_2 := blk_frozen BK392.out 2
  have hcz15_0 : w8.cell? ⟨gb393, 0, none⟩ = some (.int .i64 0) := (blk_cell BK393.out 0).trans rfl
  have hcz15_1 : w8.cell? ⟨gb393, 1, none⟩ = some (.slice none 0 0) := (blk_cell BK393.out 1).trans rfl
  have hcz15_2 : w8.cell? ⟨gb393, 2, none⟩ = some (.slice none 0 0) := (blk_cell BK393.out 2).trans rfl
  have hfz15_0 := blk_frozen BK393.out 0
  have hfz15_1 := blk_frozen BK393.out 1
  have hfz15_2 := blk_frozen BK393.out 2
  try go_wp2
  refine bodyPost_ret (results_cell_row rfl _ _ gb393 30 #[.int .i64 a0_0, .slice Ao9 t394.length co9, .slice Ao11 t397.length co11] (0, 0) _ rfl (by (with_reducible repeat (first | apply bN | apply bD | apply bA)); refine blk_put (cs := #[.int .i64 a0_0, .slice Ao9 t394.length co9, .slice none 0 0]) ?_ 2 _ rfl; (with_reducible repeat (first | apply bN | apply bD | apply bA)); refine blk_put (cs := #[.int .i64 a0_0, .slice none 0 0, .slice none 0 0]) ?_ 1 _ rfl; (with_reducible repeat (first | apply bN | apply bD | apply bA)); refine blk_put (cs := #[.int .i64 0, .slice none 0 0, .slice none 0 0]) ?_ 0 _ rfl; (with_reducible repeat (first | apply bN | apply bD | apply bA)); refine blk_far ?_ NB393_392.out _; (with_reducible repeat (first | apply bN | apply bD | apply bA)); refine blk_far ?_ NB393_392.out _; (with_reducible repeat (first | apply bN | apply bD | apply bA)); exact BK393.out) Try.underlying30 rfl (by kernel_rfl)) rfl ?_
  exact ⟨_, _, by first | rfl | (simp [errW_none, errW_some] <;> rfl) | (simp [*, errW_none, errW_some] <;> rfl), by (with_reducible repeat (first | apply Kd.R_alloc | apply Kd.R_drewN | apply Kd.R_drew)); exact Kd.R_mono (Kd.R_far (p := ⟨gb393, 2, none⟩) (Kd.R_far (p := ⟨gb393, 1, none⟩) (Kd.R_far (p := ⟨gb393, 0, none⟩) (Kd.R_far (p := ⟨gb392, 2, none⟩) (Kd.R_far (p := ⟨gb392, 1, none⟩) (Kd.R_types (Kd.R_types HO396.out BK392.out (by decide)) BK393.out (by decide)) (fun _ hk => hk.1.2) (.slice Ao9 t394.length co9)) (fun _ hk => hk.1.2) (.slice Ao11 t397.length co11)) (fun _ hk => hk.2) (.int .i64 a0_0)) (fun _ hk => hk.2) (.slice Ao9 t394.length co9)) (fun _ hk => hk.2) (.slice Ao11 t397.length co11)) (fun _ hk => trivial), by (with_reducible repeat (first | apply Kd.R_alloc | apply Kd.R_drewN | apply Kd.R_drew)); exact Kd.R_mono (Kd.R_far (p := ⟨gb393, 2, none⟩) (Kd.R_far (p := ⟨gb393, 1, none⟩) (Kd.R_far (p := ⟨gb393, 0, none⟩) (Kd.R_far (p := ⟨gb392, 2, none⟩) (Kd.R_far (p := ⟨gb392, 1, none⟩) (Kd.R_types (Kd.R_types HO399.out BK392.out (by decide)) BK393.out (by decide)) (fun _ hk => hk.1.2) (.slice Ao9 t394.length co9)) (fun _ hk => hk.1.2) (.slice Ao11 t397.length co11)) (fun _ hk => hk.2) (.int .i64 a0_0)) (fun _ hk => hk.2) (.slice Ao9 t394.length co9)) (fun _ hk => hk.2) (.slice Ao11 t397.length co11)) (fun _ hk => trivial), bl HB.out⟩
end Go.Proofs.Ytghfeapncmlihaa.A

namespace Go.Proofs.Ytghfeapncmlihaa.A
open Go.RowKit Go.Proofs.YtghfeapncmlihaaW.PrintWords Go.Proofs.YtghfeapncmlihaaW.PrintLast Go.Proofs.YtghfeapncmlihaaW.PrintMore
attribute [local go_sem] max2_int min2_int max_two min_two max_three min_three max_four min_four   
set_option linter.unusedVariables false
set_option linter.unusedSimpArgs false
def slices_Index_int_int.l0 : Nat → List Int → Int → Int → Int → Option (Int)
  | 0, _, _, _, _ => none
  | k + 1, x0, x1, x7, x8 => if x8 < x7 then (if 0 ≤ x8 then (if x8 < (x0.length : Int) then (if x1 = (rd x0 x8) then (some x8) else (slices_Index_int_int.l0 k x0 x1 x7 (wrap64 (x8 + 1)))) else (none)) else (none)) else (some (-1))
def slices_Index_int_int.f (k : Nat) (l0 : List Int) (a1 : Int) : Option (Int) := slices_Index_int_int.l0 k l0 a1 (l0.length : Int) 0
set_option maxHeartbeats 8000000 in
set_option maxRecDepth 100000 in
theorem slices_Index_int_int.calls (k : Nat) (A0 : Option Addr) (c0 : Nat) (l0 : List Int) (a1 : Int) (r : Int) (w : World) (hr0 : Kd.C (Kd.int .i64) w A0 l0.length l0) (hc0 : l0.length ≤ c0) (h : slices_Index_int_int.f k l0 a1 = some r) :
    Calls Try.prog 99 #[.slice A0 l0.length c0, .int .i64 a1] w fun e w' => e = .returned (.int .i64 r) ∧ Drawn0 w w' := by
  have HR0 := Aside0.mk hr0
  have HC0 := Aside0.mk hc0
  clear hr0 hc0
  have H : (slices_Index_int_int.l0 k l0 a1 (l0.length : Int) 0) = some r := h
  clear h
  have H' := Aside0.mk H
  clear H
  go_enter Try.func99, Try.ntmps99
  go_wp2
  go_loopg [8] k (fun kq v8 w' => ∃ (x8_1 : Int), v8 = .int .i64 x8_1 ∧ Aside0 (slices_Index_int_int.l0 kq l0 a1 (l0.length : Int) x8_1 = some r) ∧ Aside0 (kq ≤ k) ∧ Drawn0 w w')
  case atStart => exact ⟨(0), (by first | rfl | (simp; done) | (simp [*]; done)), H', ⟨Nat.le_refl _⟩, by repeat (first | exact Drawn0.refl _ | apply Drawn0.step)⟩
  case round =>
    clear H'
    try clear p2
    obtain ⟨x8_1, rfl, HA, HK1, ⟨m1, rfl⟩⟩ := hrel
    cases gk with
    | zero => exact absurd HA.out (by simp [slices_Index_int_int.l0])
    | succ k1 =>
      have H := HA.out
      clear HA
      simp only [slices_Index_int_int.l0] at H
      by_cases c3 : x8_1 < (l0.length : Int)
      · rw [if_pos c3] at H
        have c3b0 : decide (x8_1 < (l0.length : Int)) = true := decide_eq_true c3
        clear c3
        by_cases c4 : 0 ≤ x8_1
        · rw [if_pos c4] at H
          have c4b0 : decide (0 ≤ x8_1) = true := decide_eq_true c4
          clear c4
          by_cases c5 : x8_1 < (l0.length : Int)
          · rw [if_pos c5] at H
            have c5b0 : decide (x8_1 < (l0.length : Int)) = true := decide_eq_true c5
            clear c5
            by_cases c6 : a1 = (rd l0 x8_1)
            · rw [if_pos c6] at H
              have c6b0 : (a1 == (rd l0 x8_1)) = true := beq_iff_eq.mpr c6
              have c6b1 : (a1 != (rd l0 x8_1)) = false := bne_eq_false_iff_eq.mpr c6
              clear c6
              obtain rfl := Option.some.inj H
              have p518 : 0 ≤ (x8_1 : Int) := of_decide_eq_true (by first | (with_reducible assumption) | assumption)
              have q518 : x8_1 < (l0.length : Int) := of_decide_eq_true (by first | (with_reducible assumption) | assumption)
              obtain ⟨ad518, e518, hx518_0⟩ := Kd.at_int HR0.out x8_1 p518 q518
              cases e518
              replace p518 := eq_true p518
              replace q518 := eq_true q518
              go_wp2
              go_ret
              exact ⟨by first | rfl | (simp; done) | (simp [*]; done), by repeat (first | exact Drawn0.refl _ | apply Drawn0.step)⟩
            · rw [if_neg c6] at H
              have c6b0 : (a1 == (rd l0 x8_1)) = false := beq_eq_false_iff_ne.mpr c6
              have c6b1 : (a1 != (rd l0 x8_1)) = true := bne_iff_ne.mpr c6
              have H' := Aside0.mk H
              clear H
              have p518 : 0 ≤ (x8_1 : Int) := of_decide_eq_true (by first | (with_reducible assumption) | assumption)
              have q518 : x8_1 < (l0.length : Int) := of_decide_eq_true (by first | (with_reducible assumption) | assumption)
              obtain ⟨ad518, e518, hx518_0⟩ := Kd.at_int HR0.out x8_1 p518 q518
              cases e518
              replace p518 := eq_true p518
              replace q518 := eq_true q518
              go_wp2
              go_roundg k1
              case measure => have := HK1.out; omega
              case rel => exact ⟨(wrap64 (x8_1 + 1)), (by first | rfl | (simp; done) | (simp [*]; done)), H', ⟨by have := HK1.out; omega⟩, by repeat (first | exact Drawn0.refl _ | apply Drawn0.step)⟩
          · rw [if_neg c5] at H
            exact absurd H (by simp)
        · rw [if_neg c4] at H
          exact absurd H (by simp)
      · rw [if_neg c3] at H
        have c3b0 : decide (x8_1 < (l0.length : Int)) = false := decide_eq_false c3
        clear c3
        obtain rfl := Option.some.inj H
        go_wp2
        go_ret
        exact ⟨by first | rfl | (simp; done) | (simp [*]; done), by repeat (first | exact Drawn0.refl _ | apply Drawn0.step)⟩
def slices_Contains_int_int.f (k : Nat) (l0 : List Int) (a1 : Int) : Option (Bool) := (slices_Index_int_int.f k l0 a1).bind fun t519 => (some (decide (t519 ≥ 0)))
set_option maxHeartbeats 8000000 in
set_option maxRecDepth 100000 in
theorem slices_Contains_int_int.calls (k : Nat) (A0 : Option Addr) (c0 : Nat) (l0 : List Int) (a1 : Int) (r : Bool) (w : World) (hr0 : Kd.C (Kd.int .i64) w A0 l0.length l0) (hc0 : l0.length ≤ c0) (h : slices_Contains_int_int.f k l0 a1 = some r) :
    Calls Try.prog 93 #[.slice A0 l0.length c0, .int .i64 a1] w fun e w' => e = .returned (.bool r) ∧ Drawn0 w w' := by
  have HR0 := Aside0.mk hr0
  have HC0 := Aside0.mk hc0
  clear hr0 hc0
  have H : ((slices_Index_int_int.f k l0 a1).bind fun t519 => (some (decide (t519 ≥ 0)))) = some r := h
  clear h
  replace H := Option.bind_eq_some_iff.mp H
  obtain ⟨t519, A30, H⟩ := H
  replace H : (some (decide (t519 ≥ 0))) = some r := H
  have A3 := Aside0.mk A30
  clear A30
  obtain rfl := Option.some.inj H
  go_enter Try.func93, Try.ntmps93
  go_wp2_with (first | ((with_reducible refine gate_callee (f := 99) rfl ?_); refine goesL_ (some 7) rfl rfl Try.func99 (by kernel_rfl) rfl #[.slice A0 l0.length c0, .int .i64 a1] rfl (by (try simp only [List.map_toArray, List.map_cons, List.map_nil]); first | done | rfl | (simp only [List.length_drop, List.length_take]; rfl)) ?_; (with_reducible refine (slices_Index_int_int.calls k _ _ l0 a1 t519 _ ?side1 ?side2 A3.out).mono ?_); (case side1 => repeat (first | exact HR0.out | (with_reducible refine Kd.C_alloc ?_ _) | (with_reducible refine Kd.C_drewN ?_ _) | (with_reducible refine Kd.C_drew ?_))); (case side2 => exact HC0.out); rintro e w' ⟨rfl, ⟨nd, rfl⟩⟩; refine ⟨_, rfl, ?_⟩))
  go_ret
  exact ⟨by first | rfl | (simp; done) | (simp [*]; done), by repeat (first | exact Drawn0.refl _ | apply Drawn0.step)⟩
end Go.Proofs.Ytghfeapncmlihaa.A
