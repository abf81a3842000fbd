/- Used by the law FnExactPlacesFor. -/
import Derived.Test.YtbpjidekjogfeaaZFnExactPlacesForx12
import Derived.Test.YtbpjidekjogfeaaZFnExactPlacesForh
namespace Go.Proofs.Ytbpjidekjogfeaa.A
open Go.RowKit Go.Proofs.YtbpjidekjogfeaaW.PrintWords Go.Proofs.YtbpjidekjogfeaaW.PrintLast Go.Proofs.YtbpjidekjogfeaaW.PrintMore
attribute [local go_sem] max2_int min2_int max_two min_two max_three min_three max_four min_four   
set_option linter.unusedVariables false
set_option linter.unusedSimpArgs false
def spec_GapsOf.l0 : Nat → List (S50) → Int → Int → List Int → List (S98) → Option ((List (S50)))
 | 0, _, _, _, _, _ => none
 | k + 1, x3, x4, x124000, x124001, x124002 => if x4 < (x124002.length : Int) then (if 0 ≤ x4 then ((spec_l02Open.f ((rd_T98 x124002 x4).f0) ((rd_T98 x124002 x4).f1) ((rd_T98 x124002 x4).f2) ((rd_T98 x124002 x4).f3)).bind fun t130 => (if t130 = true then (if x4 > 0 then (if 0 ≤ (wrap64 (x4 - 1)) then (if (wrap64 (x4 - 1)) < (x124002.length : Int) then ((spec_l02Open.f ((rd_T98 x124002 (wrap64 (x4 - 1))).f0) ((rd_T98 x124002 (wrap64 (x4 - 1))).f1) ((rd_T98 x124002 (wrap64 (x4 - 1))).f2) ((rd_T98 x124002 (wrap64 (x4 - 1))).f3)).bind fun t132 => (if t132 = true then ((spec_l02Has.f k x124001 ((rd_T98 x124002 x4).f0)).bind fun t133 => (if t133 = true then (if x3.length < 5864062014805 then (spec_GapsOf.l0 k (x3 ++ [(⟨0, (rd_T98 x124002 x4).f0, (rd_T98 x124002 x4).f1⟩ : S50)]) (wrap64 (x4 + 1)) x124000 x124001 x124002) else (none)) else (if 0 ≤ (wrap64 ((x3.length : Int) - 1)) then (if (wrap64 ((x3.length : Int) - 1)) < (x3.length : Int) then (spec_GapsOf.l0 k (x3.set ((wrap64 ((x3.length : Int) - 1)) : Int).toNat (⟨(rd_T50 x3 (wrap64 ((x3.length : Int) - 1))).f0, (rd_T50 x3 (wrap64 ((x3.length : Int) - 1))).f1, wrap64 (((rd_T50 x3 (wrap64 ((x3.length : Int) - 1))).f2) + ((rd_T98 x124002 x4).f1))⟩ : S50)) (wrap64 (x4 + 1)) x124000 x124001 x124002) else (none)) else (none)))) else (if x3.length < 5864062014805 then (spec_GapsOf.l0 k (x3 ++ [(⟨0, (rd_T98 x124002 x4).f0, (rd_T98 x124002 x4).f1⟩ : S50)]) (wrap64 (x4 + 1)) x124000 x124001 x124002) else (none)))) else (none)) else (none)) else (if x3.length < 5864062014805 then (spec_GapsOf.l0 k (x3 ++ [(⟨0, (rd_T98 x124002 x4).f0, (rd_T98 x124002 x4).f1⟩ : S50)]) (wrap64 (x4 + 1)) x124000 x124001 x124002) else (none))) else (spec_GapsOf.l0 k x3 (wrap64 (x4 + 1)) x124000 x124001 x124002))) else (none)) else (some x3)
def spec_GapsOf.f (k : Nat) (a0_0 : Int) (l0_1 : List Int) (l0_2 : List (S98)) : Option ((List (S50))) := (some (([] : List (S50)) : List (S50))).bind fun y124 => ((spec_ColumnOk.f k a0_0 l0_1 l0_2).bind fun t127 => (if t127 = true then (spec_GapsOf.l0 k y124 0 a0_0 l0_1 l0_2) else (some y124)))
def spec_GapsOf.T10 : Bool × List (List Nat × List Nat) := (true, [([], []), ([], []), ([1], [1]), ([2], [2]), ([], []), ([], []), ([5], [5]), ([6], [6]), ([4, 7], [4, 7]), ([8], [8]), ([9], [9]), ([], []), ([11], [11]), ([10, 12], [10, 12]), ([0, 3, 0, 1, 2, 3, 4, 5, 6, 7, 8, 9, 10, 11, 12, 13], [0, 3]), ([14, 0, 1, 2, 3, 4, 5, 6, 7, 8, 9, 10, 11, 12, 13], [14]), ([15, 13, 0, 1, 2, 3, 4, 5, 6, 7, 8, 9, 10, 11, 12, 13], [13, 15])])
def spec_GapsOf.B10 : List Nat := [0, 0, 2, 6, 0, 0, 32, 96, 240, 496, 1008, 0, 2048, 8176, 16383, 32767, 65535]
theorem spec_GapsOf.tab10 : rtab .any (opsOf Try.f36 10) = spec_GapsOf.T10 := by kernel_rfl
theorem spec_GapsOf.bits10 : waitsOk spec_GapsOf.T10.2 spec_GapsOf.B10 = true := by kernel_rfl
set_option maxHeartbeats 8000000 in
set_option maxRecDepth 100000 in
theorem spec_GapsOf.calls (k : Nat) (a0_0 : Int) (A0_1 : Option Addr) (c0_1 : Nat) (l0_1 : List Int) (A0_2 : Option Addr) (c0_2 : Nat) (l0_2 : List (S98)) (r : List (S50)) (w : World) (hr0_1 : Kd.C (Kd.int .i64) w A0_1 l0_1.length l0_1) (hc0_1 : l0_1.length ≤ c0_1) (hr0_2 : Kd.C k98 w A0_2 l0_2.length l0_2) (hc0_2 : l0_2.length ≤ c0_2) (h : spec_GapsOf.f k a0_0 l0_1 l0_2 = some r) :
  Calls Try.prog 36 #[.agg #[.int .i64 a0_0, .slice A0_1 l0_1.length c0_1, .slice A0_2 l0_2.length c0_2]] w fun e w' => ∃ v0_ : Value, e = .returned (v0_) ∧ Kd.R k50 50 w' w.heap.size (fun _ => True) v0_ r ∧ Below w.heap.size w w' := by
 have hu41 := Try.underlying41
 have hu98 := Try.underlying98
 have hu50 := Try.underlying50
 have HR0_1 := Aside0.mk hr0_1
 have HC0_1 := Aside0.mk hc0_1
 clear hr0_1 hc0_1
 have HR0_2 := Aside0.mk hr0_2
 have HC0_2 := Aside0.mk hc0_2
 clear hr0_2 hc0_2
 have HB := Aside0.mk (Below.refl w.heap.size w)
 have H : ((some (([] : List (S50)) : List (S50))).bind fun y124 => ((spec_ColumnOk.f k a0_0 l0_1 l0_2).bind fun t127 => (if t127 = true then (spec_GapsOf.l0 k y124 0 a0_0 l0_1 l0_2) else (some y124)))) = some r := h
 clear h
 obtain ⟨y124, hy124⟩ : ∃ y_ : List (S50), y_ = (([] : List (S50))) := ⟨_, rfl⟩
 replace H : ((spec_ColumnOk.f k a0_0 l0_1 l0_2).bind fun t127 => (if t127 = true then (spec_GapsOf.l0 k y124 0 a0_0 l0_1 l0_2) else (some y124))) = some r := by first | (rw [hy124]; with_reducible exact H) | (have H2_ := (Option.bind_some _ _).symm.trans H; rw [hy124]; with_reducible exact H2_) | (have H2_ := (Option.bind_some _ _).symm.trans H; with_reducible exact H2_) | with_reducible exact H | (rw [hy124]; exact H) | exact H
 have Ny124 := Aside0.mk hy124
 clear hy124
 replace H := Option.bind_eq_some_iff.mp H
 obtain ⟨t127, A20, H⟩ := H
 try dsimp only at H
 have A2 := Aside0.mk A20
 clear A20
 by_cases c3 : t127 = true
 ·subst c3
  rw [if_pos rfl] at H
  have H' := Aside0.mk H
  clear H
  go_enter Try.func36, Try.ntmps36
  go_wp2_with (first | ((with_reducible refine gate_dst (N := 1) rfl ?_); refine bx (cs := #[.int .i64 a0_0, .slice A0_1 l0_1.length c0_1, .slice A0_2 l0_2.length c0_2]) (t := 41) fun gb123 hg w4 hbox hb => ?_; have BK123 := Aside0.mk (hbox); have GW123 := Aside0.mk (gs HB.out hg); have GE123 := Aside0.mk (gs HB.out hg); replace HB := Aside0.mk (below_step (bl HB.out) hb); clear hb hbox hg) | ((with_reducible refine gate_dst (N := 6) rfl ?_); refine Kd.R_lit k50 _ 50 ?hg (N := 6) ?hd (xs := ([] : List (S50))) (inner := []) (ok := fun _ => True) (okp := fun _ => True) ?hr ?hp (fun _ hk => hk) trivial (Below.refl _ _) (Nat.le_refl _) (by simp) ?_; (case hd => rfl); (case hg => rfl); (case hr => first | (go_simp; done) | (go_simp; rfl)); (case hp => exact (Reps.none _ _)); intro v125 w5 ho6 hb hg_ hnew_; clear hg_ hnew_; (first | rw [← Ny124.out] at ho6 | (simp only [Int.reduceToNat] at ho6; rw [← Ny124.out] at ho6)); have HO126 := Aside0.mk (Kd.R_lower ho6 (below_size (bl HB.out))); replace BK123 := Aside0.mk (bb BK123.out hb); replace HB := Aside0.mk (below_step (bl HB.out) hb); clear hb ho6; obtain ⟨hcz7_0, hcz7_1, hcz7_2, hfz7_0, hfz7_1, hfz7_2⟩ := cz3 BK123.out) | ((with_reducible refine gate_callee (f := 91) rfl ?_); refine goesL_ (some 8) rfl rfl Try.func91 (by kernel_rfl) rfl #[.agg #[.int .i64 a0_0, .slice A0_1 l0_1.length c0_1, .slice A0_2 l0_2.length c0_2]] rfl mapd ?_; (with_reducible refine (spec_ColumnOk.calls k a0_0 _ _ l0_1 _ _ l0_2 true _ ?side1 ?side2 ?side3 ?side4 A2.out).mono ?_); (case side1 => exact cb (Kd.C_below HR0_1.out HB.out)); (case side2 => exact HC0_1.out); (case side3 => exact cb (Kd.C_below HR0_2.out HB.out)); (case side4 => exact HC0_2.out); rintro e w8 ⟨rfl, hb⟩; refine ⟨_, rfl, ?_⟩; replace HO126 := Aside0.mk (Kd.R_below (rk HO126.out) hb); replace BK123 := Aside0.mk (bb BK123.out hb); replace HB := Aside0.mk (below_step (bl HB.out) hb); (try clear hb); (try clear hb2); (try clear hk); (try clear hi)))
  go_loopg [3, 4] k (fun kq v3 v4 w' => ∃ (x3_1 : List (S50)) (x4_1 : Int), v4 = .int .i64 x4_1 ∧ Aside0 (spec_GapsOf.l0 kq x3_1 x4_1 a0_0 l0_1 l0_2 = some r) ∧ Aside0 (kq ≤ k) ∧ Aside0 (Kd.R k50 50 w' w.heap.size (fun _ => True) v3 x3_1) ∧ Aside0 (w'.heap[gb123]? = some (.cells #[.int .i64 a0_0, (.slice A0_1 l0_1.length c0_1), (.slice A0_2 l0_2.length c0_2)] 41 (0, 0))) ∧ Aside0 (Below w.heap.size w w'))
  case atStart => exact ⟨(y124), (0), (by first | rfl | (simp; done) | (simp [*]; done)), H', ⟨Nat.le_refl _⟩, ⟨rk HO126.out⟩, ⟨by refine bk ?_; exact BK123.out⟩, ⟨bl HB.out⟩⟩
  case round =>
   clear H'
   try clear p2
   try clear c3
   try clear hcz7_0
   try clear hcz7_1
   try clear hcz7_2
   try clear hfz7_0
   try clear hfz7_1
   try clear hfz7_2
   obtain ⟨x3_1, x4_1, rfl, HA, HK1, HO_3, BK123, HB⟩ := hrel
   cases gk with
   | zero => exact absurd HA.out (by simp [spec_GapsOf.l0])
   | succ k1 =>
    have H := HA.out
    clear HA
    simp only [spec_GapsOf.l0] at H
    by_cases c9 : x4_1 < (l0_2.length : Int)
    ·rw [if_pos c9] at H
     have c9b0 : decide (x4_1 < (l0_2.length : Int)) = true := decide_eq_true c9
     clear c9
     by_cases c10 : 0 ≤ x4_1
     ·rw [if_pos c10] at H
      have c10b0 : decide (0 ≤ x4_1) = true := decide_eq_true c10
      clear c10
      replace H := Option.bind_eq_some_iff.mp H
      obtain ⟨t130, A110, H⟩ := H
      try dsimp only at H
      have A11 := Aside0.mk A110
      clear A110
      by_cases c12 : t130 = true
      ·subst c12
       rw [if_pos rfl] at H
       by_cases c13 : x4_1 > 0
       ·rw [if_pos c13] at H
        have c13b0 : decide (0 < x4_1) = true := decide_eq_true c13
        clear c13
        obtain ⟨ji14, hji14⟩ : ∃ j_ : Int, (wrap64 (x4_1 - 1)) = j_ := ⟨_, rfl⟩
        replace H : (if 0 ≤ (ji14) then (if (ji14) < (l0_2.length : Int) then ((spec_l02Open.f ((rd_T98 l0_2 (ji14)).f0) ((rd_T98 l0_2 (ji14)).f1) ((rd_T98 l0_2 (ji14)).f2) ((rd_T98 l0_2 (ji14)).f3)).bind fun t132 => (if t132 = true then ((spec_l02Has.f k1 l0_1 ((rd_T98 l0_2 x4_1).f0)).bind fun t133 => (if t133 = true then (if x3_1.length < 5864062014805 then (spec_GapsOf.l0 k1 (x3_1 ++ [(⟨0, (rd_T98 l0_2 x4_1).f0, (rd_T98 l0_2 x4_1).f1⟩ : S50)]) (wrap64 (x4_1 + 1)) a0_0 l0_1 l0_2) else (none)) else (if 0 ≤ (wrap64 ((x3_1.length : Int) - 1)) then (if (wrap64 ((x3_1.length : Int) - 1)) < (x3_1.length : Int) then (spec_GapsOf.l0 k1 (x3_1.set ((wrap64 ((x3_1.length : Int) - 1)) : Int).toNat (⟨(rd_T50 x3_1 (wrap64 ((x3_1.length : Int) - 1))).f0, (rd_T50 x3_1 (wrap64 ((x3_1.length : Int) - 1))).f1, wrap64 (((rd_T50 x3_1 (wrap64 ((x3_1.length : Int) - 1))).f2) + ((rd_T98 l0_2 x4_1).f1))⟩ : S50)) (wrap64 (x4_1 + 1)) a0_0 l0_1 l0_2) else (none)) else (none)))) else (if x3_1.length < 5864062014805 then (spec_GapsOf.l0 k1 (x3_1 ++ [(⟨0, (rd_T98 l0_2 x4_1).f0, (rd_T98 l0_2 x4_1).f1⟩ : S50)]) (wrap64 (x4_1 + 1)) a0_0 l0_1 l0_2) else (none)))) else (none)) else (none)) = some r := by first | (rw [hji14] at H; exact H) | (simp only [hji14] at H ⊢; exact H)
        (try rw [hji14] at A11)
        have hji14w : (IntKind.i64.wrap (x4_1 - 1)) = ji14 := (i64_w _).trans hji14
        by_cases c15 : 0 ≤ (ji14)
        ·rw [if_pos c15] at H
         have c15b0 : decide (0 ≤ (ji14)) = true := decide_eq_true c15
         clear c15
         by_cases c16 : (ji14) < (l0_2.length : Int)
         ·rw [if_pos c16] at H
          have c16b0 : decide ((ji14) < (l0_2.length : Int)) = true := decide_eq_true c16
          clear c16
          replace H := Option.bind_eq_some_iff.mp H
          obtain ⟨t132, A170, H⟩ := H
          try dsimp only at H
          have A17 := Aside0.mk A170
          clear A170
          by_cases c18 : t132 = true
          ·subst c18
           rw [if_pos rfl] at H
           replace H := Option.bind_eq_some_iff.mp H
           obtain ⟨t133, A190, H⟩ := H
           try dsimp only at H
           have A19 := Aside0.mk A190
           clear A190
           by_cases c20 : t133 = true
           ·subst c20
            rw [if_pos rfl] at H
            by_cases c21 : x3_1.length < 5864062014805
            ·rw [if_pos c21] at H
             have LMc21 := Aside0.mk c21
             clear c21
             obtain ⟨y134, hy134⟩ : ∃ y_ : List (S50), y_ = (x3_1 ++ [(⟨0, (rd_T98 l0_2 x4_1).f0, (rd_T98 l0_2 x4_1).f1⟩ : S50)]) := ⟨_, rfl⟩
             replace H : (spec_GapsOf.l0 k1 y134 (wrap64 (x4_1 + 1)) a0_0 l0_1 l0_2) = some r := by first | (rw [hy134]; with_reducible exact H) | (have H2_ := (Option.bind_some _ _).symm.trans H; rw [hy134]; with_reducible exact H2_) | (have H2_ := (Option.bind_some _ _).symm.trans H; with_reducible exact H2_) | with_reducible exact H | (rw [hy134]; exact H) | exact H
             have Ny134 := Aside0.mk hy134
             clear hy134
             have H' := Aside0.mk H
             clear H
             obtain ⟨hcz22_0, hcz22_1, hcz22_2, hfz22_0, hfz22_1, hfz22_2⟩ := cz3 BK123.out
             have p128 : 0 ≤ (x4_1 : Int) := of_decide_eq_true asm
             have q128 : x4_1 < (l0_2.length : Int) := of_decide_eq_true asm
             obtain ⟨ad128, e128, hx128_0, hx128_1, hx128_2, hx128_3⟩ := at_T98 HR0_2.out x4_1 p128 q128
             cases e128
             replace hx128_0 := (HB.out.cell (World.block_lt_of_cell? w _ hx128_0)).trans hx128_0
             replace hx128_1 := (HB.out.cell (World.block_lt_of_cell? w _ hx128_1)).trans hx128_1
             replace hx128_2 := (HB.out.cell (World.block_lt_of_cell? w _ hx128_2)).trans hx128_2
             replace hx128_3 := (HB.out.cell (World.block_lt_of_cell? w _ hx128_3)).trans hx128_3
             replace p128 := eq_true p128
             replace q128 := eq_true q128
             go_wp2_with (first | ((with_reducible refine gate_dst (N := 5) rfl ?_); refine bx (cs := #[.int .i64 0, .int .i64 0, .int .i64 0, .bool false]) (t := 98) fun gb129 hg w23 hbox hb => ?_; replace HO_3 := Aside0.mk (Kd.R_below (rk HO_3.out) hb); have BK129 := Aside0.mk (hbox); have GW129 := Aside0.mk (gs HB.out hg); have GE129 := Aside0.mk (gs HB.out hg); replace HB := Aside0.mk (below_step (bl HB.out) hb); have NB123_129 := Aside0.mk ((nl BK123.out hg)); have NB129_123 := Aside0.mk ((ng BK123.out hg)); replace BK123 := Aside0.mk (bb BK123.out hb); clear hb hbox hg; have hnb24 := NB129_123.out; have hnc24 := NB123_129.out; obtain ⟨hcz25_0, hcz25_1, hcz25_2, hcz25_3, hfz25_0, hfz25_1, hfz25_2, hfz25_3⟩ := cz4 BK129.out) | ((with_reducible refine gate_callee (f := 92) rfl ?_); refine goesL_ (some 24) rfl rfl Try.func92 (by kernel_rfl) rfl #[.agg #[.int .i64 ((rd_T98 l0_2 x4_1).f0), .int .i64 ((rd_T98 l0_2 x4_1).f1), .int .i64 ((rd_T98 l0_2 x4_1).f2), .bool ((rd_T98 l0_2 x4_1).f3)]] rfl mapd ?_; (with_reducible refine (spec_l02Open.calls ((rd_T98 l0_2 x4_1).f0) ((rd_T98 l0_2 x4_1).f1) ((rd_T98 l0_2 x4_1).f2) ((rd_T98 l0_2 x4_1).f3) true _ A11.out).mono ?_); rintro e w26 ⟨rfl, hb⟩; refine ⟨_, rfl, ?_⟩; replace HO_3 := Aside0.mk (Kd.R_below (by refine rk ?_; exact (Kd.R_mono (Kd.R_far (p := ⟨gb129, 3, none⟩) (Kd.R_far (p := ⟨gb129, 2, none⟩) (Kd.R_far (p := ⟨gb129, 1, none⟩) (Kd.R_far (p := ⟨gb129, 0, none⟩) (Kd.R_types HO_3.out BK129.out (by decide)) (fun _ hk => hk.2) (.int .i64 ((rd_T98 l0_2 x4_1).f0))) (fun _ hk => hk.2) (.int .i64 ((rd_T98 l0_2 x4_1).f1))) (fun _ hk => hk.2) (.int .i64 ((rd_T98 l0_2 x4_1).f2))) (fun _ hk => hk.2) (.bool ((rd_T98 l0_2 x4_1).f3))) (fun _ h_ => h_.1))) hb); replace BK123 := Aside0.mk (blk_below (g := gb123) (o := .cells #[.int .i64 a0_0, .slice A0_1 l0_1.length c0_1, .slice (some ad128) l0_2.length c0_2] 41 (0, 0)) (bf BK123.out) hb); replace BK129 := Aside0.mk (blk_below (g := gb129) (o := .cells #[.int .i64 ((rd_T98 l0_2 x4_1).f0), .int .i64 ((rd_T98 l0_2 x4_1).f1), .int .i64 ((rd_T98 l0_2 x4_1).f2), .bool ((rd_T98 l0_2 x4_1).f3)] 98 (0, 0)) (by refine bk ?_; refine blk_put (cs := #[.int .i64 ((rd_T98 l0_2 x4_1).f0), .int .i64 ((rd_T98 l0_2 x4_1).f1), .int .i64 ((rd_T98 l0_2 x4_1).f2), .bool false]) ?_ 3 _ rfl; refine bk ?_; refine blk_put (cs := #[.int .i64 ((rd_T98 l0_2 x4_1).f0), .int .i64 ((rd_T98 l0_2 x4_1).f1), .int .i64 0, .bool false]) ?_ 2 _ rfl; refine bk ?_; refine blk_put (cs := #[.int .i64 ((rd_T98 l0_2 x4_1).f0), .int .i64 0, .int .i64 0, .bool false]) ?_ 1 _ rfl; refine bk ?_; refine blk_put (cs := #[.int .i64 0, .int .i64 0, .int .i64 0, .bool false]) ?_ 0 _ rfl; refine bk ?_; exact BK129.out) hb); replace HB := Aside0.mk (below_step (bl HB.out) hb); (try clear hb); (try clear hb2); (try clear hk); (try clear hi); obtain ⟨hcz27_0, hcz27_1, hcz27_2, hfz27_0, hfz27_1, hfz27_2⟩ := cz3 BK123.out; have p131 : 0 ≤ ((ji14) : Int) := of_decide_eq_true asm; have q131 : (ji14) < (l0_2.length : Int) := of_decide_eq_true asm; obtain ⟨ad131, e131, hx131_0, hx131_1, hx131_2, hx131_3⟩ := at_T98 HR0_2.out (ji14) p131 q131; obtain rfl : ad128 = ad131 := (by injection e131); replace hx131_0 := (HB.out.cell (World.block_lt_of_cell? w _ hx131_0)).trans hx131_0; replace hx131_1 := (HB.out.cell (World.block_lt_of_cell? w _ hx131_1)).trans hx131_1; replace hx131_2 := (HB.out.cell (World.block_lt_of_cell? w _ hx131_2)).trans hx131_2; replace hx131_3 := (HB.out.cell (World.block_lt_of_cell? w _ hx131_3)).trans hx131_3; replace p131 := eq_true p131; replace q131 := eq_true q131) | (go_at_call 92; (with_reducible refine (spec_l02Open.calls ((rd_T98 l0_2 (ji14)).f0) ((rd_T98 l0_2 (ji14)).f1) ((rd_T98 l0_2 (ji14)).f2) ((rd_T98 l0_2 (ji14)).f3) true _ A17.out).mono ?_); rintro e w28 ⟨rfl, hb⟩; replace HO_3 := Aside0.mk (Kd.R_below (rk HO_3.out) hb); replace BK123 := Aside0.mk (bb BK123.out hb); replace BK129 := Aside0.mk (bb BK129.out hb); replace HB := Aside0.mk (below_step (bl HB.out) hb); (try clear hb); (try clear hb2); (try clear hk); (try clear hi); obtain ⟨hcz29_0, hcz29_1, hcz29_2, hfz29_0, hfz29_1, hfz29_2⟩ := cz3 BK123.out; obtain ⟨hcz30_0, hcz30_1, hcz30_2, hcz30_3, hfz30_0, hfz30_1, hfz30_2, hfz30_3⟩ := cz4 BK129.out) | (go_at_call 93; (with_reducible refine (spec_l02Has.calls k1 _ _ l0_1 ((rd_T98 l0_2 x4_1).f0) true _ ?side1 ?side2 A19.out).mono ?_); (case side1 => exact cb (Kd.C_below HR0_1.out HB.out)); (case side2 => exact HC0_1.out); rintro e w' ⟨rfl, ⟨nd, rfl⟩⟩) | ((with_reducible refine gate_builtin (b := .append) (xs := #[.tmp 61, .tmp 67]) rfl ?_); at_builtin; refine Kd.R_append k50 (w0 := w) w.heap.size rfl (.tmp 61) (.tmp 67) 24 50 (.agg #[(.int .i64 0), (.int .i64 0), (.int .i64 0)]) 24 rfl Try.underlying24 info50 rfl (by decide) (by omega) u3 x3_1 (⟨0, (rd_T98 l0_2 x4_1).f0, (rd_T98 l0_2 x4_1).f1⟩ : S50) [.int .i64 0, .int .i64 ((rd_T98 l0_2 x4_1).f0), .int .i64 ((rd_T98 l0_2 x4_1).f1)] (fun _ => True) (fun _ => False) rfl rfl ?aP (fun _ hk => hk.elim) ?aF ?aO ?aB ?aS ?aL ?_; (case aP => exact k50_mkM _ _ _ (⟨0, (rd_T98 l0_2 x4_1).f0, (rd_T98 l0_2 x4_1).f1⟩ : S50)); (case aB => exact (bl HB.out)); (case aF => exact (fun _ _ => trivial)); (case aO => exact (rk HO_3.out)); (case aS => exact (below_size (bl HB.out))); (case aL => have := LMc21.out; omega); intro v135 w31 ho hb hg hat; rw [← Ny134.out] at ho; replace BK123 := Aside0.mk (blk_grown (g := gb123) (o := .cells #[.int .i64 a0_0, .slice A0_1 l0_1.length c0_1, .slice (some ad128) l0_2.length c0_2] 41 (0, 0)) (bk BK123.out) hg (Kd.R_ne HO_3.out BK123.out (by decide))); replace BK129 := Aside0.mk (blk_grown (g := gb129) (o := .cells #[.int .i64 ((rd_T98 l0_2 x4_1).f0), .int .i64 ((rd_T98 l0_2 x4_1).f1), .int .i64 ((rd_T98 l0_2 x4_1).f2), .bool ((rd_T98 l0_2 x4_1).f3)] 98 (0, 0)) (bk BK129.out) hg (Kd.R_ne HO_3.out BK129.out (by decide))); replace HB := Aside0.mk (hb); have HO136 := Aside0.mk (ho); clear HO_3; clear ho hb hg hat))
             go_roundg k1
             case measure => have := HK1.out; omega
             case rel => exact ⟨(y134), (wrap64 (x4_1 + 1)), (by first | rfl | (simp; done) | (simp [*]; done)), H', ⟨by have := HK1.out; omega⟩, ⟨rk HO136.out⟩, ⟨by refine bk ?_; exact BK123.out⟩, ⟨bl HB.out⟩⟩
            ·rw [if_neg c21] at H
             exact absurd H (by simp)
           ·replace c20 := Bool.eq_false_iff.mpr c20
            subst c20
            rw [if_neg (show ¬ (false = true) by decide)] at H
            obtain ⟨ji32, hji32⟩ : ∃ j_ : Int, (wrap64 ((x3_1.length : Int) - 1)) = j_ := ⟨_, rfl⟩
            replace H : (if 0 ≤ (ji32) then (if (ji32) < (x3_1.length : Int) then (spec_GapsOf.l0 k1 (x3_1.set ((ji32) : Int).toNat (⟨(rd_T50 x3_1 (ji32)).f0, (rd_T50 x3_1 (ji32)).f1, wrap64 (((rd_T50 x3_1 (ji32)).f2) + ((rd_T98 l0_2 x4_1).f1))⟩ : S50)) (wrap64 (x4_1 + 1)) a0_0 l0_1 l0_2) else (none)) else (none)) = some r := by first | (rw [hji32] at H; exact H) | (simp only [hji32] at H ⊢; exact H)
            (try rw [hji32] at A11)
            (try rw [hji32] at A17)
            (try rw [hji32] at A19)
            have hji32w : (IntKind.i64.wrap ((x3_1.length : Int) - 1)) = ji32 := (i64_w _).trans hji32
            by_cases c33 : 0 ≤ (ji32)
            ·rw [if_pos c33] at H
             have c33b0 : decide (0 ≤ (ji32)) = true := decide_eq_true c33
             clear c33
             by_cases c34 : (ji32) < (x3_1.length : Int)
             ·rw [if_pos c34] at H
              have c34b0 : decide ((ji32) < (x3_1.length : Int)) = true := decide_eq_true c34
              clear c34
              obtain ⟨y138, hy138⟩ : ∃ y_ : List (S50), y_ = (x3_1.set ((ji32) : Int).toNat (⟨(rd_T50 x3_1 (ji32)).f0, (rd_T50 x3_1 (ji32)).f1, wrap64 (((rd_T50 x3_1 (ji32)).f2) + ((rd_T98 l0_2 x4_1).f1))⟩ : S50)) := ⟨_, rfl⟩
              replace H : (spec_GapsOf.l0 k1 y138 (wrap64 (x4_1 + 1)) a0_0 l0_1 l0_2) = some r := by first | (rw [hy138]; with_reducible exact H) | (have H2_ := (Option.bind_some _ _).symm.trans H; rw [hy138]; with_reducible exact H2_) | (have H2_ := (Option.bind_some _ _).symm.trans H; with_reducible exact H2_) | with_reducible exact H | (rw [hy138]; exact H) | exact H
              have Ny138 := Aside0.mk hy138
              clear hy138
              have H' := Aside0.mk H
              clear H
              obtain ⟨hcz36_0, hcz36_1, hcz36_2, hfz36_0, hfz36_1, hfz36_2⟩ := cz3 BK123.out
              have p128 : 0 ≤ (x4_1 : Int) := of_decide_eq_true asm
              have q128 : x4_1 < (l0_2.length : Int) := of_decide_eq_true asm
              obtain ⟨ad128, e128, hx128_0, hx128_1, hx128_2, hx128_3⟩ := at_T98 HR0_2.out x4_1 p128 q128
              cases e128
              replace hx128_0 := (HB.out.cell (World.block_lt_of_cell? w _ hx128_0)).trans hx128_0
              replace hx128_1 := (HB.out.cell (World.block_lt_of_cell? w _ hx128_1)).trans hx128_1
              replace hx128_2 := (HB.out.cell (World.block_lt_of_cell? w _ hx128_2)).trans hx128_2
              replace hx128_3 := (HB.out.cell (World.block_lt_of_cell? w _ hx128_3)).trans hx128_3
              replace p128 := eq_true p128
              replace q128 := eq_true q128
              try go_wp2_with (first | ((with_reducible refine gate_dst (N := 5) rfl ?_); refine bx (cs := #[.int .i64 0, .int .i64 0, .int .i64 0, .bool false]) (t := 98) fun gb129 hg w37 hbox hb => ?_; replace HO_3 := Aside0.mk (Kd.R_below (rk HO_3.out) hb); have BK129 := Aside0.mk (hbox); have GW129 := Aside0.mk (gs HB.out hg); have GE129 := Aside0.mk (gs HB.out hg); replace HB := Aside0.mk (below_step (bl HB.out) hb); have NB123_129 := Aside0.mk ((nl BK123.out hg)); have NB129_123 := Aside0.mk ((ng BK123.out hg)); replace BK123 := Aside0.mk (bb BK123.out hb); clear hb hbox hg; have hnb38 := NB129_123.out; have hnc38 := NB123_129.out; obtain ⟨hcz39_0, hcz39_1, hcz39_2, hcz39_3, hfz39_0, hfz39_1, hfz39_2, hfz39_3⟩ := cz4 BK129.out) | ((with_reducible refine gate_callee (f := 92) rfl ?_); refine goesL_ (some 24) rfl rfl Try.func92 (by kernel_rfl) rfl #[.agg #[.int .i64 ((rd_T98 l0_2 x4_1).f0), .int .i64 ((rd_T98 l0_2 x4_1).f1), .int .i64 ((rd_T98 l0_2 x4_1).f2), .bool ((rd_T98 l0_2 x4_1).f3)]] rfl mapd ?_; (with_reducible refine (spec_l02Open.calls ((rd_T98 l0_2 x4_1).f0) ((rd_T98 l0_2 x4_1).f1) ((rd_T98 l0_2 x4_1).f2) ((rd_T98 l0_2 x4_1).f3) true _ A11.out).mono ?_); rintro e w40 ⟨rfl, hb⟩; refine ⟨_, rfl, ?_⟩; replace HO_3 := Aside0.mk (Kd.R_below (by refine rk ?_; exact (Kd.R_mono (Kd.R_far (p := ⟨gb129, 3, none⟩) (Kd.R_far (p := ⟨gb129, 2, none⟩) (Kd.R_far (p := ⟨gb129, 1, none⟩) (Kd.R_far (p := ⟨gb129, 0, none⟩) (Kd.R_types HO_3.out BK129.out (by decide)) (fun _ hk => hk.2) (.int .i64 ((rd_T98 l0_2 x4_1).f0))) (fun _ hk => hk.2) (.int .i64 ((rd_T98 l0_2 x4_1).f1))) (fun _ hk => hk.2) (.int .i64 ((rd_T98 l0_2 x4_1).f2))) (fun _ hk => hk.2) (.bool ((rd_T98 l0_2 x4_1).f3))) (fun _ h_ => h_.1))) hb); replace BK123 := Aside0.mk (blk_below (g := gb123) (o := .cells #[.int .i64 a0_0, .slice A0_1 l0_1.length c0_1, .slice (some ad128) l0_2.length c0_2] 41 (0, 0)) (bf BK123.out) hb); replace BK129 := Aside0.mk (blk_below (g := gb129) (o := .cells #[.int .i64 ((rd_T98 l0_2 x4_1).f0), .int .i64 ((rd_T98 l0_2 x4_1).f1), .int .i64 ((rd_T98 l0_2 x4_1).f2), .bool ((rd_T98 l0_2 x4_1).f3)] 98 (0, 0)) (by refine bk ?_; refine blk_put (cs := #[.int .i64 ((rd_T98 l0_2 x4_1).f0), .int .i64 ((rd_T98 l0_2 x4_1).f1), .int .i64 ((rd_T98 l0_2 x4_1).f2), .bool false]) ?_ 3 _ rfl; refine bk ?_; refine blk_put (cs := #[.int .i64 ((rd_T98 l0_2 x4_1).f0), .int .i64 ((rd_T98 l0_2 x4_1).f1), .int .i64 0, .bool false]) ?_ 2 _ rfl; refine bk ?_; refine blk_put (cs := #[.int .i64 ((rd_T98 l0_2 x4_1).f0), .int .i64 0, .int .i64 0, .bool false]) ?_ 1 _ rfl; refine bk ?_; refine blk_put (cs := #[.int .i64 0, .int .i64 0, .int .i64 0, .bool false]) ?_ 0 _ rfl; refine bk ?_; exact BK129.out) hb); replace HB := Aside0.mk (below_step (bl HB.out) hb); (try clear hb); (try clear hb2); (try clear hk); (try clear hi); obtain ⟨hcz41_0, hcz41_1, hcz41_2, hfz41_0, hfz41_1, hfz41_2⟩ := cz3 BK123.out; have p131 : 0 ≤ ((ji14) : Int) := of_decide_eq_true asm; have q131 : (ji14) < (l0_2.length : Int) := of_decide_eq_true asm; obtain ⟨ad131, e131, hx131_0, hx131_1, hx131_2, hx131_3⟩ := at_T98 HR0_2.out (ji14) p131 q131; obtain rfl : ad128 = ad131 := (by injection e131); replace hx131_0 := (HB.out.cell (World.block_lt_of_cell? w _ hx131_0)).trans hx131_0; replace hx131_1 := (HB.out.cell (World.block_lt_of_cell? w _ hx131_1)).trans hx131_1; replace hx131_2 := (HB.out.cell (World.block_lt_of_cell? w _ hx131_2)).trans hx131_2; replace hx131_3 := (HB.out.cell (World.block_lt_of_cell? w _ hx131_3)).trans hx131_3; replace p131 := eq_true p131; replace q131 := eq_true q131) | (go_at_call 92; (with_reducible refine (spec_l02Open.calls ((rd_T98 l0_2 (ji14)).f0) ((rd_T98 l0_2 (ji14)).f1) ((rd_T98 l0_2 (ji14)).f2) ((rd_T98 l0_2 (ji14)).f3) true _ A17.out).mono ?_); rintro e w42 ⟨rfl, hb⟩; replace HO_3 := Aside0.mk (Kd.R_below (rk HO_3.out) hb); replace BK123 := Aside0.mk (bb BK123.out hb); replace BK129 := Aside0.mk (bb BK129.out hb); replace HB := Aside0.mk (below_step (bl HB.out) hb); (try clear hb); (try clear hb2); (try clear hk); (try clear hi); obtain ⟨hcz43_0, hcz43_1, hcz43_2, hfz43_0, hfz43_1, hfz43_2⟩ := cz3 BK123.out; obtain ⟨hcz44_0, hcz44_1, hcz44_2, hcz44_3, hfz44_0, hfz44_1, hfz44_2, hfz44_3⟩ := cz4 BK129.out) | (go_at_call 93; (with_reducible refine (spec_l02Has.calls k1 _ _ l0_1 ((rd_T98 l0_2 x4_1).f0) false _ ?side1 ?side2 A19.out).mono ?_); (case side1 => exact cb (Kd.C_below HR0_1.out HB.out)); (case side2 => exact HC0_1.out); rintro e w' ⟨rfl, ⟨nd, rfl⟩⟩; (try (rw [drewN_self w42]; generalize hq_ : World.drewN w42 _ = w42; have n0_ : Aside0 (Kd.R k50 50 w42 w.heap.size (fun _ => True) u3 x3_1) := ⟨by rw [← hq_]; exact (rk HO_3.out)⟩; have n1_ : Aside0 (w42.heap[gb123]? = some (.cells #[.int .i64 a0_0, .slice A0_1 l0_1.length c0_1, .slice (some ad128) l0_2.length c0_2] 41 (0, 0))) := ⟨by rw [← hq_]; exact (bk BK123.out)⟩; have n2_ : Aside0 (w42.heap[gb129]? = some (.cells #[.int .i64 ((rd_T98 l0_2 x4_1).f0), .int .i64 ((rd_T98 l0_2 x4_1).f1), .int .i64 ((rd_T98 l0_2 x4_1).f2), .bool ((rd_T98 l0_2 x4_1).f3)] 98 (0, 0))) := ⟨by rw [← hq_]; exact (bk BK129.out)⟩; have n3_ : Aside0 (Below w.heap.size w w42) := ⟨by rw [← hq_]; exact (bl HB.out)⟩; clear HO_3 BK123 BK129 HB hq_; have HO_3 := n0_; have BK123 := n1_; have BK129 := n2_; have HB := n3_; clear n0_ n1_ n2_ n3_))))
              replace HO_3 := Aside0.mk (Kd.R_drew HO_3.out)
              replace BK123 := Aside0.mk (blk_drew BK123.out)
              replace BK129 := Aside0.mk (blk_drew BK129.out)
              replace HB := Aside0.mk (below_drew1 HB.out)
              obtain ⟨Ao46, co46, eo46⟩ := Kd.R_slice HO_3.out
              (first | subst eo46 | (injection eo46 with f1_ f2_ f3_; have f4_ := f1_.symm; have f5_ := f3_.symm; clear f1_ f2_ f3_; subst f4_; subst f5_))
              have p137 : 0 ≤ ((ji32) : Int) := of_decide_eq_true asm
              have q137 : (ji32) < (x3_1.length : Int) := of_decide_eq_true asm
              obtain ⟨ad137, e137, hx137_0, hx137_1, hx137_2⟩ := at_T50 (Kd.R_reads' HO_3.out).2.2 (ji32) p137 q137
              cases e137
              replace p137 := eq_true p137
              replace q137 := eq_true q137
              have p35 : 0 ≤ ((ji32) : Int) := of_decide_eq_true asm
              have q35 : ((ji32) : Int) < ((x3_1.length : Int) : Int) := of_decide_eq_true asm
              obtain ⟨go35, co35, eo35, gb35, gl35, cl35, HG35⟩ := Kd.R_form HO_3.out (by omega)
              (first | cases eo35 | (injection eo35 with ea_ en_ ec_; (first | subst ea_ | (injection ea_ with ea_; subst ea_)); subst ec_; clear en_))
              have GB35 := Aside0.mk gb35
              have GG35 := Aside0.mk HG35
              clear gb35 gl35 HG35
              (first | simp only [add_plain] at hx137_0 | skip)
              (first | simp only [add_plain] at hx137_1 | skip)
              (first | simp only [add_plain] at hx137_2 | skip)
              obtain ⟨ce35, hcl35, hM35, hcc35, hfr35⟩ := Kd.R_elem HO_3.out z50 ((ji32) : Int) p35 q35
              obtain rfl := k50_openM hM35
              have hx35_0 : World.cell? _ ⟨go35, ((ji32) : Int).toNat * 3, none⟩ = some (.int .i64 ((rd_T50 x3_1 (ji32)).f0)) := hcc35 0 _ rfl
              have hx35_1 : World.cell? _ ⟨go35, ((ji32) : Int).toNat * 3 + 1, none⟩ = some (.int .i64 ((rd_T50 x3_1 (ji32)).f1)) := hcc35 1 _ rfl
              have hx35_2 : World.cell? _ ⟨go35, ((ji32) : Int).toNat * 3 + 2, none⟩ = some (.int .i64 ((rd_T50 x3_1 (ji32)).f2)) := hcc35 2 _ rfl
              have hf35_0 : World.frozen? _ ⟨go35, ((ji32) : Int).toNat * 3, none⟩ = false := hfr35 0
              have hf35_1 : World.frozen? _ ⟨go35, ((ji32) : Int).toNat * 3 + 1, none⟩ = false := hfr35 1
              have hf35_2 : World.frozen? _ ⟨go35, ((ji32) : Int).toNat * 3 + 2, none⟩ = false := hfr35 2
              clear hcl35 hcc35 hfr35 hM35
              replace p35 := eq_true p35
              replace q35 := eq_true q35
              obtain ⟨ce47, hcl47, hM47, hcc47, hfr47⟩ := Kd.R_elem HO_3.out z50 ((ji32) : Int) (of_decide_eq_true asm) (by have h_ : ((ji32) : Int) < ((x3_1.length : Int) : Int) := of_decide_eq_true asm; first | exact h_ | (have e_ := (Kd.R_reads' HO_3.out).1; omega) | simpa using h_)
              obtain rfl := k50_openM hM47
              have HP47 := (Kd.R_seg HO_3.out ((ji32) : Int) (of_decide_eq_true asm) (by have h_ : ((ji32) : Int) < ((x3_1.length : Int) : Int) := of_decide_eq_true asm; first | exact h_ | (have e_ := (Kd.R_reads' HO_3.out).1; omega) | simpa using h_) (seg := [.int .i64 (wrap64 (((rd_T50 x3_1 (ji32)).f2) + ((rd_T98 l0_2 x4_1).f1)))]) (j := 2) hcl47 hcc47 (show 3 ≤ 3 from by decide) (x' := (⟨(rd_T50 x3_1 (ji32)).f0, (rd_T50 x3_1 (ji32)).f1, wrap64 (((rd_T50 x3_1 (ji32)).f2) + ((rd_T98 l0_2 x4_1).f1))⟩ : S50)) (k50_mkM _ _ _ (⟨(rd_T50 x3_1 (ji32)).f0, (rd_T50 x3_1 (ji32)).f1, wrap64 (((rd_T50 x3_1 (ji32)).f2) + ((rd_T98 l0_2 x4_1).f1))⟩ : S50) ) (fun _ hk => hk)).1
              rw [← Ny138.out] at HP47
              have HQ47 := Aside0.mk HP47
              clear hcl47 hcc47 hfr47 hM47 HP47
              refine start_ (n := 17) (S := fun w' => w'.cell? ⟨gb129, 0, none⟩ = some (.int .i64 ((rd_T98 l0_2 x4_1).f0)) ∧ w'.cell? ⟨gb129, 1, none⟩ = some (.int .i64 ((rd_T98 l0_2 x4_1).f1)) ∧ w'.cell? ⟨gb129, 2, none⟩ = some (.int .i64 ((rd_T98 l0_2 x4_1).f2)) ∧ w'.cell? ⟨gb129, 3, none⟩ = some (.bool ((rd_T98 l0_2 x4_1).f3)) ∧ w'.cell? (⟨go35, ((ji32)).toNat * 3, none⟩ : Addr) = some (.int .i64 ((rd_T50 x3_1 (ji32)).f0)) ∧ w'.cell? ⟨go35, ((ji32)).toNat * 3 + 1, none⟩ = some (.int .i64 ((rd_T50 x3_1 (ji32)).f1)) ∧ w'.cell? ⟨go35, ((ji32)).toNat * 3 + 2, none⟩ = some (.int .i64 ((rd_T50 x3_1 (ji32)).f2))) (ds := [16]) #[false, false, false, false, false, false, false, false, false, false, false, false, false, false, false, false, false] (by kernel_rfl) rfl rfl ⟨(blk_cell BK129.out 0).trans rfl, (blk_cell BK129.out 1).trans rfl, (blk_cell BK129.out 2).trans rfl, (blk_cell BK129.out 3).trans rfl, hx137_0, hx137_1, hx137_2⟩ (fun hHeld => ?_); refine with_tabW spec_GapsOf.tab10 spec_GapsOf.bits10 (fun HT_ HW_ => ?_)
              generalize w42.drew = w45 at HO_3 BK123 BK129 HB GG35 HQ47 hf35_0 hf35_1 hf35_2 hx137_0 hx137_1 hx137_2 hx35_0 hx35_1 hx35_2 hHeld ⊢
              refine puA (i := 0) (N := some 45) HT_.out ?_
              refine puA (i := 1) (N := some 46) HT_.out ?_
              refine puA (i := 2) (N := some 47) HT_.out ?_
              refine puA (i := 3) (N := some 48) HT_.out ?_
              refine puA (i := 4) (N := some 49) HT_.out ?_
              refine puA (i := 5) (N := some 50) HT_.out ?_
              refine puA (i := 6) (N := some 51) HT_.out ?_
              refine puA (i := 7) (N := some 52) HT_.out ?_
              refine puA (i := 8) (N := some 53) HT_.out ?_
              refine puA (i := 9) (N := some 54) HT_.out ?_
              refine puA (i := 11) (N := some 56) HT_.out ?_
              refine tkA7 (i := 10) (N := some 55) HT_.out HW_.out hHeld ?_
              refine tkA7 (i := 12) (N := some 57) HT_.out HW_.out hHeld ?_
              refine puA (i := 13) (N := some 58) HT_.out ?_
              refine puA (i := 14) (N := some 59) HT_.out ?_
              refine puA (i := 15) (N := some 60) HT_.out ?_
              refine last_ (i := 16) (N := none) #[true, true, true, true, true, true, true, true, true, true, true, true, true, true, true, true, true] rfl rfl (one_of HT_.out (by kernel_rfl)) (by decide) (fun K hK => ?_)
              refine skip_ (w1 := ?_) (by rfl) rfl ?_ ?_
              rotate_left
              ·go_simp
               rfl
              refine hK.out _ _ ?_
              clear hK K
              refine done_ (done_of HT_.out (by kernel_rfl)) ?_
              try go_wp2
              go_roundg k1
              case measure => have := HK1.out; omega
              case rel => exact ⟨(y138), (wrap64 (x4_1 + 1)), (by first | rfl | (simp; done) | (simp [*]; done)), H', ⟨by have := HK1.out; omega⟩, ⟨rk HQ47.out⟩, ⟨by refine bk ?_; refine blk_far ?_ (by have h_ := Kd.R_ne HO_3.out BK123.out (by decide); intro e_; exact h_ (by rw [e_]; rfl)) _; refine bk ?_; exact BK123.out⟩, ⟨by repeat (first | (with_reducible first | exact HB.out | apply below_alloc | apply pw_below_drewN | apply below_drew1 | refine below_set ?_ GB35.out | refine below_set ?_ GE123.out | refine below_set ?_ GE129.out) | exact HB.out)⟩⟩
             ·rw [if_neg c34] at H
              exact absurd H (by simp)
            ·rw [if_neg c33] at H
             exact absurd H (by simp)
          ·replace c18 := Bool.eq_false_iff.mpr c18
           subst c18
           rw [if_neg (show ¬ (false = true) by decide)] at H
           by_cases c48 : x3_1.length < 5864062014805
           ·rw [if_pos c48] at H
            have LMc48 := Aside0.mk c48
            clear c48
            obtain ⟨y139, hy139⟩ : ∃ y_ : List (S50), y_ = (x3_1 ++ [(⟨0, (rd_T98 l0_2 x4_1).f0, (rd_T98 l0_2 x4_1).f1⟩ : S50)]) := ⟨_, rfl⟩
            replace H : (spec_GapsOf.l0 k1 y139 (wrap64 (x4_1 + 1)) a0_0 l0_1 l0_2) = some r := by first | (rw [hy139]; with_reducible exact H) | (have H2_ := (Option.bind_some _ _).symm.trans H; rw [hy139]; with_reducible exact H2_) | (have H2_ := (Option.bind_some _ _).symm.trans H; with_reducible exact H2_) | with_reducible exact H | (rw [hy139]; exact H) | exact H
            have Ny139 := Aside0.mk hy139
            clear hy139
            have H' := Aside0.mk H
            clear H
            obtain ⟨hcz49_0, hcz49_1, hcz49_2, hfz49_0, hfz49_1, hfz49_2⟩ := cz3 BK123.out
            have p128 : 0 ≤ (x4_1 : Int) := of_decide_eq_true asm
            have q128 : x4_1 < (l0_2.length : Int) := of_decide_eq_true asm
            obtain ⟨ad128, e128, hx128_0, hx128_1, hx128_2, hx128_3⟩ := at_T98 HR0_2.out x4_1 p128 q128
            cases e128
            replace hx128_0 := (HB.out.cell (World.block_lt_of_cell? w _ hx128_0)).trans hx128_0
            replace hx128_1 := (HB.out.cell (World.block_lt_of_cell? w _ hx128_1)).trans hx128_1
            replace hx128_2 := (HB.out.cell (World.block_lt_of_cell? w _ hx128_2)).trans hx128_2
            replace hx128_3 := (HB.out.cell (World.block_lt_of_cell? w _ hx128_3)).trans hx128_3
            replace p128 := eq_true p128
            replace q128 := eq_true q128
            go_wp2_with (first | ((with_reducible refine gate_dst (N := 5) rfl ?_); refine bx (cs := #[.int .i64 0, .int .i64 0, .int .i64 0, .bool false]) (t := 98) fun gb129 hg w50 hbox hb => ?_; replace HO_3 := Aside0.mk (Kd.R_below (rk HO_3.out) hb); have BK129 := Aside0.mk (hbox); have GW129 := Aside0.mk (gs HB.out hg); have GE129 := Aside0.mk (gs HB.out hg); replace HB := Aside0.mk (below_step (bl HB.out) hb); have NB123_129 := Aside0.mk ((nl BK123.out hg)); have NB129_123 := Aside0.mk ((ng BK123.out hg)); replace BK123 := Aside0.mk (bb BK123.out hb); clear hb hbox hg; have hnb51 := NB129_123.out; have hnc51 := NB123_129.out; obtain ⟨hcz52_0, hcz52_1, hcz52_2, hcz52_3, hfz52_0, hfz52_1, hfz52_2, hfz52_3⟩ := cz4 BK129.out) | ((with_reducible refine gate_callee (f := 92) rfl ?_); refine goesL_ (some 24) rfl rfl Try.func92 (by kernel_rfl) rfl #[.agg #[.int .i64 ((rd_T98 l0_2 x4_1).f0), .int .i64 ((rd_T98 l0_2 x4_1).f1), .int .i64 ((rd_T98 l0_2 x4_1).f2), .bool ((rd_T98 l0_2 x4_1).f3)]] rfl mapd ?_; (with_reducible refine (spec_l02Open.calls ((rd_T98 l0_2 x4_1).f0) ((rd_T98 l0_2 x4_1).f1) ((rd_T98 l0_2 x4_1).f2) ((rd_T98 l0_2 x4_1).f3) true _ A11.out).mono ?_); rintro e w53 ⟨rfl, hb⟩; refine ⟨_, rfl, ?_⟩; replace HO_3 := Aside0.mk (Kd.R_below (by refine rk ?_; exact (Kd.R_mono (Kd.R_far (p := ⟨gb129, 3, none⟩) (Kd.R_far (p := ⟨gb129, 2, none⟩) (Kd.R_far (p := ⟨gb129, 1, none⟩) (Kd.R_far (p := ⟨gb129, 0, none⟩) (Kd.R_types HO_3.out BK129.out (by decide)) (fun _ hk => hk.2) (.int .i64 ((rd_T98 l0_2 x4_1).f0))) (fun _ hk => hk.2) (.int .i64 ((rd_T98 l0_2 x4_1).f1))) (fun _ hk => hk.2) (.int .i64 ((rd_T98 l0_2 x4_1).f2))) (fun _ hk => hk.2) (.bool ((rd_T98 l0_2 x4_1).f3))) (fun _ h_ => h_.1))) hb); replace BK123 := Aside0.mk (blk_below (g := gb123) (o := .cells #[.int .i64 a0_0, .slice A0_1 l0_1.length c0_1, .slice (some ad128) l0_2.length c0_2] 41 (0, 0)) (bf BK123.out) hb); replace BK129 := Aside0.mk (blk_below (g := gb129) (o := .cells #[.int .i64 ((rd_T98 l0_2 x4_1).f0), .int .i64 ((rd_T98 l0_2 x4_1).f1), .int .i64 ((rd_T98 l0_2 x4_1).f2), .bool ((rd_T98 l0_2 x4_1).f3)] 98 (0, 0)) (by refine bk ?_; refine blk_put (cs := #[.int .i64 ((rd_T98 l0_2 x4_1).f0), .int .i64 ((rd_T98 l0_2 x4_1).f1), .int .i64 ((rd_T98 l0_2 x4_1).f2), .bool false]) ?_ 3 _ rfl; refine bk ?_; refine blk_put (cs := #[.int .i64 ((rd_T98 l0_2 x4_1).f0), .int .i64 ((rd_T98 l0_2 x4_1).f1), .int .i64 0, .bool false]) ?_ 2 _ rfl; refine bk ?_; refine blk_put (cs := #[.int .i64 ((rd_T98 l0_2 x4_1).f0), .int .i64 0, .int .i64 0, .bool false]) ?_ 1 _ rfl; refine bk ?_; refine blk_put (cs := #[.int .i64 0, .int .i64 0, .int .i64 0, .bool false]) ?_ 0 _ rfl; refine bk ?_; exact BK129.out) hb); replace HB := Aside0.mk (below_step (bl HB.out) hb); (try clear hb); (try clear hb2); (try clear hk); (try clear hi); obtain ⟨hcz54_0, hcz54_1, hcz54_2, hfz54_0, hfz54_1, hfz54_2⟩ := cz3 BK123.out; have p131 : 0 ≤ ((ji14) : Int) := of_decide_eq_true asm; have q131 : (ji14) < (l0_2.length : Int) := of_decide_eq_true asm; obtain ⟨ad131, e131, hx131_0, hx131_1, hx131_2, hx131_3⟩ := at_T98 HR0_2.out (ji14) p131 q131; obtain rfl : ad128 = ad131 := (by injection e131); replace hx131_0 := (HB.out.cell (World.block_lt_of_cell? w _ hx131_0)).trans hx131_0; replace hx131_1 := (HB.out.cell (World.block_lt_of_cell? w _ hx131_1)).trans hx131_1; replace hx131_2 := (HB.out.cell (World.block_lt_of_cell? w _ hx131_2)).trans hx131_2; replace hx131_3 := (HB.out.cell (World.block_lt_of_cell? w _ hx131_3)).trans hx131_3; replace p131 := eq_true p131; replace q131 := eq_true q131) | (go_at_call 92; (with_reducible refine (spec_l02Open.calls ((rd_T98 l0_2 (ji14)).f0) ((rd_T98 l0_2 (ji14)).f1) ((rd_T98 l0_2 (ji14)).f2) ((rd_T98 l0_2 (ji14)).f3) false _ A17.out).mono ?_); rintro e w55 ⟨rfl, hb⟩; replace HO_3 := Aside0.mk (Kd.R_below (rk HO_3.out) hb); replace BK123 := Aside0.mk (bb BK123.out hb); replace BK129 := Aside0.mk (bb BK129.out hb); replace HB := Aside0.mk (below_step (bl HB.out) hb); (try clear hb); (try clear hb2); (try clear hk); (try clear hi); obtain ⟨hcz56_0, hcz56_1, hcz56_2, hcz56_3, hfz56_0, hfz56_1, hfz56_2, hfz56_3⟩ := cz4 BK129.out) | ((with_reducible refine gate_builtin (b := .append) (xs := #[.tmp 61, .tmp 67]) rfl ?_); at_builtin; refine Kd.R_append k50 (w0 := w) w.heap.size rfl (.tmp 61) (.tmp 67) 24 50 (.agg #[(.int .i64 0), (.int .i64 0), (.int .i64 0)]) 24 rfl Try.underlying24 info50 rfl (by decide) (by omega) u3 x3_1 (⟨0, (rd_T98 l0_2 x4_1).f0, (rd_T98 l0_2 x4_1).f1⟩ : S50) [.int .i64 0, .int .i64 ((rd_T98 l0_2 x4_1).f0), .int .i64 ((rd_T98 l0_2 x4_1).f1)] (fun _ => True) (fun _ => False) rfl rfl ?aP (fun _ hk => hk.elim) ?aF ?aO ?aB ?aS ?aL ?_; (case aP => exact k50_mkM _ _ _ (⟨0, (rd_T98 l0_2 x4_1).f0, (rd_T98 l0_2 x4_1).f1⟩ : S50)); (case aB => exact (bl HB.out)); (case aF => exact (fun _ _ => trivial)); (case aO => exact (rk HO_3.out)); (case aS => exact (below_size (bl HB.out))); (case aL => have := LMc48.out; omega); intro v140 w57 ho hb hg hat; rw [← Ny139.out] at ho; replace BK123 := Aside0.mk (blk_grown (g := gb123) (o := .cells #[.int .i64 a0_0, .slice A0_1 l0_1.length c0_1, .slice (some ad128) l0_2.length c0_2] 41 (0, 0)) (bk BK123.out) hg (Kd.R_ne HO_3.out BK123.out (by decide))); replace BK129 := Aside0.mk (blk_grown (g := gb129) (o := .cells #[.int .i64 ((rd_T98 l0_2 x4_1).f0), .int .i64 ((rd_T98 l0_2 x4_1).f1), .int .i64 ((rd_T98 l0_2 x4_1).f2), .bool ((rd_T98 l0_2 x4_1).f3)] 98 (0, 0)) (bk BK129.out) hg (Kd.R_ne HO_3.out BK129.out (by decide))); replace HB := Aside0.mk (hb); have HO141 := Aside0.mk (ho); clear HO_3; clear ho hb hg hat))
            go_roundg k1
            case measure => have := HK1.out; omega
            case rel => exact ⟨(y139), (wrap64 (x4_1 + 1)), (by first | rfl | (simp; done) | (simp [*]; done)), H', ⟨by have := HK1.out; omega⟩, ⟨rk HO141.out⟩, ⟨by refine bk ?_; exact BK123.out⟩, ⟨bl HB.out⟩⟩
           ·rw [if_neg c48] at H
            exact absurd H (by simp)
         ·rw [if_neg c16] at H
          exact absurd H (by simp)
        ·rw [if_neg c15] at H
         exact absurd H (by simp)
       ·rw [if_neg c13] at H
        have c13b0 : decide (0 < x4_1) = false := decide_eq_false c13
        clear c13
        by_cases c58 : x3_1.length < 5864062014805
        ·rw [if_pos c58] at H
         have LMc58 := Aside0.mk c58
         clear c58
         obtain ⟨y142, hy142⟩ : ∃ y_ : List (S50), y_ = (x3_1 ++ [(⟨0, (rd_T98 l0_2 x4_1).f0, (rd_T98 l0_2 x4_1).f1⟩ : S50)]) := ⟨_, rfl⟩
         replace H : (spec_GapsOf.l0 k1 y142 (wrap64 (x4_1 + 1)) a0_0 l0_1 l0_2) = some r := by first | (rw [hy142]; with_reducible exact H) | (have H2_ := (Option.bind_some _ _).symm.trans H; rw [hy142]; with_reducible exact H2_) | (have H2_ := (Option.bind_some _ _).symm.trans H; with_reducible exact H2_) | with_reducible exact H | (rw [hy142]; exact H) | exact H
         have Ny142 := Aside0.mk hy142
         clear hy142
         have H' := Aside0.mk H
         clear H
         obtain ⟨hcz59_0, hcz59_1, hcz59_2, hfz59_0, hfz59_1, hfz59_2⟩ := cz3 BK123.out
         have p128 : 0 ≤ (x4_1 : Int) := of_decide_eq_true asm
         have q128 : x4_1 < (l0_2.length : Int) := of_decide_eq_true asm
         obtain ⟨ad128, e128, hx128_0, hx128_1, hx128_2, hx128_3⟩ := at_T98 HR0_2.out x4_1 p128 q128
         cases e128
         replace hx128_0 := (HB.out.cell (World.block_lt_of_cell? w _ hx128_0)).trans hx128_0
         replace hx128_1 := (HB.out.cell (World.block_lt_of_cell? w _ hx128_1)).trans hx128_1
         replace hx128_2 := (HB.out.cell (World.block_lt_of_cell? w _ hx128_2)).trans hx128_2
         replace hx128_3 := (HB.out.cell (World.block_lt_of_cell? w _ hx128_3)).trans hx128_3
         replace p128 := eq_true p128
         replace q128 := eq_true q128
         go_wp2_with (first | ((with_reducible refine gate_dst (N := 5) rfl ?_); refine bx (cs := #[.int .i64 0, .int .i64 0, .int .i64 0, .bool false]) (t := 98) fun gb129 hg w60 hbox hb => ?_; replace HO_3 := Aside0.mk (Kd.R_below (rk HO_3.out) hb); have BK129 := Aside0.mk (hbox); have GW129 := Aside0.mk (gs HB.out hg); have GE129 := Aside0.mk (gs HB.out hg); replace HB := Aside0.mk (below_step (bl HB.out) hb); have NB123_129 := Aside0.mk ((nl BK123.out hg)); have NB129_123 := Aside0.mk ((ng BK123.out hg)); replace BK123 := Aside0.mk (bb BK123.out hb); clear hb hbox hg; have hnb61 := NB129_123.out; have hnc61 := NB123_129.out; obtain ⟨hcz62_0, hcz62_1, hcz62_2, hcz62_3, hfz62_0, hfz62_1, hfz62_2, hfz62_3⟩ := cz4 BK129.out) | ((with_reducible refine gate_callee (f := 92) rfl ?_); refine goesL_ (some 24) rfl rfl Try.func92 (by kernel_rfl) rfl #[.agg #[.int .i64 ((rd_T98 l0_2 x4_1).f0), .int .i64 ((rd_T98 l0_2 x4_1).f1), .int .i64 ((rd_T98 l0_2 x4_1).f2), .bool ((rd_T98 l0_2 x4_1).f3)]] rfl mapd ?_; (with_reducible refine (spec_l02Open.calls ((rd_T98 l0_2 x4_1).f0) ((rd_T98 l0_2 x4_1).f1) ((rd_T98 l0_2 x4_1).f2) ((rd_T98 l0_2 x4_1).f3) true _ A11.out).mono ?_); rintro e w63 ⟨rfl, hb⟩; refine ⟨_, rfl, ?_⟩; replace HO_3 := Aside0.mk (Kd.R_below (by refine rk ?_; exact (Kd.R_mono (Kd.R_far (p := ⟨gb129, 3, none⟩) (Kd.R_far (p := ⟨gb129, 2, none⟩) (Kd.R_far (p := ⟨gb129, 1, none⟩) (Kd.R_far (p := ⟨gb129, 0, none⟩) (Kd.R_types HO_3.out BK129.out (by decide)) (fun _ hk => hk.2) (.int .i64 ((rd_T98 l0_2 x4_1).f0))) (fun _ hk => hk.2) (.int .i64 ((rd_T98 l0_2 x4_1).f1))) (fun _ hk => hk.2) (.int .i64 ((rd_T98 l0_2 x4_1).f2))) (fun _ hk => hk.2) (.bool ((rd_T98 l0_2 x4_1).f3))) (fun _ h_ => h_.1))) hb); replace BK123 := Aside0.mk (blk_below (g := gb123) (o := .cells #[.int .i64 a0_0, .slice A0_1 l0_1.length c0_1, .slice (some ad128) l0_2.length c0_2] 41 (0, 0)) (bf BK123.out) hb); replace BK129 := Aside0.mk (blk_below (g := gb129) (o := .cells #[.int .i64 ((rd_T98 l0_2 x4_1).f0), .int .i64 ((rd_T98 l0_2 x4_1).f1), .int .i64 ((rd_T98 l0_2 x4_1).f2), .bool ((rd_T98 l0_2 x4_1).f3)] 98 (0, 0)) (by refine bk ?_; refine blk_put (cs := #[.int .i64 ((rd_T98 l0_2 x4_1).f0), .int .i64 ((rd_T98 l0_2 x4_1).f1), .int .i64 ((rd_T98 l0_2 x4_1).f2), .bool false]) ?_ 3 _ rfl; refine bk ?_; refine blk_put (cs := #[.int .i64 ((rd_T98 l0_2 x4_1).f0), .int .i64 ((rd_T98 l0_2 x4_1).f1), .int .i64 0, .bool false]) ?_ 2 _ rfl; refine bk ?_; refine blk_put (cs := #[.int .i64 ((rd_T98 l0_2 x4_1).f0), .int .i64 0, .int .i64 0, .bool false]) ?_ 1 _ rfl; refine bk ?_; refine blk_put (cs := #[.int .i64 0, .int .i64 0, .int .i64 0, .bool false]) ?_ 0 _ rfl; refine bk ?_; exact BK129.out) hb); replace HB := Aside0.mk (below_step (bl HB.out) hb); (try clear hb); (try clear hb2); (try clear hk); (try clear hi); obtain ⟨hcz64_0, hcz64_1, hcz64_2, hcz64_3, hfz64_0, hfz64_1, hfz64_2, hfz64_3⟩ := cz4 BK129.out) | ((with_reducible refine gate_builtin (b := .append) (xs := #[.tmp 61, .tmp 67]) rfl ?_); at_builtin; refine Kd.R_append k50 (w0 := w) w.heap.size rfl (.tmp 61) (.tmp 67) 24 50 (.agg #[(.int .i64 0), (.int .i64 0), (.int .i64 0)]) 24 rfl Try.underlying24 info50 rfl (by decide) (by omega) u3 x3_1 (⟨0, (rd_T98 l0_2 x4_1).f0, (rd_T98 l0_2 x4_1).f1⟩ : S50) [.int .i64 0, .int .i64 ((rd_T98 l0_2 x4_1).f0), .int .i64 ((rd_T98 l0_2 x4_1).f1)] (fun _ => True) (fun _ => False) rfl rfl ?aP (fun _ hk => hk.elim) ?aF ?aO ?aB ?aS ?aL ?_; (case aP => exact k50_mkM _ _ _ (⟨0, (rd_T98 l0_2 x4_1).f0, (rd_T98 l0_2 x4_1).f1⟩ : S50)); (case aB => exact (bl HB.out)); (case aF => exact (fun _ _ => trivial)); (case aO => exact (rk HO_3.out)); (case aS => exact (below_size (bl HB.out))); (case aL => have := LMc58.out; omega); intro v143 w65 ho hb hg hat; rw [← Ny142.out] at ho; replace BK123 := Aside0.mk (blk_grown (g := gb123) (o := .cells #[.int .i64 a0_0, .slice A0_1 l0_1.length c0_1, .slice (some ad128) l0_2.length c0_2] 41 (0, 0)) (bk BK123.out) hg (Kd.R_ne HO_3.out BK123.out (by decide))); replace BK129 := Aside0.mk (blk_grown (g := gb129) (o := .cells #[.int .i64 ((rd_T98 l0_2 x4_1).f0), .int .i64 ((rd_T98 l0_2 x4_1).f1), .int .i64 ((rd_T98 l0_2 x4_1).f2), .bool ((rd_T98 l0_2 x4_1).f3)] 98 (0, 0)) (bk BK129.out) hg (Kd.R_ne HO_3.out BK129.out (by decide))); replace HB := Aside0.mk (hb); have HO144 := Aside0.mk (ho); clear HO_3; clear ho hb hg hat))
         go_roundg k1
         case measure => have := HK1.out; omega
         case rel => exact ⟨(y142), (wrap64 (x4_1 + 1)), (by first | rfl | (simp; done) | (simp [*]; done)), H', ⟨by have := HK1.out; omega⟩, ⟨rk HO144.out⟩, ⟨by refine bk ?_; exact BK123.out⟩, ⟨bl HB.out⟩⟩
        ·rw [if_neg c58] at H
         exact absurd H (by simp)
      ·replace c12 := Bool.eq_false_iff.mpr c12
       subst c12
       rw [if_neg (show ¬ (false = true) by decide)] at H
       have H' := Aside0.mk H
       clear H
       obtain ⟨hcz66_0, hcz66_1, hcz66_2, hfz66_0, hfz66_1, hfz66_2⟩ := cz3 BK123.out
       have p128 : 0 ≤ (x4_1 : Int) := of_decide_eq_true asm
       have q128 : x4_1 < (l0_2.length : Int) := of_decide_eq_true asm
       obtain ⟨ad128, e128, hx128_0, hx128_1, hx128_2, hx128_3⟩ := at_T98 HR0_2.out x4_1 p128 q128
       cases e128
       replace hx128_0 := (HB.out.cell (World.block_lt_of_cell? w _ hx128_0)).trans hx128_0
       replace hx128_1 := (HB.out.cell (World.block_lt_of_cell? w _ hx128_1)).trans hx128_1
       replace hx128_2 := (HB.out.cell (World.block_lt_of_cell? w _ hx128_2)).trans hx128_2
       replace hx128_3 := (HB.out.cell (World.block_lt_of_cell? w _ hx128_3)).trans hx128_3
       replace p128 := eq_true p128
       replace q128 := eq_true q128
       go_wp2_with (first | ((with_reducible refine gate_dst (N := 5) rfl ?_); refine bx (cs := #[.int .i64 0, .int .i64 0, .int .i64 0, .bool false]) (t := 98) fun gb129 hg w67 hbox hb => ?_; replace HO_3 := Aside0.mk (Kd.R_below (rk HO_3.out) hb); have BK129 := Aside0.mk (hbox); have GW129 := Aside0.mk (gs HB.out hg); have GE129 := Aside0.mk (gs HB.out hg); replace HB := Aside0.mk (below_step (bl HB.out) hb); have NB123_129 := Aside0.mk ((nl BK123.out hg)); have NB129_123 := Aside0.mk ((ng BK123.out hg)); replace BK123 := Aside0.mk (bb BK123.out hb); clear hb hbox hg; have hnb68 := NB129_123.out; have hnc68 := NB123_129.out; obtain ⟨hcz69_0, hcz69_1, hcz69_2, hcz69_3, hfz69_0, hfz69_1, hfz69_2, hfz69_3⟩ := cz4 BK129.out) | ((with_reducible refine gate_callee (f := 92) rfl ?_); refine goesL_ (some 24) rfl rfl Try.func92 (by kernel_rfl) rfl #[.agg #[.int .i64 ((rd_T98 l0_2 x4_1).f0), .int .i64 ((rd_T98 l0_2 x4_1).f1), .int .i64 ((rd_T98 l0_2 x4_1).f2), .bool ((rd_T98 l0_2 x4_1).f3)]] rfl mapd ?_; (with_reducible refine (spec_l02Open.calls ((rd_T98 l0_2 x4_1).f0) ((rd_T98 l0_2 x4_1).f1) ((rd_T98 l0_2 x4_1).f2) ((rd_T98 l0_2 x4_1).f3) false _ A11.out).mono ?_); rintro e w70 ⟨rfl, hb⟩; refine ⟨_, rfl, ?_⟩; replace HO_3 := Aside0.mk (Kd.R_below (by refine rk ?_; exact (Kd.R_mono (Kd.R_far (p := ⟨gb129, 3, none⟩) (Kd.R_far (p := ⟨gb129, 2, none⟩) (Kd.R_far (p := ⟨gb129, 1, none⟩) (Kd.R_far (p := ⟨gb129, 0, none⟩) (Kd.R_types HO_3.out BK129.out (by decide)) (fun _ hk => hk.2) (.int .i64 ((rd_T98 l0_2 x4_1).f0))) (fun _ hk => hk.2) (.int .i64 ((rd_T98 l0_2 x4_1).f1))) (fun _ hk => hk.2) (.int .i64 ((rd_T98 l0_2 x4_1).f2))) (fun _ hk => hk.2) (.bool ((rd_T98 l0_2 x4_1).f3))) (fun _ h_ => h_.1))) hb); replace BK123 := Aside0.mk (blk_below (g := gb123) (o := .cells #[.int .i64 a0_0, .slice A0_1 l0_1.length c0_1, .slice (some ad128) l0_2.length c0_2] 41 (0, 0)) (bf BK123.out) hb); replace BK129 := Aside0.mk (blk_below (g := gb129) (o := .cells #[.int .i64 ((rd_T98 l0_2 x4_1).f0), .int .i64 ((rd_T98 l0_2 x4_1).f1), .int .i64 ((rd_T98 l0_2 x4_1).f2), .bool ((rd_T98 l0_2 x4_1).f3)] 98 (0, 0)) (by refine bk ?_; refine blk_put (cs := #[.int .i64 ((rd_T98 l0_2 x4_1).f0), .int .i64 ((rd_T98 l0_2 x4_1).f1), .int .i64 ((rd_T98 l0_2 x4_1).f2), .bool false]) ?_ 3 _ rfl; refine bk ?_; refine blk_put (cs := #[.int .i64 ((rd_T98 l0_2 x4_1).f0), .int .i64 ((rd_T98 l0_2 x4_1).f1), .int .i64 0, .bool false]) ?_ 2 _ rfl; refine bk ?_; refine blk_put (cs := #[.int .i64 ((rd_T98 l0_2 x4_1).f0), .int .i64 0, .int .i64 0, .bool false]) ?_ 1 _ rfl; refine bk ?_; refine blk_put (cs := #[.int .i64 0, .int .i64 0, .int .i64 0, .bool false]) ?_ 0 _ rfl; refine bk ?_; exact BK129.out) hb); replace HB := Aside0.mk (below_step (bl HB.out) hb); (try clear hb); (try clear hb2); (try clear hk); (try clear hi)))
       go_roundg k1
       case measure => have := HK1.out; omega
       case rel => exact ⟨(x3_1), (wrap64 (x4_1 + 1)), (by first | rfl | (simp; done) | (simp [*]; done)), H', ⟨by have := HK1.out; omega⟩, ⟨rk HO_3.out⟩, ⟨by refine bk ?_; exact BK123.out⟩, ⟨bl HB.out⟩⟩
     ·rw [if_neg c10] at H
      exact absurd H (by simp)
    ·rw [if_neg c9] at H
     have c9b0 : decide (x4_1 < (l0_2.length : Int)) = false := decide_eq_false c9
     clear c9
     obtain rfl := Option.some.inj H
     obtain ⟨hcz71_0, hcz71_1, hcz71_2, hfz71_0, hfz71_1, hfz71_2⟩ := cz3 BK123.out
     go_wp2
     go_ret
     exact ⟨_, by first | rfl | (simp [errW_none, errW_some] <;> rfl) | (simp [*, errW_none, errW_some] <;> rfl), rk HO_3.out, bl HB.out⟩
 ·replace c3 := Bool.eq_false_iff.mpr c3
  subst c3
  rw [if_neg (show ¬ (false = true) by decide)] at H
  obtain rfl := Option.some.inj H
  go_enter Try.func36, Try.ntmps36
  go_wp2_with (first | ((with_reducible refine gate_dst (N := 1) rfl ?_); refine bx (cs := #[.int .i64 a0_0, .slice A0_1 l0_1.length c0_1, .slice A0_2 l0_2.length c0_2]) (t := 41) fun gb123 hg w72 hbox hb => ?_; have BK123 := Aside0.mk (hbox); have GW123 := Aside0.mk (gs HB.out hg); have GE123 := Aside0.mk (gs HB.out hg); replace HB := Aside0.mk (below_step (bl HB.out) hb); clear hb hbox hg) | ((with_reducible refine gate_dst (N := 6) rfl ?_); refine Kd.R_lit k50 _ 50 ?hg (N := 6) ?hd (xs := ([] : List (S50))) (inner := []) (ok := fun _ => True) (okp := fun _ => True) ?hr ?hp (fun _ hk => hk) trivial (Below.refl _ _) (Nat.le_refl _) (by simp) ?_; (case hd => rfl); (case hg => rfl); (case hr => first | (go_simp; done) | (go_simp; rfl)); (case hp => exact (Reps.none _ _)); intro v125 w73 ho74 hb hg_ hnew_; clear hg_ hnew_; (first | rw [← Ny124.out] at ho74 | (simp only [Int.reduceToNat] at ho74; rw [← Ny124.out] at ho74)); have HO126 := Aside0.mk (Kd.R_lower ho74 (below_size (bl HB.out))); replace BK123 := Aside0.mk (bb BK123.out hb); replace HB := Aside0.mk (below_step (bl HB.out) hb); clear hb ho74; obtain ⟨hcz75_0, hcz75_1, hcz75_2, hfz75_0, hfz75_1, hfz75_2⟩ := cz3 BK123.out) | ((with_reducible refine gate_callee (f := 91) rfl ?_); refine goesL_ (some 8) rfl rfl Try.func91 (by kernel_rfl) rfl #[.agg #[.int .i64 a0_0, .slice A0_1 l0_1.length c0_1, .slice A0_2 l0_2.length c0_2]] rfl mapd ?_; (with_reducible refine (spec_ColumnOk.calls k a0_0 _ _ l0_1 _ _ l0_2 false _ ?side1 ?side2 ?side3 ?side4 A2.out).mono ?_); (case side1 => exact cb (Kd.C_below HR0_1.out HB.out)); (case side2 => exact HC0_1.out); (case side3 => exact cb (Kd.C_below HR0_2.out HB.out)); (case side4 => exact HC0_2.out); rintro e w76 ⟨rfl, hb⟩; refine ⟨_, rfl, ?_⟩; replace HO126 := Aside0.mk (Kd.R_below (rk HO126.out) hb); replace BK123 := Aside0.mk (bb BK123.out hb); replace HB := Aside0.mk (below_step (bl HB.out) hb); (try clear hb); (try clear hb2); (try clear hk); (try clear hi)))
  go_ret
  exact ⟨_, by first | rfl | (simp [errW_none, errW_some] <;> rfl) | (simp [*, errW_none, errW_some] <;> rfl), rk HO126.out, bl HB.out⟩
end Go.Proofs.Ytbpjidekjogfeaa.A

namespace Go.Proofs.Ytbpjidekjogfeaa.A
open Go.RowKit Go.Proofs.YtbpjidekjogfeaaW.PrintWords Go.Proofs.YtbpjidekjogfeaaW.PrintLast Go.Proofs.YtbpjidekjogfeaaW.PrintMore
attribute [local go_sem] max2_int min2_int max_two min_two max_three min_three max_four min_four   
set_option linter.unusedVariables false
set_option linter.unusedSimpArgs false
def spec_l02Box.l0 : Nat → Int → Int → Int → List Int → List (S98) → Option (Int)
 | 0, _, _, _, _, _ => none
 | k + 1, x1, x5, x146000, x146001, x146002 => if x5 < (x146002.length : Int) then (if 0 ≤ x5 then (if ((rd_T98 x146002 x5).f2) = x1 then (if x1 > 0 then (some x5) else (spec_l02Box.l0 k x1 (wrap64 (x5 + 1)) x146000 x146001 x146002)) else (spec_l02Box.l0 k x1 (wrap64 (x5 + 1)) x146000 x146001 x146002)) else (none)) else (some (-1))
def spec_l02Box.f (k : Nat) (a0_0 : Int) (l0_1 : List Int) (l0_2 : List (S98)) (a1 : Int) : Option (Int) := spec_l02Box.l0 k a1 0 a0_0 l0_1 l0_2
set_option maxHeartbeats 8000000 in
set_option maxRecDepth 100000 in
theorem spec_l02Box.calls (k : Nat) (a0_0 : Int) (A0_1 : Option Addr) (c0_1 : Nat) (l0_1 : List Int) (A0_2 : Option Addr) (c0_2 : Nat) (l0_2 : List (S98)) (a1 : Int) (r : Int) (w : World) (hr0_1 : Kd.C (Kd.int .i64) w A0_1 l0_1.length l0_1) (hc0_1 : l0_1.length ≤ c0_1) (hr0_2 : Kd.C k98 w A0_2 l0_2.length l0_2) (hc0_2 : l0_2.length ≤ c0_2) (h : spec_l02Box.f k a0_0 l0_1 l0_2 a1 = some r) :
  Calls Try.prog 85 #[.agg #[.int .i64 a0_0, .slice A0_1 l0_1.length c0_1, .slice A0_2 l0_2.length c0_2], .int .i64 a1] w fun e w' => e = .returned (.int .i64 r) ∧ Below w.heap.size w w' := by
 have hu41 := Try.underlying41
 have HR0_1 := Aside0.mk hr0_1
 have HC0_1 := Aside0.mk hc0_1
 clear hr0_1 hc0_1
 have HR0_2 := Aside0.mk hr0_2
 have HC0_2 := Aside0.mk hc0_2
 clear hr0_2 hc0_2
 have HB := Aside0.mk (Below.refl w.heap.size w)
 have H : (spec_l02Box.l0 k a1 0 a0_0 l0_1 l0_2) = some r := h
 clear h
 have H' := Aside0.mk H
 clear H
 go_enter Try.func85, Try.ntmps85
 go_wp2_with (first | ((with_reducible refine gate_dst (N := 2) rfl ?_); refine bx (cs := #[.int .i64 a0_0, .slice A0_1 l0_1.length c0_1, .slice A0_2 l0_2.length c0_2]) (t := 41) fun gb145 hg w3 hbox hb => ?_; have BK145 := Aside0.mk (hbox); have GW145 := Aside0.mk (gs HB.out hg); have GE145 := Aside0.mk (gs HB.out hg); replace HB := Aside0.mk (below_step (bl HB.out) hb); clear hb hbox hg))
 go_loopg [5] k (fun kq v5 w' => ∃ (x5_1 : Int), v5 = .int .i64 x5_1 ∧ Aside0 (spec_l02Box.l0 kq a1 x5_1 a0_0 l0_1 l0_2 = some r) ∧ Aside0 (kq ≤ k) ∧ Aside0 (w'.heap[gb145]? = some (.cells #[.int .i64 a0_0, (.slice A0_1 l0_1.length c0_1), (.slice A0_2 l0_2.length c0_2)] 41 (0, 0))) ∧ Aside0 (Below w.heap.size w w'))
 case atStart => exact ⟨(0), (by first | rfl | (simp; done) | (simp [*]; done)), H', ⟨Nat.le_refl _⟩, ⟨by refine bk ?_; exact BK145.out⟩, ⟨bl HB.out⟩⟩
 case round =>
  clear H'
  try clear p2
  obtain ⟨x5_1, rfl, HA, HK1, BK145, HB⟩ := hrel
  cases gk with
  | zero => exact absurd HA.out (by simp [spec_l02Box.l0])
  | succ k1 =>
   have H := HA.out
   clear HA
   simp only [spec_l02Box.l0] at H
   by_cases c4 : x5_1 < (l0_2.length : Int)
   ·rw [if_pos c4] at H
    have c4b0 : decide (x5_1 < (l0_2.length : Int)) = true := decide_eq_true c4
    clear c4
    by_cases c5 : 0 ≤ x5_1
    ·rw [if_pos c5] at H
     have c5b0 : decide (0 ≤ x5_1) = true := decide_eq_true c5
     clear c5
     by_cases c6 : ((rd_T98 l0_2 x5_1).f2) = a1
     ·rw [if_pos c6] at H
      have c6b0 : (((rd_T98 l0_2 x5_1).f2) == a1) = true := beq_iff_eq.mpr c6
      have c6b1 : (((rd_T98 l0_2 x5_1).f2) != a1) = false := bne_eq_false_iff_eq.mpr c6
      clear c6
      by_cases c7 : a1 > 0
      ·rw [if_pos c7] at H
       have c7b0 : decide (0 < a1) = true := decide_eq_true c7
       clear c7
       obtain rfl := Option.some.inj H
       obtain ⟨hcz8_0, hcz8_1, hcz8_2, hfz8_0, hfz8_1, hfz8_2⟩ := cz3 BK145.out
       have p146 : 0 ≤ (x5_1 : Int) := of_decide_eq_true asm
       have q146 : x5_1 < (l0_2.length : Int) := of_decide_eq_true asm
       obtain ⟨ad146, e146, hx146_0, hx146_1, hx146_2, hx146_3⟩ := at_T98 HR0_2.out x5_1 p146 q146
       cases e146
       replace hx146_0 := (HB.out.cell (World.block_lt_of_cell? w _ hx146_0)).trans hx146_0
       replace hx146_1 := (HB.out.cell (World.block_lt_of_cell? w _ hx146_1)).trans hx146_1
       replace hx146_2 := (HB.out.cell (World.block_lt_of_cell? w _ hx146_2)).trans hx146_2
       replace hx146_3 := (HB.out.cell (World.block_lt_of_cell? w _ hx146_3)).trans hx146_3
       replace p146 := eq_true p146
       replace q146 := eq_true q146
       go_wp2
       go_ret
       exact ⟨by first | rfl | (simp [errW_none, errW_some] <;> rfl) | (simp [*, errW_none, errW_some] <;> rfl), bl HB.out⟩
      ·rw [if_neg c7] at H
       have c7b0 : decide (0 < a1) = false := decide_eq_false c7
       clear c7
       have H' := Aside0.mk H
       clear H
       obtain ⟨hcz9_0, hcz9_1, hcz9_2, hfz9_0, hfz9_1, hfz9_2⟩ := cz3 BK145.out
       have p146 : 0 ≤ (x5_1 : Int) := of_decide_eq_true asm
       have q146 : x5_1 < (l0_2.length : Int) := of_decide_eq_true asm
       obtain ⟨ad146, e146, hx146_0, hx146_1, hx146_2, hx146_3⟩ := at_T98 HR0_2.out x5_1 p146 q146
       cases e146
       replace hx146_0 := (HB.out.cell (World.block_lt_of_cell? w _ hx146_0)).trans hx146_0
       replace hx146_1 := (HB.out.cell (World.block_lt_of_cell? w _ hx146_1)).trans hx146_1
       replace hx146_2 := (HB.out.cell (World.block_lt_of_cell? w _ hx146_2)).trans hx146_2
       replace hx146_3 := (HB.out.cell (World.block_lt_of_cell? w _ hx146_3)).trans hx146_3
       replace p146 := eq_true p146
       replace q146 := eq_true q146
       go_wp2
       go_roundg k1
       case measure => have := HK1.out; omega
       case rel => exact ⟨(wrap64 (x5_1 + 1)), (by first | rfl | (simp; done) | (simp [*]; done)), H', ⟨by have := HK1.out; omega⟩, ⟨by refine bk ?_; exact BK145.out⟩, ⟨bl HB.out⟩⟩
     ·rw [if_neg c6] at H
      have c6b0 : (((rd_T98 l0_2 x5_1).f2) == a1) = false := beq_eq_false_iff_ne.mpr c6
      have c6b1 : (((rd_T98 l0_2 x5_1).f2) != a1) = true := bne_iff_ne.mpr c6
      have H' := Aside0.mk H
      clear H
      obtain ⟨hcz10_0, hcz10_1, hcz10_2, hfz10_0, hfz10_1, hfz10_2⟩ := cz3 BK145.out
      have p146 : 0 ≤ (x5_1 : Int) := of_decide_eq_true asm
      have q146 : x5_1 < (l0_2.length : Int) := of_decide_eq_true asm
      obtain ⟨ad146, e146, hx146_0, hx146_1, hx146_2, hx146_3⟩ := at_T98 HR0_2.out x5_1 p146 q146
      cases e146
      replace hx146_0 := (HB.out.cell (World.block_lt_of_cell? w _ hx146_0)).trans hx146_0
      replace hx146_1 := (HB.out.cell (World.block_lt_of_cell? w _ hx146_1)).trans hx146_1
      replace hx146_2 := (HB.out.cell (World.block_lt_of_cell? w _ hx146_2)).trans hx146_2
      replace hx146_3 := (HB.out.cell (World.block_lt_of_cell? w _ hx146_3)).trans hx146_3
      replace p146 := eq_true p146
      replace q146 := eq_true q146
      go_wp2
      go_roundg k1
      case measure => have := HK1.out; omega
      case rel => exact ⟨(wrap64 (x5_1 + 1)), (by first | rfl | (simp; done) | (simp [*]; done)), H', ⟨by have := HK1.out; omega⟩, ⟨by refine bk ?_; exact BK145.out⟩, ⟨bl HB.out⟩⟩
    ·rw [if_neg c5] at H
     exact absurd H (by simp)
   ·rw [if_neg c4] at H
    have c4b0 : decide (x5_1 < (l0_2.length : Int)) = false := decide_eq_false c4
    clear c4
    obtain rfl := Option.some.inj H
    obtain ⟨hcz11_0, hcz11_1, hcz11_2, hfz11_0, hfz11_1, hfz11_2⟩ := cz3 BK145.out
    go_wp2
    go_ret
    exact ⟨by first | rfl | (simp [errW_none, errW_some] <;> rfl) | (simp [*, errW_none, errW_some] <;> rfl), bl HB.out⟩
end Go.Proofs.Ytbpjidekjogfeaa.A

namespace Go.Proofs.Ytbpjidekjogfeaa.A
open Go.RowKit Go.Proofs.YtbpjidekjogfeaaW.PrintWords Go.Proofs.YtbpjidekjogfeaaW.PrintLast Go.Proofs.YtbpjidekjogfeaaW.PrintMore
attribute [local go_sem] max2_int min2_int max_two min_two max_three min_three max_four min_four   
set_option linter.unusedVariables false
set_option linter.unusedSimpArgs false
mutual
def spec_BankOk.l0 : Nat → List (S41) → Int → Option (Bool)
 | 0, _, _ => none
 | k + 1, x0, x3 => if x3 < (x0.length : Int) then (if 0 ≤ x3 then ((spec_ColumnOk.f k ((rd_T41 x0 x3).f0) ((rd_T41 x0 x3).f1) ((rd_T41 x0 x3).f2)).bind fun t149 => (if t149 = true then (spec_BankOk.l1 k x0 x3 0) else (some false))) else (none)) else (some true)
def spec_BankOk.l1 : Nat → List (S41) → Int → Int → Option (Bool)
 | 0, _, _, _ => none
 | k + 1, x0, x3, x4 => if x4 < x3 then (spec_BankOk.l2 k x0 x3 x4 0) else (spec_BankOk.l0 k x0 (wrap64 (x3 + 1)))
def spec_BankOk.l2 : Nat → List (S41) → Int → Int → Int → Option (Bool)
 | 0, _, _, _, _ => none
 | k + 1, x0, x3, x4, x5 => if 0 ≤ x3 then (if x3 < (x0.length : Int) then (if x5 < (((rd_T41 x0 x3).f2).length : Int) then (if 0 ≤ x4 then (if x4 < (x0.length : Int) then (if 0 ≤ x5 then ((spec_l02Box.f k ((rd_T41 x0 x4).f0) ((rd_T41 x0 x4).f1) ((rd_T41 x0 x4).f2) ((rd_T98 ((rd_T41 x0 x3).f2) x5).f2)).bind fun t154 => (if t154 ≥ 0 then (some false) else (spec_BankOk.l2 k x0 x3 x4 (wrap64 (x5 + 1))))) else (none)) else (none)) else (none)) else (spec_BankOk.l1 k x0 x3 (wrap64 (x4 + 1)))) else (none)) else (none)
end
def spec_BankOk.f (k : Nat) (l0 : List (S41)) : Option (Bool) := (spec_l01In.f (l0.length : Int) 1 6).bind fun t147 => (if t147 = true then (spec_BankOk.l0 k l0 0) else (some false))
def spec_BankOk.T14 : Bool × List (List Nat × List Nat) := (true, [([], []), ([], []), ([0, 1], [0, 1]), ([2], [2]), ([], []), ([], []), ([4, 5], [4, 5]), ([6], [6]), ([7], [7]), ([], []), ([8, 9], [8, 9]), ([10], [10]), ([11], [11]), ([3, 12], [3, 12]), ([13], [13])])
def spec_BankOk.B14 : List Nat := [0, 0, 3, 7, 0, 0, 48, 112, 240, 0, 1008, 2032, 4080, 8191, 16383]
theorem spec_BankOk.tab14 : rtab .any (opsOf Try.f61 14) = spec_BankOk.T14 := by kernel_rfl
theorem spec_BankOk.bits14 : waitsOk spec_BankOk.T14.2 spec_BankOk.B14 = true := by kernel_rfl
set_option maxHeartbeats 8000000 in
set_option maxRecDepth 100000 in
theorem spec_BankOk.calls (k : Nat) (A0 : Option Addr) (c0 : Nat) (l0 : List (S41)) (r : Bool) (w : World) (hr0 : Kd.C k41 w A0 l0.length l0) (hc0 : l0.length ≤ c0) (h : spec_BankOk.f k l0 = some r) :
  Calls Try.prog 61 #[.slice A0 l0.length c0] w fun e w' => e = .returned (.bool r) ∧ Below w.heap.size w w' := by
 have hu41 := Try.underlying41
 have HR0 := Aside0.mk hr0
 have HC0 := Aside0.mk hc0
 clear hr0 hc0
 have HB := Aside0.mk (Below.refl w.heap.size w)
 have H : ((spec_l01In.f (l0.length : Int) 1 6).bind fun t147 => (if t147 = true then (spec_BankOk.l0 k l0 0) else (some false))) = some r := h
 clear h
 replace H := Option.bind_eq_some_iff.mp H
 obtain ⟨t147, A20, H⟩ := H
 try dsimp only at H
 have A2 := Aside0.mk A20
 clear A20
 by_cases c3 : t147 = true
 ·subst c3
  rw [if_pos rfl] at H
  have H' := Aside0.mk H
  clear H
  go_enter Try.func61, Try.ntmps61
  go_wp2_with (first | ((with_reducible refine gate_callee (f := 84) rfl ?_); refine goesL_ (some 8) rfl rfl Try.func84 (by kernel_rfl) rfl #[.int .i64 (l0.length : Int), .int .i64 1, .int .i64 6] rfl mapd ?_; (with_reducible refine (spec_l01In.calls (l0.length : Int) 1 6 true _ A2.out).mono ?_); rintro e w' ⟨rfl, ⟨nd, rfl⟩⟩; refine ⟨_, rfl, ?_⟩))
  go_loopg [3] k (fun kq v3 w' => ∃ (x3_1 : Int), v3 = .int .i64 x3_1 ∧ Aside0 (spec_BankOk.l0 kq l0 x3_1 = some r) ∧ Aside0 (kq ≤ k) ∧ Aside0 (Below w.heap.size w w'))
  case atStart => exact ⟨(0), (by first | rfl | (simp; done) | (simp [*]; done)), H', ⟨Nat.le_refl _⟩, ⟨bl HB.out⟩⟩
  case round =>
   clear H'
   try clear p2
   try clear c3
   obtain ⟨x3_1, rfl, HA, HK1, HB⟩ := hrel
   cases gk with
   | zero => exact absurd HA.out (by simp [spec_BankOk.l0])
   | succ k1 =>
    have H := HA.out
    clear HA
    simp only [spec_BankOk.l0] at H
    by_cases c4 : x3_1 < (l0.length : Int)
    ·rw [if_pos c4] at H
     have c4b0 : decide (x3_1 < (l0.length : Int)) = true := decide_eq_true c4
     clear c4
     by_cases c5 : 0 ≤ x3_1
     ·rw [if_pos c5] at H
      have c5b0 : decide (0 ≤ x3_1) = true := decide_eq_true c5
      clear c5
      replace H := Option.bind_eq_some_iff.mp H
      obtain ⟨t149, A60, H⟩ := H
      try dsimp only at H
      have A6 := Aside0.mk A60
      clear A60
      by_cases c7 : t149 = true
      ·subst c7
       rw [if_pos rfl] at H
       have H' := Aside0.mk H
       clear H
       have p148 : 0 ≤ (x3_1 : Int) := of_decide_eq_true asm
       have q148 : x3_1 < (l0.length : Int) := of_decide_eq_true asm
       obtain ⟨ad148, A148_1, c148_1, A148_2, c148_2, e148, hx148_0, hx148_1, hx148_2, hl148_1, hi148_1, hl148_2, hi148_2⟩ := at_T41 HR0.out x3_1 p148 q148
       cases e148
       replace hx148_0 := (HB.out.cell (World.block_lt_of_cell? w _ hx148_0)).trans hx148_0
       replace hx148_1 := (HB.out.cell (World.block_lt_of_cell? w _ hx148_1)).trans hx148_1
       replace hx148_2 := (HB.out.cell (World.block_lt_of_cell? w _ hx148_2)).trans hx148_2
       have HR148_1 := Aside0.mk hi148_1
       have HC148_1 := Aside0.mk hl148_1
       clear hi148_1 hl148_1
       have HR148_2 := Aside0.mk hi148_2
       have HC148_2 := Aside0.mk hl148_2
       clear hi148_2 hl148_2
       replace p148 := eq_true p148
       replace q148 := eq_true q148
       go_wp2_with (first | ((with_reducible refine gate_callee (f := 91) rfl ?_); refine goesL_ (some 20) rfl rfl Try.func91 (by kernel_rfl) rfl #[.agg #[.int .i64 ((rd_T41 l0 x3_1).f0), .slice A148_1 ((rd_T41 l0 x3_1).f1).length c148_1, .slice A148_2 ((rd_T41 l0 x3_1).f2).length c148_2]] rfl mapd ?_; (with_reducible refine (spec_ColumnOk.calls k1 ((rd_T41 l0 x3_1).f0) _ _ ((rd_T41 l0 x3_1).f1) _ _ ((rd_T41 l0 x3_1).f2) true _ ?side1 ?side2 ?side3 ?side4 A6.out).mono ?_); (case side1 => exact cb (Kd.C_below HR148_1.out HB.out)); (case side2 => exact HC148_1.out); (case side3 => exact cb (Kd.C_below HR148_2.out HB.out)); (case side4 => exact HC148_2.out); rintro e w8 ⟨rfl, hb⟩; refine ⟨_, rfl, ?_⟩; replace HB := Aside0.mk (below_step (bl HB.out) hb); (try clear hb); (try clear hb2); (try clear hk); (try clear hi)))
       go_loopg [4] k1 (fun kq v4 w' => ∃ (x4_2 : Int), v4 = .int .i64 x4_2 ∧ Aside0 (spec_BankOk.l1 kq l0 x3_1 x4_2 = some r) ∧ Aside0 (kq ≤ k1) ∧ Aside0 (Below w.heap.size w w'))
       case atStart => exact ⟨(0), (by first | rfl | (simp; done) | (simp [*]; done)), H', ⟨Nat.le_refl _⟩, ⟨bl HB.out⟩⟩
       case round =>
        clear H'
        try clear c1
        try clear p1
        try clear q1
        try clear hx1
        try clear p2
        try clear c3
        try clear c4
        try clear c4b0
        try clear c5
        try clear c5b0
        try clear c6
        try clear c7
        try clear c8
        try clear hx148_0
        try clear hx148_1
        try clear hx148_2
        try clear p148
        try clear p2
        try clear q148
        obtain ⟨x4_2, rfl, HA, HK2, HB⟩ := hrel
        cases gk with
        | zero => exact absurd HA.out (by simp [spec_BankOk.l1])
        | succ k2 =>
         have H := HA.out
         clear HA
         simp only [spec_BankOk.l1] at H
         by_cases c9 : x4_2 < x3_1
         ·rw [if_pos c9] at H
          have c9b0 : decide (x4_2 < x3_1) = true := decide_eq_true c9
          clear c9
          have H' := Aside0.mk H
          clear H
          go_wp2
          go_loopg [5] k2 (fun kq v5 w' => ∃ (x5_3 : Int), v5 = .int .i64 x5_3 ∧ Aside0 (spec_BankOk.l2 kq l0 x3_1 x4_2 x5_3 = some r) ∧ Aside0 (kq ≤ k2) ∧ Aside0 (Below w.heap.size w w'))
          case atStart => exact ⟨(0), (by first | rfl | (simp; done) | (simp [*]; done)), H', ⟨Nat.le_refl _⟩, ⟨bl HB.out⟩⟩
          case round =>
           clear H'
           try clear c1
           try clear p1
           try clear q1
           try clear hx1
           try clear p2
           try clear c3
           try clear c4
           try clear c4b0
           try clear c5
           try clear c5b0
           try clear c6
           try clear c7
           try clear c8
           try clear c9
           try clear c9b0
           try clear hx148_0
           try clear hx148_1
           try clear hx148_2
           try clear p1
           try clear p148
           try clear p2
           try clear q1
           try clear q148
           obtain ⟨x5_3, rfl, HA, HK3, HB⟩ := hrel
           cases gk with
           | zero => exact absurd HA.out (by simp [spec_BankOk.l2])
           | succ k3 =>
            have H := HA.out
            clear HA
            simp only [spec_BankOk.l2] at H
            by_cases c10 : 0 ≤ x3_1
            ·rw [if_pos c10] at H
             have c10b0 : decide (0 ≤ x3_1) = true := decide_eq_true c10
             clear c10
             by_cases c11 : x3_1 < (l0.length : Int)
             ·rw [if_pos c11] at H
              have c11b0 : decide (x3_1 < (l0.length : Int)) = true := decide_eq_true c11
              clear c11
              by_cases c12 : x5_3 < (((rd_T41 l0 x3_1).f2).length : Int)
              ·rw [if_pos c12] at H
               have c12b0 : decide (x5_3 < (((rd_T41 l0 x3_1).f2).length : Int)) = true := decide_eq_true c12
               clear c12
               by_cases c13 : 0 ≤ x4_2
               ·rw [if_pos c13] at H
                have c13b0 : decide (0 ≤ x4_2) = true := decide_eq_true c13
                clear c13
                by_cases c14 : x4_2 < (l0.length : Int)
                ·rw [if_pos c14] at H
                 have c14b0 : decide (x4_2 < (l0.length : Int)) = true := decide_eq_true c14
                 clear c14
                 by_cases c15 : 0 ≤ x5_3
                 ·rw [if_pos c15] at H
                  have c15b0 : decide (0 ≤ x5_3) = true := decide_eq_true c15
                  clear c15
                  replace H := Option.bind_eq_some_iff.mp H
                  obtain ⟨t154, A160, H⟩ := H
                  try dsimp only at H
                  have A16 := Aside0.mk A160
                  clear A160
                  by_cases c17 : t154 ≥ 0
                  ·rw [if_pos c17] at H
                   have c17b0 : decide (0 ≤ t154) = true := decide_eq_true c17
                   clear c17
                   obtain rfl := Option.some.inj H
                   have p150 : 0 ≤ (x3_1 : Int) := of_decide_eq_true asm
                   have q150 : x3_1 < (l0.length : Int) := of_decide_eq_true asm
                   obtain ⟨ad150, A150_1, c150_1, A150_2, c150_2, e150, hx150_0, hx150_1, hx150_2, hl150_1, hi150_1, hl150_2, hi150_2⟩ := at_T41 HR0.out x3_1 p150 q150
                   obtain rfl : ad148 = ad150 := (by injection e150)
                   replace hx150_0 := (HB.out.cell (World.block_lt_of_cell? w _ hx150_0)).trans hx150_0
                   replace hx150_1 := (HB.out.cell (World.block_lt_of_cell? w _ hx150_1)).trans hx150_1
                   replace hx150_2 := (HB.out.cell (World.block_lt_of_cell? w _ hx150_2)).trans hx150_2
                   have HR150_1 := Aside0.mk hi150_1
                   have HC150_1 := Aside0.mk hl150_1
                   clear hi150_1 hl150_1
                   have HR150_2 := Aside0.mk hi150_2
                   have HC150_2 := Aside0.mk hl150_2
                   clear hi150_2 hl150_2
                   replace p150 := eq_true p150
                   replace q150 := eq_true q150
                   try go_wp2
                   replace HB := Aside0.mk (below_drew1 HB.out)
                   have p151 : 0 ≤ (x4_2 : Int) := of_decide_eq_true asm
                   have q151 : x4_2 < (l0.length : Int) := of_decide_eq_true asm
                   obtain ⟨ad151, A151_1, c151_1, A151_2, c151_2, e151, hx151_0, hx151_1, hx151_2, hl151_1, hi151_1, hl151_2, hi151_2⟩ := at_T41 HR0.out x4_2 p151 q151
                   have hw151_2 := hx151_2
                   have hw151_1 := hx151_1
                   have hw151_0 := hx151_0
                   obtain rfl : ad148 = ad151 := (by injection e151)
                   replace hx151_0 := (HB.out.cell (World.block_lt_of_cell? w _ hx151_0)).trans hx151_0
                   replace hx151_1 := (HB.out.cell (World.block_lt_of_cell? w _ hx151_1)).trans hx151_1
                   replace hx151_2 := (HB.out.cell (World.block_lt_of_cell? w _ hx151_2)).trans hx151_2
                   have HR151_1 := Aside0.mk hi151_1
                   have HC151_1 := Aside0.mk hl151_1
                   clear hi151_1 hl151_1
                   have HR151_2 := Aside0.mk hi151_2
                   have HC151_2 := Aside0.mk hl151_2
                   clear hi151_2 hl151_2
                   replace p151 := eq_true p151
                   replace q151 := eq_true q151
                   have p152 : 0 ≤ (x3_1 : Int) := of_decide_eq_true asm
                   have q152 : x3_1 < (l0.length : Int) := of_decide_eq_true asm
                   obtain ⟨ad152, A152_1, c152_1, A152_2, c152_2, e152, hx152_0, hx152_1, hx152_2, hl152_1, hi152_1, hl152_2, hi152_2⟩ := at_T41 HR0.out x3_1 p152 q152
                   have hw152_2 := hx152_2
                   have hw152_1 := hx152_1
                   have hw152_0 := hx152_0
                   obtain rfl : ad148 = ad152 := (by injection e152)
                   replace hx152_0 := (HB.out.cell (World.block_lt_of_cell? w _ hx152_0)).trans hx152_0
                   replace hx152_1 := (HB.out.cell (World.block_lt_of_cell? w _ hx152_1)).trans hx152_1
                   replace hx152_2 := (HB.out.cell (World.block_lt_of_cell? w _ hx152_2)).trans hx152_2
                   have HR152_1 := Aside0.mk hi152_1
                   have HC152_1 := Aside0.mk hl152_1
                   clear hi152_1 hl152_1
                   have HR152_2 := Aside0.mk hi152_2
                   have HC152_2 := Aside0.mk hl152_2
                   clear hi152_2 hl152_2
                   replace p152 := eq_true p152
                   replace q152 := eq_true q152
                   have p153 : 0 ≤ (x5_3 : Int) := of_decide_eq_true asm
                   have q153 : x5_3 < (((rd_T41 l0 x3_1).f2).length : Int) := of_decide_eq_true asm
                   obtain ⟨ad153, e153, hx153_0, hx153_1, hx153_2, hx153_3⟩ := at_T98 HR152_2.out x5_3 p153 q153
                   have hw153_3 := hx153_3
                   have hw153_2 := hx153_2
                   have hw153_1 := hx153_1
                   have hw153_0 := hx153_0
                   cases e153
                   replace hx153_0 := (HB.out.cell (World.block_lt_of_cell? w _ hx153_0)).trans hx153_0
                   replace hx153_1 := (HB.out.cell (World.block_lt_of_cell? w _ hx153_1)).trans hx153_1
                   replace hx153_2 := (HB.out.cell (World.block_lt_of_cell? w _ hx153_2)).trans hx153_2
                   replace hx153_3 := (HB.out.cell (World.block_lt_of_cell? w _ hx153_3)).trans hx153_3
                   replace p153 := eq_true p153
                   replace q153 := eq_true q153
                   refine start_ (n := 15) (S := fun w' => w'.cell? (ad148.add ((x4_2).toNat * 3)) = some (.int .i64 ((rd_T41 l0 x4_2).f0)) ∧ w'.cell? ⟨(ad148.add ((x4_2).toNat * 3)).block, (ad148.add ((x4_2).toNat * 3)).off + 1, none⟩ = some (.slice A151_1 ((rd_T41 l0 x4_2).f1).length c151_1) ∧ w'.cell? ⟨(ad148.add ((x4_2).toNat * 3)).block, (ad148.add ((x4_2).toNat * 3)).off + 2, none⟩ = some (.slice A151_2 ((rd_T41 l0 x4_2).f2).length c151_2) ∧ w'.cell? (ad148.add ((x3_1).toNat * 3)) = some (.int .i64 ((rd_T41 l0 x3_1).f0)) ∧ w'.cell? ⟨(ad148.add ((x3_1).toNat * 3)).block, (ad148.add ((x3_1).toNat * 3)).off + 1, none⟩ = some (.slice A152_1 ((rd_T41 l0 x3_1).f1).length c152_1) ∧ w'.cell? ⟨(ad148.add ((x3_1).toNat * 3)).block, (ad148.add ((x3_1).toNat * 3)).off + 2, none⟩ = some (.slice (some ad153) ((rd_T41 l0 x3_1).f2).length c152_2) ∧ w'.cell? (ad153.add ((x5_3).toNat * 4)) = some (.int .i64 ((rd_T98 ((rd_T41 l0 x3_1).f2) x5_3).f0)) ∧ w'.cell? ⟨(ad153.add ((x5_3).toNat * 4)).block, (ad153.add ((x5_3).toNat * 4)).off + 1, none⟩ = some (.int .i64 ((rd_T98 ((rd_T41 l0 x3_1).f2) x5_3).f1)) ∧ w'.cell? ⟨(ad153.add ((x5_3).toNat * 4)).block, (ad153.add ((x5_3).toNat * 4)).off + 2, none⟩ = some (.int .i64 ((rd_T98 ((rd_T41 l0 x3_1).f2) x5_3).f2)) ∧ w'.cell? ⟨(ad153.add ((x5_3).toNat * 4)).block, (ad153.add ((x5_3).toNat * 4)).off + 3, none⟩ = some (.bool ((rd_T98 ((rd_T41 l0 x3_1).f2) x5_3).f3))) (ds := []) #[false, false, false, false, false, false, false, false, false, false, false, false, false, false, false] (by kernel_rfl) rfl rfl ⟨((HB.out.cell (World.block_lt_of_cell? w _ hw151_0)).trans hw151_0), ((HB.out.cell (World.block_lt_of_cell? w _ hw151_1)).trans hw151_1), ((HB.out.cell (World.block_lt_of_cell? w _ hw151_2)).trans hw151_2), ((HB.out.cell (World.block_lt_of_cell? w _ hw152_0)).trans hw152_0), ((HB.out.cell (World.block_lt_of_cell? w _ hw152_1)).trans hw152_1), ((HB.out.cell (World.block_lt_of_cell? w _ hw152_2)).trans hw152_2), ((HB.out.cell (World.block_lt_of_cell? w _ hw153_0)).trans hw153_0), ((HB.out.cell (World.block_lt_of_cell? w _ hw153_1)).trans hw153_1), ((HB.out.cell (World.block_lt_of_cell? w _ hw153_2)).trans hw153_2), ((HB.out.cell (World.block_lt_of_cell? w _ hw153_3)).trans hw153_3)⟩ (fun hHeld => ?_); refine with_tabW spec_BankOk.tab14 spec_BankOk.bits14 (fun HT_ HW_ => ?_)
                   generalize wr.drew = w18 at HB HR151_1 HR151_2 HR152_1 HR152_2 hx151_0 hx151_1 hx151_2 hx152_0 hx152_1 hx152_2 hx153_0 hx153_1 hx153_2 hx153_3 hHeld ⊢
                   refine puA (i := 0) (N := some 37) HT_.out ?_
                   refine puA (i := 1) (N := some 38) HT_.out ?_
                   refine puA (i := 2) (N := some 39) HT_.out ?_
                   refine puA (i := 4) (N := some 41) HT_.out ?_
                   refine puA (i := 5) (N := some 42) HT_.out ?_
                   refine puA (i := 6) (N := some 43) HT_.out ?_
                   refine puA (i := 7) (N := some 44) HT_.out ?_
                   refine puA (i := 9) (N := some 46) HT_.out ?_
                   refine tkA10 (i := 3) (N := some 40) HT_.out HW_.out hHeld ?_
                   refine tkA10 (i := 8) (N := some 45) HT_.out HW_.out hHeld ?_
                   refine puA (i := 10) (N := some 47) HT_.out ?_
                   refine puA (i := 11) (N := some 48) HT_.out ?_
                   refine tkA10 (i := 12) (N := some 49) HT_.out HW_.out hHeld ?_
                   refine onA (i := 13) (N := some 50) HT_.out (fun K hK => ?_)
                   refine goes_ Try.func85 (by kernel_rfl) rfl #[.agg #[.int .i64 ((rd_T41 l0 x4_2).f0), .slice A151_1 ((rd_T41 l0 x4_2).f1).length c151_1, .slice A151_2 ((rd_T41 l0 x4_2).f2).length c151_2], .int .i64 ((rd_T98 ((rd_T41 l0 x3_1).f2) x5_3).f2)] (by rfl) rfl rfl mapd ?_
                   with_reducible refine (spec_l02Box.calls k3 ((rd_T41 l0 x4_2).f0) _ _ ((rd_T41 l0 x4_2).f1) _ _ ((rd_T41 l0 x4_2).f2) ((rd_T98 ((rd_T41 l0 x3_1).f2) x5_3).f2) t154 _ ?side1 ?side2 ?side3 ?side4 A16.out).mono ?_
                   (case side1 => exact cb (Kd.C_below HR151_1.out HB.out))
                   (case side2 => exact HC151_1.out)
                   (case side3 => exact cb (Kd.C_below HR151_2.out HB.out))
                   (case side4 => exact HC151_2.out)
                   rintro e w19 ⟨rfl, hb⟩
                   refine ⟨_, rfl, ?_⟩
                   replace HB := Aside0.mk (below_step (bl HB.out) hb)
                   (try clear hb)
                   (try clear hb2)
                   (try clear hk)
                   (try clear hi)
                   refine hK.out _ _ ⟨((HB.out.cell (World.block_lt_of_cell? w _ hw151_0)).trans hw151_0), ((HB.out.cell (World.block_lt_of_cell? w _ hw151_1)).trans hw151_1), ((HB.out.cell (World.block_lt_of_cell? w _ hw151_2)).trans hw151_2), ((HB.out.cell (World.block_lt_of_cell? w _ hw152_0)).trans hw152_0), ((HB.out.cell (World.block_lt_of_cell? w _ hw152_1)).trans hw152_1), ((HB.out.cell (World.block_lt_of_cell? w _ hw152_2)).trans hw152_2), ((HB.out.cell (World.block_lt_of_cell? w _ hw153_0)).trans hw153_0), ((HB.out.cell (World.block_lt_of_cell? w _ hw153_1)).trans hw153_1), ((HB.out.cell (World.block_lt_of_cell? w _ hw153_2)).trans hw153_2), ((HB.out.cell (World.block_lt_of_cell? w _ hw153_3)).trans hw153_3)⟩ (fun hHeld => ?_)
                   clear hK K
                   refine norm_ (a' := ?_) ?_ ?_
                   rotate_left
                   ·show Act.put _ (some 50) _ = _
                    simp only [Act.put, List.setIfInBounds_toArray, List.set_cons_zero, List.set_cons_succ, i64_w, i32_w]
                    rfl
                   refine puA (i := 14) (N := some 51) HT_.out ?_
                   refine done_ (done_of HT_.out (by kernel_rfl)) ?_
                   try go_wp2
                   go_ret
                   exact ⟨by first | rfl | (simp [errW_none, errW_some] <;> rfl) | (simp [*, errW_none, errW_some] <;> rfl), bl HB.out⟩
                  ·rw [if_neg c17] at H
                   have c17b0 : decide (0 ≤ t154) = false := decide_eq_false c17
                   clear c17
                   have H' := Aside0.mk H
                   clear H
                   have p150 : 0 ≤ (x3_1 : Int) := of_decide_eq_true asm
                   have q150 : x3_1 < (l0.length : Int) := of_decide_eq_true asm
                   obtain ⟨ad150, A150_1, c150_1, A150_2, c150_2, e150, hx150_0, hx150_1, hx150_2, hl150_1, hi150_1, hl150_2, hi150_2⟩ := at_T41 HR0.out x3_1 p150 q150
                   obtain rfl : ad148 = ad150 := (by injection e150)
                   replace hx150_0 := (HB.out.cell (World.block_lt_of_cell? w _ hx150_0)).trans hx150_0
                   replace hx150_1 := (HB.out.cell (World.block_lt_of_cell? w _ hx150_1)).trans hx150_1
                   replace hx150_2 := (HB.out.cell (World.block_lt_of_cell? w _ hx150_2)).trans hx150_2
                   have HR150_1 := Aside0.mk hi150_1
                   have HC150_1 := Aside0.mk hl150_1
                   clear hi150_1 hl150_1
                   have HR150_2 := Aside0.mk hi150_2
                   have HC150_2 := Aside0.mk hl150_2
                   clear hi150_2 hl150_2
                   replace p150 := eq_true p150
                   replace q150 := eq_true q150
                   try go_wp2
                   replace HB := Aside0.mk (below_drew1 HB.out)
                   have p151 : 0 ≤ (x4_2 : Int) := of_decide_eq_true asm
                   have q151 : x4_2 < (l0.length : Int) := of_decide_eq_true asm
                   obtain ⟨ad151, A151_1, c151_1, A151_2, c151_2, e151, hx151_0, hx151_1, hx151_2, hl151_1, hi151_1, hl151_2, hi151_2⟩ := at_T41 HR0.out x4_2 p151 q151
                   have hw151_2 := hx151_2
                   have hw151_1 := hx151_1
                   have hw151_0 := hx151_0
                   obtain rfl : ad148 = ad151 := (by injection e151)
                   replace hx151_0 := (HB.out.cell (World.block_lt_of_cell? w _ hx151_0)).trans hx151_0
                   replace hx151_1 := (HB.out.cell (World.block_lt_of_cell? w _ hx151_1)).trans hx151_1
                   replace hx151_2 := (HB.out.cell (World.block_lt_of_cell? w _ hx151_2)).trans hx151_2
                   have HR151_1 := Aside0.mk hi151_1
                   have HC151_1 := Aside0.mk hl151_1
                   clear hi151_1 hl151_1
                   have HR151_2 := Aside0.mk hi151_2
                   have HC151_2 := Aside0.mk hl151_2
                   clear hi151_2 hl151_2
                   replace p151 := eq_true p151
                   replace q151 := eq_true q151
                   have p152 : 0 ≤ (x3_1 : Int) := of_decide_eq_true asm
                   have q152 : x3_1 < (l0.length : Int) := of_decide_eq_true asm
                   obtain ⟨ad152, A152_1, c152_1, A152_2, c152_2, e152, hx152_0, hx152_1, hx152_2, hl152_1, hi152_1, hl152_2, hi152_2⟩ := at_T41 HR0.out x3_1 p152 q152
                   have hw152_2 := hx152_2
                   have hw152_1 := hx152_1
                   have hw152_0 := hx152_0
                   obtain rfl : ad148 = ad152 := (by injection e152)
                   replace hx152_0 := (HB.out.cell (World.block_lt_of_cell? w _ hx152_0)).trans hx152_0
                   replace hx152_1 := (HB.out.cell (World.block_lt_of_cell? w _ hx152_1)).trans hx152_1
                   replace hx152_2 := (HB.out.cell (World.block_lt_of_cell? w _ hx152_2)).trans hx152_2
                   have HR152_1 := Aside0.mk hi152_1
                   have HC152_1 := Aside0.mk hl152_1
                   clear hi152_1 hl152_1
                   have HR152_2 := Aside0.mk hi152_2
                   have HC152_2 := Aside0.mk hl152_2
                   clear hi152_2 hl152_2
                   replace p152 := eq_true p152
                   replace q152 := eq_true q152
                   have p153 : 0 ≤ (x5_3 : Int) := of_decide_eq_true asm
                   have q153 : x5_3 < (((rd_T41 l0 x3_1).f2).length : Int) := of_decide_eq_true asm
                   obtain ⟨ad153, e153, hx153_0, hx153_1, hx153_2, hx153_3⟩ := at_T98 HR152_2.out x5_3 p153 q153
                   have hw153_3 := hx153_3
                   have hw153_2 := hx153_2
                   have hw153_1 := hx153_1
                   have hw153_0 := hx153_0
                   cases e153
                   replace hx153_0 := (HB.out.cell (World.block_lt_of_cell? w _ hx153_0)).trans hx153_0
                   replace hx153_1 := (HB.out.cell (World.block_lt_of_cell? w _ hx153_1)).trans hx153_1
                   replace hx153_2 := (HB.out.cell (World.block_lt_of_cell? w _ hx153_2)).trans hx153_2
                   replace hx153_3 := (HB.out.cell (World.block_lt_of_cell? w _ hx153_3)).trans hx153_3
                   replace p153 := eq_true p153
                   replace q153 := eq_true q153
                   refine start_ (n := 15) (S := fun w' => w'.cell? (ad148.add ((x4_2).toNat * 3)) = some (.int .i64 ((rd_T41 l0 x4_2).f0)) ∧ w'.cell? ⟨(ad148.add ((x4_2).toNat * 3)).block, (ad148.add ((x4_2).toNat * 3)).off + 1, none⟩ = some (.slice A151_1 ((rd_T41 l0 x4_2).f1).length c151_1) ∧ w'.cell? ⟨(ad148.add ((x4_2).toNat * 3)).block, (ad148.add ((x4_2).toNat * 3)).off + 2, none⟩ = some (.slice A151_2 ((rd_T41 l0 x4_2).f2).length c151_2) ∧ w'.cell? (ad148.add ((x3_1).toNat * 3)) = some (.int .i64 ((rd_T41 l0 x3_1).f0)) ∧ w'.cell? ⟨(ad148.add ((x3_1).toNat * 3)).block, (ad148.add ((x3_1).toNat * 3)).off + 1, none⟩ = some (.slice A152_1 ((rd_T41 l0 x3_1).f1).length c152_1) ∧ w'.cell? ⟨(ad148.add ((x3_1).toNat * 3)).block, (ad148.add ((x3_1).toNat * 3)).off + 2, none⟩ = some (.slice (some ad153) ((rd_T41 l0 x3_1).f2).length c152_2) ∧ w'.cell? (ad153.add ((x5_3).toNat * 4)) = some (.int .i64 ((rd_T98 ((rd_T41 l0 x3_1).f2) x5_3).f0)) ∧ w'.cell? ⟨(ad153.add ((x5_3).toNat * 4)).block, (ad153.add ((x5_3).toNat * 4)).off + 1, none⟩ = some (.int .i64 ((rd_T98 ((rd_T41 l0 x3_1).f2) x5_3).f1)) ∧ w'.cell? ⟨(ad153.add ((x5_3).toNat * 4)).block, (ad153.add ((x5_3).toNat * 4)).off + 2, none⟩ = some (.int .i64 ((rd_T98 ((rd_T41 l0 x3_1).f2) x5_3).f2)) ∧ w'.cell? ⟨(ad153.add ((x5_3).toNat * 4)).block, (ad153.add ((x5_3).toNat * 4)).off + 3, none⟩ = some (.bool ((rd_T98 ((rd_T41 l0 x3_1).f2) x5_3).f3))) (ds := []) #[false, false, false, false, false, false, false, false, false, false, false, false, false, false, false] (by kernel_rfl) rfl rfl ⟨((HB.out.cell (World.block_lt_of_cell? w _ hw151_0)).trans hw151_0), ((HB.out.cell (World.block_lt_of_cell? w _ hw151_1)).trans hw151_1), ((HB.out.cell (World.block_lt_of_cell? w _ hw151_2)).trans hw151_2), ((HB.out.cell (World.block_lt_of_cell? w _ hw152_0)).trans hw152_0), ((HB.out.cell (World.block_lt_of_cell? w _ hw152_1)).trans hw152_1), ((HB.out.cell (World.block_lt_of_cell? w _ hw152_2)).trans hw152_2), ((HB.out.cell (World.block_lt_of_cell? w _ hw153_0)).trans hw153_0), ((HB.out.cell (World.block_lt_of_cell? w _ hw153_1)).trans hw153_1), ((HB.out.cell (World.block_lt_of_cell? w _ hw153_2)).trans hw153_2), ((HB.out.cell (World.block_lt_of_cell? w _ hw153_3)).trans hw153_3)⟩ (fun hHeld => ?_); refine with_tabW spec_BankOk.tab14 spec_BankOk.bits14 (fun HT_ HW_ => ?_)
                   generalize wr.drew = w20 at HB HR151_1 HR151_2 HR152_1 HR152_2 hx151_0 hx151_1 hx151_2 hx152_0 hx152_1 hx152_2 hx153_0 hx153_1 hx153_2 hx153_3 hHeld ⊢
                   refine puA (i := 0) (N := some 37) HT_.out ?_
                   refine puA (i := 1) (N := some 38) HT_.out ?_
                   refine puA (i := 2) (N := some 39) HT_.out ?_
                   refine puA (i := 4) (N := some 41) HT_.out ?_
                   refine puA (i := 5) (N := some 42) HT_.out ?_
                   refine puA (i := 6) (N := some 43) HT_.out ?_
                   refine puA (i := 7) (N := some 44) HT_.out ?_
                   refine puA (i := 9) (N := some 46) HT_.out ?_
                   refine tkA10 (i := 3) (N := some 40) HT_.out HW_.out hHeld ?_
                   refine tkA10 (i := 8) (N := some 45) HT_.out HW_.out hHeld ?_
                   refine puA (i := 10) (N := some 47) HT_.out ?_
                   refine puA (i := 11) (N := some 48) HT_.out ?_
                   refine tkA10 (i := 12) (N := some 49) HT_.out HW_.out hHeld ?_
                   refine onA (i := 13) (N := some 50) HT_.out (fun K hK => ?_)
                   refine goes_ Try.func85 (by kernel_rfl) rfl #[.agg #[.int .i64 ((rd_T41 l0 x4_2).f0), .slice A151_1 ((rd_T41 l0 x4_2).f1).length c151_1, .slice A151_2 ((rd_T41 l0 x4_2).f2).length c151_2], .int .i64 ((rd_T98 ((rd_T41 l0 x3_1).f2) x5_3).f2)] (by rfl) rfl rfl mapd ?_
                   with_reducible refine (spec_l02Box.calls k3 ((rd_T41 l0 x4_2).f0) _ _ ((rd_T41 l0 x4_2).f1) _ _ ((rd_T41 l0 x4_2).f2) ((rd_T98 ((rd_T41 l0 x3_1).f2) x5_3).f2) t154 _ ?side1 ?side2 ?side3 ?side4 A16.out).mono ?_
                   (case side1 => exact cb (Kd.C_below HR151_1.out HB.out))
                   (case side2 => exact HC151_1.out)
                   (case side3 => exact cb (Kd.C_below HR151_2.out HB.out))
                   (case side4 => exact HC151_2.out)
                   rintro e w21 ⟨rfl, hb⟩
                   refine ⟨_, rfl, ?_⟩
                   replace HB := Aside0.mk (below_step (bl HB.out) hb)
                   (try clear hb)
                   (try clear hb2)
                   (try clear hk)
                   (try clear hi)
                   refine hK.out _ _ ⟨((HB.out.cell (World.block_lt_of_cell? w _ hw151_0)).trans hw151_0), ((HB.out.cell (World.block_lt_of_cell? w _ hw151_1)).trans hw151_1), ((HB.out.cell (World.block_lt_of_cell? w _ hw151_2)).trans hw151_2), ((HB.out.cell (World.block_lt_of_cell? w _ hw152_0)).trans hw152_0), ((HB.out.cell (World.block_lt_of_cell? w _ hw152_1)).trans hw152_1), ((HB.out.cell (World.block_lt_of_cell? w _ hw152_2)).trans hw152_2), ((HB.out.cell (World.block_lt_of_cell? w _ hw153_0)).trans hw153_0), ((HB.out.cell (World.block_lt_of_cell? w _ hw153_1)).trans hw153_1), ((HB.out.cell (World.block_lt_of_cell? w _ hw153_2)).trans hw153_2), ((HB.out.cell (World.block_lt_of_cell? w _ hw153_3)).trans hw153_3)⟩ (fun hHeld => ?_)
                   clear hK K
                   refine norm_ (a' := ?_) ?_ ?_
                   rotate_left
                   ·show Act.put _ (some 50) _ = _
                    simp only [Act.put, List.setIfInBounds_toArray, List.set_cons_zero, List.set_cons_succ, i64_w, i32_w]
                    rfl
                   refine puA (i := 14) (N := some 51) HT_.out ?_
                   refine done_ (done_of HT_.out (by kernel_rfl)) ?_
                   try go_wp2
                   go_roundg k3
                   case measure => have := HK1.out; have := HK2.out; have := HK3.out; omega
                   case rel => exact ⟨(wrap64 (x5_3 + 1)), (by first | rfl | (simp; done) | (simp [*]; done)), H', ⟨by have := HK1.out; have := HK2.out; have := HK3.out; omega⟩, ⟨bl HB.out⟩⟩
                 ·rw [if_neg c15] at H
                  exact absurd H (by simp)
                ·rw [if_neg c14] at H
                 exact absurd H (by simp)
               ·rw [if_neg c13] at H
                exact absurd H (by simp)
              ·rw [if_neg c12] at H
               have c12b0 : decide (x5_3 < (((rd_T41 l0 x3_1).f2).length : Int)) = false := decide_eq_false c12
               clear c12
               have H' := Aside0.mk H
               clear H
               have p150 : 0 ≤ (x3_1 : Int) := of_decide_eq_true asm
               have q150 : x3_1 < (l0.length : Int) := of_decide_eq_true asm
               obtain ⟨ad150, A150_1, c150_1, A150_2, c150_2, e150, hx150_0, hx150_1, hx150_2, hl150_1, hi150_1, hl150_2, hi150_2⟩ := at_T41 HR0.out x3_1 p150 q150
               obtain rfl : ad148 = ad150 := (by injection e150)
               replace hx150_0 := (HB.out.cell (World.block_lt_of_cell? w _ hx150_0)).trans hx150_0
               replace hx150_1 := (HB.out.cell (World.block_lt_of_cell? w _ hx150_1)).trans hx150_1
               replace hx150_2 := (HB.out.cell (World.block_lt_of_cell? w _ hx150_2)).trans hx150_2
               have HR150_1 := Aside0.mk hi150_1
               have HC150_1 := Aside0.mk hl150_1
               clear hi150_1 hl150_1
               have HR150_2 := Aside0.mk hi150_2
               have HC150_2 := Aside0.mk hl150_2
               clear hi150_2 hl150_2
               replace p150 := eq_true p150
               replace q150 := eq_true q150
               go_wp2
               go_roundg k3
               case measure => have := HK1.out; have := HK2.out; have := HK3.out; omega
               case rel => exact ⟨(wrap64 (x4_2 + 1)), (by first | rfl | (simp; done) | (simp [*]; done)), H', ⟨by have := HK1.out; have := HK2.out; have := HK3.out; omega⟩, ⟨bl HB.out⟩⟩
             ·rw [if_neg c11] at H
              exact absurd H (by simp)
            ·rw [if_neg c10] at H
             exact absurd H (by simp)
         ·rw [if_neg c9] at H
          have c9b0 : decide (x4_2 < x3_1) = false := decide_eq_false c9
          clear c9
          have H' := Aside0.mk H
          clear H
          go_wp2
          go_roundg k2
          case measure => have := HK1.out; have := HK2.out; omega
          case rel => exact ⟨(wrap64 (x3_1 + 1)), (by first | rfl | (simp; done) | (simp [*]; done)), H', ⟨by have := HK1.out; have := HK2.out; omega⟩, ⟨bl HB.out⟩⟩
      ·replace c7 := Bool.eq_false_iff.mpr c7
       subst c7
       rw [if_neg (show ¬ (false = true) by decide)] at H
       obtain rfl := Option.some.inj H
       have p148 : 0 ≤ (x3_1 : Int) := of_decide_eq_true asm
       have q148 : x3_1 < (l0.length : Int) := of_decide_eq_true asm
       obtain ⟨ad148, A148_1, c148_1, A148_2, c148_2, e148, hx148_0, hx148_1, hx148_2, hl148_1, hi148_1, hl148_2, hi148_2⟩ := at_T41 HR0.out x3_1 p148 q148
       cases e148
       replace hx148_0 := (HB.out.cell (World.block_lt_of_cell? w _ hx148_0)).trans hx148_0
       replace hx148_1 := (HB.out.cell (World.block_lt_of_cell? w _ hx148_1)).trans hx148_1
       replace hx148_2 := (HB.out.cell (World.block_lt_of_cell? w _ hx148_2)).trans hx148_2
       have HR148_1 := Aside0.mk hi148_1
       have HC148_1 := Aside0.mk hl148_1
       clear hi148_1 hl148_1
       have HR148_2 := Aside0.mk hi148_2
       have HC148_2 := Aside0.mk hl148_2
       clear hi148_2 hl148_2
       replace p148 := eq_true p148
       replace q148 := eq_true q148
       go_wp2_with (first | ((with_reducible refine gate_callee (f := 91) rfl ?_); refine goesL_ (some 20) rfl rfl Try.func91 (by kernel_rfl) rfl #[.agg #[.int .i64 ((rd_T41 l0 x3_1).f0), .slice A148_1 ((rd_T41 l0 x3_1).f1).length c148_1, .slice A148_2 ((rd_T41 l0 x3_1).f2).length c148_2]] rfl mapd ?_; (with_reducible refine (spec_ColumnOk.calls k1 ((rd_T41 l0 x3_1).f0) _ _ ((rd_T41 l0 x3_1).f1) _ _ ((rd_T41 l0 x3_1).f2) false _ ?side1 ?side2 ?side3 ?side4 A6.out).mono ?_); (case side1 => exact cb (Kd.C_below HR148_1.out HB.out)); (case side2 => exact HC148_1.out); (case side3 => exact cb (Kd.C_below HR148_2.out HB.out)); (case side4 => exact HC148_2.out); rintro e w22 ⟨rfl, hb⟩; refine ⟨_, rfl, ?_⟩; replace HB := Aside0.mk (below_step (bl HB.out) hb); (try clear hb); (try clear hb2); (try clear hk); (try clear hi)))
       go_ret
       exact ⟨by first | rfl | (simp [errW_none, errW_some] <;> rfl) | (simp [*, errW_none, errW_some] <;> rfl), bl HB.out⟩
     ·rw [if_neg c5] at H
      exact absurd H (by simp)
    ·rw [if_neg c4] at H
     have c4b0 : decide (x3_1 < (l0.length : Int)) = false := decide_eq_false c4
     clear c4
     obtain rfl := Option.some.inj H
     go_wp2
     go_ret
     exact ⟨by first | rfl | (simp [errW_none, errW_some] <;> rfl) | (simp [*, errW_none, errW_some] <;> rfl), bl HB.out⟩
 ·replace c3 := Bool.eq_false_iff.mpr c3
  subst c3
  rw [if_neg (show ¬ (false = true) by decide)] at H
  obtain rfl := Option.some.inj H
  go_enter Try.func61, Try.ntmps61
  go_wp2_with (first | ((with_reducible refine gate_callee (f := 84) rfl ?_); refine goesL_ (some 8) rfl rfl Try.func84 (by kernel_rfl) rfl #[.int .i64 (l0.length : Int), .int .i64 1, .int .i64 6] rfl mapd ?_; (with_reducible refine (spec_l01In.calls (l0.length : Int) 1 6 false _ A2.out).mono ?_); rintro e w' ⟨rfl, ⟨nd, rfl⟩⟩; refine ⟨_, rfl, ?_⟩))
  go_ret
  exact ⟨by first | rfl | (simp [errW_none, errW_some] <;> rfl) | (simp [*, errW_none, errW_some] <;> rfl), bl HB.out⟩
end Go.Proofs.Ytbpjidekjogfeaa.A
