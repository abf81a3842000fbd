/- What the proof of the law FnGaps uses: lemmas, the Lean functions of the Go functions that it reaches, their contracts, and the pure statement's proof. -/
import Derived.Test.YtghfeapncmlihaaZFnGapsx16
import Derived.Test.YtghfeapncmlihaaZFnGapsx17
import Derived.Test.YtghfeapncmlihaaZFnGapsh
namespace Go.Proofs.Ytghfeapncmlihaa.A
open Go.RowKit Go.Proofs.YtghfeapncmlihaaW.PrintWords Go.Proofs.YtghfeapncmlihaaW.PrintLast Go.Proofs.YtghfeapncmlihaaW.PrintMore
attribute [local go_sem] max2_int min2_int max_two min_two max_three min_three max_four min_four   
set_option linter.unusedVariables false
set_option linter.unusedSimpArgs false
def spec_GapsOf.l0 : Nat → List (S54) → Int → Int → List Int → List (S71) → Option ((List (S54)))
 | 0, _, _, _, _, _ => none
 | k + 1, x3, x4, x487000, x487001, x487002 => if x4 < (x487002.length : Int) then (if 0 ≤ x4 then ((spec_l02Open.f ((rd_T71 x487002 x4).f0) ((rd_T71 x487002 x4).f1) ((rd_T71 x487002 x4).f2) ((rd_T71 x487002 x4).f3)).bind fun t493 => (if t493 = true then (if x4 > 0 then (if 0 ≤ (wrap64 (x4 - 1)) then (if (wrap64 (x4 - 1)) < (x487002.length : Int) then ((spec_l02Open.f ((rd_T71 x487002 (wrap64 (x4 - 1))).f0) ((rd_T71 x487002 (wrap64 (x4 - 1))).f1) ((rd_T71 x487002 (wrap64 (x4 - 1))).f2) ((rd_T71 x487002 (wrap64 (x4 - 1))).f3)).bind fun t495 => (if t495 = true then ((spec_l02Has.f k x487001 ((rd_T71 x487002 x4).f0)).bind fun t496 => (if t496 = true then (if x3.length < 5864062014805 then (spec_GapsOf.l0 k (x3 ++ [(⟨0, (rd_T71 x487002 x4).f0, (rd_T71 x487002 x4).f1⟩ : S54)]) (wrap64 (x4 + 1)) x487000 x487001 x487002) else (none)) else (if 0 ≤ (wrap64 ((x3.length : Int) - 1)) then (if (wrap64 ((x3.length : Int) - 1)) < (x3.length : Int) then (spec_GapsOf.l0 k (x3.set ((wrap64 ((x3.length : Int) - 1)) : Int).toNat (⟨(rd_T54 x3 (wrap64 ((x3.length : Int) - 1))).f0, (rd_T54 x3 (wrap64 ((x3.length : Int) - 1))).f1, wrap64 (((rd_T54 x3 (wrap64 ((x3.length : Int) - 1))).f2) + ((rd_T71 x487002 x4).f1))⟩ : S54)) (wrap64 (x4 + 1)) x487000 x487001 x487002) else (none)) else (none)))) else (if x3.length < 5864062014805 then (spec_GapsOf.l0 k (x3 ++ [(⟨0, (rd_T71 x487002 x4).f0, (rd_T71 x487002 x4).f1⟩ : S54)]) (wrap64 (x4 + 1)) x487000 x487001 x487002) else (none)))) else (none)) else (none)) else (if x3.length < 5864062014805 then (spec_GapsOf.l0 k (x3 ++ [(⟨0, (rd_T71 x487002 x4).f0, (rd_T71 x487002 x4).f1⟩ : S54)]) (wrap64 (x4 + 1)) x487000 x487001 x487002) else (none))) else (spec_GapsOf.l0 k x3 (wrap64 (x4 + 1)) x487000 x487001 x487002))) else (none)) else (some x3)
def spec_GapsOf.f (k : Nat) (a0_0 : Int) (l0_1 : List Int) (l0_2 : List (S71)) : Option ((List (S54))) := (some (([] : List (S54)) : List (S54))).bind fun y487 => ((spec_ColumnOk.f k a0_0 l0_1 l0_2).bind fun t490 => (if t490 = true then (spec_GapsOf.l0 k y487 0 a0_0 l0_1 l0_2) else (some y487)))
def spec_GapsOf.T10 : Bool × List (List Nat × List Nat) := (true, [([], []), ([], []), ([1], [1]), ([2], [2]), ([], []), ([], []), ([5], [5]), ([6], [6]), ([4, 7], [4, 7]), ([8], [8]), ([9], [9]), ([], []), ([11], [11]), ([10, 12], [10, 12]), ([0, 3, 0, 1, 2, 3, 4, 5, 6, 7, 8, 9, 10, 11, 12, 13], [0, 3]), ([14, 0, 1, 2, 3, 4, 5, 6, 7, 8, 9, 10, 11, 12, 13], [14]), ([15, 13, 0, 1, 2, 3, 4, 5, 6, 7, 8, 9, 10, 11, 12, 13], [13, 15])])
def spec_GapsOf.B10 : List Nat := [0, 0, 2, 6, 0, 0, 32, 96, 240, 496, 1008, 0, 2048, 8176, 16383, 32767, 65535]
theorem spec_GapsOf.tab10 : rtab .any (opsOf Try.f41 10) = spec_GapsOf.T10 := by kernel_rfl
theorem spec_GapsOf.bits10 : waitsOk spec_GapsOf.T10.2 spec_GapsOf.B10 = true := by kernel_rfl
set_option maxHeartbeats 8000000 in
set_option maxRecDepth 100000 in
theorem spec_GapsOf.calls (k : Nat) (a0_0 : Int) (A0_1 : Option Addr) (c0_1 : Nat) (l0_1 : List Int) (A0_2 : Option Addr) (c0_2 : Nat) (l0_2 : List (S71)) (r : List (S54)) (w : World) (hr0_1 : Kd.C (Kd.int .i64) w A0_1 l0_1.length l0_1) (hc0_1 : l0_1.length ≤ c0_1) (hr0_2 : Kd.C k71 w A0_2 l0_2.length l0_2) (hc0_2 : l0_2.length ≤ c0_2) (h : spec_GapsOf.f k a0_0 l0_1 l0_2 = some r) :
  Calls Try.prog 41 #[.agg #[.int .i64 a0_0, .slice A0_1 l0_1.length c0_1, .slice A0_2 l0_2.length c0_2]] w fun e w' => ∃ v0_ : Value, e = .returned (v0_) ∧ Kd.R k54 54 w' w.heap.size (fun _ => True) v0_ r ∧ Below w.heap.size w w' := by
 have hu30 := Try.underlying30
 have hu71 := Try.underlying71
 have hu54 := Try.underlying54
 have HR0_1 := Aside0.mk hr0_1
 have HC0_1 := Aside0.mk hc0_1
 clear hr0_1 hc0_1
 have HR0_2 := Aside0.mk hr0_2
 have HC0_2 := Aside0.mk hc0_2
 clear hr0_2 hc0_2
 have HB := Aside0.mk (Below.refl w.heap.size w)
 have H : ((some (([] : List (S54)) : List (S54))).bind fun y487 => ((spec_ColumnOk.f k a0_0 l0_1 l0_2).bind fun t490 => (if t490 = true then (spec_GapsOf.l0 k y487 0 a0_0 l0_1 l0_2) else (some y487)))) = some r := h
 clear h
 obtain ⟨y487, hy487⟩ : ∃ y_ : List (S54), y_ = (([] : List (S54))) := ⟨_, rfl⟩
 replace H : ((spec_ColumnOk.f k a0_0 l0_1 l0_2).bind fun t490 => (if t490 = true then (spec_GapsOf.l0 k y487 0 a0_0 l0_1 l0_2) else (some y487))) = some r := by first | (rw [hy487]; with_reducible exact H) | (have H2_ := (Option.bind_some _ _).symm.trans H; rw [hy487]; with_reducible exact H2_) | (have H2_ := (Option.bind_some _ _).symm.trans H; with_reducible exact H2_) | with_reducible exact H | (rw [hy487]; exact H) | exact H
 have Ny487 := Aside0.mk hy487
 clear hy487
 replace H := Option.bind_eq_some_iff.mp H
 obtain ⟨t490, A20, H⟩ := H
 try dsimp only at H
 have A2 := Aside0.mk A20
 clear A20
 by_cases c3 : t490 = true
 ·subst c3
  rw [if_pos rfl] at H
  have H' := Aside0.mk H
  clear H
  go_enter Try.func41, Try.ntmps41
  go_wp2_with (first | ((with_reducible refine gate_dst (N := 1) rfl ?_); refine bx (cs := #[.int .i64 a0_0, .slice A0_1 l0_1.length c0_1, .slice A0_2 l0_2.length c0_2]) (t := 30) fun gb486 hg w4 hbox hb => ?_; have BK486 := Aside0.mk (hbox); have GW486 := Aside0.mk (gs HB.out hg); have GE486 := Aside0.mk (gs HB.out hg); replace HB := Aside0.mk (below_step (bl HB.out) hb); clear hb hbox hg) | ((with_reducible refine gate_dst (N := 6) rfl ?_); refine Kd.R_lit k54 _ 54 ?hg (N := 6) ?hd (xs := ([] : List (S54))) (inner := []) (ok := fun _ => True) (okp := fun _ => True) ?hr ?hp (fun _ hk => hk) trivial (Below.refl _ _) (Nat.le_refl _) (by simp) ?_; (case hd => rfl); (case hg => rfl); (case hr => first | (go_simp; done) | (go_simp; rfl)); (case hp => exact (Reps.none _ _)); intro v488 w5 ho6 hb hg_ hnew_; clear hg_ hnew_; (first | rw [← Ny487.out] at ho6 | (simp only [Int.reduceToNat] at ho6; rw [← Ny487.out] at ho6)); have HO489 := Aside0.mk (Kd.R_lower ho6 (below_size (bl HB.out))); replace BK486 := Aside0.mk (bb BK486.out hb); replace HB := Aside0.mk (below_step (bl HB.out) hb); clear hb ho6; obtain ⟨hcz7_0, hcz7_1, hcz7_2, hfz7_0, hfz7_1, hfz7_2⟩ := cz3 BK486.out) | ((with_reducible refine gate_callee (f := 16) rfl ?_); refine goesL_ (some 8) rfl rfl Try.func16 (by kernel_rfl) rfl #[.agg #[.int .i64 a0_0, .slice A0_1 l0_1.length c0_1, .slice A0_2 l0_2.length c0_2]] rfl mapd ?_; (with_reducible refine (spec_ColumnOk.calls k a0_0 _ _ l0_1 _ _ l0_2 true _ ?side1 ?side2 ?side3 ?side4 A2.out).mono ?_); (case side1 => exact cb (Kd.C_below HR0_1.out HB.out)); (case side2 => exact HC0_1.out); (case side3 => exact cb (Kd.C_below HR0_2.out HB.out)); (case side4 => exact HC0_2.out); rintro e w8 ⟨rfl, hb⟩; refine ⟨_, rfl, ?_⟩; replace HO489 := Aside0.mk (Kd.R_below (rk HO489.out) hb); replace BK486 := Aside0.mk (bb BK486.out hb); replace HB := Aside0.mk (below_step (bl HB.out) hb); (try clear hb); (try clear hb2); (try clear hk); (try clear hi)))
  go_loopg [3, 4] k (fun kq v3 v4 w' => ∃ (x3_1 : List (S54)) (x4_1 : Int), v4 = .int .i64 x4_1 ∧ Aside0 (spec_GapsOf.l0 kq x3_1 x4_1 a0_0 l0_1 l0_2 = some r) ∧ Aside0 (kq ≤ k) ∧ Aside0 (Kd.R k54 54 w' w.heap.size (fun _ => True) v3 x3_1) ∧ Aside0 (w'.heap[gb486]? = some (.cells #[.int .i64 a0_0, (.slice A0_1 l0_1.length c0_1), (.slice A0_2 l0_2.length c0_2)] 30 (0, 0))) ∧ Aside0 (Below w.heap.size w w'))
  case atStart => exact ⟨(y487), (0), (by first | rfl | (simp; done) | (simp [*]; done)), H', ⟨Nat.le_refl _⟩, ⟨rk HO489.out⟩, ⟨by refine bk ?_; exact BK486.out⟩, ⟨bl HB.out⟩⟩
  case round =>
   clear H'
   try clear c1
   try clear p2
   try clear c3
   try clear c4
   try clear hcz7_0
   try clear hcz7_1
   try clear hcz7_2
   try clear hfz7_0
   try clear hfz7_1
   try clear hfz7_2
   obtain ⟨x3_1, x4_1, rfl, HA, HK1, HO_3, BK486, HB⟩ := hrel
   cases gk with
   | zero => exact absurd HA.out (by simp [spec_GapsOf.l0])
   | succ k1 =>
    have H := HA.out
    clear HA
    simp only [spec_GapsOf.l0] at H
    by_cases c9 : x4_1 < (l0_2.length : Int)
    ·rw [if_pos c9] at H
     have c9b0 : decide (x4_1 < (l0_2.length : Int)) = true := decide_eq_true c9
     clear c9
     by_cases c10 : 0 ≤ x4_1
     ·rw [if_pos c10] at H
      have c10b0 : decide (0 ≤ x4_1) = true := decide_eq_true c10
      clear c10
      replace H := Option.bind_eq_some_iff.mp H
      obtain ⟨t493, A110, H⟩ := H
      try dsimp only at H
      have A11 := Aside0.mk A110
      clear A110
      by_cases c12 : t493 = true
      ·subst c12
       rw [if_pos rfl] at H
       by_cases c13 : x4_1 > 0
       ·rw [if_pos c13] at H
        have c13b0 : decide (0 < x4_1) = true := decide_eq_true c13
        clear c13
        obtain ⟨ji14, hji14⟩ : ∃ j_ : Int, (wrap64 (x4_1 - 1)) = j_ := ⟨_, rfl⟩
        replace H : (if 0 ≤ (ji14) then (if (ji14) < (l0_2.length : Int) then ((spec_l02Open.f ((rd_T71 l0_2 (ji14)).f0) ((rd_T71 l0_2 (ji14)).f1) ((rd_T71 l0_2 (ji14)).f2) ((rd_T71 l0_2 (ji14)).f3)).bind fun t495 => (if t495 = true then ((spec_l02Has.f k1 l0_1 ((rd_T71 l0_2 x4_1).f0)).bind fun t496 => (if t496 = true then (if x3_1.length < 5864062014805 then (spec_GapsOf.l0 k1 (x3_1 ++ [(⟨0, (rd_T71 l0_2 x4_1).f0, (rd_T71 l0_2 x4_1).f1⟩ : S54)]) (wrap64 (x4_1 + 1)) a0_0 l0_1 l0_2) else (none)) else (if 0 ≤ (wrap64 ((x3_1.length : Int) - 1)) then (if (wrap64 ((x3_1.length : Int) - 1)) < (x3_1.length : Int) then (spec_GapsOf.l0 k1 (x3_1.set ((wrap64 ((x3_1.length : Int) - 1)) : Int).toNat (⟨(rd_T54 x3_1 (wrap64 ((x3_1.length : Int) - 1))).f0, (rd_T54 x3_1 (wrap64 ((x3_1.length : Int) - 1))).f1, wrap64 (((rd_T54 x3_1 (wrap64 ((x3_1.length : Int) - 1))).f2) + ((rd_T71 l0_2 x4_1).f1))⟩ : S54)) (wrap64 (x4_1 + 1)) a0_0 l0_1 l0_2) else (none)) else (none)))) else (if x3_1.length < 5864062014805 then (spec_GapsOf.l0 k1 (x3_1 ++ [(⟨0, (rd_T71 l0_2 x4_1).f0, (rd_T71 l0_2 x4_1).f1⟩ : S54)]) (wrap64 (x4_1 + 1)) a0_0 l0_1 l0_2) else (none)))) else (none)) else (none)) = some r := by first | (rw [hji14] at H; exact H) | (simp only [hji14] at H ⊢; exact H)
        (try rw [hji14] at A11)
        have hji14w : (IntKind.i64.wrap (x4_1 - 1)) = ji14 := (i64_w _).trans hji14
        by_cases c15 : 0 ≤ (ji14)
        ·rw [if_pos c15] at H
         have c15b0 : decide (0 ≤ (ji14)) = true := decide_eq_true c15
         clear c15
         by_cases c16 : (ji14) < (l0_2.length : Int)
         ·rw [if_pos c16] at H
          have c16b0 : decide ((ji14) < (l0_2.length : Int)) = true := decide_eq_true c16
          clear c16
          replace H := Option.bind_eq_some_iff.mp H
          obtain ⟨t495, A170, H⟩ := H
          try dsimp only at H
          have A17 := Aside0.mk A170
          clear A170
          by_cases c18 : t495 = true
          ·subst c18
           rw [if_pos rfl] at H
           replace H := Option.bind_eq_some_iff.mp H
           obtain ⟨t496, A190, H⟩ := H
           try dsimp only at H
           have A19 := Aside0.mk A190
           clear A190
           by_cases c20 : t496 = true
           ·subst c20
            rw [if_pos rfl] at H
            by_cases c21 : x3_1.length < 5864062014805
            ·rw [if_pos c21] at H
             have LMc21 := Aside0.mk c21
             clear c21
             obtain ⟨y497, hy497⟩ : ∃ y_ : List (S54), y_ = (x3_1 ++ [(⟨0, (rd_T71 l0_2 x4_1).f0, (rd_T71 l0_2 x4_1).f1⟩ : S54)]) := ⟨_, rfl⟩
             replace H : (spec_GapsOf.l0 k1 y497 (wrap64 (x4_1 + 1)) a0_0 l0_1 l0_2) = some r := by first | (rw [hy497]; with_reducible exact H) | (have H2_ := (Option.bind_some _ _).symm.trans H; rw [hy497]; with_reducible exact H2_) | (have H2_ := (Option.bind_some _ _).symm.trans H; with_reducible exact H2_) | with_reducible exact H | (rw [hy497]; exact H) | exact H
             have Ny497 := Aside0.mk hy497
             clear hy497
             have H' := Aside0.mk H
             clear H
             obtain ⟨hcz22_0, hcz22_1, hcz22_2, hfz22_0, hfz22_1, hfz22_2⟩ := cz3 BK486.out
             have p491 : 0 ≤ (x4_1 : Int) := of_decide_eq_true asm
             have q491 : x4_1 < (l0_2.length : Int) := of_decide_eq_true asm
             obtain ⟨ad491, e491, hx491_0, hx491_1, hx491_2, hx491_3⟩ := at_T71 HR0_2.out x4_1 p491 q491
             cases e491
             replace hx491_0 := (HB.out.cell (World.block_lt_of_cell? w _ hx491_0)).trans hx491_0
             replace hx491_1 := (HB.out.cell (World.block_lt_of_cell? w _ hx491_1)).trans hx491_1
             replace hx491_2 := (HB.out.cell (World.block_lt_of_cell? w _ hx491_2)).trans hx491_2
             replace hx491_3 := (HB.out.cell (World.block_lt_of_cell? w _ hx491_3)).trans hx491_3
             replace p491 := eq_true p491
             replace q491 := eq_true q491
             go_wp2_with (first | ((with_reducible refine gate_dst (N := 5) rfl ?_); refine bx (cs := #[.int .i64 0, .int .i64 0, .int .i64 0, .bool false]) (t := 71) fun gb492 hg w23 hbox hb => ?_; replace HO_3 := Aside0.mk (Kd.R_below (rk HO_3.out) hb); have BK492 := Aside0.mk (hbox); have GW492 := Aside0.mk (gs HB.out hg); have GE492 := Aside0.mk (gs HB.out hg); replace HB := Aside0.mk (below_step (bl HB.out) hb); have NB486_492 := Aside0.mk ((nl BK486.out hg)); have NB492_486 := Aside0.mk ((ng BK486.out hg)); replace BK486 := Aside0.mk (bb BK486.out hb); clear hb hbox hg; have hnb24 := NB492_486.out; have hnc24 := NB486_492.out; obtain ⟨hcz25_0, hcz25_1, hcz25_2, hcz25_3, hfz25_0, hfz25_1, hfz25_2, hfz25_3⟩ := cz4 BK492.out) | ((with_reducible refine gate_callee (f := 75) rfl ?_); refine goesL_ (some 24) rfl rfl Try.func75 (by kernel_rfl) rfl #[.agg #[.int .i64 ((rd_T71 l0_2 x4_1).f0), .int .i64 ((rd_T71 l0_2 x4_1).f1), .int .i64 ((rd_T71 l0_2 x4_1).f2), .bool ((rd_T71 l0_2 x4_1).f3)]] rfl mapd ?_; (with_reducible refine (spec_l02Open.calls ((rd_T71 l0_2 x4_1).f0) ((rd_T71 l0_2 x4_1).f1) ((rd_T71 l0_2 x4_1).f2) ((rd_T71 l0_2 x4_1).f3) true _ A11.out).mono ?_); rintro e w26 ⟨rfl, hb⟩; refine ⟨_, rfl, ?_⟩; replace HO_3 := Aside0.mk (Kd.R_below (by refine rk ?_; exact (Kd.R_mono (Kd.R_far (p := ⟨gb492, 3, none⟩) (Kd.R_far (p := ⟨gb492, 2, none⟩) (Kd.R_far (p := ⟨gb492, 1, none⟩) (Kd.R_far (p := ⟨gb492, 0, none⟩) (Kd.R_types HO_3.out BK492.out (by decide)) (fun _ hk => hk.2) (.int .i64 ((rd_T71 l0_2 x4_1).f0))) (fun _ hk => hk.2) (.int .i64 ((rd_T71 l0_2 x4_1).f1))) (fun _ hk => hk.2) (.int .i64 ((rd_T71 l0_2 x4_1).f2))) (fun _ hk => hk.2) (.bool ((rd_T71 l0_2 x4_1).f3))) (fun _ h_ => h_.1))) hb); replace BK486 := Aside0.mk (blk_below (g := gb486) (o := .cells #[.int .i64 a0_0, .slice A0_1 l0_1.length c0_1, .slice (some ad491) l0_2.length c0_2] 30 (0, 0)) (bf BK486.out) hb); replace BK492 := Aside0.mk (blk_below (g := gb492) (o := .cells #[.int .i64 ((rd_T71 l0_2 x4_1).f0), .int .i64 ((rd_T71 l0_2 x4_1).f1), .int .i64 ((rd_T71 l0_2 x4_1).f2), .bool ((rd_T71 l0_2 x4_1).f3)] 71 (0, 0)) (by refine bk ?_; refine blk_put (cs := #[.int .i64 ((rd_T71 l0_2 x4_1).f0), .int .i64 ((rd_T71 l0_2 x4_1).f1), .int .i64 ((rd_T71 l0_2 x4_1).f2), .bool false]) ?_ 3 _ rfl; refine bk ?_; refine blk_put (cs := #[.int .i64 ((rd_T71 l0_2 x4_1).f0), .int .i64 ((rd_T71 l0_2 x4_1).f1), .int .i64 0, .bool false]) ?_ 2 _ rfl; refine bk ?_; refine blk_put (cs := #[.int .i64 ((rd_T71 l0_2 x4_1).f0), .int .i64 0, .int .i64 0, .bool false]) ?_ 1 _ rfl; refine bk ?_; refine blk_put (cs := #[.int .i64 0, .int .i64 0, .int .i64 0, .bool false]) ?_ 0 _ rfl; refine bk ?_; exact BK492.out) hb); replace HB := Aside0.mk (below_step (bl HB.out) hb); (try clear hb); (try clear hb2); (try clear hk); (try clear hi); obtain ⟨hcz27_0, hcz27_1, hcz27_2, hfz27_0, hfz27_1, hfz27_2⟩ := cz3 BK486.out; have p494 : 0 ≤ ((ji14) : Int) := of_decide_eq_true asm; have q494 : (ji14) < (l0_2.length : Int) := of_decide_eq_true asm; obtain ⟨ad494, e494, hx494_0, hx494_1, hx494_2, hx494_3⟩ := at_T71 HR0_2.out (ji14) p494 q494; obtain rfl : ad491 = ad494 := (by injection e494); replace hx494_0 := (HB.out.cell (World.block_lt_of_cell? w _ hx494_0)).trans hx494_0; replace hx494_1 := (HB.out.cell (World.block_lt_of_cell? w _ hx494_1)).trans hx494_1; replace hx494_2 := (HB.out.cell (World.block_lt_of_cell? w _ hx494_2)).trans hx494_2; replace hx494_3 := (HB.out.cell (World.block_lt_of_cell? w _ hx494_3)).trans hx494_3; replace p494 := eq_true p494; replace q494 := eq_true q494) | (go_at_call 75; (with_reducible refine (spec_l02Open.calls ((rd_T71 l0_2 (ji14)).f0) ((rd_T71 l0_2 (ji14)).f1) ((rd_T71 l0_2 (ji14)).f2) ((rd_T71 l0_2 (ji14)).f3) true _ A17.out).mono ?_); rintro e w28 ⟨rfl, hb⟩; replace HO_3 := Aside0.mk (Kd.R_below (rk HO_3.out) hb); replace BK486 := Aside0.mk (bb BK486.out hb); replace BK492 := Aside0.mk (bb BK492.out hb); replace HB := Aside0.mk (below_step (bl HB.out) hb); (try clear hb); (try clear hb2); (try clear hk); (try clear hi); obtain ⟨hcz29_0, hcz29_1, hcz29_2, hfz29_0, hfz29_1, hfz29_2⟩ := cz3 BK486.out; obtain ⟨hcz30_0, hcz30_1, hcz30_2, hcz30_3, hfz30_0, hfz30_1, hfz30_2, hfz30_3⟩ := cz4 BK492.out) | (go_at_call 76; (with_reducible refine (spec_l02Has.calls k1 _ _ l0_1 ((rd_T71 l0_2 x4_1).f0) true _ ?side1 ?side2 A19.out).mono ?_); (case side1 => exact cb (Kd.C_below HR0_1.out HB.out)); (case side2 => exact HC0_1.out); rintro e w' ⟨rfl, ⟨nd, rfl⟩⟩) | ((with_reducible refine gate_builtin (b := .append) (xs := #[.tmp 61, .tmp 67]) rfl ?_); at_builtin; refine Kd.R_append k54 (w0 := w) w.heap.size rfl (.tmp 61) (.tmp 67) 60 54 (.agg #[(.int .i64 0), (.int .i64 0), (.int .i64 0)]) 24 rfl Try.underlying60 info54 rfl (by decide) (by omega) u3 x3_1 (⟨0, (rd_T71 l0_2 x4_1).f0, (rd_T71 l0_2 x4_1).f1⟩ : S54) [.int .i64 0, .int .i64 ((rd_T71 l0_2 x4_1).f0), .int .i64 ((rd_T71 l0_2 x4_1).f1)] (fun _ => True) (fun _ => False) rfl rfl ?aP (fun _ hk => hk.elim) ?aF ?aO ?aB ?aS ?aL ?_; (case aP => exact k54_mkM _ _ _ (⟨0, (rd_T71 l0_2 x4_1).f0, (rd_T71 l0_2 x4_1).f1⟩ : S54)); (case aB => exact (bl HB.out)); (case aF => exact (fun _ _ => trivial)); (case aO => exact (rk HO_3.out)); (case aS => exact (below_size (bl HB.out))); (case aL => have := LMc21.out; omega); intro v498 w31 ho hb hg hat; rw [← Ny497.out] at ho; replace BK486 := Aside0.mk (blk_grown (g := gb486) (o := .cells #[.int .i64 a0_0, .slice A0_1 l0_1.length c0_1, .slice (some ad491) l0_2.length c0_2] 30 (0, 0)) (bk BK486.out) hg (Kd.R_ne HO_3.out BK486.out (by decide))); replace BK492 := Aside0.mk (blk_grown (g := gb492) (o := .cells #[.int .i64 ((rd_T71 l0_2 x4_1).f0), .int .i64 ((rd_T71 l0_2 x4_1).f1), .int .i64 ((rd_T71 l0_2 x4_1).f2), .bool ((rd_T71 l0_2 x4_1).f3)] 71 (0, 0)) (bk BK492.out) hg (Kd.R_ne HO_3.out BK492.out (by decide))); replace HB := Aside0.mk (hb); have HO499 := Aside0.mk (ho); clear HO_3; clear ho hb hg hat))
             go_roundg k1
             case measure => have := HK1.out; omega
             case rel => exact ⟨(y497), (wrap64 (x4_1 + 1)), (by first | rfl | (simp; done) | (simp [*]; done)), H', ⟨by have := HK1.out; omega⟩, ⟨rk HO499.out⟩, ⟨by refine bk ?_; exact BK486.out⟩, ⟨bl HB.out⟩⟩
            ·rw [if_neg c21] at H
             exact absurd H (by simp)
           ·replace c20 := Bool.eq_false_iff.mpr c20
            subst c20
            rw [if_neg (show ¬ (false = true) by decide)] at H
            obtain ⟨ji32, hji32⟩ : ∃ j_ : Int, (wrap64 ((x3_1.length : Int) - 1)) = j_ := ⟨_, rfl⟩
            replace H : (if 0 ≤ (ji32) then (if (ji32) < (x3_1.length : Int) then (spec_GapsOf.l0 k1 (x3_1.set ((ji32) : Int).toNat (⟨(rd_T54 x3_1 (ji32)).f0, (rd_T54 x3_1 (ji32)).f1, wrap64 (((rd_T54 x3_1 (ji32)).f2) + ((rd_T71 l0_2 x4_1).f1))⟩ : S54)) (wrap64 (x4_1 + 1)) a0_0 l0_1 l0_2) else (none)) else (none)) = some r := by first | (rw [hji32] at H; exact H) | (simp only [hji32] at H ⊢; exact H)
            (try rw [hji32] at A11)
            (try rw [hji32] at A17)
            (try rw [hji32] at A19)
            have hji32w : (IntKind.i64.wrap ((x3_1.length : Int) - 1)) = ji32 := (i64_w _).trans hji32
            by_cases c33 : 0 ≤ (ji32)
            ·rw [if_pos c33] at H
             have c33b0 : decide (0 ≤ (ji32)) = true := decide_eq_true c33
             clear c33
             by_cases c34 : (ji32) < (x3_1.length : Int)
             ·rw [if_pos c34] at H
              have c34b0 : decide ((ji32) < (x3_1.length : Int)) = true := decide_eq_true c34
              clear c34
              obtain ⟨y501, hy501⟩ : ∃ y_ : List (S54), y_ = (x3_1.set ((ji32) : Int).toNat (⟨(rd_T54 x3_1 (ji32)).f0, (rd_T54 x3_1 (ji32)).f1, wrap64 (((rd_T54 x3_1 (ji32)).f2) + ((rd_T71 l0_2 x4_1).f1))⟩ : S54)) := ⟨_, rfl⟩
              replace H : (spec_GapsOf.l0 k1 y501 (wrap64 (x4_1 + 1)) a0_0 l0_1 l0_2) = some r := by first | (rw [hy501]; with_reducible exact H) | (have H2_ := (Option.bind_some _ _).symm.trans H; rw [hy501]; with_reducible exact H2_) | (have H2_ := (Option.bind_some _ _).symm.trans H; with_reducible exact H2_) | with_reducible exact H | (rw [hy501]; exact H) | exact H
              have Ny501 := Aside0.mk hy501
              clear hy501
              have H' := Aside0.mk H
              clear H
              obtain ⟨hcz36_0, hcz36_1, hcz36_2, hfz36_0, hfz36_1, hfz36_2⟩ := cz3 BK486.out
              have p491 : 0 ≤ (x4_1 : Int) := of_decide_eq_true asm
              have q491 : x4_1 < (l0_2.length : Int) := of_decide_eq_true asm
              obtain ⟨ad491, e491, hx491_0, hx491_1, hx491_2, hx491_3⟩ := at_T71 HR0_2.out x4_1 p491 q491
              cases e491
              replace hx491_0 := (HB.out.cell (World.block_lt_of_cell? w _ hx491_0)).trans hx491_0
              replace hx491_1 := (HB.out.cell (World.block_lt_of_cell? w _ hx491_1)).trans hx491_1
              replace hx491_2 := (HB.out.cell (World.block_lt_of_cell? w _ hx491_2)).trans hx491_2
              replace hx491_3 := (HB.out.cell (World.block_lt_of_cell? w _ hx491_3)).trans hx491_3
              replace p491 := eq_true p491
              replace q491 := eq_true q491
              try go_wp2_with (first | ((with_reducible refine gate_dst (N := 5) rfl ?_); refine bx (cs := #[.int .i64 0, .int .i64 0, .int .i64 0, .bool false]) (t := 71) fun gb492 hg w37 hbox hb => ?_; replace HO_3 := Aside0.mk (Kd.R_below (rk HO_3.out) hb); have BK492 := Aside0.mk (hbox); have GW492 := Aside0.mk (gs HB.out hg); have GE492 := Aside0.mk (gs HB.out hg); replace HB := Aside0.mk (below_step (bl HB.out) hb); have NB486_492 := Aside0.mk ((nl BK486.out hg)); have NB492_486 := Aside0.mk ((ng BK486.out hg)); replace BK486 := Aside0.mk (bb BK486.out hb); clear hb hbox hg; have hnb38 := NB492_486.out; have hnc38 := NB486_492.out; obtain ⟨hcz39_0, hcz39_1, hcz39_2, hcz39_3, hfz39_0, hfz39_1, hfz39_2, hfz39_3⟩ := cz4 BK492.out) | ((with_reducible refine gate_callee (f := 75) rfl ?_); refine goesL_ (some 24) rfl rfl Try.func75 (by kernel_rfl) rfl #[.agg #[.int .i64 ((rd_T71 l0_2 x4_1).f0), .int .i64 ((rd_T71 l0_2 x4_1).f1), .int .i64 ((rd_T71 l0_2 x4_1).f2), .bool ((rd_T71 l0_2 x4_1).f3)]] rfl mapd ?_; (with_reducible refine (spec_l02Open.calls ((rd_T71 l0_2 x4_1).f0) ((rd_T71 l0_2 x4_1).f1) ((rd_T71 l0_2 x4_1).f2) ((rd_T71 l0_2 x4_1).f3) true _ A11.out).mono ?_); rintro e w40 ⟨rfl, hb⟩; refine ⟨_, rfl, ?_⟩; replace HO_3 := Aside0.mk (Kd.R_below (by refine rk ?_; exact (Kd.R_mono (Kd.R_far (p := ⟨gb492, 3, none⟩) (Kd.R_far (p := ⟨gb492, 2, none⟩) (Kd.R_far (p := ⟨gb492, 1, none⟩) (Kd.R_far (p := ⟨gb492, 0, none⟩) (Kd.R_types HO_3.out BK492.out (by decide)) (fun _ hk => hk.2) (.int .i64 ((rd_T71 l0_2 x4_1).f0))) (fun _ hk => hk.2) (.int .i64 ((rd_T71 l0_2 x4_1).f1))) (fun _ hk => hk.2) (.int .i64 ((rd_T71 l0_2 x4_1).f2))) (fun _ hk => hk.2) (.bool ((rd_T71 l0_2 x4_1).f3))) (fun _ h_ => h_.1))) hb); replace BK486 := Aside0.mk (blk_below (g := gb486) (o := .cells #[.int .i64 a0_0, .slice A0_1 l0_1.length c0_1, .slice (some ad491) l0_2.length c0_2] 30 (0, 0)) (bf BK486.out) hb); replace BK492 := Aside0.mk (blk_below (g := gb492) (o := .cells #[.int .i64 ((rd_T71 l0_2 x4_1).f0), .int .i64 ((rd_T71 l0_2 x4_1).f1), .int .i64 ((rd_T71 l0_2 x4_1).f2), .bool ((rd_T71 l0_2 x4_1).f3)] 71 (0, 0)) (by refine bk ?_; refine blk_put (cs := #[.int .i64 ((rd_T71 l0_2 x4_1).f0), .int .i64 ((rd_T71 l0_2 x4_1).f1), .int .i64 ((rd_T71 l0_2 x4_1).f2), .bool false]) ?_ 3 _ rfl; refine bk ?_; refine blk_put (cs := #[.int .i64 ((rd_T71 l0_2 x4_1).f0), .int .i64 ((rd_T71 l0_2 x4_1).f1), .int .i64 0, .bool false]) ?_ 2 _ rfl; refine bk ?_; refine blk_put (cs := #[.int .i64 ((rd_T71 l0_2 x4_1).f0), .int .i64 0, .int .i64 0, .bool false]) ?_ 1 _ rfl; refine bk ?_; refine blk_put (cs := #[.int .i64 0, .int .i64 0, .int .i64 0, .bool false]) ?_ 0 _ rfl; refine bk ?_; exact BK492.out) hb); replace HB := Aside0.mk (below_step (bl HB.out) hb); (try clear hb); (try clear hb2); (try clear hk); (try clear hi); obtain ⟨hcz41_0, hcz41_1, hcz41_2, hfz41_0, hfz41_1, hfz41_2⟩ := cz3 BK486.out; have p494 : 0 ≤ ((ji14) : Int) := of_decide_eq_true asm; have q494 : (ji14) < (l0_2.length : Int) := of_decide_eq_true asm; obtain ⟨ad494, e494, hx494_0, hx494_1, hx494_2, hx494_3⟩ := at_T71 HR0_2.out (ji14) p494 q494; obtain rfl : ad491 = ad494 := (by injection e494); replace hx494_0 := (HB.out.cell (World.block_lt_of_cell? w _ hx494_0)).trans hx494_0; replace hx494_1 := (HB.out.cell (World.block_lt_of_cell? w _ hx494_1)).trans hx494_1; replace hx494_2 := (HB.out.cell (World.block_lt_of_cell? w _ hx494_2)).trans hx494_2; replace hx494_3 := (HB.out.cell (World.block_lt_of_cell? w _ hx494_3)).trans hx494_3; replace p494 := eq_true p494; replace q494 := eq_true q494) | (go_at_call 75; (with_reducible refine (spec_l02Open.calls ((rd_T71 l0_2 (ji14)).f0) ((rd_T71 l0_2 (ji14)).f1) ((rd_T71 l0_2 (ji14)).f2) ((rd_T71 l0_2 (ji14)).f3) true _ A17.out).mono ?_); rintro e w42 ⟨rfl, hb⟩; replace HO_3 := Aside0.mk (Kd.R_below (rk HO_3.out) hb); replace BK486 := Aside0.mk (bb BK486.out hb); replace BK492 := Aside0.mk (bb BK492.out hb); replace HB := Aside0.mk (below_step (bl HB.out) hb); (try clear hb); (try clear hb2); (try clear hk); (try clear hi); obtain ⟨hcz43_0, hcz43_1, hcz43_2, hfz43_0, hfz43_1, hfz43_2⟩ := cz3 BK486.out; obtain ⟨hcz44_0, hcz44_1, hcz44_2, hcz44_3, hfz44_0, hfz44_1, hfz44_2, hfz44_3⟩ := cz4 BK492.out) | (go_at_call 76; (with_reducible refine (spec_l02Has.calls k1 _ _ l0_1 ((rd_T71 l0_2 x4_1).f0) false _ ?side1 ?side2 A19.out).mono ?_); (case side1 => exact cb (Kd.C_below HR0_1.out HB.out)); (case side2 => exact HC0_1.out); rintro e w' ⟨rfl, ⟨nd, rfl⟩⟩; (try (rw [drewN_self w42]; generalize hq_ : World.drewN w42 _ = w42; have n0_ : Aside0 (Kd.R k54 54 w42 w.heap.size (fun _ => True) u3 x3_1) := ⟨by rw [← hq_]; exact (rk HO_3.out)⟩; have n1_ : Aside0 (w42.heap[gb486]? = some (.cells #[.int .i64 a0_0, .slice A0_1 l0_1.length c0_1, .slice (some ad491) l0_2.length c0_2] 30 (0, 0))) := ⟨by rw [← hq_]; exact (bk BK486.out)⟩; have n2_ : Aside0 (w42.heap[gb492]? = some (.cells #[.int .i64 ((rd_T71 l0_2 x4_1).f0), .int .i64 ((rd_T71 l0_2 x4_1).f1), .int .i64 ((rd_T71 l0_2 x4_1).f2), .bool ((rd_T71 l0_2 x4_1).f3)] 71 (0, 0))) := ⟨by rw [← hq_]; exact (bk BK492.out)⟩; have n3_ : Aside0 (Below w.heap.size w w42) := ⟨by rw [← hq_]; exact (bl HB.out)⟩; clear HO_3 BK486 BK492 HB hq_; have HO_3 := n0_; have BK486 := n1_; have BK492 := n2_; have HB := n3_; clear n0_ n1_ n2_ n3_))))
              replace HO_3 := Aside0.mk (Kd.R_drew HO_3.out)
              replace BK486 := Aside0.mk (blk_drew BK486.out)
              replace BK492 := Aside0.mk (blk_drew BK492.out)
              replace HB := Aside0.mk (below_drew1 HB.out)
              obtain ⟨Ao46, co46, eo46⟩ := Kd.R_slice HO_3.out
              (first | subst eo46 | (injection eo46 with f1_ f2_ f3_; have f4_ := f1_.symm; have f5_ := f3_.symm; clear f1_ f2_ f3_; subst f4_; subst f5_))
              have p500 : 0 ≤ ((ji32) : Int) := of_decide_eq_true asm
              have q500 : (ji32) < (x3_1.length : Int) := of_decide_eq_true asm
              obtain ⟨ad500, e500, hx500_0, hx500_1, hx500_2⟩ := at_T54 (Kd.R_reads' HO_3.out).2.2 (ji32) p500 q500
              cases e500
              replace p500 := eq_true p500
              replace q500 := eq_true q500
              have p35 : 0 ≤ ((ji32) : Int) := of_decide_eq_true asm
              have q35 : ((ji32) : Int) < ((x3_1.length : Int) : Int) := of_decide_eq_true asm
              obtain ⟨go35, co35, eo35, gb35, gl35, cl35, HG35⟩ := Kd.R_form HO_3.out (by omega)
              (first | cases eo35 | (injection eo35 with ea_ en_ ec_; (first | subst ea_ | (injection ea_ with ea_; subst ea_)); subst ec_; clear en_))
              have GB35 := Aside0.mk gb35
              have GG35 := Aside0.mk HG35
              clear gb35 gl35 HG35
              (first | simp only [add_plain] at hx500_0 | skip)
              (first | simp only [add_plain] at hx500_1 | skip)
              (first | simp only [add_plain] at hx500_2 | skip)
              obtain ⟨ce35, hcl35, hM35, hcc35, hfr35⟩ := Kd.R_elem HO_3.out z54 ((ji32) : Int) p35 q35
              obtain rfl := k54_openM hM35
              have hx35_0 : World.cell? _ ⟨go35, ((ji32) : Int).toNat * 3, none⟩ = some (.int .i64 ((rd_T54 x3_1 (ji32)).f0)) := hcc35 0 _ rfl
              have hx35_1 : World.cell? _ ⟨go35, ((ji32) : Int).toNat * 3 + 1, none⟩ = some (.int .i64 ((rd_T54 x3_1 (ji32)).f1)) := hcc35 1 _ rfl
              have hx35_2 : World.cell? _ ⟨go35, ((ji32) : Int).toNat * 3 + 2, none⟩ = some (.int .i64 ((rd_T54 x3_1 (ji32)).f2)) := hcc35 2 _ rfl
              have hf35_0 : World.frozen? _ ⟨go35, ((ji32) : Int).toNat * 3, none⟩ = false := hfr35 0
              have hf35_1 : World.frozen? _ ⟨go35, ((ji32) : Int).toNat * 3 + 1, none⟩ = false := hfr35 1
              have hf35_2 : World.frozen? _ ⟨go35, ((ji32) : Int).toNat * 3 + 2, none⟩ = false := hfr35 2
              clear hcl35 hcc35 hfr35 hM35
              replace p35 := eq_true p35
              replace q35 := eq_true q35
              obtain ⟨ce47, hcl47, hM47, hcc47, hfr47⟩ := Kd.R_elem HO_3.out z54 ((ji32) : Int) (of_decide_eq_true asm) (by have h_ : ((ji32) : Int) < ((x3_1.length : Int) : Int) := of_decide_eq_true asm; first | exact h_ | (have e_ := (Kd.R_reads' HO_3.out).1; omega) | simpa using h_)
              obtain rfl := k54_openM hM47
              have HP47 := (Kd.R_seg HO_3.out ((ji32) : Int) (of_decide_eq_true asm) (by have h_ : ((ji32) : Int) < ((x3_1.length : Int) : Int) := of_decide_eq_true asm; first | exact h_ | (have e_ := (Kd.R_reads' HO_3.out).1; omega) | simpa using h_) (seg := [.int .i64 (wrap64 (((rd_T54 x3_1 (ji32)).f2) + ((rd_T71 l0_2 x4_1).f1)))]) (j := 2) hcl47 hcc47 (show 3 ≤ 3 from by decide) (x' := (⟨(rd_T54 x3_1 (ji32)).f0, (rd_T54 x3_1 (ji32)).f1, wrap64 (((rd_T54 x3_1 (ji32)).f2) + ((rd_T71 l0_2 x4_1).f1))⟩ : S54)) (k54_mkM _ _ _ (⟨(rd_T54 x3_1 (ji32)).f0, (rd_T54 x3_1 (ji32)).f1, wrap64 (((rd_T54 x3_1 (ji32)).f2) + ((rd_T71 l0_2 x4_1).f1))⟩ : S54) ) (fun _ hk => hk)).1
              rw [← Ny501.out] at HP47
              have HQ47 := Aside0.mk HP47
              clear hcl47 hcc47 hfr47 hM47 HP47
              refine start_ (n := 17) (S := fun w' => w'.cell? ⟨gb492, 0, none⟩ = some (.int .i64 ((rd_T71 l0_2 x4_1).f0)) ∧ w'.cell? ⟨gb492, 1, none⟩ = some (.int .i64 ((rd_T71 l0_2 x4_1).f1)) ∧ w'.cell? ⟨gb492, 2, none⟩ = some (.int .i64 ((rd_T71 l0_2 x4_1).f2)) ∧ w'.cell? ⟨gb492, 3, none⟩ = some (.bool ((rd_T71 l0_2 x4_1).f3)) ∧ w'.cell? (⟨go35, ((ji32)).toNat * 3, none⟩ : Addr) = some (.int .i64 ((rd_T54 x3_1 (ji32)).f0)) ∧ w'.cell? ⟨go35, ((ji32)).toNat * 3 + 1, none⟩ = some (.int .i64 ((rd_T54 x3_1 (ji32)).f1)) ∧ w'.cell? ⟨go35, ((ji32)).toNat * 3 + 2, none⟩ = some (.int .i64 ((rd_T54 x3_1 (ji32)).f2))) (ds := [16]) #[false, false, false, false, false, false, false, false, false, false, false, false, false, false, false, false, false] (by kernel_rfl) rfl rfl ⟨(blk_cell BK492.out 0).trans rfl, (blk_cell BK492.out 1).trans rfl, (blk_cell BK492.out 2).trans rfl, (blk_cell BK492.out 3).trans rfl, hx500_0, hx500_1, hx500_2⟩ (fun hHeld => ?_); refine with_tabW spec_GapsOf.tab10 spec_GapsOf.bits10 (fun HT_ HW_ => ?_)
              generalize w42.drew = w45 at HO_3 BK486 BK492 HB GG35 HQ47 hf35_0 hf35_1 hf35_2 hx35_0 hx35_1 hx35_2 hx500_0 hx500_1 hx500_2 hHeld ⊢
              refine puA (i := 0) (N := some 45) HT_.out ?_
              refine puA (i := 1) (N := some 46) HT_.out ?_
              refine puA (i := 2) (N := some 47) HT_.out ?_
              refine puA (i := 3) (N := some 48) HT_.out ?_
              refine puA (i := 4) (N := some 49) HT_.out ?_
              refine puA (i := 5) (N := some 50) HT_.out ?_
              refine puA (i := 6) (N := some 51) HT_.out ?_
              refine puA (i := 7) (N := some 52) HT_.out ?_
              refine puA (i := 8) (N := some 53) HT_.out ?_
              refine puA (i := 9) (N := some 54) HT_.out ?_
              refine puA (i := 11) (N := some 56) HT_.out ?_
              refine tkA7 (i := 10) (N := some 55) HT_.out HW_.out hHeld ?_
              refine tkA7 (i := 12) (N := some 57) HT_.out HW_.out hHeld ?_
              refine puA (i := 13) (N := some 58) HT_.out ?_
              refine puA (i := 14) (N := some 59) HT_.out ?_
              refine puA (i := 15) (N := some 60) HT_.out ?_
              refine last_ (i := 16) (N := none) #[true, true, true, true, true, true, true, true, true, true, true, true, true, true, true, true, true] rfl rfl (one_of HT_.out (by kernel_rfl)) (by decide) (fun K hK => ?_)
              refine skip_ (w1 := ?_) (by rfl) rfl ?_ ?_
              rotate_left
              ·go_simp
               rfl
              refine hK.out _ _ ?_
              clear hK K
              refine done_ (done_of HT_.out (by kernel_rfl)) ?_
              try go_wp2
              go_roundg k1
              case measure => have := HK1.out; omega
              case rel => exact ⟨(y501), (wrap64 (x4_1 + 1)), (by first | rfl | (simp; done) | (simp [*]; done)), H', ⟨by have := HK1.out; omega⟩, ⟨rk HQ47.out⟩, ⟨by refine bk ?_; refine blk_far ?_ (by have h_ := Kd.R_ne HO_3.out BK486.out (by decide); intro e_; exact h_ (by rw [e_]; rfl)) _; refine bk ?_; exact BK486.out⟩, ⟨by repeat (first | (with_reducible first | exact HB.out | apply below_alloc | apply pw_below_drewN | apply below_drew1 | refine below_set ?_ GB35.out | refine below_set ?_ GE486.out | refine below_set ?_ GE492.out) | exact HB.out)⟩⟩
             ·rw [if_neg c34] at H
              exact absurd H (by simp)
            ·rw [if_neg c33] at H
             exact absurd H (by simp)
          ·replace c18 := Bool.eq_false_iff.mpr c18
           subst c18
           rw [if_neg (show ¬ (false = true) by decide)] at H
           by_cases c48 : x3_1.length < 5864062014805
           ·rw [if_pos c48] at H
            have LMc48 := Aside0.mk c48
            clear c48
            obtain ⟨y502, hy502⟩ : ∃ y_ : List (S54), y_ = (x3_1 ++ [(⟨0, (rd_T71 l0_2 x4_1).f0, (rd_T71 l0_2 x4_1).f1⟩ : S54)]) := ⟨_, rfl⟩
            replace H : (spec_GapsOf.l0 k1 y502 (wrap64 (x4_1 + 1)) a0_0 l0_1 l0_2) = some r := by first | (rw [hy502]; with_reducible exact H) | (have H2_ := (Option.bind_some _ _).symm.trans H; rw [hy502]; with_reducible exact H2_) | (have H2_ := (Option.bind_some _ _).symm.trans H; with_reducible exact H2_) | with_reducible exact H | (rw [hy502]; exact H) | exact H
            have Ny502 := Aside0.mk hy502
            clear hy502
            have H' := Aside0.mk H
            clear H
            obtain ⟨hcz49_0, hcz49_1, hcz49_2, hfz49_0, hfz49_1, hfz49_2⟩ := cz3 BK486.out
            have p491 : 0 ≤ (x4_1 : Int) := of_decide_eq_true asm
            have q491 : x4_1 < (l0_2.length : Int) := of_decide_eq_true asm
            obtain ⟨ad491, e491, hx491_0, hx491_1, hx491_2, hx491_3⟩ := at_T71 HR0_2.out x4_1 p491 q491
            cases e491
            replace hx491_0 := (HB.out.cell (World.block_lt_of_cell? w _ hx491_0)).trans hx491_0
            replace hx491_1 := (HB.out.cell (World.block_lt_of_cell? w _ hx491_1)).trans hx491_1
            replace hx491_2 := (HB.out.cell (World.block_lt_of_cell? w _ hx491_2)).trans hx491_2
            replace hx491_3 := (HB.out.cell (World.block_lt_of_cell? w _ hx491_3)).trans hx491_3
            replace p491 := eq_true p491
            replace q491 := eq_true q491
            go_wp2_with (first | ((with_reducible refine gate_dst (N := 5) rfl ?_); refine bx (cs := #[.int .i64 0, .int .i64 0, .int .i64 0, .bool false]) (t := 71) fun gb492 hg w50 hbox hb => ?_; replace HO_3 := Aside0.mk (Kd.R_below (rk HO_3.out) hb); have BK492 := Aside0.mk (hbox); have GW492 := Aside0.mk (gs HB.out hg); have GE492 := Aside0.mk (gs HB.out hg); replace HB := Aside0.mk (below_step (bl HB.out) hb); have NB486_492 := Aside0.mk ((nl BK486.out hg)); have NB492_486 := Aside0.mk ((ng BK486.out hg)); replace BK486 := Aside0.mk (bb BK486.out hb); clear hb hbox hg; have hnb51 := NB492_486.out; have hnc51 := NB486_492.out; obtain ⟨hcz52_0, hcz52_1, hcz52_2, hcz52_3, hfz52_0, hfz52_1, hfz52_2, hfz52_3⟩ := cz4 BK492.out) | ((with_reducible refine gate_callee (f := 75) rfl ?_); refine goesL_ (some 24) rfl rfl Try.func75 (by kernel_rfl) rfl #[.agg #[.int .i64 ((rd_T71 l0_2 x4_1).f0), .int .i64 ((rd_T71 l0_2 x4_1).f1), .int .i64 ((rd_T71 l0_2 x4_1).f2), .bool ((rd_T71 l0_2 x4_1).f3)]] rfl mapd ?_; (with_reducible refine (spec_l02Open.calls ((rd_T71 l0_2 x4_1).f0) ((rd_T71 l0_2 x4_1).f1) ((rd_T71 l0_2 x4_1).f2) ((rd_T71 l0_2 x4_1).f3) true _ A11.out).mono ?_); rintro e w53 ⟨rfl, hb⟩; refine ⟨_, rfl, ?_⟩; replace HO_3 := Aside0.mk (Kd.R_below (by refine rk ?_; exact (Kd.R_mono (Kd.R_far (p := ⟨gb492, 3, none⟩) (Kd.R_far (p := ⟨gb492, 2, none⟩) (Kd.R_far (p := ⟨gb492, 1, none⟩) (Kd.R_far (p := ⟨gb492, 0, none⟩) (Kd.R_types HO_3.out BK492.out (by decide)) (fun _ hk => hk.2) (.int .i64 ((rd_T71 l0_2 x4_1).f0))) (fun _ hk => hk.2) (.int .i64 ((rd_T71 l0_2 x4_1).f1))) (fun _ hk => hk.2) (.int .i64 ((rd_T71 l0_2 x4_1).f2))) (fun _ hk => hk.2) (.bool ((rd_T71 l0_2 x4_1).f3))) (fun _ h_ => h_.1))) hb); replace BK486 := Aside0.mk (blk_below (g := gb486) (o := .cells #[.int .i64 a0_0, .slice A0_1 l0_1.length c0_1, .slice (some ad491) l0_2.length c0_2] 30 (0, 0)) (bf BK486.out) hb); replace BK492 := Aside0.mk (blk_below (g := gb492) (o := .cells #[.int .i64 ((rd_T71 l0_2 x4_1).f0), .int .i64 ((rd_T71 l0_2 x4_1).f1), .int .i64 ((rd_T71 l0_2 x4_1).f2), .bool ((rd_T71 l0_2 x4_1).f3)] 71 (0, 0)) (by refine bk ?_; refine blk_put (cs := #[.int .i64 ((rd_T71 l0_2 x4_1).f0), .int .i64 ((rd_T71 l0_2 x4_1).f1), .int .i64 ((rd_T71 l0_2 x4_1).f2), .bool false]) ?_ 3 _ rfl; refine bk ?_; refine blk_put (cs := #[.int .i64 ((rd_T71 l0_2 x4_1).f0), .int .i64 ((rd_T71 l0_2 x4_1).f1), .int .i64 0, .bool false]) ?_ 2 _ rfl; refine bk ?_; refine blk_put (cs := #[.int .i64 ((rd_T71 l0_2 x4_1).f0), .int .i64 0, .int .i64 0, .bool false]) ?_ 1 _ rfl; refine bk ?_; refine blk_put (cs := #[.int .i64 0, .int .i64 0, .int .i64 0, .bool false]) ?_ 0 _ rfl; refine bk ?_; exact BK492.out) hb); replace HB := Aside0.mk (below_step (bl HB.out) hb); (try clear hb); (try clear hb2); (try clear hk); (try clear hi); obtain ⟨hcz54_0, hcz54_1, hcz54_2, hfz54_0, hfz54_1, hfz54_2⟩ := cz3 BK486.out; have p494 : 0 ≤ ((ji14) : Int) := of_decide_eq_true asm; have q494 : (ji14) < (l0_2.length : Int) := of_decide_eq_true asm; obtain ⟨ad494, e494, hx494_0, hx494_1, hx494_2, hx494_3⟩ := at_T71 HR0_2.out (ji14) p494 q494; obtain rfl : ad491 = ad494 := (by injection e494); replace hx494_0 := (HB.out.cell (World.block_lt_of_cell? w _ hx494_0)).trans hx494_0; replace hx494_1 := (HB.out.cell (World.block_lt_of_cell? w _ hx494_1)).trans hx494_1; replace hx494_2 := (HB.out.cell (World.block_lt_of_cell? w _ hx494_2)).trans hx494_2; replace hx494_3 := (HB.out.cell (World.block_lt_of_cell? w _ hx494_3)).trans hx494_3; replace p494 := eq_true p494; replace q494 := eq_true q494) | (go_at_call 75; (with_reducible refine (spec_l02Open.calls ((rd_T71 l0_2 (ji14)).f0) ((rd_T71 l0_2 (ji14)).f1) ((rd_T71 l0_2 (ji14)).f2) ((rd_T71 l0_2 (ji14)).f3) false _ A17.out).mono ?_); rintro e w55 ⟨rfl, hb⟩; replace HO_3 := Aside0.mk (Kd.R_below (rk HO_3.out) hb); replace BK486 := Aside0.mk (bb BK486.out hb); replace BK492 := Aside0.mk (bb BK492.out hb); replace HB := Aside0.mk (below_step (bl HB.out) hb); (try clear hb); (try clear hb2); (try clear hk); (try clear hi); obtain ⟨hcz56_0, hcz56_1, hcz56_2, hcz56_3, hfz56_0, hfz56_1, hfz56_2, hfz56_3⟩ := cz4 BK492.out) | ((with_reducible refine gate_builtin (b := .append) (xs := #[.tmp 61, .tmp 67]) rfl ?_); at_builtin; refine Kd.R_append k54 (w0 := w) w.heap.size rfl (.tmp 61) (.tmp 67) 60 54 (.agg #[(.int .i64 0), (.int .i64 0), (.int .i64 0)]) 24 rfl Try.underlying60 info54 rfl (by decide) (by omega) u3 x3_1 (⟨0, (rd_T71 l0_2 x4_1).f0, (rd_T71 l0_2 x4_1).f1⟩ : S54) [.int .i64 0, .int .i64 ((rd_T71 l0_2 x4_1).f0), .int .i64 ((rd_T71 l0_2 x4_1).f1)] (fun _ => True) (fun _ => False) rfl rfl ?aP (fun _ hk => hk.elim) ?aF ?aO ?aB ?aS ?aL ?_; (case aP => exact k54_mkM _ _ _ (⟨0, (rd_T71 l0_2 x4_1).f0, (rd_T71 l0_2 x4_1).f1⟩ : S54)); (case aB => exact (bl HB.out)); (case aF => exact (fun _ _ => trivial)); (case aO => exact (rk HO_3.out)); (case aS => exact (below_size (bl HB.out))); (case aL => have := LMc48.out; omega); intro v503 w57 ho hb hg hat; rw [← Ny502.out] at ho; replace BK486 := Aside0.mk (blk_grown (g := gb486) (o := .cells #[.int .i64 a0_0, .slice A0_1 l0_1.length c0_1, .slice (some ad491) l0_2.length c0_2] 30 (0, 0)) (bk BK486.out) hg (Kd.R_ne HO_3.out BK486.out (by decide))); replace BK492 := Aside0.mk (blk_grown (g := gb492) (o := .cells #[.int .i64 ((rd_T71 l0_2 x4_1).f0), .int .i64 ((rd_T71 l0_2 x4_1).f1), .int .i64 ((rd_T71 l0_2 x4_1).f2), .bool ((rd_T71 l0_2 x4_1).f3)] 71 (0, 0)) (bk BK492.out) hg (Kd.R_ne HO_3.out BK492.out (by decide))); replace HB := Aside0.mk (hb); have HO504 := Aside0.mk (ho); clear HO_3; clear ho hb hg hat))
            go_roundg k1
            case measure => have := HK1.out; omega
            case rel => exact ⟨(y502), (wrap64 (x4_1 + 1)), (by first | rfl | (simp; done) | (simp [*]; done)), H', ⟨by have := HK1.out; omega⟩, ⟨rk HO504.out⟩, ⟨by refine bk ?_; exact BK486.out⟩, ⟨bl HB.out⟩⟩
           ·rw [if_neg c48] at H
            exact absurd H (by simp)
         ·rw [if_neg c16] at H
          exact absurd H (by simp)
        ·rw [if_neg c15] at H
         exact absurd H (by simp)
       ·rw [if_neg c13] at H
        have c13b0 : decide (0 < x4_1) = false := decide_eq_false c13
        clear c13
        by_cases c58 : x3_1.length < 5864062014805
        ·rw [if_pos c58] at H
         have LMc58 := Aside0.mk c58
         clear c58
         obtain ⟨y505, hy505⟩ : ∃ y_ : List (S54), y_ = (x3_1 ++ [(⟨0, (rd_T71 l0_2 x4_1).f0, (rd_T71 l0_2 x4_1).f1⟩ : S54)]) := ⟨_, rfl⟩
         replace H : (spec_GapsOf.l0 k1 y505 (wrap64 (x4_1 + 1)) a0_0 l0_1 l0_2) = some r := by first | (rw [hy505]; with_reducible exact H) | (have H2_ := (Option.bind_some _ _).symm.trans H; rw [hy505]; with_reducible exact H2_) | (have H2_ := (Option.bind_some _ _).symm.trans H; with_reducible exact H2_) | with_reducible exact H | (rw [hy505]; exact H) | exact H
         have Ny505 := Aside0.mk hy505
         clear hy505
         have H' := Aside0.mk H
         clear H
         obtain ⟨hcz59_0, hcz59_1, hcz59_2, hfz59_0, hfz59_1, hfz59_2⟩ := cz3 BK486.out
         have p491 : 0 ≤ (x4_1 : Int) := of_decide_eq_true asm
         have q491 : x4_1 < (l0_2.length : Int) := of_decide_eq_true asm
         obtain ⟨ad491, e491, hx491_0, hx491_1, hx491_2, hx491_3⟩ := at_T71 HR0_2.out x4_1 p491 q491
         cases e491
         replace hx491_0 := (HB.out.cell (World.block_lt_of_cell? w _ hx491_0)).trans hx491_0
         replace hx491_1 := (HB.out.cell (World.block_lt_of_cell? w _ hx491_1)).trans hx491_1
         replace hx491_2 := (HB.out.cell (World.block_lt_of_cell? w _ hx491_2)).trans hx491_2
         replace hx491_3 := (HB.out.cell (World.block_lt_of_cell? w _ hx491_3)).trans hx491_3
         replace p491 := eq_true p491
         replace q491 := eq_true q491
         go_wp2_with (first | ((with_reducible refine gate_dst (N := 5) rfl ?_); refine bx (cs := #[.int .i64 0, .int .i64 0, .int .i64 0, .bool false]) (t := 71) fun gb492 hg w60 hbox hb => ?_; replace HO_3 := Aside0.mk (Kd.R_below (rk HO_3.out) hb); have BK492 := Aside0.mk (hbox); have GW492 := Aside0.mk (gs HB.out hg); have GE492 := Aside0.mk (gs HB.out hg); replace HB := Aside0.mk (below_step (bl HB.out) hb); have NB486_492 := Aside0.mk ((nl BK486.out hg)); have NB492_486 := Aside0.mk ((ng BK486.out hg)); replace BK486 := Aside0.mk (bb BK486.out hb); clear hb hbox hg; have hnb61 := NB492_486.out; have hnc61 := NB486_492.out; obtain ⟨hcz62_0, hcz62_1, hcz62_2, hcz62_3, hfz62_0, hfz62_1, hfz62_2, hfz62_3⟩ := cz4 BK492.out) | ((with_reducible refine gate_callee (f := 75) rfl ?_); refine goesL_ (some 24) rfl rfl Try.func75 (by kernel_rfl) rfl #[.agg #[.int .i64 ((rd_T71 l0_2 x4_1).f0), .int .i64 ((rd_T71 l0_2 x4_1).f1), .int .i64 ((rd_T71 l0_2 x4_1).f2), .bool ((rd_T71 l0_2 x4_1).f3)]] rfl mapd ?_; (with_reducible refine (spec_l02Open.calls ((rd_T71 l0_2 x4_1).f0) ((rd_T71 l0_2 x4_1).f1) ((rd_T71 l0_2 x4_1).f2) ((rd_T71 l0_2 x4_1).f3) true _ A11.out).mono ?_); rintro e w63 ⟨rfl, hb⟩; refine ⟨_, rfl, ?_⟩; replace HO_3 := Aside0.mk (Kd.R_below (by refine rk ?_; exact (Kd.R_mono (Kd.R_far (p := ⟨gb492, 3, none⟩) (Kd.R_far (p := ⟨gb492, 2, none⟩) (Kd.R_far (p := ⟨gb492, 1, none⟩) (Kd.R_far (p := ⟨gb492, 0, none⟩) (Kd.R_types HO_3.out BK492.out (by decide)) (fun _ hk => hk.2) (.int .i64 ((rd_T71 l0_2 x4_1).f0))) (fun _ hk => hk.2) (.int .i64 ((rd_T71 l0_2 x4_1).f1))) (fun _ hk => hk.2) (.int .i64 ((rd_T71 l0_2 x4_1).f2))) (fun _ hk => hk.2) (.bool ((rd_T71 l0_2 x4_1).f3))) (fun _ h_ => h_.1))) hb); replace BK486 := Aside0.mk (blk_below (g := gb486) (o := .cells #[.int .i64 a0_0, .slice A0_1 l0_1.length c0_1, .slice (some ad491) l0_2.length c0_2] 30 (0, 0)) (bf BK486.out) hb); replace BK492 := Aside0.mk (blk_below (g := gb492) (o := .cells #[.int .i64 ((rd_T71 l0_2 x4_1).f0), .int .i64 ((rd_T71 l0_2 x4_1).f1), .int .i64 ((rd_T71 l0_2 x4_1).f2), .bool ((rd_T71 l0_2 x4_1).f3)] 71 (0, 0)) (by refine bk ?_; refine blk_put (cs := #[.int .i64 ((rd_T71 l0_2 x4_1).f0), .int .i64 ((rd_T71 l0_2 x4_1).f1), .int .i64 ((rd_T71 l0_2 x4_1).f2), .bool false]) ?_ 3 _ rfl; refine bk ?_; refine blk_put (cs := #[.int .i64 ((rd_T71 l0_2 x4_1).f0), .int .i64 ((rd_T71 l0_2 x4_1).f1), .int .i64 0, .bool false]) ?_ 2 _ rfl; refine bk ?_; refine blk_put (cs := #[.int .i64 ((rd_T71 l0_2 x4_1).f0), .int .i64 0, .int .i64 0, .bool false]) ?_ 1 _ rfl; refine bk ?_; refine blk_put (cs := #[.int .i64 0, .int .i64 0, .int .i64 0, .bool false]) ?_ 0 _ rfl; refine bk ?_; exact BK492.out) hb); replace HB := Aside0.mk (below_step (bl HB.out) hb); (try clear hb); (try clear hb2); (try clear hk); (try clear hi); obtain ⟨hcz64_0, hcz64_1, hcz64_2, hcz64_3, hfz64_0, hfz64_1, hfz64_2, hfz64_3⟩ := cz4 BK492.out) | ((with_reducible refine gate_builtin (b := .append) (xs := #[.tmp 61, .tmp 67]) rfl ?_); at_builtin; refine Kd.R_append k54 (w0 := w) w.heap.size rfl (.tmp 61) (.tmp 67) 60 54 (.agg #[(.int .i64 0), (.int .i64 0), (.int .i64 0)]) 24 rfl Try.underlying60 info54 rfl (by decide) (by omega) u3 x3_1 (⟨0, (rd_T71 l0_2 x4_1).f0, (rd_T71 l0_2 x4_1).f1⟩ : S54) [.int .i64 0, .int .i64 ((rd_T71 l0_2 x4_1).f0), .int .i64 ((rd_T71 l0_2 x4_1).f1)] (fun _ => True) (fun _ => False) rfl rfl ?aP (fun _ hk => hk.elim) ?aF ?aO ?aB ?aS ?aL ?_; (case aP => exact k54_mkM _ _ _ (⟨0, (rd_T71 l0_2 x4_1).f0, (rd_T71 l0_2 x4_1).f1⟩ : S54)); (case aB => exact (bl HB.out)); (case aF => exact (fun _ _ => trivial)); (case aO => exact (rk HO_3.out)); (case aS => exact (below_size (bl HB.out))); (case aL => have := LMc58.out; omega); intro v506 w65 ho hb hg hat; rw [← Ny505.out] at ho; replace BK486 := Aside0.mk (blk_grown (g := gb486) (o := .cells #[.int .i64 a0_0, .slice A0_1 l0_1.length c0_1, .slice (some ad491) l0_2.length c0_2] 30 (0, 0)) (bk BK486.out) hg (Kd.R_ne HO_3.out BK486.out (by decide))); replace BK492 := Aside0.mk (blk_grown (g := gb492) (o := .cells #[.int .i64 ((rd_T71 l0_2 x4_1).f0), .int .i64 ((rd_T71 l0_2 x4_1).f1), .int .i64 ((rd_T71 l0_2 x4_1).f2), .bool ((rd_T71 l0_2 x4_1).f3)] 71 (0, 0)) (bk BK492.out) hg (Kd.R_ne HO_3.out BK492.out (by decide))); replace HB := Aside0.mk (hb); have HO507 := Aside0.mk (ho); clear HO_3; clear ho hb hg hat))
         go_roundg k1
         case measure => have := HK1.out; omega
         case rel => exact ⟨(y505), (wrap64 (x4_1 + 1)), (by first | rfl | (simp; done) | (simp [*]; done)), H', ⟨by have := HK1.out; omega⟩, ⟨rk HO507.out⟩, ⟨by refine bk ?_; exact BK486.out⟩, ⟨bl HB.out⟩⟩
        ·rw [if_neg c58] at H
         exact absurd H (by simp)
      ·replace c12 := Bool.eq_false_iff.mpr c12
       subst c12
       rw [if_neg (show ¬ (false = true) by decide)] at H
       have H' := Aside0.mk H
       clear H
       obtain ⟨hcz66_0, hcz66_1, hcz66_2, hfz66_0, hfz66_1, hfz66_2⟩ := cz3 BK486.out
       have p491 : 0 ≤ (x4_1 : Int) := of_decide_eq_true asm
       have q491 : x4_1 < (l0_2.length : Int) := of_decide_eq_true asm
       obtain ⟨ad491, e491, hx491_0, hx491_1, hx491_2, hx491_3⟩ := at_T71 HR0_2.out x4_1 p491 q491
       cases e491
       replace hx491_0 := (HB.out.cell (World.block_lt_of_cell? w _ hx491_0)).trans hx491_0
       replace hx491_1 := (HB.out.cell (World.block_lt_of_cell? w _ hx491_1)).trans hx491_1
       replace hx491_2 := (HB.out.cell (World.block_lt_of_cell? w _ hx491_2)).trans hx491_2
       replace hx491_3 := (HB.out.cell (World.block_lt_of_cell? w _ hx491_3)).trans hx491_3
       replace p491 := eq_true p491
       replace q491 := eq_true q491
       go_wp2_with (first | ((with_reducible refine gate_dst (N := 5) rfl ?_); refine bx (cs := #[.int .i64 0, .int .i64 0, .int .i64 0, .bool false]) (t := 71) fun gb492 hg w67 hbox hb => ?_; replace HO_3 := Aside0.mk (Kd.R_below (rk HO_3.out) hb); have BK492 := Aside0.mk (hbox); have GW492 := Aside0.mk (gs HB.out hg); have GE492 := Aside0.mk (gs HB.out hg); replace HB := Aside0.mk (below_step (bl HB.out) hb); have NB486_492 := Aside0.mk ((nl BK486.out hg)); have NB492_486 := Aside0.mk ((ng BK486.out hg)); replace BK486 := Aside0.mk (bb BK486.out hb); clear hb hbox hg; have hnb68 := NB492_486.out; have hnc68 := NB486_492.out; obtain ⟨hcz69_0, hcz69_1, hcz69_2, hcz69_3, hfz69_0, hfz69_1, hfz69_2, hfz69_3⟩ := cz4 BK492.out) | ((with_reducible refine gate_callee (f := 75) rfl ?_); refine goesL_ (some 24) rfl rfl Try.func75 (by kernel_rfl) rfl #[.agg #[.int .i64 ((rd_T71 l0_2 x4_1).f0), .int .i64 ((rd_T71 l0_2 x4_1).f1), .int .i64 ((rd_T71 l0_2 x4_1).f2), .bool ((rd_T71 l0_2 x4_1).f3)]] rfl mapd ?_; (with_reducible refine (spec_l02Open.calls ((rd_T71 l0_2 x4_1).f0) ((rd_T71 l0_2 x4_1).f1) ((rd_T71 l0_2 x4_1).f2) ((rd_T71 l0_2 x4_1).f3) false _ A11.out).mono ?_); rintro e w70 ⟨rfl, hb⟩; refine ⟨_, rfl, ?_⟩; replace HO_3 := Aside0.mk (Kd.R_below (by refine rk ?_; exact (Kd.R_mono (Kd.R_far (p := ⟨gb492, 3, none⟩) (Kd.R_far (p := ⟨gb492, 2, none⟩) (Kd.R_far (p := ⟨gb492, 1, none⟩) (Kd.R_far (p := ⟨gb492, 0, none⟩) (Kd.R_types HO_3.out BK492.out (by decide)) (fun _ hk => hk.2) (.int .i64 ((rd_T71 l0_2 x4_1).f0))) (fun _ hk => hk.2) (.int .i64 ((rd_T71 l0_2 x4_1).f1))) (fun _ hk => hk.2) (.int .i64 ((rd_T71 l0_2 x4_1).f2))) (fun _ hk => hk.2) (.bool ((rd_T71 l0_2 x4_1).f3))) (fun _ h_ => h_.1))) hb); replace BK486 := Aside0.mk (blk_below (g := gb486) (o := .cells #[.int .i64 a0_0, .slice A0_1 l0_1.length c0_1, .slice (some ad491) l0_2.length c0_2] 30 (0, 0)) (bf BK486.out) hb); replace BK492 := Aside0.mk (blk_below (g := gb492) (o := .cells #[.int .i64 ((rd_T71 l0_2 x4_1).f0), .int .i64 ((rd_T71 l0_2 x4_1).f1), .int .i64 ((rd_T71 l0_2 x4_1).f2), .bool ((rd_T71 l0_2 x4_1).f3)] 71 (0, 0)) (by refine bk ?_; refine blk_put (cs := #[.int .i64 ((rd_T71 l0_2 x4_1).f0), .int .i64 ((rd_T71 l0_2 x4_1).f1), .int .i64 ((rd_T71 l0_2 x4_1).f2), .bool false]) ?_ 3 _ rfl; refine bk ?_; refine blk_put (cs := #[.int .i64 ((rd_T71 l0_2 x4_1).f0), .int .i64 ((rd_T71 l0_2 x4_1).f1), .int .i64 0, .bool false]) ?_ 2 _ rfl; refine bk ?_; refine blk_put (cs := #[.int .i64 ((rd_T71 l0_2 x4_1).f0), .int .i64 0, .int .i64 0, .bool false]) ?_ 1 _ rfl; refine bk ?_; refine blk_put (cs := #[.int .i64 0, .int .i64 0, .int .i64 0, .bool false]) ?_ 0 _ rfl; refine bk ?_; exact BK492.out) hb); replace HB := Aside0.mk (below_step (bl HB.out) hb); (try clear hb); (try clear hb2); (try clear hk); (try clear hi)))
       go_roundg k1
       case measure => have := HK1.out; omega
       case rel => exact ⟨(x3_1), (wrap64 (x4_1 + 1)), (by first | rfl | (simp; done) | (simp [*]; done)), H', ⟨by have := HK1.out; omega⟩, ⟨rk HO_3.out⟩, ⟨by refine bk ?_; exact BK486.out⟩, ⟨bl HB.out⟩⟩
     ·rw [if_neg c10] at H
      exact absurd H (by simp)
    ·rw [if_neg c9] at H
     have c9b0 : decide (x4_1 < (l0_2.length : Int)) = false := decide_eq_false c9
     clear c9
     obtain rfl := Option.some.inj H
     obtain ⟨hcz71_0, hcz71_1, hcz71_2, hfz71_0, hfz71_1, hfz71_2⟩ := cz3 BK486.out
     go_wp2
     go_ret
     exact ⟨_, by first | rfl | (simp [errW_none, errW_some] <;> rfl) | (simp [*, errW_none, errW_some] <;> rfl), rk HO_3.out, bl HB.out⟩
 ·replace c3 := Bool.eq_false_iff.mpr c3
  subst c3
  rw [if_neg (show ¬ (false = true) by decide)] at H
  obtain rfl := Option.some.inj H
  go_enter Try.func41, Try.ntmps41
  go_wp2_with (first | ((with_reducible refine gate_dst (N := 1) rfl ?_); refine bx (cs := #[.int .i64 a0_0, .slice A0_1 l0_1.length c0_1, .slice A0_2 l0_2.length c0_2]) (t := 30) fun gb486 hg w72 hbox hb => ?_; have BK486 := Aside0.mk (hbox); have GW486 := Aside0.mk (gs HB.out hg); have GE486 := Aside0.mk (gs HB.out hg); replace HB := Aside0.mk (below_step (bl HB.out) hb); clear hb hbox hg) | ((with_reducible refine gate_dst (N := 6) rfl ?_); refine Kd.R_lit k54 _ 54 ?hg (N := 6) ?hd (xs := ([] : List (S54))) (inner := []) (ok := fun _ => True) (okp := fun _ => True) ?hr ?hp (fun _ hk => hk) trivial (Below.refl _ _) (Nat.le_refl _) (by simp) ?_; (case hd => rfl); (case hg => rfl); (case hr => first | (go_simp; done) | (go_simp; rfl)); (case hp => exact (Reps.none _ _)); intro v488 w73 ho74 hb hg_ hnew_; clear hg_ hnew_; (first | rw [← Ny487.out] at ho74 | (simp only [Int.reduceToNat] at ho74; rw [← Ny487.out] at ho74)); have HO489 := Aside0.mk (Kd.R_lower ho74 (below_size (bl HB.out))); replace BK486 := Aside0.mk (bb BK486.out hb); replace HB := Aside0.mk (below_step (bl HB.out) hb); clear hb ho74; obtain ⟨hcz75_0, hcz75_1, hcz75_2, hfz75_0, hfz75_1, hfz75_2⟩ := cz3 BK486.out) | ((with_reducible refine gate_callee (f := 16) rfl ?_); refine goesL_ (some 8) rfl rfl Try.func16 (by kernel_rfl) rfl #[.agg #[.int .i64 a0_0, .slice A0_1 l0_1.length c0_1, .slice A0_2 l0_2.length c0_2]] rfl mapd ?_; (with_reducible refine (spec_ColumnOk.calls k a0_0 _ _ l0_1 _ _ l0_2 false _ ?side1 ?side2 ?side3 ?side4 A2.out).mono ?_); (case side1 => exact cb (Kd.C_below HR0_1.out HB.out)); (case side2 => exact HC0_1.out); (case side3 => exact cb (Kd.C_below HR0_2.out HB.out)); (case side4 => exact HC0_2.out); rintro e w76 ⟨rfl, hb⟩; refine ⟨_, rfl, ?_⟩; replace HO489 := Aside0.mk (Kd.R_below (rk HO489.out) hb); replace BK486 := Aside0.mk (bb BK486.out hb); replace HB := Aside0.mk (below_step (bl HB.out) hb); (try clear hb); (try clear hb2); (try clear hk); (try clear hi)))
  go_ret
  exact ⟨_, by first | rfl | (simp [errW_none, errW_some] <;> rfl) | (simp [*, errW_none, errW_some] <;> rfl), rk HO489.out, bl HB.out⟩
end Go.Proofs.Ytghfeapncmlihaa.A

namespace Go.Proofs.Ytghfeapncmlihaa.A
open Go.RowKit Go.Proofs.YtghfeapncmlihaaW.PrintWords Go.Proofs.YtghfeapncmlihaaW.PrintLast Go.Proofs.YtghfeapncmlihaaW.PrintMore
attribute [local go_sem] max2_int min2_int max_two min_two max_three min_three max_four min_four   
set_option linter.unusedVariables false
set_option linter.unusedSimpArgs false
def spec_l02Least.l0 : Nat → List (S54) → Int → Int → Int → Option (Int)
 | 0, _, _, _, _ => none
 | k + 1, x0, x1, x5, x6 => if x6 < (x0.length : Int) then (if 0 ≤ x6 then (if ((rd_T54 x0 x6).f2) ≥ x1 then (if x5 < 0 then (spec_l02Least.l0 k x0 x1 x6 (wrap64 (x6 + 1))) else (if 0 ≤ x5 then (if x5 < (x0.length : Int) then (if ((rd_T54 x0 x6).f2) < ((rd_T54 x0 x5).f2) then (spec_l02Least.l0 k x0 x1 x6 (wrap64 (x6 + 1))) else (spec_l02Least.l0 k x0 x1 x5 (wrap64 (x6 + 1)))) else (none)) else (none))) else (spec_l02Least.l0 k x0 x1 x5 (wrap64 (x6 + 1)))) else (none)) else (some x5)
def spec_l02Least.f (k : Nat) (l0 : List (S54)) (a1 : Int) : Option (Int) := spec_l02Least.l0 k l0 a1 (-1) 0
set_option maxHeartbeats 8000000 in
set_option maxRecDepth 100000 in
theorem spec_l02Least.calls (k : Nat) (A0 : Option Addr) (c0 : Nat) (l0 : List (S54)) (a1 : Int) (r : Int) (w : World) (hr0 : Kd.C k54 w A0 l0.length l0) (hc0 : l0.length ≤ c0) (h : spec_l02Least.f k l0 a1 = some r) :
  Calls Try.prog 73 #[.slice A0 l0.length c0, .int .i64 a1] w fun e w' => e = .returned (.int .i64 r) ∧ Drawn0 w w' := by
 have HR0 := Aside0.mk hr0
 have HC0 := Aside0.mk hc0
 clear hr0 hc0
 have H : (spec_l02Least.l0 k l0 a1 (-1) 0) = some r := h
 clear h
 have H' := Aside0.mk H
 clear H
 go_enter Try.func73, Try.ntmps73
 go_wp2
 repeat (go_quiet (fail); try go_wp2)
 go_loopg [5, 6] k (fun kq v5 v6 w' => ∃ (x5_1 : Int) (x6_1 : Int), v5 = .int .i64 x5_1 ∧ v6 = .int .i64 x6_1 ∧ Aside0 (spec_l02Least.l0 kq l0 a1 x5_1 x6_1 = some r) ∧ Aside0 (kq ≤ k) ∧ Drawn0 w w')
 case atStart => exact ⟨((-1)), (0), (by first | rfl | (simp; done) | (simp [*]; done)), (by first | rfl | (simp; done) | (simp [*]; done)), H', ⟨Nat.le_refl _⟩, by repeat (first | exact Drawn0.refl _ | apply Drawn0.step)⟩
 case round =>
  clear H'
  try clear p2
  obtain ⟨x5_1, x6_1, rfl, rfl, HA, HK1, ⟨m1, rfl⟩⟩ := hrel
  cases gk with
  | zero => exact absurd HA.out (by simp [spec_l02Least.l0])
  | succ k1 =>
   have H := HA.out
   clear HA
   simp only [spec_l02Least.l0] at H
   by_cases c3 : x6_1 < (l0.length : Int)
   ·rw [if_pos c3] at H
    have c3b0 : decide (x6_1 < (l0.length : Int)) = true := decide_eq_true c3
    clear c3
    by_cases c4 : 0 ≤ x6_1
    ·rw [if_pos c4] at H
     have c4b0 : decide (0 ≤ x6_1) = true := decide_eq_true c4
     clear c4
     by_cases c5 : ((rd_T54 l0 x6_1).f2) ≥ a1
     ·rw [if_pos c5] at H
      have c5b0 : decide (a1 ≤ ((rd_T54 l0 x6_1).f2)) = true := decide_eq_true c5
      clear c5
      by_cases c6 : x5_1 < 0
      ·rw [if_pos c6] at H
       have c6b0 : decide (x5_1 < 0) = true := decide_eq_true c6
       clear c6
       have H' := Aside0.mk H
       clear H
       have p508 : 0 ≤ (x6_1 : Int) := of_decide_eq_true asm
       have q508 : x6_1 < (l0.length : Int) := of_decide_eq_true asm
       obtain ⟨ad508, e508, hx508_0, hx508_1, hx508_2⟩ := at_T54 HR0.out x6_1 p508 q508
       cases e508
       replace p508 := eq_true p508
       replace q508 := eq_true q508
       go_wp2
       repeat (go_quiet (fail); try go_wp2)
       go_roundg k1
       case measure => have := HK1.out; omega
       case rel => exact ⟨(x6_1), (wrap64 (x6_1 + 1)), (by first | rfl | (simp; done) | (simp [*]; done)), (by first | rfl | (simp; done) | (simp [*]; done)), H', ⟨by have := HK1.out; omega⟩, by repeat (first | exact Drawn0.refl _ | apply Drawn0.step)⟩
      ·rw [if_neg c6] at H
       have c6b0 : decide (x5_1 < 0) = false := decide_eq_false c6
       clear c6
       by_cases c7 : 0 ≤ x5_1
       ·rw [if_pos c7] at H
        have c7b0 : decide (0 ≤ x5_1) = true := decide_eq_true c7
        clear c7
        by_cases c8 : x5_1 < (l0.length : Int)
        ·rw [if_pos c8] at H
         have c8b0 : decide (x5_1 < (l0.length : Int)) = true := decide_eq_true c8
         clear c8
         by_cases c9 : ((rd_T54 l0 x6_1).f2) < ((rd_T54 l0 x5_1).f2)
         ·rw [if_pos c9] at H
          have c9b0 : decide (((rd_T54 l0 x6_1).f2) < ((rd_T54 l0 x5_1).f2)) = true := decide_eq_true c9
          clear c9
          have H' := Aside0.mk H
          clear H
          have p508 : 0 ≤ (x6_1 : Int) := of_decide_eq_true asm
          have q508 : x6_1 < (l0.length : Int) := of_decide_eq_true asm
          obtain ⟨ad508, e508, hx508_0, hx508_1, hx508_2⟩ := at_T54 HR0.out x6_1 p508 q508
          cases e508
          replace p508 := eq_true p508
          replace q508 := eq_true q508
          have p509 : 0 ≤ (x6_1 : Int) := of_decide_eq_true asm
          have q509 : x6_1 < (l0.length : Int) := of_decide_eq_true asm
          obtain ⟨ad509, e509, hx509_0, hx509_1, hx509_2⟩ := at_T54 HR0.out x6_1 p509 q509
          obtain rfl : ad508 = ad509 := (by injection e509)
          replace p509 := eq_true p509
          replace q509 := eq_true q509
          have p510 : 0 ≤ (x5_1 : Int) := of_decide_eq_true asm
          have q510 : x5_1 < (l0.length : Int) := of_decide_eq_true asm
          obtain ⟨ad510, e510, hx510_0, hx510_1, hx510_2⟩ := at_T54 HR0.out x5_1 p510 q510
          obtain rfl : ad508 = ad510 := (by injection e510)
          replace p510 := eq_true p510
          replace q510 := eq_true q510
          go_wp2
          repeat (go_quiet (fail); try go_wp2)
          go_roundg k1
          case measure => have := HK1.out; omega
          case rel => exact ⟨(x6_1), (wrap64 (x6_1 + 1)), (by first | rfl | (simp; done) | (simp [*]; done)), (by first | rfl | (simp; done) | (simp [*]; done)), H', ⟨by have := HK1.out; omega⟩, by repeat (first | exact Drawn0.refl _ | apply Drawn0.step)⟩
         ·rw [if_neg c9] at H
          have c9b0 : decide (((rd_T54 l0 x6_1).f2) < ((rd_T54 l0 x5_1).f2)) = false := decide_eq_false c9
          clear c9
          have H' := Aside0.mk H
          clear H
          have p508 : 0 ≤ (x6_1 : Int) := of_decide_eq_true asm
          have q508 : x6_1 < (l0.length : Int) := of_decide_eq_true asm
          obtain ⟨ad508, e508, hx508_0, hx508_1, hx508_2⟩ := at_T54 HR0.out x6_1 p508 q508
          cases e508
          replace p508 := eq_true p508
          replace q508 := eq_true q508
          have p509 : 0 ≤ (x6_1 : Int) := of_decide_eq_true asm
          have q509 : x6_1 < (l0.length : Int) := of_decide_eq_true asm
          obtain ⟨ad509, e509, hx509_0, hx509_1, hx509_2⟩ := at_T54 HR0.out x6_1 p509 q509
          obtain rfl : ad508 = ad509 := (by injection e509)
          replace p509 := eq_true p509
          replace q509 := eq_true q509
          have p510 : 0 ≤ (x5_1 : Int) := of_decide_eq_true asm
          have q510 : x5_1 < (l0.length : Int) := of_decide_eq_true asm
          obtain ⟨ad510, e510, hx510_0, hx510_1, hx510_2⟩ := at_T54 HR0.out x5_1 p510 q510
          obtain rfl : ad508 = ad510 := (by injection e510)
          replace p510 := eq_true p510
          replace q510 := eq_true q510
          go_wp2
          repeat (go_quiet (fail); try go_wp2)
          go_roundg k1
          case measure => have := HK1.out; omega
          case rel => exact ⟨(x5_1), (wrap64 (x6_1 + 1)), (by first | rfl | (simp; done) | (simp [*]; done)), (by first | rfl | (simp; done) | (simp [*]; done)), H', ⟨by have := HK1.out; omega⟩, by repeat (first | exact Drawn0.refl _ | apply Drawn0.step)⟩
        ·rw [if_neg c8] at H
         exact absurd H (by simp)
       ·rw [if_neg c7] at H
        exact absurd H (by simp)
     ·rw [if_neg c5] at H
      have c5b0 : decide (a1 ≤ ((rd_T54 l0 x6_1).f2)) = false := decide_eq_false c5
      clear c5
      have H' := Aside0.mk H
      clear H
      have p508 : 0 ≤ (x6_1 : Int) := of_decide_eq_true asm
      have q508 : x6_1 < (l0.length : Int) := of_decide_eq_true asm
      obtain ⟨ad508, e508, hx508_0, hx508_1, hx508_2⟩ := at_T54 HR0.out x6_1 p508 q508
      cases e508
      replace p508 := eq_true p508
      replace q508 := eq_true q508
      go_wp2
      repeat (go_quiet (fail); try go_wp2)
      go_roundg k1
      case measure => have := HK1.out; omega
      case rel => exact ⟨(x5_1), (wrap64 (x6_1 + 1)), (by first | rfl | (simp; done) | (simp [*]; done)), (by first | rfl | (simp; done) | (simp [*]; done)), H', ⟨by have := HK1.out; omega⟩, by repeat (first | exact Drawn0.refl _ | apply Drawn0.step)⟩
    ·rw [if_neg c4] at H
     exact absurd H (by simp)
   ·rw [if_neg c3] at H
    have c3b0 : decide (x6_1 < (l0.length : Int)) = false := decide_eq_false c3
    clear c3
    obtain rfl := Option.some.inj H
    go_wp2
    repeat (go_quiet (fail); try go_wp2)
    go_ret
    exact ⟨by first | rfl | (simp; done) | (simp [*]; done), by repeat (first | exact Drawn0.refl _ | apply Drawn0.step)⟩
def spec_FitOf.f (k : Nat) (a0_0 : Int) (l0_1 : List Int) (l0_2 : List (S71)) (a1 : Int) : Option (Int × Int × Int × Bool) := (spec_GapsOf.f k a0_0 l0_1 l0_2).bind fun t513 => ((spec_l02Least.f k t513 a1).bind fun t516 => (if a1 < 1 then (some (0, 0, 0, false)) else (if t516 < 0 then (some (0, 0, 0, false)) else (if 0 ≤ t516 then (if t516 < (t513.length : Int) then (some ((rd_T54 t513 t516).f0, (rd_T54 t513 t516).f1, (rd_T54 t513 t516).f2, true)) else (none)) else (none)))))
set_option maxHeartbeats 8000000 in
set_option maxRecDepth 100000 in
theorem spec_FitOf.calls (k : Nat) (a0_0 : Int) (A0_1 : Option Addr) (c0_1 : Nat) (l0_1 : List Int) (A0_2 : Option Addr) (c0_2 : Nat) (l0_2 : List (S71)) (a1 : Int) (r1 : Int) (r2 : Int) (r3 : Int) (r4 : Bool) (w : World) (hr0_1 : Kd.C (Kd.int .i64) w A0_1 l0_1.length l0_1) (hc0_1 : l0_1.length ≤ c0_1) (hr0_2 : Kd.C k71 w A0_2 l0_2.length l0_2) (hc0_2 : l0_2.length ≤ c0_2) (h : spec_FitOf.f k a0_0 l0_1 l0_2 a1 = some (r1, r2, r3, r4)) :
  Calls Try.prog 36 #[.agg #[.int .i64 a0_0, .slice A0_1 l0_1.length c0_1, .slice A0_2 l0_2.length c0_2], .int .i64 a1] w fun e w' => e = .returned (.tuple #[.agg #[.int .i64 r1, .int .i64 r2, .int .i64 r3], .bool r4]) ∧ Below w.heap.size w w' := by
 have hu30 := Try.underlying30
 have hu54 := Try.underlying54
 have HR0_1 := Aside0.mk hr0_1
 have HC0_1 := Aside0.mk hc0_1
 clear hr0_1 hc0_1
 have HR0_2 := Aside0.mk hr0_2
 have HC0_2 := Aside0.mk hc0_2
 clear hr0_2 hc0_2
 have HB := Aside0.mk (Below.refl w.heap.size w)
 have H : ((spec_GapsOf.f k a0_0 l0_1 l0_2).bind fun t513 => ((spec_l02Least.f k t513 a1).bind fun t516 => (if a1 < 1 then (some (0, 0, 0, false)) else (if t516 < 0 then (some (0, 0, 0, false)) else (if 0 ≤ t516 then (if t516 < (t513.length : Int) then (some ((rd_T54 t513 t516).f0, (rd_T54 t513 t516).f1, (rd_T54 t513 t516).f2, true)) else (none)) else (none)))))) = some (r1, r2, r3, r4) := h
 clear h
 replace H := Option.bind_eq_some_iff.mp H
 obtain ⟨t513, A30, H⟩ := H
 try dsimp only at H
 have A3 := Aside0.mk A30
 clear A30
 replace H := Option.bind_eq_some_iff.mp H
 obtain ⟨t516, A40, H⟩ := H
 try dsimp only at H
 have A4 := Aside0.mk A40
 clear A40
 by_cases c5 : a1 < 1
 focus
  rw [if_pos c5] at H
  have c5b0 : decide (a1 < 1) = true := decide_eq_true c5
  clear c5
  simp only [Option.some.injEq, Prod.mk.injEq] at H
  obtain ⟨rfl, rfl, rfl, rfl⟩ := H
 rotate_left
 focus
  rw [if_neg c5] at H
  have c5b0 : decide (a1 < 1) = false := decide_eq_false c5
  clear c5
  by_cases c13 : t516 < 0
  focus
   rw [if_pos c13] at H
   have c13b0 : decide (t516 < 0) = true := decide_eq_true c13
   clear c13
   simp only [Option.some.injEq, Prod.mk.injEq] at H
   obtain ⟨rfl, rfl, rfl, rfl⟩ := H
  rotate_left
  focus
   rw [if_neg c13] at H
   have c13b0 : decide (t516 < 0) = false := decide_eq_false c13
   clear c13
   by_cases c21 : 0 ≤ t516
   focus
    rw [if_pos c21] at H
    have c21b0 : decide (0 ≤ t516) = true := decide_eq_true c21
    clear c21
    by_cases c22 : t516 < (t513.length : Int)
    focus
     rw [if_pos c22] at H
     have c22b0 : decide (t516 < (t513.length : Int)) = true := decide_eq_true c22
     clear c22
     simp only [Option.some.injEq, Prod.mk.injEq] at H
     obtain ⟨rfl, rfl, rfl, rfl⟩ := H
    rotate_left
    ·rw [if_neg c22] at H
     exact absurd H (by simp)
   rotate_left
   ·rw [if_neg c21] at H
    exact absurd H (by simp)
  rotate_left
 rotate_left 2
 all_goals go_enter Try.func36, Try.ntmps36
 all_goals go_wp2_with (first | ((with_reducible refine gate_dst (N := 2) rfl ?_); refine bx (cs := #[.int .i64 a0_0, .slice A0_1 l0_1.length c0_1, .slice A0_2 l0_2.length c0_2]) (t := 30) fun gb511 hg w6 hbox hb => ?_; have BK511 := Aside0.mk (hbox); have GW511 := Aside0.mk (gs HB.out hg); have GE511 := Aside0.mk (gs HB.out hg); replace HB := Aside0.mk (below_step (bl HB.out) hb); clear hb hbox hg) | ((with_reducible refine gate_dst (N := 4) rfl ?_); refine bx (cs := #[.int .i64 0, .int .i64 0, .int .i64 0]) (t := 54) fun gb512 hg w7 hbox hb => ?_; have BK512 := Aside0.mk (hbox); have GW512 := Aside0.mk (gs HB.out hg); have GE512 := Aside0.mk (gs HB.out hg); replace HB := Aside0.mk (below_step (bl HB.out) hb); have NB511_512 := Aside0.mk ((nl BK511.out hg)); have NB512_511 := Aside0.mk ((ng BK511.out hg)); replace BK511 := Aside0.mk (bb BK511.out hb); clear hb hbox hg; have hnb8 := NB511_512.out; have hnc8 := NB512_511.out; obtain ⟨hcz9_0, hcz9_1, hcz9_2, hfz9_0, hfz9_1, hfz9_2⟩ := cz3 BK511.out) | ((with_reducible refine gate_callee (f := 41) rfl ?_); refine goesL_ (some 9) rfl rfl Try.func41 (by kernel_rfl) rfl #[.agg #[.int .i64 a0_0, .slice A0_1 l0_1.length c0_1, .slice A0_2 l0_2.length c0_2]] rfl mapd ?_; (with_reducible refine (spec_GapsOf.calls k a0_0 _ _ l0_1 _ _ l0_2 t513 _ ?side1 ?side2 ?side3 ?side4 A3.out).mono ?_); (case side1 => exact cb (Kd.C_below HR0_1.out HB.out)); (case side2 => exact HC0_1.out); (case side3 => exact cb (Kd.C_below HR0_2.out HB.out)); (case side4 => exact HC0_2.out); rintro e w10 ⟨v514, rfl, ho0, hb⟩; refine ⟨_, rfl, ?_⟩; have HO515 := Aside0.mk (Kd.R_lower (Kd.R_newB ho0 (g := gb512) (o := .cells #[.int .i64 0, .int .i64 0, .int .i64 0] 54 (0, 0)) (bk BK512.out)) (below_size (bl HB.out))); replace BK511 := Aside0.mk (bb BK511.out hb); replace BK512 := Aside0.mk (bb BK512.out hb); replace HB := Aside0.mk (below_step (bl HB.out) hb); (try clear hb); (try clear hb2); (try clear hk); (try clear hi); (try clear ho0); obtain ⟨Ao11, co11, eo11⟩ := Kd.R_slice HO515.out; subst eo11) | ((with_reducible refine gate_callee (f := 73) rfl ?_); refine goesL_ (some 12) rfl rfl Try.func73 (by kernel_rfl) rfl #[.slice Ao11 t513.length co11, .int .i64 a1] rfl mapd ?_; (with_reducible refine (spec_l02Least.calls k _ _ t513 a1 t516 _ ?side1 ?side2 A4.out).mono ?_); (case side1 => exact cb ((Kd.R_reads' HO515.out).2.2)); (case side2 => exact (Kd.R_reads' HO515.out).2.1); rintro e w' ⟨rfl, ⟨nd, rfl⟩⟩; refine ⟨_, rfl, ?_⟩; (try (rw [drewN_self w10]; generalize hq_ : World.drewN w10 _ = w10; have n0_ : Aside0 (Kd.R k54 54 w10 w.heap.size (fun k_ => k_ ≠ gb512) (.slice Ao11 t513.length co11) t513) := ⟨by rw [← hq_]; exact (by refine rk ?_; exact Kd.R_mono HO515.out (fun _ hk => hk.2))⟩; have n1_ : Aside0 (w10.heap[gb511]? = some (.cells #[.int .i64 a0_0, .slice A0_1 l0_1.length c0_1, .slice A0_2 l0_2.length c0_2] 30 (0, 0))) := ⟨by rw [← hq_]; exact (bk BK511.out)⟩; have n2_ : Aside0 (w10.heap[gb512]? = some (.cells #[.int .i64 0, .int .i64 0, .int .i64 0] 54 (0, 0))) := ⟨by rw [← hq_]; exact (bk BK512.out)⟩; have n3_ : Aside0 (Below w.heap.size w w10) := ⟨by rw [← hq_]; exact (bl HB.out)⟩; clear HO515 BK511 BK512 HB hq_; have HO515 := n0_; have BK511 := n1_; have BK512 := n2_; have HB := n3_; clear n0_ n1_ n2_ n3_)); have p517 : 0 ≤ (t516 : Int) := of_decide_eq_true asm; have q517 : t516 < (t513.length : Int) := of_decide_eq_true asm; obtain ⟨ad517, e517, hx517_0, hx517_1, hx517_2⟩ := at_T54 (Kd.R_reads' HO515.out).2.2 t516 p517 q517; cases e517; replace p517 := eq_true p517; replace q517 := eq_true q517; obtain ⟨hcz29_0, hcz29_1, hcz29_2, hfz29_0, hfz29_1, hfz29_2⟩ := cz3 BK512.out) | ((with_reducible refine gate_callee (f := 73) rfl ?_); refine goesL_ (some 12) rfl rfl Try.func73 (by kernel_rfl) rfl #[.slice Ao11 t513.length co11, .int .i64 a1] rfl mapd ?_; (with_reducible refine (spec_l02Least.calls k _ _ t513 a1 t516 _ ?side1 ?side2 A4.out).mono ?_); (case side1 => exact cb ((Kd.R_reads' HO515.out).2.2)); (case side2 => exact (Kd.R_reads' HO515.out).2.1); rintro e w' ⟨rfl, ⟨nd, rfl⟩⟩; refine ⟨_, rfl, ?_⟩; (try (rw [drewN_self w10]; generalize hq_ : World.drewN w10 _ = w10; have n0_ : Aside0 (Kd.R k54 54 w10 w.heap.size (fun k_ => k_ ≠ gb512) (.slice Ao11 t513.length co11) t513) := ⟨by rw [← hq_]; exact (by refine rk ?_; exact Kd.R_mono HO515.out (fun _ hk => hk.2))⟩; have n1_ : Aside0 (w10.heap[gb511]? = some (.cells #[.int .i64 a0_0, .slice A0_1 l0_1.length c0_1, .slice A0_2 l0_2.length c0_2] 30 (0, 0))) := ⟨by rw [← hq_]; exact (bk BK511.out)⟩; have n2_ : Aside0 (w10.heap[gb512]? = some (.cells #[.int .i64 0, .int .i64 0, .int .i64 0] 54 (0, 0))) := ⟨by rw [← hq_]; exact (bk BK512.out)⟩; have n3_ : Aside0 (Below w.heap.size w w10) := ⟨by rw [← hq_]; exact (bl HB.out)⟩; clear HO515 BK511 BK512 HB hq_; have HO515 := n0_; have BK511 := n1_; have BK512 := n2_; have HB := n3_; clear n0_ n1_ n2_ n3_)); obtain ⟨hcz12_0, hcz12_1, hcz12_2, hfz12_0, hfz12_1, hfz12_2⟩ := cz3 BK512.out))
 ·refine bodyPost_ret (results_ct rfl _ _ gb512 54 #[.int .i64 0, .int .i64 0, .int .i64 0] (0, 0) _ rfl (by refine bk ?_; refine blk_put (cs := #[.int .i64 0, .int .i64 0, .int .i64 0]) ?_ 2 _ rfl; refine bk ?_; refine blk_put (cs := #[.int .i64 0, .int .i64 0, .int .i64 0]) ?_ 1 _ rfl; refine bk ?_; refine blk_put (cs := #[.int .i64 0, .int .i64 0, .int .i64 0]) ?_ 0 _ rfl; refine bk ?_; exact BK512.out) Try.underlying54 rfl (by kernel_rfl)) rfl ?_
  exact ⟨by first | rfl | (simp [errW_none, errW_some] <;> rfl) | (simp [*, errW_none, errW_some] <;> rfl), bl HB.out⟩
 ·refine bodyPost_ret (results_ct rfl _ _ gb512 54 #[.int .i64 0, .int .i64 0, .int .i64 0] (0, 0) _ rfl (by refine bk ?_; refine blk_put (cs := #[.int .i64 0, .int .i64 0, .int .i64 0]) ?_ 2 _ rfl; refine bk ?_; refine blk_put (cs := #[.int .i64 0, .int .i64 0, .int .i64 0]) ?_ 1 _ rfl; refine bk ?_; refine blk_put (cs := #[.int .i64 0, .int .i64 0, .int .i64 0]) ?_ 0 _ rfl; refine bk ?_; exact BK512.out) Try.underlying54 rfl (by kernel_rfl)) rfl ?_
  exact ⟨by first | rfl | (simp [errW_none, errW_some] <;> rfl) | (simp [*, errW_none, errW_some] <;> rfl), bl HB.out⟩
 ·refine bodyPost_ret (results_ct rfl _ _ gb512 54 #[.int .i64 ((rd_T54 t513 t516).f0), .int .i64 ((rd_T54 t513 t516).f1), .int .i64 ((rd_T54 t513 t516).f2)] (0, 0) _ rfl (by refine bk ?_; refine blk_put (cs := #[.int .i64 ((rd_T54 t513 t516).f0), .int .i64 ((rd_T54 t513 t516).f1), .int .i64 0]) ?_ 2 _ rfl; refine bk ?_; refine blk_put (cs := #[.int .i64 ((rd_T54 t513 t516).f0), .int .i64 0, .int .i64 0]) ?_ 1 _ rfl; refine bk ?_; refine blk_put (cs := #[.int .i64 0, .int .i64 0, .int .i64 0]) ?_ 0 _ rfl; refine bk ?_; exact BK512.out) Try.underlying54 rfl (by kernel_rfl)) rfl ?_
  exact ⟨by first | rfl | (simp [errW_none, errW_some] <;> rfl) | (simp [*, errW_none, errW_some] <;> rfl), bl HB.out⟩

def slices_Index_int_int.l0 : Nat → List Int → Int → Int → Int → Option (Int)
 | 0, _, _, _, _ => none
 | k + 1, x0, x1, x7, x8 => if x8 < x7 then (if 0 ≤ x8 then (if x8 < (x0.length : Int) then (if x1 = (rd x0 x8) then (some x8) else (slices_Index_int_int.l0 k x0 x1 x7 (wrap64 (x8 + 1)))) else (none)) else (none)) else (some (-1))
def slices_Index_int_int.f (k : Nat) (l0 : List Int) (a1 : Int) : Option (Int) := slices_Index_int_int.l0 k l0 a1 (l0.length : Int) 0
set_option maxHeartbeats 8000000 in
set_option maxRecDepth 100000 in
theorem slices_Index_int_int.calls (k : Nat) (A0 : Option Addr) (c0 : Nat) (l0 : List Int) (a1 : Int) (r : Int) (w : World) (hr0 : Kd.C (Kd.int .i64) w A0 l0.length l0) (hc0 : l0.length ≤ c0) (h : slices_Index_int_int.f k l0 a1 = some r) :
  Calls Try.prog 99 #[.slice A0 l0.length c0, .int .i64 a1] w fun e w' => e = .returned (.int .i64 r) ∧ Drawn0 w w' := by
 have HR0 := Aside0.mk hr0
 have HC0 := Aside0.mk hc0
 clear hr0 hc0
 have H : (slices_Index_int_int.l0 k l0 a1 (l0.length : Int) 0) = some r := h
 clear h
 have H' := Aside0.mk H
 clear H
 go_enter Try.func99, Try.ntmps99
 go_wp2
 go_loopg [8] k (fun kq v8 w' => ∃ (x8_1 : Int), v8 = .int .i64 x8_1 ∧ Aside0 (slices_Index_int_int.l0 kq l0 a1 (l0.length : Int) x8_1 = some r) ∧ Aside0 (kq ≤ k) ∧ Drawn0 w w')
 case atStart => exact ⟨(0), (by first | rfl | (simp; done) | (simp [*]; done)), H', ⟨Nat.le_refl _⟩, by repeat (first | exact Drawn0.refl _ | apply Drawn0.step)⟩
 case round =>
  clear H'
  try clear p2
  obtain ⟨x8_1, rfl, HA, HK1, ⟨m1, rfl⟩⟩ := hrel
  cases gk with
  | zero => exact absurd HA.out (by simp [slices_Index_int_int.l0])
  | succ k1 =>
   have H := HA.out
   clear HA
   simp only [slices_Index_int_int.l0] at H
   by_cases c3 : x8_1 < (l0.length : Int)
   ·rw [if_pos c3] at H
    have c3b0 : decide (x8_1 < (l0.length : Int)) = true := decide_eq_true c3
    clear c3
    by_cases c4 : 0 ≤ x8_1
    ·rw [if_pos c4] at H
     have c4b0 : decide (0 ≤ x8_1) = true := decide_eq_true c4
     clear c4
     by_cases c5 : x8_1 < (l0.length : Int)
     ·rw [if_pos c5] at H
      have c5b0 : decide (x8_1 < (l0.length : Int)) = true := decide_eq_true c5
      clear c5
      by_cases c6 : a1 = (rd l0 x8_1)
      ·rw [if_pos c6] at H
       have c6b0 : (a1 == (rd l0 x8_1)) = true := beq_iff_eq.mpr c6
       have c6b1 : (a1 != (rd l0 x8_1)) = false := bne_eq_false_iff_eq.mpr c6
       clear c6
       obtain rfl := Option.some.inj H
       have p518 : 0 ≤ (x8_1 : Int) := of_decide_eq_true asm
       have q518 : x8_1 < (l0.length : Int) := of_decide_eq_true asm
       obtain ⟨ad518, e518, hx518_0⟩ := Kd.at_int HR0.out x8_1 p518 q518
       cases e518
       replace p518 := eq_true p518
       replace q518 := eq_true q518
       go_wp2
       go_ret
       exact ⟨by first | rfl | (simp; done) | (simp [*]; done), by repeat (first | exact Drawn0.refl _ | apply Drawn0.step)⟩
      ·rw [if_neg c6] at H
       have c6b0 : (a1 == (rd l0 x8_1)) = false := beq_eq_false_iff_ne.mpr c6
       have c6b1 : (a1 != (rd l0 x8_1)) = true := bne_iff_ne.mpr c6
       have H' := Aside0.mk H
       clear H
       have p518 : 0 ≤ (x8_1 : Int) := of_decide_eq_true asm
       have q518 : x8_1 < (l0.length : Int) := of_decide_eq_true asm
       obtain ⟨ad518, e518, hx518_0⟩ := Kd.at_int HR0.out x8_1 p518 q518
       cases e518
       replace p518 := eq_true p518
       replace q518 := eq_true q518
       go_wp2
       go_roundg k1
       case measure => have := HK1.out; omega
       case rel => exact ⟨(wrap64 (x8_1 + 1)), (by first | rfl | (simp; done) | (simp [*]; done)), H', ⟨by have := HK1.out; omega⟩, by repeat (first | exact Drawn0.refl _ | apply Drawn0.step)⟩
     ·rw [if_neg c5] at H
      exact absurd H (by simp)
    ·rw [if_neg c4] at H
     exact absurd H (by simp)
   ·rw [if_neg c3] at H
    have c3b0 : decide (x8_1 < (l0.length : Int)) = false := decide_eq_false c3
    clear c3
    obtain rfl := Option.some.inj H
    go_wp2
    go_ret
    exact ⟨by first | rfl | (simp; done) | (simp [*]; done), by repeat (first | exact Drawn0.refl _ | apply Drawn0.step)⟩
def slices_Contains_int_int.f (k : Nat) (l0 : List Int) (a1 : Int) : Option (Bool) := (slices_Index_int_int.f k l0 a1).bind fun t519 => (some (decide (t519 ≥ 0)))
set_option maxHeartbeats 8000000 in
set_option maxRecDepth 100000 in
theorem slices_Contains_int_int.calls (k : Nat) (A0 : Option Addr) (c0 : Nat) (l0 : List Int) (a1 : Int) (r : Bool) (w : World) (hr0 : Kd.C (Kd.int .i64) w A0 l0.length l0) (hc0 : l0.length ≤ c0) (h : slices_Contains_int_int.f k l0 a1 = some r) :
  Calls Try.prog 93 #[.slice A0 l0.length c0, .int .i64 a1] w fun e w' => e = .returned (.bool r) ∧ Drawn0 w w' := by
 have HR0 := Aside0.mk hr0
 have HC0 := Aside0.mk hc0
 clear hr0 hc0
 have H : ((slices_Index_int_int.f k l0 a1).bind fun t519 => (some (decide (t519 ≥ 0)))) = some r := h
 clear h
 replace H := Option.bind_eq_some_iff.mp H
 obtain ⟨t519, A30, H⟩ := H
 try dsimp only at H
 have A3 := Aside0.mk A30
 clear A30
 obtain rfl := Option.some.inj H
 go_enter Try.func93, Try.ntmps93
 go_wp2_with (first | ((with_reducible refine gate_callee (f := 99) rfl ?_); refine goesL_ (some 7) rfl rfl Try.func99 (by kernel_rfl) rfl #[.slice A0 l0.length c0, .int .i64 a1] rfl mapd ?_; (with_reducible refine (slices_Index_int_int.calls k _ _ l0 a1 t519 _ ?side1 ?side2 A3.out).mono ?_); (case side1 => repeat (first | exact HR0.out | (with_reducible refine Kd.C_alloc ?_ _) | (with_reducible refine Kd.C_drewN ?_ _) | (with_reducible refine Kd.C_drew ?_))); (case side2 => exact HC0.out); rintro e w' ⟨rfl, ⟨nd, rfl⟩⟩; refine ⟨_, rfl, ?_⟩))
 go_ret
 exact ⟨by first | rfl | (simp; done) | (simp [*]; done), by repeat (first | exact Drawn0.refl _ | apply Drawn0.step)⟩
end Go.Proofs.Ytghfeapncmlihaa.A
