/- What the proof of the law FnExactCleared uses: lemmas, the Lean functions of the Go functions that it reaches, their contracts, and the pure statement's proof. -/
import Derived.Test.YtghfeapncmlihaaZFnExactClearedx14
import Derived.Test.YtghfeapncmlihaaZFnExactClearedx18
import Derived.Test.YtghfeapncmlihaaZFnExactClearedh
namespace Go.Proofs.Ytghfeapncmlihaa.A
open Go.RowKit Go.Proofs.YtghfeapncmlihaaW.PrintWords Go.Proofs.YtghfeapncmlihaaW.PrintLast Go.Proofs.YtghfeapncmlihaaW.PrintMore
attribute [local go_sem] max2_int min2_int max_two min_two max_three min_three max_four min_four   
set_option linter.unusedVariables false
set_option linter.unusedSimpArgs false
def spec_GapsOf.l0 : Nat → List (S54) → Int → Int → List Int → List (S71) → Option ((List (S54)))
  | 0, _, _, _, _, _ => none
  | k + 1, x3, x4, x487000, x487001, x487002 => if x4 < (x487002.length : Int) then (if 0 ≤ x4 then ((spec_l02Open.f ((rd_T71 x487002 x4).f0) ((rd_T71 x487002 x4).f1) ((rd_T71 x487002 x4).f2) ((rd_T71 x487002 x4).f3)).bind fun t493 => (if t493 = true then (if x4 > 0 then (if 0 ≤ (wrap64 (x4 - 1)) then (if (wrap64 (x4 - 1)) < (x487002.length : Int) then ((spec_l02Open.f ((rd_T71 x487002 (wrap64 (x4 - 1))).f0) ((rd_T71 x487002 (wrap64 (x4 - 1))).f1) ((rd_T71 x487002 (wrap64 (x4 - 1))).f2) ((rd_T71 x487002 (wrap64 (x4 - 1))).f3)).bind fun t495 => (if t495 = true then ((spec_l02Has.f k x487001 ((rd_T71 x487002 x4).f0)).bind fun t496 => (if t496 = true then (if x3.length < 5864062014805 then (spec_GapsOf.l0 k (x3 ++ [(⟨0, (rd_T71 x487002 x4).f0, (rd_T71 x487002 x4).f1⟩ : S54)]) (wrap64 (x4 + 1)) x487000 x487001 x487002) else (none)) else (if 0 ≤ (wrap64 ((x3.length : Int) - 1)) then (if (wrap64 ((x3.length : Int) - 1)) < (x3.length : Int) then (spec_GapsOf.l0 k (x3.set ((wrap64 ((x3.length : Int) - 1)) : Int).toNat (⟨(rd_T54 x3 (wrap64 ((x3.length : Int) - 1))).f0, (rd_T54 x3 (wrap64 ((x3.length : Int) - 1))).f1, wrap64 (((rd_T54 x3 (wrap64 ((x3.length : Int) - 1))).f2) + ((rd_T71 x487002 x4).f1))⟩ : S54)) (wrap64 (x4 + 1)) x487000 x487001 x487002) else (none)) else (none)))) else (if x3.length < 5864062014805 then (spec_GapsOf.l0 k (x3 ++ [(⟨0, (rd_T71 x487002 x4).f0, (rd_T71 x487002 x4).f1⟩ : S54)]) (wrap64 (x4 + 1)) x487000 x487001 x487002) else (none)))) else (none)) else (none)) else (if x3.length < 5864062014805 then (spec_GapsOf.l0 k (x3 ++ [(⟨0, (rd_T71 x487002 x4).f0, (rd_T71 x487002 x4).f1⟩ : S54)]) (wrap64 (x4 + 1)) x487000 x487001 x487002) else (none))) else (spec_GapsOf.l0 k x3 (wrap64 (x4 + 1)) x487000 x487001 x487002))) else (none)) else (some x3)
def spec_GapsOf.f (k : Nat) (a0_0 : Int) (l0_1 : List Int) (l0_2 : List (S71)) : Option ((List (S54))) := (some (([] : List (S54)) : List (S54))).bind fun y487 => ((spec_ColumnOk.f k a0_0 l0_1 l0_2).bind fun t490 => (if t490 = true then (spec_GapsOf.l0 k y487 0 a0_0 l0_1 l0_2) else (some y487)))
def spec_GapsOf.T10 : Bool × List (List Nat × List Nat) := (true, [([], []), ([], []), ([1], [1]), ([2], [2]), ([], []), ([], []), ([5], [5]), ([6], [6]), ([4, 7], [4, 7]), ([8], [8]), ([9], [9]), ([], []), ([11], [11]), ([10, 12], [10, 12]), ([0, 3, 0, 1, 2, 3, 4, 5, 6, 7, 8, 9, 10, 11, 12, 13], [0, 3]), ([14, 0, 1, 2, 3, 4, 5, 6, 7, 8, 9, 10, 11, 12, 13], [14]), ([15, 13, 0, 1, 2, 3, 4, 5, 6, 7, 8, 9, 10, 11, 12, 13], [13, 15])])
def spec_GapsOf.B10 : List Nat := [0, 0, 2, 6, 0, 0, 32, 96, 240, 496, 1008, 0, 2048, 8176, 16383, 32767, 65535]
theorem spec_GapsOf.tab10 : rtab .any (opsOf Try.f41 10) = spec_GapsOf.T10 := by kernel_rfl
theorem spec_GapsOf.bits10 : waitsOk spec_GapsOf.T10.2 spec_GapsOf.B10 = true := by kernel_rfl
set_option maxHeartbeats 8000000 in
set_option maxRecDepth 100000 in
theorem spec_GapsOf.calls (k : Nat) (a0_0 : Int) (A0_1 : Option Addr) (c0_1 : Nat) (l0_1 : List Int) (A0_2 : Option Addr) (c0_2 : Nat) (l0_2 : List (S71)) (r : List (S54)) (w : World) (hr0_1 : Kd.C (Kd.int .i64) w A0_1 l0_1.length l0_1) (hc0_1 : l0_1.length ≤ c0_1) (hr0_2 : Kd.C k71 w A0_2 l0_2.length l0_2) (hc0_2 : l0_2.length ≤ c0_2) (h : spec_GapsOf.f k a0_0 l0_1 l0_2 = some r) :
    Calls Try.prog 41 #[.agg #[.int .i64 a0_0, .slice A0_1 l0_1.length c0_1, .slice A0_2 l0_2.length c0_2]] w fun e w' => ∃ v0_ : Value, e = .returned (v0_) ∧ Kd.R k54 54 w' w.heap.size (fun _ => True) v0_ r ∧ Below w.heap.size w w' := by
  have hu30 := Try.underlying30
  have hu71 := Try.underlying71
  have hu54 := Try.underlying54
  have HR0_1 := Aside0.mk hr0_1
  have HC0_1 := Aside0.mk hc0_1
  clear hr0_1 hc0_1
  have HR0_2 := Aside0.mk hr0_2
  have HC0_2 := Aside0.mk hc0_2
  clear hr0_2 hc0_2
  have HB := Aside0.mk (Below.refl w.heap.size w)
  have H : ((some (([] : List (S54)) : List (S54))).bind fun y487 => ((spec_ColumnOk.f k a0_0 l0_1 l0_2).bind fun t490 => (if t490 = true then (spec_GapsOf.l0 k y487 0 a0_0 l0_1 l0_2) else (some y487)))) = some r := h
  clear h
  obtain ⟨y487, hy487⟩ : ∃ y_ : List (S54), y_ = (([] : List (S54))) := ⟨_, rfl⟩
  replace H : ((spec_ColumnOk.f k a0_0 l0_1 l0_2).bind fun t490 => (if t490 = true then (spec_GapsOf.l0 k y487 0 a0_0 l0_1 l0_2) else (some y487))) = some r := by first | (rw [hy487]; with_reducible exact H) | (have H2_ := (Option.bind_some _ _).symm.trans H; rw [hy487]; with_reducible exact H2_) | (have H2_ := (Option.bind_some _ _).symm.trans H; with_reducible exact H2_) | with_reducible exact H | (rw [hy487]; exact H) | exact H
  have Ny487 := Aside0.mk hy487
  clear hy487
  replace H := Option.bind_eq_some_iff.mp H
  obtain ⟨t490, A20, H⟩ := H
  replace H : (if t490 = true then (spec_GapsOf.l0 k y487 0 a0_0 l0_1 l0_2) else (some y487)) = some r := H
  have A2 := Aside0.mk A20
  clear A20
  by_cases c3 : t490 = true
  · subst c3
    have H1 : (spec_GapsOf.l0 k y487 0 a0_0 l0_1 l0_2) = some r := by rw [if_pos rfl] at H; exact H
    clear H
    have H := H1
    clear H1
    have H' := Aside0.mk H
    clear H
    go_enter Try.func41, Try.ntmps41
    go_wp2_with (first | ((with_reducible refine gate_dst (N := 1) rfl ?_); refine bx (cs := #[.int .i64 a0_0, .slice A0_1 l0_1.length c0_1, .slice A0_2 l0_2.length c0_2]) (t := 30) fun gb486 hg w4 hbox hb => ?_; have BK486 := Aside0.mk (hbox); have GW486 := Aside0.mk (gs HB.out hg); have GE486 := Aside0.mk (gs HB.out hg); replace HB := Aside0.mk (below_step (bl HB.out) hb); clear hb hbox hg) | ((with_reducible refine gate_dst (N := 6) rfl ?_); refine Kd.R_lit k54 _ 54 ?hg (N := 6) ?hd (xs := ([] : List (S54))) (inner := []) (ok := fun _ => True) (okp := fun _ => True) ?hr ?hp (fun _ hk => hk) trivial (Below.refl _ _) (Nat.le_refl _) (by simp) ?_; (case hd => rfl); (case hg => rfl); (case hr => first | (go_simp; done) | (go_simp; rfl)); (case hp => exact (Reps.none _ _)); intro v488 w5 ho6 hb hg_ hnew_; clear hg_ hnew_; (first | rw [← Ny487.out] at ho6 | (simp only [Int.reduceToNat] at ho6; rw [← Ny487.out] at ho6)); have n0_ := Aside0.mk (Kd.R_lower ho6 (below_size (bl HB.out))); have n1_ := Aside0.mk (bb BK486.out hb); have n2_ := Aside0.mk (below_step (bl HB.out) hb); clear BK486; clear HB; have HO489 := n0_; have BK486 := n1_; have HB := n2_; clear n0_ n1_ n2_; clear hb ho6; have hcz7_0 : w5.cell? ⟨gb486, 0, none⟩ = some (.int .i64 a0_0) := (blk_cell BK486.out 0).trans rfl; have hcz7_1 : w5.cell? ⟨gb486, 1, none⟩ = some (.slice A0_1 l0_1.length c0_1) := (blk_cell BK486.out 1).trans rfl; have hcz7_2 : w5.cell? ⟨gb486, 2, none⟩ = some (.slice A0_2 l0_2.length c0_2) := (blk_cell BK486.out 2).trans rfl; have hfz7_0 := blk_frozen BK486.out 0; have hfz7_1 := blk_frozen BK486.out 1; have hfz7_2 := blk_frozen BK486.out 2) | ((with_reducible refine gate_callee (f := 16) rfl ?_); refine goesL_ (some 8) rfl rfl Try.func16 (by kernel_rfl) rfl #[.agg #[.int .i64 a0_0, .slice A0_1 l0_1.length c0_1, .slice A0_2 l0_2.length c0_2]] rfl (by (try simp only [List.map_toArray, List.map_cons, List.map_nil]); first | done | rfl | (simp only [List.length_drop, List.length_take]; rfl)) ?_; (with_reducible refine (spec_ColumnOk.calls k a0_0 _ _ l0_1 _ _ l0_2 true _ ?side1 ?side2 ?side3 ?side4 A2.out).mono ?_); (case side1 => repeat (first | exact (Kd.C_below HR0_1.out HB.out) | (with_reducible refine Kd.C_alloc ?_ _) | (with_reducible refine Kd.C_drewN ?_ _) | (with_reducible refine Kd.C_drew ?_))); (case side2 => exact HC0_1.out); (case side3 => repeat (first | exact (Kd.C_below HR0_2.out HB.out) | (with_reducible refine Kd.C_alloc ?_ _) | (with_reducible refine Kd.C_drewN ?_ _) | (with_reducible refine Kd.C_drew ?_))); (case side4 => exact HC0_2.out); rintro e w8 ⟨rfl, hb⟩; refine ⟨_, rfl, ?_⟩; have n0_ := Aside0.mk (Kd.R_below (rk HO489.out) hb); have n1_ := Aside0.mk (bb BK486.out hb); have n2_ := Aside0.mk (below_step (bl HB.out) hb); clear HO489; clear BK486; clear HB; have HO489 := n0_; have BK486 := n1_; have HB := n2_; clear n0_ n1_ n2_; (try clear hb); (try clear hb2); (try clear hk); (try clear hi)))
    go_loopg [3, 4] k (fun kq v3 v4 w' => ∃ (x3_1 : List (S54)) (x4_1 : Int), v4 = .int .i64 x4_1 ∧ Aside0 (spec_GapsOf.l0 kq x3_1 x4_1 a0_0 l0_1 l0_2 = some r) ∧ Aside0 (kq ≤ k) ∧ Aside0 (Kd.R k54 54 w' w.heap.size (fun _ => True) v3 x3_1) ∧ Aside0 (w'.heap[gb486]? = some (.cells #[.int .i64 a0_0, (.slice A0_1 l0_1.length c0_1), (.slice A0_2 l0_2.length c0_2)] 30 (0, 0))) ∧ Aside0 (Below w.heap.size w w'))
    case atStart => exact ⟨(y487), (0), (by first | rfl | (simp; done) | (simp [*]; done)), H', ⟨Nat.le_refl _⟩, ⟨rk HO489.out⟩, ⟨by (with_reducible repeat (first | apply bN | apply bD | apply bA)); exact BK486.out⟩, ⟨bl HB.out⟩⟩
    case round =>
      clear H'
      try clear c1
      try clear p2
      try clear c3
      try clear c4
      try clear hcz7_0
      try clear hcz7_1
      try clear hcz7_2
      try clear hfz7_0
      try clear hfz7_1
      try clear hfz7_2
      obtain ⟨x3_1, x4_1, rfl, HA, HK1, HO_3, BK486, HB⟩ := hrel
      cases gk with
      | zero => exact absurd HA.out (by simp [spec_GapsOf.l0])
      | succ k1 =>
        have H := HA.out
        clear HA
        simp only [spec_GapsOf.l0] at H
        by_cases c9 : x4_1 < (l0_2.length : Int)
        · rw [if_pos c9] at H
          have c9b0 : decide (x4_1 < (l0_2.length : Int)) = true := decide_eq_true c9
          clear c9
          by_cases c10 : 0 ≤ x4_1
          · rw [if_pos c10] at H
            have c10b0 : decide (0 ≤ x4_1) = true := decide_eq_true c10
            clear c10
            replace H := Option.bind_eq_some_iff.mp H
            obtain ⟨t493, A110, H⟩ := H
            replace H : (if t493 = true then (if x4_1 > 0 then (if 0 ≤ (wrap64 (x4_1 - 1)) then (if (wrap64 (x4_1 - 1)) < (l0_2.length : Int) then ((spec_l02Open.f ((rd_T71 l0_2 (wrap64 (x4_1 - 1))).f0) ((rd_T71 l0_2 (wrap64 (x4_1 - 1))).f1) ((rd_T71 l0_2 (wrap64 (x4_1 - 1))).f2) ((rd_T71 l0_2 (wrap64 (x4_1 - 1))).f3)).bind fun t495 => (if t495 = true then ((spec_l02Has.f k1 l0_1 ((rd_T71 l0_2 x4_1).f0)).bind fun t496 => (if t496 = true then (if x3_1.length < 5864062014805 then (spec_GapsOf.l0 k1 (x3_1 ++ [(⟨0, (rd_T71 l0_2 x4_1).f0, (rd_T71 l0_2 x4_1).f1⟩ : S54)]) (wrap64 (x4_1 + 1)) a0_0 l0_1 l0_2) else (none)) else (if 0 ≤ (wrap64 ((x3_1.length : Int) - 1)) then (if (wrap64 ((x3_1.length : Int) - 1)) < (x3_1.length : Int) then (spec_GapsOf.l0 k1 (x3_1.set ((wrap64 ((x3_1.length : Int) - 1)) : Int).toNat (⟨(rd_T54 x3_1 (wrap64 ((x3_1.length : Int) - 1))).f0, (rd_T54 x3_1 (wrap64 ((x3_1.length : Int) - 1))).f1, wrap64 (((rd_T54 x3_1 (wrap64 ((x3_1.length : Int) - 1))).f2) + ((rd_T71 l0_2 x4_1).f1))⟩ : S54)) (wrap64 (x4_1 + 1)) a0_0 l0_1 l0_2) else (none)) else (none)))) else (if x3_1.length < 5864062014805 then (spec_GapsOf.l0 k1 (x3_1 ++ [(⟨0, (rd_T71 l0_2 x4_1).f0, (rd_T71 l0_2 x4_1).f1⟩ : S54)]) (wrap64 (x4_1 + 1)) a0_0 l0_1 l0_2) else (none)))) else (none)) else (none)) else (if x3_1.length < 5864062014805 then (spec_GapsOf.l0 k1 (x3_1 ++ [(⟨0, (rd_T71 l0_2 x4_1).f0, (rd_T71 l0_2 x4_1).f1⟩ : S54)]) (wrap64 (x4_1 + 1)) a0_0 l0_1 l0_2) else (none))) else (spec_GapsOf.l0 k1 x3_1 (wrap64 (x4_1 + 1)) a0_0 l0_1 l0_2)) = some r := H
            have A11 := Aside0.mk A110
            clear A110
            by_cases c12 : t493 = true
            · subst c12
              have H1 : (if x4_1 > 0 then (if 0 ≤ (wrap64 (x4_1 - 1)) then (if (wrap64 (x4_1 - 1)) < (l0_2.length : Int) then ((spec_l02Open.f ((rd_T71 l0_2 (wrap64 (x4_1 - 1))).f0) ((rd_T71 l0_2 (wrap64 (x4_1 - 1))).f1) ((rd_T71 l0_2 (wrap64 (x4_1 - 1))).f2) ((rd_T71 l0_2 (wrap64 (x4_1 - 1))).f3)).bind fun t495 => (if t495 = true then ((spec_l02Has.f k1 l0_1 ((rd_T71 l0_2 x4_1).f0)).bind fun t496 => (if t496 = true then (if x3_1.length < 5864062014805 then (spec_GapsOf.l0 k1 (x3_1 ++ [(⟨0, (rd_T71 l0_2 x4_1).f0, (rd_T71 l0_2 x4_1).f1⟩ : S54)]) (wrap64 (x4_1 + 1)) a0_0 l0_1 l0_2) else (none)) else (if 0 ≤ (wrap64 ((x3_1.length : Int) - 1)) then (if (wrap64 ((x3_1.length : Int) - 1)) < (x3_1.length : Int) then (spec_GapsOf.l0 k1 (x3_1.set ((wrap64 ((x3_1.length : Int) - 1)) : Int).toNat (⟨(rd_T54 x3_1 (wrap64 ((x3_1.length : Int) - 1))).f0, (rd_T54 x3_1 (wrap64 ((x3_1.length : Int) - 1))).f1, wrap64 (((rd_T54 x3_1 (wrap64 ((x3_1.length : Int) - 1))).f2) + ((rd_T71 l0_2 x4_1).f1))⟩ : S54)) (wrap64 (x4_1 + 1)) a0_0 l0_1 l0_2) else (none)) else (none)))) else (if x3_1.length < 5864062014805 then (spec_GapsOf.l0 k1 (x3_1 ++ [(⟨0, (rd_T71 l0_2 x4_1).f0, (rd_T71 l0_2 x4_1).f1⟩ : S54)]) (wrap64 (x4_1 + 1)) a0_0 l0_1 l0_2) else (none)))) else (none)) else (none)) else (if x3_1.length < 5864062014805 then (spec_GapsOf.l0 k1 (x3_1 ++ [(⟨0, (rd_T71 l0_2 x4_1).f0, (rd_T71 l0_2 x4_1).f1⟩ : S54)]) (wrap64 (x4_1 + 1)) a0_0 l0_1 l0_2) else (none))) = some r := by rw [if_pos rfl] at H; exact H
              clear H
              have H := H1
              clear H1
              by_cases c13 : x4_1 > 0
              · rw [if_pos c13] at H
                have c13b0 : decide (0 < x4_1) = true := decide_eq_true c13
                clear c13
                obtain ⟨ji14, hji14⟩ : ∃ j_ : Int, (wrap64 (x4_1 - 1)) = j_ := ⟨_, rfl⟩
                replace H : (if 0 ≤ (ji14) then (if (ji14) < (l0_2.length : Int) then ((spec_l02Open.f ((rd_T71 l0_2 (ji14)).f0) ((rd_T71 l0_2 (ji14)).f1) ((rd_T71 l0_2 (ji14)).f2) ((rd_T71 l0_2 (ji14)).f3)).bind fun t495 => (if t495 = true then ((spec_l02Has.f k1 l0_1 ((rd_T71 l0_2 x4_1).f0)).bind fun t496 => (if t496 = true then (if x3_1.length < 5864062014805 then (spec_GapsOf.l0 k1 (x3_1 ++ [(⟨0, (rd_T71 l0_2 x4_1).f0, (rd_T71 l0_2 x4_1).f1⟩ : S54)]) (wrap64 (x4_1 + 1)) a0_0 l0_1 l0_2) else (none)) else (if 0 ≤ (wrap64 ((x3_1.length : Int) - 1)) then (if (wrap64 ((x3_1.length : Int) - 1)) < (x3_1.length : Int) then (spec_GapsOf.l0 k1 (x3_1.set ((wrap64 ((x3_1.length : Int) - 1)) : Int).toNat (⟨(rd_T54 x3_1 (wrap64 ((x3_1.length : Int) - 1))).f0, (rd_T54 x3_1 (wrap64 ((x3_1.length : Int) - 1))).f1, wrap64 (((rd_T54 x3_1 (wrap64 ((x3_1.length : Int) - 1))).f2) + ((rd_T71 l0_2 x4_1).f1))⟩ : S54)) (wrap64 (x4_1 + 1)) a0_0 l0_1 l0_2) else (none)) else (none)))) else (if x3_1.length < 5864062014805 then (spec_GapsOf.l0 k1 (x3_1 ++ [(⟨0, (rd_T71 l0_2 x4_1).f0, (rd_T71 l0_2 x4_1).f1⟩ : S54)]) (wrap64 (x4_1 + 1)) a0_0 l0_1 l0_2) else (none)))) else (none)) else (none)) = some r := by first | (rw [hji14] at H; exact H) | (simp only [hji14] at H ⊢; exact H)
                (try rw [hji14] at A11)
                have hji14w : (IntKind.i64.wrap (x4_1 - 1)) = ji14 := (i64_w _).trans hji14
                by_cases c15 : 0 ≤ (ji14)
                · rw [if_pos c15] at H
                  have c15b0 : decide (0 ≤ (ji14)) = true := decide_eq_true c15
                  clear c15
                  by_cases c16 : (ji14) < (l0_2.length : Int)
                  · rw [if_pos c16] at H
                    have c16b0 : decide ((ji14) < (l0_2.length : Int)) = true := decide_eq_true c16
                    clear c16
                    replace H := Option.bind_eq_some_iff.mp H
                    obtain ⟨t495, A170, H⟩ := H
                    replace H : (if t495 = true then ((spec_l02Has.f k1 l0_1 ((rd_T71 l0_2 x4_1).f0)).bind fun t496 => (if t496 = true then (if x3_1.length < 5864062014805 then (spec_GapsOf.l0 k1 (x3_1 ++ [(⟨0, (rd_T71 l0_2 x4_1).f0, (rd_T71 l0_2 x4_1).f1⟩ : S54)]) (wrap64 (x4_1 + 1)) a0_0 l0_1 l0_2) else (none)) else (if 0 ≤ (wrap64 ((x3_1.length : Int) - 1)) then (if (wrap64 ((x3_1.length : Int) - 1)) < (x3_1.length : Int) then (spec_GapsOf.l0 k1 (x3_1.set ((wrap64 ((x3_1.length : Int) - 1)) : Int).toNat (⟨(rd_T54 x3_1 (wrap64 ((x3_1.length : Int) - 1))).f0, (rd_T54 x3_1 (wrap64 ((x3_1.length : Int) - 1))).f1, wrap64 (((rd_T54 x3_1 (wrap64 ((x3_1.length : Int) - 1))).f2) + ((rd_T71 l0_2 x4_1).f1))⟩ : S54)) (wrap64 (x4_1 + 1)) a0_0 l0_1 l0_2) else (none)) else (none)))) else (if x3_1.length < 5864062014805 then (spec_GapsOf.l0 k1 (x3_1 ++ [(⟨0, (rd_T71 l0_2 x4_1).f0, (rd_T71 l0_2 x4_1).f1⟩ : S54)]) (wrap64 (x4_1 + 1)) a0_0 l0_1 l0_2) else (none))) = some r := H
                    have A17 := Aside0.mk A170
                    clear A170
                    by_cases c18 : t495 = true
                    · subst c18
                      have H1 : ((spec_l02Has.f k1 l0_1 ((rd_T71 l0_2 x4_1).f0)).bind fun t496 => (if t496 = true then (if x3_1.length < 5864062014805 then (spec_GapsOf.l0 k1 (x3_1 ++ [(⟨0, (rd_T71 l0_2 x4_1).f0, (rd_T71 l0_2 x4_1).f1⟩ : S54)]) (wrap64 (x4_1 + 1)) a0_0 l0_1 l0_2) else (none)) else (if 0 ≤ (wrap64 ((x3_1.length : Int) - 1)) then (if (wrap64 ((x3_1.length : Int) - 1)) < (x3_1.length : Int) then (spec_GapsOf.l0 k1 (x3_1.set ((wrap64 ((x3_1.length : Int) - 1)) : Int).toNat (⟨(rd_T54 x3_1 (wrap64 ((x3_1.length : Int) - 1))).f0, (rd_T54 x3_1 (wrap64 ((x3_1.length : Int) - 1))).f1, wrap64 (((rd_T54 x3_1 (wrap64 ((x3_1.length : Int) - 1))).f2) + ((rd_T71 l0_2 x4_1).f1))⟩ : S54)) (wrap64 (x4_1 + 1)) a0_0 l0_1 l0_2) else (none)) else (none)))) = some r := by rw [if_pos rfl] at H; exact H
                      clear H
                      have H := H1
                      clear H1
                      replace H := Option.bind_eq_some_iff.mp H
                      obtain ⟨t496, A190, H⟩ := H
                      replace H : (if t496 = true then (if x3_1.length < 5864062014805 then (spec_GapsOf.l0 k1 (x3_1 ++ [(⟨0, (rd_T71 l0_2 x4_1).f0, (rd_T71 l0_2 x4_1).f1⟩ : S54)]) (wrap64 (x4_1 + 1)) a0_0 l0_1 l0_2) else (none)) else (if 0 ≤ (wrap64 ((x3_1.length : Int) - 1)) then (if (wrap64 ((x3_1.length : Int) - 1)) < (x3_1.length : Int) then (spec_GapsOf.l0 k1 (x3_1.set ((wrap64 ((x3_1.length : Int) - 1)) : Int).toNat (⟨(rd_T54 x3_1 (wrap64 ((x3_1.length : Int) - 1))).f0, (rd_T54 x3_1 (wrap64 ((x3_1.length : Int) - 1))).f1, wrap64 (((rd_T54 x3_1 (wrap64 ((x3_1.length : Int) - 1))).f2) + ((rd_T71 l0_2 x4_1).f1))⟩ : S54)) (wrap64 (x4_1 + 1)) a0_0 l0_1 l0_2) else (none)) else (none))) = some r := H
                      have A19 := Aside0.mk A190
                      clear A190
                      by_cases c20 : t496 = true
                      · subst c20
                        have H1 : (if x3_1.length < 5864062014805 then (spec_GapsOf.l0 k1 (x3_1 ++ [(⟨0, (rd_T71 l0_2 x4_1).f0, (rd_T71 l0_2 x4_1).f1⟩ : S54)]) (wrap64 (x4_1 + 1)) a0_0 l0_1 l0_2) else (none)) = some r := by rw [if_pos rfl] at H; exact H
                        clear H
                        have H := H1
                        clear H1
                        by_cases c21 : x3_1.length < 5864062014805
                        · rw [if_pos c21] at H
                          have LMc21 := Aside0.mk c21
                          clear c21
                          obtain ⟨y497, hy497⟩ : ∃ y_ : List (S54), y_ = (x3_1 ++ [(⟨0, (rd_T71 l0_2 x4_1).f0, (rd_T71 l0_2 x4_1).f1⟩ : S54)]) := ⟨_, rfl⟩
                          replace H : (spec_GapsOf.l0 k1 y497 (wrap64 (x4_1 + 1)) a0_0 l0_1 l0_2) = some r := by first | (rw [hy497]; with_reducible exact H) | (have H2_ := (Option.bind_some _ _).symm.trans H; rw [hy497]; with_reducible exact H2_) | (have H2_ := (Option.bind_some _ _).symm.trans H; with_reducible exact H2_) | with_reducible exact H | (rw [hy497]; exact H) | exact H
                          have Ny497 := Aside0.mk hy497
                          clear hy497
                          have H' := Aside0.mk H
                          clear H
                          have hcz22_0 : wr.cell? ⟨gb486, 0, none⟩ = some (.int .i64 a0_0) := (blk_cell BK486.out 0).trans rfl
                          have hcz22_1 : wr.cell? ⟨gb486, 1, none⟩ = some (.slice A0_1 l0_1.length c0_1) := (blk_cell BK486.out 1).trans rfl
                          have hcz22_2 : wr.cell? ⟨gb486, 2, none⟩ = some (.slice A0_2 l0_2.length c0_2) := (blk_cell BK486.out 2).trans rfl
                          have hfz22_0 := blk_frozen BK486.out 0
                          have hfz22_1 := blk_frozen BK486.out 1
                          have hfz22_2 := blk_frozen BK486.out 2
                          have p491 : 0 ≤ (x4_1 : Int) := of_decide_eq_true (by first | (with_reducible assumption) | assumption)
                          have q491 : x4_1 < (l0_2.length : Int) := of_decide_eq_true (by first | (with_reducible assumption) | assumption)
                          obtain ⟨ad491, e491, hx491_0, hx491_1, hx491_2, hx491_3⟩ := at_T71 HR0_2.out x4_1 p491 q491
                          cases e491
                          replace hx491_0 := (HB.out.cell (World.block_lt_of_cell? w _ hx491_0)).trans hx491_0
                          replace hx491_1 := (HB.out.cell (World.block_lt_of_cell? w _ hx491_1)).trans hx491_1
                          replace hx491_2 := (HB.out.cell (World.block_lt_of_cell? w _ hx491_2)).trans hx491_2
                          replace hx491_3 := (HB.out.cell (World.block_lt_of_cell? w _ hx491_3)).trans hx491_3
                          replace p491 := eq_true p491
                          replace q491 := eq_true q491
                          go_wp2_with (first | ((with_reducible refine gate_dst (N := 5) rfl ?_); refine bx (cs := #[.int .i64 0, .int .i64 0, .int .i64 0, .bool false]) (t := 71) fun gb492 hg w23 hbox hb => ?_; have n0_ := Aside0.mk (Kd.R_below (rk HO_3.out) hb); have n1_ := Aside0.mk (bb BK486.out hb); have n2_ := Aside0.mk (below_step (bl HB.out) hb); have n3_ := Aside0.mk (hbox); have n4_ := Aside0.mk (gs HB.out hg); have n5_ := Aside0.mk (gs HB.out hg); have n6_ := Aside0.mk ((nl BK486.out hg)); have n7_ := Aside0.mk ((ng BK486.out hg)); clear HO_3; clear BK486; clear HB; have HO_3 := n0_; have BK486 := n1_; have HB := n2_; have BK492 := n3_; have GW492 := n4_; have GE492 := n5_; have NB486_492 := n6_; have NB492_486 := n7_; clear n0_ n1_ n2_ n3_ n4_ n5_ n6_ n7_; clear hb hbox hg; have hnb24 := NB492_486.out; have hnc24 := NB486_492.out; have hcz25_0 : w23.cell? ⟨gb492, 0, none⟩ = some (.int .i64 0) := (blk_cell BK492.out 0).trans rfl; have hcz25_1 : w23.cell? ⟨gb492, 1, none⟩ = some (.int .i64 0) := (blk_cell BK492.out 1).trans rfl; have hcz25_2 : w23.cell? ⟨gb492, 2, none⟩ = some (.int .i64 0) := (blk_cell BK492.out 2).trans rfl; have hcz25_3 : w23.cell? ⟨gb492, 3, none⟩ = some (.bool false) := (blk_cell BK492.out 3).trans rfl; have hfz25_0 := blk_frozen BK492.out 0; have hfz25_1 := blk_frozen BK492.out 1; have hfz25_2 := blk_frozen BK492.out 2; have hfz25_3 := blk_frozen BK492.out 3) | ((with_reducible refine gate_callee (f := 75) rfl ?_); refine goesL_ (some 24) rfl rfl Try.func75 (by kernel_rfl) rfl #[.agg #[.int .i64 ((rd_T71 l0_2 x4_1).f0), .int .i64 ((rd_T71 l0_2 x4_1).f1), .int .i64 ((rd_T71 l0_2 x4_1).f2), .bool ((rd_T71 l0_2 x4_1).f3)]] rfl (by (try simp only [List.map_toArray, List.map_cons, List.map_nil]); first | done | rfl | (simp only [List.length_drop, List.length_take]; rfl)) ?_; (with_reducible refine (spec_l02Open.calls ((rd_T71 l0_2 x4_1).f0) ((rd_T71 l0_2 x4_1).f1) ((rd_T71 l0_2 x4_1).f2) ((rd_T71 l0_2 x4_1).f3) true _ A11.out).mono ?_); rintro e w26 ⟨rfl, hb⟩; refine ⟨_, rfl, ?_⟩; have n0_ := Aside0.mk (Kd.R_below (by (with_reducible repeat (first | apply Kd.R_alloc | apply Kd.R_drewN | apply Kd.R_drew)); exact (Kd.R_mono (Kd.R_far (p := ⟨gb492, 3, none⟩) (Kd.R_far (p := ⟨gb492, 2, none⟩) (Kd.R_far (p := ⟨gb492, 1, none⟩) (Kd.R_far (p := ⟨gb492, 0, none⟩) (Kd.R_types HO_3.out BK492.out (by decide)) (fun _ hk => hk.2) (.int .i64 ((rd_T71 l0_2 x4_1).f0))) (fun _ hk => hk.2) (.int .i64 ((rd_T71 l0_2 x4_1).f1))) (fun _ hk => hk.2) (.int .i64 ((rd_T71 l0_2 x4_1).f2))) (fun _ hk => hk.2) (.bool ((rd_T71 l0_2 x4_1).f3))) (fun _ h_ => h_.1))) hb); have n1_ := Aside0.mk (blk_below (g := gb486) (o := .cells #[.int .i64 a0_0, .slice A0_1 l0_1.length c0_1, .slice (some ad491) l0_2.length c0_2] 30 (0, 0)) (by (with_reducible repeat (first | apply bN | apply bD | apply bA)); refine blk_far ?_ NB486_492.out _; (with_reducible repeat (first | apply bN | apply bD | apply bA)); refine blk_far ?_ NB486_492.out _; (with_reducible repeat (first | apply bN | apply bD | apply bA)); refine blk_far ?_ NB486_492.out _; (with_reducible repeat (first | apply bN | apply bD | apply bA)); refine blk_far ?_ NB486_492.out _; (with_reducible repeat (first | apply bN | apply bD | apply bA)); exact BK486.out) hb); have n2_ := Aside0.mk (blk_below (g := gb492) (o := .cells #[.int .i64 ((rd_T71 l0_2 x4_1).f0), .int .i64 ((rd_T71 l0_2 x4_1).f1), .int .i64 ((rd_T71 l0_2 x4_1).f2), .bool ((rd_T71 l0_2 x4_1).f3)] 71 (0, 0)) (by (with_reducible repeat (first | apply bN | apply bD | apply bA)); refine blk_put (cs := #[.int .i64 ((rd_T71 l0_2 x4_1).f0), .int .i64 ((rd_T71 l0_2 x4_1).f1), .int .i64 ((rd_T71 l0_2 x4_1).f2), .bool false]) ?_ 3 _ rfl; (with_reducible repeat (first | apply bN | apply bD | apply bA)); refine blk_put (cs := #[.int .i64 ((rd_T71 l0_2 x4_1).f0), .int .i64 ((rd_T71 l0_2 x4_1).f1), .int .i64 0, .bool false]) ?_ 2 _ rfl; (with_reducible repeat (first | apply bN | apply bD | apply bA)); refine blk_put (cs := #[.int .i64 ((rd_T71 l0_2 x4_1).f0), .int .i64 0, .int .i64 0, .bool false]) ?_ 1 _ rfl; (with_reducible repeat (first | apply bN | apply bD | apply bA)); refine blk_put (cs := #[.int .i64 0, .int .i64 0, .int .i64 0, .bool false]) ?_ 0 _ rfl; (with_reducible repeat (first | apply bN | apply bD | apply bA)); exact BK492.out) hb); have n3_ := Aside0.mk (below_step (bl HB.out) hb); clear HO_3; clear BK486; clear BK492; clear HB; have HO_3 := n0_; have BK486 := n1_; have BK492 := n2_; have HB := n3_; clear n0_ n1_ n2_ n3_; (try clear hb); (try clear hb2); (try clear hk); (try clear hi); have hcz27_0 : w26.cell? ⟨gb486, 0, none⟩ = some (.int .i64 a0_0) := (blk_cell BK486.out 0).trans rfl; have hcz27_1 : w26.cell? ⟨gb486, 1, none⟩ = some (.slice A0_1 l0_1.length c0_1) := (blk_cell BK486.out 1).trans rfl; have hcz27_2 : w26.cell? ⟨gb486, 2, none⟩ = some (.slice (some ad491) l0_2.length c0_2) := (blk_cell BK486.out 2).trans rfl; have hfz27_0 := blk_frozen BK486.out 0; have hfz27_1 := blk_frozen BK486.out 1; have hfz27_2 := blk_frozen BK486.out 2; have p494 : 0 ≤ ((ji14) : Int) := of_decide_eq_true (by first | (with_reducible assumption) | assumption); have q494 : (ji14) < (l0_2.length : Int) := of_decide_eq_true (by first | (with_reducible assumption) | assumption); obtain ⟨ad494, e494, hx494_0, hx494_1, hx494_2, hx494_3⟩ := at_T71 HR0_2.out (ji14) p494 q494; obtain rfl : ad491 = ad494 := (by injection e494); replace hx494_0 := (HB.out.cell (World.block_lt_of_cell? w _ hx494_0)).trans hx494_0; replace hx494_1 := (HB.out.cell (World.block_lt_of_cell? w _ hx494_1)).trans hx494_1; replace hx494_2 := (HB.out.cell (World.block_lt_of_cell? w _ hx494_2)).trans hx494_2; replace hx494_3 := (HB.out.cell (World.block_lt_of_cell? w _ hx494_3)).trans hx494_3; replace p494 := eq_true p494; replace q494 := eq_true q494) | (go_at_call 75; (with_reducible refine (spec_l02Open.calls ((rd_T71 l0_2 (ji14)).f0) ((rd_T71 l0_2 (ji14)).f1) ((rd_T71 l0_2 (ji14)).f2) ((rd_T71 l0_2 (ji14)).f3) true _ A17.out).mono ?_); rintro e w28 ⟨rfl, hb⟩; have n0_ := Aside0.mk (Kd.R_below (rk HO_3.out) hb); have n1_ := Aside0.mk (bb BK486.out hb); have n2_ := Aside0.mk (bb BK492.out hb); have n3_ := Aside0.mk (below_step (bl HB.out) hb); clear HO_3; clear BK486; clear BK492; clear HB; have HO_3 := n0_; have BK486 := n1_; have BK492 := n2_; have HB := n3_; clear n0_ n1_ n2_ n3_; (try clear hb); (try clear hb2); (try clear hk); (try clear hi); have hcz29_0 : w28.cell? ⟨gb486, 0, none⟩ = some (.int .i64 a0_0) := (blk_cell BK486.out 0).trans rfl; have hcz29_1 : w28.cell? ⟨gb486, 1, none⟩ = some (.slice A0_1 l0_1.length c0_1) := (blk_cell BK486.out 1).trans rfl; have hcz29_2 : w28.cell? ⟨gb486, 2, none⟩ = some (.slice (some ad491) l0_2.length c0_2) := (blk_cell BK486.out 2).trans rfl; have hfz29_0 := blk_frozen BK486.out 0; have hfz29_1 := blk_frozen BK486.out 1; have hfz29_2 := blk_frozen BK486.out 2; have hcz30_0 : w28.cell? ⟨gb492, 0, none⟩ = some (.int .i64 ((rd_T71 l0_2 x4_1).f0)) := (blk_cell BK492.out 0).trans rfl; have hcz30_1 : w28.cell? ⟨gb492, 1, none⟩ = some (.int .i64 ((rd_T71 l0_2 x4_1).f1)) := (blk_cell BK492.out 1).trans rfl; have hcz30_2 : w28.cell? ⟨gb492, 2, none⟩ = some (.int .i64 ((rd_T71 l0_2 x4_1).f2)) := (blk_cell BK492.out 2).trans rfl; have hcz30_3 : w28.cell? ⟨gb492, 3, none⟩ = some (.bool ((rd_T71 l0_2 x4_1).f3)) := (blk_cell BK492.out 3).trans rfl; have hfz30_0 := blk_frozen BK492.out 0; have hfz30_1 := blk_frozen BK492.out 1; have hfz30_2 := blk_frozen BK492.out 2; have hfz30_3 := blk_frozen BK492.out 3) | (go_at_call 76; (with_reducible refine (spec_l02Has.calls k1 _ _ l0_1 ((rd_T71 l0_2 x4_1).f0) true _ ?side1 ?side2 A19.out).mono ?_); (case side1 => repeat (first | exact (Kd.C_below HR0_1.out HB.out) | (with_reducible refine Kd.C_alloc ?_ _) | (with_reducible refine Kd.C_drewN ?_ _) | (with_reducible refine Kd.C_drew ?_))); (case side2 => exact HC0_1.out); rintro e w' ⟨rfl, ⟨nd, rfl⟩⟩) | ((with_reducible refine gate_builtin (b := .append) (xs := #[.tmp 61, .tmp 67]) rfl ?_); at_builtin; refine Kd.R_append k54 (w0 := w) w.heap.size rfl (.tmp 61) (.tmp 67) 60 54 (.agg #[(.int .i64 0), (.int .i64 0), (.int .i64 0)]) 24 rfl Try.underlying60 info54 rfl (by decide) (by omega) u3 x3_1 (⟨0, (rd_T71 l0_2 x4_1).f0, (rd_T71 l0_2 x4_1).f1⟩ : S54) [.int .i64 0, .int .i64 ((rd_T71 l0_2 x4_1).f0), .int .i64 ((rd_T71 l0_2 x4_1).f1)] (fun _ => True) (fun _ => False) rfl rfl ?aP (fun _ hk => hk.elim) ?aF ?aO ?aB ?aS ?aL ?_; (case aP => exact k54_mkM _ _ _ (⟨0, (rd_T71 l0_2 x4_1).f0, (rd_T71 l0_2 x4_1).f1⟩ : S54)); (case aB => exact (bl HB.out)); (case aF => exact (fun _ _ => trivial)); (case aO => exact (rk HO_3.out)); (case aS => exact (below_size (bl HB.out))); (case aL => have := LMc21.out; omega); intro v498 w31 ho hb hg hat; rw [← Ny497.out] at ho; have n0_ := Aside0.mk (blk_grown (g := gb486) (o := .cells #[.int .i64 a0_0, .slice A0_1 l0_1.length c0_1, .slice (some ad491) l0_2.length c0_2] 30 (0, 0)) (bk BK486.out) hg (Kd.R_ne HO_3.out BK486.out (by decide))); have n1_ := Aside0.mk (blk_grown (g := gb492) (o := .cells #[.int .i64 ((rd_T71 l0_2 x4_1).f0), .int .i64 ((rd_T71 l0_2 x4_1).f1), .int .i64 ((rd_T71 l0_2 x4_1).f2), .bool ((rd_T71 l0_2 x4_1).f3)] 71 (0, 0)) (bk BK492.out) hg (Kd.R_ne HO_3.out BK492.out (by decide))); have n2_ := Aside0.mk (hb); have n3_ := Aside0.mk (ho); clear BK486; clear BK492; clear HB; clear HO_3; have BK486 := n0_; have BK492 := n1_; have HB := n2_; have HO499 := n3_; clear n0_ n1_ n2_ n3_; clear ho hb hg hat))
                          go_roundg k1
                          case measure => have := HK1.out; omega
                          case rel => exact ⟨(y497), (wrap64 (x4_1 + 1)), (by first | rfl | (simp; done) | (simp [*]; done)), H', ⟨by have := HK1.out; omega⟩, ⟨rk HO499.out⟩, ⟨by (with_reducible repeat (first | apply bN | apply bD | apply bA)); exact BK486.out⟩, ⟨bl HB.out⟩⟩
                        · rw [if_neg c21] at H
                          exact absurd H (by simp)
                      · replace c20 := Bool.eq_false_iff.mpr c20
                        subst c20
                        have H1 : (if 0 ≤ (wrap64 ((x3_1.length : Int) - 1)) then (if (wrap64 ((x3_1.length : Int) - 1)) < (x3_1.length : Int) then (spec_GapsOf.l0 k1 (x3_1.set ((wrap64 ((x3_1.length : Int) - 1)) : Int).toNat (⟨(rd_T54 x3_1 (wrap64 ((x3_1.length : Int) - 1))).f0, (rd_T54 x3_1 (wrap64 ((x3_1.length : Int) - 1))).f1, wrap64 (((rd_T54 x3_1 (wrap64 ((x3_1.length : Int) - 1))).f2) + ((rd_T71 l0_2 x4_1).f1))⟩ : S54)) (wrap64 (x4_1 + 1)) a0_0 l0_1 l0_2) else (none)) else (none)) = some r := by rw [if_neg (show ¬ (false = true) by decide)] at H; exact H
                        clear H
                        have H := H1
                        clear H1
                        obtain ⟨ji32, hji32⟩ : ∃ j_ : Int, (wrap64 ((x3_1.length : Int) - 1)) = j_ := ⟨_, rfl⟩
                        replace H : (if 0 ≤ (ji32) then (if (ji32) < (x3_1.length : Int) then (spec_GapsOf.l0 k1 (x3_1.set ((ji32) : Int).toNat (⟨(rd_T54 x3_1 (ji32)).f0, (rd_T54 x3_1 (ji32)).f1, wrap64 (((rd_T54 x3_1 (ji32)).f2) + ((rd_T71 l0_2 x4_1).f1))⟩ : S54)) (wrap64 (x4_1 + 1)) a0_0 l0_1 l0_2) else (none)) else (none)) = some r := by first | (rw [hji32] at H; exact H) | (simp only [hji32] at H ⊢; exact H)
                        (try rw [hji32] at A11)
                        (try rw [hji32] at A17)
                        (try rw [hji32] at A19)
                        have hji32w : (IntKind.i64.wrap ((x3_1.length : Int) - 1)) = ji32 := (i64_w _).trans hji32
                        by_cases c33 : 0 ≤ (ji32)
                        · rw [if_pos c33] at H
                          have c33b0 : decide (0 ≤ (ji32)) = true := decide_eq_true c33
                          clear c33
                          by_cases c34 : (ji32) < (x3_1.length : Int)
                          · rw [if_pos c34] at H
                            have c34b0 : decide ((ji32) < (x3_1.length : Int)) = true := decide_eq_true c34
                            clear c34
                            obtain ⟨y501, hy501⟩ : ∃ y_ : List (S54), y_ = (x3_1.set ((ji32) : Int).toNat (⟨(rd_T54 x3_1 (ji32)).f0, (rd_T54 x3_1 (ji32)).f1, wrap64 (((rd_T54 x3_1 (ji32)).f2) + ((rd_T71 l0_2 x4_1).f1))⟩ : S54)) := ⟨_, rfl⟩
                            replace H : (spec_GapsOf.l0 k1 y501 (wrap64 (x4_1 + 1)) a0_0 l0_1 l0_2) = some r := by first | (rw [hy501]; with_reducible exact H) | (have H2_ := (Option.bind_some _ _).symm.trans H; rw [hy501]; with_reducible exact H2_) | (have H2_ := (Option.bind_some _ _).symm.trans H; with_reducible exact H2_) | with_reducible exact H | (rw [hy501]; exact H) | exact H
                            have Ny501 := Aside0.mk hy501
                            clear hy501
                            have H' := Aside0.mk H
                            clear H
                            have hcz36_0 : wr.cell? ⟨gb486, 0, none⟩ = some (.int .i64 a0_0) := (blk_cell BK486.out 0).trans rfl
                            have hcz36_1 : wr.cell? ⟨gb486, 1, none⟩ = some (.slice A0_1 l0_1.length c0_1) := (blk_cell BK486.out 1).trans rfl
                            have hcz36_2 : wr.cell? ⟨gb486, 2, none⟩ = some (.slice A0_2 l0_2.length c0_2) := (blk_cell BK486.out 2).trans rfl
                            have hfz36_0 := blk_frozen BK486.out 0
                            have hfz36_1 := blk_frozen BK486.out 1
                            have hfz36_2 := blk_frozen BK486.out 2
                            have p491 : 0 ≤ (x4_1 : Int) := of_decide_eq_true (by first | (with_reducible assumption) | assumption)
                            have q491 : x4_1 < (l0_2.length : Int) := of_decide_eq_true (by first | (with_reducible assumption) | assumption)
                            obtain ⟨ad491, e491, hx491_0, hx491_1, hx491_2, hx491_3⟩ := at_T71 HR0_2.out x4_1 p491 q491
                            cases e491
                            replace hx491_0 := (HB.out.cell (World.block_lt_of_cell? w _ hx491_0)).trans hx491_0
                            replace hx491_1 := (HB.out.cell (World.block_lt_of_cell? w _ hx491_1)).trans hx491_1
                            replace hx491_2 := (HB.out.cell (World.block_lt_of_cell? w _ hx491_2)).trans hx491_2
                            replace hx491_3 := (HB.out.cell (World.block_lt_of_cell? w _ hx491_3)).trans hx491_3
                            replace p491 := eq_true p491
                            replace q491 := eq_true q491
                            try go_wp2_with (first | ((with_reducible refine gate_dst (N := 5) rfl ?_); refine bx (cs := #[.int .i64 0, .int .i64 0, .int .i64 0, .bool false]) (t := 71) fun gb492 hg w37 hbox hb => ?_; have n0_ := Aside0.mk (Kd.R_below (rk HO_3.out) hb); have n1_ := Aside0.mk (bb BK486.out hb); have n2_ := Aside0.mk (below_step (bl HB.out) hb); have n3_ := Aside0.mk (hbox); have n4_ := Aside0.mk (gs HB.out hg); have n5_ := Aside0.mk (gs HB.out hg); have n6_ := Aside0.mk ((nl BK486.out hg)); have n7_ := Aside0.mk ((ng BK486.out hg)); clear HO_3; clear BK486; clear HB; have HO_3 := n0_; have BK486 := n1_; have HB := n2_; have BK492 := n3_; have GW492 := n4_; have GE492 := n5_; have NB486_492 := n6_; have NB492_486 := n7_; clear n0_ n1_ n2_ n3_ n4_ n5_ n6_ n7_; clear hb hbox hg; have hnb38 := NB492_486.out; have hnc38 := NB486_492.out; have hcz39_0 : w37.cell? ⟨gb492, 0, none⟩ = some (.int .i64 0) := (blk_cell BK492.out 0).trans rfl; have hcz39_1 : w37.cell? ⟨gb492, 1, none⟩ = some (.int .i64 0) := (blk_cell BK492.out 1).trans rfl; have hcz39_2 : w37.cell? ⟨gb492, 2, none⟩ = some (.int .i64 0) := (blk_cell BK492.out 2).trans rfl; have hcz39_3 : w37.cell? ⟨gb492, 3, none⟩ = some (.bool false) := (blk_cell BK492.out 3).trans rfl; have hfz39_0 := blk_frozen BK492.out 0; have hfz39_1 := blk_frozen BK492.out 1; have hfz39_2 := blk_frozen BK492.out 2; have hfz39_3 := blk_frozen BK492.out 3) | ((with_reducible refine gate_callee (f := 75) rfl ?_); refine goesL_ (some 24) rfl rfl Try.func75 (by kernel_rfl) rfl #[.agg #[.int .i64 ((rd_T71 l0_2 x4_1).f0), .int .i64 ((rd_T71 l0_2 x4_1).f1), .int .i64 ((rd_T71 l0_2 x4_1).f2), .bool ((rd_T71 l0_2 x4_1).f3)]] rfl (by (try simp only [List.map_toArray, List.map_cons, List.map_nil]); first | done | rfl | (simp only [List.length_drop, List.length_take]; rfl)) ?_; (with_reducible refine (spec_l02Open.calls ((rd_T71 l0_2 x4_1).f0) ((rd_T71 l0_2 x4_1).f1) ((rd_T71 l0_2 x4_1).f2) ((rd_T71 l0_2 x4_1).f3) true _ A11.out).mono ?_); rintro e w40 ⟨rfl, hb⟩; refine ⟨_, rfl, ?_⟩; have n0_ := Aside0.mk (Kd.R_below (by (with_reducible repeat (first | apply Kd.R_alloc | apply Kd.R_drewN | apply Kd.R_drew)); exact (Kd.R_mono (Kd.R_far (p := ⟨gb492, 3, none⟩) (Kd.R_far (p := ⟨gb492, 2, none⟩) (Kd.R_far (p := ⟨gb492, 1, none⟩) (Kd.R_far (p := ⟨gb492, 0, none⟩) (Kd.R_types HO_3.out BK492.out (by decide)) (fun _ hk => hk.2) (.int .i64 ((rd_T71 l0_2 x4_1).f0))) (fun _ hk => hk.2) (.int .i64 ((rd_T71 l0_2 x4_1).f1))) (fun _ hk => hk.2) (.int .i64 ((rd_T71 l0_2 x4_1).f2))) (fun _ hk => hk.2) (.bool ((rd_T71 l0_2 x4_1).f3))) (fun _ h_ => h_.1))) hb); have n1_ := Aside0.mk (blk_below (g := gb486) (o := .cells #[.int .i64 a0_0, .slice A0_1 l0_1.length c0_1, .slice (some ad491) l0_2.length c0_2] 30 (0, 0)) (by (with_reducible repeat (first | apply bN | apply bD | apply bA)); refine blk_far ?_ NB486_492.out _; (with_reducible repeat (first | apply bN | apply bD | apply bA)); refine blk_far ?_ NB486_492.out _; (with_reducible repeat (first | apply bN | apply bD | apply bA)); refine blk_far ?_ NB486_492.out _; (with_reducible repeat (first | apply bN | apply bD | apply bA)); refine blk_far ?_ NB486_492.out _; (with_reducible repeat (first | apply bN | apply bD | apply bA)); exact BK486.out) hb); have n2_ := Aside0.mk (blk_below (g := gb492) (o := .cells #[.int .i64 ((rd_T71 l0_2 x4_1).f0), .int .i64 ((rd_T71 l0_2 x4_1).f1), .int .i64 ((rd_T71 l0_2 x4_1).f2), .bool ((rd_T71 l0_2 x4_1).f3)] 71 (0, 0)) (by (with_reducible repeat (first | apply bN | apply bD | apply bA)); refine blk_put (cs := #[.int .i64 ((rd_T71 l0_2 x4_1).f0), .int .i64 ((rd_T71 l0_2 x4_1).f1), .int .i64 ((rd_T71 l0_2 x4_1).f2), .bool false]) ?_ 3 _ rfl; (with_reducible repeat (first | apply bN | apply bD | apply bA)); refine blk_put (cs := #[.int .i64 ((rd_T71 l0_2 x4_1).f0), .int .i64 ((rd_T71 l0_2 x4_1).f1), .int .i64 0, .bool false]) ?_ 2 _ rfl; (with_reducible repeat (first | apply bN | apply bD | apply bA)); refine blk_put (cs := #[.int .i64 ((rd_T71 l0_2 x4_1).f0), .int .i64 0, .int .i64 0, .bool false]) ?_ 1 _ rfl; (with_reducible repeat (first | apply bN | apply bD | apply bA)); refine blk_put (cs := #[.int .i64 0, .int .i64 0, .int .i64 0, .bool false]) ?_ 0 _ rfl; (with_reducible repeat (first | apply bN | apply bD | apply bA)); exact BK492.out) hb); have n3_ := Aside0.mk (below_step (bl HB.out) hb); clear HO_3; clear BK486; clear BK492; clear HB; have HO_3 := n0_; have BK486 := n1_; have BK492 := n2_; have HB := n3_; clear n0_ n1_ n2_ n3_; (try clear hb); (try clear hb2); (try clear hk); (try clear hi); have hcz41_0 : w40.cell? ⟨gb486, 0, none⟩ = some (.int .i64 a0_0) := (blk_cell BK486.out 0).trans rfl; have hcz41_1 : w40.cell? ⟨gb486, 1, none⟩ = some (.slice A0_1 l0_1.length c0_1) := (blk_cell BK486.out 1).trans rfl; have hcz41_2 : w40.cell? ⟨gb486, 2, none⟩ = some (.slice (some ad491) l0_2.length c0_2) := (blk_cell BK486.out 2).trans rfl; have hfz41_0 := blk_frozen BK486.out 0; have hfz41_1 := blk_frozen BK486.out 1; have hfz41_2 := blk_frozen BK486.out 2; have p494 : 0 ≤ ((ji14) : Int) := of_decide_eq_true (by first | (with_reducible assumption) | assumption); have q494 : (ji14) < (l0_2.length : Int) := of_decide_eq_true (by first | (with_reducible assumption) | assumption); obtain ⟨ad494, e494, hx494_0, hx494_1, hx494_2, hx494_3⟩ := at_T71 HR0_2.out (ji14) p494 q494; obtain rfl : ad491 = ad494 := (by injection e494); replace hx494_0 := (HB.out.cell (World.block_lt_of_cell? w _ hx494_0)).trans hx494_0; replace hx494_1 := (HB.out.cell (World.block_lt_of_cell? w _ hx494_1)).trans hx494_1; replace hx494_2 := (HB.out.cell (World.block_lt_of_cell? w _ hx494_2)).trans hx494_2; replace hx494_3 := (HB.out.cell (World.block_lt_of_cell? w _ hx494_3)).trans hx494_3; replace p494 := eq_true p494; replace q494 := eq_true q494) | (go_at_call 75; (with_reducible refine (spec_l02Open.calls ((rd_T71 l0_2 (ji14)).f0) ((rd_T71 l0_2 (ji14)).f1) ((rd_T71 l0_2 (ji14)).f2) ((rd_T71 l0_2 (ji14)).f3) true _ A17.out).mono ?_); rintro e w42 ⟨rfl, hb⟩; have n0_ := Aside0.mk (Kd.R_below (rk HO_3.out) hb); have n1_ := Aside0.mk (bb BK486.out hb); have n2_ := Aside0.mk (bb BK492.out hb); have n3_ := Aside0.mk (below_step (bl HB.out) hb); clear HO_3; clear BK486; clear BK492; clear HB; have HO_3 := n0_; have BK486 := n1_; have BK492 := n2_; have HB := n3_; clear n0_ n1_ n2_ n3_; (try clear hb); (try clear hb2); (try clear hk); (try clear hi); have hcz43_0 : w42.cell? ⟨gb486, 0, none⟩ = some (.int .i64 a0_0) := (blk_cell BK486.out 0).trans rfl; have hcz43_1 : w42.cell? ⟨gb486, 1, none⟩ = some (.slice A0_1 l0_1.length c0_1) := (blk_cell BK486.out 1).trans rfl; have hcz43_2 : w42.cell? ⟨gb486, 2, none⟩ = some (.slice (some ad491) l0_2.length c0_2) := (blk_cell BK486.out 2).trans rfl; have hfz43_0 := blk_frozen BK486.out 0; have hfz43_1 := blk_frozen BK486.out 1; have hfz43_2 := blk_frozen BK486.out 2; have hcz44_0 : w42.cell? ⟨gb492, 0, none⟩ = some (.int .i64 ((rd_T71 l0_2 x4_1).f0)) := (blk_cell BK492.out 0).trans rfl; have hcz44_1 : w42.cell? ⟨gb492, 1, none⟩ = some (.int .i64 ((rd_T71 l0_2 x4_1).f1)) := (blk_cell BK492.out 1).trans rfl; have hcz44_2 : w42.cell? ⟨gb492, 2, none⟩ = some (.int .i64 ((rd_T71 l0_2 x4_1).f2)) := (blk_cell BK492.out 2).trans rfl; have hcz44_3 : w42.cell? ⟨gb492, 3, none⟩ = some (.bool ((rd_T71 l0_2 x4_1).f3)) := (blk_cell BK492.out 3).trans rfl; have hfz44_0 := blk_frozen BK492.out 0; have hfz44_1 := blk_frozen BK492.out 1; have hfz44_2 := blk_frozen BK492.out 2; have hfz44_3 := blk_frozen BK492.out 3) | (go_at_call 76; (with_reducible refine (spec_l02Has.calls k1 _ _ l0_1 ((rd_T71 l0_2 x4_1).f0) false _ ?side1 ?side2 A19.out).mono ?_); (case side1 => repeat (first | exact (Kd.C_below HR0_1.out HB.out) | (with_reducible refine Kd.C_alloc ?_ _) | (with_reducible refine Kd.C_drewN ?_ _) | (with_reducible refine Kd.C_drew ?_))); (case side2 => exact HC0_1.out); rintro e w' ⟨rfl, ⟨nd, rfl⟩⟩; (try (rw [drewN_self w42]; generalize hq_ : World.drewN w42 _ = w42; have n0_ : Aside0 (Kd.R k54 54 w42 w.heap.size (fun _ => True) u3 x3_1) := ⟨by rw [← hq_]; exact (rk HO_3.out)⟩; have n1_ : Aside0 (w42.heap[gb486]? = some (.cells #[.int .i64 a0_0, .slice A0_1 l0_1.length c0_1, .slice (some ad491) l0_2.length c0_2] 30 (0, 0))) := ⟨by rw [← hq_]; exact (bk BK486.out)⟩; have n2_ : Aside0 (w42.heap[gb492]? = some (.cells #[.int .i64 ((rd_T71 l0_2 x4_1).f0), .int .i64 ((rd_T71 l0_2 x4_1).f1), .int .i64 ((rd_T71 l0_2 x4_1).f2), .bool ((rd_T71 l0_2 x4_1).f3)] 71 (0, 0))) := ⟨by rw [← hq_]; exact (bk BK492.out)⟩; have n3_ : Aside0 (Below w.heap.size w w42) := ⟨by rw [← hq_]; exact (bl HB.out)⟩; clear HO_3 BK486 BK492 HB hq_; have HO_3 := n0_; have BK486 := n1_; have BK492 := n2_; have HB := n3_; clear n0_ n1_ n2_ n3_))))
                            have n0_ := Aside0.mk (Kd.R_drew HO_3.out)
                            have n1_ := Aside0.mk (blk_drew BK486.out)
                            have n2_ := Aside0.mk (blk_drew BK492.out)
                            have n3_ := Aside0.mk (below_drew1 HB.out)
                            clear HO_3
                            clear BK486
                            clear BK492
                            clear HB
                            have HO_3 := n0_
                            have BK486 := n1_
                            have BK492 := n2_
                            have HB := n3_
                            clear n0_ n1_ n2_ n3_
                            obtain ⟨Ao46, co46, eo46⟩ := Kd.R_slice HO_3.out
                            (first | subst eo46 | (injection eo46 with f1_ f2_ f3_; have f4_ := f1_.symm; have f5_ := f3_.symm; clear f1_ f2_ f3_; subst f4_; subst f5_))
                            have p500 : 0 ≤ ((ji32) : Int) := of_decide_eq_true (by first | (with_reducible assumption) | assumption)
                            have q500 : (ji32) < (x3_1.length : Int) := of_decide_eq_true (by first | (with_reducible assumption) | assumption)
                            obtain ⟨ad500, e500, hx500_0, hx500_1, hx500_2⟩ := at_T54 (Kd.R_reads' HO_3.out).2.2 (ji32) p500 q500
                            cases e500
                            replace p500 := eq_true p500
                            replace q500 := eq_true q500
                            have p35 : 0 ≤ ((ji32) : Int) := of_decide_eq_true (by first | (with_reducible assumption) | assumption)
                            have q35 : ((ji32) : Int) < ((x3_1.length : Int) : Int) := of_decide_eq_true (by first | (with_reducible assumption) | assumption)
                            obtain ⟨go35, co35, eo35, gb35, gl35, cl35, HG35⟩ := Kd.R_form HO_3.out (by omega)
                            (first | cases eo35 | (injection eo35 with ea_ en_ ec_; (first | subst ea_ | (injection ea_ with ea_; subst ea_)); subst ec_; clear en_))
                            have GB35 := Aside0.mk gb35
                            have GG35 := Aside0.mk HG35
                            clear gb35 gl35 HG35
                            (first | simp only [add_plain] at hx500_0 | skip)
                            (first | simp only [add_plain] at hx500_1 | skip)
                            (first | simp only [add_plain] at hx500_2 | skip)
                            obtain ⟨ce35, hcl35, hM35, hcc35, hfr35⟩ := Kd.R_elem HO_3.out z54 ((ji32) : Int) p35 q35
                            obtain rfl := k54_openM hM35
                            have hx35_0 : World.cell? _ ⟨go35, ((ji32) : Int).toNat * 3, none⟩ = some (.int .i64 ((rd_T54 x3_1 (ji32)).f0)) := hcc35 0 _ rfl
                            have hx35_1 : World.cell? _ ⟨go35, ((ji32) : Int).toNat * 3 + 1, none⟩ = some (.int .i64 ((rd_T54 x3_1 (ji32)).f1)) := hcc35 1 _ rfl
                            have hx35_2 : World.cell? _ ⟨go35, ((ji32) : Int).toNat * 3 + 2, none⟩ = some (.int .i64 ((rd_T54 x3_1 (ji32)).f2)) := hcc35 2 _ rfl
                            have hf35_0 : World.frozen? _ ⟨go35, ((ji32) : Int).toNat * 3, none⟩ = false := hfr35 0
                            have hf35_1 : World.frozen? _ ⟨go35, ((ji32) : Int).toNat * 3 + 1, none⟩ = false := hfr35 1
                            have hf35_2 : World.frozen? _ ⟨go35, ((ji32) : Int).toNat * 3 + 2, none⟩ = false := hfr35 2
                            clear hcl35 hcc35 hfr35 hM35
                            replace p35 := eq_true p35
                            replace q35 := eq_true q35
                            obtain ⟨ce47, hcl47, hM47, hcc47, hfr47⟩ := Kd.R_elem HO_3.out z54 ((ji32) : Int) (of_decide_eq_true (by first | (with_reducible assumption) | assumption)) (by have h_ : ((ji32) : Int) < ((x3_1.length : Int) : Int) := of_decide_eq_true (by first | (with_reducible assumption) | assumption); first | exact h_ | (have e_ := (Kd.R_reads' HO_3.out).1; omega) | simpa using h_)
                            obtain rfl := k54_openM hM47
                            have HP47 := (Kd.R_seg HO_3.out ((ji32) : Int) (of_decide_eq_true (by first | (with_reducible assumption) | assumption)) (by have h_ : ((ji32) : Int) < ((x3_1.length : Int) : Int) := of_decide_eq_true (by first | (with_reducible assumption) | assumption); first | exact h_ | (have e_ := (Kd.R_reads' HO_3.out).1; omega) | simpa using h_) (seg := [.int .i64 (wrap64 (((rd_T54 x3_1 (ji32)).f2) + ((rd_T71 l0_2 x4_1).f1)))]) (j := 2) hcl47 hcc47 (show 3 ≤ 3 from by decide) (x' := (⟨(rd_T54 x3_1 (ji32)).f0, (rd_T54 x3_1 (ji32)).f1, wrap64 (((rd_T54 x3_1 (ji32)).f2) + ((rd_T71 l0_2 x4_1).f1))⟩ : S54)) (k54_mkM _ _ _ (⟨(rd_T54 x3_1 (ji32)).f0, (rd_T54 x3_1 (ji32)).f1, wrap64 (((rd_T54 x3_1 (ji32)).f2) + ((rd_T71 l0_2 x4_1).f1))⟩ : S54) ) (fun _ hk => hk)).1
                            rw [← Ny501.out] at HP47
                            have HQ47 := Aside0.mk HP47
                            clear hcl47 hcc47 hfr47 hM47 HP47
                            refine start_ (n := 17) (S := fun w' => w'.cell? ⟨gb492, 0, none⟩ = some (.int .i64 ((rd_T71 l0_2 x4_1).f0)) ∧ w'.cell? ⟨gb492, 1, none⟩ = some (.int .i64 ((rd_T71 l0_2 x4_1).f1)) ∧ w'.cell? ⟨gb492, 2, none⟩ = some (.int .i64 ((rd_T71 l0_2 x4_1).f2)) ∧ w'.cell? ⟨gb492, 3, none⟩ = some (.bool ((rd_T71 l0_2 x4_1).f3)) ∧ w'.cell? (⟨go35, ((ji32)).toNat * 3, none⟩ : Addr) = some (.int .i64 ((rd_T54 x3_1 (ji32)).f0)) ∧ w'.cell? ⟨go35, ((ji32)).toNat * 3 + 1, none⟩ = some (.int .i64 ((rd_T54 x3_1 (ji32)).f1)) ∧ w'.cell? ⟨go35, ((ji32)).toNat * 3 + 2, none⟩ = some (.int .i64 ((rd_T54 x3_1 (ji32)).f2))) (ds := [16]) #[false, false, false, false, false, false, false, false, false, false, false, false, false, false, false, false, false] (by kernel_rfl) rfl rfl ⟨(blk_cell BK492.out 0).trans rfl, (blk_cell BK492.out 1).trans rfl, (blk_cell BK492.out 2).trans rfl, (blk_cell BK492.out 3).trans rfl, hx500_0, hx500_1, hx500_2⟩ (fun hHeld => ?_); refine with_tabW spec_GapsOf.tab10 spec_GapsOf.bits10 (fun HT_ HW_ => ?_)
                            generalize w42.drew = w45 at HO_3 BK486 BK492 HB GG35 HQ47 hf35_0 hf35_1 hf35_2 hx35_0 hx35_1 hx35_2 hx500_0 hx500_1 hx500_2 hHeld ⊢
                            refine pure_ (i := 0) (N := some 45) (v := ?_) (a' := ?_) #[true, false, false, false, false, false, false, false, false, false, false, false, false, false, false, false, false] rfl rfl (any_of HT_.out (by kernel_rfl)) (fun _ _ _ h => h) (Or.inl ⟨by rfl, ?_⟩) ?_ ?_
                            rotate_left
                            · intro w'
                              go_simp
                              with_reducible rfl
                            rotate_left
                            · simp only [Act.put, List.setIfInBounds_toArray, List.set_cons_zero, List.set_cons_succ, i64_w, i32_w]
                              rfl
                            refine pure_ (i := 1) (N := some 46) (v := ?_) (a' := ?_) #[true, true, false, false, false, false, false, false, false, false, false, false, false, false, false, false, false] rfl rfl (any_of HT_.out (by kernel_rfl)) (fun _ _ _ h => h) (Or.inl ⟨by rfl, ?_⟩) ?_ ?_
                            rotate_left
                            · intro w'
                              go_simp
                              with_reducible rfl
                            rotate_left
                            · simp only [Act.put, List.setIfInBounds_toArray, List.set_cons_zero, List.set_cons_succ, i64_w, i32_w]
                              rfl
                            refine pure_ (i := 2) (N := some 47) (v := ?_) (a' := ?_) #[true, true, true, false, false, false, false, false, false, false, false, false, false, false, false, false, false] rfl rfl (any_of HT_.out (by kernel_rfl)) (fun _ _ _ h => h) (Or.inl ⟨by rfl, ?_⟩) ?_ ?_
                            rotate_left
                            · intro w'
                              go_simp
                              with_reducible rfl
                            rotate_left
                            · simp only [Act.put, List.setIfInBounds_toArray, List.set_cons_zero, List.set_cons_succ, i64_w, i32_w]
                              rfl
                            refine pure_ (i := 3) (N := some 48) (v := ?_) (a' := ?_) #[true, true, true, true, false, false, false, false, false, false, false, false, false, false, false, false, false] rfl rfl (any_of HT_.out (by kernel_rfl)) (fun _ _ _ h => h) (Or.inl ⟨by rfl, ?_⟩) ?_ ?_
                            rotate_left
                            · intro w'
                              go_simp
                              with_reducible rfl
                            rotate_left
                            · simp only [Act.put, List.setIfInBounds_toArray, List.set_cons_zero, List.set_cons_succ, i64_w, i32_w]
                              rfl
                            refine pure_ (i := 4) (N := some 49) (v := ?_) (a' := ?_) #[true, true, true, true, true, false, false, false, false, false, false, false, false, false, false, false, false] rfl rfl (any_of HT_.out (by kernel_rfl)) (fun _ _ _ h => h) (Or.inl ⟨by rfl, ?_⟩) ?_ ?_
                            rotate_left
                            · intro w'
                              go_simp
                              with_reducible rfl
                            rotate_left
                            · simp only [Act.put, List.setIfInBounds_toArray, List.set_cons_zero, List.set_cons_succ, i64_w, i32_w]
                              rfl
                            refine pure_ (i := 5) (N := some 50) (v := ?_) (a' := ?_) #[true, true, true, true, true, true, false, false, false, false, false, false, false, false, false, false, false] rfl rfl (any_of HT_.out (by kernel_rfl)) (fun _ _ _ h => h) (Or.inl ⟨by rfl, ?_⟩) ?_ ?_
                            rotate_left
                            · intro w'
                              go_simp
                              with_reducible rfl
                            rotate_left
                            · simp only [Act.put, List.setIfInBounds_toArray, List.set_cons_zero, List.set_cons_succ, i64_w, i32_w]
                              rfl
                            refine pure_ (i := 6) (N := some 51) (v := ?_) (a' := ?_) #[true, true, true, true, true, true, true, false, false, false, false, false, false, false, false, false, false] rfl rfl (any_of HT_.out (by kernel_rfl)) (fun _ _ _ h => h) (Or.inl ⟨by rfl, ?_⟩) ?_ ?_
                            rotate_left
                            · intro w'
                              go_simp
                              with_reducible rfl
                            rotate_left
                            · simp only [Act.put, List.setIfInBounds_toArray, List.set_cons_zero, List.set_cons_succ, i64_w, i32_w]
                              rfl
                            refine pure_ (i := 7) (N := some 52) (v := ?_) (a' := ?_) #[true, true, true, true, true, true, true, true, false, false, false, false, false, false, false, false, false] rfl rfl (any_of HT_.out (by kernel_rfl)) (fun _ _ _ h => h) (Or.inl ⟨by rfl, ?_⟩) ?_ ?_
                            rotate_left
                            · intro w'
                              go_simp
                              with_reducible rfl
                            rotate_left
                            · simp only [Act.put, List.setIfInBounds_toArray, List.set_cons_zero, List.set_cons_succ, i64_w, i32_w]
                              rfl
                            refine pure_ (i := 8) (N := some 53) (v := ?_) (a' := ?_) #[true, true, true, true, true, true, true, true, true, false, false, false, false, false, false, false, false] rfl rfl (any_of HT_.out (by kernel_rfl)) (fun _ _ _ h => h) (Or.inl ⟨by rfl, ?_⟩) ?_ ?_
                            rotate_left
                            · intro w'
                              go_simp
                              with_reducible rfl
                            rotate_left
                            · simp only [Act.put, List.setIfInBounds_toArray, List.set_cons_zero, List.set_cons_succ, i64_w, i32_w]
                              rfl
                            refine pure_ (i := 9) (N := some 54) (v := ?_) (a' := ?_) #[true, true, true, true, true, true, true, true, true, true, false, false, false, false, false, false, false] rfl rfl (any_of HT_.out (by kernel_rfl)) (fun _ _ _ h => h) (Or.inl ⟨by rfl, ?_⟩) ?_ ?_
                            rotate_left
                            · intro w'
                              go_simp
                              with_reducible rfl
                            rotate_left
                            · simp only [Act.put, List.setIfInBounds_toArray, List.set_cons_zero, List.set_cons_succ, i64_w, i32_w]
                              rfl
                            refine pure_ (i := 11) (N := some 56) (v := ?_) (a' := ?_) #[true, true, true, true, true, true, true, true, true, true, false, true, false, false, false, false, false] rfl rfl (any_of HT_.out (by kernel_rfl)) (fun _ _ _ h => h) (Or.inl ⟨by rfl, ?_⟩) ?_ ?_
                            rotate_left
                            · intro w'
                              go_simp
                              with_reducible rfl
                            rotate_left
                            · simp only [Act.put, List.setIfInBounds_toArray, List.set_cons_zero, List.set_cons_succ, i64_w, i32_w]
                              rfl
                            refine take_ (i := 10) (N := some 55) (v := ?_) (a' := ?_) #[true, true, true, true, true, true, true, true, true, true, true, true, false, false, false, false, false] rfl rfl (take_ofW HT_.out HW_.out (by kernel_rfl)) (fun _ _ _ h => h) (Or.inl ⟨by rfl, ?_⟩) hHeld ?_ ?_
                            rotate_left
                            · rintro w' ⟨s0, s1, s2, s3, s4, s5, s6⟩
                              go_simp
                              with_reducible rfl
                            rotate_left
                            · simp only [Act.put, List.setIfInBounds_toArray, List.set_cons_zero, List.set_cons_succ, i64_w, i32_w]
                              rfl
                            refine take_ (i := 12) (N := some 57) (v := ?_) (a' := ?_) #[true, true, true, true, true, true, true, true, true, true, true, true, true, false, false, false, false] rfl rfl (take_ofW HT_.out HW_.out (by kernel_rfl)) (fun _ _ _ h => h) (Or.inl ⟨by rfl, ?_⟩) hHeld ?_ ?_
                            rotate_left
                            · rintro w' ⟨s0, s1, s2, s3, s4, s5, s6⟩
                              go_simp
                              with_reducible rfl
                            rotate_left
                            · simp only [Act.put, List.setIfInBounds_toArray, List.set_cons_zero, List.set_cons_succ, i64_w, i32_w]
                              rfl
                            refine pure_ (i := 13) (N := some 58) (v := ?_) (a' := ?_) #[true, true, true, true, true, true, true, true, true, true, true, true, true, true, false, false, false] rfl rfl (any_of HT_.out (by kernel_rfl)) (fun _ _ _ h => h) (Or.inl ⟨by rfl, ?_⟩) ?_ ?_
                            rotate_left
                            · intro w'
                              go_simp
                              with_reducible rfl
                            rotate_left
                            · simp only [Act.put, List.setIfInBounds_toArray, List.set_cons_zero, List.set_cons_succ, i64_w, i32_w]
                              rfl
                            refine pure_ (i := 14) (N := some 59) (v := ?_) (a' := ?_) #[true, true, true, true, true, true, true, true, true, true, true, true, true, true, true, false, false] rfl rfl (any_of HT_.out (by kernel_rfl)) (fun _ _ _ h => h) (Or.inl ⟨by rfl, ?_⟩) ?_ ?_
                            rotate_left
                            · intro w'
                              go_simp
                              with_reducible rfl
                            rotate_left
                            · simp only [Act.put, List.setIfInBounds_toArray, List.set_cons_zero, List.set_cons_succ, i64_w, i32_w]
                              rfl
                            refine pure_ (i := 15) (N := some 60) (v := ?_) (a' := ?_) #[true, true, true, true, true, true, true, true, true, true, true, true, true, true, true, true, false] rfl rfl (any_of HT_.out (by kernel_rfl)) (fun _ _ _ h => h) (Or.inl ⟨by rfl, ?_⟩) ?_ ?_
                            rotate_left
                            · intro w'
                              go_simp
                              with_reducible rfl
                            rotate_left
                            · simp only [Act.put, List.setIfInBounds_toArray, List.set_cons_zero, List.set_cons_succ, i64_w, i32_w]
                              rfl
                            refine last_ (i := 16) (N := none) #[true, true, true, true, true, true, true, true, true, true, true, true, true, true, true, true, true] rfl rfl (one_of HT_.out (by kernel_rfl)) (by decide) (fun K hK => ?_)
                            refine skip_ (w1 := ?_) (by rfl) rfl ?_ ?_
                            rotate_left
                            · go_simp
                              rfl
                            refine hK.out _ _ ?_
                            clear hK K
                            refine done_ (done_of HT_.out (by kernel_rfl)) ?_
                            try go_wp2
                            go_roundg k1
                            case measure => have := HK1.out; omega
                            case rel => exact ⟨(y501), (wrap64 (x4_1 + 1)), (by first | rfl | (simp; done) | (simp [*]; done)), H', ⟨by have := HK1.out; omega⟩, ⟨rk HQ47.out⟩, ⟨by (with_reducible repeat (first | apply bN | apply bD | apply bA)); refine blk_far ?_ (by have h_ := Kd.R_ne HO_3.out BK486.out (by decide); intro e_; exact h_ (by rw [e_]; rfl)) _; (with_reducible repeat (first | apply bN | apply bD | apply bA)); exact BK486.out⟩, ⟨by repeat (first | (with_reducible first | exact HB.out | apply below_alloc | apply pw_below_drewN | apply below_drew1 | refine below_set ?_ GB35.out | refine below_set ?_ GE486.out | refine below_set ?_ GE492.out) | exact HB.out)⟩⟩
                          · rw [if_neg c34] at H
                            exact absurd H (by simp)
                        · rw [if_neg c33] at H
                          exact absurd H (by simp)
                    · replace c18 := Bool.eq_false_iff.mpr c18
                      subst c18
                      have H1 : (if x3_1.length < 5864062014805 then (spec_GapsOf.l0 k1 (x3_1 ++ [(⟨0, (rd_T71 l0_2 x4_1).f0, (rd_T71 l0_2 x4_1).f1⟩ : S54)]) (wrap64 (x4_1 + 1)) a0_0 l0_1 l0_2) else (none)) = some r := by rw [if_neg (show ¬ (false = true) by decide)] at H; exact H
                      clear H
                      have H := H1
                      clear H1
                      by_cases c48 : x3_1.length < 5864062014805
                      · rw [if_pos c48] at H
                        have LMc48 := Aside0.mk c48
                        clear c48
                        obtain ⟨y502, hy502⟩ : ∃ y_ : List (S54), y_ = (x3_1 ++ [(⟨0, (rd_T71 l0_2 x4_1).f0, (rd_T71 l0_2 x4_1).f1⟩ : S54)]) := ⟨_, rfl⟩
                        replace H : (spec_GapsOf.l0 k1 y502 (wrap64 (x4_1 + 1)) a0_0 l0_1 l0_2) = some r := by first | (rw [hy502]; with_reducible exact H) | (have H2_ := (Option.bind_some _ _).symm.trans H; rw [hy502]; with_reducible exact H2_) | (have H2_ := (Option.bind_some _ _).symm.trans H; with_reducible exact H2_) | with_reducible exact H | (rw [hy502]; exact H) | exact H
                        have Ny502 := Aside0.mk hy502
                        clear hy502
                        have H' := Aside0.mk H
                        clear H
                        have hcz49_0 : wr.cell? ⟨gb486, 0, none⟩ = some (.int .i64 a0_0) := (blk_cell BK486.out 0).trans rfl
                        have hcz49_1 : wr.cell? ⟨gb486, 1, none⟩ = some (.slice A0_1 l0_1.length c0_1) := (blk_cell BK486.out 1).trans rfl
                        have hcz49_2 : wr.cell? ⟨gb486, 2, none⟩ = some (.slice A0_2 l0_2.length c0_2) := (blk_cell BK486.out 2).trans rfl
                        have hfz49_0 := blk_frozen BK486.out 0
                        have hfz49_1 := blk_frozen BK486.out 1
                        have hfz49_2 := blk_frozen BK486.out 2
                        have p491 : 0 ≤ (x4_1 : Int) := of_decide_eq_true (by first | (with_reducible assumption) | assumption)
                        have q491 : x4_1 < (l0_2.length : Int) := of_decide_eq_true (by first | (with_reducible assumption) | assumption)
                        obtain ⟨ad491, e491, hx491_0, hx491_1, hx491_2, hx491_3⟩ := at_T71 HR0_2.out x4_1 p491 q491
                        cases e491
                        replace hx491_0 := (HB.out.cell (World.block_lt_of_cell? w _ hx491_0)).trans hx491_0
                        replace hx491_1 := (HB.out.cell (World.block_lt_of_cell? w _ hx491_1)).trans hx491_1
                        replace hx491_2 := (HB.out.cell (World.block_lt_of_cell? w _ hx491_2)).trans hx491_2
                        replace hx491_3 := (HB.out.cell (World.block_lt_of_cell? w _ hx491_3)).trans hx491_3
                        replace p491 := eq_true p491
                        replace q491 := eq_true q491
                        go_wp2_with (first | ((with_reducible refine gate_dst (N := 5) rfl ?_); refine bx (cs := #[.int .i64 0, .int .i64 0, .int .i64 0, .bool false]) (t := 71) fun gb492 hg w50 hbox hb => ?_; have n0_ := Aside0.mk (Kd.R_below (rk HO_3.out) hb); have n1_ := Aside0.mk (bb BK486.out hb); have n2_ := Aside0.mk (below_step (bl HB.out) hb); have n3_ := Aside0.mk (hbox); have n4_ := Aside0.mk (gs HB.out hg); have n5_ := Aside0.mk (gs HB.out hg); have n6_ := Aside0.mk ((nl BK486.out hg)); have n7_ := Aside0.mk ((ng BK486.out hg)); clear HO_3; clear BK486; clear HB; have HO_3 := n0_; have BK486 := n1_; have HB := n2_; have BK492 := n3_; have GW492 := n4_; have GE492 := n5_; have NB486_492 := n6_; have NB492_486 := n7_; clear n0_ n1_ n2_ n3_ n4_ n5_ n6_ n7_; clear hb hbox hg; have hnb51 := NB492_486.out; have hnc51 := NB486_492.out; have hcz52_0 : w50.cell? ⟨gb492, 0, none⟩ = some (.int .i64 0) := (blk_cell BK492.out 0).trans rfl; have hcz52_1 : w50.cell? ⟨gb492, 1, none⟩ = some (.int .i64 0) := (blk_cell BK492.out 1).trans rfl; have hcz52_2 : w50.cell? ⟨gb492, 2, none⟩ = some (.int .i64 0) := (blk_cell BK492.out 2).trans rfl; have hcz52_3 : w50.cell? ⟨gb492, 3, none⟩ = some (.bool false) := (blk_cell BK492.out 3).trans rfl; have hfz52_0 := blk_frozen BK492.out 0; have hfz52_1 := blk_frozen BK492.out 1; have hfz52_2 := blk_frozen BK492.out 2; have hfz52_3 := blk_frozen BK492.out 3) | ((with_reducible refine gate_callee (f := 75) rfl ?_); refine goesL_ (some 24) rfl rfl Try.func75 (by kernel_rfl) rfl #[.agg #[.int .i64 ((rd_T71 l0_2 x4_1).f0), .int .i64 ((rd_T71 l0_2 x4_1).f1), .int .i64 ((rd_T71 l0_2 x4_1).f2), .bool ((rd_T71 l0_2 x4_1).f3)]] rfl (by (try simp only [List.map_toArray, List.map_cons, List.map_nil]); first | done | rfl | (simp only [List.length_drop, List.length_take]; rfl)) ?_; (with_reducible refine (spec_l02Open.calls ((rd_T71 l0_2 x4_1).f0) ((rd_T71 l0_2 x4_1).f1) ((rd_T71 l0_2 x4_1).f2) ((rd_T71 l0_2 x4_1).f3) true _ A11.out).mono ?_); rintro e w53 ⟨rfl, hb⟩; refine ⟨_, rfl, ?_⟩; have n0_ := Aside0.mk (Kd.R_below (by (with_reducible repeat (first | apply Kd.R_alloc | apply Kd.R_drewN | apply Kd.R_drew)); exact (Kd.R_mono (Kd.R_far (p := ⟨gb492, 3, none⟩) (Kd.R_far (p := ⟨gb492, 2, none⟩) (Kd.R_far (p := ⟨gb492, 1, none⟩) (Kd.R_far (p := ⟨gb492, 0, none⟩) (Kd.R_types HO_3.out BK492.out (by decide)) (fun _ hk => hk.2) (.int .i64 ((rd_T71 l0_2 x4_1).f0))) (fun _ hk => hk.2) (.int .i64 ((rd_T71 l0_2 x4_1).f1))) (fun _ hk => hk.2) (.int .i64 ((rd_T71 l0_2 x4_1).f2))) (fun _ hk => hk.2) (.bool ((rd_T71 l0_2 x4_1).f3))) (fun _ h_ => h_.1))) hb); have n1_ := Aside0.mk (blk_below (g := gb486) (o := .cells #[.int .i64 a0_0, .slice A0_1 l0_1.length c0_1, .slice (some ad491) l0_2.length c0_2] 30 (0, 0)) (by (with_reducible repeat (first | apply bN | apply bD | apply bA)); refine blk_far ?_ NB486_492.out _; (with_reducible repeat (first | apply bN | apply bD | apply bA)); refine blk_far ?_ NB486_492.out _; (with_reducible repeat (first | apply bN | apply bD | apply bA)); refine blk_far ?_ NB486_492.out _; (with_reducible repeat (first | apply bN | apply bD | apply bA)); refine blk_far ?_ NB486_492.out _; (with_reducible repeat (first | apply bN | apply bD | apply bA)); exact BK486.out) hb); have n2_ := Aside0.mk (blk_below (g := gb492) (o := .cells #[.int .i64 ((rd_T71 l0_2 x4_1).f0), .int .i64 ((rd_T71 l0_2 x4_1).f1), .int .i64 ((rd_T71 l0_2 x4_1).f2), .bool ((rd_T71 l0_2 x4_1).f3)] 71 (0, 0)) (by (with_reducible repeat (first | apply bN | apply bD | apply bA)); refine blk_put (cs := #[.int .i64 ((rd_T71 l0_2 x4_1).f0), .int .i64 ((rd_T71 l0_2 x4_1).f1), .int .i64 ((rd_T71 l0_2 x4_1).f2), .bool false]) ?_ 3 _ rfl; (with_reducible repeat (first | apply bN | apply bD | apply bA)); refine blk_put (cs := #[.int .i64 ((rd_T71 l0_2 x4_1).f0), .int .i64 ((rd_T71 l0_2 x4_1).f1), .int .i64 0, .bool false]) ?_ 2 _ rfl; (with_reducible repeat (first | apply bN | apply bD | apply bA)); refine blk_put (cs := #[.int .i64 ((rd_T71 l0_2 x4_1).f0), .int .i64 0, .int .i64 0, .bool false]) ?_ 1 _ rfl; (with_reducible repeat (first | apply bN | apply bD | apply bA)); refine blk_put (cs := #[.int .i64 0, .int .i64 0, .int .i64 0, .bool false]) ?_ 0 _ rfl; (with_reducible repeat (first | apply bN | apply bD | apply bA)); exact BK492.out) hb); have n3_ := Aside0.mk (below_step (bl HB.out) hb); clear HO_3; clear BK486; clear BK492; clear HB; have HO_3 := n0_; have BK486 := n1_; have BK492 := n2_; have HB := n3_; clear n0_ n1_ n2_ n3_; (try clear hb); (try clear hb2); (try clear hk); (try clear hi); have hcz54_0 : w53.cell? ⟨gb486, 0, none⟩ = some (.int .i64 a0_0) := (blk_cell BK486.out 0).trans rfl; have hcz54_1 : w53.cell? ⟨gb486, 1, none⟩ = some (.slice A0_1 l0_1.length c0_1) := (blk_cell BK486.out 1).trans rfl; have hcz54_2 : w53.cell? ⟨gb486, 2, none⟩ = some (.slice (some ad491) l0_2.length c0_2) := (blk_cell BK486.out 2).trans rfl; have hfz54_0 := blk_frozen BK486.out 0; have hfz54_1 := blk_frozen BK486.out 1; have hfz54_2 := blk_frozen BK486.out 2; have p494 : 0 ≤ ((ji14) : Int) := of_decide_eq_true (by first | (with_reducible assumption) | assumption); have q494 : (ji14) < (l0_2.length : Int) := of_decide_eq_true (by first | (with_reducible assumption) | assumption); obtain ⟨ad494, e494, hx494_0, hx494_1, hx494_2, hx494_3⟩ := at_T71 HR0_2.out (ji14) p494 q494; obtain rfl : ad491 = ad494 := (by injection e494); replace hx494_0 := (HB.out.cell (World.block_lt_of_cell? w _ hx494_0)).trans hx494_0; replace hx494_1 := (HB.out.cell (World.block_lt_of_cell? w _ hx494_1)).trans hx494_1; replace hx494_2 := (HB.out.cell (World.block_lt_of_cell? w _ hx494_2)).trans hx494_2; replace hx494_3 := (HB.out.cell (World.block_lt_of_cell? w _ hx494_3)).trans hx494_3; replace p494 := eq_true p494; replace q494 := eq_true q494) | (go_at_call 75; (with_reducible refine (spec_l02Open.calls ((rd_T71 l0_2 (ji14)).f0) ((rd_T71 l0_2 (ji14)).f1) ((rd_T71 l0_2 (ji14)).f2) ((rd_T71 l0_2 (ji14)).f3) false _ A17.out).mono ?_); rintro e w55 ⟨rfl, hb⟩; have n0_ := Aside0.mk (Kd.R_below (rk HO_3.out) hb); have n1_ := Aside0.mk (bb BK486.out hb); have n2_ := Aside0.mk (bb BK492.out hb); have n3_ := Aside0.mk (below_step (bl HB.out) hb); clear HO_3; clear BK486; clear BK492; clear HB; have HO_3 := n0_; have BK486 := n1_; have BK492 := n2_; have HB := n3_; clear n0_ n1_ n2_ n3_; (try clear hb); (try clear hb2); (try clear hk); (try clear hi); have hcz56_0 : w55.cell? ⟨gb492, 0, none⟩ = some (.int .i64 ((rd_T71 l0_2 x4_1).f0)) := (blk_cell BK492.out 0).trans rfl; have hcz56_1 : w55.cell? ⟨gb492, 1, none⟩ = some (.int .i64 ((rd_T71 l0_2 x4_1).f1)) := (blk_cell BK492.out 1).trans rfl; have hcz56_2 : w55.cell? ⟨gb492, 2, none⟩ = some (.int .i64 ((rd_T71 l0_2 x4_1).f2)) := (blk_cell BK492.out 2).trans rfl; have hcz56_3 : w55.cell? ⟨gb492, 3, none⟩ = some (.bool ((rd_T71 l0_2 x4_1).f3)) := (blk_cell BK492.out 3).trans rfl; have hfz56_0 := blk_frozen BK492.out 0; have hfz56_1 := blk_frozen BK492.out 1; have hfz56_2 := blk_frozen BK492.out 2; have hfz56_3 := blk_frozen BK492.out 3) | ((with_reducible refine gate_builtin (b := .append) (xs := #[.tmp 61, .tmp 67]) rfl ?_); at_builtin; refine Kd.R_append k54 (w0 := w) w.heap.size rfl (.tmp 61) (.tmp 67) 60 54 (.agg #[(.int .i64 0), (.int .i64 0), (.int .i64 0)]) 24 rfl Try.underlying60 info54 rfl (by decide) (by omega) u3 x3_1 (⟨0, (rd_T71 l0_2 x4_1).f0, (rd_T71 l0_2 x4_1).f1⟩ : S54) [.int .i64 0, .int .i64 ((rd_T71 l0_2 x4_1).f0), .int .i64 ((rd_T71 l0_2 x4_1).f1)] (fun _ => True) (fun _ => False) rfl rfl ?aP (fun _ hk => hk.elim) ?aF ?aO ?aB ?aS ?aL ?_; (case aP => exact k54_mkM _ _ _ (⟨0, (rd_T71 l0_2 x4_1).f0, (rd_T71 l0_2 x4_1).f1⟩ : S54)); (case aB => exact (bl HB.out)); (case aF => exact (fun _ _ => trivial)); (case aO => exact (rk HO_3.out)); (case aS => exact (below_size (bl HB.out))); (case aL => have := LMc48.out; omega); intro v503 w57 ho hb hg hat; rw [← Ny502.out] at ho; have n0_ := Aside0.mk (blk_grown (g := gb486) (o := .cells #[.int .i64 a0_0, .slice A0_1 l0_1.length c0_1, .slice (some ad491) l0_2.length c0_2] 30 (0, 0)) (bk BK486.out) hg (Kd.R_ne HO_3.out BK486.out (by decide))); have n1_ := Aside0.mk (blk_grown (g := gb492) (o := .cells #[.int .i64 ((rd_T71 l0_2 x4_1).f0), .int .i64 ((rd_T71 l0_2 x4_1).f1), .int .i64 ((rd_T71 l0_2 x4_1).f2), .bool ((rd_T71 l0_2 x4_1).f3)] 71 (0, 0)) (bk BK492.out) hg (Kd.R_ne HO_3.out BK492.out (by decide))); have n2_ := Aside0.mk (hb); have n3_ := Aside0.mk (ho); clear BK486; clear BK492; clear HB; clear HO_3; have BK486 := n0_; have BK492 := n1_; have HB := n2_; have HO504 := n3_; clear n0_ n1_ n2_ n3_; clear ho hb hg hat))
                        go_roundg k1
                        case measure => have := HK1.out; omega
                        case rel => exact ⟨(y502), (wrap64 (x4_1 + 1)), (by first | rfl | (simp; done) | (simp [*]; done)), H', ⟨by have := HK1.out; omega⟩, ⟨rk HO504.out⟩, ⟨by (with_reducible repeat (first | apply bN | apply bD | apply bA)); exact BK486.out⟩, ⟨bl HB.out⟩⟩
                      · rw [if_neg c48] at H
                        exact absurd H (by simp)
                  · rw [if_neg c16] at H
                    exact absurd H (by simp)
                · rw [if_neg c15] at H
                  exact absurd H (by simp)
              · rw [if_neg c13] at H
                have c13b0 : decide (0 < x4_1) = false := decide_eq_false c13
                clear c13
                by_cases c58 : x3_1.length < 5864062014805
                · rw [if_pos c58] at H
                  have LMc58 := Aside0.mk c58
                  clear c58
                  obtain ⟨y505, hy505⟩ : ∃ y_ : List (S54), y_ = (x3_1 ++ [(⟨0, (rd_T71 l0_2 x4_1).f0, (rd_T71 l0_2 x4_1).f1⟩ : S54)]) := ⟨_, rfl⟩
                  replace H : (spec_GapsOf.l0 k1 y505 (wrap64 (x4_1 + 1)) a0_0 l0_1 l0_2) = some r := by first | (rw [hy505]; with_reducible exact H) | (have H2_ := (Option.bind_some _ _).symm.trans H; rw [hy505]; with_reducible exact H2_) | (have H2_ := (Option.bind_some _ _).symm.trans H; with_reducible exact H2_) | with_reducible exact H | (rw [hy505]; exact H) | exact H
                  have Ny505 := Aside0.mk hy505
                  clear hy505
                  have H' := Aside0.mk H
                  clear H
                  have hcz59_0 : wr.cell? ⟨gb486, 0, none⟩ = some (.int .i64 a0_0) := (blk_cell BK486.out 0).trans rfl
                  have hcz59_1 : wr.cell? ⟨gb486, 1, none⟩ = some (.slice A0_1 l0_1.length c0_1) := (blk_cell BK486.out 1).trans rfl
                  have hcz59_2 : wr.cell? ⟨gb486, 2, none⟩ = some (.slice A0_2 l0_2.length c0_2) := (blk_cell BK486.out 2).trans rfl
                  have hfz59_0 := blk_frozen BK486.out 0
                  have hfz59_1 := blk_frozen BK486.out 1
                  have hfz59_2 := blk_frozen BK486.out 2
                  have p491 : 0 ≤ (x4_1 : Int) := of_decide_eq_true (by first | (with_reducible assumption) | assumption)
                  have q491 : x4_1 < (l0_2.length : Int) := of_decide_eq_true (by first | (with_reducible assumption) | assumption)
                  obtain ⟨ad491, e491, hx491_0, hx491_1, hx491_2, hx491_3⟩ := at_T71 HR0_2.out x4_1 p491 q491
                  cases e491
                  replace hx491_0 := (HB.out.cell (World.block_lt_of_cell? w _ hx491_0)).trans hx491_0
                  replace hx491_1 := (HB.out.cell (World.block_lt_of_cell? w _ hx491_1)).trans hx491_1
                  replace hx491_2 := (HB.out.cell (World.block_lt_of_cell? w _ hx491_2)).trans hx491_2
                  replace hx491_3 := (HB.out.cell (World.block_lt_of_cell? w _ hx491_3)).trans hx491_3
                  replace p491 := eq_true p491
                  replace q491 := eq_true q491
                  go_wp2_with (first | ((with_reducible refine gate_dst (N := 5) rfl ?_); refine bx (cs := #[.int .i64 0, .int .i64 0, .int .i64 0, .bool false]) (t := 71) fun gb492 hg w60 hbox hb => ?_; have n0_ := Aside0.mk (Kd.R_below (rk HO_3.out) hb); have n1_ := Aside0.mk (bb BK486.out hb); have n2_ := Aside0.mk (below_step (bl HB.out) hb); have n3_ := Aside0.mk (hbox); have n4_ := Aside0.mk (gs HB.out hg); have n5_ := Aside0.mk (gs HB.out hg); have n6_ := Aside0.mk ((nl BK486.out hg)); have n7_ := Aside0.mk ((ng BK486.out hg)); clear HO_3; clear BK486; clear HB; have HO_3 := n0_; have BK486 := n1_; have HB := n2_; have BK492 := n3_; have GW492 := n4_; have GE492 := n5_; have NB486_492 := n6_; have NB492_486 := n7_; clear n0_ n1_ n2_ n3_ n4_ n5_ n6_ n7_; clear hb hbox hg; have hnb61 := NB492_486.out; have hnc61 := NB486_492.out; have hcz62_0 : w60.cell? ⟨gb492, 0, none⟩ = some (.int .i64 0) := (blk_cell BK492.out 0).trans rfl; have hcz62_1 : w60.cell? ⟨gb492, 1, none⟩ = some (.int .i64 0) := (blk_cell BK492.out 1).trans rfl; have hcz62_2 : w60.cell? ⟨gb492, 2, none⟩ = some (.int .i64 0) := (blk_cell BK492.out 2).trans rfl; have hcz62_3 : w60.cell? ⟨gb492, 3, none⟩ = some (.bool false) := (blk_cell BK492.out 3).trans rfl; have hfz62_0 := blk_frozen BK492.out 0; have hfz62_1 := blk_frozen BK492.out 1; have hfz62_2 := blk_frozen BK492.out 2; have hfz62_3 := blk_frozen BK492.out 3) | ((with_reducible refine gate_callee (f := 75) rfl ?_); refine goesL_ (some 24) rfl rfl Try.func75 (by kernel_rfl) rfl #[.agg #[.int .i64 ((rd_T71 l0_2 x4_1).f0), .int .i64 ((rd_T71 l0_2 x4_1).f1), .int .i64 ((rd_T71 l0_2 x4_1).f2), .bool ((rd_T71 l0_2 x4_1).f3)]] rfl (by (try simp only [List.map_toArray, List.map_cons, List.map_nil]); first | done | rfl | (simp only [List.length_drop, List.length_take]; rfl)) ?_; (with_reducible refine (spec_l02Open.calls ((rd_T71 l0_2 x4_1).f0) ((rd_T71 l0_2 x4_1).f1) ((rd_T71 l0_2 x4_1).f2) ((rd_T71 l0_2 x4_1).f3) true _ A11.out).mono ?_); rintro e w63 ⟨rfl, hb⟩; refine ⟨_, rfl, ?_⟩; have n0_ := Aside0.mk (Kd.R_below (by (with_reducible repeat (first | apply Kd.R_alloc | apply Kd.R_drewN | apply Kd.R_drew)); exact (Kd.R_mono (Kd.R_far (p := ⟨gb492, 3, none⟩) (Kd.R_far (p := ⟨gb492, 2, none⟩) (Kd.R_far (p := ⟨gb492, 1, none⟩) (Kd.R_far (p := ⟨gb492, 0, none⟩) (Kd.R_types HO_3.out BK492.out (by decide)) (fun _ hk => hk.2) (.int .i64 ((rd_T71 l0_2 x4_1).f0))) (fun _ hk => hk.2) (.int .i64 ((rd_T71 l0_2 x4_1).f1))) (fun _ hk => hk.2) (.int .i64 ((rd_T71 l0_2 x4_1).f2))) (fun _ hk => hk.2) (.bool ((rd_T71 l0_2 x4_1).f3))) (fun _ h_ => h_.1))) hb); have n1_ := Aside0.mk (blk_below (g := gb486) (o := .cells #[.int .i64 a0_0, .slice A0_1 l0_1.length c0_1, .slice (some ad491) l0_2.length c0_2] 30 (0, 0)) (by (with_reducible repeat (first | apply bN | apply bD | apply bA)); refine blk_far ?_ NB486_492.out _; (with_reducible repeat (first | apply bN | apply bD | apply bA)); refine blk_far ?_ NB486_492.out _; (with_reducible repeat (first | apply bN | apply bD | apply bA)); refine blk_far ?_ NB486_492.out _; (with_reducible repeat (first | apply bN | apply bD | apply bA)); refine blk_far ?_ NB486_492.out _; (with_reducible repeat (first | apply bN | apply bD | apply bA)); exact BK486.out) hb); have n2_ := Aside0.mk (blk_below (g := gb492) (o := .cells #[.int .i64 ((rd_T71 l0_2 x4_1).f0), .int .i64 ((rd_T71 l0_2 x4_1).f1), .int .i64 ((rd_T71 l0_2 x4_1).f2), .bool ((rd_T71 l0_2 x4_1).f3)] 71 (0, 0)) (by (with_reducible repeat (first | apply bN | apply bD | apply bA)); refine blk_put (cs := #[.int .i64 ((rd_T71 l0_2 x4_1).f0), .int .i64 ((rd_T71 l0_2 x4_1).f1), .int .i64 ((rd_T71 l0_2 x4_1).f2), .bool false]) ?_ 3 _ rfl; (with_reducible repeat (first | apply bN | apply bD | apply bA)); refine blk_put (cs := #[.int .i64 ((rd_T71 l0_2 x4_1).f0), .int .i64 ((rd_T71 l0_2 x4_1).f1), .int .i64 0, .bool false]) ?_ 2 _ rfl; (with_reducible repeat (first | apply bN | apply bD | apply bA)); refine blk_put (cs := #[.int .i64 ((rd_T71 l0_2 x4_1).f0), .int .i64 0, .int .i64 0, .bool false]) ?_ 1 _ rfl; (with_reducible repeat (first | apply bN | apply bD | apply bA)); refine blk_put (cs := #[.int .i64 0, .int .i64 0, .int .i64 0, .bool false]) ?_ 0 _ rfl; (with_reducible repeat (first | apply bN | apply bD | apply bA)); exact BK492.out) hb); have n3_ := Aside0.mk (below_step (bl HB.out) hb); clear HO_3; clear BK486; clear BK492; clear HB; have HO_3 := n0_; have BK486 := n1_; have BK492 := n2_; have HB := n3_; clear n0_ n1_ n2_ n3_; (try clear hb); (try clear hb2); (try clear hk); (try clear hi); have hcz64_0 : w63.cell? ⟨gb492, 0, none⟩ = some (.int .i64 ((rd_T71 l0_2 x4_1).f0)) := (blk_cell BK492.out 0).trans rfl; have hcz64_1 : w63.cell? ⟨gb492, 1, none⟩ = some (.int .i64 ((rd_T71 l0_2 x4_1).f1)) := (blk_cell BK492.out 1).trans rfl; have hcz64_2 : w63.cell? ⟨gb492, 2, none⟩ = some (.int .i64 ((rd_T71 l0_2 x4_1).f2)) := (blk_cell BK492.out 2).trans rfl; have hcz64_3 : w63.cell? ⟨gb492, 3, none⟩ = some (.bool ((rd_T71 l0_2 x4_1).f3)) := (blk_cell BK492.out 3).trans rfl; have hfz64_0 := blk_frozen BK492.out 0; have hfz64_1 := blk_frozen BK492.out 1; have hfz64_2 := blk_frozen BK492.out 2; have hfz64_3 := blk_frozen BK492.out 3) | ((with_reducible refine gate_builtin (b := .append) (xs := #[.tmp 61, .tmp 67]) rfl ?_); at_builtin; refine Kd.R_append k54 (w0 := w) w.heap.size rfl (.tmp 61) (.tmp 67) 60 54 (.agg #[(.int .i64 0), (.int .i64 0), (.int .i64 0)]) 24 rfl Try.underlying60 info54 rfl (by decide) (by omega) u3 x3_1 (⟨0, (rd_T71 l0_2 x4_1).f0, (rd_T71 l0_2 x4_1).f1⟩ : S54) [.int .i64 0, .int .i64 ((rd_T71 l0_2 x4_1).f0), .int .i64 ((rd_T71 l0_2 x4_1).f1)] (fun _ => True) (fun _ => False) rfl rfl ?aP (fun _ hk => hk.elim) ?aF ?aO ?aB ?aS ?aL ?_; (case aP => exact k54_mkM _ _ _ (⟨0, (rd_T71 l0_2 x4_1).f0, (rd_T71 l0_2 x4_1).f1⟩ : S54)); (case aB => exact (bl HB.out)); (case aF => exact (fun _ _ => trivial)); (case aO => exact (rk HO_3.out)); (case aS => exact (below_size (bl HB.out))); (case aL => have := LMc58.out; omega); intro v506 w65 ho hb hg hat; rw [← Ny505.out] at ho; have n0_ := Aside0.mk (blk_grown (g := gb486) (o := .cells #[.int .i64 a0_0, .slice A0_1 l0_1.length c0_1, .slice (some ad491) l0_2.length c0_2] 30 (0, 0)) (bk BK486.out) hg (Kd.R_ne HO_3.out BK486.out (by decide))); have n1_ := Aside0.mk (blk_grown (g := gb492) (o := .cells #[.int .i64 ((rd_T71 l0_2 x4_1).f0), .int .i64 ((rd_T71 l0_2 x4_1).f1), .int .i64 ((rd_T71 l0_2 x4_1).f2), .bool ((rd_T71 l0_2 x4_1).f3)] 71 (0, 0)) (bk BK492.out) hg (Kd.R_ne HO_3.out BK492.out (by decide))); have n2_ := Aside0.mk (hb); have n3_ := Aside0.mk (ho); clear BK486; clear BK492; clear HB; clear HO_3; have BK486 := n0_; have BK492 := n1_; have HB := n2_; have HO507 := n3_; clear n0_ n1_ n2_ n3_; clear ho hb hg hat))
                  go_roundg k1
                  case measure => have := HK1.out; omega
                  case rel => exact ⟨(y505), (wrap64 (x4_1 + 1)), (by first | rfl | (simp; done) | (simp [*]; done)), H', ⟨by have := HK1.out; omega⟩, ⟨rk HO507.out⟩, ⟨by (with_reducible repeat (first | apply bN | apply bD | apply bA)); exact BK486.out⟩, ⟨bl HB.out⟩⟩
                · rw [if_neg c58] at H
                  exact absurd H (by simp)
            · replace c12 := Bool.eq_false_iff.mpr c12
              subst c12
              have H1 : (spec_GapsOf.l0 k1 x3_1 (wrap64 (x4_1 + 1)) a0_0 l0_1 l0_2) = some r := by rw [if_neg (show ¬ (false = true) by decide)] at H; exact H
              clear H
              have H := H1
              clear H1
              have H' := Aside0.mk H
              clear H
              have hcz66_0 : wr.cell? ⟨gb486, 0, none⟩ = some (.int .i64 a0_0) := (blk_cell BK486.out 0).trans rfl
              have hcz66_1 : wr.cell? ⟨gb486, 1, none⟩ = some (.slice A0_1 l0_1.length c0_1) := (blk_cell BK486.out 1).trans rfl
              have hcz66_2 : wr.cell? ⟨gb486, 2, none⟩ = some (.slice A0_2 l0_2.length c0_2) := (blk_cell BK486.out 2).trans rfl
              have hfz66_0 := blk_frozen BK486.out 0
              have hfz66_1 := blk_frozen BK486.out 1
              have hfz66_2 := blk_frozen BK486.out 2
              have p491 : 0 ≤ (x4_1 : Int) := of_decide_eq_true (by first | (with_reducible assumption) | assumption)
              have q491 : x4_1 < (l0_2.length : Int) := of_decide_eq_true (by first | (with_reducible assumption) | assumption)
              obtain ⟨ad491, e491, hx491_0, hx491_1, hx491_2, hx491_3⟩ := at_T71 HR0_2.out x4_1 p491 q491
              cases e491
              replace hx491_0 := (HB.out.cell (World.block_lt_of_cell? w _ hx491_0)).trans hx491_0
              replace hx491_1 := (HB.out.cell (World.block_lt_of_cell? w _ hx491_1)).trans hx491_1
              replace hx491_2 := (HB.out.cell (World.block_lt_of_cell? w _ hx491_2)).trans hx491_2
              replace hx491_3 := (HB.out.cell (World.block_lt_of_cell? w _ hx491_3)).trans hx491_3
              replace p491 := eq_true p491
              replace q491 := eq_true q491
              go_wp2_with (first | ((with_reducible refine gate_dst (N := 5) rfl ?_); refine bx (cs := #[.int .i64 0, .int .i64 0, .int .i64 0, .bool false]) (t := 71) fun gb492 hg w67 hbox hb => ?_; have n0_ := Aside0.mk (Kd.R_below (rk HO_3.out) hb); have n1_ := Aside0.mk (bb BK486.out hb); have n2_ := Aside0.mk (below_step (bl HB.out) hb); have n3_ := Aside0.mk (hbox); have n4_ := Aside0.mk (gs HB.out hg); have n5_ := Aside0.mk (gs HB.out hg); have n6_ := Aside0.mk ((nl BK486.out hg)); have n7_ := Aside0.mk ((ng BK486.out hg)); clear HO_3; clear BK486; clear HB; have HO_3 := n0_; have BK486 := n1_; have HB := n2_; have BK492 := n3_; have GW492 := n4_; have GE492 := n5_; have NB486_492 := n6_; have NB492_486 := n7_; clear n0_ n1_ n2_ n3_ n4_ n5_ n6_ n7_; clear hb hbox hg; have hnb68 := NB492_486.out; have hnc68 := NB486_492.out; have hcz69_0 : w67.cell? ⟨gb492, 0, none⟩ = some (.int .i64 0) := (blk_cell BK492.out 0).trans rfl; have hcz69_1 : w67.cell? ⟨gb492, 1, none⟩ = some (.int .i64 0) := (blk_cell BK492.out 1).trans rfl; have hcz69_2 : w67.cell? ⟨gb492, 2, none⟩ = some (.int .i64 0) := (blk_cell BK492.out 2).trans rfl; have hcz69_3 : w67.cell? ⟨gb492, 3, none⟩ = some (.bool false) := (blk_cell BK492.out 3).trans rfl; have hfz69_0 := blk_frozen BK492.out 0; have hfz69_1 := blk_frozen BK492.out 1; have hfz69_2 := blk_frozen BK492.out 2; have hfz69_3 := blk_frozen BK492.out 3) | ((with_reducible refine gate_callee (f := 75) rfl ?_); refine goesL_ (some 24) rfl rfl Try.func75 (by kernel_rfl) rfl #[.agg #[.int .i64 ((rd_T71 l0_2 x4_1).f0), .int .i64 ((rd_T71 l0_2 x4_1).f1), .int .i64 ((rd_T71 l0_2 x4_1).f2), .bool ((rd_T71 l0_2 x4_1).f3)]] rfl (by (try simp only [List.map_toArray, List.map_cons, List.map_nil]); first | done | rfl | (simp only [List.length_drop, List.length_take]; rfl)) ?_; (with_reducible refine (spec_l02Open.calls ((rd_T71 l0_2 x4_1).f0) ((rd_T71 l0_2 x4_1).f1) ((rd_T71 l0_2 x4_1).f2) ((rd_T71 l0_2 x4_1).f3) false _ A11.out).mono ?_); rintro e w70 ⟨rfl, hb⟩; refine ⟨_, rfl, ?_⟩; have n0_ := Aside0.mk (Kd.R_below (by (with_reducible repeat (first | apply Kd.R_alloc | apply Kd.R_drewN | apply Kd.R_drew)); exact (Kd.R_mono (Kd.R_far (p := ⟨gb492, 3, none⟩) (Kd.R_far (p := ⟨gb492, 2, none⟩) (Kd.R_far (p := ⟨gb492, 1, none⟩) (Kd.R_far (p := ⟨gb492, 0, none⟩) (Kd.R_types HO_3.out BK492.out (by decide)) (fun _ hk => hk.2) (.int .i64 ((rd_T71 l0_2 x4_1).f0))) (fun _ hk => hk.2) (.int .i64 ((rd_T71 l0_2 x4_1).f1))) (fun _ hk => hk.2) (.int .i64 ((rd_T71 l0_2 x4_1).f2))) (fun _ hk => hk.2) (.bool ((rd_T71 l0_2 x4_1).f3))) (fun _ h_ => h_.1))) hb); have n1_ := Aside0.mk (blk_below (g := gb486) (o := .cells #[.int .i64 a0_0, .slice A0_1 l0_1.length c0_1, .slice (some ad491) l0_2.length c0_2] 30 (0, 0)) (by (with_reducible repeat (first | apply bN | apply bD | apply bA)); refine blk_far ?_ NB486_492.out _; (with_reducible repeat (first | apply bN | apply bD | apply bA)); refine blk_far ?_ NB486_492.out _; (with_reducible repeat (first | apply bN | apply bD | apply bA)); refine blk_far ?_ NB486_492.out _; (with_reducible repeat (first | apply bN | apply bD | apply bA)); refine blk_far ?_ NB486_492.out _; (with_reducible repeat (first | apply bN | apply bD | apply bA)); exact BK486.out) hb); have n2_ := Aside0.mk (blk_below (g := gb492) (o := .cells #[.int .i64 ((rd_T71 l0_2 x4_1).f0), .int .i64 ((rd_T71 l0_2 x4_1).f1), .int .i64 ((rd_T71 l0_2 x4_1).f2), .bool ((rd_T71 l0_2 x4_1).f3)] 71 (0, 0)) (by (with_reducible repeat (first | apply bN | apply bD | apply bA)); refine blk_put (cs := #[.int .i64 ((rd_T71 l0_2 x4_1).f0), .int .i64 ((rd_T71 l0_2 x4_1).f1), .int .i64 ((rd_T71 l0_2 x4_1).f2), .bool false]) ?_ 3 _ rfl; (with_reducible repeat (first | apply bN | apply bD | apply bA)); refine blk_put (cs := #[.int .i64 ((rd_T71 l0_2 x4_1).f0), .int .i64 ((rd_T71 l0_2 x4_1).f1), .int .i64 0, .bool false]) ?_ 2 _ rfl; (with_reducible repeat (first | apply bN | apply bD | apply bA)); refine blk_put (cs := #[.int .i64 ((rd_T71 l0_2 x4_1).f0), .int .i64 0, .int .i64 0, .bool false]) ?_ 1 _ rfl; (with_reducible repeat (first | apply bN | apply bD | apply bA)); refine blk_put (cs := #[.int .i64 0, .int .i64 0, .int .i64 0, .bool false]) ?_ 0 _ rfl; (with_reducible repeat (first | apply bN | apply bD | apply bA)); exact BK492.out) hb); have n3_ := Aside0.mk (below_step (bl HB.out) hb); clear HO_3; clear BK486; clear BK492; clear HB; have HO_3 := n0_; have BK486 := n1_; have BK492 := n2_; have HB := n3_; clear n0_ n1_ n2_ n3_; (try clear hb); (try clear hb2); (try clear hk); (try clear hi)))
              go_roundg k1
              case measure => have := HK1.out; omega
              case rel => exact ⟨(x3_1), (wrap64 (x4_1 + 1)), (by first | rfl | (simp; done) | (simp [*]; done)), H', ⟨by have := HK1.out; omega⟩, ⟨rk HO_3.out⟩, ⟨by (with_reducible repeat (first | apply bN | apply bD | apply bA)); exact BK486.out⟩, ⟨bl HB.out⟩⟩
          · rw [if_neg c10] at H
            exact absurd H (by simp)
        · rw [if_neg c9] at H
          have c9b0 : decide (x4_1 < (l0_2.length : Int)) = false := decide_eq_false c9
          clear c9
          obtain rfl := Option.some.inj H
          have hcz71_0 : wr.cell? ⟨gb486, 0, none⟩ = some (.int .i64 a0_0) := (blk_cell BK486.out 0).trans rfl
          have hcz71_1 : wr.cell? ⟨gb486, 1, none⟩ = some (.slice A0_1 l0_1.length c0_1) := (blk_cell BK486.out 1).trans rfl
          have hcz71_2 : wr.cell? ⟨gb486, 2, none⟩ = some (.slice A0_2 l0_2.length c0_2) := (blk_cell BK486.out 2).trans rfl
          have hfz71_0 := blk_frozen BK486.out 0
          have hfz71_1 := blk_frozen BK486.out 1
          have hfz71_2 := blk_frozen BK486.out 2
          go_wp2
          go_ret
          exact ⟨_, by first | rfl | (simp [errW_none, errW_some] <;> rfl) | (simp [*, errW_none, errW_some] <;> rfl), rk HO_3.out, bl HB.out⟩
  · replace c3 := Bool.eq_false_iff.mpr c3
    subst c3
    have H1 : (some y487) = some r := by rw [if_neg (show ¬ (false = true) by decide)] at H; exact H
    clear H
    have H := H1
    clear H1
    obtain rfl := Option.some.inj H
    go_enter Try.func41, Try.ntmps41
    go_wp2_with (first | ((with_reducible refine gate_dst (N := 1) rfl ?_); refine bx (cs := #[.int .i64 a0_0, .slice A0_1 l0_1.length c0_1, .slice A0_2 l0_2.length c0_2]) (t := 30) fun gb486 hg w72 hbox hb => ?_; have BK486 := Aside0.mk (hbox); have GW486 := Aside0.mk (gs HB.out hg); have GE486 := Aside0.mk (gs HB.out hg); replace HB := Aside0.mk (below_step (bl HB.out) hb); clear hb hbox hg) | ((with_reducible refine gate_dst (N := 6) rfl ?_); refine Kd.R_lit k54 _ 54 ?hg (N := 6) ?hd (xs := ([] : List (S54))) (inner := []) (ok := fun _ => True) (okp := fun _ => True) ?hr ?hp (fun _ hk => hk) trivial (Below.refl _ _) (Nat.le_refl _) (by simp) ?_; (case hd => rfl); (case hg => rfl); (case hr => first | (go_simp; done) | (go_simp; rfl)); (case hp => exact (Reps.none _ _)); intro v488 w73 ho74 hb hg_ hnew_; clear hg_ hnew_; (first | rw [← Ny487.out] at ho74 | (simp only [Int.reduceToNat] at ho74; rw [← Ny487.out] at ho74)); have n0_ := Aside0.mk (Kd.R_lower ho74 (below_size (bl HB.out))); have n1_ := Aside0.mk (bb BK486.out hb); have n2_ := Aside0.mk (below_step (bl HB.out) hb); clear BK486; clear HB; have HO489 := n0_; have BK486 := n1_; have HB := n2_; clear n0_ n1_ n2_; clear hb ho74; have hcz75_0 : w73.cell? ⟨gb486, 0, none⟩ = some (.int .i64 a0_0) := (blk_cell BK486.out 0).trans rfl; have hcz75_1 : w73.cell? ⟨gb486, 1, none⟩ = some (.slice A0_1 l0_1.length c0_1) := (blk_cell BK486.out 1).trans rfl; have hcz75_2 : w73.cell? ⟨gb486, 2, none⟩ = some (.slice A0_2 l0_2.length c0_2) := (blk_cell BK486.out 2).trans rfl; have hfz75_0 := blk_frozen BK486.out 0; have hfz75_1 := blk_frozen BK486.out 1; have hfz75_2 := blk_frozen BK486.out 2) | ((with_reducible refine gate_callee (f := 16) rfl ?_); refine goesL_ (some 8) rfl rfl Try.func16 (by kernel_rfl) rfl #[.agg #[.int .i64 a0_0, .slice A0_1 l0_1.length c0_1, .slice A0_2 l0_2.length c0_2]] rfl (by (try simp only [List.map_toArray, List.map_cons, List.map_nil]); first | done | rfl | (simp only [List.length_drop, List.length_take]; rfl)) ?_; (with_reducible refine (spec_ColumnOk.calls k a0_0 _ _ l0_1 _ _ l0_2 false _ ?side1 ?side2 ?side3 ?side4 A2.out).mono ?_); (case side1 => repeat (first | exact (Kd.C_below HR0_1.out HB.out) | (with_reducible refine Kd.C_alloc ?_ _) | (with_reducible refine Kd.C_drewN ?_ _) | (with_reducible refine Kd.C_drew ?_))); (case side2 => exact HC0_1.out); (case side3 => repeat (first | exact (Kd.C_below HR0_2.out HB.out) | (with_reducible refine Kd.C_alloc ?_ _) | (with_reducible refine Kd.C_drewN ?_ _) | (with_reducible refine Kd.C_drew ?_))); (case side4 => exact HC0_2.out); rintro e w76 ⟨rfl, hb⟩; refine ⟨_, rfl, ?_⟩; have n0_ := Aside0.mk (Kd.R_below (rk HO489.out) hb); have n1_ := Aside0.mk (bb BK486.out hb); have n2_ := Aside0.mk (below_step (bl HB.out) hb); clear HO489; clear BK486; clear HB; have HO489 := n0_; have BK486 := n1_; have HB := n2_; clear n0_ n1_ n2_; (try clear hb); (try clear hb2); (try clear hk); (try clear hi)))
    go_ret
    exact ⟨_, by first | rfl | (simp [errW_none, errW_some] <;> rfl) | (simp [*, errW_none, errW_some] <;> rfl), rk HO489.out, bl HB.out⟩
end Go.Proofs.Ytghfeapncmlihaa.A
