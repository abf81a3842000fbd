-- Written by a program of this claim's session over the kit's printer: Lean functions and contracts of the Go functions, one namespace for the whole seat.
import Derived.Test.YtpcgefkjeicmlaaAx0
import Derived.Test.YtpcgefkjeicmlaaAx2
import Derived.Test.YtpcgefkjeicmlaaAx4
import Derived.Test.YtpcgefkjeicmlaaAx6
import Derived.Test.YtpcgefkjeicmlaaAx7
namespace Go.Proofs.Ytpcgefkjeicmlaa.A
open Go.RowKit Go.Proofs.YtpcgefkjeicmlaaW.PrintWords Go.Proofs.YtpcgefkjeicmlaaW.PrintLast Go.Proofs.YtpcgefkjeicmlaaW.PrintMore
attribute [local go_sem] max2_int min2_int max_two min_two max_three min_three max_four min_four   -- for this text's walks alone
set_option linter.unusedVariables false
set_option linter.unusedSimpArgs false

/-! ### laws_FnOpenHours: function 4 -/
def laws_FnOpenHours.l0 : Nat → Int → Int → Int → Int → Int → List (S55) → List (S55) → Option (Bool)
  | 0, _, _, _, _, _, _, _ => none
  | k + 1, x5, x6, x7, x8, x9, x276000, x276001 => if x9 < x6 then ((impl_IsOpen.f k x276000 x276001 x9).bind fun t282 => (if t282 = true then (laws_FnOpenHours.l0 k x5 x6 x7 (wrap64 (x8 + 1)) (wrap64 (x9 + 1)) x276000 x276001) else (laws_FnOpenHours.l0 k x5 x6 x7 x8 (wrap64 (x9 + 1)) x276000 x276001))) else ((impl_WeekOk.f k x276000 x276001).bind fun t283 => (if t283 = true then ((impl_OpenHours.f k x276000 x276001 x5 x6).bind fun t284 => (if t284 = x8 then ((impl_OpenHours.f k x276000 x276001 x5 x7).bind fun t285 => ((impl_OpenHours.f k x276000 x276001 x6 x7).bind fun t286 => (if t285 = (wrap64 (x8 + t286)) then ((impl_OpenHours.f k x276000 x276001 x6 (wrap64 (x5 - 1))).bind fun t287 => (some (t287 == 0))) else (some false)))) else (some false))) else (some false)))
def laws_FnOpenHours.f (k : Nat) (l0 : List Int) : Option (Bool) := (laws_big.f l0).bind fun t268 => (if t268 = true then (some true) else ((spec_DrawWeek.f k l0).bind fun bt269 => ((spec_DrawPlaces.f k l0).bind fun t276 => (if 0 < (t276.length : Int) then (if 1 < (t276.length : Int) then (if 2 < (t276.length : Int) then (laws_FnOpenHours.l0 k (Int.tmod (rd t276 0) 500) (wrap64 ((Int.tmod (rd t276 0) 500) + (Int.tmod (rd t276 1) 200))) (wrap64 ((wrap64 ((Int.tmod (rd t276 0) 500) + (Int.tmod (rd t276 1) 200))) + (Int.tmod (rd t276 2) 3000))) 0 (Int.tmod (rd t276 0) 500) bt269.1 bt269.2) else (none)) else (none)) else (none)))))
theorem laws_FnOpenHours.mono_l : ∀ k, (∀ y0 y1 y2 y3 y4 y5 y6, LeO (laws_FnOpenHours.l0 k y0 y1 y2 y3 y4 y5 y6) (laws_FnOpenHours.l0 (k + 1) y0 y1 y2 y3 y4 y5 y6))
  | 0 => fun _ _ _ _ _ _ _ r h => by simp [laws_FnOpenHours.l0] at h
  | k + 1 => by
    have ih0 := laws_FnOpenHours.mono_l k
    · intro y0 y1 y2 y3 y4 y5 y6
      unfold laws_FnOpenHours.l0
      repeat' first
      | (with_reducible exact ih0 _ _ _ _ _ _ _)
      | (with_reducible exact impl_IsOpen.mono _ _ _ _)
      | (with_reducible exact impl_OpenHours.mono _ _ _ _ _)
      | (with_reducible exact impl_WeekOk.mono _ _ _)
      | (with_reducible exact spec_DrawPlaces.mono _ _)
      | (with_reducible exact spec_DrawWeek.mono _ _)
      | (with_reducible exact LeO.refl _)
      | (with_reducible exact LeO.none _)
      | (with_reducible refine LeO.ite ?_ ?_)
      | (with_reducible refine LeO.bind ?_ (fun _ => ?_))
      | exact ih0 _ _ _ _ _ _ _
      | exact impl_IsOpen.mono _ _ _ _
      | exact impl_OpenHours.mono _ _ _ _ _
      | exact impl_WeekOk.mono _ _ _
      | exact spec_DrawPlaces.mono _ _
      | exact spec_DrawWeek.mono _ _
      | exact LeO.none _
      | refine LeO.ite ?_ ?_
      | refine LeO.bind ?_ (fun _ => ?_)
theorem laws_FnOpenHours.mono : ∀ a0 k, LeO (laws_FnOpenHours.f k a0) (laws_FnOpenHours.f (k + 1) a0) := by
  intro a0 k
  have ih0 := laws_FnOpenHours.mono_l k
  unfold laws_FnOpenHours.f
  repeat' first
      | (with_reducible exact ih0 _ _ _ _ _ _ _)
      | (with_reducible exact impl_IsOpen.mono _ _ _ _)
      | (with_reducible exact impl_OpenHours.mono _ _ _ _ _)
      | (with_reducible exact impl_WeekOk.mono _ _ _)
      | (with_reducible exact spec_DrawPlaces.mono _ _)
      | (with_reducible exact spec_DrawWeek.mono _ _)
      | (with_reducible exact LeO.refl _)
      | (with_reducible exact LeO.none _)
      | (with_reducible refine LeO.ite ?_ ?_)
      | (with_reducible refine LeO.bind ?_ (fun _ => ?_))
      | exact ih0 _ _ _ _ _ _ _
      | exact impl_IsOpen.mono _ _ _ _
      | exact impl_OpenHours.mono _ _ _ _ _
      | exact impl_WeekOk.mono _ _ _
      | exact spec_DrawPlaces.mono _ _
      | exact spec_DrawWeek.mono _ _
      | exact LeO.none _
      | refine LeO.ite ?_ ?_
      | refine LeO.bind ?_ (fun _ => ?_)
def laws_FnOpenHours.T14 : Bool × List (List Nat × List Nat) := (true, [([], []), ([0], [0]), ([1, 1], [1]), ([2], [2]), ([2], [2]), ([2], [2]), ([3, 4, 5, 2, 2], [2, 3, 4, 5]), ([2], [2]), ([6, 7, 2], [2, 6, 7]), ([2, 8], [2, 8]), ([9, 6], [9]), ([10], [10]), ([10], [10]), ([10], [10]), ([11, 12, 13, 10, 10], [10, 11, 12, 13]), ([10], [10]), ([10], [10]), ([10], [10]), ([10], [10]), ([16, 17, 18, 14, 10], [10, 16, 17, 18]), ([15, 19, 10], [10, 15, 19]), ([14, 20, 10], [10, 14, 20]), ([10, 21], [10, 21]), ([22, 19], [22]), ([23], [23]), ([23], [23]), ([23], [23]), ([26, 23], [23, 26]), ([24, 25, 27, 23, 23], [23, 24, 25, 27]), ([28, 23], [23, 28]), ([23, 29], [23, 29]), ([30, 28, 0, 1, 2, 3, 4, 5, 6, 7, 8, 9, 10, 11, 12, 13, 14, 15, 16, 17, 18, 19, 20, 21, 22, 23, 24, 25, 26, 27, 28, 29, 30], [30])])
def laws_FnOpenHours.B14 : List Nat := [0, 1, 3, 7, 7, 7, 63, 7, 255, 511, 1023, 2047, 2047, 2047, 16383, 2047, 2047, 2047, 2047, 491519, 1048575, 2097151, 4194303, 8388607, 16777215, 16777215, 16777215, 83886079, 268435455, 536870911, 1073741823, 2147483647]
theorem laws_FnOpenHours.tab14 : rtab .any (opsOf Try.f4 14) = laws_FnOpenHours.T14 := by kernel_rfl
theorem laws_FnOpenHours.bits14 : waitsOk laws_FnOpenHours.T14.2 laws_FnOpenHours.B14 = true := by kernel_rfl
set_option maxHeartbeats 8000000 in
set_option maxRecDepth 100000 in
theorem laws_FnOpenHours.calls (k : Nat) (A0 : Option Addr) (c0 : Nat) (l0 : List Int) (r : Bool) (w : World) (hr0 : Kd.C (Kd.int .u8) w A0 l0.length l0) (hc0 : l0.length ≤ c0) (hr_ : Aside0 (r = true)) (h : laws_FnOpenHours.f k l0 = some r) :
    Calls Try.prog 4 #[.slice A0 l0.length c0] w fun e w' => e = .returned (.bool r) ∧ Below w.heap.size w w' := by
  have hu29 := Try.underlying29
  have HR0 := Aside0.mk hr0
  have HC0 := Aside0.mk hc0
  clear hr0 hc0
  have HB := Aside0.mk (Below.refl w.heap.size w)
  have H : ((laws_big.f l0).bind fun t268 => (if t268 = true then (some true) else ((spec_DrawWeek.f k l0).bind fun bt269 => ((spec_DrawPlaces.f k l0).bind fun t276 => (if 0 < (t276.length : Int) then (if 1 < (t276.length : Int) then (if 2 < (t276.length : Int) then (laws_FnOpenHours.l0 k (Int.tmod (rd t276 0) 500) (wrap64 ((Int.tmod (rd t276 0) 500) + (Int.tmod (rd t276 1) 200))) (wrap64 ((wrap64 ((Int.tmod (rd t276 0) 500) + (Int.tmod (rd t276 1) 200))) + (Int.tmod (rd t276 2) 3000))) 0 (Int.tmod (rd t276 0) 500) bt269.1 bt269.2) else (none)) else (none)) else (none)))))) = some r := h
  clear h
  replace H := Option.bind_eq_some_iff.mp H
  obtain ⟨t268, A20, H⟩ := H
  replace H : (if t268 = true then (some true) else ((spec_DrawWeek.f k l0).bind fun bt269 => ((spec_DrawPlaces.f k l0).bind fun t276 => (if 0 < (t276.length : Int) then (if 1 < (t276.length : Int) then (if 2 < (t276.length : Int) then (laws_FnOpenHours.l0 k (Int.tmod (rd t276 0) 500) (wrap64 ((Int.tmod (rd t276 0) 500) + (Int.tmod (rd t276 1) 200))) (wrap64 ((wrap64 ((Int.tmod (rd t276 0) 500) + (Int.tmod (rd t276 1) 200))) + (Int.tmod (rd t276 2) 3000))) 0 (Int.tmod (rd t276 0) 500) bt269.1 bt269.2) else (none)) else (none)) else (none))))) = some r := H
  have A2 := Aside0.mk A20
  clear A20
  by_cases c3 : t268 = true
  · subst c3
    have H1 : (some true) = some r := by rw [if_pos rfl] at H; exact H
    clear H
    have H := H1
    clear H1
    obtain rfl := Option.some.inj H
    go_enter Try.func4, Try.ntmps4
    go_wp2_with (first | ((with_reducible refine gate_callee (f := 15) rfl ?_); refine goesL_ (some 11) rfl rfl Try.func15 (by kernel_rfl) rfl #[.slice A0 l0.length c0] rfl (by (try simp only [List.map_toArray, List.map_cons, List.map_nil]); first | done | rfl | (simp only [List.length_drop, List.length_take]; rfl)) ?_; (with_reducible refine (laws_big.calls _ _ l0 true _ ?side1 ?side2 A2.out).mono ?_); (case side1 => repeat (first | exact HR0.out | (with_reducible refine Kd.C_alloc ?_ _) | (with_reducible refine Kd.C_drewN ?_ _) | (with_reducible refine Kd.C_drew ?_))); (case side2 => exact HC0.out); rintro e w' ⟨rfl, ⟨nd, rfl⟩⟩; refine ⟨_, rfl, ?_⟩))
    go_ret
    exact ⟨by first | rfl | (simp [errW_none, errW_some] <;> rfl) | (simp [*, errW_none, errW_some] <;> rfl), by repeat (first | (with_reducible first | exact HB.out | apply below_alloc | apply pw_below_drewN | apply below_drew1) | exact HB.out)⟩
  · replace c3 := Bool.eq_false_iff.mpr c3
    subst c3
    have H1 : ((spec_DrawWeek.f k l0).bind fun bt269 => ((spec_DrawPlaces.f k l0).bind fun t276 => (if 0 < (t276.length : Int) then (if 1 < (t276.length : Int) then (if 2 < (t276.length : Int) then (laws_FnOpenHours.l0 k (Int.tmod (rd t276 0) 500) (wrap64 ((Int.tmod (rd t276 0) 500) + (Int.tmod (rd t276 1) 200))) (wrap64 ((wrap64 ((Int.tmod (rd t276 0) 500) + (Int.tmod (rd t276 1) 200))) + (Int.tmod (rd t276 2) 3000))) 0 (Int.tmod (rd t276 0) 500) bt269.1 bt269.2) else (none)) else (none)) else (none)))) = some r := by rw [if_neg (show ¬ (false = true) by decide)] at H; exact H
    clear H
    have H := H1
    clear H1
    replace H := Option.bind_eq_some_iff.mp H
    obtain ⟨⟨t269, t272⟩, A40, H⟩ := H
    replace H : ((spec_DrawPlaces.f k l0).bind fun t276 => (if 0 < (t276.length : Int) then (if 1 < (t276.length : Int) then (if 2 < (t276.length : Int) then (laws_FnOpenHours.l0 k (Int.tmod (rd t276 0) 500) (wrap64 ((Int.tmod (rd t276 0) 500) + (Int.tmod (rd t276 1) 200))) (wrap64 ((wrap64 ((Int.tmod (rd t276 0) 500) + (Int.tmod (rd t276 1) 200))) + (Int.tmod (rd t276 2) 3000))) 0 (Int.tmod (rd t276 0) 500) t269 t272) else (none)) else (none)) else (none))) = some r := H
    have A4 := Aside0.mk A40
    clear A40
    replace H := Option.bind_eq_some_iff.mp H
    obtain ⟨t276, A50, H⟩ := H
    replace H : (if 0 < (t276.length : Int) then (if 1 < (t276.length : Int) then (if 2 < (t276.length : Int) then (laws_FnOpenHours.l0 k (Int.tmod (rd t276 0) 500) (wrap64 ((Int.tmod (rd t276 0) 500) + (Int.tmod (rd t276 1) 200))) (wrap64 ((wrap64 ((Int.tmod (rd t276 0) 500) + (Int.tmod (rd t276 1) 200))) + (Int.tmod (rd t276 2) 3000))) 0 (Int.tmod (rd t276 0) 500) t269 t272) else (none)) else (none)) else (none)) = some r := H
    have A5 := Aside0.mk A50
    clear A50
    by_cases c6 : 0 < (t276.length : Int)
    · rw [if_pos c6] at H
      have c6b0 : decide (0 < (t276.length : Int)) = true := decide_eq_true c6
      have c6b1 : decide (0 < t276.length) = true := decide_eq_true (by omega)
      clear c6
      by_cases c7 : 1 < (t276.length : Int)
      · rw [if_pos c7] at H
        have c7b0 : decide (1 < (t276.length : Int)) = true := decide_eq_true c7
        have c7b1 : decide (1 < t276.length) = true := decide_eq_true (by omega)
        clear c7
        by_cases c8 : 2 < (t276.length : Int)
        · rw [if_pos c8] at H
          have c8b0 : decide (2 < (t276.length : Int)) = true := decide_eq_true c8
          have c8b1 : decide (2 < t276.length) = true := decide_eq_true (by omega)
          clear c8
          have H' := Aside0.mk H
          clear H
          go_enter Try.func4, Try.ntmps4
          go_wp2_with (first | ((with_reducible refine gate_callee (f := 15) rfl ?_); refine goesL_ (some 11) rfl rfl Try.func15 (by kernel_rfl) rfl #[.slice A0 l0.length c0] rfl (by (try simp only [List.map_toArray, List.map_cons, List.map_nil]); first | done | rfl | (simp only [List.length_drop, List.length_take]; rfl)) ?_; (with_reducible refine (laws_big.calls _ _ l0 false _ ?side1 ?side2 A2.out).mono ?_); (case side1 => repeat (first | exact HR0.out | (with_reducible refine Kd.C_alloc ?_ _) | (with_reducible refine Kd.C_drewN ?_ _) | (with_reducible refine Kd.C_drew ?_))); (case side2 => exact HC0.out); rintro e w' ⟨rfl, ⟨nd, rfl⟩⟩; refine ⟨_, rfl, ?_⟩) | ((with_reducible refine gate_callee (f := 16) rfl ?_); refine goesL_ (some 13) rfl rfl Try.func16 (by kernel_rfl) rfl #[.slice A0 l0.length c0] rfl (by (try simp only [List.map_toArray, List.map_cons, List.map_nil]); first | done | rfl | (simp only [List.length_drop, List.length_take]; rfl)) ?_; (with_reducible refine (spec_DrawWeek.calls k _ _ l0 t269 t272 _ ?side1 ?side2 A4.out).mono ?_); (case side1 => repeat (first | exact HR0.out | (with_reducible refine Kd.C_alloc ?_ _) | (with_reducible refine Kd.C_drewN ?_ _) | (with_reducible refine Kd.C_drew ?_))); (case side2 => exact HC0.out); rintro e w9 ⟨v270, v273, rfl, ho0, ho1, hb⟩; refine ⟨_, rfl, ?_⟩; have n0_ := Aside0.mk (Kd.R_lower ho0 (below_size (by repeat (first | (with_reducible first | exact HB.out | apply below_alloc | apply pw_below_drewN | apply below_drew1) | exact HB.out)))); have n1_ := Aside0.mk (Kd.R_lower ho1 (below_size (by repeat (first | (with_reducible first | exact HB.out | apply below_alloc | apply pw_below_drewN | apply below_drew1) | exact HB.out)))); have n2_ := Aside0.mk (below_step (by repeat (first | (with_reducible first | exact HB.out | apply below_alloc | apply pw_below_drewN | apply below_drew1) | exact HB.out)) hb); clear HB; have HO271 := n0_; have HO274 := n1_; have HB := n2_; clear n0_ n1_ n2_; (try clear hb); (try clear hb2); (try clear hk); (try clear hi); (try clear ho0); (try clear ho1)) | ((with_reducible refine gate_dst (N := 3) rfl ?_); refine box_event ?hg (N := 3) ?hd (cs := #[.slice none 0 0, .slice none 0 0]) (t := 29) ?hr ?_; (case hd => rfl); (case hg => rfl); (case hr => first | (go_simp; done) | (go_simp; rfl)); intro gb275 hg w10 hbox hb; have n0_ := Aside0.mk (Kd.R_below (by (with_reducible repeat (first | apply Kd.R_alloc | apply Kd.R_drewN | apply Kd.R_drew)); exact HO271.out) hb); have n1_ := Aside0.mk (Kd.R_below (by (with_reducible repeat (first | apply Kd.R_alloc | apply Kd.R_drewN | apply Kd.R_drew)); exact HO274.out) hb); have n2_ := Aside0.mk (below_step (by repeat (first | (with_reducible first | exact HB.out | apply below_alloc | apply pw_below_drewN | apply below_drew1) | exact HB.out)) hb); have n3_ := Aside0.mk (hbox); have n4_ := Aside0.mk ((by rw [hg]; exact (below_size (by repeat (first | (with_reducible first | exact HB.out | apply below_alloc | apply pw_below_drewN | apply below_drew1) | exact HB.out))) : w.heap.size ≤ gb275)); have n5_ := Aside0.mk ((by rw [hg]; exact (below_size (by repeat (first | (with_reducible first | exact HB.out | apply below_alloc | apply pw_below_drewN | apply below_drew1) | exact HB.out))) : w.heap.size ≤ gb275)); clear HO271; clear HO274; clear HB; have HO271 := n0_; have HO274 := n1_; have HB := n2_; have BK275 := n3_; have GW275 := n4_; have GE275 := n5_; clear n0_ n1_ n2_ n3_ n4_ n5_; clear hb hbox hg; obtain ⟨Ao11, co11, eo11⟩ := Kd.R_slice HO271.out; subst eo11; have hcz12_0 : w10.cell? ⟨gb275, 0, none⟩ = some (.slice none 0 0) := (blk_cell BK275.out 0).trans rfl; have hcz12_1 : w10.cell? ⟨gb275, 1, none⟩ = some (.slice none 0 0) := (blk_cell BK275.out 1).trans rfl; have hfz12_0 := blk_frozen BK275.out 0; have hfz12_1 := blk_frozen BK275.out 1; obtain ⟨Ao13, co13, eo13⟩ := Kd.R_slice HO274.out; subst eo13) | ((with_reducible refine gate_callee (f := 17) rfl ?_); refine goesL_ (some 15) rfl rfl Try.func17 (by kernel_rfl) rfl #[.slice A0 l0.length c0] rfl (by (try simp only [List.map_toArray, List.map_cons, List.map_nil]); first | done | rfl | (simp only [List.length_drop, List.length_take]; rfl)) ?_; (with_reducible refine (spec_DrawPlaces.calls k _ _ l0 t276 _ ?side1 ?side2 A5.out).mono ?_); (case side1 => exact Kd.C_below HR0.out (by repeat (first | (with_reducible first | exact HB.out | apply below_alloc | apply pw_below_drewN | apply below_drew1 | refine below_set ?_ GE275.out) | exact HB.out))); (case side2 => exact HC0.out); rintro e w14 ⟨v277, rfl, ho0, hb⟩; refine ⟨_, rfl, ?_⟩; have n0_ := Aside0.mk (Kd.R_below (by (with_reducible repeat (first | apply Kd.R_alloc | apply Kd.R_drewN | apply Kd.R_drew)); exact (Kd.R_mono (Kd.R_far (p := ⟨gb275, 1, none⟩) (Kd.R_far (p := ⟨gb275, 0, none⟩) (Kd.R_types HO271.out BK275.out (by decide)) (fun _ hk => hk.2) (.slice Ao11 t269.length co11)) (fun _ hk => hk.2) (.slice Ao13 t272.length co13)) (fun _ h_ => h_.1))) hb); have n1_ := Aside0.mk (Kd.R_below (by (with_reducible repeat (first | apply Kd.R_alloc | apply Kd.R_drewN | apply Kd.R_drew)); exact (Kd.R_mono (Kd.R_far (p := ⟨gb275, 1, none⟩) (Kd.R_far (p := ⟨gb275, 0, none⟩) (Kd.R_types HO274.out BK275.out (by decide)) (fun _ hk => hk.2) (.slice Ao11 t269.length co11)) (fun _ hk => hk.2) (.slice Ao13 t272.length co13)) (fun _ h_ => h_.1))) hb); have n2_ := Aside0.mk (Kd.R_lower ho0 (below_size (by repeat (first | (with_reducible first | exact HB.out | apply below_alloc | apply pw_below_drewN | apply below_drew1 | refine below_set ?_ GE275.out) | exact HB.out)))); have n3_ := Aside0.mk (blk_below (g := gb275) (o := .cells #[.slice Ao11 t269.length co11, .slice Ao13 t272.length co13] 29 (0, 0)) (by (with_reducible repeat (first | refine blk_drewN ?_ _ | refine blk_drew ?_ | refine blk_alloc ?_ _)); refine blk_put (cs := #[.slice Ao11 t269.length co11, .slice none 0 0]) ?_ 1 _ rfl; (with_reducible repeat (first | refine blk_drewN ?_ _ | refine blk_drew ?_ | refine blk_alloc ?_ _)); refine blk_put (cs := #[.slice none 0 0, .slice none 0 0]) ?_ 0 _ rfl; (with_reducible repeat (first | refine blk_drewN ?_ _ | refine blk_drew ?_ | refine blk_alloc ?_ _)); exact BK275.out) hb); have n4_ := Aside0.mk (below_step (by repeat (first | (with_reducible first | exact HB.out | apply below_alloc | apply pw_below_drewN | apply below_drew1 | refine below_set ?_ GE275.out) | exact HB.out)) hb); clear HO271; clear HO274; clear BK275; clear HB; have HO271 := n0_; have HO274 := n1_; have HO278 := n2_; have BK275 := n3_; have HB := n4_; clear n0_ n1_ n2_ n3_ n4_; (try clear hb); (try clear hb2); (try clear hk); (try clear hi); (try clear ho0); obtain ⟨Ao15, co15, eo15⟩ := Kd.R_slice HO278.out; subst eo15; have p279 : 0 ≤ (0 : Int) := (by omega); have q279 : 0 < (t276.length : Int) := of_decide_eq_true (by first | (with_reducible assumption) | assumption); obtain ⟨ad279, e279, hx279_0⟩ := Kd.at_int (Kd.R_reads' HO278.out).2.2 0 p279 q279; cases e279; have qi279 : (0 < t276.length) = True := eq_true (by omega); (try rw [show ((0 : Int)).toNat = 0 from rfl] at hx279_0); (try rw [Addr.add_zero'] at hx279_0); replace p279 := eq_true p279; replace q279 := eq_true q279; have p280 : 0 ≤ (1 : Int) := (by omega); have q280 : 1 < (t276.length : Int) := of_decide_eq_true (by first | (with_reducible assumption) | assumption); obtain ⟨ad280, e280, hx280_0⟩ := Kd.at_int (Kd.R_reads' HO278.out).2.2 1 p280 q280; obtain rfl : ad279 = ad280 := (by injection e280); (try simp only [show (1 : Int).toNat = 1 from rfl, Nat.reduceMul, Nat.reduceEqDiff, Go.Addr.add, ↓reduceIte] at hx280_0); have qi280 : (1 < t276.length) = True := eq_true (by omega); (try rw [show ((1 : Int)).toNat = 1 from rfl] at hx280_0); replace p280 := eq_true p280; replace q280 := eq_true q280; have p281 : 0 ≤ (2 : Int) := (by omega); have q281 : 2 < (t276.length : Int) := of_decide_eq_true (by first | (with_reducible assumption) | assumption); obtain ⟨ad281, e281, hx281_0⟩ := Kd.at_int (Kd.R_reads' HO278.out).2.2 2 p281 q281; obtain rfl : ad279 = ad281 := (by injection e281); (try simp only [show (2 : Int).toNat = 2 from rfl, Nat.reduceMul, Nat.reduceEqDiff, Go.Addr.add, ↓reduceIte] at hx281_0); have qi281 : (2 < t276.length) = True := eq_true (by omega); (try rw [show ((2 : Int)).toNat = 2 from rfl] at hx281_0); replace p281 := eq_true p281; replace q281 := eq_true q281))
          go_loopg [8, 9] k (fun kq v8 v9 w' => ∃ (x8_1 : Int) (x9_1 : Int), v8 = .int .i64 x8_1 ∧ v9 = .int .i64 x9_1 ∧ Aside0 (laws_FnOpenHours.l0 kq (Int.tmod (rd t276 0) 500) (wrap64 ((Int.tmod (rd t276 0) 500) + (Int.tmod (rd t276 1) 200))) (wrap64 ((wrap64 ((Int.tmod (rd t276 0) 500) + (Int.tmod (rd t276 1) 200))) + (Int.tmod (rd t276 2) 3000))) x8_1 x9_1 t269 t272 = some r) ∧ Aside0 (kq ≤ k) ∧ Aside0 (Kd.R k55 55 w' w.heap.size (fun k_ => some k_ ≠ ((.slice Ao13 t272.length co13) : Value).ownBlock) (.slice Ao11 t269.length co11) t269) ∧ Aside0 (Kd.R k55 55 w' w.heap.size (fun k_ => some k_ ≠ ((.slice Ao11 t269.length co11) : Value).ownBlock) (.slice Ao13 t272.length co13) t272) ∧ Aside0 (w'.heap[gb275]? = some (.cells #[(.slice Ao11 t269.length co11), (.slice Ao13 t272.length co13)] 29 (0, 0))) ∧ Aside0 (Below w.heap.size w w'))
          case atStart => exact ⟨(0), (Int.tmod (rd t276 0) 500), (by first | rfl | (simp; done) | (simp [*]; done)), (by first | rfl | (simp; done) | (simp [*]; done)), H', ⟨Nat.le_refl _⟩, ⟨by (with_reducible repeat (first | apply Kd.R_alloc | apply Kd.R_drewN | apply Kd.R_drew)); exact HO271.out⟩, ⟨by (with_reducible repeat (first | apply Kd.R_alloc | apply Kd.R_drewN | apply Kd.R_drew)); exact HO274.out⟩, ⟨by (with_reducible repeat (first | refine blk_drewN ?_ _ | refine blk_drew ?_ | refine blk_alloc ?_ _)); exact BK275.out⟩, ⟨by repeat (first | (with_reducible first | exact HB.out | apply below_alloc | apply pw_below_drewN | apply below_drew1 | refine below_set ?_ GE275.out) | exact HB.out)⟩⟩
          case round =>
            clear H'
            try clear c1
            try clear p2
            try clear q2
            try clear hx2
            try clear qi2
            try clear c3
            try clear c4
            try clear c6
            try clear c6b0
            try clear c6b1
            try clear p6
            try clear c7
            try clear c7b0
            try clear c7b1
            try clear c8
            try clear c8b0
            try clear c8b1
            try clear c15
            try clear hcz12_0
            try clear hcz12_1
            try clear hfz12_0
            try clear hfz12_1
            try clear hx279_0
            try clear hx280_0
            try clear hx281_0
            try clear p279
            try clear p280
            try clear p281
            try clear q279
            try clear q280
            try clear q281
            obtain ⟨x8_1, x9_1, rfl, rfl, HA, HK1, HO_276000, HO_276001, BK275, HB⟩ := hrel
            cases gk with
            | zero => exact absurd HA.out (by simp [laws_FnOpenHours.l0])
            | succ k1 =>
              have H := HA.out
              clear HA
              simp only [laws_FnOpenHours.l0] at H
              by_cases c16 : x9_1 < (wrap64 ((Int.tmod (rd t276 0) 500) + (Int.tmod (rd t276 1) 200)))
              · rw [if_pos c16] at H
                have c16b0 : decide (x9_1 < (wrap64 ((Int.tmod (rd t276 0) 500) + (Int.tmod (rd t276 1) 200)))) = true := decide_eq_true c16
                clear c16
                replace H := Option.bind_eq_some_iff.mp H
                obtain ⟨t282, A170, H⟩ := H
                replace H : (if t282 = true then (laws_FnOpenHours.l0 k1 (Int.tmod (rd t276 0) 500) (wrap64 ((Int.tmod (rd t276 0) 500) + (Int.tmod (rd t276 1) 200))) (wrap64 ((wrap64 ((Int.tmod (rd t276 0) 500) + (Int.tmod (rd t276 1) 200))) + (Int.tmod (rd t276 2) 3000))) (wrap64 (x8_1 + 1)) (wrap64 (x9_1 + 1)) t269 t272) else (laws_FnOpenHours.l0 k1 (Int.tmod (rd t276 0) 500) (wrap64 ((Int.tmod (rd t276 0) 500) + (Int.tmod (rd t276 1) 200))) (wrap64 ((wrap64 ((Int.tmod (rd t276 0) 500) + (Int.tmod (rd t276 1) 200))) + (Int.tmod (rd t276 2) 3000))) x8_1 (wrap64 (x9_1 + 1)) t269 t272)) = some r := H
                have A17 := Aside0.mk A170
                clear A170
                by_cases c18 : t282 = true
                · subst c18
                  have H1 : (laws_FnOpenHours.l0 k1 (Int.tmod (rd t276 0) 500) (wrap64 ((Int.tmod (rd t276 0) 500) + (Int.tmod (rd t276 1) 200))) (wrap64 ((wrap64 ((Int.tmod (rd t276 0) 500) + (Int.tmod (rd t276 1) 200))) + (Int.tmod (rd t276 2) 3000))) (wrap64 (x8_1 + 1)) (wrap64 (x9_1 + 1)) t269 t272) = some r := by rw [if_pos rfl] at H; exact H
                  clear H
                  have H := H1
                  clear H1
                  have H' := Aside0.mk H
                  clear H
                  have hcz19_0 : wr.cell? ⟨gb275, 0, none⟩ = some (.slice Ao11 t269.length co11) := (blk_cell BK275.out 0).trans rfl
                  have hcz19_1 : wr.cell? ⟨gb275, 1, none⟩ = some (.slice Ao13 t272.length co13) := (blk_cell BK275.out 1).trans rfl
                  have hfz19_0 := blk_frozen BK275.out 0
                  have hfz19_1 := blk_frozen BK275.out 1
                  go_wp2_with (first | ((with_reducible refine gate_callee (f := 18) rfl ?_); refine goesL_ (some 40) rfl rfl Try.func18 (by kernel_rfl) rfl #[.agg #[.slice Ao11 t269.length co11, .slice Ao13 t272.length co13], .int .i64 x9_1] rfl (by (try simp only [List.map_toArray, List.map_cons, List.map_nil]); first | done | rfl | (simp only [List.length_drop, List.length_take]; rfl)) ?_; (with_reducible refine (impl_IsOpen.calls k1 _ _ t269 _ _ t272 x9_1 true _ ?side1 ?side2 ?side3 ?side4 A17.out).mono ?_); (case side1 => repeat (first | exact (Kd.R_reads' HO_276000.out).2.2 | (with_reducible refine Kd.C_alloc ?_ _) | (with_reducible refine Kd.C_drewN ?_ _) | (with_reducible refine Kd.C_drew ?_))); (case side2 => exact (Kd.R_reads' HO_276000.out).2.1); (case side3 => repeat (first | exact (Kd.R_reads' HO_276001.out).2.2 | (with_reducible refine Kd.C_alloc ?_ _) | (with_reducible refine Kd.C_drewN ?_ _) | (with_reducible refine Kd.C_drew ?_))); (case side4 => exact (Kd.R_reads' HO_276001.out).2.1); rintro e w20 ⟨rfl, hb⟩; refine ⟨_, rfl, ?_⟩; have n0_ := Aside0.mk (Kd.R_below (by (with_reducible repeat (first | apply Kd.R_alloc | apply Kd.R_drewN | apply Kd.R_drew)); exact HO_276000.out) hb); have n1_ := Aside0.mk (Kd.R_below (by (with_reducible repeat (first | apply Kd.R_alloc | apply Kd.R_drewN | apply Kd.R_drew)); exact HO_276001.out) hb); have n2_ := Aside0.mk (blk_below (g := gb275) (o := .cells #[.slice Ao11 t269.length co11, .slice Ao13 t272.length co13] 29 (0, 0)) (by (with_reducible repeat (first | refine blk_drewN ?_ _ | refine blk_drew ?_ | refine blk_alloc ?_ _)); exact BK275.out) hb); have n3_ := Aside0.mk (below_step (by repeat (first | (with_reducible first | exact HB.out | apply below_alloc | apply pw_below_drewN | apply below_drew1 | refine below_set ?_ GE275.out) | exact HB.out)) hb); clear HO_276000; clear HO_276001; clear BK275; clear HB; have HO_276000 := n0_; have HO_276001 := n1_; have BK275 := n2_; have HB := n3_; clear n0_ n1_ n2_ n3_; (try clear hb); (try clear hb2); (try clear hk); (try clear hi)))
                  go_roundg k1
                  case measure => have := HK1.out; omega
                  case rel => exact ⟨(wrap64 (x8_1 + 1)), (wrap64 (x9_1 + 1)), (by first | rfl | (simp; done) | (simp [*]; done)), (by first | rfl | (simp; done) | (simp [*]; done)), H', ⟨by have := HK1.out; omega⟩, ⟨by (with_reducible repeat (first | apply Kd.R_alloc | apply Kd.R_drewN | apply Kd.R_drew)); exact HO_276000.out⟩, ⟨by (with_reducible repeat (first | apply Kd.R_alloc | apply Kd.R_drewN | apply Kd.R_drew)); exact HO_276001.out⟩, ⟨by (with_reducible repeat (first | refine blk_drewN ?_ _ | refine blk_drew ?_ | refine blk_alloc ?_ _)); exact BK275.out⟩, ⟨by repeat (first | (with_reducible first | exact HB.out | apply below_alloc | apply pw_below_drewN | apply below_drew1 | refine below_set ?_ GE275.out) | exact HB.out)⟩⟩
                · replace c18 := Bool.eq_false_iff.mpr c18
                  subst c18
                  have H1 : (laws_FnOpenHours.l0 k1 (Int.tmod (rd t276 0) 500) (wrap64 ((Int.tmod (rd t276 0) 500) + (Int.tmod (rd t276 1) 200))) (wrap64 ((wrap64 ((Int.tmod (rd t276 0) 500) + (Int.tmod (rd t276 1) 200))) + (Int.tmod (rd t276 2) 3000))) x8_1 (wrap64 (x9_1 + 1)) t269 t272) = some r := by rw [if_neg (show ¬ (false = true) by decide)] at H; exact H
                  clear H
                  have H := H1
                  clear H1
                  have H' := Aside0.mk H
                  clear H
                  have hcz21_0 : wr.cell? ⟨gb275, 0, none⟩ = some (.slice Ao11 t269.length co11) := (blk_cell BK275.out 0).trans rfl
                  have hcz21_1 : wr.cell? ⟨gb275, 1, none⟩ = some (.slice Ao13 t272.length co13) := (blk_cell BK275.out 1).trans rfl
                  have hfz21_0 := blk_frozen BK275.out 0
                  have hfz21_1 := blk_frozen BK275.out 1
                  go_wp2_with (first | ((with_reducible refine gate_callee (f := 18) rfl ?_); refine goesL_ (some 40) rfl rfl Try.func18 (by kernel_rfl) rfl #[.agg #[.slice Ao11 t269.length co11, .slice Ao13 t272.length co13], .int .i64 x9_1] rfl (by (try simp only [List.map_toArray, List.map_cons, List.map_nil]); first | done | rfl | (simp only [List.length_drop, List.length_take]; rfl)) ?_; (with_reducible refine (impl_IsOpen.calls k1 _ _ t269 _ _ t272 x9_1 false _ ?side1 ?side2 ?side3 ?side4 A17.out).mono ?_); (case side1 => repeat (first | exact (Kd.R_reads' HO_276000.out).2.2 | (with_reducible refine Kd.C_alloc ?_ _) | (with_reducible refine Kd.C_drewN ?_ _) | (with_reducible refine Kd.C_drew ?_))); (case side2 => exact (Kd.R_reads' HO_276000.out).2.1); (case side3 => repeat (first | exact (Kd.R_reads' HO_276001.out).2.2 | (with_reducible refine Kd.C_alloc ?_ _) | (with_reducible refine Kd.C_drewN ?_ _) | (with_reducible refine Kd.C_drew ?_))); (case side4 => exact (Kd.R_reads' HO_276001.out).2.1); rintro e w22 ⟨rfl, hb⟩; refine ⟨_, rfl, ?_⟩; have n0_ := Aside0.mk (Kd.R_below (by (with_reducible repeat (first | apply Kd.R_alloc | apply Kd.R_drewN | apply Kd.R_drew)); exact HO_276000.out) hb); have n1_ := Aside0.mk (Kd.R_below (by (with_reducible repeat (first | apply Kd.R_alloc | apply Kd.R_drewN | apply Kd.R_drew)); exact HO_276001.out) hb); have n2_ := Aside0.mk (blk_below (g := gb275) (o := .cells #[.slice Ao11 t269.length co11, .slice Ao13 t272.length co13] 29 (0, 0)) (by (with_reducible repeat (first | refine blk_drewN ?_ _ | refine blk_drew ?_ | refine blk_alloc ?_ _)); exact BK275.out) hb); have n3_ := Aside0.mk (below_step (by repeat (first | (with_reducible first | exact HB.out | apply below_alloc | apply pw_below_drewN | apply below_drew1 | refine below_set ?_ GE275.out) | exact HB.out)) hb); clear HO_276000; clear HO_276001; clear BK275; clear HB; have HO_276000 := n0_; have HO_276001 := n1_; have BK275 := n2_; have HB := n3_; clear n0_ n1_ n2_ n3_; (try clear hb); (try clear hb2); (try clear hk); (try clear hi)))
                  go_roundg k1
                  case measure => have := HK1.out; omega
                  case rel => exact ⟨(x8_1), (wrap64 (x9_1 + 1)), (by first | rfl | (simp; done) | (simp [*]; done)), (by first | rfl | (simp; done) | (simp [*]; done)), H', ⟨by have := HK1.out; omega⟩, ⟨by (with_reducible repeat (first | apply Kd.R_alloc | apply Kd.R_drewN | apply Kd.R_drew)); exact HO_276000.out⟩, ⟨by (with_reducible repeat (first | apply Kd.R_alloc | apply Kd.R_drewN | apply Kd.R_drew)); exact HO_276001.out⟩, ⟨by (with_reducible repeat (first | refine blk_drewN ?_ _ | refine blk_drew ?_ | refine blk_alloc ?_ _)); exact BK275.out⟩, ⟨by repeat (first | (with_reducible first | exact HB.out | apply below_alloc | apply pw_below_drewN | apply below_drew1 | refine below_set ?_ GE275.out) | exact HB.out)⟩⟩
              · rw [if_neg c16] at H
                have c16b0 : decide (x9_1 < (wrap64 ((Int.tmod (rd t276 0) 500) + (Int.tmod (rd t276 1) 200)))) = false := decide_eq_false c16
                clear c16
                replace H := Option.bind_eq_some_iff.mp H
                obtain ⟨t283, A230, H⟩ := H
                replace H : (if t283 = true then ((impl_OpenHours.f k1 t269 t272 (Int.tmod (rd t276 0) 500) (wrap64 ((Int.tmod (rd t276 0) 500) + (Int.tmod (rd t276 1) 200)))).bind fun t284 => (if t284 = x8_1 then ((impl_OpenHours.f k1 t269 t272 (Int.tmod (rd t276 0) 500) (wrap64 ((wrap64 ((Int.tmod (rd t276 0) 500) + (Int.tmod (rd t276 1) 200))) + (Int.tmod (rd t276 2) 3000)))).bind fun t285 => ((impl_OpenHours.f k1 t269 t272 (wrap64 ((Int.tmod (rd t276 0) 500) + (Int.tmod (rd t276 1) 200))) (wrap64 ((wrap64 ((Int.tmod (rd t276 0) 500) + (Int.tmod (rd t276 1) 200))) + (Int.tmod (rd t276 2) 3000)))).bind fun t286 => (if t285 = (wrap64 (x8_1 + t286)) then ((impl_OpenHours.f k1 t269 t272 (wrap64 ((Int.tmod (rd t276 0) 500) + (Int.tmod (rd t276 1) 200))) (wrap64 ((Int.tmod (rd t276 0) 500) - 1))).bind fun t287 => (some (t287 == 0))) else (some false)))) else (some false))) else (some false)) = some r := H
                have A23 := Aside0.mk A230
                clear A230
                by_cases c24 : t283 = true
                · subst c24
                  have H1 : ((impl_OpenHours.f k1 t269 t272 (Int.tmod (rd t276 0) 500) (wrap64 ((Int.tmod (rd t276 0) 500) + (Int.tmod (rd t276 1) 200)))).bind fun t284 => (if t284 = x8_1 then ((impl_OpenHours.f k1 t269 t272 (Int.tmod (rd t276 0) 500) (wrap64 ((wrap64 ((Int.tmod (rd t276 0) 500) + (Int.tmod (rd t276 1) 200))) + (Int.tmod (rd t276 2) 3000)))).bind fun t285 => ((impl_OpenHours.f k1 t269 t272 (wrap64 ((Int.tmod (rd t276 0) 500) + (Int.tmod (rd t276 1) 200))) (wrap64 ((wrap64 ((Int.tmod (rd t276 0) 500) + (Int.tmod (rd t276 1) 200))) + (Int.tmod (rd t276 2) 3000)))).bind fun t286 => (if t285 = (wrap64 (x8_1 + t286)) then ((impl_OpenHours.f k1 t269 t272 (wrap64 ((Int.tmod (rd t276 0) 500) + (Int.tmod (rd t276 1) 200))) (wrap64 ((Int.tmod (rd t276 0) 500) - 1))).bind fun t287 => (some (t287 == 0))) else (some false)))) else (some false))) = some r := by rw [if_pos rfl] at H; exact H
                  clear H
                  have H := H1
                  clear H1
                  replace H := Option.bind_eq_some_iff.mp H
                  obtain ⟨t284, A250, H⟩ := H
                  replace H : (if t284 = x8_1 then ((impl_OpenHours.f k1 t269 t272 (Int.tmod (rd t276 0) 500) (wrap64 ((wrap64 ((Int.tmod (rd t276 0) 500) + (Int.tmod (rd t276 1) 200))) + (Int.tmod (rd t276 2) 3000)))).bind fun t285 => ((impl_OpenHours.f k1 t269 t272 (wrap64 ((Int.tmod (rd t276 0) 500) + (Int.tmod (rd t276 1) 200))) (wrap64 ((wrap64 ((Int.tmod (rd t276 0) 500) + (Int.tmod (rd t276 1) 200))) + (Int.tmod (rd t276 2) 3000)))).bind fun t286 => (if t285 = (wrap64 (x8_1 + t286)) then ((impl_OpenHours.f k1 t269 t272 (wrap64 ((Int.tmod (rd t276 0) 500) + (Int.tmod (rd t276 1) 200))) (wrap64 ((Int.tmod (rd t276 0) 500) - 1))).bind fun t287 => (some (t287 == 0))) else (some false)))) else (some false)) = some r := H
                  have A25 := Aside0.mk A250
                  clear A250
                  by_cases c26 : t284 = x8_1
                  · rw [if_pos c26] at H
                    have c26b0 : (t284 == x8_1) = true := beq_iff_eq.mpr c26
                    have c26b1 : (t284 != x8_1) = false := bne_eq_false_iff_eq.mpr c26
                    clear c26
                    replace H := Option.bind_eq_some_iff.mp H
                    obtain ⟨t285, A270, H⟩ := H
                    replace H : ((impl_OpenHours.f k1 t269 t272 (wrap64 ((Int.tmod (rd t276 0) 500) + (Int.tmod (rd t276 1) 200))) (wrap64 ((wrap64 ((Int.tmod (rd t276 0) 500) + (Int.tmod (rd t276 1) 200))) + (Int.tmod (rd t276 2) 3000)))).bind fun t286 => (if t285 = (wrap64 (x8_1 + t286)) then ((impl_OpenHours.f k1 t269 t272 (wrap64 ((Int.tmod (rd t276 0) 500) + (Int.tmod (rd t276 1) 200))) (wrap64 ((Int.tmod (rd t276 0) 500) - 1))).bind fun t287 => (some (t287 == 0))) else (some false))) = some r := H
                    have A27 := Aside0.mk A270
                    clear A270
                    replace H := Option.bind_eq_some_iff.mp H
                    obtain ⟨t286, A280, H⟩ := H
                    replace H : (if t285 = (wrap64 (x8_1 + t286)) then ((impl_OpenHours.f k1 t269 t272 (wrap64 ((Int.tmod (rd t276 0) 500) + (Int.tmod (rd t276 1) 200))) (wrap64 ((Int.tmod (rd t276 0) 500) - 1))).bind fun t287 => (some (t287 == 0))) else (some false)) = some r := H
                    have A28 := Aside0.mk A280
                    clear A280
                    by_cases c29 : t285 = (wrap64 (x8_1 + t286))
                    · rw [if_pos c29] at H
                      have c29b0 : (t285 == (wrap64 (x8_1 + t286))) = true := beq_iff_eq.mpr c29
                      have c29b1 : (t285 != (wrap64 (x8_1 + t286))) = false := bne_eq_false_iff_eq.mpr c29
                      clear c29
                      replace H := Option.bind_eq_some_iff.mp H
                      obtain ⟨t287, A300, H⟩ := H
                      replace H : (some (t287 == 0)) = some r := H
                      have A30 := Aside0.mk A300
                      clear A300
                      obtain rfl := Option.some.inj H
                      try go_wp2
                      have n0_ := Aside0.mk (Kd.R_drew HO_276000.out)
                      have n1_ := Aside0.mk (Kd.R_drew HO_276001.out)
                      have n2_ := Aside0.mk (blk_drew BK275.out)
                      have n3_ := Aside0.mk (below_drew1 HB.out)
                      clear HO_276000
                      clear HO_276001
                      clear BK275
                      clear HB
                      have HO_276000 := n0_
                      have HO_276001 := n1_
                      have BK275 := n2_
                      have HB := n3_
                      clear n0_ n1_ n2_ n3_
                      refine start_ (n := 32) (S := fun w' => w'.cell? ⟨gb275, 0, none⟩ = some (.slice Ao11 t269.length co11) ∧ w'.cell? ⟨gb275, 1, none⟩ = some (.slice Ao13 t272.length co13)) (ds := []) #[false, false, false, false, false, false, false, false, false, false, false, false, false, false, false, false, false, false, false, false, false, false, false, false, false, false, false, false, false, false, false, false] (by kernel_rfl) rfl rfl ⟨(blk_cell BK275.out 0).trans rfl, (blk_cell BK275.out 1).trans rfl⟩ (fun hHeld => ?_); refine with_tabW laws_FnOpenHours.tab14 laws_FnOpenHours.bits14 (fun HT_ HW_ => ?_)
                      generalize wr.drew = w31 at HO_276000 HO_276001 BK275 HB hHeld ⊢
                      refine take_ (i := 0) (N := some 43) (v := ?_) (a' := ?_) #[true, false, false, false, false, false, false, false, false, false, false, false, false, false, false, false, false, false, false, false, false, false, false, false, false, false, false, false, false, false, false, false] rfl rfl (take_ofW HT_.out HW_.out (by kernel_rfl)) (fun _ _ _ h => h) (Or.inl ⟨by rfl, ?_⟩) hHeld ?_ ?_
                      rotate_left
                      · rintro w' ⟨s0, s1⟩
                        go_simp
                        with_reducible rfl
                      rotate_left
                      · simp only [Act.put, List.setIfInBounds_toArray, List.set_cons_zero, List.set_cons_succ, i64_w, i32_w]
                        rfl
                      refine one_ (i := 1) (N := some 44) #[true, true, false, false, false, false, false, false, false, false, false, false, false, false, false, false, false, false, false, false, false, false, false, false, false, false, false, false, false, false, false, false] rfl rfl (one_of HT_.out (by kernel_rfl)) (by decide) (fun K hK => ?_)
                      refine goes_ Try.func13 (by kernel_rfl) rfl #[.agg #[.slice Ao11 t269.length co11, .slice Ao13 t272.length co13]] (by rfl) rfl rfl (by (try simp only [List.map_toArray, List.map_cons, List.map_nil]); first | done | rfl | (simp only [List.length_drop, List.length_take]; rfl)) ?_
                      with_reducible refine (impl_WeekOk.calls k1 _ _ t269 _ _ t272 true _ ?side1 ?side2 ?side3 ?side4 A23.out).mono ?_
                      (case side1 => repeat (first | exact (Kd.R_reads' HO_276000.out).2.2 | (with_reducible refine Kd.C_alloc ?_ _) | (with_reducible refine Kd.C_drewN ?_ _) | (with_reducible refine Kd.C_drew ?_)))
                      (case side2 => exact (Kd.R_reads' HO_276000.out).2.1)
                      (case side3 => repeat (first | exact (Kd.R_reads' HO_276001.out).2.2 | (with_reducible refine Kd.C_alloc ?_ _) | (with_reducible refine Kd.C_drewN ?_ _) | (with_reducible refine Kd.C_drew ?_)))
                      (case side4 => exact (Kd.R_reads' HO_276001.out).2.1)
                      rintro e w32 ⟨rfl, hb⟩
                      refine ⟨_, rfl, ?_⟩
                      have n0_ := Aside0.mk (Kd.R_below (by (with_reducible repeat (first | apply Kd.R_alloc | apply Kd.R_drewN | apply Kd.R_drew)); exact HO_276000.out) hb)
                      have n1_ := Aside0.mk (Kd.R_below (by (with_reducible repeat (first | apply Kd.R_alloc | apply Kd.R_drewN | apply Kd.R_drew)); exact HO_276001.out) hb)
                      have n2_ := Aside0.mk (blk_below (g := gb275) (o := .cells #[.slice Ao11 t269.length co11, .slice Ao13 t272.length co13] 29 (0, 0)) (by (with_reducible repeat (first | refine blk_drewN ?_ _ | refine blk_drew ?_ | refine blk_alloc ?_ _)); exact BK275.out) hb)
                      have n3_ := Aside0.mk (below_step (by repeat (first | (with_reducible first | exact HB.out | apply below_alloc | apply pw_below_drewN | apply below_drew1 | refine below_set ?_ GE275.out) | exact HB.out)) hb)
                      clear HO_276000
                      clear HO_276001
                      clear BK275
                      clear HB
                      have HO_276000 := n0_
                      have HO_276001 := n1_
                      have BK275 := n2_
                      have HB := n3_
                      clear n0_ n1_ n2_ n3_
                      (try clear hb)
                      (try clear hb2)
                      (try clear hk)
                      (try clear hi)
                      refine hK.out _ _ ⟨(blk_cell BK275.out 0).trans rfl, (blk_cell BK275.out 1).trans rfl⟩ (fun hHeld => ?_)
                      clear hK K
                      refine norm_ (a' := ?_) ?_ ?_
                      rotate_left
                      · show Act.put _ (some 44) _ = _
                        simp only [Act.put, List.setIfInBounds_toArray, List.set_cons_zero, List.set_cons_succ, i64_w, i32_w]
                        rfl
                      refine pure_ (i := 2) (N := some 45) (v := ?_) (a' := ?_) #[true, true, true, false, false, false, false, false, false, false, false, false, false, false, false, false, false, false, false, false, false, false, false, false, false, false, false, false, false, false, false, false] rfl rfl (any_of HT_.out (by kernel_rfl)) (fun _ _ _ h => h) (Or.inl ⟨by rfl, ?_⟩) ?_ ?_
                      rotate_left
                      · intro w'
                        go_simp
                        with_reducible rfl
                      rotate_left
                      · simp only [Act.put, List.setIfInBounds_toArray, List.set_cons_zero, List.set_cons_succ, i64_w, i32_w]
                        rfl
                      refine pure_ (i := 4) (N := some 47) (v := ?_) (a' := ?_) #[true, true, true, false, true, false, false, false, false, false, false, false, false, false, false, false, false, false, false, false, false, false, false, false, false, false, false, false, false, false, false, false] rfl rfl (any_of HT_.out (by kernel_rfl)) (fun _ _ _ h => h) (Or.inl ⟨by rfl, ?_⟩) ?_ ?_
                      rotate_left
                      · intro w'
                        go_simp
                        with_reducible rfl
                      rotate_left
                      · simp only [Act.put, List.setIfInBounds_toArray, List.set_cons_zero, List.set_cons_succ, i64_w, i32_w]
                        rfl
                      refine pure_ (i := 5) (N := some 48) (v := ?_) (a' := ?_) #[true, true, true, false, true, true, false, false, false, false, false, false, false, false, false, false, false, false, false, false, false, false, false, false, false, false, false, false, false, false, false, false] rfl rfl (any_of HT_.out (by kernel_rfl)) (fun _ _ _ h => h) (Or.inl ⟨by rfl, ?_⟩) ?_ ?_
                      rotate_left
                      · intro w'
                        go_simp
                        with_reducible rfl
                      rotate_left
                      · simp only [Act.put, List.setIfInBounds_toArray, List.set_cons_zero, List.set_cons_succ, i64_w, i32_w]
                        rfl
                      refine pure_ (i := 7) (N := some 50) (v := ?_) (a' := ?_) #[true, true, true, false, true, true, false, true, false, false, false, false, false, false, false, false, false, false, false, false, false, false, false, false, false, false, false, false, false, false, false, false] rfl rfl (any_of HT_.out (by kernel_rfl)) (fun _ _ _ h => h) (Or.inl ⟨by rfl, ?_⟩) ?_ ?_
                      rotate_left
                      · intro w'
                        go_simp
                        with_reducible rfl
                      rotate_left
                      · simp only [Act.put, List.setIfInBounds_toArray, List.set_cons_zero, List.set_cons_succ, i64_w, i32_w]
                        rfl
                      refine take_ (i := 3) (N := some 46) (v := ?_) (a' := ?_) #[true, true, true, true, true, true, false, true, false, false, false, false, false, false, false, false, false, false, false, false, false, false, false, false, false, false, false, false, false, false, false, false] rfl rfl (take_ofW HT_.out HW_.out (by kernel_rfl)) (fun _ _ _ h => h) (Or.inl ⟨by rfl, ?_⟩) hHeld ?_ ?_
                      rotate_left
                      · rintro w' ⟨s0, s1⟩
                        go_simp
                        with_reducible rfl
                      rotate_left
                      · simp only [Act.put, List.setIfInBounds_toArray, List.set_cons_zero, List.set_cons_succ, i64_w, i32_w]
                        rfl
                      refine one_ (i := 6) (N := some 49) #[true, true, true, true, true, true, true, true, false, false, false, false, false, false, false, false, false, false, false, false, false, false, false, false, false, false, false, false, false, false, false, false] rfl rfl (one_of HT_.out (by kernel_rfl)) (by decide) (fun K hK => ?_)
                      refine goes_ Try.func19 (by kernel_rfl) rfl #[.agg #[.slice Ao11 t269.length co11, .slice Ao13 t272.length co13], .int .i64 (Int.tmod (rd t276 0) 500), .int .i64 (wrap64 ((Int.tmod (rd t276 0) 500) + (Int.tmod (rd t276 1) 200)))] (by rfl) rfl rfl (by (try simp only [List.map_toArray, List.map_cons, List.map_nil]); first | done | rfl | (simp only [List.length_drop, List.length_take]; rfl)) ?_
                      with_reducible refine (impl_OpenHours.calls k1 _ _ t269 _ _ t272 (Int.tmod (rd t276 0) 500) (wrap64 ((Int.tmod (rd t276 0) 500) + (Int.tmod (rd t276 1) 200))) t284 _ ?side1 ?side2 ?side3 ?side4 A25.out).mono ?_
                      (case side1 => repeat (first | exact (Kd.R_reads' HO_276000.out).2.2 | (with_reducible refine Kd.C_alloc ?_ _) | (with_reducible refine Kd.C_drewN ?_ _) | (with_reducible refine Kd.C_drew ?_)))
                      (case side2 => exact (Kd.R_reads' HO_276000.out).2.1)
                      (case side3 => repeat (first | exact (Kd.R_reads' HO_276001.out).2.2 | (with_reducible refine Kd.C_alloc ?_ _) | (with_reducible refine Kd.C_drewN ?_ _) | (with_reducible refine Kd.C_drew ?_)))
                      (case side4 => exact (Kd.R_reads' HO_276001.out).2.1)
                      rintro e w33 ⟨rfl, hb⟩
                      refine ⟨_, rfl, ?_⟩
                      have n0_ := Aside0.mk (Kd.R_below (by (with_reducible repeat (first | apply Kd.R_alloc | apply Kd.R_drewN | apply Kd.R_drew)); exact HO_276000.out) hb)
                      have n1_ := Aside0.mk (Kd.R_below (by (with_reducible repeat (first | apply Kd.R_alloc | apply Kd.R_drewN | apply Kd.R_drew)); exact HO_276001.out) hb)
                      have n2_ := Aside0.mk (blk_below (g := gb275) (o := .cells #[.slice Ao11 t269.length co11, .slice Ao13 t272.length co13] 29 (0, 0)) (by (with_reducible repeat (first | refine blk_drewN ?_ _ | refine blk_drew ?_ | refine blk_alloc ?_ _)); exact BK275.out) hb)
                      have n3_ := Aside0.mk (below_step (by repeat (first | (with_reducible first | exact HB.out | apply below_alloc | apply pw_below_drewN | apply below_drew1 | refine below_set ?_ GE275.out) | exact HB.out)) hb)
                      clear HO_276000
                      clear HO_276001
                      clear BK275
                      clear HB
                      have HO_276000 := n0_
                      have HO_276001 := n1_
                      have BK275 := n2_
                      have HB := n3_
                      clear n0_ n1_ n2_ n3_
                      (try clear hb)
                      (try clear hb2)
                      (try clear hk)
                      (try clear hi)
                      refine hK.out _ _ ⟨(blk_cell BK275.out 0).trans rfl, (blk_cell BK275.out 1).trans rfl⟩ (fun hHeld => ?_)
                      clear hK K
                      refine norm_ (a' := ?_) ?_ ?_
                      rotate_left
                      · show Act.put _ (some 49) _ = _
                        simp only [Act.put, List.setIfInBounds_toArray, List.set_cons_zero, List.set_cons_succ, i64_w, i32_w]
                        rfl
                      refine pure_ (i := 8) (N := some 51) (v := ?_) (a' := ?_) #[true, true, true, true, true, true, true, true, true, false, false, false, false, false, false, false, false, false, false, false, false, false, false, false, false, false, false, false, false, false, false, false] rfl rfl (any_of HT_.out (by kernel_rfl)) (fun _ _ _ h => h) (Or.inl ⟨by rfl, ?_⟩) ?_ ?_
                      rotate_left
                      · intro w'
                        go_simp
                        with_reducible rfl
                      rotate_left
                      · simp only [Act.put, List.setIfInBounds_toArray, List.set_cons_zero, List.set_cons_succ, i64_w, i32_w]
                        rfl
                      refine pure_ (i := 9) (N := some 52) (v := ?_) (a' := ?_) #[true, true, true, true, true, true, true, true, true, true, false, false, false, false, false, false, false, false, false, false, false, false, false, false, false, false, false, false, false, false, false, false] rfl rfl (any_of HT_.out (by kernel_rfl)) (fun _ _ _ h => h) (Or.inl ⟨by rfl, ?_⟩) ?_ ?_
                      rotate_left
                      · intro w'
                        go_simp
                        with_reducible rfl
                      rotate_left
                      · simp only [Act.put, List.setIfInBounds_toArray, List.set_cons_zero, List.set_cons_succ, i64_w, i32_w]
                        rfl
                      refine pure_ (i := 10) (N := some 53) (v := ?_) (a' := ?_) #[true, true, true, true, true, true, true, true, true, true, true, false, false, false, false, false, false, false, false, false, false, false, false, false, false, false, false, false, false, false, false, false] rfl rfl (any_of HT_.out (by kernel_rfl)) (fun _ _ _ h => h) (Or.inl ⟨by rfl, ?_⟩) ?_ ?_
                      rotate_left
                      · intro w'
                        go_simp
                        with_reducible rfl
                      rotate_left
                      · simp only [Act.put, List.setIfInBounds_toArray, List.set_cons_zero, List.set_cons_succ, i64_w, i32_w]
                        rfl
                      refine pure_ (i := 12) (N := some 55) (v := ?_) (a' := ?_) #[true, true, true, true, true, true, true, true, true, true, true, false, true, false, false, false, false, false, false, false, false, false, false, false, false, false, false, false, false, false, false, false] rfl rfl (any_of HT_.out (by kernel_rfl)) (fun _ _ _ h => h) (Or.inl ⟨by rfl, ?_⟩) ?_ ?_
                      rotate_left
                      · intro w'
                        go_simp
                        with_reducible rfl
                      rotate_left
                      · simp only [Act.put, List.setIfInBounds_toArray, List.set_cons_zero, List.set_cons_succ, i64_w, i32_w]
                        rfl
                      refine pure_ (i := 13) (N := some 56) (v := ?_) (a' := ?_) #[true, true, true, true, true, true, true, true, true, true, true, false, true, true, false, false, false, false, false, false, false, false, false, false, false, false, false, false, false, false, false, false] rfl rfl (any_of HT_.out (by kernel_rfl)) (fun _ _ _ h => h) (Or.inl ⟨by rfl, ?_⟩) ?_ ?_
                      rotate_left
                      · intro w'
                        go_simp
                        with_reducible rfl
                      rotate_left
                      · simp only [Act.put, List.setIfInBounds_toArray, List.set_cons_zero, List.set_cons_succ, i64_w, i32_w]
                        rfl
                      refine pure_ (i := 15) (N := some 58) (v := ?_) (a' := ?_) #[true, true, true, true, true, true, true, true, true, true, true, false, true, true, false, true, false, false, false, false, false, false, false, false, false, false, false, false, false, false, false, false] rfl rfl (any_of HT_.out (by kernel_rfl)) (fun _ _ _ h => h) (Or.inl ⟨by rfl, ?_⟩) ?_ ?_
                      rotate_left
                      · intro w'
                        go_simp
                        with_reducible rfl
                      rotate_left
                      · simp only [Act.put, List.setIfInBounds_toArray, List.set_cons_zero, List.set_cons_succ, i64_w, i32_w]
                        rfl
                      refine pure_ (i := 17) (N := some 60) (v := ?_) (a' := ?_) #[true, true, true, true, true, true, true, true, true, true, true, false, true, true, false, true, false, true, false, false, false, false, false, false, false, false, false, false, false, false, false, false] rfl rfl (any_of HT_.out (by kernel_rfl)) (fun _ _ _ h => h) (Or.inl ⟨by rfl, ?_⟩) ?_ ?_
                      rotate_left
                      · intro w'
                        go_simp
                        with_reducible rfl
                      rotate_left
                      · simp only [Act.put, List.setIfInBounds_toArray, List.set_cons_zero, List.set_cons_succ, i64_w, i32_w]
                        rfl
                      refine pure_ (i := 18) (N := some 61) (v := ?_) (a' := ?_) #[true, true, true, true, true, true, true, true, true, true, true, false, true, true, false, true, false, true, true, false, false, false, false, false, false, false, false, false, false, false, false, false] rfl rfl (any_of HT_.out (by kernel_rfl)) (fun _ _ _ h => h) (Or.inl ⟨by rfl, ?_⟩) ?_ ?_
                      rotate_left
                      · intro w'
                        go_simp
                        with_reducible rfl
                      rotate_left
                      · simp only [Act.put, List.setIfInBounds_toArray, List.set_cons_zero, List.set_cons_succ, i64_w, i32_w]
                        rfl
                      refine take_ (i := 11) (N := some 54) (v := ?_) (a' := ?_) #[true, true, true, true, true, true, true, true, true, true, true, true, true, true, false, true, false, true, true, false, false, false, false, false, false, false, false, false, false, false, false, false] rfl rfl (take_ofW HT_.out HW_.out (by kernel_rfl)) (fun _ _ _ h => h) (Or.inl ⟨by rfl, ?_⟩) hHeld ?_ ?_
                      rotate_left
                      · rintro w' ⟨s0, s1⟩
                        go_simp
                        with_reducible rfl
                      rotate_left
                      · simp only [Act.put, List.setIfInBounds_toArray, List.set_cons_zero, List.set_cons_succ, i64_w, i32_w]
                        rfl
                      refine take_ (i := 16) (N := some 59) (v := ?_) (a' := ?_) #[true, true, true, true, true, true, true, true, true, true, true, true, true, true, false, true, true, true, true, false, false, false, false, false, false, false, false, false, false, false, false, false] rfl rfl (take_ofW HT_.out HW_.out (by kernel_rfl)) (fun _ _ _ h => h) (Or.inl ⟨by rfl, ?_⟩) hHeld ?_ ?_
                      rotate_left
                      · rintro w' ⟨s0, s1⟩
                        go_simp
                        with_reducible rfl
                      rotate_left
                      · simp only [Act.put, List.setIfInBounds_toArray, List.set_cons_zero, List.set_cons_succ, i64_w, i32_w]
                        rfl
                      refine one_ (i := 14) (N := some 57) #[true, true, true, true, true, true, true, true, true, true, true, true, true, true, true, true, true, true, true, false, false, false, false, false, false, false, false, false, false, false, false, false] rfl rfl (one_of HT_.out (by kernel_rfl)) (by decide) (fun K hK => ?_)
                      refine goes_ Try.func19 (by kernel_rfl) rfl #[.agg #[.slice Ao11 t269.length co11, .slice Ao13 t272.length co13], .int .i64 (Int.tmod (rd t276 0) 500), .int .i64 (wrap64 ((wrap64 ((Int.tmod (rd t276 0) 500) + (Int.tmod (rd t276 1) 200))) + (Int.tmod (rd t276 2) 3000)))] (by rfl) rfl rfl (by (try simp only [List.map_toArray, List.map_cons, List.map_nil]); first | done | rfl | (simp only [List.length_drop, List.length_take]; rfl)) ?_
                      with_reducible refine (impl_OpenHours.calls k1 _ _ t269 _ _ t272 (Int.tmod (rd t276 0) 500) (wrap64 ((wrap64 ((Int.tmod (rd t276 0) 500) + (Int.tmod (rd t276 1) 200))) + (Int.tmod (rd t276 2) 3000))) t285 _ ?side1 ?side2 ?side3 ?side4 A27.out).mono ?_
                      (case side1 => repeat (first | exact (Kd.R_reads' HO_276000.out).2.2 | (with_reducible refine Kd.C_alloc ?_ _) | (with_reducible refine Kd.C_drewN ?_ _) | (with_reducible refine Kd.C_drew ?_)))
                      (case side2 => exact (Kd.R_reads' HO_276000.out).2.1)
                      (case side3 => repeat (first | exact (Kd.R_reads' HO_276001.out).2.2 | (with_reducible refine Kd.C_alloc ?_ _) | (with_reducible refine Kd.C_drewN ?_ _) | (with_reducible refine Kd.C_drew ?_)))
                      (case side4 => exact (Kd.R_reads' HO_276001.out).2.1)
                      rintro e w34 ⟨rfl, hb⟩
                      refine ⟨_, rfl, ?_⟩
                      have n0_ := Aside0.mk (Kd.R_below (by (with_reducible repeat (first | apply Kd.R_alloc | apply Kd.R_drewN | apply Kd.R_drew)); exact HO_276000.out) hb)
                      have n1_ := Aside0.mk (Kd.R_below (by (with_reducible repeat (first | apply Kd.R_alloc | apply Kd.R_drewN | apply Kd.R_drew)); exact HO_276001.out) hb)
                      have n2_ := Aside0.mk (blk_below (g := gb275) (o := .cells #[.slice Ao11 t269.length co11, .slice Ao13 t272.length co13] 29 (0, 0)) (by (with_reducible repeat (first | refine blk_drewN ?_ _ | refine blk_drew ?_ | refine blk_alloc ?_ _)); exact BK275.out) hb)
                      have n3_ := Aside0.mk (below_step (by repeat (first | (with_reducible first | exact HB.out | apply below_alloc | apply pw_below_drewN | apply below_drew1 | refine below_set ?_ GE275.out) | exact HB.out)) hb)
                      clear HO_276000
                      clear HO_276001
                      clear BK275
                      clear HB
                      have HO_276000 := n0_
                      have HO_276001 := n1_
                      have BK275 := n2_
                      have HB := n3_
                      clear n0_ n1_ n2_ n3_
                      (try clear hb)
                      (try clear hb2)
                      (try clear hk)
                      (try clear hi)
                      refine hK.out _ _ ⟨(blk_cell BK275.out 0).trans rfl, (blk_cell BK275.out 1).trans rfl⟩ (fun hHeld => ?_)
                      clear hK K
                      refine norm_ (a' := ?_) ?_ ?_
                      rotate_left
                      · show Act.put _ (some 57) _ = _
                        simp only [Act.put, List.setIfInBounds_toArray, List.set_cons_zero, List.set_cons_succ, i64_w, i32_w]
                        rfl
                      refine one_ (i := 19) (N := some 62) #[true, true, true, true, true, true, true, true, true, true, true, true, true, true, true, true, true, true, true, true, false, false, false, false, false, false, false, false, false, false, false, false] rfl rfl (one_of HT_.out (by kernel_rfl)) (by decide) (fun K hK => ?_)
                      refine goes_ Try.func19 (by kernel_rfl) rfl #[.agg #[.slice Ao11 t269.length co11, .slice Ao13 t272.length co13], .int .i64 (wrap64 ((Int.tmod (rd t276 0) 500) + (Int.tmod (rd t276 1) 200))), .int .i64 (wrap64 ((wrap64 ((Int.tmod (rd t276 0) 500) + (Int.tmod (rd t276 1) 200))) + (Int.tmod (rd t276 2) 3000)))] (by rfl) rfl rfl (by (try simp only [List.map_toArray, List.map_cons, List.map_nil]); first | done | rfl | (simp only [List.length_drop, List.length_take]; rfl)) ?_
                      with_reducible refine (impl_OpenHours.calls k1 _ _ t269 _ _ t272 (wrap64 ((Int.tmod (rd t276 0) 500) + (Int.tmod (rd t276 1) 200))) (wrap64 ((wrap64 ((Int.tmod (rd t276 0) 500) + (Int.tmod (rd t276 1) 200))) + (Int.tmod (rd t276 2) 3000))) t286 _ ?side1 ?side2 ?side3 ?side4 A28.out).mono ?_
                      (case side1 => repeat (first | exact (Kd.R_reads' HO_276000.out).2.2 | (with_reducible refine Kd.C_alloc ?_ _) | (with_reducible refine Kd.C_drewN ?_ _) | (with_reducible refine Kd.C_drew ?_)))
                      (case side2 => exact (Kd.R_reads' HO_276000.out).2.1)
                      (case side3 => repeat (first | exact (Kd.R_reads' HO_276001.out).2.2 | (with_reducible refine Kd.C_alloc ?_ _) | (with_reducible refine Kd.C_drewN ?_ _) | (with_reducible refine Kd.C_drew ?_)))
                      (case side4 => exact (Kd.R_reads' HO_276001.out).2.1)
                      rintro e w35 ⟨rfl, hb⟩
                      refine ⟨_, rfl, ?_⟩
                      have n0_ := Aside0.mk (Kd.R_below (by (with_reducible repeat (first | apply Kd.R_alloc | apply Kd.R_drewN | apply Kd.R_drew)); exact HO_276000.out) hb)
                      have n1_ := Aside0.mk (Kd.R_below (by (with_reducible repeat (first | apply Kd.R_alloc | apply Kd.R_drewN | apply Kd.R_drew)); exact HO_276001.out) hb)
                      have n2_ := Aside0.mk (blk_below (g := gb275) (o := .cells #[.slice Ao11 t269.length co11, .slice Ao13 t272.length co13] 29 (0, 0)) (by (with_reducible repeat (first | refine blk_drewN ?_ _ | refine blk_drew ?_ | refine blk_alloc ?_ _)); exact BK275.out) hb)
                      have n3_ := Aside0.mk (below_step (by repeat (first | (with_reducible first | exact HB.out | apply below_alloc | apply pw_below_drewN | apply below_drew1 | refine below_set ?_ GE275.out) | exact HB.out)) hb)
                      clear HO_276000
                      clear HO_276001
                      clear BK275
                      clear HB
                      have HO_276000 := n0_
                      have HO_276001 := n1_
                      have BK275 := n2_
                      have HB := n3_
                      clear n0_ n1_ n2_ n3_
                      (try clear hb)
                      (try clear hb2)
                      (try clear hk)
                      (try clear hi)
                      refine hK.out _ _ ⟨(blk_cell BK275.out 0).trans rfl, (blk_cell BK275.out 1).trans rfl⟩ (fun hHeld => ?_)
                      clear hK K
                      refine norm_ (a' := ?_) ?_ ?_
                      rotate_left
                      · show Act.put _ (some 62) _ = _
                        simp only [Act.put, List.setIfInBounds_toArray, List.set_cons_zero, List.set_cons_succ, i64_w, i32_w]
                        rfl
                      refine pure_ (i := 20) (N := some 63) (v := ?_) (a' := ?_) #[true, true, true, true, true, true, true, true, true, true, true, true, true, true, true, true, true, true, true, true, true, false, false, false, false, false, false, false, false, false, false, false] rfl rfl (any_of HT_.out (by kernel_rfl)) (fun _ _ _ h => h) (Or.inl ⟨by rfl, ?_⟩) ?_ ?_
                      rotate_left
                      · intro w'
                        go_simp
                        with_reducible rfl
                      rotate_left
                      · simp only [Act.put, List.setIfInBounds_toArray, List.set_cons_zero, List.set_cons_succ, i64_w, i32_w]
                        rfl
                      refine pure_ (i := 21) (N := some 64) (v := ?_) (a' := ?_) #[true, true, true, true, true, true, true, true, true, true, true, true, true, true, true, true, true, true, true, true, true, true, false, false, false, false, false, false, false, false, false, false] rfl rfl (any_of HT_.out (by kernel_rfl)) (fun _ _ _ h => h) (Or.inl ⟨by rfl, ?_⟩) ?_ ?_
                      rotate_left
                      · intro w'
                        go_simp
                        with_reducible rfl
                      rotate_left
                      · simp only [Act.put, List.setIfInBounds_toArray, List.set_cons_zero, List.set_cons_succ, i64_w, i32_w]
                        rfl
                      refine pure_ (i := 22) (N := some 65) (v := ?_) (a' := ?_) #[true, true, true, true, true, true, true, true, true, true, true, true, true, true, true, true, true, true, true, true, true, true, true, false, false, false, false, false, false, false, false, false] rfl rfl (any_of HT_.out (by kernel_rfl)) (fun _ _ _ h => h) (Or.inl ⟨by rfl, ?_⟩) ?_ ?_
                      rotate_left
                      · intro w'
                        go_simp
                        with_reducible rfl
                      rotate_left
                      · simp only [Act.put, List.setIfInBounds_toArray, List.set_cons_zero, List.set_cons_succ, i64_w, i32_w]
                        rfl
                      refine pure_ (i := 23) (N := some 66) (v := ?_) (a' := ?_) #[true, true, true, true, true, true, true, true, true, true, true, true, true, true, true, true, true, true, true, true, true, true, true, true, false, false, false, false, false, false, false, false] rfl rfl (any_of HT_.out (by kernel_rfl)) (fun _ _ _ h => h) (Or.inl ⟨by rfl, ?_⟩) ?_ ?_
                      rotate_left
                      · intro w'
                        go_simp
                        with_reducible rfl
                      rotate_left
                      · simp only [Act.put, List.setIfInBounds_toArray, List.set_cons_zero, List.set_cons_succ, i64_w, i32_w]
                        rfl
                      refine pure_ (i := 25) (N := some 68) (v := ?_) (a' := ?_) #[true, true, true, true, true, true, true, true, true, true, true, true, true, true, true, true, true, true, true, true, true, true, true, true, false, true, false, false, false, false, false, false] rfl rfl (any_of HT_.out (by kernel_rfl)) (fun _ _ _ h => h) (Or.inl ⟨by rfl, ?_⟩) ?_ ?_
                      rotate_left
                      · intro w'
                        go_simp
                        with_reducible rfl
                      rotate_left
                      · simp only [Act.put, List.setIfInBounds_toArray, List.set_cons_zero, List.set_cons_succ, i64_w, i32_w]
                        rfl
                      refine pure_ (i := 26) (N := some 69) (v := ?_) (a' := ?_) #[true, true, true, true, true, true, true, true, true, true, true, true, true, true, true, true, true, true, true, true, true, true, true, true, false, true, true, false, false, false, false, false] rfl rfl (any_of HT_.out (by kernel_rfl)) (fun _ _ _ h => h) (Or.inl ⟨by rfl, ?_⟩) ?_ ?_
                      rotate_left
                      · intro w'
                        go_simp
                        with_reducible rfl
                      rotate_left
                      · simp only [Act.put, List.setIfInBounds_toArray, List.set_cons_zero, List.set_cons_succ, i64_w, i32_w]
                        rfl
                      refine pure_ (i := 27) (N := some 70) (v := ?_) (a' := ?_) #[true, true, true, true, true, true, true, true, true, true, true, true, true, true, true, true, true, true, true, true, true, true, true, true, false, true, true, true, false, false, false, false] rfl rfl (any_of HT_.out (by kernel_rfl)) (fun _ _ _ h => h) (Or.inl ⟨by rfl, ?_⟩) ?_ ?_
                      rotate_left
                      · intro w'
                        go_simp
                        with_reducible rfl
                      rotate_left
                      · simp only [Act.put, List.setIfInBounds_toArray, List.set_cons_zero, List.set_cons_succ, i64_w, i32_w]
                        rfl
                      refine take_ (i := 24) (N := some 67) (v := ?_) (a' := ?_) #[true, true, true, true, true, true, true, true, true, true, true, true, true, true, true, true, true, true, true, true, true, true, true, true, true, true, true, true, false, false, false, false] rfl rfl (take_ofW HT_.out HW_.out (by kernel_rfl)) (fun _ _ _ h => h) (Or.inl ⟨by rfl, ?_⟩) hHeld ?_ ?_
                      rotate_left
                      · rintro w' ⟨s0, s1⟩
                        go_simp
                        with_reducible rfl
                      rotate_left
                      · simp only [Act.put, List.setIfInBounds_toArray, List.set_cons_zero, List.set_cons_succ, i64_w, i32_w]
                        rfl
                      refine one_ (i := 28) (N := some 71) #[true, true, true, true, true, true, true, true, true, true, true, true, true, true, true, true, true, true, true, true, true, true, true, true, true, true, true, true, true, false, false, false] rfl rfl (one_of HT_.out (by kernel_rfl)) (by decide) (fun K hK => ?_)
                      refine goes_ Try.func19 (by kernel_rfl) rfl #[.agg #[.slice Ao11 t269.length co11, .slice Ao13 t272.length co13], .int .i64 (wrap64 ((Int.tmod (rd t276 0) 500) + (Int.tmod (rd t276 1) 200))), .int .i64 (wrap64 ((Int.tmod (rd t276 0) 500) - 1))] (by rfl) rfl rfl (by (try simp only [List.map_toArray, List.map_cons, List.map_nil]); first | done | rfl | (simp only [List.length_drop, List.length_take]; rfl)) ?_
                      with_reducible refine (impl_OpenHours.calls k1 _ _ t269 _ _ t272 (wrap64 ((Int.tmod (rd t276 0) 500) + (Int.tmod (rd t276 1) 200))) (wrap64 ((Int.tmod (rd t276 0) 500) - 1)) t287 _ ?side1 ?side2 ?side3 ?side4 A30.out).mono ?_
                      (case side1 => repeat (first | exact (Kd.R_reads' HO_276000.out).2.2 | (with_reducible refine Kd.C_alloc ?_ _) | (with_reducible refine Kd.C_drewN ?_ _) | (with_reducible refine Kd.C_drew ?_)))
                      (case side2 => exact (Kd.R_reads' HO_276000.out).2.1)
                      (case side3 => repeat (first | exact (Kd.R_reads' HO_276001.out).2.2 | (with_reducible refine Kd.C_alloc ?_ _) | (with_reducible refine Kd.C_drewN ?_ _) | (with_reducible refine Kd.C_drew ?_)))
                      (case side4 => exact (Kd.R_reads' HO_276001.out).2.1)
                      rintro e w36 ⟨rfl, hb⟩
                      refine ⟨_, rfl, ?_⟩
                      have n0_ := Aside0.mk (Kd.R_below (by (with_reducible repeat (first | apply Kd.R_alloc | apply Kd.R_drewN | apply Kd.R_drew)); exact HO_276000.out) hb)
                      have n1_ := Aside0.mk (Kd.R_below (by (with_reducible repeat (first | apply Kd.R_alloc | apply Kd.R_drewN | apply Kd.R_drew)); exact HO_276001.out) hb)
                      have n2_ := Aside0.mk (blk_below (g := gb275) (o := .cells #[.slice Ao11 t269.length co11, .slice Ao13 t272.length co13] 29 (0, 0)) (by (with_reducible repeat (first | refine blk_drewN ?_ _ | refine blk_drew ?_ | refine blk_alloc ?_ _)); exact BK275.out) hb)
                      have n3_ := Aside0.mk (below_step (by repeat (first | (with_reducible first | exact HB.out | apply below_alloc | apply pw_below_drewN | apply below_drew1 | refine below_set ?_ GE275.out) | exact HB.out)) hb)
                      clear HO_276000
                      clear HO_276001
                      clear BK275
                      clear HB
                      have HO_276000 := n0_
                      have HO_276001 := n1_
                      have BK275 := n2_
                      have HB := n3_
                      clear n0_ n1_ n2_ n3_
                      (try clear hb)
                      (try clear hb2)
                      (try clear hk)
                      (try clear hi)
                      refine hK.out _ _ ⟨(blk_cell BK275.out 0).trans rfl, (blk_cell BK275.out 1).trans rfl⟩ (fun hHeld => ?_)
                      clear hK K
                      refine norm_ (a' := ?_) ?_ ?_
                      rotate_left
                      · show Act.put _ (some 71) _ = _
                        simp only [Act.put, List.setIfInBounds_toArray, List.set_cons_zero, List.set_cons_succ, i64_w, i32_w]
                        rfl
                      refine pure_ (i := 29) (N := some 72) (v := ?_) (a' := ?_) #[true, true, true, true, true, true, true, true, true, true, true, true, true, true, true, true, true, true, true, true, true, true, true, true, true, true, true, true, true, true, false, false] rfl rfl (any_of HT_.out (by kernel_rfl)) (fun _ _ _ h => h) (Or.inl ⟨by rfl, ?_⟩) ?_ ?_
                      rotate_left
                      · intro w'
                        go_simp
                        with_reducible rfl
                      rotate_left
                      · simp only [Act.put, List.setIfInBounds_toArray, List.set_cons_zero, List.set_cons_succ, i64_w, i32_w]
                        rfl
                      refine pure_ (i := 30) (N := some 73) (v := ?_) (a' := ?_) #[true, true, true, true, true, true, true, true, true, true, true, true, true, true, true, true, true, true, true, true, true, true, true, true, true, true, true, true, true, true, true, false] rfl rfl (any_of HT_.out (by kernel_rfl)) (fun _ _ _ h => h) (Or.inl ⟨by rfl, ?_⟩) ?_ ?_
                      rotate_left
                      · intro w'
                        go_simp
                        with_reducible rfl
                      rotate_left
                      · simp only [Act.put, List.setIfInBounds_toArray, List.set_cons_zero, List.set_cons_succ, i64_w, i32_w]
                        rfl
                      refine pure_ (i := 31) (N := some 2) (v := ?_) (a' := ?_) #[true, true, true, true, true, true, true, true, true, true, true, true, true, true, true, true, true, true, true, true, true, true, true, true, true, true, true, true, true, true, true, true] rfl rfl (any_of HT_.out (by kernel_rfl)) (fun _ _ _ h => h) (Or.inl ⟨by rfl, ?_⟩) ?_ ?_
                      rotate_left
                      · intro w'
                        go_simp
                        with_reducible rfl
                      rotate_left
                      · simp only [Act.put, List.setIfInBounds_toArray, List.set_cons_zero, List.set_cons_succ, i64_w, i32_w]
                        rfl
                      refine done_ (done_of HT_.out (by kernel_rfl)) ?_
                      try go_wp2
                      go_ret
                      exact ⟨by first | rfl | (simp [errW_none, errW_some] <;> rfl) | (simp [*, errW_none, errW_some] <;> rfl), by repeat (first | (with_reducible first | exact HB.out | apply below_alloc | apply pw_below_drewN | apply below_drew1 | refine below_set ?_ GE275.out) | exact HB.out)⟩
                    · rw [if_neg c29] at H
                      have c29b0 : (t285 == (wrap64 (x8_1 + t286))) = false := beq_eq_false_iff_ne.mpr c29
                      have c29b1 : (t285 != (wrap64 (x8_1 + t286))) = true := bne_iff_ne.mpr c29
                      exact absurd (Option.some.inj H) (by rw [hr_.out]; decide)
                  · rw [if_neg c26] at H
                    have c26b0 : (t284 == x8_1) = false := beq_eq_false_iff_ne.mpr c26
                    have c26b1 : (t284 != x8_1) = true := bne_iff_ne.mpr c26
                    exact absurd (Option.some.inj H) (by rw [hr_.out]; decide)
                · replace c24 := Bool.eq_false_iff.mpr c24
                  subst c24
                  have H1 : (some false) = some r := by rw [if_neg (show ¬ (false = true) by decide)] at H; exact H
                  clear H
                  have H := H1
                  clear H1
                  exact absurd (Option.some.inj H) (by rw [hr_.out]; decide)
        · rw [if_neg c8] at H
          exact absurd H (by simp)
      · rw [if_neg c7] at H
        exact absurd H (by simp)
    · rw [if_neg c6] at H
      exact absurd H (by simp)

end Go.Proofs.Ytpcgefkjeicmlaa.A
