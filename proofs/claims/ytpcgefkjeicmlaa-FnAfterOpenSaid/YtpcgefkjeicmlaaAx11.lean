-- Written by a program of this claim's session over the kit's printer: Lean functions and contracts of the Go functions, one namespace for the whole seat.
import Derived.Test.YtpcgefkjeicmlaaAx0
import Derived.Test.YtpcgefkjeicmlaaAx4
import Derived.Test.YtpcgefkjeicmlaaAx6
import Derived.Test.YtpcgefkjeicmlaaAx7
import Derived.Test.YtpcgefkjeicmlaaAx10
namespace Go.Proofs.Ytpcgefkjeicmlaa.A
open Go.RowKit Go.Proofs.YtpcgefkjeicmlaaW.PrintWords Go.Proofs.YtpcgefkjeicmlaaW.PrintLast Go.Proofs.YtpcgefkjeicmlaaW.PrintMore
attribute [local go_sem] max2_int min2_int max_two min_two max_three min_three max_four min_four   -- for this text's walks alone
set_option linter.unusedVariables false
set_option linter.unusedSimpArgs false

/-! ### laws_FnAfterOpen: function 6 -/
def laws_FnAfterOpen.j0 : Nat → Int → Int → Int → Bool → Int → Bool → List (S55) → List (S55) → Option (Bool)
  | 0, _, _, _, _, _, _, _, _ => none
  | k + 1, x5, x6, x7, x8, x9, x71, x337000, x337001 => if x71 = true then (some false) else (if x8 = true then (if x7 ≥ x5 then (if x7 ≤ x9 then ((impl_OpenHours.f k x337000 x337001 x5 x7).bind fun t348 => (if t348 = x6 then (if x6 = 0 then (if x7 = x5 then (some true) else (if x6 > 0 then ((impl_IsOpen.f k x337000 x337001 (wrap64 (x7 - 1))).bind fun t349 => (some t349)) else (some false))) else (if x6 > 0 then ((impl_IsOpen.f k x337000 x337001 (wrap64 (x7 - 1))).bind fun t350 => (some t350)) else (some false))) else (some false))) else (some false)) else (some false)) else ((impl_OpenHours.f k x337000 x337001 x5 20000).bind fun t351 => (some (decide (t351 < x6)))))
def laws_FnAfterOpen.f (k : Nat) (l0 : List Int) : Option (Bool) := (laws_big.f l0).bind fun t329 => (if t329 = true then (some true) else ((spec_DrawWeek.f k l0).bind fun bt330 => ((spec_DrawPlaces.f k l0).bind fun t337 => (if 0 < (t337.length : Int) then (if 1 < (t337.length : Int) then ((impl_AfterOpen.f k bt330.1 bt330.2 (Int.tmod (rd t337 0) 500) (Int.tmod (rd t337 1) 60)).bind fun bt342 => ((impl_BeforeOpen.f k bt330.1 bt330.2 (Int.tmod (rd t337 0) 500) (Int.tmod (rd t337 1) 60)).bind fun bt344 => (if bt344.2 = true then (if bt344.1 < (Int.tmod (rd t337 0) 500) then (laws_FnAfterOpen.j0 k (Int.tmod (rd t337 0) 500) (Int.tmod (rd t337 1) 60) bt342.1 bt342.2 bt344.1 true bt330.1 bt330.2) else (if bt344.1 > 20000 then (laws_FnAfterOpen.j0 k (Int.tmod (rd t337 0) 500) (Int.tmod (rd t337 1) 60) bt342.1 bt342.2 bt344.1 true bt330.1 bt330.2) else ((impl_OpenHours.f k bt330.1 bt330.2 (Int.tmod (rd t337 0) 500) bt344.1).bind fun t346 => (if t346 > (Int.tmod (rd t337 1) 60) then (laws_FnAfterOpen.j0 k (Int.tmod (rd t337 0) 500) (Int.tmod (rd t337 1) 60) bt342.1 bt342.2 bt344.1 true bt330.1 bt330.2) else (if bt344.1 < 20000 then ((impl_OpenHours.f k bt330.1 bt330.2 (Int.tmod (rd t337 0) 500) (wrap64 (bt344.1 + 1))).bind fun t347 => (laws_FnAfterOpen.j0 k (Int.tmod (rd t337 0) 500) (Int.tmod (rd t337 1) 60) bt342.1 bt342.2 bt344.1 (t347 != (wrap64 ((Int.tmod (rd t337 1) 60) + 1))) bt330.1 bt330.2)) else (laws_FnAfterOpen.j0 k (Int.tmod (rd t337 0) 500) (Int.tmod (rd t337 1) 60) bt342.1 bt342.2 bt344.1 false bt330.1 bt330.2)))))) else (laws_FnAfterOpen.j0 k (Int.tmod (rd t337 0) 500) (Int.tmod (rd t337 1) 60) bt342.1 bt342.2 bt344.1 true bt330.1 bt330.2)))) else (none)) else (none)))))
theorem laws_FnAfterOpen.mono_l : ∀ k, (∀ y0 y1 y2 y3 y4 y5 y6 y7, LeO (laws_FnAfterOpen.j0 k y0 y1 y2 y3 y4 y5 y6 y7) (laws_FnAfterOpen.j0 (k + 1) y0 y1 y2 y3 y4 y5 y6 y7))
  | 0 => fun _ _ _ _ _ _ _ _ r h => by simp [laws_FnAfterOpen.j0] at h
  | k + 1 => by
    have ih0 := laws_FnAfterOpen.mono_l k
    · intro y0 y1 y2 y3 y4 y5 y6 y7
      unfold laws_FnAfterOpen.j0
      repeat' first
      | (with_reducible exact ih0 _ _ _ _ _ _ _ _)
      | (with_reducible exact impl_AfterOpen.mono _ _ _ _ _)
      | (with_reducible exact impl_BeforeOpen.mono _ _ _ _ _)
      | (with_reducible exact impl_IsOpen.mono _ _ _ _)
      | (with_reducible exact impl_OpenHours.mono _ _ _ _ _)
      | (with_reducible exact spec_DrawPlaces.mono _ _)
      | (with_reducible exact spec_DrawWeek.mono _ _)
      | (with_reducible exact LeO.refl _)
      | (with_reducible exact LeO.none _)
      | (with_reducible refine LeO.ite ?_ ?_)
      | (with_reducible refine LeO.bind ?_ (fun _ => ?_))
      | exact ih0 _ _ _ _ _ _ _ _
      | exact impl_AfterOpen.mono _ _ _ _ _
      | exact impl_BeforeOpen.mono _ _ _ _ _
      | exact impl_IsOpen.mono _ _ _ _
      | exact impl_OpenHours.mono _ _ _ _ _
      | exact spec_DrawPlaces.mono _ _
      | exact spec_DrawWeek.mono _ _
      | exact LeO.none _
      | refine LeO.ite ?_ ?_
      | refine LeO.bind ?_ (fun _ => ?_)
theorem laws_FnAfterOpen.mono : ∀ a0 k, LeO (laws_FnAfterOpen.f k a0) (laws_FnAfterOpen.f (k + 1) a0) := by
  intro a0 k
  have ih0 := laws_FnAfterOpen.mono_l k
  unfold laws_FnAfterOpen.f
  repeat' first
      | (with_reducible exact ih0 _ _ _ _ _ _ _ _)
      | (with_reducible exact impl_AfterOpen.mono _ _ _ _ _)
      | (with_reducible exact impl_BeforeOpen.mono _ _ _ _ _)
      | (with_reducible exact impl_IsOpen.mono _ _ _ _)
      | (with_reducible exact impl_OpenHours.mono _ _ _ _ _)
      | (with_reducible exact spec_DrawPlaces.mono _ _)
      | (with_reducible exact spec_DrawWeek.mono _ _)
      | (with_reducible exact LeO.refl _)
      | (with_reducible exact LeO.none _)
      | (with_reducible refine LeO.ite ?_ ?_)
      | (with_reducible refine LeO.bind ?_ (fun _ => ?_))
      | exact ih0 _ _ _ _ _ _ _ _
      | exact impl_AfterOpen.mono _ _ _ _ _
      | exact impl_BeforeOpen.mono _ _ _ _ _
      | exact impl_IsOpen.mono _ _ _ _
      | exact impl_OpenHours.mono _ _ _ _ _
      | exact spec_DrawPlaces.mono _ _
      | exact spec_DrawWeek.mono _ _
      | exact LeO.none _
      | refine LeO.ite ?_ ?_
      | refine LeO.bind ?_ (fun _ => ?_)
set_option maxHeartbeats 8000000 in
set_option maxRecDepth 100000 in
theorem laws_FnAfterOpen.calls (k : Nat) (A0 : Option Addr) (c0 : Nat) (l0 : List Int) (r : Bool) (w : World) (hr0 : Kd.C (Kd.int .u8) w A0 l0.length l0) (hc0 : l0.length ≤ c0) (hr_ : Aside0 (r = true)) (h : laws_FnAfterOpen.f k l0 = some r) :
    Calls Try.prog 6 #[.slice A0 l0.length c0] w fun e w' => e = .returned (.bool r) ∧ Below w.heap.size w w' := by
  have hu29 := Try.underlying29
  have HR0 := Aside0.mk hr0
  have HC0 := Aside0.mk hc0
  clear hr0 hc0
  have HB := Aside0.mk (Below.refl w.heap.size w)
  have H : ((laws_big.f l0).bind fun t329 => (if t329 = true then (some true) else ((spec_DrawWeek.f k l0).bind fun bt330 => ((spec_DrawPlaces.f k l0).bind fun t337 => (if 0 < (t337.length : Int) then (if 1 < (t337.length : Int) then ((impl_AfterOpen.f k bt330.1 bt330.2 (Int.tmod (rd t337 0) 500) (Int.tmod (rd t337 1) 60)).bind fun bt342 => ((impl_BeforeOpen.f k bt330.1 bt330.2 (Int.tmod (rd t337 0) 500) (Int.tmod (rd t337 1) 60)).bind fun bt344 => (if bt344.2 = true then (if bt344.1 < (Int.tmod (rd t337 0) 500) then (laws_FnAfterOpen.j0 k (Int.tmod (rd t337 0) 500) (Int.tmod (rd t337 1) 60) bt342.1 bt342.2 bt344.1 true bt330.1 bt330.2) else (if bt344.1 > 20000 then (laws_FnAfterOpen.j0 k (Int.tmod (rd t337 0) 500) (Int.tmod (rd t337 1) 60) bt342.1 bt342.2 bt344.1 true bt330.1 bt330.2) else ((impl_OpenHours.f k bt330.1 bt330.2 (Int.tmod (rd t337 0) 500) bt344.1).bind fun t346 => (if t346 > (Int.tmod (rd t337 1) 60) then (laws_FnAfterOpen.j0 k (Int.tmod (rd t337 0) 500) (Int.tmod (rd t337 1) 60) bt342.1 bt342.2 bt344.1 true bt330.1 bt330.2) else (if bt344.1 < 20000 then ((impl_OpenHours.f k bt330.1 bt330.2 (Int.tmod (rd t337 0) 500) (wrap64 (bt344.1 + 1))).bind fun t347 => (laws_FnAfterOpen.j0 k (Int.tmod (rd t337 0) 500) (Int.tmod (rd t337 1) 60) bt342.1 bt342.2 bt344.1 (t347 != (wrap64 ((Int.tmod (rd t337 1) 60) + 1))) bt330.1 bt330.2)) else (laws_FnAfterOpen.j0 k (Int.tmod (rd t337 0) 500) (Int.tmod (rd t337 1) 60) bt342.1 bt342.2 bt344.1 false bt330.1 bt330.2)))))) else (laws_FnAfterOpen.j0 k (Int.tmod (rd t337 0) 500) (Int.tmod (rd t337 1) 60) bt342.1 bt342.2 bt344.1 true bt330.1 bt330.2)))) else (none)) else (none)))))) = some r := h
  clear h
  replace H := Option.bind_eq_some_iff.mp H
  obtain ⟨t329, A20, H⟩ := H
  replace H : (if t329 = true then (some true) else ((spec_DrawWeek.f k l0).bind fun bt330 => ((spec_DrawPlaces.f k l0).bind fun t337 => (if 0 < (t337.length : Int) then (if 1 < (t337.length : Int) then ((impl_AfterOpen.f k bt330.1 bt330.2 (Int.tmod (rd t337 0) 500) (Int.tmod (rd t337 1) 60)).bind fun bt342 => ((impl_BeforeOpen.f k bt330.1 bt330.2 (Int.tmod (rd t337 0) 500) (Int.tmod (rd t337 1) 60)).bind fun bt344 => (if bt344.2 = true then (if bt344.1 < (Int.tmod (rd t337 0) 500) then (laws_FnAfterOpen.j0 k (Int.tmod (rd t337 0) 500) (Int.tmod (rd t337 1) 60) bt342.1 bt342.2 bt344.1 true bt330.1 bt330.2) else (if bt344.1 > 20000 then (laws_FnAfterOpen.j0 k (Int.tmod (rd t337 0) 500) (Int.tmod (rd t337 1) 60) bt342.1 bt342.2 bt344.1 true bt330.1 bt330.2) else ((impl_OpenHours.f k bt330.1 bt330.2 (Int.tmod (rd t337 0) 500) bt344.1).bind fun t346 => (if t346 > (Int.tmod (rd t337 1) 60) then (laws_FnAfterOpen.j0 k (Int.tmod (rd t337 0) 500) (Int.tmod (rd t337 1) 60) bt342.1 bt342.2 bt344.1 true bt330.1 bt330.2) else (if bt344.1 < 20000 then ((impl_OpenHours.f k bt330.1 bt330.2 (Int.tmod (rd t337 0) 500) (wrap64 (bt344.1 + 1))).bind fun t347 => (laws_FnAfterOpen.j0 k (Int.tmod (rd t337 0) 500) (Int.tmod (rd t337 1) 60) bt342.1 bt342.2 bt344.1 (t347 != (wrap64 ((Int.tmod (rd t337 1) 60) + 1))) bt330.1 bt330.2)) else (laws_FnAfterOpen.j0 k (Int.tmod (rd t337 0) 500) (Int.tmod (rd t337 1) 60) bt342.1 bt342.2 bt344.1 false bt330.1 bt330.2)))))) else (laws_FnAfterOpen.j0 k (Int.tmod (rd t337 0) 500) (Int.tmod (rd t337 1) 60) bt342.1 bt342.2 bt344.1 true bt330.1 bt330.2)))) else (none)) else (none))))) = some r := H
  have A2 := Aside0.mk A20
  clear A20
  by_cases c3 : t329 = true
  · subst c3
    have H1 : (some true) = some r := by rw [if_pos rfl] at H; exact H
    clear H
    have H := H1
    clear H1
    obtain rfl := Option.some.inj H
    go_enter Try.func6, Try.ntmps6
    go_wp2_with (first | ((with_reducible refine gate_callee (f := 15) rfl ?_); refine goesL_ (some 12) rfl rfl Try.func15 (by kernel_rfl) rfl #[.slice A0 l0.length c0] rfl (by (try simp only [List.map_toArray, List.map_cons, List.map_nil]); first | done | rfl | (simp only [List.length_drop, List.length_take]; rfl)) ?_; (with_reducible refine (laws_big.calls _ _ l0 true _ ?side1 ?side2 A2.out).mono ?_); (case side1 => repeat (first | exact HR0.out | (with_reducible refine Kd.C_alloc ?_ _) | (with_reducible refine Kd.C_drewN ?_ _) | (with_reducible refine Kd.C_drew ?_))); (case side2 => exact HC0.out); rintro e w' ⟨rfl, ⟨nd, rfl⟩⟩; refine ⟨_, rfl, ?_⟩))
    go_ret
    exact ⟨by first | rfl | (simp [errW_none, errW_some] <;> rfl) | (simp [*, errW_none, errW_some] <;> rfl), by repeat (first | (with_reducible first | exact HB.out | apply below_alloc | apply pw_below_drewN | apply below_drew1) | exact HB.out)⟩
  · replace c3 := Bool.eq_false_iff.mpr c3
    subst c3
    have H1 : ((spec_DrawWeek.f k l0).bind fun bt330 => ((spec_DrawPlaces.f k l0).bind fun t337 => (if 0 < (t337.length : Int) then (if 1 < (t337.length : Int) then ((impl_AfterOpen.f k bt330.1 bt330.2 (Int.tmod (rd t337 0) 500) (Int.tmod (rd t337 1) 60)).bind fun bt342 => ((impl_BeforeOpen.f k bt330.1 bt330.2 (Int.tmod (rd t337 0) 500) (Int.tmod (rd t337 1) 60)).bind fun bt344 => (if bt344.2 = true then (if bt344.1 < (Int.tmod (rd t337 0) 500) then (laws_FnAfterOpen.j0 k (Int.tmod (rd t337 0) 500) (Int.tmod (rd t337 1) 60) bt342.1 bt342.2 bt344.1 true bt330.1 bt330.2) else (if bt344.1 > 20000 then (laws_FnAfterOpen.j0 k (Int.tmod (rd t337 0) 500) (Int.tmod (rd t337 1) 60) bt342.1 bt342.2 bt344.1 true bt330.1 bt330.2) else ((impl_OpenHours.f k bt330.1 bt330.2 (Int.tmod (rd t337 0) 500) bt344.1).bind fun t346 => (if t346 > (Int.tmod (rd t337 1) 60) then (laws_FnAfterOpen.j0 k (Int.tmod (rd t337 0) 500) (Int.tmod (rd t337 1) 60) bt342.1 bt342.2 bt344.1 true bt330.1 bt330.2) else (if bt344.1 < 20000 then ((impl_OpenHours.f k bt330.1 bt330.2 (Int.tmod (rd t337 0) 500) (wrap64 (bt344.1 + 1))).bind fun t347 => (laws_FnAfterOpen.j0 k (Int.tmod (rd t337 0) 500) (Int.tmod (rd t337 1) 60) bt342.1 bt342.2 bt344.1 (t347 != (wrap64 ((Int.tmod (rd t337 1) 60) + 1))) bt330.1 bt330.2)) else (laws_FnAfterOpen.j0 k (Int.tmod (rd t337 0) 500) (Int.tmod (rd t337 1) 60) bt342.1 bt342.2 bt344.1 false bt330.1 bt330.2)))))) else (laws_FnAfterOpen.j0 k (Int.tmod (rd t337 0) 500) (Int.tmod (rd t337 1) 60) bt342.1 bt342.2 bt344.1 true bt330.1 bt330.2)))) else (none)) else (none)))) = some r := by rw [if_neg (show ¬ (false = true) by decide)] at H; exact H
    clear H
    have H := H1
    clear H1
    replace H := Option.bind_eq_some_iff.mp H
    obtain ⟨⟨t330, t333⟩, A40, H⟩ := H
    replace H : ((spec_DrawPlaces.f k l0).bind fun t337 => (if 0 < (t337.length : Int) then (if 1 < (t337.length : Int) then ((impl_AfterOpen.f k t330 t333 (Int.tmod (rd t337 0) 500) (Int.tmod (rd t337 1) 60)).bind fun bt342 => ((impl_BeforeOpen.f k t330 t333 (Int.tmod (rd t337 0) 500) (Int.tmod (rd t337 1) 60)).bind fun bt344 => (if bt344.2 = true then (if bt344.1 < (Int.tmod (rd t337 0) 500) then (laws_FnAfterOpen.j0 k (Int.tmod (rd t337 0) 500) (Int.tmod (rd t337 1) 60) bt342.1 bt342.2 bt344.1 true t330 t333) else (if bt344.1 > 20000 then (laws_FnAfterOpen.j0 k (Int.tmod (rd t337 0) 500) (Int.tmod (rd t337 1) 60) bt342.1 bt342.2 bt344.1 true t330 t333) else ((impl_OpenHours.f k t330 t333 (Int.tmod (rd t337 0) 500) bt344.1).bind fun t346 => (if t346 > (Int.tmod (rd t337 1) 60) then (laws_FnAfterOpen.j0 k (Int.tmod (rd t337 0) 500) (Int.tmod (rd t337 1) 60) bt342.1 bt342.2 bt344.1 true t330 t333) else (if bt344.1 < 20000 then ((impl_OpenHours.f k t330 t333 (Int.tmod (rd t337 0) 500) (wrap64 (bt344.1 + 1))).bind fun t347 => (laws_FnAfterOpen.j0 k (Int.tmod (rd t337 0) 500) (Int.tmod (rd t337 1) 60) bt342.1 bt342.2 bt344.1 (t347 != (wrap64 ((Int.tmod (rd t337 1) 60) + 1))) t330 t333)) else (laws_FnAfterOpen.j0 k (Int.tmod (rd t337 0) 500) (Int.tmod (rd t337 1) 60) bt342.1 bt342.2 bt344.1 false t330 t333)))))) else (laws_FnAfterOpen.j0 k (Int.tmod (rd t337 0) 500) (Int.tmod (rd t337 1) 60) bt342.1 bt342.2 bt344.1 true t330 t333)))) else (none)) else (none))) = some r := H
    have A4 := Aside0.mk A40
    clear A40
    replace H := Option.bind_eq_some_iff.mp H
    obtain ⟨t337, A50, H⟩ := H
    replace H : (if 0 < (t337.length : Int) then (if 1 < (t337.length : Int) then ((impl_AfterOpen.f k t330 t333 (Int.tmod (rd t337 0) 500) (Int.tmod (rd t337 1) 60)).bind fun bt342 => ((impl_BeforeOpen.f k t330 t333 (Int.tmod (rd t337 0) 500) (Int.tmod (rd t337 1) 60)).bind fun bt344 => (if bt344.2 = true then (if bt344.1 < (Int.tmod (rd t337 0) 500) then (laws_FnAfterOpen.j0 k (Int.tmod (rd t337 0) 500) (Int.tmod (rd t337 1) 60) bt342.1 bt342.2 bt344.1 true t330 t333) else (if bt344.1 > 20000 then (laws_FnAfterOpen.j0 k (Int.tmod (rd t337 0) 500) (Int.tmod (rd t337 1) 60) bt342.1 bt342.2 bt344.1 true t330 t333) else ((impl_OpenHours.f k t330 t333 (Int.tmod (rd t337 0) 500) bt344.1).bind fun t346 => (if t346 > (Int.tmod (rd t337 1) 60) then (laws_FnAfterOpen.j0 k (Int.tmod (rd t337 0) 500) (Int.tmod (rd t337 1) 60) bt342.1 bt342.2 bt344.1 true t330 t333) else (if bt344.1 < 20000 then ((impl_OpenHours.f k t330 t333 (Int.tmod (rd t337 0) 500) (wrap64 (bt344.1 + 1))).bind fun t347 => (laws_FnAfterOpen.j0 k (Int.tmod (rd t337 0) 500) (Int.tmod (rd t337 1) 60) bt342.1 bt342.2 bt344.1 (t347 != (wrap64 ((Int.tmod (rd t337 1) 60) + 1))) t330 t333)) else (laws_FnAfterOpen.j0 k (Int.tmod (rd t337 0) 500) (Int.tmod (rd t337 1) 60) bt342.1 bt342.2 bt344.1 false t330 t333)))))) else (laws_FnAfterOpen.j0 k (Int.tmod (rd t337 0) 500) (Int.tmod (rd t337 1) 60) bt342.1 bt342.2 bt344.1 true t330 t333)))) else (none)) else (none)) = some r := H
    have A5 := Aside0.mk A50
    clear A50
    by_cases c6 : 0 < (t337.length : Int)
    · rw [if_pos c6] at H
      have c6b0 : decide (0 < (t337.length : Int)) = true := decide_eq_true c6
      have c6b1 : decide (0 < t337.length) = true := decide_eq_true (by omega)
      clear c6
      by_cases c7 : 1 < (t337.length : Int)
      · rw [if_pos c7] at H
        have c7b0 : decide (1 < (t337.length : Int)) = true := decide_eq_true c7
        have c7b1 : decide (1 < t337.length) = true := decide_eq_true (by omega)
        clear c7
        replace H := Option.bind_eq_some_iff.mp H
        obtain ⟨⟨t342, t343⟩, A80, H⟩ := H
        replace H : ((impl_BeforeOpen.f k t330 t333 (Int.tmod (rd t337 0) 500) (Int.tmod (rd t337 1) 60)).bind fun bt344 => (if bt344.2 = true then (if bt344.1 < (Int.tmod (rd t337 0) 500) then (laws_FnAfterOpen.j0 k (Int.tmod (rd t337 0) 500) (Int.tmod (rd t337 1) 60) t342 t343 bt344.1 true t330 t333) else (if bt344.1 > 20000 then (laws_FnAfterOpen.j0 k (Int.tmod (rd t337 0) 500) (Int.tmod (rd t337 1) 60) t342 t343 bt344.1 true t330 t333) else ((impl_OpenHours.f k t330 t333 (Int.tmod (rd t337 0) 500) bt344.1).bind fun t346 => (if t346 > (Int.tmod (rd t337 1) 60) then (laws_FnAfterOpen.j0 k (Int.tmod (rd t337 0) 500) (Int.tmod (rd t337 1) 60) t342 t343 bt344.1 true t330 t333) else (if bt344.1 < 20000 then ((impl_OpenHours.f k t330 t333 (Int.tmod (rd t337 0) 500) (wrap64 (bt344.1 + 1))).bind fun t347 => (laws_FnAfterOpen.j0 k (Int.tmod (rd t337 0) 500) (Int.tmod (rd t337 1) 60) t342 t343 bt344.1 (t347 != (wrap64 ((Int.tmod (rd t337 1) 60) + 1))) t330 t333)) else (laws_FnAfterOpen.j0 k (Int.tmod (rd t337 0) 500) (Int.tmod (rd t337 1) 60) t342 t343 bt344.1 false t330 t333)))))) else (laws_FnAfterOpen.j0 k (Int.tmod (rd t337 0) 500) (Int.tmod (rd t337 1) 60) t342 t343 bt344.1 true t330 t333))) = some r := H
        have A8 := Aside0.mk A80
        clear A80
        replace H := Option.bind_eq_some_iff.mp H
        obtain ⟨⟨t344, t345⟩, A90, H⟩ := H
        replace H : (if t345 = true then (if t344 < (Int.tmod (rd t337 0) 500) then (laws_FnAfterOpen.j0 k (Int.tmod (rd t337 0) 500) (Int.tmod (rd t337 1) 60) t342 t343 t344 true t330 t333) else (if t344 > 20000 then (laws_FnAfterOpen.j0 k (Int.tmod (rd t337 0) 500) (Int.tmod (rd t337 1) 60) t342 t343 t344 true t330 t333) else ((impl_OpenHours.f k t330 t333 (Int.tmod (rd t337 0) 500) t344).bind fun t346 => (if t346 > (Int.tmod (rd t337 1) 60) then (laws_FnAfterOpen.j0 k (Int.tmod (rd t337 0) 500) (Int.tmod (rd t337 1) 60) t342 t343 t344 true t330 t333) else (if t344 < 20000 then ((impl_OpenHours.f k t330 t333 (Int.tmod (rd t337 0) 500) (wrap64 (t344 + 1))).bind fun t347 => (laws_FnAfterOpen.j0 k (Int.tmod (rd t337 0) 500) (Int.tmod (rd t337 1) 60) t342 t343 t344 (t347 != (wrap64 ((Int.tmod (rd t337 1) 60) + 1))) t330 t333)) else (laws_FnAfterOpen.j0 k (Int.tmod (rd t337 0) 500) (Int.tmod (rd t337 1) 60) t342 t343 t344 false t330 t333)))))) else (laws_FnAfterOpen.j0 k (Int.tmod (rd t337 0) 500) (Int.tmod (rd t337 1) 60) t342 t343 t344 true t330 t333)) = some r := H
        have A9 := Aside0.mk A90
        clear A90
        have HC10 := Aside0.mk H
        clear H
        go_enter Try.func6, Try.ntmps6
        go_upto_region 9 with (first | ((with_reducible refine gate_callee (f := 15) rfl ?_); refine goesL_ (some 12) rfl rfl Try.func15 (by kernel_rfl) rfl #[.slice A0 l0.length c0] rfl (by (try simp only [List.map_toArray, List.map_cons, List.map_nil]); first | done | rfl | (simp only [List.length_drop, List.length_take]; rfl)) ?_; (with_reducible refine (laws_big.calls _ _ l0 false _ ?side1 ?side2 A2.out).mono ?_); (case side1 => repeat (first | exact HR0.out | (with_reducible refine Kd.C_alloc ?_ _) | (with_reducible refine Kd.C_drewN ?_ _) | (with_reducible refine Kd.C_drew ?_))); (case side2 => exact HC0.out); rintro e w' ⟨rfl, ⟨nd, rfl⟩⟩; refine ⟨_, rfl, ?_⟩) | ((with_reducible refine gate_callee (f := 16) rfl ?_); refine goesL_ (some 14) rfl rfl Try.func16 (by kernel_rfl) rfl #[.slice A0 l0.length c0] rfl (by (try simp only [List.map_toArray, List.map_cons, List.map_nil]); first | done | rfl | (simp only [List.length_drop, List.length_take]; rfl)) ?_; (with_reducible refine (spec_DrawWeek.calls k _ _ l0 t330 t333 _ ?side1 ?side2 A4.out).mono ?_); (case side1 => repeat (first | exact HR0.out | (with_reducible refine Kd.C_alloc ?_ _) | (with_reducible refine Kd.C_drewN ?_ _) | (with_reducible refine Kd.C_drew ?_))); (case side2 => exact HC0.out); rintro e w11 ⟨v331, v334, rfl, ho0, ho1, hb⟩; refine ⟨_, rfl, ?_⟩; have n0_ := Aside0.mk (Kd.R_lower ho0 (below_size (by repeat (first | (with_reducible first | exact HB.out | apply below_alloc | apply pw_below_drewN | apply below_drew1) | exact HB.out)))); have n1_ := Aside0.mk (Kd.R_lower ho1 (below_size (by repeat (first | (with_reducible first | exact HB.out | apply below_alloc | apply pw_below_drewN | apply below_drew1) | exact HB.out)))); have n2_ := Aside0.mk (below_step (by repeat (first | (with_reducible first | exact HB.out | apply below_alloc | apply pw_below_drewN | apply below_drew1) | exact HB.out)) hb); clear HB; have HO332 := n0_; have HO335 := n1_; have HB := n2_; clear n0_ n1_ n2_; (try clear hb); (try clear hb2); (try clear hk); (try clear hi); (try clear ho0); (try clear ho1)) | ((with_reducible refine gate_dst (N := 3) rfl ?_); refine box_event ?hg (N := 3) ?hd (cs := #[.slice none 0 0, .slice none 0 0]) (t := 29) ?hr ?_; (case hd => rfl); (case hg => rfl); (case hr => first | (go_simp; done) | (go_simp; rfl)); intro gb336 hg w12 hbox hb; have n0_ := Aside0.mk (Kd.R_below (by (with_reducible repeat (first | apply Kd.R_alloc | apply Kd.R_drewN | apply Kd.R_drew)); exact HO332.out) hb); have n1_ := Aside0.mk (Kd.R_below (by (with_reducible repeat (first | apply Kd.R_alloc | apply Kd.R_drewN | apply Kd.R_drew)); exact HO335.out) hb); have n2_ := Aside0.mk (below_step (by repeat (first | (with_reducible first | exact HB.out | apply below_alloc | apply pw_below_drewN | apply below_drew1) | exact HB.out)) hb); have n3_ := Aside0.mk (hbox); have n4_ := Aside0.mk ((by rw [hg]; exact (below_size (by repeat (first | (with_reducible first | exact HB.out | apply below_alloc | apply pw_below_drewN | apply below_drew1) | exact HB.out))) : w.heap.size ≤ gb336)); have n5_ := Aside0.mk ((by rw [hg]; exact (below_size (by repeat (first | (with_reducible first | exact HB.out | apply below_alloc | apply pw_below_drewN | apply below_drew1) | exact HB.out))) : w.heap.size ≤ gb336)); clear HO332; clear HO335; clear HB; have HO332 := n0_; have HO335 := n1_; have HB := n2_; have BK336 := n3_; have GW336 := n4_; have GE336 := n5_; clear n0_ n1_ n2_ n3_ n4_ n5_; clear hb hbox hg; obtain ⟨Ao13, co13, eo13⟩ := Kd.R_slice HO332.out; subst eo13; have hcz14_0 : w12.cell? ⟨gb336, 0, none⟩ = some (.slice none 0 0) := (blk_cell BK336.out 0).trans rfl; have hcz14_1 : w12.cell? ⟨gb336, 1, none⟩ = some (.slice none 0 0) := (blk_cell BK336.out 1).trans rfl; have hfz14_0 := blk_frozen BK336.out 0; have hfz14_1 := blk_frozen BK336.out 1; obtain ⟨Ao15, co15, eo15⟩ := Kd.R_slice HO335.out; subst eo15) | ((with_reducible refine gate_callee (f := 17) rfl ?_); refine goesL_ (some 16) rfl rfl Try.func17 (by kernel_rfl) rfl #[.slice A0 l0.length c0] rfl (by (try simp only [List.map_toArray, List.map_cons, List.map_nil]); first | done | rfl | (simp only [List.length_drop, List.length_take]; rfl)) ?_; (with_reducible refine (spec_DrawPlaces.calls k _ _ l0 t337 _ ?side1 ?side2 A5.out).mono ?_); (case side1 => exact Kd.C_below HR0.out (by repeat (first | (with_reducible first | exact HB.out | apply below_alloc | apply pw_below_drewN | apply below_drew1 | refine below_set ?_ GE336.out) | exact HB.out))); (case side2 => exact HC0.out); rintro e w16 ⟨v338, rfl, ho0, hb⟩; refine ⟨_, rfl, ?_⟩; have n0_ := Aside0.mk (Kd.R_below (by (with_reducible repeat (first | apply Kd.R_alloc | apply Kd.R_drewN | apply Kd.R_drew)); exact (Kd.R_mono (Kd.R_far (p := ⟨gb336, 1, none⟩) (Kd.R_far (p := ⟨gb336, 0, none⟩) (Kd.R_types HO332.out BK336.out (by decide)) (fun _ hk => hk.2) (.slice Ao13 t330.length co13)) (fun _ hk => hk.2) (.slice Ao15 t333.length co15)) (fun _ h_ => h_.1))) hb); have n1_ := Aside0.mk (Kd.R_below (by (with_reducible repeat (first | apply Kd.R_alloc | apply Kd.R_drewN | apply Kd.R_drew)); exact (Kd.R_mono (Kd.R_far (p := ⟨gb336, 1, none⟩) (Kd.R_far (p := ⟨gb336, 0, none⟩) (Kd.R_types HO335.out BK336.out (by decide)) (fun _ hk => hk.2) (.slice Ao13 t330.length co13)) (fun _ hk => hk.2) (.slice Ao15 t333.length co15)) (fun _ h_ => h_.1))) hb); have n2_ := Aside0.mk (Kd.R_lower ho0 (below_size (by repeat (first | (with_reducible first | exact HB.out | apply below_alloc | apply pw_below_drewN | apply below_drew1 | refine below_set ?_ GE336.out) | exact HB.out)))); have n3_ := Aside0.mk (blk_below (g := gb336) (o := .cells #[.slice Ao13 t330.length co13, .slice Ao15 t333.length co15] 29 (0, 0)) (by (with_reducible repeat (first | refine blk_drewN ?_ _ | refine blk_drew ?_ | refine blk_alloc ?_ _)); refine blk_put (cs := #[.slice Ao13 t330.length co13, .slice none 0 0]) ?_ 1 _ rfl; (with_reducible repeat (first | refine blk_drewN ?_ _ | refine blk_drew ?_ | refine blk_alloc ?_ _)); refine blk_put (cs := #[.slice none 0 0, .slice none 0 0]) ?_ 0 _ rfl; (with_reducible repeat (first | refine blk_drewN ?_ _ | refine blk_drew ?_ | refine blk_alloc ?_ _)); exact BK336.out) hb); have n4_ := Aside0.mk (below_step (by repeat (first | (with_reducible first | exact HB.out | apply below_alloc | apply pw_below_drewN | apply below_drew1 | refine below_set ?_ GE336.out) | exact HB.out)) hb); clear HO332; clear HO335; clear BK336; clear HB; have HO332 := n0_; have HO335 := n1_; have HO339 := n2_; have BK336 := n3_; have HB := n4_; clear n0_ n1_ n2_ n3_ n4_; (try clear hb); (try clear hb2); (try clear hk); (try clear hi); (try clear ho0); obtain ⟨Ao17, co17, eo17⟩ := Kd.R_slice HO339.out; subst eo17; have p340 : 0 ≤ (0 : Int) := (by omega); have q340 : 0 < (t337.length : Int) := of_decide_eq_true (by first | (with_reducible assumption) | assumption); obtain ⟨ad340, e340, hx340_0⟩ := Kd.at_int (Kd.R_reads' HO339.out).2.2 0 p340 q340; cases e340; have qi340 : (0 < t337.length) = True := eq_true (by omega); (try rw [show ((0 : Int)).toNat = 0 from rfl] at hx340_0); (try rw [Addr.add_zero'] at hx340_0); replace p340 := eq_true p340; replace q340 := eq_true q340; have p341 : 0 ≤ (1 : Int) := (by omega); have q341 : 1 < (t337.length : Int) := of_decide_eq_true (by first | (with_reducible assumption) | assumption); obtain ⟨ad341, e341, hx341_0⟩ := Kd.at_int (Kd.R_reads' HO339.out).2.2 1 p341 q341; obtain rfl : ad340 = ad341 := (by injection e341); (try simp only [show (1 : Int).toNat = 1 from rfl, Nat.reduceMul, Nat.reduceEqDiff, Go.Addr.add, ↓reduceIte] at hx341_0); have qi341 : (1 < t337.length) = True := eq_true (by omega); (try rw [show ((1 : Int)).toNat = 1 from rfl] at hx341_0); replace p341 := eq_true p341; replace q341 := eq_true q341; have hcz18_0 : w16.cell? ⟨gb336, 0, none⟩ = some (.slice Ao13 t330.length co13) := (blk_cell BK336.out 0).trans rfl; have hcz18_1 : w16.cell? ⟨gb336, 1, none⟩ = some (.slice Ao15 t333.length co15) := (blk_cell BK336.out 1).trans rfl; have hfz18_0 := blk_frozen BK336.out 0; have hfz18_1 := blk_frozen BK336.out 1) | ((with_reducible refine gate_callee (f := 21) rfl ?_); refine goesL_ (some 29) rfl rfl Try.func21 (by kernel_rfl) rfl #[.agg #[.slice Ao13 t330.length co13, .slice Ao15 t333.length co15], .int .i64 (Int.tmod (rd t337 0) 500), .int .i64 (Int.tmod (rd t337 1) 60)] rfl (by (try simp only [List.map_toArray, List.map_cons, List.map_nil]); first | done | rfl | (simp only [List.length_drop, List.length_take]; rfl)) ?_; (with_reducible refine (impl_AfterOpen.calls k _ _ t330 _ _ t333 (Int.tmod (rd t337 0) 500) (Int.tmod (rd t337 1) 60) t342 t343 _ ?side1 ?side2 ?side3 ?side4 A8.out).mono ?_); (case side1 => repeat (first | exact (Kd.R_reads' HO332.out).2.2 | (with_reducible refine Kd.C_alloc ?_ _) | (with_reducible refine Kd.C_drewN ?_ _) | (with_reducible refine Kd.C_drew ?_))); (case side2 => exact (Kd.R_reads' HO332.out).2.1); (case side3 => repeat (first | exact (Kd.R_reads' HO335.out).2.2 | (with_reducible refine Kd.C_alloc ?_ _) | (with_reducible refine Kd.C_drewN ?_ _) | (with_reducible refine Kd.C_drew ?_))); (case side4 => exact (Kd.R_reads' HO335.out).2.1); rintro e w19 ⟨rfl, hb⟩; refine ⟨_, rfl, ?_⟩; have n0_ := Aside0.mk (Kd.R_below (by (with_reducible repeat (first | apply Kd.R_alloc | apply Kd.R_drewN | apply Kd.R_drew)); exact HO332.out) hb); have n1_ := Aside0.mk (Kd.R_below (by (with_reducible repeat (first | apply Kd.R_alloc | apply Kd.R_drewN | apply Kd.R_drew)); exact HO335.out) hb); have n2_ := Aside0.mk (Kd.R_below (by (with_reducible repeat (first | apply Kd.R_alloc | apply Kd.R_drewN | apply Kd.R_drew)); exact HO339.out) hb); have n3_ := Aside0.mk (blk_below (g := gb336) (o := .cells #[.slice Ao13 t330.length co13, .slice Ao15 t333.length co15] 29 (0, 0)) (by (with_reducible repeat (first | refine blk_drewN ?_ _ | refine blk_drew ?_ | refine blk_alloc ?_ _)); exact BK336.out) hb); have n4_ := Aside0.mk (below_step (by repeat (first | (with_reducible first | exact HB.out | apply below_alloc | apply pw_below_drewN | apply below_drew1 | refine below_set ?_ GE336.out) | exact HB.out)) hb); clear HO332; clear HO335; clear HO339; clear BK336; clear HB; have HO332 := n0_; have HO335 := n1_; have HO339 := n2_; have BK336 := n3_; have HB := n4_; clear n0_ n1_ n2_ n3_ n4_; (try clear hb); (try clear hb2); (try clear hk); (try clear hi); have hcz20_0 : w19.cell? ⟨gb336, 0, none⟩ = some (.slice Ao13 t330.length co13) := (blk_cell BK336.out 0).trans rfl; have hcz20_1 : w19.cell? ⟨gb336, 1, none⟩ = some (.slice Ao15 t333.length co15) := (blk_cell BK336.out 1).trans rfl; have hfz20_0 := blk_frozen BK336.out 0; have hfz20_1 := blk_frozen BK336.out 1) | ((with_reducible refine gate_callee (f := 22) rfl ?_); refine goesL_ (some 36) rfl rfl Try.func22 (by kernel_rfl) rfl #[.agg #[.slice Ao13 t330.length co13, .slice Ao15 t333.length co15], .int .i64 (Int.tmod (rd t337 0) 500), .int .i64 (Int.tmod (rd t337 1) 60)] rfl (by (try simp only [List.map_toArray, List.map_cons, List.map_nil]); first | done | rfl | (simp only [List.length_drop, List.length_take]; rfl)) ?_; (with_reducible refine (impl_BeforeOpen.calls k _ _ t330 _ _ t333 (Int.tmod (rd t337 0) 500) (Int.tmod (rd t337 1) 60) t344 t345 _ ?side1 ?side2 ?side3 ?side4 A9.out).mono ?_); (case side1 => repeat (first | exact (Kd.R_reads' HO332.out).2.2 | (with_reducible refine Kd.C_alloc ?_ _) | (with_reducible refine Kd.C_drewN ?_ _) | (with_reducible refine Kd.C_drew ?_))); (case side2 => exact (Kd.R_reads' HO332.out).2.1); (case side3 => repeat (first | exact (Kd.R_reads' HO335.out).2.2 | (with_reducible refine Kd.C_alloc ?_ _) | (with_reducible refine Kd.C_drewN ?_ _) | (with_reducible refine Kd.C_drew ?_))); (case side4 => exact (Kd.R_reads' HO335.out).2.1); rintro e w21 ⟨rfl, hb⟩; refine ⟨_, rfl, ?_⟩; have n0_ := Aside0.mk (Kd.R_below (by (with_reducible repeat (first | apply Kd.R_alloc | apply Kd.R_drewN | apply Kd.R_drew)); exact HO332.out) hb); have n1_ := Aside0.mk (Kd.R_below (by (with_reducible repeat (first | apply Kd.R_alloc | apply Kd.R_drewN | apply Kd.R_drew)); exact HO335.out) hb); have n2_ := Aside0.mk (Kd.R_below (by (with_reducible repeat (first | apply Kd.R_alloc | apply Kd.R_drewN | apply Kd.R_drew)); exact HO339.out) hb); have n3_ := Aside0.mk (blk_below (g := gb336) (o := .cells #[.slice Ao13 t330.length co13, .slice Ao15 t333.length co15] 29 (0, 0)) (by (with_reducible repeat (first | refine blk_drewN ?_ _ | refine blk_drew ?_ | refine blk_alloc ?_ _)); exact BK336.out) hb); have n4_ := Aside0.mk (below_step (by repeat (first | (with_reducible first | exact HB.out | apply below_alloc | apply pw_below_drewN | apply below_drew1 | refine below_set ?_ GE336.out) | exact HB.out)) hb); clear HO332; clear HO335; clear HO339; clear BK336; clear HB; have HO332 := n0_; have HO335 := n1_; have HO339 := n2_; have BK336 := n3_; have HB := n4_; clear n0_ n1_ n2_ n3_ n4_; (try clear hb); (try clear hb2); (try clear hk); (try clear hi)))
        (try simp only [Act.put, List.setIfInBounds_toArray, List.set_cons_zero, List.set_cons_succ])
        go_cut [71] (fun v71 wc => ∃ (kq : Nat) (x71_9 : Bool), v71 = .bool x71_9 ∧ Aside0 (laws_FnAfterOpen.j0 kq (Int.tmod (rd t337 0) 500) (Int.tmod (rd t337 1) 60) t342 t343 t344 x71_9 t330 t333 = some r) ∧ Aside0 (kq ≤ k) ∧ Aside0 (Kd.R k55 55 wc w.heap.size (fun k_ => some k_ ≠ ((.slice Ao15 t333.length co15) : Value).ownBlock) (.slice Ao13 t330.length co13) t330) ∧ Aside0 (Kd.R k55 55 wc w.heap.size (fun k_ => some k_ ≠ ((.slice Ao13 t330.length co13) : Value).ownBlock) (.slice Ao15 t333.length co15) t333) ∧ Aside0 (wc.heap[gb336]? = some (.cells #[(.slice Ao13 t330.length co13), (.slice Ao15 t333.length co15)] 29 (0, 0))) ∧ Aside0 (Below w.heap.size w wc))
        case first =>
          have H := HC10.out
          clear HC10
          by_cases c22 : t345 = true
          · subst c22
            have H1 : (if t344 < (Int.tmod (rd t337 0) 500) then (laws_FnAfterOpen.j0 k (Int.tmod (rd t337 0) 500) (Int.tmod (rd t337 1) 60) t342 t343 t344 true t330 t333) else (if t344 > 20000 then (laws_FnAfterOpen.j0 k (Int.tmod (rd t337 0) 500) (Int.tmod (rd t337 1) 60) t342 t343 t344 true t330 t333) else ((impl_OpenHours.f k t330 t333 (Int.tmod (rd t337 0) 500) t344).bind fun t346 => (if t346 > (Int.tmod (rd t337 1) 60) then (laws_FnAfterOpen.j0 k (Int.tmod (rd t337 0) 500) (Int.tmod (rd t337 1) 60) t342 t343 t344 true t330 t333) else (if t344 < 20000 then ((impl_OpenHours.f k t330 t333 (Int.tmod (rd t337 0) 500) (wrap64 (t344 + 1))).bind fun t347 => (laws_FnAfterOpen.j0 k (Int.tmod (rd t337 0) 500) (Int.tmod (rd t337 1) 60) t342 t343 t344 (t347 != (wrap64 ((Int.tmod (rd t337 1) 60) + 1))) t330 t333)) else (laws_FnAfterOpen.j0 k (Int.tmod (rd t337 0) 500) (Int.tmod (rd t337 1) 60) t342 t343 t344 false t330 t333)))))) = some r := by rw [if_pos rfl] at H; exact H
            clear H
            have H := H1
            clear H1
            by_cases c23 : t344 < (Int.tmod (rd t337 0) 500)
            · rw [if_pos c23] at H
              have c23b0 : decide (t344 < (Int.tmod (rd t337 0) 500)) = true := decide_eq_true c23
              clear c23
              (first | rw [c23b0] | (simp only [i64_w, i32_w]; rw [c23b0]) | skip)
              have H' := Aside0.mk H
              clear H
              go_wp2
              go_meet
              case rel => exact ⟨_, (true), (by first | rfl | (simp; done) | (simp [*]; done)), H', ⟨by first | omega | exact Nat.le_refl _⟩, ⟨by (with_reducible repeat (first | apply Kd.R_alloc | apply Kd.R_drewN | apply Kd.R_drew)); exact HO332.out⟩, ⟨by (with_reducible repeat (first | apply Kd.R_alloc | apply Kd.R_drewN | apply Kd.R_drew)); exact HO335.out⟩, ⟨by (with_reducible repeat (first | refine blk_drewN ?_ _ | refine blk_drew ?_ | refine blk_alloc ?_ _)); exact BK336.out⟩, ⟨by repeat (first | (with_reducible first | exact HB.out | apply below_alloc | apply pw_below_drewN | apply below_drew1 | refine below_set ?_ GE336.out) | exact HB.out)⟩⟩
            · rw [if_neg c23] at H
              have c23b0 : decide (t344 < (Int.tmod (rd t337 0) 500)) = false := decide_eq_false c23
              clear c23
              (first | rw [c23b0] | (simp only [i64_w, i32_w]; rw [c23b0]) | skip)
              by_cases c24 : t344 > 20000
              · rw [if_pos c24] at H
                have c24b0 : decide (20000 < t344) = true := decide_eq_true c24
                clear c24
                have H' := Aside0.mk H
                clear H
                go_wp2
                go_meet
                case rel => exact ⟨_, (true), (by first | rfl | (simp; done) | (simp [*]; done)), H', ⟨by first | omega | exact Nat.le_refl _⟩, ⟨by (with_reducible repeat (first | apply Kd.R_alloc | apply Kd.R_drewN | apply Kd.R_drew)); exact HO332.out⟩, ⟨by (with_reducible repeat (first | apply Kd.R_alloc | apply Kd.R_drewN | apply Kd.R_drew)); exact HO335.out⟩, ⟨by (with_reducible repeat (first | refine blk_drewN ?_ _ | refine blk_drew ?_ | refine blk_alloc ?_ _)); exact BK336.out⟩, ⟨by repeat (first | (with_reducible first | exact HB.out | apply below_alloc | apply pw_below_drewN | apply below_drew1 | refine below_set ?_ GE336.out) | exact HB.out)⟩⟩
              · rw [if_neg c24] at H
                have c24b0 : decide (20000 < t344) = false := decide_eq_false c24
                clear c24
                replace H := Option.bind_eq_some_iff.mp H
                obtain ⟨t346, A250, H⟩ := H
                replace H : (if t346 > (Int.tmod (rd t337 1) 60) then (laws_FnAfterOpen.j0 k (Int.tmod (rd t337 0) 500) (Int.tmod (rd t337 1) 60) t342 t343 t344 true t330 t333) else (if t344 < 20000 then ((impl_OpenHours.f k t330 t333 (Int.tmod (rd t337 0) 500) (wrap64 (t344 + 1))).bind fun t347 => (laws_FnAfterOpen.j0 k (Int.tmod (rd t337 0) 500) (Int.tmod (rd t337 1) 60) t342 t343 t344 (t347 != (wrap64 ((Int.tmod (rd t337 1) 60) + 1))) t330 t333)) else (laws_FnAfterOpen.j0 k (Int.tmod (rd t337 0) 500) (Int.tmod (rd t337 1) 60) t342 t343 t344 false t330 t333))) = some r := H
                have A25 := Aside0.mk A250
                clear A250
                by_cases c26 : t346 > (Int.tmod (rd t337 1) 60)
                · rw [if_pos c26] at H
                  have c26b0 : decide ((Int.tmod (rd t337 1) 60) < t346) = true := decide_eq_true c26
                  clear c26
                  have H' := Aside0.mk H
                  clear H
                  have hcz27_0 : w21.cell? ⟨gb336, 0, none⟩ = some (.slice Ao13 t330.length co13) := (blk_cell BK336.out 0).trans rfl
                  have hcz27_1 : w21.cell? ⟨gb336, 1, none⟩ = some (.slice Ao15 t333.length co15) := (blk_cell BK336.out 1).trans rfl
                  have hfz27_0 := blk_frozen BK336.out 0
                  have hfz27_1 := blk_frozen BK336.out 1
                  go_wp2_with (first | (go_at_call 19; (with_reducible refine (impl_OpenHours.calls k _ _ t330 _ _ t333 (Int.tmod (rd t337 0) 500) t344 t346 _ ?side1 ?side2 ?side3 ?side4 A25.out).mono ?_); (case side1 => repeat (first | exact (Kd.R_reads' HO332.out).2.2 | (with_reducible refine Kd.C_alloc ?_ _) | (with_reducible refine Kd.C_drewN ?_ _) | (with_reducible refine Kd.C_drew ?_))); (case side2 => exact (Kd.R_reads' HO332.out).2.1); (case side3 => repeat (first | exact (Kd.R_reads' HO335.out).2.2 | (with_reducible refine Kd.C_alloc ?_ _) | (with_reducible refine Kd.C_drewN ?_ _) | (with_reducible refine Kd.C_drew ?_))); (case side4 => exact (Kd.R_reads' HO335.out).2.1); rintro e w28 ⟨rfl, hb⟩; have n0_ := Aside0.mk (Kd.R_below (by (with_reducible repeat (first | apply Kd.R_alloc | apply Kd.R_drewN | apply Kd.R_drew)); exact HO332.out) hb); have n1_ := Aside0.mk (Kd.R_below (by (with_reducible repeat (first | apply Kd.R_alloc | apply Kd.R_drewN | apply Kd.R_drew)); exact HO335.out) hb); have n2_ := Aside0.mk (Kd.R_below (by (with_reducible repeat (first | apply Kd.R_alloc | apply Kd.R_drewN | apply Kd.R_drew)); exact HO339.out) hb); have n3_ := Aside0.mk (blk_below (g := gb336) (o := .cells #[.slice Ao13 t330.length co13, .slice Ao15 t333.length co15] 29 (0, 0)) (by (with_reducible repeat (first | refine blk_drewN ?_ _ | refine blk_drew ?_ | refine blk_alloc ?_ _)); exact BK336.out) hb); have n4_ := Aside0.mk (below_step (by repeat (first | (with_reducible first | exact HB.out | apply below_alloc | apply pw_below_drewN | apply below_drew1 | refine below_set ?_ GE336.out) | exact HB.out)) hb); clear HO332; clear HO335; clear HO339; clear BK336; clear HB; have HO332 := n0_; have HO335 := n1_; have HO339 := n2_; have BK336 := n3_; have HB := n4_; clear n0_ n1_ n2_ n3_ n4_; (try clear hb); (try clear hb2); (try clear hk); (try clear hi)))
                  go_meet
                  case rel => exact ⟨_, (true), (by first | rfl | (simp; done) | (simp [*]; done)), H', ⟨by first | omega | exact Nat.le_refl _⟩, ⟨by (with_reducible repeat (first | apply Kd.R_alloc | apply Kd.R_drewN | apply Kd.R_drew)); exact HO332.out⟩, ⟨by (with_reducible repeat (first | apply Kd.R_alloc | apply Kd.R_drewN | apply Kd.R_drew)); exact HO335.out⟩, ⟨by (with_reducible repeat (first | refine blk_drewN ?_ _ | refine blk_drew ?_ | refine blk_alloc ?_ _)); exact BK336.out⟩, ⟨by repeat (first | (with_reducible first | exact HB.out | apply below_alloc | apply pw_below_drewN | apply below_drew1 | refine below_set ?_ GE336.out) | exact HB.out)⟩⟩
                · rw [if_neg c26] at H
                  have c26b0 : decide ((Int.tmod (rd t337 1) 60) < t346) = false := decide_eq_false c26
                  clear c26
                  by_cases c29 : t344 < 20000
                  · rw [if_pos c29] at H
                    have c29b0 : decide (t344 < 20000) = true := decide_eq_true c29
                    clear c29
                    replace H := Option.bind_eq_some_iff.mp H
                    obtain ⟨t347, A300, H⟩ := H
                    replace H : (laws_FnAfterOpen.j0 k (Int.tmod (rd t337 0) 500) (Int.tmod (rd t337 1) 60) t342 t343 t344 (t347 != (wrap64 ((Int.tmod (rd t337 1) 60) + 1))) t330 t333) = some r := H
                    have A30 := Aside0.mk A300
                    clear A300
                    have H' := Aside0.mk H
                    clear H
                    have hcz31_0 : w21.cell? ⟨gb336, 0, none⟩ = some (.slice Ao13 t330.length co13) := (blk_cell BK336.out 0).trans rfl
                    have hcz31_1 : w21.cell? ⟨gb336, 1, none⟩ = some (.slice Ao15 t333.length co15) := (blk_cell BK336.out 1).trans rfl
                    have hfz31_0 := blk_frozen BK336.out 0
                    have hfz31_1 := blk_frozen BK336.out 1
                    go_wp2_with (first | (go_at_call 19; (with_reducible refine (impl_OpenHours.calls k _ _ t330 _ _ t333 (Int.tmod (rd t337 0) 500) t344 t346 _ ?side1 ?side2 ?side3 ?side4 A25.out).mono ?_); (case side1 => repeat (first | exact (Kd.R_reads' HO332.out).2.2 | (with_reducible refine Kd.C_alloc ?_ _) | (with_reducible refine Kd.C_drewN ?_ _) | (with_reducible refine Kd.C_drew ?_))); (case side2 => exact (Kd.R_reads' HO332.out).2.1); (case side3 => repeat (first | exact (Kd.R_reads' HO335.out).2.2 | (with_reducible refine Kd.C_alloc ?_ _) | (with_reducible refine Kd.C_drewN ?_ _) | (with_reducible refine Kd.C_drew ?_))); (case side4 => exact (Kd.R_reads' HO335.out).2.1); rintro e w32 ⟨rfl, hb⟩; have n0_ := Aside0.mk (Kd.R_below (by (with_reducible repeat (first | apply Kd.R_alloc | apply Kd.R_drewN | apply Kd.R_drew)); exact HO332.out) hb); have n1_ := Aside0.mk (Kd.R_below (by (with_reducible repeat (first | apply Kd.R_alloc | apply Kd.R_drewN | apply Kd.R_drew)); exact HO335.out) hb); have n2_ := Aside0.mk (Kd.R_below (by (with_reducible repeat (first | apply Kd.R_alloc | apply Kd.R_drewN | apply Kd.R_drew)); exact HO339.out) hb); have n3_ := Aside0.mk (blk_below (g := gb336) (o := .cells #[.slice Ao13 t330.length co13, .slice Ao15 t333.length co15] 29 (0, 0)) (by (with_reducible repeat (first | refine blk_drewN ?_ _ | refine blk_drew ?_ | refine blk_alloc ?_ _)); exact BK336.out) hb); have n4_ := Aside0.mk (below_step (by repeat (first | (with_reducible first | exact HB.out | apply below_alloc | apply pw_below_drewN | apply below_drew1 | refine below_set ?_ GE336.out) | exact HB.out)) hb); clear HO332; clear HO335; clear HO339; clear BK336; clear HB; have HO332 := n0_; have HO335 := n1_; have HO339 := n2_; have BK336 := n3_; have HB := n4_; clear n0_ n1_ n2_ n3_ n4_; (try clear hb); (try clear hb2); (try clear hk); (try clear hi); have hcz33_0 : w32.cell? ⟨gb336, 0, none⟩ = some (.slice Ao13 t330.length co13) := (blk_cell BK336.out 0).trans rfl; have hcz33_1 : w32.cell? ⟨gb336, 1, none⟩ = some (.slice Ao15 t333.length co15) := (blk_cell BK336.out 1).trans rfl; have hfz33_0 := blk_frozen BK336.out 0; have hfz33_1 := blk_frozen BK336.out 1) | (go_at_call 19; (with_reducible refine (impl_OpenHours.calls k _ _ t330 _ _ t333 (Int.tmod (rd t337 0) 500) (wrap64 (t344 + 1)) t347 _ ?side1 ?side2 ?side3 ?side4 A30.out).mono ?_); (case side1 => repeat (first | exact (Kd.R_reads' HO332.out).2.2 | (with_reducible refine Kd.C_alloc ?_ _) | (with_reducible refine Kd.C_drewN ?_ _) | (with_reducible refine Kd.C_drew ?_))); (case side2 => exact (Kd.R_reads' HO332.out).2.1); (case side3 => repeat (first | exact (Kd.R_reads' HO335.out).2.2 | (with_reducible refine Kd.C_alloc ?_ _) | (with_reducible refine Kd.C_drewN ?_ _) | (with_reducible refine Kd.C_drew ?_))); (case side4 => exact (Kd.R_reads' HO335.out).2.1); rintro e w34 ⟨rfl, hb⟩; have n0_ := Aside0.mk (Kd.R_below (by (with_reducible repeat (first | apply Kd.R_alloc | apply Kd.R_drewN | apply Kd.R_drew)); exact HO332.out) hb); have n1_ := Aside0.mk (Kd.R_below (by (with_reducible repeat (first | apply Kd.R_alloc | apply Kd.R_drewN | apply Kd.R_drew)); exact HO335.out) hb); have n2_ := Aside0.mk (Kd.R_below (by (with_reducible repeat (first | apply Kd.R_alloc | apply Kd.R_drewN | apply Kd.R_drew)); exact HO339.out) hb); have n3_ := Aside0.mk (blk_below (g := gb336) (o := .cells #[.slice Ao13 t330.length co13, .slice Ao15 t333.length co15] 29 (0, 0)) (by (with_reducible repeat (first | refine blk_drewN ?_ _ | refine blk_drew ?_ | refine blk_alloc ?_ _)); exact BK336.out) hb); have n4_ := Aside0.mk (below_step (by repeat (first | (with_reducible first | exact HB.out | apply below_alloc | apply pw_below_drewN | apply below_drew1 | refine below_set ?_ GE336.out) | exact HB.out)) hb); clear HO332; clear HO335; clear HO339; clear BK336; clear HB; have HO332 := n0_; have HO335 := n1_; have HO339 := n2_; have BK336 := n3_; have HB := n4_; clear n0_ n1_ n2_ n3_ n4_; (try clear hb); (try clear hb2); (try clear hk); (try clear hi)))
                    go_meet
                    case rel => exact ⟨_, ((t347 != (wrap64 ((Int.tmod (rd t337 1) 60) + 1)))), (by first | rfl | (simp; done) | (simp [*]; done)), H', ⟨by first | omega | exact Nat.le_refl _⟩, ⟨by (with_reducible repeat (first | apply Kd.R_alloc | apply Kd.R_drewN | apply Kd.R_drew)); exact HO332.out⟩, ⟨by (with_reducible repeat (first | apply Kd.R_alloc | apply Kd.R_drewN | apply Kd.R_drew)); exact HO335.out⟩, ⟨by (with_reducible repeat (first | refine blk_drewN ?_ _ | refine blk_drew ?_ | refine blk_alloc ?_ _)); exact BK336.out⟩, ⟨by repeat (first | (with_reducible first | exact HB.out | apply below_alloc | apply pw_below_drewN | apply below_drew1 | refine below_set ?_ GE336.out) | exact HB.out)⟩⟩
                  · rw [if_neg c29] at H
                    have c29b0 : decide (t344 < 20000) = false := decide_eq_false c29
                    clear c29
                    have H' := Aside0.mk H
                    clear H
                    have hcz35_0 : w21.cell? ⟨gb336, 0, none⟩ = some (.slice Ao13 t330.length co13) := (blk_cell BK336.out 0).trans rfl
                    have hcz35_1 : w21.cell? ⟨gb336, 1, none⟩ = some (.slice Ao15 t333.length co15) := (blk_cell BK336.out 1).trans rfl
                    have hfz35_0 := blk_frozen BK336.out 0
                    have hfz35_1 := blk_frozen BK336.out 1
                    go_wp2_with (first | (go_at_call 19; (with_reducible refine (impl_OpenHours.calls k _ _ t330 _ _ t333 (Int.tmod (rd t337 0) 500) t344 t346 _ ?side1 ?side2 ?side3 ?side4 A25.out).mono ?_); (case side1 => repeat (first | exact (Kd.R_reads' HO332.out).2.2 | (with_reducible refine Kd.C_alloc ?_ _) | (with_reducible refine Kd.C_drewN ?_ _) | (with_reducible refine Kd.C_drew ?_))); (case side2 => exact (Kd.R_reads' HO332.out).2.1); (case side3 => repeat (first | exact (Kd.R_reads' HO335.out).2.2 | (with_reducible refine Kd.C_alloc ?_ _) | (with_reducible refine Kd.C_drewN ?_ _) | (with_reducible refine Kd.C_drew ?_))); (case side4 => exact (Kd.R_reads' HO335.out).2.1); rintro e w36 ⟨rfl, hb⟩; have n0_ := Aside0.mk (Kd.R_below (by (with_reducible repeat (first | apply Kd.R_alloc | apply Kd.R_drewN | apply Kd.R_drew)); exact HO332.out) hb); have n1_ := Aside0.mk (Kd.R_below (by (with_reducible repeat (first | apply Kd.R_alloc | apply Kd.R_drewN | apply Kd.R_drew)); exact HO335.out) hb); have n2_ := Aside0.mk (Kd.R_below (by (with_reducible repeat (first | apply Kd.R_alloc | apply Kd.R_drewN | apply Kd.R_drew)); exact HO339.out) hb); have n3_ := Aside0.mk (blk_below (g := gb336) (o := .cells #[.slice Ao13 t330.length co13, .slice Ao15 t333.length co15] 29 (0, 0)) (by (with_reducible repeat (first | refine blk_drewN ?_ _ | refine blk_drew ?_ | refine blk_alloc ?_ _)); exact BK336.out) hb); have n4_ := Aside0.mk (below_step (by repeat (first | (with_reducible first | exact HB.out | apply below_alloc | apply pw_below_drewN | apply below_drew1 | refine below_set ?_ GE336.out) | exact HB.out)) hb); clear HO332; clear HO335; clear HO339; clear BK336; clear HB; have HO332 := n0_; have HO335 := n1_; have HO339 := n2_; have BK336 := n3_; have HB := n4_; clear n0_ n1_ n2_ n3_ n4_; (try clear hb); (try clear hb2); (try clear hk); (try clear hi)))
                    go_meet
                    case rel => exact ⟨_, (false), (by first | rfl | (simp; done) | (simp [*]; done)), H', ⟨by first | omega | exact Nat.le_refl _⟩, ⟨by (with_reducible repeat (first | apply Kd.R_alloc | apply Kd.R_drewN | apply Kd.R_drew)); exact HO332.out⟩, ⟨by (with_reducible repeat (first | apply Kd.R_alloc | apply Kd.R_drewN | apply Kd.R_drew)); exact HO335.out⟩, ⟨by (with_reducible repeat (first | refine blk_drewN ?_ _ | refine blk_drew ?_ | refine blk_alloc ?_ _)); exact BK336.out⟩, ⟨by repeat (first | (with_reducible first | exact HB.out | apply below_alloc | apply pw_below_drewN | apply below_drew1 | refine below_set ?_ GE336.out) | exact HB.out)⟩⟩
          · replace c22 := Bool.eq_false_iff.mpr c22
            subst c22
            have H1 : (laws_FnAfterOpen.j0 k (Int.tmod (rd t337 0) 500) (Int.tmod (rd t337 1) 60) t342 t343 t344 true t330 t333) = some r := by rw [if_neg (show ¬ (false = true) by decide)] at H; exact H
            clear H
            have H := H1
            clear H1
            have H' := Aside0.mk H
            clear H
            go_wp2
            go_meet
            case rel => exact ⟨_, (true), (by first | rfl | (simp; done) | (simp [*]; done)), H', ⟨by first | omega | exact Nat.le_refl _⟩, ⟨by (with_reducible repeat (first | apply Kd.R_alloc | apply Kd.R_drewN | apply Kd.R_drew)); exact HO332.out⟩, ⟨by (with_reducible repeat (first | apply Kd.R_alloc | apply Kd.R_drewN | apply Kd.R_drew)); exact HO335.out⟩, ⟨by (with_reducible repeat (first | refine blk_drewN ?_ _ | refine blk_drew ?_ | refine blk_alloc ?_ _)); exact BK336.out⟩, ⟨by repeat (first | (with_reducible first | exact HB.out | apply below_alloc | apply pw_below_drewN | apply below_drew1 | refine below_set ?_ GE336.out) | exact HB.out)⟩⟩
        case rest =>
          clear HC10
          try clear c1
          try clear c2
          try clear p2
          try clear c3
          try clear p3
          try clear q3
          try clear hx3
          try clear qi3
          try clear c6
          try clear c6b0
          try clear c6b1
          try clear p6
          try clear c7
          try clear c7b0
          try clear c7b1
          try clear c15
          try clear c16
          try clear c17
          try clear c21
          try clear c22
          try clear c23
          try clear c23b0
          try clear c24
          try clear c24b0
          try clear c26
          try clear c26b0
          try clear c29
          try clear c29b0
          try clear p34
          try clear q34
          try clear hx34
          try clear qi34
          try clear hcz14_0
          try clear hcz14_1
          try clear hcz18_0
          try clear hcz18_1
          try clear hcz20_0
          try clear hcz20_1
          try clear hcz27_0
          try clear hcz27_1
          try clear hcz31_0
          try clear hcz31_1
          try clear hcz33_0
          try clear hcz33_1
          try clear hcz35_0
          try clear hcz35_1
          try clear hfz14_0
          try clear hfz14_1
          try clear hfz18_0
          try clear hfz18_1
          try clear hfz20_0
          try clear hfz20_1
          try clear hfz27_0
          try clear hfz27_1
          try clear hfz31_0
          try clear hfz31_1
          try clear hfz33_0
          try clear hfz33_1
          try clear hfz35_0
          try clear hfz35_1
          try clear hx340_0
          try clear hx341_0
          try clear p340
          try clear p341
          try clear q340
          try clear q341
          obtain ⟨kq, x71_9, rfl, HA, HJ9, HO_337000, HO_337001, BK336, HB⟩ := hcut
          cases kq with
          | zero => exact absurd HA.out (by simp [laws_FnAfterOpen.j0])
          | succ kj9 =>
            have H := HA.out
            clear HA
            simp only [laws_FnAfterOpen.j0] at H
            by_cases c37 : x71_9 = true
            · subst c37
              have H1 : (some false) = some r := by rw [if_pos rfl] at H; exact H
              clear H
              have H := H1
              clear H1
              exact absurd (Option.some.inj H) (by rw [hr_.out]; decide)
            · replace c37 := Bool.eq_false_iff.mpr c37
              subst c37
              have H1 : (if t343 = true then (if t342 ≥ (Int.tmod (rd t337 0) 500) then (if t342 ≤ t344 then ((impl_OpenHours.f kj9 t330 t333 (Int.tmod (rd t337 0) 500) t342).bind fun t348 => (if t348 = (Int.tmod (rd t337 1) 60) then (if (Int.tmod (rd t337 1) 60) = 0 then (if t342 = (Int.tmod (rd t337 0) 500) then (some true) else (if (Int.tmod (rd t337 1) 60) > 0 then ((impl_IsOpen.f kj9 t330 t333 (wrap64 (t342 - 1))).bind fun t349 => (some t349)) else (some false))) else (if (Int.tmod (rd t337 1) 60) > 0 then ((impl_IsOpen.f kj9 t330 t333 (wrap64 (t342 - 1))).bind fun t350 => (some t350)) else (some false))) else (some false))) else (some false)) else (some false)) else ((impl_OpenHours.f kj9 t330 t333 (Int.tmod (rd t337 0) 500) 20000).bind fun t351 => (some (decide (t351 < (Int.tmod (rd t337 1) 60)))))) = some r := by rw [if_neg (show ¬ (false = true) by decide)] at H; exact H
              clear H
              have H := H1
              clear H1
              by_cases c38 : t343 = true
              · subst c38
                have H1 : (if t342 ≥ (Int.tmod (rd t337 0) 500) then (if t342 ≤ t344 then ((impl_OpenHours.f kj9 t330 t333 (Int.tmod (rd t337 0) 500) t342).bind fun t348 => (if t348 = (Int.tmod (rd t337 1) 60) then (if (Int.tmod (rd t337 1) 60) = 0 then (if t342 = (Int.tmod (rd t337 0) 500) then (some true) else (if (Int.tmod (rd t337 1) 60) > 0 then ((impl_IsOpen.f kj9 t330 t333 (wrap64 (t342 - 1))).bind fun t349 => (some t349)) else (some false))) else (if (Int.tmod (rd t337 1) 60) > 0 then ((impl_IsOpen.f kj9 t330 t333 (wrap64 (t342 - 1))).bind fun t350 => (some t350)) else (some false))) else (some false))) else (some false)) else (some false)) = some r := by rw [if_pos rfl] at H; exact H
                clear H
                have H := H1
                clear H1
                by_cases c39 : t342 ≥ (Int.tmod (rd t337 0) 500)
                · rw [if_pos c39] at H
                  have c39b0 : decide ((Int.tmod (rd t337 0) 500) ≤ t342) = true := decide_eq_true c39
                  clear c39
                  by_cases c40 : t342 ≤ t344
                  · rw [if_pos c40] at H
                    have c40b0 : decide (t342 ≤ t344) = true := decide_eq_true c40
                    clear c40
                    replace H := Option.bind_eq_some_iff.mp H
                    obtain ⟨t348, A410, H⟩ := H
                    replace H : (if t348 = (Int.tmod (rd t337 1) 60) then (if (Int.tmod (rd t337 1) 60) = 0 then (if t342 = (Int.tmod (rd t337 0) 500) then (some true) else (if (Int.tmod (rd t337 1) 60) > 0 then ((impl_IsOpen.f kj9 t330 t333 (wrap64 (t342 - 1))).bind fun t349 => (some t349)) else (some false))) else (if (Int.tmod (rd t337 1) 60) > 0 then ((impl_IsOpen.f kj9 t330 t333 (wrap64 (t342 - 1))).bind fun t350 => (some t350)) else (some false))) else (some false)) = some r := H
                    have A41 := Aside0.mk A410
                    clear A410
                    by_cases c42 : t348 = (Int.tmod (rd t337 1) 60)
                    · rw [if_pos c42] at H
                      have c42b0 : (t348 == (Int.tmod (rd t337 1) 60)) = true := beq_iff_eq.mpr c42
                      have c42b1 : (t348 != (Int.tmod (rd t337 1) 60)) = false := bne_eq_false_iff_eq.mpr c42
                      clear c42
                      by_cases c43 : (Int.tmod (rd t337 1) 60) = 0
                      · rw [if_pos c43] at H
                        have c43b0 : ((Int.tmod (rd t337 1) 60) == 0) = true := beq_iff_eq.mpr c43
                        have c43b1 : ((Int.tmod (rd t337 1) 60) != 0) = false := bne_eq_false_iff_eq.mpr c43
                        clear c43
                        by_cases c44 : t342 = (Int.tmod (rd t337 0) 500)
                        · rw [if_pos c44] at H
                          have c44b0 : (t342 == (Int.tmod (rd t337 0) 500)) = true := beq_iff_eq.mpr c44
                          have c44b1 : (t342 != (Int.tmod (rd t337 0) 500)) = false := bne_eq_false_iff_eq.mpr c44
                          clear c44
                          obtain rfl := Option.some.inj H
                          have hcz45_0 : wc.cell? ⟨gb336, 0, none⟩ = some (.slice Ao13 t330.length co13) := (blk_cell BK336.out 0).trans rfl
                          have hcz45_1 : wc.cell? ⟨gb336, 1, none⟩ = some (.slice Ao15 t333.length co15) := (blk_cell BK336.out 1).trans rfl
                          have hfz45_0 := blk_frozen BK336.out 0
                          have hfz45_1 := blk_frozen BK336.out 1
                          go_wp2_with (first | (go_at_call 19; (with_reducible refine (impl_OpenHours.calls kj9 _ _ t330 _ _ t333 (Int.tmod (rd t337 0) 500) t342 t348 _ ?side1 ?side2 ?side3 ?side4 A41.out).mono ?_); (case side1 => repeat (first | exact (Kd.R_reads' HO_337000.out).2.2 | (with_reducible refine Kd.C_alloc ?_ _) | (with_reducible refine Kd.C_drewN ?_ _) | (with_reducible refine Kd.C_drew ?_))); (case side2 => exact (Kd.R_reads' HO_337000.out).2.1); (case side3 => repeat (first | exact (Kd.R_reads' HO_337001.out).2.2 | (with_reducible refine Kd.C_alloc ?_ _) | (with_reducible refine Kd.C_drewN ?_ _) | (with_reducible refine Kd.C_drew ?_))); (case side4 => exact (Kd.R_reads' HO_337001.out).2.1); rintro e w46 ⟨rfl, hb⟩; have n0_ := Aside0.mk (Kd.R_below (by (with_reducible repeat (first | apply Kd.R_alloc | apply Kd.R_drewN | apply Kd.R_drew)); exact HO_337000.out) hb); have n1_ := Aside0.mk (Kd.R_below (by (with_reducible repeat (first | apply Kd.R_alloc | apply Kd.R_drewN | apply Kd.R_drew)); exact HO_337001.out) hb); have n2_ := Aside0.mk (blk_below (g := gb336) (o := .cells #[.slice Ao13 t330.length co13, .slice Ao15 t333.length co15] 29 (0, 0)) (by (with_reducible repeat (first | refine blk_drewN ?_ _ | refine blk_drew ?_ | refine blk_alloc ?_ _)); exact BK336.out) hb); have n3_ := Aside0.mk (below_step (by repeat (first | (with_reducible first | exact HB.out | apply below_alloc | apply pw_below_drewN | apply below_drew1 | refine below_set ?_ GE336.out) | exact HB.out)) hb); clear HO_337000; clear HO_337001; clear BK336; clear HB; have HO_337000 := n0_; have HO_337001 := n1_; have BK336 := n2_; have HB := n3_; clear n0_ n1_ n2_ n3_; (try clear hb); (try clear hb2); (try clear hk); (try clear hi)))
                          go_ret
                          exact ⟨by first | rfl | (simp [errW_none, errW_some] <;> rfl) | (simp [*, errW_none, errW_some] <;> rfl), by repeat (first | (with_reducible first | exact HB.out | apply below_alloc | apply pw_below_drewN | apply below_drew1 | refine below_set ?_ GE336.out) | exact HB.out)⟩
                        · rw [if_neg c44] at H
                          have c44b0 : (t342 == (Int.tmod (rd t337 0) 500)) = false := beq_eq_false_iff_ne.mpr c44
                          have c44b1 : (t342 != (Int.tmod (rd t337 0) 500)) = true := bne_iff_ne.mpr c44
                          by_cases c47 : (Int.tmod (rd t337 1) 60) > 0
                          · rw [if_pos c47] at H
                            have c47b0 : decide (0 < (Int.tmod (rd t337 1) 60)) = true := decide_eq_true c47
                            clear c47
                            replace H := Option.bind_eq_some_iff.mp H
                            obtain ⟨t349, A480, H⟩ := H
                            replace H : (some t349) = some r := H
                            have A48 := Aside0.mk A480
                            clear A480
                            obtain rfl := Option.some.inj H
                            have hcz49_0 : wc.cell? ⟨gb336, 0, none⟩ = some (.slice Ao13 t330.length co13) := (blk_cell BK336.out 0).trans rfl
                            have hcz49_1 : wc.cell? ⟨gb336, 1, none⟩ = some (.slice Ao15 t333.length co15) := (blk_cell BK336.out 1).trans rfl
                            have hfz49_0 := blk_frozen BK336.out 0
                            have hfz49_1 := blk_frozen BK336.out 1
                            go_wp2_with (first | (go_at_call 19; (with_reducible refine (impl_OpenHours.calls kj9 _ _ t330 _ _ t333 (Int.tmod (rd t337 0) 500) t342 t348 _ ?side1 ?side2 ?side3 ?side4 A41.out).mono ?_); (case side1 => repeat (first | exact (Kd.R_reads' HO_337000.out).2.2 | (with_reducible refine Kd.C_alloc ?_ _) | (with_reducible refine Kd.C_drewN ?_ _) | (with_reducible refine Kd.C_drew ?_))); (case side2 => exact (Kd.R_reads' HO_337000.out).2.1); (case side3 => repeat (first | exact (Kd.R_reads' HO_337001.out).2.2 | (with_reducible refine Kd.C_alloc ?_ _) | (with_reducible refine Kd.C_drewN ?_ _) | (with_reducible refine Kd.C_drew ?_))); (case side4 => exact (Kd.R_reads' HO_337001.out).2.1); rintro e w50 ⟨rfl, hb⟩; have n0_ := Aside0.mk (Kd.R_below (by (with_reducible repeat (first | apply Kd.R_alloc | apply Kd.R_drewN | apply Kd.R_drew)); exact HO_337000.out) hb); have n1_ := Aside0.mk (Kd.R_below (by (with_reducible repeat (first | apply Kd.R_alloc | apply Kd.R_drewN | apply Kd.R_drew)); exact HO_337001.out) hb); have n2_ := Aside0.mk (blk_below (g := gb336) (o := .cells #[.slice Ao13 t330.length co13, .slice Ao15 t333.length co15] 29 (0, 0)) (by (with_reducible repeat (first | refine blk_drewN ?_ _ | refine blk_drew ?_ | refine blk_alloc ?_ _)); exact BK336.out) hb); have n3_ := Aside0.mk (below_step (by repeat (first | (with_reducible first | exact HB.out | apply below_alloc | apply pw_below_drewN | apply below_drew1 | refine below_set ?_ GE336.out) | exact HB.out)) hb); clear HO_337000; clear HO_337001; clear BK336; clear HB; have HO_337000 := n0_; have HO_337001 := n1_; have BK336 := n2_; have HB := n3_; clear n0_ n1_ n2_ n3_; (try clear hb); (try clear hb2); (try clear hk); (try clear hi); have hcz51_0 : w50.cell? ⟨gb336, 0, none⟩ = some (.slice Ao13 t330.length co13) := (blk_cell BK336.out 0).trans rfl; have hcz51_1 : w50.cell? ⟨gb336, 1, none⟩ = some (.slice Ao15 t333.length co15) := (blk_cell BK336.out 1).trans rfl; have hfz51_0 := blk_frozen BK336.out 0; have hfz51_1 := blk_frozen BK336.out 1) | (go_at_call 18; (with_reducible refine (impl_IsOpen.calls kj9 _ _ t330 _ _ t333 (wrap64 (t342 - 1)) t349 _ ?side1 ?side2 ?side3 ?side4 A48.out).mono ?_); (case side1 => repeat (first | exact (Kd.R_reads' HO_337000.out).2.2 | (with_reducible refine Kd.C_alloc ?_ _) | (with_reducible refine Kd.C_drewN ?_ _) | (with_reducible refine Kd.C_drew ?_))); (case side2 => exact (Kd.R_reads' HO_337000.out).2.1); (case side3 => repeat (first | exact (Kd.R_reads' HO_337001.out).2.2 | (with_reducible refine Kd.C_alloc ?_ _) | (with_reducible refine Kd.C_drewN ?_ _) | (with_reducible refine Kd.C_drew ?_))); (case side4 => exact (Kd.R_reads' HO_337001.out).2.1); rintro e w52 ⟨rfl, hb⟩; have n0_ := Aside0.mk (Kd.R_below (by (with_reducible repeat (first | apply Kd.R_alloc | apply Kd.R_drewN | apply Kd.R_drew)); exact HO_337000.out) hb); have n1_ := Aside0.mk (Kd.R_below (by (with_reducible repeat (first | apply Kd.R_alloc | apply Kd.R_drewN | apply Kd.R_drew)); exact HO_337001.out) hb); have n2_ := Aside0.mk (blk_below (g := gb336) (o := .cells #[.slice Ao13 t330.length co13, .slice Ao15 t333.length co15] 29 (0, 0)) (by (with_reducible repeat (first | refine blk_drewN ?_ _ | refine blk_drew ?_ | refine blk_alloc ?_ _)); exact BK336.out) hb); have n3_ := Aside0.mk (below_step (by repeat (first | (with_reducible first | exact HB.out | apply below_alloc | apply pw_below_drewN | apply below_drew1 | refine below_set ?_ GE336.out) | exact HB.out)) hb); clear HO_337000; clear HO_337001; clear BK336; clear HB; have HO_337000 := n0_; have HO_337001 := n1_; have BK336 := n2_; have HB := n3_; clear n0_ n1_ n2_ n3_; (try clear hb); (try clear hb2); (try clear hk); (try clear hi)))
                            go_ret
                            exact ⟨by first | rfl | (simp [errW_none, errW_some] <;> rfl) | (simp [*, errW_none, errW_some] <;> rfl), by repeat (first | (with_reducible first | exact HB.out | apply below_alloc | apply pw_below_drewN | apply below_drew1 | refine below_set ?_ GE336.out) | exact HB.out)⟩
                          · rw [if_neg c47] at H
                            have c47b0 : decide (0 < (Int.tmod (rd t337 1) 60)) = false := decide_eq_false c47
                            clear c47
                            exact absurd (Option.some.inj H) (by rw [hr_.out]; decide)
                      · rw [if_neg c43] at H
                        have c43b0 : ((Int.tmod (rd t337 1) 60) == 0) = false := beq_eq_false_iff_ne.mpr c43
                        have c43b1 : ((Int.tmod (rd t337 1) 60) != 0) = true := bne_iff_ne.mpr c43
                        by_cases c53 : (Int.tmod (rd t337 1) 60) > 0
                        · rw [if_pos c53] at H
                          have c53b0 : decide (0 < (Int.tmod (rd t337 1) 60)) = true := decide_eq_true c53
                          clear c53
                          replace H := Option.bind_eq_some_iff.mp H
                          obtain ⟨t350, A540, H⟩ := H
                          replace H : (some t350) = some r := H
                          have A54 := Aside0.mk A540
                          clear A540
                          obtain rfl := Option.some.inj H
                          have hcz55_0 : wc.cell? ⟨gb336, 0, none⟩ = some (.slice Ao13 t330.length co13) := (blk_cell BK336.out 0).trans rfl
                          have hcz55_1 : wc.cell? ⟨gb336, 1, none⟩ = some (.slice Ao15 t333.length co15) := (blk_cell BK336.out 1).trans rfl
                          have hfz55_0 := blk_frozen BK336.out 0
                          have hfz55_1 := blk_frozen BK336.out 1
                          go_wp2_with (first | (go_at_call 19; (with_reducible refine (impl_OpenHours.calls kj9 _ _ t330 _ _ t333 (Int.tmod (rd t337 0) 500) t342 t348 _ ?side1 ?side2 ?side3 ?side4 A41.out).mono ?_); (case side1 => repeat (first | exact (Kd.R_reads' HO_337000.out).2.2 | (with_reducible refine Kd.C_alloc ?_ _) | (with_reducible refine Kd.C_drewN ?_ _) | (with_reducible refine Kd.C_drew ?_))); (case side2 => exact (Kd.R_reads' HO_337000.out).2.1); (case side3 => repeat (first | exact (Kd.R_reads' HO_337001.out).2.2 | (with_reducible refine Kd.C_alloc ?_ _) | (with_reducible refine Kd.C_drewN ?_ _) | (with_reducible refine Kd.C_drew ?_))); (case side4 => exact (Kd.R_reads' HO_337001.out).2.1); rintro e w56 ⟨rfl, hb⟩; have n0_ := Aside0.mk (Kd.R_below (by (with_reducible repeat (first | apply Kd.R_alloc | apply Kd.R_drewN | apply Kd.R_drew)); exact HO_337000.out) hb); have n1_ := Aside0.mk (Kd.R_below (by (with_reducible repeat (first | apply Kd.R_alloc | apply Kd.R_drewN | apply Kd.R_drew)); exact HO_337001.out) hb); have n2_ := Aside0.mk (blk_below (g := gb336) (o := .cells #[.slice Ao13 t330.length co13, .slice Ao15 t333.length co15] 29 (0, 0)) (by (with_reducible repeat (first | refine blk_drewN ?_ _ | refine blk_drew ?_ | refine blk_alloc ?_ _)); exact BK336.out) hb); have n3_ := Aside0.mk (below_step (by repeat (first | (with_reducible first | exact HB.out | apply below_alloc | apply pw_below_drewN | apply below_drew1 | refine below_set ?_ GE336.out) | exact HB.out)) hb); clear HO_337000; clear HO_337001; clear BK336; clear HB; have HO_337000 := n0_; have HO_337001 := n1_; have BK336 := n2_; have HB := n3_; clear n0_ n1_ n2_ n3_; (try clear hb); (try clear hb2); (try clear hk); (try clear hi); have hcz57_0 : w56.cell? ⟨gb336, 0, none⟩ = some (.slice Ao13 t330.length co13) := (blk_cell BK336.out 0).trans rfl; have hcz57_1 : w56.cell? ⟨gb336, 1, none⟩ = some (.slice Ao15 t333.length co15) := (blk_cell BK336.out 1).trans rfl; have hfz57_0 := blk_frozen BK336.out 0; have hfz57_1 := blk_frozen BK336.out 1) | (go_at_call 18; (with_reducible refine (impl_IsOpen.calls kj9 _ _ t330 _ _ t333 (wrap64 (t342 - 1)) t350 _ ?side1 ?side2 ?side3 ?side4 A54.out).mono ?_); (case side1 => repeat (first | exact (Kd.R_reads' HO_337000.out).2.2 | (with_reducible refine Kd.C_alloc ?_ _) | (with_reducible refine Kd.C_drewN ?_ _) | (with_reducible refine Kd.C_drew ?_))); (case side2 => exact (Kd.R_reads' HO_337000.out).2.1); (case side3 => repeat (first | exact (Kd.R_reads' HO_337001.out).2.2 | (with_reducible refine Kd.C_alloc ?_ _) | (with_reducible refine Kd.C_drewN ?_ _) | (with_reducible refine Kd.C_drew ?_))); (case side4 => exact (Kd.R_reads' HO_337001.out).2.1); rintro e w58 ⟨rfl, hb⟩; have n0_ := Aside0.mk (Kd.R_below (by (with_reducible repeat (first | apply Kd.R_alloc | apply Kd.R_drewN | apply Kd.R_drew)); exact HO_337000.out) hb); have n1_ := Aside0.mk (Kd.R_below (by (with_reducible repeat (first | apply Kd.R_alloc | apply Kd.R_drewN | apply Kd.R_drew)); exact HO_337001.out) hb); have n2_ := Aside0.mk (blk_below (g := gb336) (o := .cells #[.slice Ao13 t330.length co13, .slice Ao15 t333.length co15] 29 (0, 0)) (by (with_reducible repeat (first | refine blk_drewN ?_ _ | refine blk_drew ?_ | refine blk_alloc ?_ _)); exact BK336.out) hb); have n3_ := Aside0.mk (below_step (by repeat (first | (with_reducible first | exact HB.out | apply below_alloc | apply pw_below_drewN | apply below_drew1 | refine below_set ?_ GE336.out) | exact HB.out)) hb); clear HO_337000; clear HO_337001; clear BK336; clear HB; have HO_337000 := n0_; have HO_337001 := n1_; have BK336 := n2_; have HB := n3_; clear n0_ n1_ n2_ n3_; (try clear hb); (try clear hb2); (try clear hk); (try clear hi)))
                          go_ret
                          exact ⟨by first | rfl | (simp [errW_none, errW_some] <;> rfl) | (simp [*, errW_none, errW_some] <;> rfl), by repeat (first | (with_reducible first | exact HB.out | apply below_alloc | apply pw_below_drewN | apply below_drew1 | refine below_set ?_ GE336.out) | exact HB.out)⟩
                        · rw [if_neg c53] at H
                          have c53b0 : decide (0 < (Int.tmod (rd t337 1) 60)) = false := decide_eq_false c53
                          clear c53
                          exact absurd (Option.some.inj H) (by rw [hr_.out]; decide)
                    · rw [if_neg c42] at H
                      have c42b0 : (t348 == (Int.tmod (rd t337 1) 60)) = false := beq_eq_false_iff_ne.mpr c42
                      have c42b1 : (t348 != (Int.tmod (rd t337 1) 60)) = true := bne_iff_ne.mpr c42
                      exact absurd (Option.some.inj H) (by rw [hr_.out]; decide)
                  · rw [if_neg c40] at H
                    have c40b0 : decide (t342 ≤ t344) = false := decide_eq_false c40
                    clear c40
                    exact absurd (Option.some.inj H) (by rw [hr_.out]; decide)
                · rw [if_neg c39] at H
                  have c39b0 : decide ((Int.tmod (rd t337 0) 500) ≤ t342) = false := decide_eq_false c39
                  clear c39
                  exact absurd (Option.some.inj H) (by rw [hr_.out]; decide)
              · replace c38 := Bool.eq_false_iff.mpr c38
                subst c38
                have H1 : ((impl_OpenHours.f kj9 t330 t333 (Int.tmod (rd t337 0) 500) 20000).bind fun t351 => (some (decide (t351 < (Int.tmod (rd t337 1) 60))))) = some r := by rw [if_neg (show ¬ (false = true) by decide)] at H; exact H
                clear H
                have H := H1
                clear H1
                replace H := Option.bind_eq_some_iff.mp H
                obtain ⟨t351, A590, H⟩ := H
                replace H : (some (decide (t351 < (Int.tmod (rd t337 1) 60)))) = some r := H
                have A59 := Aside0.mk A590
                clear A590
                obtain rfl := Option.some.inj H
                have hcz60_0 : wc.cell? ⟨gb336, 0, none⟩ = some (.slice Ao13 t330.length co13) := (blk_cell BK336.out 0).trans rfl
                have hcz60_1 : wc.cell? ⟨gb336, 1, none⟩ = some (.slice Ao15 t333.length co15) := (blk_cell BK336.out 1).trans rfl
                have hfz60_0 := blk_frozen BK336.out 0
                have hfz60_1 := blk_frozen BK336.out 1
                go_wp2_with (first | ((with_reducible refine gate_callee (f := 19) rfl ?_); refine goesL_ (some 76) rfl rfl Try.func19 (by kernel_rfl) rfl #[.agg #[.slice Ao13 t330.length co13, .slice Ao15 t333.length co15], .int .i64 (Int.tmod (rd t337 0) 500), .int .i64 20000] rfl (by (try simp only [List.map_toArray, List.map_cons, List.map_nil]); first | done | rfl | (simp only [List.length_drop, List.length_take]; rfl)) ?_; (with_reducible refine (impl_OpenHours.calls kj9 _ _ t330 _ _ t333 (Int.tmod (rd t337 0) 500) 20000 t351 _ ?side1 ?side2 ?side3 ?side4 A59.out).mono ?_); (case side1 => repeat (first | exact (Kd.R_reads' HO_337000.out).2.2 | (with_reducible refine Kd.C_alloc ?_ _) | (with_reducible refine Kd.C_drewN ?_ _) | (with_reducible refine Kd.C_drew ?_))); (case side2 => exact (Kd.R_reads' HO_337000.out).2.1); (case side3 => repeat (first | exact (Kd.R_reads' HO_337001.out).2.2 | (with_reducible refine Kd.C_alloc ?_ _) | (with_reducible refine Kd.C_drewN ?_ _) | (with_reducible refine Kd.C_drew ?_))); (case side4 => exact (Kd.R_reads' HO_337001.out).2.1); rintro e w61 ⟨rfl, hb⟩; refine ⟨_, rfl, ?_⟩; have n0_ := Aside0.mk (Kd.R_below (by (with_reducible repeat (first | apply Kd.R_alloc | apply Kd.R_drewN | apply Kd.R_drew)); exact HO_337000.out) hb); have n1_ := Aside0.mk (Kd.R_below (by (with_reducible repeat (first | apply Kd.R_alloc | apply Kd.R_drewN | apply Kd.R_drew)); exact HO_337001.out) hb); have n2_ := Aside0.mk (blk_below (g := gb336) (o := .cells #[.slice Ao13 t330.length co13, .slice Ao15 t333.length co15] 29 (0, 0)) (by (with_reducible repeat (first | refine blk_drewN ?_ _ | refine blk_drew ?_ | refine blk_alloc ?_ _)); exact BK336.out) hb); have n3_ := Aside0.mk (below_step (by repeat (first | (with_reducible first | exact HB.out | apply below_alloc | apply pw_below_drewN | apply below_drew1 | refine below_set ?_ GE336.out) | exact HB.out)) hb); clear HO_337000; clear HO_337001; clear BK336; clear HB; have HO_337000 := n0_; have HO_337001 := n1_; have BK336 := n2_; have HB := n3_; clear n0_ n1_ n2_ n3_; (try clear hb); (try clear hb2); (try clear hk); (try clear hi)))
                go_ret
                exact ⟨by first | rfl | (simp [errW_none, errW_some] <;> rfl) | (simp [*, errW_none, errW_some] <;> rfl), by repeat (first | (with_reducible first | exact HB.out | apply below_alloc | apply pw_below_drewN | apply below_drew1 | refine below_set ?_ GE336.out) | exact HB.out)⟩
      · rw [if_neg c7] at H
        exact absurd H (by simp)
    · rw [if_neg c6] at H
      exact absurd H (by simp)

end Go.Proofs.Ytpcgefkjeicmlaa.A
