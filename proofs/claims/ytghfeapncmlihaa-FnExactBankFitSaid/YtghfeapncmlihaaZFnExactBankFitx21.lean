/- What the proof of the law FnExactBankFit uses: lemmas, the Lean functions of the Go functions that it reaches, their contracts, and the pure statement's proof. -/
import Derived.Test.YtghfeapncmlihaaZFnExactBankFitx11
import Derived.Test.YtghfeapncmlihaaZFnExactBankFitx20
namespace Go.Proofs.Ytghfeapncmlihaa.A
open Go.RowKit Go.Proofs.YtghfeapncmlihaaW.PrintWords Go.Proofs.YtghfeapncmlihaaW.PrintLast Go.Proofs.YtghfeapncmlihaaW.PrintMore
attribute [local go_sem] max2_int min2_int max_two min_two max_three min_three max_four min_four   
set_option linter.unusedVariables false
set_option linter.unusedSimpArgs false
def spec_l02Least.l0 : Nat → List (S54) → Int → Int → Int → Option (Int)
  | 0, _, _, _, _ => none
  | k + 1, x0, x1, x5, x6 => if x6 < (x0.length : Int) then (if 0 ≤ x6 then (if ((rd_T54 x0 x6).f2) ≥ x1 then (if x5 < 0 then (spec_l02Least.l0 k x0 x1 x6 (wrap64 (x6 + 1))) else (if 0 ≤ x5 then (if x5 < (x0.length : Int) then (if ((rd_T54 x0 x6).f2) < ((rd_T54 x0 x5).f2) then (spec_l02Least.l0 k x0 x1 x6 (wrap64 (x6 + 1))) else (spec_l02Least.l0 k x0 x1 x5 (wrap64 (x6 + 1)))) else (none)) else (none))) else (spec_l02Least.l0 k x0 x1 x5 (wrap64 (x6 + 1)))) else (none)) else (some x5)
def spec_l02Least.f (k : Nat) (l0 : List (S54)) (a1 : Int) : Option (Int) := spec_l02Least.l0 k l0 a1 (-1) 0
set_option maxHeartbeats 8000000 in
set_option maxRecDepth 100000 in
theorem spec_l02Least.calls (k : Nat) (A0 : Option Addr) (c0 : Nat) (l0 : List (S54)) (a1 : Int) (r : Int) (w : World) (hr0 : Kd.C k54 w A0 l0.length l0) (hc0 : l0.length ≤ c0) (h : spec_l02Least.f k l0 a1 = some r) :
    Calls Try.prog 73 #[.slice A0 l0.length c0, .int .i64 a1] w fun e w' => e = .returned (.int .i64 r) ∧ Drawn0 w w' := by
  have HR0 := Aside0.mk hr0
  have HC0 := Aside0.mk hc0
  clear hr0 hc0
  have H : (spec_l02Least.l0 k l0 a1 (-1) 0) = some r := h
  clear h
  have H' := Aside0.mk H
  clear H
  go_enter Try.func73, Try.ntmps73
  go_wp2
  repeat (go_quiet (fail); try go_wp2)
  go_loopg [5, 6] k (fun kq v5 v6 w' => ∃ (x5_1 : Int) (x6_1 : Int), v5 = .int .i64 x5_1 ∧ v6 = .int .i64 x6_1 ∧ Aside0 (spec_l02Least.l0 kq l0 a1 x5_1 x6_1 = some r) ∧ Aside0 (kq ≤ k) ∧ Drawn0 w w')
  case atStart => exact ⟨((-1)), (0), (by first | rfl | (simp; done) | (simp [*]; done)), (by first | rfl | (simp; done) | (simp [*]; done)), H', ⟨Nat.le_refl _⟩, by repeat (first | exact Drawn0.refl _ | apply Drawn0.step)⟩
  case round =>
    clear H'
    try clear p2
    obtain ⟨x5_1, x6_1, rfl, rfl, HA, HK1, ⟨m1, rfl⟩⟩ := hrel
    cases gk with
    | zero => exact absurd HA.out (by simp [spec_l02Least.l0])
    | succ k1 =>
      have H := HA.out
      clear HA
      simp only [spec_l02Least.l0] at H
      by_cases c3 : x6_1 < (l0.length : Int)
      · rw [if_pos c3] at H
        have c3b0 : decide (x6_1 < (l0.length : Int)) = true := decide_eq_true c3
        clear c3
        by_cases c4 : 0 ≤ x6_1
        · rw [if_pos c4] at H
          have c4b0 : decide (0 ≤ x6_1) = true := decide_eq_true c4
          clear c4
          by_cases c5 : ((rd_T54 l0 x6_1).f2) ≥ a1
          · rw [if_pos c5] at H
            have c5b0 : decide (a1 ≤ ((rd_T54 l0 x6_1).f2)) = true := decide_eq_true c5
            clear c5
            by_cases c6 : x5_1 < 0
            · rw [if_pos c6] at H
              have c6b0 : decide (x5_1 < 0) = true := decide_eq_true c6
              clear c6
              have H' := Aside0.mk H
              clear H
              have p508 : 0 ≤ (x6_1 : Int) := of_decide_eq_true (by first | (with_reducible assumption) | assumption)
              have q508 : x6_1 < (l0.length : Int) := of_decide_eq_true (by first | (with_reducible assumption) | assumption)
              obtain ⟨ad508, e508, hx508_0, hx508_1, hx508_2⟩ := at_T54 HR0.out x6_1 p508 q508
              cases e508
              replace p508 := eq_true p508
              replace q508 := eq_true q508
              go_wp2
              repeat (go_quiet (fail); try go_wp2)
              go_roundg k1
              case measure => have := HK1.out; omega
              case rel => exact ⟨(x6_1), (wrap64 (x6_1 + 1)), (by first | rfl | (simp; done) | (simp [*]; done)), (by first | rfl | (simp; done) | (simp [*]; done)), H', ⟨by have := HK1.out; omega⟩, by repeat (first | exact Drawn0.refl _ | apply Drawn0.step)⟩
            · rw [if_neg c6] at H
              have c6b0 : decide (x5_1 < 0) = false := decide_eq_false c6
              clear c6
              by_cases c7 : 0 ≤ x5_1
              · rw [if_pos c7] at H
                have c7b0 : decide (0 ≤ x5_1) = true := decide_eq_true c7
                clear c7
                by_cases c8 : x5_1 < (l0.length : Int)
                · rw [if_pos c8] at H
                  have c8b0 : decide (x5_1 < (l0.length : Int)) = true := decide_eq_true c8
                  clear c8
                  by_cases c9 : ((rd_T54 l0 x6_1).f2) < ((rd_T54 l0 x5_1).f2)
                  · rw [if_pos c9] at H
                    have c9b0 : decide (((rd_T54 l0 x6_1).f2) < ((rd_T54 l0 x5_1).f2)) = true := decide_eq_true c9
                    clear c9
                    have H' := Aside0.mk H
                    clear H
                    have p508 : 0 ≤ (x6_1 : Int) := of_decide_eq_true (by first | (with_reducible assumption) | assumption)
                    have q508 : x6_1 < (l0.length : Int) := of_decide_eq_true (by first | (with_reducible assumption) | assumption)
                    obtain ⟨ad508, e508, hx508_0, hx508_1, hx508_2⟩ := at_T54 HR0.out x6_1 p508 q508
                    cases e508
                    replace p508 := eq_true p508
                    replace q508 := eq_true q508
                    have p509 : 0 ≤ (x6_1 : Int) := of_decide_eq_true (by first | (with_reducible assumption) | assumption)
                    have q509 : x6_1 < (l0.length : Int) := of_decide_eq_true (by first | (with_reducible assumption) | assumption)
                    obtain ⟨ad509, e509, hx509_0, hx509_1, hx509_2⟩ := at_T54 HR0.out x6_1 p509 q509
                    obtain rfl : ad508 = ad509 := (by injection e509)
                    replace p509 := eq_true p509
                    replace q509 := eq_true q509
                    have p510 : 0 ≤ (x5_1 : Int) := of_decide_eq_true (by first | (with_reducible assumption) | assumption)
                    have q510 : x5_1 < (l0.length : Int) := of_decide_eq_true (by first | (with_reducible assumption) | assumption)
                    obtain ⟨ad510, e510, hx510_0, hx510_1, hx510_2⟩ := at_T54 HR0.out x5_1 p510 q510
                    obtain rfl : ad508 = ad510 := (by injection e510)
                    replace p510 := eq_true p510
                    replace q510 := eq_true q510
                    go_wp2
                    repeat (go_quiet (fail); try go_wp2)
                    go_roundg k1
                    case measure => have := HK1.out; omega
                    case rel => exact ⟨(x6_1), (wrap64 (x6_1 + 1)), (by first | rfl | (simp; done) | (simp [*]; done)), (by first | rfl | (simp; done) | (simp [*]; done)), H', ⟨by have := HK1.out; omega⟩, by repeat (first | exact Drawn0.refl _ | apply Drawn0.step)⟩
                  · rw [if_neg c9] at H
                    have c9b0 : decide (((rd_T54 l0 x6_1).f2) < ((rd_T54 l0 x5_1).f2)) = false := decide_eq_false c9
                    clear c9
                    have H' := Aside0.mk H
                    clear H
                    have p508 : 0 ≤ (x6_1 : Int) := of_decide_eq_true (by first | (with_reducible assumption) | assumption)
                    have q508 : x6_1 < (l0.length : Int) := of_decide_eq_true (by first | (with_reducible assumption) | assumption)
                    obtain ⟨ad508, e508, hx508_0, hx508_1, hx508_2⟩ := at_T54 HR0.out x6_1 p508 q508
                    cases e508
                    replace p508 := eq_true p508
                    replace q508 := eq_true q508
                    have p509 : 0 ≤ (x6_1 : Int) := of_decide_eq_true (by first | (with_reducible assumption) | assumption)
                    have q509 : x6_1 < (l0.length : Int) := of_decide_eq_true (by first | (with_reducible assumption) | assumption)
                    obtain ⟨ad509, e509, hx509_0, hx509_1, hx509_2⟩ := at_T54 HR0.out x6_1 p509 q509
                    obtain rfl : ad508 = ad509 := (by injection e509)
                    replace p509 := eq_true p509
                    replace q509 := eq_true q509
                    have p510 : 0 ≤ (x5_1 : Int) := of_decide_eq_true (by first | (with_reducible assumption) | assumption)
                    have q510 : x5_1 < (l0.length : Int) := of_decide_eq_true (by first | (with_reducible assumption) | assumption)
                    obtain ⟨ad510, e510, hx510_0, hx510_1, hx510_2⟩ := at_T54 HR0.out x5_1 p510 q510
                    obtain rfl : ad508 = ad510 := (by injection e510)
                    replace p510 := eq_true p510
                    replace q510 := eq_true q510
                    go_wp2
                    repeat (go_quiet (fail); try go_wp2)
                    go_roundg k1
                    case measure => have := HK1.out; omega
                    case rel => exact ⟨(x5_1), (wrap64 (x6_1 + 1)), (by first | rfl | (simp; done) | (simp [*]; done)), (by first | rfl | (simp; done) | (simp [*]; done)), H', ⟨by have := HK1.out; omega⟩, by repeat (first | exact Drawn0.refl _ | apply Drawn0.step)⟩
                · rw [if_neg c8] at H
                  exact absurd H (by simp)
              · rw [if_neg c7] at H
                exact absurd H (by simp)
          · rw [if_neg c5] at H
            have c5b0 : decide (a1 ≤ ((rd_T54 l0 x6_1).f2)) = false := decide_eq_false c5
            clear c5
            have H' := Aside0.mk H
            clear H
            have p508 : 0 ≤ (x6_1 : Int) := of_decide_eq_true (by first | (with_reducible assumption) | assumption)
            have q508 : x6_1 < (l0.length : Int) := of_decide_eq_true (by first | (with_reducible assumption) | assumption)
            obtain ⟨ad508, e508, hx508_0, hx508_1, hx508_2⟩ := at_T54 HR0.out x6_1 p508 q508
            cases e508
            replace p508 := eq_true p508
            replace q508 := eq_true q508
            go_wp2
            repeat (go_quiet (fail); try go_wp2)
            go_roundg k1
            case measure => have := HK1.out; omega
            case rel => exact ⟨(x5_1), (wrap64 (x6_1 + 1)), (by first | rfl | (simp; done) | (simp [*]; done)), (by first | rfl | (simp; done) | (simp [*]; done)), H', ⟨by have := HK1.out; omega⟩, by repeat (first | exact Drawn0.refl _ | apply Drawn0.step)⟩
        · rw [if_neg c4] at H
          exact absurd H (by simp)
      · rw [if_neg c3] at H
        have c3b0 : decide (x6_1 < (l0.length : Int)) = false := decide_eq_false c3
        clear c3
        obtain rfl := Option.some.inj H
        go_wp2
        repeat (go_quiet (fail); try go_wp2)
        go_ret
        exact ⟨by first | rfl | (simp; done) | (simp [*]; done), by repeat (first | exact Drawn0.refl _ | apply Drawn0.step)⟩
def slices_Index_int_int.l0 : Nat → List Int → Int → Int → Int → Option (Int)
  | 0, _, _, _, _ => none
  | k + 1, x0, x1, x7, x8 => if x8 < x7 then (if 0 ≤ x8 then (if x8 < (x0.length : Int) then (if x1 = (rd x0 x8) then (some x8) else (slices_Index_int_int.l0 k x0 x1 x7 (wrap64 (x8 + 1)))) else (none)) else (none)) else (some (-1))
def slices_Index_int_int.f (k : Nat) (l0 : List Int) (a1 : Int) : Option (Int) := slices_Index_int_int.l0 k l0 a1 (l0.length : Int) 0
set_option maxHeartbeats 8000000 in
set_option maxRecDepth 100000 in
theorem slices_Index_int_int.calls (k : Nat) (A0 : Option Addr) (c0 : Nat) (l0 : List Int) (a1 : Int) (r : Int) (w : World) (hr0 : Kd.C (Kd.int .i64) w A0 l0.length l0) (hc0 : l0.length ≤ c0) (h : slices_Index_int_int.f k l0 a1 = some r) :
    Calls Try.prog 99 #[.slice A0 l0.length c0, .int .i64 a1] w fun e w' => e = .returned (.int .i64 r) ∧ Drawn0 w w' := by
  have HR0 := Aside0.mk hr0
  have HC0 := Aside0.mk hc0
  clear hr0 hc0
  have H : (slices_Index_int_int.l0 k l0 a1 (l0.length : Int) 0) = some r := h
  clear h
  have H' := Aside0.mk H
  clear H
  go_enter Try.func99, Try.ntmps99
  go_wp2
  go_loopg [8] k (fun kq v8 w' => ∃ (x8_1 : Int), v8 = .int .i64 x8_1 ∧ Aside0 (slices_Index_int_int.l0 kq l0 a1 (l0.length : Int) x8_1 = some r) ∧ Aside0 (kq ≤ k) ∧ Drawn0 w w')
  case atStart => exact ⟨(0), (by first | rfl | (simp; done) | (simp [*]; done)), H', ⟨Nat.le_refl _⟩, by repeat (first | exact Drawn0.refl _ | apply Drawn0.step)⟩
  case round =>
    clear H'
    try clear p2
    obtain ⟨x8_1, rfl, HA, HK1, ⟨m1, rfl⟩⟩ := hrel
    cases gk with
    | zero => exact absurd HA.out (by simp [slices_Index_int_int.l0])
    | succ k1 =>
      have H := HA.out
      clear HA
      simp only [slices_Index_int_int.l0] at H
      by_cases c3 : x8_1 < (l0.length : Int)
      · rw [if_pos c3] at H
        have c3b0 : decide (x8_1 < (l0.length : Int)) = true := decide_eq_true c3
        clear c3
        by_cases c4 : 0 ≤ x8_1
        · rw [if_pos c4] at H
          have c4b0 : decide (0 ≤ x8_1) = true := decide_eq_true c4
          clear c4
          by_cases c5 : x8_1 < (l0.length : Int)
          · rw [if_pos c5] at H
            have c5b0 : decide (x8_1 < (l0.length : Int)) = true := decide_eq_true c5
            clear c5
            by_cases c6 : a1 = (rd l0 x8_1)
            · rw [if_pos c6] at H
              have c6b0 : (a1 == (rd l0 x8_1)) = true := beq_iff_eq.mpr c6
              have c6b1 : (a1 != (rd l0 x8_1)) = false := bne_eq_false_iff_eq.mpr c6
              clear c6
              obtain rfl := Option.some.inj H
              have p518 : 0 ≤ (x8_1 : Int) := of_decide_eq_true (by first | (with_reducible assumption) | assumption)
              have q518 : x8_1 < (l0.length : Int) := of_decide_eq_true (by first | (with_reducible assumption) | assumption)
              obtain ⟨ad518, e518, hx518_0⟩ := Kd.at_int HR0.out x8_1 p518 q518
              cases e518
              replace p518 := eq_true p518
              replace q518 := eq_true q518
              go_wp2
              go_ret
              exact ⟨by first | rfl | (simp; done) | (simp [*]; done), by repeat (first | exact Drawn0.refl _ | apply Drawn0.step)⟩
            · rw [if_neg c6] at H
              have c6b0 : (a1 == (rd l0 x8_1)) = false := beq_eq_false_iff_ne.mpr c6
              have c6b1 : (a1 != (rd l0 x8_1)) = true := bne_iff_ne.mpr c6
              have H' := Aside0.mk H
              clear H
              have p518 : 0 ≤ (x8_1 : Int) := of_decide_eq_true (by first | (with_reducible assumption) | assumption)
              have q518 : x8_1 < (l0.length : Int) := of_decide_eq_true (by first | (with_reducible assumption) | assumption)
              obtain ⟨ad518, e518, hx518_0⟩ := Kd.at_int HR0.out x8_1 p518 q518
              cases e518
              replace p518 := eq_true p518
              replace q518 := eq_true q518
              go_wp2
              go_roundg k1
              case measure => have := HK1.out; omega
              case rel => exact ⟨(wrap64 (x8_1 + 1)), (by first | rfl | (simp; done) | (simp [*]; done)), H', ⟨by have := HK1.out; omega⟩, by repeat (first | exact Drawn0.refl _ | apply Drawn0.step)⟩
          · rw [if_neg c5] at H
            exact absurd H (by simp)
        · rw [if_neg c4] at H
          exact absurd H (by simp)
      · rw [if_neg c3] at H
        have c3b0 : decide (x8_1 < (l0.length : Int)) = false := decide_eq_false c3
        clear c3
        obtain rfl := Option.some.inj H
        go_wp2
        go_ret
        exact ⟨by first | rfl | (simp; done) | (simp [*]; done), by repeat (first | exact Drawn0.refl _ | apply Drawn0.step)⟩
def slices_Contains_int_int.f (k : Nat) (l0 : List Int) (a1 : Int) : Option (Bool) := (slices_Index_int_int.f k l0 a1).bind fun t519 => (some (decide (t519 ≥ 0)))
set_option maxHeartbeats 8000000 in
set_option maxRecDepth 100000 in
theorem slices_Contains_int_int.calls (k : Nat) (A0 : Option Addr) (c0 : Nat) (l0 : List Int) (a1 : Int) (r : Bool) (w : World) (hr0 : Kd.C (Kd.int .i64) w A0 l0.length l0) (hc0 : l0.length ≤ c0) (h : slices_Contains_int_int.f k l0 a1 = some r) :
    Calls Try.prog 93 #[.slice A0 l0.length c0, .int .i64 a1] w fun e w' => e = .returned (.bool r) ∧ Drawn0 w w' := by
  have HR0 := Aside0.mk hr0
  have HC0 := Aside0.mk hc0
  clear hr0 hc0
  have H : ((slices_Index_int_int.f k l0 a1).bind fun t519 => (some (decide (t519 ≥ 0)))) = some r := h
  clear h
  replace H := Option.bind_eq_some_iff.mp H
  obtain ⟨t519, A30, H⟩ := H
  replace H : (some (decide (t519 ≥ 0))) = some r := H
  have A3 := Aside0.mk A30
  clear A30
  obtain rfl := Option.some.inj H
  go_enter Try.func93, Try.ntmps93
  go_wp2_with (first | ((with_reducible refine gate_callee (f := 99) rfl ?_); refine goesL_ (some 7) rfl rfl Try.func99 (by kernel_rfl) rfl #[.slice A0 l0.length c0, .int .i64 a1] rfl (by (try simp only [List.map_toArray, List.map_cons, List.map_nil]); first | done | rfl | (simp only [List.length_drop, List.length_take]; rfl)) ?_; (with_reducible refine (slices_Index_int_int.calls k _ _ l0 a1 t519 _ ?side1 ?side2 A3.out).mono ?_); (case side1 => repeat (first | exact HR0.out | (with_reducible refine Kd.C_alloc ?_ _) | (with_reducible refine Kd.C_drewN ?_ _) | (with_reducible refine Kd.C_drew ?_))); (case side2 => exact HC0.out); rintro e w' ⟨rfl, ⟨nd, rfl⟩⟩; refine ⟨_, rfl, ?_⟩))
  go_ret
  exact ⟨by first | rfl | (simp; done) | (simp [*]; done), by repeat (first | exact Drawn0.refl _ | apply Drawn0.step)⟩
end Go.Proofs.Ytghfeapncmlihaa.A

namespace Go.Proofs.Ytghfeapncmlihaa.A
open Go.RowKit Go.Proofs.YtghfeapncmlihaaW.PrintWords Go.Proofs.YtghfeapncmlihaaW.PrintLast Go.Proofs.YtghfeapncmlihaaW.PrintMore
attribute [local go_sem] max2_int min2_int max_two min_two max_three min_three max_four min_four   
set_option linter.unusedVariables false
set_option linter.unusedSimpArgs false
mutual
def impl_runsOf.l0 : Nat → List (S85) → Bool → List (S71) → Int → Int → Int → List Int → List (S71) → Option ((List (S85)))
  | 0, _, _, _, _, _, _, _, _ => none
  | k + 1, x3, x4, x9, x10, x11, x521000, x521001, x521002 => if x11 < x10 then (if 0 ≤ x11 then (if x11 < (x9.length : Int) then (if ((rd_T71 x9 x11).f2) = 0 then (impl_runsOf.j1 k x3 x4 x11 x9 x10 x11 ((rd_T71 x9 x11).f3) x521000 x521001 x521002 ((rd_T71 x9 x11).f0) ((rd_T71 x9 x11).f1) ((rd_T71 x9 x11).f2) ((rd_T71 x9 x11).f3)) else (impl_runsOf.j1 k x3 x4 x11 x9 x10 x11 true x521000 x521001 x521002 ((rd_T71 x9 x11).f0) ((rd_T71 x9 x11).f1) ((rd_T71 x9 x11).f2) ((rd_T71 x9 x11).f3))) else (none)) else (none)) else (some x3)
def impl_runsOf.j1 : Nat → List (S85) → Bool → Int → List (S71) → Int → Int → Bool → Int → List Int → List (S71) → Int → Int → Int → Bool → Option ((List (S85)))
  | 0, _, _, _, _, _, _, _, _, _, _, _, _, _, _ => none
  | k + 1, x3, x4, x5, x9, x10, x11, x22, x521000, x521001, x521002, x523000, x523001, x523002, x523003 => if x22 = true then (impl_runsOf.l0 k x3 false x9 x10 (wrap64 (x11 + 1)) x521000 x521001 x521002) else (if x4 = true then ((slices_Contains_int_int.f k x521001 x523000).bind fun t523 => (if t523 = true then (if x3.length < 3518437208883 then (impl_runsOf.l0 k (x3 ++ [(⟨(⟨0, x523000, x523001⟩ : S54), x5, wrap64 (x5 + 1)⟩ : S85)]) true x9 x10 (wrap64 (x11 + 1)) x521000 x521001 x521002) else (none)) else (if 0 ≤ (wrap64 ((x3.length : Int) - 1)) then (if (wrap64 ((x3.length : Int) - 1)) < (x3.length : Int) then ((some (x3.set ((wrap64 ((x3.length : Int) - 1)) : Int).toNat (⟨(⟨(rd_T85 x3 (wrap64 ((x3.length : Int) - 1))).f0.f0, (rd_T85 x3 (wrap64 ((x3.length : Int) - 1))).f0.f1, wrap64 (((rd_T85 x3 (wrap64 ((x3.length : Int) - 1))).f0.f2) + x523001)⟩ : S54), (rd_T85 x3 (wrap64 ((x3.length : Int) - 1))).f1, (rd_T85 x3 (wrap64 ((x3.length : Int) - 1))).f2⟩ : S85) : List (S85))).bind fun y528 => (impl_runsOf.l0 k (y528.set ((wrap64 ((x3.length : Int) - 1)) : Int).toNat (⟨(⟨(rd_T85 y528 (wrap64 ((x3.length : Int) - 1))).f0.f0, (rd_T85 y528 (wrap64 ((x3.length : Int) - 1))).f0.f1, (rd_T85 y528 (wrap64 ((x3.length : Int) - 1))).f0.f2⟩ : S54), (rd_T85 y528 (wrap64 ((x3.length : Int) - 1))).f1, wrap64 (((rd_T85 y528 (wrap64 ((x3.length : Int) - 1))).f2) + 1)⟩ : S85)) true x9 x10 (wrap64 (x11 + 1)) x521000 x521001 x521002)) else (none)) else (none)))) else (if x3.length < 3518437208883 then (impl_runsOf.l0 k (x3 ++ [(⟨(⟨0, x523000, x523001⟩ : S54), x5, wrap64 (x5 + 1)⟩ : S85)]) true x9 x10 (wrap64 (x11 + 1)) x521000 x521001 x521002) else (none)))
end
def impl_runsOf.f (k : Nat) (a0_0 : Int) (l0_1 : List Int) (l0_2 : List (S71)) : Option ((List (S85))) := impl_runsOf.l0 k ([] : List (S85)) false l0_2 (l0_2.length : Int) 0 a0_0 l0_1 l0_2
def impl_runsOf.T10 : Bool × List (List Nat × List Nat) := (true, [([], []), ([0], [0]), ([1], [1]), ([2], [2]), ([3], [3]), ([], []), ([5], [5]), ([4, 6], [4, 6]), ([0, 0, 1, 2, 3, 4, 5, 6, 7], [0]), ([8, 0, 1, 2, 3, 4, 5, 6, 7], [8]), ([9, 0, 1, 2, 3, 4, 5, 6, 7], [9]), ([10, 7, 0, 1, 2, 3, 4, 5, 6, 7], [7, 10])])
def impl_runsOf.B10 : List Nat := [0, 1, 3, 7, 15, 0, 32, 127, 255, 511, 1023, 2047]
theorem impl_runsOf.tab10 : rtab .any (opsOf Try.f77 10) = impl_runsOf.T10 := by kernel_rfl
theorem impl_runsOf.bits10 : waitsOk impl_runsOf.T10.2 impl_runsOf.B10 = true := by kernel_rfl
set_option maxHeartbeats 8000000 in
set_option maxRecDepth 100000 in
theorem impl_runsOf.calls (k : Nat) (a0_0 : Int) (A0_1 : Option Addr) (c0_1 : Nat) (l0_1 : List Int) (A0_2 : Option Addr) (c0_2 : Nat) (l0_2 : List (S71)) (r : List (S85)) (w : World) (hr0_1 : Kd.C (Kd.int .i64) w A0_1 l0_1.length l0_1) (hc0_1 : l0_1.length ≤ c0_1) (hr0_2 : Kd.C k71 w A0_2 l0_2.length l0_2) (hc0_2 : l0_2.length ≤ c0_2) (h : impl_runsOf.f k a0_0 l0_1 l0_2 = some r) :
    Calls Try.prog 77 #[.agg #[.int .i64 a0_0, .slice A0_1 l0_1.length c0_1, .slice A0_2 l0_2.length c0_2]] w fun e w' => ∃ v0_ : Value, e = .returned (v0_) ∧ Kd.R k85 85 w' w.heap.size (fun _ => True) v0_ r ∧ Below w.heap.size w w' := by
  have hu30 := Try.underlying30
  have hu71 := Try.underlying71
  have hu54 := Try.underlying54
  have hu85 := Try.underlying85
  have HR0_1 := Aside0.mk hr0_1
  have HC0_1 := Aside0.mk hc0_1
  clear hr0_1 hc0_1
  have HR0_2 := Aside0.mk hr0_2
  have HC0_2 := Aside0.mk hc0_2
  clear hr0_2 hc0_2
  have HB := Aside0.mk (Below.refl w.heap.size w)
  have H : (impl_runsOf.l0 k ([] : List (S85)) false l0_2 (l0_2.length : Int) 0 a0_0 l0_1 l0_2) = some r := h
  clear h
  have H' := Aside0.mk H
  clear H
  go_enter Try.func77, Try.ntmps77
  go_wp2_with (first | ((with_reducible refine gate_dst (N := 1) rfl ?_); refine box_event ?hg (N := 1) ?hd (cs := #[.int .i64 a0_0, .slice A0_1 l0_1.length c0_1, .slice A0_2 l0_2.length c0_2]) (t := 30) ?hr ?_; (case hd => rfl); (case hg => rfl); (case hr => first | (go_simp; done) | (go_simp; rfl)); intro gb520 hg w2 hbox hb; have n0_ := Aside0.mk (below_step (by repeat (first | (with_reducible first | exact HB.out | apply below_alloc | apply pw_below_drewN | apply below_drew1) | exact HB.out)) hb); have n1_ := Aside0.mk (hbox); have n2_ := Aside0.mk ((by rw [hg]; exact (below_size (by repeat (first | (with_reducible first | exact HB.out | apply below_alloc | apply pw_below_drewN | apply below_drew1) | exact HB.out))) : w.heap.size ≤ gb520)); have n3_ := Aside0.mk ((by rw [hg]; exact (below_size (by repeat (first | (with_reducible first | exact HB.out | apply below_alloc | apply pw_below_drewN | apply below_drew1) | exact HB.out))) : w.heap.size ≤ gb520)); clear HB; have HB := n0_; have BK520 := n1_; have GW520 := n2_; have GE520 := n3_; clear n0_ n1_ n2_ n3_; clear hb hbox hg; have hcz3_0 : w2.cell? ⟨gb520, 0, none⟩ = some (.int .i64 a0_0) := (blk_cell BK520.out 0).trans rfl; have hcz3_1 : w2.cell? ⟨gb520, 1, none⟩ = some (.slice A0_1 l0_1.length c0_1) := (blk_cell BK520.out 1).trans rfl; have hcz3_2 : w2.cell? ⟨gb520, 2, none⟩ = some (.slice A0_2 l0_2.length c0_2) := (blk_cell BK520.out 2).trans rfl; have hfz3_0 := blk_frozen BK520.out 0; have hfz3_1 := blk_frozen BK520.out 1; have hfz3_2 := blk_frozen BK520.out 2))
  go_loopg [3, 4, 11] k (fun kq v3 v4 v11 w' => ∃ (x3_1 : List (S85)) (x4_1 : Bool) (x11_1 : Int), v4 = .bool x4_1 ∧ v11 = .int .i64 x11_1 ∧ Aside0 (impl_runsOf.l0 kq x3_1 x4_1 l0_2 (l0_2.length : Int) x11_1 a0_0 l0_1 l0_2 = some r) ∧ Aside0 (kq ≤ k) ∧ Aside0 (Kd.R k85 85 w' w.heap.size (fun _ => True) v3 x3_1) ∧ Aside0 (w'.heap[gb520]? = some (.cells #[.int .i64 a0_0, (.slice A0_1 l0_1.length c0_1), (.slice A0_2 l0_2.length c0_2)] 30 (0, 0))) ∧ Aside0 (Below w.heap.size w w'))
  case atStart => exact ⟨(([] : List (S85))), (false), (0), (by first | rfl | (simp; done) | (simp [*]; done)), (by first | rfl | (simp; done) | (simp [*]; done)), H', ⟨Nat.le_refl _⟩, ⟨by first | exact Kd.R_nil _ _ _ _ _ | exact Kd.N_nil _ _ _ _ _ | exact Kd.V_nil _ _ _ _ _ | exact Kd.Q_nil _ _ _ _ _ | exact Kd.S_nil _ _ _ _ _⟩, ⟨by (with_reducible repeat (first | refine blk_drewN ?_ _ | refine blk_drew ?_ | refine blk_alloc ?_ _)); exact BK520.out⟩, ⟨by repeat (first | (with_reducible first | exact HB.out | apply below_alloc | apply pw_below_drewN | apply below_drew1 | refine below_set ?_ GE520.out) | exact HB.out)⟩⟩
  case round =>
    clear H'
    try clear p2
    try clear hcz3_0
    try clear hcz3_1
    try clear hcz3_2
    try clear hfz3_0
    try clear hfz3_1
    try clear hfz3_2
    obtain ⟨x3_1, x4_1, x11_1, rfl, rfl, HA, HK1, HO_3, BK520, HB⟩ := hrel
    cases gk with
    | zero => exact absurd HA.out (by simp [impl_runsOf.l0])
    | succ k1 =>
      have H := HA.out
      clear HA
      simp only [impl_runsOf.l0] at H
      by_cases c4 : x11_1 < (l0_2.length : Int)
      · rw [if_pos c4] at H
        have c4b0 : decide (x11_1 < (l0_2.length : Int)) = true := decide_eq_true c4
        clear c4
        by_cases c5 : 0 ≤ x11_1
        · rw [if_pos c5] at H
          have c5b0 : decide (0 ≤ x11_1) = true := decide_eq_true c5
          clear c5
          by_cases c6 : x11_1 < (l0_2.length : Int)
          · rw [if_pos c6] at H
            have c6b0 : decide (x11_1 < (l0_2.length : Int)) = true := decide_eq_true c6
            clear c6
            have HC7 := Aside0.mk H
            clear H
            have p521 : 0 ≤ (x11_1 : Int) := of_decide_eq_true (by first | (with_reducible assumption) | assumption)
            have q521 : x11_1 < (l0_2.length : Int) := of_decide_eq_true (by first | (with_reducible assumption) | assumption)
            obtain ⟨ad521, e521, hx521_0, hx521_1, hx521_2, hx521_3⟩ := at_T71 HR0_2.out x11_1 p521 q521
            cases e521
            replace hx521_0 := (HB.out.cell (World.block_lt_of_cell? w _ hx521_0)).trans hx521_0
            replace hx521_1 := (HB.out.cell (World.block_lt_of_cell? w _ hx521_1)).trans hx521_1
            replace hx521_2 := (HB.out.cell (World.block_lt_of_cell? w _ hx521_2)).trans hx521_2
            replace hx521_3 := (HB.out.cell (World.block_lt_of_cell? w _ hx521_3)).trans hx521_3
            replace p521 := eq_true p521
            replace q521 := eq_true q521
            go_upto_region 6 with (first | ((with_reducible refine gate_dst (N := 6) rfl ?_); refine box_event ?hg (N := 6) ?hd (cs := #[.int .i64 0, .int .i64 0, .int .i64 0, .bool false]) (t := 71) ?hr ?_; (case hd => rfl); (case hg => rfl); (case hr => first | (go_simp; done) | (go_simp; rfl)); intro gb522 hg w8 hbox hb; have n0_ := Aside0.mk (Kd.R_below (by (with_reducible repeat (first | apply Kd.R_alloc | apply Kd.R_drewN | apply Kd.R_drew)); exact HO_3.out) hb); have n1_ := Aside0.mk (blk_below (g := gb520) (o := .cells #[.int .i64 a0_0, .slice A0_1 l0_1.length c0_1, .slice (some ad521) l0_2.length c0_2] 30 (0, 0)) (by (with_reducible repeat (first | refine blk_drewN ?_ _ | refine blk_drew ?_ | refine blk_alloc ?_ _)); exact BK520.out) hb); have n2_ := Aside0.mk (below_step (by repeat (first | (with_reducible first | exact HB.out | apply below_alloc | apply pw_below_drewN | apply below_drew1 | refine below_set ?_ GE520.out) | exact HB.out)) hb); have n3_ := Aside0.mk (hbox); have n4_ := Aside0.mk ((by rw [hg]; exact (below_size (by repeat (first | (with_reducible first | exact HB.out | apply below_alloc | apply pw_below_drewN | apply below_drew1 | refine below_set ?_ GE520.out) | exact HB.out))) : w.heap.size ≤ gb522)); have n5_ := Aside0.mk ((by rw [hg]; exact (below_size (by repeat (first | (with_reducible first | exact HB.out | apply below_alloc | apply pw_below_drewN | apply below_drew1 | refine below_set ?_ GE520.out) | exact HB.out))) : w.heap.size ≤ gb522)); have n6_ := Aside0.mk ((by rw [hg]; exact Nat.ne_of_lt (blk_lt (g := gb520) (o := .cells #[.int .i64 a0_0, .slice A0_1 l0_1.length c0_1, .slice (some ad521) l0_2.length c0_2] 30 (0, 0)) (by (with_reducible repeat (first | refine blk_drewN ?_ _ | refine blk_drew ?_ | refine blk_alloc ?_ _)); exact BK520.out)) : gb520 ≠ gb522)); have n7_ := Aside0.mk ((by rw [hg]; exact Nat.ne_of_gt (blk_lt (g := gb520) (o := .cells #[.int .i64 a0_0, .slice A0_1 l0_1.length c0_1, .slice (some ad521) l0_2.length c0_2] 30 (0, 0)) (by (with_reducible repeat (first | refine blk_drewN ?_ _ | refine blk_drew ?_ | refine blk_alloc ?_ _)); exact BK520.out)) : gb522 ≠ gb520)); clear HO_3; clear BK520; clear HB; have HO_3 := n0_; have BK520 := n1_; have HB := n2_; have BK522 := n3_; have GW522 := n4_; have GE522 := n5_; have NB520_522 := n6_; have NB522_520 := n7_; clear n0_ n1_ n2_ n3_ n4_ n5_ n6_ n7_; clear hb hbox hg; have hnb9 := NB522_520.out; have hnc9 := NB520_522.out; have hcz10_0 : w8.cell? ⟨gb522, 0, none⟩ = some (.int .i64 0) := (blk_cell BK522.out 0).trans rfl; have hcz10_1 : w8.cell? ⟨gb522, 1, none⟩ = some (.int .i64 0) := (blk_cell BK522.out 1).trans rfl; have hcz10_2 : w8.cell? ⟨gb522, 2, none⟩ = some (.int .i64 0) := (blk_cell BK522.out 2).trans rfl; have hcz10_3 : w8.cell? ⟨gb522, 3, none⟩ = some (.bool false) := (blk_cell BK522.out 3).trans rfl; have hfz10_0 := blk_frozen BK522.out 0; have hfz10_1 := blk_frozen BK522.out 1; have hfz10_2 := blk_frozen BK522.out 2; have hfz10_3 := blk_frozen BK522.out 3))
            (try simp only [Act.put, List.setIfInBounds_toArray, List.set_cons_zero, List.set_cons_succ])
            go_cut [22] (fun v22 wc => ∃ (kq : Nat) (x22_6 : Bool), v22 = .bool x22_6 ∧ Aside0 (impl_runsOf.j1 kq x3_1 x4_1 x11_1 l0_2 (l0_2.length : Int) x11_1 x22_6 a0_0 l0_1 l0_2 ((rd_T71 l0_2 x11_1).f0) ((rd_T71 l0_2 x11_1).f1) ((rd_T71 l0_2 x11_1).f2) ((rd_T71 l0_2 x11_1).f3) = some r) ∧ Aside0 (kq ≤ k1) ∧ Aside0 (Kd.R k85 85 wc w.heap.size (fun _ => True) u3 x3_1) ∧ Aside0 (wc.heap[gb520]? = some (.cells #[.int .i64 a0_0, (.slice A0_1 l0_1.length c0_1), (.slice (some ad521) l0_2.length c0_2)] 30 (0, 0))) ∧ Aside0 (wc.heap[gb522]? = some (.cells #[.int .i64 ((rd_T71 l0_2 x11_1).f0), .int .i64 ((rd_T71 l0_2 x11_1).f1), .int .i64 ((rd_T71 l0_2 x11_1).f2), .bool ((rd_T71 l0_2 x11_1).f3)] 71 (0, 0))) ∧ Aside0 (Below w.heap.size w wc))
            case first =>
              have H := HC7.out
              clear HC7
              by_cases c11 : ((rd_T71 l0_2 x11_1).f2) = 0
              · rw [if_pos c11] at H
                have c11b0 : (((rd_T71 l0_2 x11_1).f2) == 0) = true := beq_iff_eq.mpr c11
                have c11b1 : (((rd_T71 l0_2 x11_1).f2) != 0) = false := bne_eq_false_iff_eq.mpr c11
                clear c11
                (first | rw [c11b0] | (simp only [i64_w, i32_w]; rw [c11b0]) | skip)
                have H' := Aside0.mk H
                clear H
                have hnb12 := NB522_520.out
                have hnc12 := NB520_522.out
                have hcz13_0 : w8.cell? ⟨gb522, 0, none⟩ = some (.int .i64 0) := (blk_cell BK522.out 0).trans rfl
                have hcz13_1 : w8.cell? ⟨gb522, 1, none⟩ = some (.int .i64 0) := (blk_cell BK522.out 1).trans rfl
                have hcz13_2 : w8.cell? ⟨gb522, 2, none⟩ = some (.int .i64 0) := (blk_cell BK522.out 2).trans rfl
                have hcz13_3 : w8.cell? ⟨gb522, 3, none⟩ = some (.bool false) := (blk_cell BK522.out 3).trans rfl
                have hfz13_0 := blk_frozen BK522.out 0
                have hfz13_1 := blk_frozen BK522.out 1
                have hfz13_2 := blk_frozen BK522.out 2
                have hfz13_3 := blk_frozen BK522.out 3
                go_wp2
                go_meet
                case rel => exact ⟨_, ((rd_T71 l0_2 x11_1).f3), (by first | rfl | (simp; done) | (simp [*]; done)), H', ⟨by have := HK1.out; first | omega | exact Nat.le_refl _⟩, ⟨by (with_reducible repeat (first | apply Kd.R_alloc | apply Kd.R_drewN | apply Kd.R_drew)); exact Kd.R_mono (Kd.R_far (p := ⟨gb522, 3, none⟩) (Kd.R_far (p := ⟨gb522, 2, none⟩) (Kd.R_far (p := ⟨gb522, 1, none⟩) (Kd.R_far (p := ⟨gb522, 0, none⟩) (Kd.R_types HO_3.out BK522.out (by decide)) (fun _ hk => hk.2) (.int .i64 ((rd_T71 l0_2 x11_1).f0))) (fun _ hk => hk.2) (.int .i64 ((rd_T71 l0_2 x11_1).f1))) (fun _ hk => hk.2) (.int .i64 ((rd_T71 l0_2 x11_1).f2))) (fun _ hk => hk.2) (.bool ((rd_T71 l0_2 x11_1).f3))) (fun _ hk => trivial)⟩, ⟨by (with_reducible repeat (first | refine blk_drewN ?_ _ | refine blk_drew ?_ | refine blk_alloc ?_ _)); refine blk_far ?_ NB520_522.out _; (with_reducible repeat (first | refine blk_drewN ?_ _ | refine blk_drew ?_ | refine blk_alloc ?_ _)); refine blk_far ?_ NB520_522.out _; (with_reducible repeat (first | refine blk_drewN ?_ _ | refine blk_drew ?_ | refine blk_alloc ?_ _)); refine blk_far ?_ NB520_522.out _; (with_reducible repeat (first | refine blk_drewN ?_ _ | refine blk_drew ?_ | refine blk_alloc ?_ _)); refine blk_far ?_ NB520_522.out _; (with_reducible repeat (first | refine blk_drewN ?_ _ | refine blk_drew ?_ | refine blk_alloc ?_ _)); exact BK520.out⟩, ⟨by (with_reducible repeat (first | refine blk_drewN ?_ _ | refine blk_drew ?_ | refine blk_alloc ?_ _)); refine blk_put (cs := #[.int .i64 ((rd_T71 l0_2 x11_1).f0), .int .i64 ((rd_T71 l0_2 x11_1).f1), .int .i64 ((rd_T71 l0_2 x11_1).f2), .bool false]) ?_ 3 _ rfl; (with_reducible repeat (first | refine blk_drewN ?_ _ | refine blk_drew ?_ | refine blk_alloc ?_ _)); refine blk_put (cs := #[.int .i64 ((rd_T71 l0_2 x11_1).f0), .int .i64 ((rd_T71 l0_2 x11_1).f1), .int .i64 0, .bool false]) ?_ 2 _ rfl; (with_reducible repeat (first | refine blk_drewN ?_ _ | refine blk_drew ?_ | refine blk_alloc ?_ _)); refine blk_put (cs := #[.int .i64 ((rd_T71 l0_2 x11_1).f0), .int .i64 0, .int .i64 0, .bool false]) ?_ 1 _ rfl; (with_reducible repeat (first | refine blk_drewN ?_ _ | refine blk_drew ?_ | refine blk_alloc ?_ _)); refine blk_put (cs := #[.int .i64 0, .int .i64 0, .int .i64 0, .bool false]) ?_ 0 _ rfl; (with_reducible repeat (first | refine blk_drewN ?_ _ | refine blk_drew ?_ | refine blk_alloc ?_ _)); exact BK522.out⟩, ⟨by repeat (first | (with_reducible first | exact HB.out | apply below_alloc | apply pw_below_drewN | apply below_drew1 | refine below_set ?_ GE520.out | refine below_set ?_ GE522.out) | exact HB.out)⟩⟩
              · rw [if_neg c11] at H
                have c11b0 : (((rd_T71 l0_2 x11_1).f2) == 0) = false := beq_eq_false_iff_ne.mpr c11
                have c11b1 : (((rd_T71 l0_2 x11_1).f2) != 0) = true := bne_iff_ne.mpr c11
                (first | rw [c11b0] | (simp only [i64_w, i32_w]; rw [c11b0]) | skip)
                have H' := Aside0.mk H
                clear H
                have hnb14 := NB522_520.out
                have hnc14 := NB520_522.out
                have hcz15_0 : w8.cell? ⟨gb522, 0, none⟩ = some (.int .i64 0) := (blk_cell BK522.out 0).trans rfl
                have hcz15_1 : w8.cell? ⟨gb522, 1, none⟩ = some (.int .i64 0) := (blk_cell BK522.out 1).trans rfl
                have hcz15_2 : w8.cell? ⟨gb522, 2, none⟩ = some (.int .i64 0) := (blk_cell BK522.out 2).trans rfl
                have hcz15_3 : w8.cell? ⟨gb522, 3, none⟩ = some (.bool false) := (blk_cell BK522.out 3).trans rfl
                have hfz15_0 := blk_frozen BK522.out 0
                have hfz15_1 := blk_frozen BK522.out 1
                have hfz15_2 := blk_frozen BK522.out 2
                have hfz15_3 := blk_frozen BK522.out 3
                go_wp2
                go_meet
                case rel => exact ⟨_, (true), (by first | rfl | (simp; done) | (simp [*]; done)), H', ⟨by have := HK1.out; first | omega | exact Nat.le_refl _⟩, ⟨by (with_reducible repeat (first | apply Kd.R_alloc | apply Kd.R_drewN | apply Kd.R_drew)); exact Kd.R_mono (Kd.R_far (p := ⟨gb522, 3, none⟩) (Kd.R_far (p := ⟨gb522, 2, none⟩) (Kd.R_far (p := ⟨gb522, 1, none⟩) (Kd.R_far (p := ⟨gb522, 0, none⟩) (Kd.R_types HO_3.out BK522.out (by decide)) (fun _ hk => hk.2) (.int .i64 ((rd_T71 l0_2 x11_1).f0))) (fun _ hk => hk.2) (.int .i64 ((rd_T71 l0_2 x11_1).f1))) (fun _ hk => hk.2) (.int .i64 ((rd_T71 l0_2 x11_1).f2))) (fun _ hk => hk.2) (.bool ((rd_T71 l0_2 x11_1).f3))) (fun _ hk => trivial)⟩, ⟨by (with_reducible repeat (first | refine blk_drewN ?_ _ | refine blk_drew ?_ | refine blk_alloc ?_ _)); refine blk_far ?_ NB520_522.out _; (with_reducible repeat (first | refine blk_drewN ?_ _ | refine blk_drew ?_ | refine blk_alloc ?_ _)); refine blk_far ?_ NB520_522.out _; (with_reducible repeat (first | refine blk_drewN ?_ _ | refine blk_drew ?_ | refine blk_alloc ?_ _)); refine blk_far ?_ NB520_522.out _; (with_reducible repeat (first | refine blk_drewN ?_ _ | refine blk_drew ?_ | refine blk_alloc ?_ _)); refine blk_far ?_ NB520_522.out _; (with_reducible repeat (first | refine blk_drewN ?_ _ | refine blk_drew ?_ | refine blk_alloc ?_ _)); exact BK520.out⟩, ⟨by (with_reducible repeat (first | refine blk_drewN ?_ _ | refine blk_drew ?_ | refine blk_alloc ?_ _)); refine blk_put (cs := #[.int .i64 ((rd_T71 l0_2 x11_1).f0), .int .i64 ((rd_T71 l0_2 x11_1).f1), .int .i64 ((rd_T71 l0_2 x11_1).f2), .bool false]) ?_ 3 _ rfl; (with_reducible repeat (first | refine blk_drewN ?_ _ | refine blk_drew ?_ | refine blk_alloc ?_ _)); refine blk_put (cs := #[.int .i64 ((rd_T71 l0_2 x11_1).f0), .int .i64 ((rd_T71 l0_2 x11_1).f1), .int .i64 0, .bool false]) ?_ 2 _ rfl; (with_reducible repeat (first | refine blk_drewN ?_ _ | refine blk_drew ?_ | refine blk_alloc ?_ _)); refine blk_put (cs := #[.int .i64 ((rd_T71 l0_2 x11_1).f0), .int .i64 0, .int .i64 0, .bool false]) ?_ 1 _ rfl; (with_reducible repeat (first | refine blk_drewN ?_ _ | refine blk_drew ?_ | refine blk_alloc ?_ _)); refine blk_put (cs := #[.int .i64 0, .int .i64 0, .int .i64 0, .bool false]) ?_ 0 _ rfl; (with_reducible repeat (first | refine blk_drewN ?_ _ | refine blk_drew ?_ | refine blk_alloc ?_ _)); exact BK522.out⟩, ⟨by repeat (first | (with_reducible first | exact HB.out | apply below_alloc | apply pw_below_drewN | apply below_drew1 | refine below_set ?_ GE520.out | refine below_set ?_ GE522.out) | exact HB.out)⟩⟩
            case rest =>
              clear HC7
              try clear c1
              try clear p2
              try clear c4
              try clear c4b0
              try clear c5
              try clear c5b0
              try clear p5
              try clear q5
              try clear hx5
              try clear c6
              try clear c6b0
              try clear c7
              try clear c9
              try clear c11
              try clear c11b0
              try clear c11b1
              try clear c12
              try clear c14
              try clear hcz10_0
              try clear hcz10_1
              try clear hcz10_2
              try clear hcz10_3
              try clear hcz13_0
              try clear hcz13_1
              try clear hcz13_2
              try clear hcz13_3
              try clear hcz15_0
              try clear hcz15_1
              try clear hcz15_2
              try clear hcz15_3
              try clear hcz3_0
              try clear hcz3_1
              try clear hcz3_2
              try clear hfz10_0
              try clear hfz10_1
              try clear hfz10_2
              try clear hfz10_3
              try clear hfz13_0
              try clear hfz13_1
              try clear hfz13_2
              try clear hfz13_3
              try clear hfz15_0
              try clear hfz15_1
              try clear hfz15_2
              try clear hfz15_3
              try clear hfz3_0
              try clear hfz3_1
              try clear hfz3_2
              try clear hx521_0
              try clear hx521_1
              try clear hx521_2
              try clear hx521_3
              try clear p2
              try clear p521
              try clear q521
              obtain ⟨kq, x22_6, rfl, HA, HJ6, HO_3, BK520, BK522, HB⟩ := hcut
              cases kq with
              | zero => exact absurd HA.out (by simp [impl_runsOf.j1])
              | succ kj6 =>
                have H := HA.out
                clear HA
                simp only [impl_runsOf.j1] at H
                by_cases c16 : x22_6 = true
                · subst c16
                  have H1 : (impl_runsOf.l0 kj6 x3_1 false l0_2 (l0_2.length : Int) (wrap64 (x11_1 + 1)) a0_0 l0_1 l0_2) = some r := by rw [if_pos rfl] at H; exact H
                  clear H
                  have H := H1
                  clear H1
                  have H' := Aside0.mk H
                  clear H
                  go_wp2
                  go_roundg kj6
                  case measure => have := HK1.out; have := HJ6.out; omega
                  case rel => exact ⟨(x3_1), (false), (wrap64 (x11_1 + 1)), (by first | rfl | (simp; done) | (simp [*]; done)), (by first | rfl | (simp; done) | (simp [*]; done)), H', ⟨by have := HK1.out; have := HJ6.out; omega⟩, ⟨by (with_reducible repeat (first | apply Kd.R_alloc | apply Kd.R_drewN | apply Kd.R_drew)); exact HO_3.out⟩, ⟨by (with_reducible repeat (first | refine blk_drewN ?_ _ | refine blk_drew ?_ | refine blk_alloc ?_ _)); exact BK520.out⟩, ⟨by repeat (first | (with_reducible first | exact HB.out | apply below_alloc | apply pw_below_drewN | apply below_drew1 | refine below_set ?_ GE520.out | refine below_set ?_ GE522.out) | exact HB.out)⟩⟩
                · replace c16 := Bool.eq_false_iff.mpr c16
                  subst c16
                  have H1 : (if x4_1 = true then ((slices_Contains_int_int.f kj6 l0_1 ((rd_T71 l0_2 x11_1).f0)).bind fun t523 => (if t523 = true then (if x3_1.length < 3518437208883 then (impl_runsOf.l0 kj6 (x3_1 ++ [(⟨(⟨0, ((rd_T71 l0_2 x11_1).f0), ((rd_T71 l0_2 x11_1).f1)⟩ : S54), x11_1, wrap64 (x11_1 + 1)⟩ : S85)]) true l0_2 (l0_2.length : Int) (wrap64 (x11_1 + 1)) a0_0 l0_1 l0_2) else (none)) else (if 0 ≤ (wrap64 ((x3_1.length : Int) - 1)) then (if (wrap64 ((x3_1.length : Int) - 1)) < (x3_1.length : Int) then ((some (x3_1.set ((wrap64 ((x3_1.length : Int) - 1)) : Int).toNat (⟨(⟨(rd_T85 x3_1 (wrap64 ((x3_1.length : Int) - 1))).f0.f0, (rd_T85 x3_1 (wrap64 ((x3_1.length : Int) - 1))).f0.f1, wrap64 (((rd_T85 x3_1 (wrap64 ((x3_1.length : Int) - 1))).f0.f2) + ((rd_T71 l0_2 x11_1).f1))⟩ : S54), (rd_T85 x3_1 (wrap64 ((x3_1.length : Int) - 1))).f1, (rd_T85 x3_1 (wrap64 ((x3_1.length : Int) - 1))).f2⟩ : S85) : List (S85))).bind fun y528 => (impl_runsOf.l0 kj6 (y528.set ((wrap64 ((x3_1.length : Int) - 1)) : Int).toNat (⟨(⟨(rd_T85 y528 (wrap64 ((x3_1.length : Int) - 1))).f0.f0, (rd_T85 y528 (wrap64 ((x3_1.length : Int) - 1))).f0.f1, (rd_T85 y528 (wrap64 ((x3_1.length : Int) - 1))).f0.f2⟩ : S54), (rd_T85 y528 (wrap64 ((x3_1.length : Int) - 1))).f1, wrap64 (((rd_T85 y528 (wrap64 ((x3_1.length : Int) - 1))).f2) + 1)⟩ : S85)) true l0_2 (l0_2.length : Int) (wrap64 (x11_1 + 1)) a0_0 l0_1 l0_2)) else (none)) else (none)))) else (if x3_1.length < 3518437208883 then (impl_runsOf.l0 kj6 (x3_1 ++ [(⟨(⟨0, ((rd_T71 l0_2 x11_1).f0), ((rd_T71 l0_2 x11_1).f1)⟩ : S54), x11_1, wrap64 (x11_1 + 1)⟩ : S85)]) true l0_2 (l0_2.length : Int) (wrap64 (x11_1 + 1)) a0_0 l0_1 l0_2) else (none))) = some r := by rw [if_neg (show ¬ (false = true) by decide)] at H; exact H
                  clear H
                  have H := H1
                  clear H1
                  by_cases c17 : x4_1 = true
                  · subst c17
                    have H1 : ((slices_Contains_int_int.f kj6 l0_1 ((rd_T71 l0_2 x11_1).f0)).bind fun t523 => (if t523 = true then (if x3_1.length < 3518437208883 then (impl_runsOf.l0 kj6 (x3_1 ++ [(⟨(⟨0, ((rd_T71 l0_2 x11_1).f0), ((rd_T71 l0_2 x11_1).f1)⟩ : S54), x11_1, wrap64 (x11_1 + 1)⟩ : S85)]) true l0_2 (l0_2.length : Int) (wrap64 (x11_1 + 1)) a0_0 l0_1 l0_2) else (none)) else (if 0 ≤ (wrap64 ((x3_1.length : Int) - 1)) then (if (wrap64 ((x3_1.length : Int) - 1)) < (x3_1.length : Int) then ((some (x3_1.set ((wrap64 ((x3_1.length : Int) - 1)) : Int).toNat (⟨(⟨(rd_T85 x3_1 (wrap64 ((x3_1.length : Int) - 1))).f0.f0, (rd_T85 x3_1 (wrap64 ((x3_1.length : Int) - 1))).f0.f1, wrap64 (((rd_T85 x3_1 (wrap64 ((x3_1.length : Int) - 1))).f0.f2) + ((rd_T71 l0_2 x11_1).f1))⟩ : S54), (rd_T85 x3_1 (wrap64 ((x3_1.length : Int) - 1))).f1, (rd_T85 x3_1 (wrap64 ((x3_1.length : Int) - 1))).f2⟩ : S85) : List (S85))).bind fun y528 => (impl_runsOf.l0 kj6 (y528.set ((wrap64 ((x3_1.length : Int) - 1)) : Int).toNat (⟨(⟨(rd_T85 y528 (wrap64 ((x3_1.length : Int) - 1))).f0.f0, (rd_T85 y528 (wrap64 ((x3_1.length : Int) - 1))).f0.f1, (rd_T85 y528 (wrap64 ((x3_1.length : Int) - 1))).f0.f2⟩ : S54), (rd_T85 y528 (wrap64 ((x3_1.length : Int) - 1))).f1, wrap64 (((rd_T85 y528 (wrap64 ((x3_1.length : Int) - 1))).f2) + 1)⟩ : S85)) true l0_2 (l0_2.length : Int) (wrap64 (x11_1 + 1)) a0_0 l0_1 l0_2)) else (none)) else (none)))) = some r := by rw [if_pos rfl] at H; exact H
                    clear H
                    have H := H1
                    clear H1
                    replace H := Option.bind_eq_some_iff.mp H
                    obtain ⟨t523, A180, H⟩ := H
                    replace H : (if t523 = true then (if x3_1.length < 3518437208883 then (impl_runsOf.l0 kj6 (x3_1 ++ [(⟨(⟨0, ((rd_T71 l0_2 x11_1).f0), ((rd_T71 l0_2 x11_1).f1)⟩ : S54), x11_1, wrap64 (x11_1 + 1)⟩ : S85)]) true l0_2 (l0_2.length : Int) (wrap64 (x11_1 + 1)) a0_0 l0_1 l0_2) else (none)) else (if 0 ≤ (wrap64 ((x3_1.length : Int) - 1)) then (if (wrap64 ((x3_1.length : Int) - 1)) < (x3_1.length : Int) then ((some (x3_1.set ((wrap64 ((x3_1.length : Int) - 1)) : Int).toNat (⟨(⟨(rd_T85 x3_1 (wrap64 ((x3_1.length : Int) - 1))).f0.f0, (rd_T85 x3_1 (wrap64 ((x3_1.length : Int) - 1))).f0.f1, wrap64 (((rd_T85 x3_1 (wrap64 ((x3_1.length : Int) - 1))).f0.f2) + ((rd_T71 l0_2 x11_1).f1))⟩ : S54), (rd_T85 x3_1 (wrap64 ((x3_1.length : Int) - 1))).f1, (rd_T85 x3_1 (wrap64 ((x3_1.length : Int) - 1))).f2⟩ : S85) : List (S85))).bind fun y528 => (impl_runsOf.l0 kj6 (y528.set ((wrap64 ((x3_1.length : Int) - 1)) : Int).toNat (⟨(⟨(rd_T85 y528 (wrap64 ((x3_1.length : Int) - 1))).f0.f0, (rd_T85 y528 (wrap64 ((x3_1.length : Int) - 1))).f0.f1, (rd_T85 y528 (wrap64 ((x3_1.length : Int) - 1))).f0.f2⟩ : S54), (rd_T85 y528 (wrap64 ((x3_1.length : Int) - 1))).f1, wrap64 (((rd_T85 y528 (wrap64 ((x3_1.length : Int) - 1))).f2) + 1)⟩ : S85)) true l0_2 (l0_2.length : Int) (wrap64 (x11_1 + 1)) a0_0 l0_1 l0_2)) else (none)) else (none))) = some r := H
                    have A18 := Aside0.mk A180
                    clear A180
                    by_cases c19 : t523 = true
                    · subst c19
                      have H1 : (if x3_1.length < 3518437208883 then (impl_runsOf.l0 kj6 (x3_1 ++ [(⟨(⟨0, ((rd_T71 l0_2 x11_1).f0), ((rd_T71 l0_2 x11_1).f1)⟩ : S54), x11_1, wrap64 (x11_1 + 1)⟩ : S85)]) true l0_2 (l0_2.length : Int) (wrap64 (x11_1 + 1)) a0_0 l0_1 l0_2) else (none)) = some r := by rw [if_pos rfl] at H; exact H
                      clear H
                      have H := H1
                      clear H1
                      by_cases c20 : x3_1.length < 3518437208883
                      · rw [if_pos c20] at H
                        have LMc20 := Aside0.mk c20
                        clear c20
                        obtain ⟨y524, hy524⟩ : ∃ y_ : List (S85), y_ = (x3_1 ++ [(⟨(⟨0, ((rd_T71 l0_2 x11_1).f0), ((rd_T71 l0_2 x11_1).f1)⟩ : S54), x11_1, wrap64 (x11_1 + 1)⟩ : S85)]) := ⟨_, rfl⟩
                        replace H : (impl_runsOf.l0 kj6 y524 true l0_2 (l0_2.length : Int) (wrap64 (x11_1 + 1)) a0_0 l0_1 l0_2) = some r := by first | (rw [hy524]; with_reducible exact H) | (have H2_ := (Option.bind_some _ _).symm.trans H; rw [hy524]; with_reducible exact H2_) | (have H2_ := (Option.bind_some _ _).symm.trans H; with_reducible exact H2_) | with_reducible exact H | (rw [hy524]; exact H) | exact H
                        have Ny524 := Aside0.mk hy524
                        clear hy524
                        have H' := Aside0.mk H
                        clear H
                        have hnb21 := NB520_522.out
                        have hnc21 := NB522_520.out
                        have hcz22_0 : wc.cell? ⟨gb520, 0, none⟩ = some (.int .i64 a0_0) := (blk_cell BK520.out 0).trans rfl
                        have hcz22_1 : wc.cell? ⟨gb520, 1, none⟩ = some (.slice A0_1 l0_1.length c0_1) := (blk_cell BK520.out 1).trans rfl
                        have hcz22_2 : wc.cell? ⟨gb520, 2, none⟩ = some (.slice (some ad521) l0_2.length c0_2) := (blk_cell BK520.out 2).trans rfl
                        have hfz22_0 := blk_frozen BK520.out 0
                        have hfz22_1 := blk_frozen BK520.out 1
                        have hfz22_2 := blk_frozen BK520.out 2
                        have hcz23_0 : wc.cell? ⟨gb522, 0, none⟩ = some (.int .i64 ((rd_T71 l0_2 x11_1).f0)) := (blk_cell BK522.out 0).trans rfl
                        have hcz23_1 : wc.cell? ⟨gb522, 1, none⟩ = some (.int .i64 ((rd_T71 l0_2 x11_1).f1)) := (blk_cell BK522.out 1).trans rfl
                        have hcz23_2 : wc.cell? ⟨gb522, 2, none⟩ = some (.int .i64 ((rd_T71 l0_2 x11_1).f2)) := (blk_cell BK522.out 2).trans rfl
                        have hcz23_3 : wc.cell? ⟨gb522, 3, none⟩ = some (.bool ((rd_T71 l0_2 x11_1).f3)) := (blk_cell BK522.out 3).trans rfl
                        have hfz23_0 := blk_frozen BK522.out 0
                        have hfz23_1 := blk_frozen BK522.out 1
                        have hfz23_2 := blk_frozen BK522.out 2
                        have hfz23_3 := blk_frozen BK522.out 3
                        go_wp2_with (first | (go_at_call 93; (with_reducible refine (slices_Contains_int_int.calls kj6 _ _ l0_1 ((rd_T71 l0_2 x11_1).f0) true _ ?side1 ?side2 A18.out).mono ?_); (case side1 => repeat (first | exact (Kd.C_below HR0_1.out HB.out) | (with_reducible refine Kd.C_alloc ?_ _) | (with_reducible refine Kd.C_drewN ?_ _) | (with_reducible refine Kd.C_drew ?_))); (case side2 => exact HC0_1.out); rintro e w' ⟨rfl, ⟨nd, rfl⟩⟩) | ((with_reducible refine gate_builtin (b := .append) (xs := #[.tmp 55, .tmp 65]) rfl ?_); at_builtin; refine Kd.R_append k85 (w0 := w) w.heap.size rfl (.tmp 55) (.tmp 65) 82 85 (.agg #[(.int .i64 0), (.int .i64 0), (.int .i64 0), (.int .i64 0), (.int .i64 0)]) 40 rfl Try.underlying82 info85 rfl (by decide) (by omega) u3 x3_1 (⟨(⟨0, ((rd_T71 l0_2 x11_1).f0), ((rd_T71 l0_2 x11_1).f1)⟩ : S54), x11_1, wrap64 (x11_1 + 1)⟩ : S85) [.int .i64 0, .int .i64 ((rd_T71 l0_2 x11_1).f0), .int .i64 ((rd_T71 l0_2 x11_1).f1), .int .i64 x11_1, .int .i64 (wrap64 (x11_1 + 1))] (fun _ => True) (fun _ => False) rfl rfl ?aP (fun _ hk => hk.elim) ?aF ?aO ?aB ?aS ?aL ?_; (case aP => exact k85_mkM _ _ _ (⟨(⟨0, ((rd_T71 l0_2 x11_1).f0), ((rd_T71 l0_2 x11_1).f1)⟩ : S54), x11_1, wrap64 (x11_1 + 1)⟩ : S85)); (case aB => exact (by repeat (first | (with_reducible first | exact HB.out | apply below_alloc | apply pw_below_drewN | apply below_drew1 | refine below_set ?_ GE520.out | refine below_set ?_ GE522.out) | exact HB.out))); (case aF => exact (fun _ _ => trivial)); (case aO => exact (by (with_reducible repeat (first | apply Kd.R_alloc | apply Kd.R_drewN | apply Kd.R_drew)); exact HO_3.out)); (case aS => exact (below_size (by repeat (first | (with_reducible first | exact HB.out | apply below_alloc | apply pw_below_drewN | apply below_drew1 | refine below_set ?_ GE520.out | refine below_set ?_ GE522.out) | exact HB.out)))); (case aL => have := LMc20.out; omega); intro v525 w24 ho hb hg hat; rw [← Ny524.out] at ho; have n0_ := Aside0.mk (blk_grown (g := gb520) (o := .cells #[.int .i64 a0_0, .slice A0_1 l0_1.length c0_1, .slice (some ad521) l0_2.length c0_2] 30 (0, 0)) (by (with_reducible repeat (first | refine blk_drewN ?_ _ | refine blk_drew ?_ | refine blk_alloc ?_ _)); exact BK520.out) hg (Kd.R_ne HO_3.out BK520.out (by decide))); have n1_ := Aside0.mk (blk_grown (g := gb522) (o := .cells #[.int .i64 ((rd_T71 l0_2 x11_1).f0), .int .i64 ((rd_T71 l0_2 x11_1).f1), .int .i64 ((rd_T71 l0_2 x11_1).f2), .bool ((rd_T71 l0_2 x11_1).f3)] 71 (0, 0)) (by (with_reducible repeat (first | refine blk_drewN ?_ _ | refine blk_drew ?_ | refine blk_alloc ?_ _)); exact BK522.out) hg (Kd.R_ne HO_3.out BK522.out (by decide))); have n2_ := Aside0.mk (hb); have n3_ := Aside0.mk (ho); clear BK520; clear BK522; clear HB; clear HO_3; have BK520 := n0_; have BK522 := n1_; have HB := n2_; have HO526 := n3_; clear n0_ n1_ n2_ n3_; clear ho hb hg hat))
                        go_roundg kj6
                        case measure => have := HK1.out; have := HJ6.out; omega
                        case rel => exact ⟨(y524), (true), (wrap64 (x11_1 + 1)), (by first | rfl | (simp; done) | (simp [*]; done)), (by first | rfl | (simp; done) | (simp [*]; done)), H', ⟨by have := HK1.out; have := HJ6.out; omega⟩, ⟨by (with_reducible repeat (first | apply Kd.R_alloc | apply Kd.R_drewN | apply Kd.R_drew)); exact HO526.out⟩, ⟨by (with_reducible repeat (first | refine blk_drewN ?_ _ | refine blk_drew ?_ | refine blk_alloc ?_ _)); exact BK520.out⟩, ⟨by repeat (first | (with_reducible first | exact HB.out | apply below_alloc | apply pw_below_drewN | apply below_drew1 | refine below_set ?_ GE520.out | refine below_set ?_ GE522.out) | exact HB.out)⟩⟩
                      · rw [if_neg c20] at H
                        exact absurd H (by simp)
                    · replace c19 := Bool.eq_false_iff.mpr c19
                      subst c19
                      have H1 : (if 0 ≤ (wrap64 ((x3_1.length : Int) - 1)) then (if (wrap64 ((x3_1.length : Int) - 1)) < (x3_1.length : Int) then ((some (x3_1.set ((wrap64 ((x3_1.length : Int) - 1)) : Int).toNat (⟨(⟨(rd_T85 x3_1 (wrap64 ((x3_1.length : Int) - 1))).f0.f0, (rd_T85 x3_1 (wrap64 ((x3_1.length : Int) - 1))).f0.f1, wrap64 (((rd_T85 x3_1 (wrap64 ((x3_1.length : Int) - 1))).f0.f2) + ((rd_T71 l0_2 x11_1).f1))⟩ : S54), (rd_T85 x3_1 (wrap64 ((x3_1.length : Int) - 1))).f1, (rd_T85 x3_1 (wrap64 ((x3_1.length : Int) - 1))).f2⟩ : S85) : List (S85))).bind fun y528 => (impl_runsOf.l0 kj6 (y528.set ((wrap64 ((x3_1.length : Int) - 1)) : Int).toNat (⟨(⟨(rd_T85 y528 (wrap64 ((x3_1.length : Int) - 1))).f0.f0, (rd_T85 y528 (wrap64 ((x3_1.length : Int) - 1))).f0.f1, (rd_T85 y528 (wrap64 ((x3_1.length : Int) - 1))).f0.f2⟩ : S54), (rd_T85 y528 (wrap64 ((x3_1.length : Int) - 1))).f1, wrap64 (((rd_T85 y528 (wrap64 ((x3_1.length : Int) - 1))).f2) + 1)⟩ : S85)) true l0_2 (l0_2.length : Int) (wrap64 (x11_1 + 1)) a0_0 l0_1 l0_2)) else (none)) else (none)) = some r := by rw [if_neg (show ¬ (false = true) by decide)] at H; exact H
                      clear H
                      have H := H1
                      clear H1
                      obtain ⟨ji25, hji25⟩ : ∃ j_ : Int, (wrap64 ((x3_1.length : Int) - 1)) = j_ := ⟨_, rfl⟩
                      replace H : (if 0 ≤ (ji25) then (if (ji25) < (x3_1.length : Int) then ((some (x3_1.set ((ji25) : Int).toNat (⟨(⟨(rd_T85 x3_1 (ji25)).f0.f0, (rd_T85 x3_1 (ji25)).f0.f1, wrap64 (((rd_T85 x3_1 (ji25)).f0.f2) + ((rd_T71 l0_2 x11_1).f1))⟩ : S54), (rd_T85 x3_1 (ji25)).f1, (rd_T85 x3_1 (ji25)).f2⟩ : S85) : List (S85))).bind fun y528 => (impl_runsOf.l0 kj6 (y528.set ((ji25) : Int).toNat (⟨(⟨(rd_T85 y528 (ji25)).f0.f0, (rd_T85 y528 (ji25)).f0.f1, (rd_T85 y528 (ji25)).f0.f2⟩ : S54), (rd_T85 y528 (ji25)).f1, wrap64 (((rd_T85 y528 (ji25)).f2) + 1)⟩ : S85)) true l0_2 (l0_2.length : Int) (wrap64 (x11_1 + 1)) a0_0 l0_1 l0_2)) else (none)) else (none)) = some r := by first | (rw [hji25] at H; exact H) | (simp only [hji25] at H ⊢; exact H)
                      (try rw [hji25] at A18)
                      have hji25w : (IntKind.i64.wrap ((x3_1.length : Int) - 1)) = ji25 := (i64_w _).trans hji25
                      by_cases c26 : 0 ≤ (ji25)
                      · rw [if_pos c26] at H
                        have c26b0 : decide (0 ≤ (ji25)) = true := decide_eq_true c26
                        clear c26
                        by_cases c27 : (ji25) < (x3_1.length : Int)
                        · rw [if_pos c27] at H
                          have c27b0 : decide ((ji25) < (x3_1.length : Int)) = true := decide_eq_true c27
                          clear c27
                          obtain ⟨y528, hy528⟩ : ∃ y_ : List (S85), y_ = (x3_1.set ((ji25) : Int).toNat (⟨(⟨(rd_T85 x3_1 (ji25)).f0.f0, (rd_T85 x3_1 (ji25)).f0.f1, wrap64 (((rd_T85 x3_1 (ji25)).f0.f2) + ((rd_T71 l0_2 x11_1).f1))⟩ : S54), (rd_T85 x3_1 (ji25)).f1, (rd_T85 x3_1 (ji25)).f2⟩ : S85)) := ⟨_, rfl⟩
                          replace H : (impl_runsOf.l0 kj6 (y528.set ((ji25) : Int).toNat (⟨(⟨(rd_T85 y528 (ji25)).f0.f0, (rd_T85 y528 (ji25)).f0.f1, (rd_T85 y528 (ji25)).f0.f2⟩ : S54), (rd_T85 y528 (ji25)).f1, wrap64 (((rd_T85 y528 (ji25)).f2) + 1)⟩ : S85)) true l0_2 (l0_2.length : Int) (wrap64 (x11_1 + 1)) a0_0 l0_1 l0_2) = some r := by first | (rw [hy528]; with_reducible exact H) | (have H2_ := (Option.bind_some _ _).symm.trans H; rw [hy528]; with_reducible exact H2_) | (have H2_ := (Option.bind_some _ _).symm.trans H; with_reducible exact H2_) | with_reducible exact H | (rw [hy528]; exact H) | exact H
                          have Ny528 := Aside0.mk hy528
                          clear hy528
                          obtain ⟨y530, hy530⟩ : ∃ y_ : List (S85), y_ = (y528.set ((ji25) : Int).toNat (⟨(⟨(rd_T85 y528 (ji25)).f0.f0, (rd_T85 y528 (ji25)).f0.f1, (rd_T85 y528 (ji25)).f0.f2⟩ : S54), (rd_T85 y528 (ji25)).f1, wrap64 (((rd_T85 y528 (ji25)).f2) + 1)⟩ : S85)) := ⟨_, rfl⟩
                          replace H : (impl_runsOf.l0 kj6 y530 true l0_2 (l0_2.length : Int) (wrap64 (x11_1 + 1)) a0_0 l0_1 l0_2) = some r := by first | (rw [hy530]; with_reducible exact H) | (have H2_ := (Option.bind_some _ _).symm.trans H; rw [hy530]; with_reducible exact H2_) | (have H2_ := (Option.bind_some _ _).symm.trans H; with_reducible exact H2_) | with_reducible exact H | (rw [hy530]; exact H) | exact H
                          have Ny530 := Aside0.mk hy530
                          clear hy530
                          have H' := Aside0.mk H
                          clear H
                          have hnb31 := NB520_522.out
                          have hnc31 := NB522_520.out
                          have hcz32_0 : wc.cell? ⟨gb520, 0, none⟩ = some (.int .i64 a0_0) := (blk_cell BK520.out 0).trans rfl
                          have hcz32_1 : wc.cell? ⟨gb520, 1, none⟩ = some (.slice A0_1 l0_1.length c0_1) := (blk_cell BK520.out 1).trans rfl
                          have hcz32_2 : wc.cell? ⟨gb520, 2, none⟩ = some (.slice (some ad521) l0_2.length c0_2) := (blk_cell BK520.out 2).trans rfl
                          have hfz32_0 := blk_frozen BK520.out 0
                          have hfz32_1 := blk_frozen BK520.out 1
                          have hfz32_2 := blk_frozen BK520.out 2
                          have hcz33_0 : wc.cell? ⟨gb522, 0, none⟩ = some (.int .i64 ((rd_T71 l0_2 x11_1).f0)) := (blk_cell BK522.out 0).trans rfl
                          have hcz33_1 : wc.cell? ⟨gb522, 1, none⟩ = some (.int .i64 ((rd_T71 l0_2 x11_1).f1)) := (blk_cell BK522.out 1).trans rfl
                          have hcz33_2 : wc.cell? ⟨gb522, 2, none⟩ = some (.int .i64 ((rd_T71 l0_2 x11_1).f2)) := (blk_cell BK522.out 2).trans rfl
                          have hcz33_3 : wc.cell? ⟨gb522, 3, none⟩ = some (.bool ((rd_T71 l0_2 x11_1).f3)) := (blk_cell BK522.out 3).trans rfl
                          have hfz33_0 := blk_frozen BK522.out 0
                          have hfz33_1 := blk_frozen BK522.out 1
                          have hfz33_2 := blk_frozen BK522.out 2
                          have hfz33_3 := blk_frozen BK522.out 3
                          try go_wp2_with (first | (go_at_call 93; (with_reducible refine (slices_Contains_int_int.calls kj6 _ _ l0_1 ((rd_T71 l0_2 x11_1).f0) false _ ?side1 ?side2 A18.out).mono ?_); (case side1 => repeat (first | exact (Kd.C_below HR0_1.out HB.out) | (with_reducible refine Kd.C_alloc ?_ _) | (with_reducible refine Kd.C_drewN ?_ _) | (with_reducible refine Kd.C_drew ?_))); (case side2 => exact HC0_1.out); rintro e w' ⟨rfl, ⟨nd, rfl⟩⟩; (try (rw [drewN_self wc]; generalize hq_ : World.drewN wc _ = wc; have n0_ : Aside0 (Kd.R k85 85 wc w.heap.size (fun _ => True) u3 x3_1) := ⟨by rw [← hq_]; exact (by (with_reducible repeat (first | apply Kd.R_alloc | apply Kd.R_drewN | apply Kd.R_drew)); exact HO_3.out)⟩; have n1_ : Aside0 (wc.heap[gb520]? = some (.cells #[.int .i64 a0_0, .slice A0_1 l0_1.length c0_1, .slice (some ad521) l0_2.length c0_2] 30 (0, 0))) := ⟨by rw [← hq_]; exact (by (with_reducible repeat (first | refine blk_drewN ?_ _ | refine blk_drew ?_ | refine blk_alloc ?_ _)); exact BK520.out)⟩; have n2_ : Aside0 (wc.heap[gb522]? = some (.cells #[.int .i64 ((rd_T71 l0_2 x11_1).f0), .int .i64 ((rd_T71 l0_2 x11_1).f1), .int .i64 ((rd_T71 l0_2 x11_1).f2), .bool ((rd_T71 l0_2 x11_1).f3)] 71 (0, 0))) := ⟨by rw [← hq_]; exact (by (with_reducible repeat (first | refine blk_drewN ?_ _ | refine blk_drew ?_ | refine blk_alloc ?_ _)); exact BK522.out)⟩; have n3_ : Aside0 (Below w.heap.size w wc) := ⟨by rw [← hq_]; exact (by repeat (first | (with_reducible first | exact HB.out | apply below_alloc | apply pw_below_drewN | apply below_drew1 | refine below_set ?_ GE520.out | refine below_set ?_ GE522.out) | exact HB.out))⟩; clear HO_3 BK520 BK522 HB hq_; have HO_3 := n0_; have BK520 := n1_; have BK522 := n2_; have HB := n3_; clear n0_ n1_ n2_ n3_)); obtain ⟨Ao34, co34, eo34⟩ := Kd.R_slice HO_3.out; subst eo34; have p28 : 0 ≤ ((ji25) : Int) := of_decide_eq_true (by first | (with_reducible assumption) | assumption); have q28 : ((ji25) : Int) < ((x3_1.length : Int) : Int) := of_decide_eq_true (by first | (with_reducible assumption) | assumption); obtain ⟨go28, co28, eo28, gb28, gl28, cl28, HG28⟩ := Kd.R_form HO_3.out (by omega); (first | cases eo28 | (injection eo28 with ea_ en_ ec_; (first | subst ea_ | (injection ea_ with ea_; subst ea_)); subst ec_; clear en_)); have GB28 := Aside0.mk gb28; have GG28 := Aside0.mk HG28; clear gb28 gl28 HG28; obtain ⟨ce28, hcl28, hM28, hcc28, hfr28⟩ := Kd.R_elem HO_3.out z85 ((ji25) : Int) p28 q28; obtain rfl := k85_openM hM28; have hx28_0 : wc.cell? ⟨go28, ((ji25) : Int).toNat * 5, none⟩ = some (.int .i64 ((rd_T85 x3_1 (ji25)).f0.f0)) := hcc28 0 _ rfl; have hx28_1 : wc.cell? ⟨go28, ((ji25) : Int).toNat * 5 + 1, none⟩ = some (.int .i64 ((rd_T85 x3_1 (ji25)).f0.f1)) := hcc28 1 _ rfl; have hx28_2 : wc.cell? ⟨go28, ((ji25) : Int).toNat * 5 + 2, none⟩ = some (.int .i64 ((rd_T85 x3_1 (ji25)).f0.f2)) := hcc28 2 _ rfl; have hx28_3 : wc.cell? ⟨go28, ((ji25) : Int).toNat * 5 + 3, none⟩ = some (.int .i64 ((rd_T85 x3_1 (ji25)).f1)) := hcc28 3 _ rfl; have hx28_4 : wc.cell? ⟨go28, ((ji25) : Int).toNat * 5 + 4, none⟩ = some (.int .i64 ((rd_T85 x3_1 (ji25)).f2)) := hcc28 4 _ rfl; have hf28_0 : wc.frozen? ⟨go28, ((ji25) : Int).toNat * 5, none⟩ = false := hfr28 0; have hf28_1 : wc.frozen? ⟨go28, ((ji25) : Int).toNat * 5 + 1, none⟩ = false := hfr28 1; have hf28_2 : wc.frozen? ⟨go28, ((ji25) : Int).toNat * 5 + 2, none⟩ = false := hfr28 2; have hf28_3 : wc.frozen? ⟨go28, ((ji25) : Int).toNat * 5 + 3, none⟩ = false := hfr28 3; have hf28_4 : wc.frozen? ⟨go28, ((ji25) : Int).toNat * 5 + 4, none⟩ = false := hfr28 4; clear hcl28 hcc28 hfr28 hM28; replace p28 := eq_true p28; replace q28 := eq_true q28))
                          have n0_ := Aside0.mk (Kd.R_drew HO_3.out)
                          have n1_ := Aside0.mk (blk_drew BK520.out)
                          have n2_ := Aside0.mk (blk_drew BK522.out)
                          have n3_ := Aside0.mk (below_drew1 HB.out)
                          clear HO_3
                          clear BK520
                          clear BK522
                          clear HB
                          have HO_3 := n0_
                          have BK520 := n1_
                          have BK522 := n2_
                          have HB := n3_
                          clear n0_ n1_ n2_ n3_
                          have p527 : 0 ≤ ((ji25) : Int) := of_decide_eq_true (by first | (with_reducible assumption) | assumption)
                          have q527 : (ji25) < (x3_1.length : Int) := of_decide_eq_true (by first | (with_reducible assumption) | assumption)
                          obtain ⟨ad527, e527, hx527_0, hx527_1, hx527_2, hx527_3, hx527_4⟩ := at_T85 (Kd.R_reads' HO_3.out).2.2 (ji25) p527 q527
                          obtain rfl : (⟨go28, 0, none⟩ : Addr) = ad527 := (by injection e527)
                          (first | simp only [add_plain] at hx527_0 | simp only [add_at] at hx527_0 | simp only [Addr.add, Nat.zero_add] at hx527_0 | skip)
                          (first | simp only [add_plain] at hx527_1 | simp only [add_at] at hx527_1 | simp only [Addr.add, Nat.zero_add] at hx527_1 | skip)
                          (first | simp only [add_plain] at hx527_2 | simp only [add_at] at hx527_2 | simp only [Addr.add, Nat.zero_add] at hx527_2 | skip)
                          (first | simp only [add_plain] at hx527_3 | simp only [add_at] at hx527_3 | simp only [Addr.add, Nat.zero_add] at hx527_3 | skip)
                          (first | simp only [add_plain] at hx527_4 | simp only [add_at] at hx527_4 | simp only [Addr.add, Nat.zero_add] at hx527_4 | skip)
                          replace p527 := eq_true p527
                          replace q527 := eq_true q527
                          have p29 : 0 ≤ ((ji25) : Int) := of_decide_eq_true (by first | (with_reducible assumption) | assumption)
                          have q29 : ((ji25) : Int) < ((x3_1.length : Int) : Int) := of_decide_eq_true (by first | (with_reducible assumption) | assumption)
                          obtain ⟨ce29, hcl29, hM29, hcc29, hfr29⟩ := Kd.R_elem HO_3.out z85 ((ji25) : Int) p29 q29
                          obtain rfl := k85_openM hM29
                          have hx29_0 : World.cell? _ ⟨go28, ((ji25) : Int).toNat * 5, none⟩ = some (.int .i64 ((rd_T85 x3_1 (ji25)).f0.f0)) := hcc29 0 _ rfl
                          have hx29_1 : World.cell? _ ⟨go28, ((ji25) : Int).toNat * 5 + 1, none⟩ = some (.int .i64 ((rd_T85 x3_1 (ji25)).f0.f1)) := hcc29 1 _ rfl
                          have hx29_2 : World.cell? _ ⟨go28, ((ji25) : Int).toNat * 5 + 2, none⟩ = some (.int .i64 ((rd_T85 x3_1 (ji25)).f0.f2)) := hcc29 2 _ rfl
                          have hx29_3 : World.cell? _ ⟨go28, ((ji25) : Int).toNat * 5 + 3, none⟩ = some (.int .i64 ((rd_T85 x3_1 (ji25)).f1)) := hcc29 3 _ rfl
                          have hx29_4 : World.cell? _ ⟨go28, ((ji25) : Int).toNat * 5 + 4, none⟩ = some (.int .i64 ((rd_T85 x3_1 (ji25)).f2)) := hcc29 4 _ rfl
                          have hf29_0 : World.frozen? _ ⟨go28, ((ji25) : Int).toNat * 5, none⟩ = false := hfr29 0
                          have hf29_1 : World.frozen? _ ⟨go28, ((ji25) : Int).toNat * 5 + 1, none⟩ = false := hfr29 1
                          have hf29_2 : World.frozen? _ ⟨go28, ((ji25) : Int).toNat * 5 + 2, none⟩ = false := hfr29 2
                          have hf29_3 : World.frozen? _ ⟨go28, ((ji25) : Int).toNat * 5 + 3, none⟩ = false := hfr29 3
                          have hf29_4 : World.frozen? _ ⟨go28, ((ji25) : Int).toNat * 5 + 4, none⟩ = false := hfr29 4
                          clear hcl29 hcc29 hfr29 hM29
                          replace p29 := eq_true p29
                          replace q29 := eq_true q29
                          obtain ⟨ce36, hcl36, hM36, hcc36, hfr36⟩ := Kd.R_elem HO_3.out z85 ((ji25) : Int) (of_decide_eq_true (by first | (with_reducible assumption) | assumption)) (by have h_ : ((ji25) : Int) < ((x3_1.length : Int) : Int) := of_decide_eq_true (by first | (with_reducible assumption) | assumption); first | exact h_ | (have e_ := (Kd.R_reads' HO_3.out).1; omega) | simpa using h_)
                          obtain rfl := k85_openM hM36
                          have HP36 := (Kd.R_seg HO_3.out ((ji25) : Int) (of_decide_eq_true (by first | (with_reducible assumption) | assumption)) (by have h_ : ((ji25) : Int) < ((x3_1.length : Int) : Int) := of_decide_eq_true (by first | (with_reducible assumption) | assumption); first | exact h_ | (have e_ := (Kd.R_reads' HO_3.out).1; omega) | simpa using h_) (seg := [.int .i64 (wrap64 (((rd_T85 x3_1 (ji25)).f0.f2) + ((rd_T71 l0_2 x11_1).f1)))]) (j := 2) hcl36 hcc36 (show 3 ≤ 5 from by decide) (x' := (⟨(⟨(rd_T85 x3_1 (ji25)).f0.f0, (rd_T85 x3_1 (ji25)).f0.f1, wrap64 (((rd_T85 x3_1 (ji25)).f0.f2) + ((rd_T71 l0_2 x11_1).f1))⟩ : S54), (rd_T85 x3_1 (ji25)).f1, (rd_T85 x3_1 (ji25)).f2⟩ : S85)) (k85_mkM _ _ _ (⟨(⟨(rd_T85 x3_1 (ji25)).f0.f0, (rd_T85 x3_1 (ji25)).f0.f1, wrap64 (((rd_T85 x3_1 (ji25)).f0.f2) + ((rd_T71 l0_2 x11_1).f1))⟩ : S54), (rd_T85 x3_1 (ji25)).f1, (rd_T85 x3_1 (ji25)).f2⟩ : S85) ) (fun _ hk => hk)).1
                          rw [← Ny528.out] at HP36
                          have HQ36 := Aside0.mk HP36
                          clear hcl36 hcc36 hfr36 hM36 HP36
                          refine start_ (n := 12) (S := fun w' => w'.cell? ⟨gb522, 0, none⟩ = some (.int .i64 ((rd_T71 l0_2 x11_1).f0)) ∧ w'.cell? ⟨gb522, 1, none⟩ = some (.int .i64 ((rd_T71 l0_2 x11_1).f1)) ∧ w'.cell? ⟨gb522, 2, none⟩ = some (.int .i64 ((rd_T71 l0_2 x11_1).f2)) ∧ w'.cell? ⟨gb522, 3, none⟩ = some (.bool ((rd_T71 l0_2 x11_1).f3)) ∧ w'.cell? ⟨go28, ((ji25)).toNat * 5, none⟩ = some (.int .i64 ((rd_T85 x3_1 (ji25)).f0.f0)) ∧ w'.cell? ⟨go28, ((ji25)).toNat * 5 + 1, none⟩ = some (.int .i64 ((rd_T85 x3_1 (ji25)).f0.f1)) ∧ w'.cell? ⟨go28, ((ji25)).toNat * 5 + 2, none⟩ = some (.int .i64 ((rd_T85 x3_1 (ji25)).f0.f2)) ∧ w'.cell? ⟨go28, ((ji25)).toNat * 5 + 3, none⟩ = some (.int .i64 ((rd_T85 x3_1 (ji25)).f1)) ∧ w'.cell? ⟨go28, ((ji25)).toNat * 5 + 4, none⟩ = some (.int .i64 ((rd_T85 x3_1 (ji25)).f2))) (ds := [11]) #[false, false, false, false, false, false, false, false, false, false, false, false] (by kernel_rfl) rfl rfl ⟨(blk_cell BK522.out 0).trans rfl, (blk_cell BK522.out 1).trans rfl, (blk_cell BK522.out 2).trans rfl, (blk_cell BK522.out 3).trans rfl, hx527_0, hx527_1, hx527_2, hx527_3, hx527_4⟩ (fun hHeld => ?_); refine with_tabW impl_runsOf.tab10 impl_runsOf.bits10 (fun HT_ HW_ => ?_)
                          generalize wc.drew = w35 at HO_3 BK520 BK522 HB HQ36 hf29_0 hf29_1 hf29_2 hf29_3 hf29_4 hx29_0 hx29_1 hx29_2 hx29_3 hx29_4 hx527_0 hx527_1 hx527_2 hx527_3 hx527_4 hHeld ⊢
                          refine pure_ (i := 0) (N := some 37) (v := ?_) (a' := ?_) #[true, false, false, false, false, false, false, false, false, false, false, false] rfl rfl (any_of HT_.out (by kernel_rfl)) (fun _ _ _ h => h) (Or.inl ⟨by rfl, ?_⟩) ?_ ?_
                          rotate_left
                          · intro w'
                            go_simp
                            with_reducible rfl
                          rotate_left
                          · simp only [Act.put, List.setIfInBounds_toArray, List.set_cons_zero, List.set_cons_succ, i64_w, i32_w]
                            rfl
                          refine pure_ (i := 1) (N := some 38) (v := ?_) (a' := ?_) #[true, true, false, false, false, false, false, false, false, false, false, false] rfl rfl (any_of HT_.out (by kernel_rfl)) (fun _ _ _ h => h) (Or.inl ⟨by rfl, ?_⟩) ?_ ?_
                          rotate_left
                          · intro w'
                            go_simp
                            with_reducible rfl
                          rotate_left
                          · simp only [Act.put, List.setIfInBounds_toArray, List.set_cons_zero, List.set_cons_succ, i64_w, i32_w]
                            rfl
                          refine pure_ (i := 2) (N := some 39) (v := ?_) (a' := ?_) #[true, true, true, false, false, false, false, false, false, false, false, false] rfl rfl (any_of HT_.out (by kernel_rfl)) (fun _ _ _ h => h) (Or.inl ⟨by rfl, ?_⟩) ?_ ?_
                          rotate_left
                          · intro w'
                            go_simp
                            with_reducible rfl
                          rotate_left
                          · simp only [Act.put, List.setIfInBounds_toArray, List.set_cons_zero, List.set_cons_succ, i64_w, i32_w]
                            rfl
                          refine pure_ (i := 3) (N := some 40) (v := ?_) (a' := ?_) #[true, true, true, true, false, false, false, false, false, false, false, false] rfl rfl (any_of HT_.out (by kernel_rfl)) (fun _ _ _ h => h) (Or.inl ⟨by rfl, ?_⟩) ?_ ?_
                          rotate_left
                          · intro w'
                            go_simp
                            with_reducible rfl
                          rotate_left
                          · simp only [Act.put, List.setIfInBounds_toArray, List.set_cons_zero, List.set_cons_succ, i64_w, i32_w]
                            rfl
                          refine pure_ (i := 5) (N := some 42) (v := ?_) (a' := ?_) #[true, true, true, true, false, true, false, false, false, false, false, false] rfl rfl (any_of HT_.out (by kernel_rfl)) (fun _ _ _ h => h) (Or.inl ⟨by rfl, ?_⟩) ?_ ?_
                          rotate_left
                          · intro w'
                            go_simp
                            with_reducible rfl
                          rotate_left
                          · simp only [Act.put, List.setIfInBounds_toArray, List.set_cons_zero, List.set_cons_succ, i64_w, i32_w]
                            rfl
                          refine take_ (i := 4) (N := some 41) (v := ?_) (a' := ?_) #[true, true, true, true, true, true, false, false, false, false, false, false] rfl rfl (take_ofW HT_.out HW_.out (by kernel_rfl)) (fun _ _ _ h => h) (Or.inl ⟨by rfl, ?_⟩) hHeld ?_ ?_
                          rotate_left
                          · rintro w' ⟨s0, s1, s2, s3, s4, s5, s6, s7, s8⟩
                            go_simp
                            with_reducible rfl
                          rotate_left
                          · simp only [Act.put, List.setIfInBounds_toArray, List.set_cons_zero, List.set_cons_succ, i64_w, i32_w]
                            rfl
                          refine take_ (i := 6) (N := some 43) (v := ?_) (a' := ?_) #[true, true, true, true, true, true, true, false, false, false, false, false] rfl rfl (take_ofW HT_.out HW_.out (by kernel_rfl)) (fun _ _ _ h => h) (Or.inl ⟨by rfl, ?_⟩) hHeld ?_ ?_
                          rotate_left
                          · rintro w' ⟨s0, s1, s2, s3, s4, s5, s6, s7, s8⟩
                            go_simp
                            with_reducible rfl
                          rotate_left
                          · simp only [Act.put, List.setIfInBounds_toArray, List.set_cons_zero, List.set_cons_succ, i64_w, i32_w]
                            rfl
                          refine pure_ (i := 7) (N := some 44) (v := ?_) (a' := ?_) #[true, true, true, true, true, true, true, true, false, false, false, false] rfl rfl (any_of HT_.out (by kernel_rfl)) (fun _ _ _ h => h) (Or.inl ⟨by rfl, ?_⟩) ?_ ?_
                          rotate_left
                          · intro w'
                            go_simp
                            with_reducible rfl
                          rotate_left
                          · simp only [Act.put, List.setIfInBounds_toArray, List.set_cons_zero, List.set_cons_succ, i64_w, i32_w]
                            rfl
                          refine pure_ (i := 8) (N := some 45) (v := ?_) (a' := ?_) #[true, true, true, true, true, true, true, true, true, false, false, false] rfl rfl (any_of HT_.out (by kernel_rfl)) (fun _ _ _ h => h) (Or.inl ⟨by rfl, ?_⟩) ?_ ?_
                          rotate_left
                          · intro w'
                            go_simp
                            with_reducible rfl
                          rotate_left
                          · simp only [Act.put, List.setIfInBounds_toArray, List.set_cons_zero, List.set_cons_succ, i64_w, i32_w]
                            rfl
                          refine pure_ (i := 9) (N := some 46) (v := ?_) (a' := ?_) #[true, true, true, true, true, true, true, true, true, true, false, false] rfl rfl (any_of HT_.out (by kernel_rfl)) (fun _ _ _ h => h) (Or.inl ⟨by rfl, ?_⟩) ?_ ?_
                          rotate_left
                          · intro w'
                            go_simp
                            with_reducible rfl
                          rotate_left
                          · simp only [Act.put, List.setIfInBounds_toArray, List.set_cons_zero, List.set_cons_succ, i64_w, i32_w]
                            rfl
                          refine pure_ (i := 10) (N := some 47) (v := ?_) (a' := ?_) #[true, true, true, true, true, true, true, true, true, true, true, false] rfl rfl (any_of HT_.out (by kernel_rfl)) (fun _ _ _ h => h) (Or.inl ⟨by rfl, ?_⟩) ?_ ?_
                          rotate_left
                          · intro w'
                            go_simp
                            with_reducible rfl
                          rotate_left
                          · simp only [Act.put, List.setIfInBounds_toArray, List.set_cons_zero, List.set_cons_succ, i64_w, i32_w]
                            rfl
                          refine last_ (i := 11) (N := none) #[true, true, true, true, true, true, true, true, true, true, true, true] rfl rfl (one_of HT_.out (by kernel_rfl)) (by decide) (fun K hK => ?_)
                          refine skip_ (w1 := ?_) (by rfl) rfl ?_ ?_
                          rotate_left
                          · go_simp
                            rfl
                          refine hK.out _ _ ?_
                          clear hK K
                          refine done_ (done_of HT_.out (by kernel_rfl)) ?_
                          have n0_ : Aside0 (Kd.R k85 85 (w35.setCell ⟨go28, ((ji25) : Int).toNat * 5 + 2, none⟩ (.int .i64 (wrap64 (((rd_T85 x3_1 (ji25)).f0.f2) + ((rd_T71 l0_2 x11_1).f1))))) w.heap.size (fun _ => True) (.slice (some ⟨go28, 0, none⟩) x3_1.length co34) y528) := ⟨by (with_reducible repeat (first | apply Kd.R_alloc | apply Kd.R_drewN | apply Kd.R_drew)); exact HQ36.out⟩
                          have n1_ : Aside0 ((w35.setCell ⟨go28, ((ji25) : Int).toNat * 5 + 2, none⟩ (.int .i64 (wrap64 (((rd_T85 x3_1 (ji25)).f0.f2) + ((rd_T71 l0_2 x11_1).f1))))).heap[gb520]? = some (.cells #[.int .i64 a0_0, .slice A0_1 l0_1.length c0_1, .slice (some ad521) l0_2.length c0_2] 30 (0, 0))) := ⟨by (with_reducible repeat (first | refine blk_drewN ?_ _ | refine blk_drew ?_ | refine blk_alloc ?_ _)); refine blk_far ?_ (by have h_ := Kd.R_ne HO_3.out BK520.out (by decide); intro e_; exact h_ (by rw [e_]; rfl)) _; (with_reducible repeat (first | refine blk_drewN ?_ _ | refine blk_drew ?_ | refine blk_alloc ?_ _)); exact BK520.out⟩
                          have n2_ : Aside0 ((w35.setCell ⟨go28, ((ji25) : Int).toNat * 5 + 2, none⟩ (.int .i64 (wrap64 (((rd_T85 x3_1 (ji25)).f0.f2) + ((rd_T71 l0_2 x11_1).f1))))).heap[gb522]? = some (.cells #[.int .i64 ((rd_T71 l0_2 x11_1).f0), .int .i64 ((rd_T71 l0_2 x11_1).f1), .int .i64 ((rd_T71 l0_2 x11_1).f2), .bool ((rd_T71 l0_2 x11_1).f3)] 71 (0, 0))) := ⟨by (with_reducible repeat (first | refine blk_drewN ?_ _ | refine blk_drew ?_ | refine blk_alloc ?_ _)); refine blk_far ?_ (by have h_ := Kd.R_ne HO_3.out BK522.out (by decide); intro e_; exact h_ (by rw [e_]; rfl)) _; (with_reducible repeat (first | refine blk_drewN ?_ _ | refine blk_drew ?_ | refine blk_alloc ?_ _)); exact BK522.out⟩
                          have n3_ : Aside0 (Below w.heap.size w (w35.setCell ⟨go28, ((ji25) : Int).toNat * 5 + 2, none⟩ (.int .i64 (wrap64 (((rd_T85 x3_1 (ji25)).f0.f2) + ((rd_T71 l0_2 x11_1).f1)))))) := ⟨by repeat (first | (with_reducible first | exact HB.out | apply below_alloc | apply pw_below_drewN | apply below_drew1 | refine below_set ?_ GB28.out | refine below_set ?_ GE520.out | refine below_set ?_ GE522.out) | exact HB.out)⟩
                          (try clear HO_3)
                          (try clear BK520)
                          (try clear BK522)
                          (try clear HB)
                          generalize (w35.setCell ⟨go28, ((ji25) : Int).toNat * 5 + 2, none⟩ (.int .i64 (wrap64 (((rd_T85 x3_1 (ji25)).f0.f2) + ((rd_T71 l0_2 x11_1).f1))))) = w37 at n0_ n1_ n2_ n3_ ⊢
                          have HO_3 := n0_
                          have BK520 := n1_
                          have BK522 := n2_
                          have HB := n3_
                          clear n0_ n1_ n2_ n3_
                          have p529 : 0 ≤ ((ji25) : Int) := of_decide_eq_true (by first | (with_reducible assumption) | assumption)
                          have q529 : (ji25) < (y528.length : Int) := (by have h_ : ((ji25) : Int) < ((x3_1.length : Int) : Int) := of_decide_eq_true (by first | (with_reducible assumption) | assumption); first | (have e_ := (Kd.R_reads' HO_3.out).1; omega) | simpa only [Ny528.out, List.length_set] using h_)
                          have ql529 : (((ji25) : Int) < ((x3_1.length : Int) : Int)) = True := eq_true (of_decide_eq_true (by first | (with_reducible assumption) | assumption))
                          obtain ⟨ad529, e529, hx529_0, hx529_1, hx529_2, hx529_3, hx529_4⟩ := at_T85 (Kd.R_reads' HO_3.out).2.2 (ji25) p529 q529
                          obtain rfl : (⟨go28, 0, none⟩ : Addr) = ad529 := (by injection e529)
                          (first | simp only [add_plain] at hx529_0 | simp only [add_at] at hx529_0 | simp only [Addr.add, Nat.zero_add] at hx529_0 | skip)
                          (first | simp only [add_plain] at hx529_1 | simp only [add_at] at hx529_1 | simp only [Addr.add, Nat.zero_add] at hx529_1 | skip)
                          (first | simp only [add_plain] at hx529_2 | simp only [add_at] at hx529_2 | simp only [Addr.add, Nat.zero_add] at hx529_2 | skip)
                          (first | simp only [add_plain] at hx529_3 | simp only [add_at] at hx529_3 | simp only [Addr.add, Nat.zero_add] at hx529_3 | skip)
                          (first | simp only [add_plain] at hx529_4 | simp only [add_at] at hx529_4 | simp only [Addr.add, Nat.zero_add] at hx529_4 | skip)
                          replace p529 := eq_true p529
                          replace q529 := eq_true q529
                          have p30 : 0 ≤ ((ji25) : Int) := of_decide_eq_true (by first | (with_reducible assumption) | assumption)
                          have q30 : ((ji25) : Int) < ((x3_1.length : Int) : Int) := of_decide_eq_true (by first | (with_reducible assumption) | assumption)
                          obtain ⟨ce30, hcl30, hM30, hcc30, hfr30⟩ := Kd.R_elem HO_3.out z85 ((ji25) : Int) p30 q30
                          obtain rfl := k85_openM hM30
                          have hx30_0 : w37.cell? ⟨go28, ((ji25) : Int).toNat * 5, none⟩ = some (.int .i64 ((rd_T85 y528 (ji25)).f0.f0)) := hcc30 0 _ rfl
                          have hx30_1 : w37.cell? ⟨go28, ((ji25) : Int).toNat * 5 + 1, none⟩ = some (.int .i64 ((rd_T85 y528 (ji25)).f0.f1)) := hcc30 1 _ rfl
                          have hx30_2 : w37.cell? ⟨go28, ((ji25) : Int).toNat * 5 + 2, none⟩ = some (.int .i64 ((rd_T85 y528 (ji25)).f0.f2)) := hcc30 2 _ rfl
                          have hx30_3 : w37.cell? ⟨go28, ((ji25) : Int).toNat * 5 + 3, none⟩ = some (.int .i64 ((rd_T85 y528 (ji25)).f1)) := hcc30 3 _ rfl
                          have hx30_4 : w37.cell? ⟨go28, ((ji25) : Int).toNat * 5 + 4, none⟩ = some (.int .i64 ((rd_T85 y528 (ji25)).f2)) := hcc30 4 _ rfl
                          have hf30_0 : w37.frozen? ⟨go28, ((ji25) : Int).toNat * 5, none⟩ = false := hfr30 0
                          have hf30_1 : w37.frozen? ⟨go28, ((ji25) : Int).toNat * 5 + 1, none⟩ = false := hfr30 1
                          have hf30_2 : w37.frozen? ⟨go28, ((ji25) : Int).toNat * 5 + 2, none⟩ = false := hfr30 2
                          have hf30_3 : w37.frozen? ⟨go28, ((ji25) : Int).toNat * 5 + 3, none⟩ = false := hfr30 3
                          have hf30_4 : w37.frozen? ⟨go28, ((ji25) : Int).toNat * 5 + 4, none⟩ = false := hfr30 4
                          clear hcl30 hcc30 hfr30 hM30
                          replace p30 := eq_true p30
                          replace q30 := eq_true q30
                          have HX38 := Aside0.mk (show Kd.R k85 85 w37 w.heap.size (fun _ => True) (.slice (some ⟨go28, 0, none⟩) x3_1.length co34) y528 from (by (with_reducible repeat (first | apply Kd.R_alloc | apply Kd.R_drewN | apply Kd.R_drew)); exact HO_3.out))
                          obtain ⟨ce38, hcl38, hM38, hcc38, hfr38⟩ := Kd.R_elem HX38.out z85 ((ji25) : Int) (of_decide_eq_true (by first | (with_reducible assumption) | assumption)) (by have h_ : ((ji25) : Int) < ((x3_1.length : Int) : Int) := of_decide_eq_true (by first | (with_reducible assumption) | assumption); first | exact h_ | (have e_ := (Kd.R_reads' HO_3.out).1; omega) | simpa using h_)
                          obtain rfl := k85_openM hM38
                          have HP38 := Kd.R_seg HX38.out ((ji25) : Int) (of_decide_eq_true (by first | (with_reducible assumption) | assumption)) (by have h_ : ((ji25) : Int) < ((x3_1.length : Int) : Int) := of_decide_eq_true (by first | (with_reducible assumption) | assumption); first | exact h_ | (have e_ := (Kd.R_reads' HO_3.out).1; omega) | simpa using h_) (seg := [.int .i64 (wrap64 (((rd_T85 y528 (ji25)).f2) + 1))]) (j := 4) hcl38 hcc38 (show 5 ≤ 5 from by decide) (x' := (⟨(⟨(rd_T85 y528 (ji25)).f0.f0, (rd_T85 y528 (ji25)).f0.f1, (rd_T85 y528 (ji25)).f0.f2⟩ : S54), (rd_T85 y528 (ji25)).f1, wrap64 (((rd_T85 y528 (ji25)).f2) + 1)⟩ : S85)) (k85_mkM _ _ _ (⟨(⟨(rd_T85 y528 (ji25)).f0.f0, (rd_T85 y528 (ji25)).f0.f1, (rd_T85 y528 (ji25)).f0.f2⟩ : S54), (rd_T85 y528 (ji25)).f1, wrap64 (((rd_T85 y528 (ji25)).f2) + 1)⟩ : S85) ) (fun _ hk => hk)
                          have hx38_4 := hcc38 4 _ rfl
                          (try simp only [show (k85).sz = 5 from rfl, Nat.mul_one, Nat.add_zero] at hx38_4)
                          have hf38_4 := hfr38 4
                          (try simp only [show (k85).sz = 5 from rfl, Nat.mul_one, Nat.add_zero] at hf38_4)
                          clear hcl38 hcc38 hfr38 hM38
                          try go_wp2_with (first | ((with_reducible refine gate_store (t := 3) (p := 54) rfl ?_); refine store_event (t := 3) (p := 54) (v := ?vo_w39) (w1 := (w37.setCell ⟨go28, ((ji25) : Int).toNat * 5 + 4, none⟩ (.int .i64 (wrap64 (((rd_T85 y528 (ji25)).f2) + 1))))) ?hg ?ho ?hn ?hr ?_; (case ho => rfl); (case hg => rfl); (case hn => rfl); (case hr => first | (go_simp; done) | (go_simp; rfl)); intro w39 hw; have hg : w37.grownBy w39 (some go28) := (by rw [hw]; exact HP38.2); have hp_ : Kd.R k85 85 w39 w.heap.size (fun _ => True) (.slice (some ⟨go28, 0, none⟩) x3_1.length co34) y530 := (by rw [hw, Ny530.out]; exact HP38.1); clear HP38; have n0_ := Aside0.mk (hp_); have n1_ := Aside0.mk (blk_grown (g := gb520) (o := .cells #[.int .i64 a0_0, .slice A0_1 l0_1.length c0_1, .slice (some ad521) l0_2.length c0_2] 30 (0, 0)) (by (with_reducible repeat (first | refine blk_drewN ?_ _ | refine blk_drew ?_ | refine blk_alloc ?_ _)); exact BK520.out) hg (Kd.R_ne HO_3.out BK520.out (by decide))); have n2_ := Aside0.mk (blk_grown (g := gb522) (o := .cells #[.int .i64 ((rd_T71 l0_2 x11_1).f0), .int .i64 ((rd_T71 l0_2 x11_1).f1), .int .i64 ((rd_T71 l0_2 x11_1).f2), .bool ((rd_T71 l0_2 x11_1).f3)] 71 (0, 0)) (by (with_reducible repeat (first | refine blk_drewN ?_ _ | refine blk_drew ?_ | refine blk_alloc ?_ _)); exact BK522.out) hg (Kd.R_ne HO_3.out BK522.out (by decide))); have n3_ := Aside0.mk ((by rw [hw]; exact below_set (HB.out) GB28.out : Below w.heap.size w w39)); clear HO_3; clear BK520; clear BK522; clear HB; have HO_3 := n0_; have BK520 := n1_; have BK522 := n2_; have HB := n3_; clear n0_ n1_ n2_ n3_; clear hg hw hp_))
                          go_roundg kj6
                          case measure => have := HK1.out; have := HJ6.out; omega
                          case rel => exact ⟨(y530), (true), (wrap64 (x11_1 + 1)), (by first | rfl | (simp; done) | (simp [*]; done)), (by first | rfl | (simp; done) | (simp [*]; done)), H', ⟨by have := HK1.out; have := HJ6.out; omega⟩, ⟨by (with_reducible repeat (first | apply Kd.R_alloc | apply Kd.R_drewN | apply Kd.R_drew)); exact HO_3.out⟩, ⟨by (with_reducible repeat (first | refine blk_drewN ?_ _ | refine blk_drew ?_ | refine blk_alloc ?_ _)); exact BK520.out⟩, ⟨by repeat (first | (with_reducible first | exact HB.out | apply below_alloc | apply pw_below_drewN | apply below_drew1 | refine below_set ?_ GE520.out | refine below_set ?_ GE522.out) | exact HB.out)⟩⟩
                        · rw [if_neg c27] at H
                          exact absurd H (by simp)
                      · rw [if_neg c26] at H
                        exact absurd H (by simp)
                  · replace c17 := Bool.eq_false_iff.mpr c17
                    subst c17
                    have H1 : (if x3_1.length < 3518437208883 then (impl_runsOf.l0 kj6 (x3_1 ++ [(⟨(⟨0, ((rd_T71 l0_2 x11_1).f0), ((rd_T71 l0_2 x11_1).f1)⟩ : S54), x11_1, wrap64 (x11_1 + 1)⟩ : S85)]) true l0_2 (l0_2.length : Int) (wrap64 (x11_1 + 1)) a0_0 l0_1 l0_2) else (none)) = some r := by rw [if_neg (show ¬ (false = true) by decide)] at H; exact H
                    clear H
                    have H := H1
                    clear H1
                    by_cases c40 : x3_1.length < 3518437208883
                    · rw [if_pos c40] at H
                      have LMc40 := Aside0.mk c40
                      clear c40
                      obtain ⟨y531, hy531⟩ : ∃ y_ : List (S85), y_ = (x3_1 ++ [(⟨(⟨0, ((rd_T71 l0_2 x11_1).f0), ((rd_T71 l0_2 x11_1).f1)⟩ : S54), x11_1, wrap64 (x11_1 + 1)⟩ : S85)]) := ⟨_, rfl⟩
                      replace H : (impl_runsOf.l0 kj6 y531 true l0_2 (l0_2.length : Int) (wrap64 (x11_1 + 1)) a0_0 l0_1 l0_2) = some r := by first | (rw [hy531]; with_reducible exact H) | (have H2_ := (Option.bind_some _ _).symm.trans H; rw [hy531]; with_reducible exact H2_) | (have H2_ := (Option.bind_some _ _).symm.trans H; with_reducible exact H2_) | with_reducible exact H | (rw [hy531]; exact H) | exact H
                      have Ny531 := Aside0.mk hy531
                      clear hy531
                      have H' := Aside0.mk H
                      clear H
                      have hnb41 := NB522_520.out
                      have hnc41 := NB520_522.out
                      have hcz42_0 : wc.cell? ⟨gb522, 0, none⟩ = some (.int .i64 ((rd_T71 l0_2 x11_1).f0)) := (blk_cell BK522.out 0).trans rfl
                      have hcz42_1 : wc.cell? ⟨gb522, 1, none⟩ = some (.int .i64 ((rd_T71 l0_2 x11_1).f1)) := (blk_cell BK522.out 1).trans rfl
                      have hcz42_2 : wc.cell? ⟨gb522, 2, none⟩ = some (.int .i64 ((rd_T71 l0_2 x11_1).f2)) := (blk_cell BK522.out 2).trans rfl
                      have hcz42_3 : wc.cell? ⟨gb522, 3, none⟩ = some (.bool ((rd_T71 l0_2 x11_1).f3)) := (blk_cell BK522.out 3).trans rfl
                      have hfz42_0 := blk_frozen BK522.out 0
                      have hfz42_1 := blk_frozen BK522.out 1
                      have hfz42_2 := blk_frozen BK522.out 2
                      have hfz42_3 := blk_frozen BK522.out 3
                      go_wp2_with (first | ((with_reducible refine gate_builtin (b := .append) (xs := #[.tmp 55, .tmp 65]) rfl ?_); at_builtin; refine Kd.R_append k85 (w0 := w) w.heap.size rfl (.tmp 55) (.tmp 65) 82 85 (.agg #[(.int .i64 0), (.int .i64 0), (.int .i64 0), (.int .i64 0), (.int .i64 0)]) 40 rfl Try.underlying82 info85 rfl (by decide) (by omega) u3 x3_1 (⟨(⟨0, ((rd_T71 l0_2 x11_1).f0), ((rd_T71 l0_2 x11_1).f1)⟩ : S54), x11_1, wrap64 (x11_1 + 1)⟩ : S85) [.int .i64 0, .int .i64 ((rd_T71 l0_2 x11_1).f0), .int .i64 ((rd_T71 l0_2 x11_1).f1), .int .i64 x11_1, .int .i64 (wrap64 (x11_1 + 1))] (fun _ => True) (fun _ => False) rfl rfl ?aP (fun _ hk => hk.elim) ?aF ?aO ?aB ?aS ?aL ?_; (case aP => exact k85_mkM _ _ _ (⟨(⟨0, ((rd_T71 l0_2 x11_1).f0), ((rd_T71 l0_2 x11_1).f1)⟩ : S54), x11_1, wrap64 (x11_1 + 1)⟩ : S85)); (case aB => exact (by repeat (first | (with_reducible first | exact HB.out | apply below_alloc | apply pw_below_drewN | apply below_drew1 | refine below_set ?_ GE520.out | refine below_set ?_ GE522.out) | exact HB.out))); (case aF => exact (fun _ _ => trivial)); (case aO => exact (by (with_reducible repeat (first | apply Kd.R_alloc | apply Kd.R_drewN | apply Kd.R_drew)); exact HO_3.out)); (case aS => exact (below_size (by repeat (first | (with_reducible first | exact HB.out | apply below_alloc | apply pw_below_drewN | apply below_drew1 | refine below_set ?_ GE520.out | refine below_set ?_ GE522.out) | exact HB.out)))); (case aL => have := LMc40.out; omega); intro v532 w43 ho hb hg hat; rw [← Ny531.out] at ho; have n0_ := Aside0.mk (blk_grown (g := gb520) (o := .cells #[.int .i64 a0_0, .slice A0_1 l0_1.length c0_1, .slice (some ad521) l0_2.length c0_2] 30 (0, 0)) (by (with_reducible repeat (first | refine blk_drewN ?_ _ | refine blk_drew ?_ | refine blk_alloc ?_ _)); exact BK520.out) hg (Kd.R_ne HO_3.out BK520.out (by decide))); have n1_ := Aside0.mk (blk_grown (g := gb522) (o := .cells #[.int .i64 ((rd_T71 l0_2 x11_1).f0), .int .i64 ((rd_T71 l0_2 x11_1).f1), .int .i64 ((rd_T71 l0_2 x11_1).f2), .bool ((rd_T71 l0_2 x11_1).f3)] 71 (0, 0)) (by (with_reducible repeat (first | refine blk_drewN ?_ _ | refine blk_drew ?_ | refine blk_alloc ?_ _)); exact BK522.out) hg (Kd.R_ne HO_3.out BK522.out (by decide))); have n2_ := Aside0.mk (hb); have n3_ := Aside0.mk (ho); clear BK520; clear BK522; clear HB; clear HO_3; have BK520 := n0_; have BK522 := n1_; have HB := n2_; have HO533 := n3_; clear n0_ n1_ n2_ n3_; clear ho hb hg hat))
                      go_roundg kj6
                      case measure => have := HK1.out; have := HJ6.out; omega
                      case rel => exact ⟨(y531), (true), (wrap64 (x11_1 + 1)), (by first | rfl | (simp; done) | (simp [*]; done)), (by first | rfl | (simp; done) | (simp [*]; done)), H', ⟨by have := HK1.out; have := HJ6.out; omega⟩, ⟨by (with_reducible repeat (first | apply Kd.R_alloc | apply Kd.R_drewN | apply Kd.R_drew)); exact HO533.out⟩, ⟨by (with_reducible repeat (first | refine blk_drewN ?_ _ | refine blk_drew ?_ | refine blk_alloc ?_ _)); exact BK520.out⟩, ⟨by repeat (first | (with_reducible first | exact HB.out | apply below_alloc | apply pw_below_drewN | apply below_drew1 | refine below_set ?_ GE520.out | refine below_set ?_ GE522.out) | exact HB.out)⟩⟩
                    · rw [if_neg c40] at H
                      exact absurd H (by simp)
          · rw [if_neg c6] at H
            exact absurd H (by simp)
        · rw [if_neg c5] at H
          exact absurd H (by simp)
      · rw [if_neg c4] at H
        have c4b0 : decide (x11_1 < (l0_2.length : Int)) = false := decide_eq_false c4
        clear c4
        obtain rfl := Option.some.inj H
        go_wp2
        go_ret
        exact ⟨_, by first | rfl | (simp [errW_none, errW_some] <;> rfl) | (simp [*, errW_none, errW_some] <;> rfl), by (with_reducible repeat (first | apply Kd.R_alloc | apply Kd.R_drewN | apply Kd.R_drew)); exact HO_3.out, by repeat (first | (with_reducible first | exact HB.out | apply below_alloc | apply pw_below_drewN | apply below_drew1 | refine below_set ?_ GE520.out) | exact HB.out)⟩
end Go.Proofs.Ytghfeapncmlihaa.A
