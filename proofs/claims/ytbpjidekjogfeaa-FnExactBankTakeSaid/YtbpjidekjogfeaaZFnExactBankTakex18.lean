/- Used by the law FnExactBankTake. -/
import Derived.Test.YtbpjidekjogfeaaZFnExactBankTakex11
import Derived.Test.YtbpjidekjogfeaaZFnExactBankTakex12
import Derived.Test.YtbpjidekjogfeaaZFnExactBankTakex14
import Derived.Test.YtbpjidekjogfeaaZFnExactBankTakex15
import Derived.Test.YtbpjidekjogfeaaZFnExactBankTakex16
import Derived.Test.YtbpjidekjogfeaaZFnExactBankTakex17
import Derived.ProofKit
import Derived.OpenShut
import Derived.ShutString
import Derived.ChangeOld
import Derived.SizedLaws
import Derived.ChangeArms
import Derived.Test.YtbpjidekjogfeaaZFnExactBankTakex13
import Derived.Test.YtbpjidekjogfeaaZFnExactBankTakeh
namespace Go.Proofs.Ytbpjidekjogfeaa.A
open Go.RowKit Go.Proofs.YtbpjidekjogfeaaW.PrintWords Go.Proofs.YtbpjidekjogfeaaW.PrintLast Go.Proofs.YtbpjidekjogfeaaW.PrintMore
attribute [local go_sem] max2_int min2_int max_two min_two max_three min_three max_four min_four   
set_option linter.unusedVariables false
set_option linter.unusedSimpArgs false
def laws_heldColumnS.l0 : Nat → List (S41) → Int → Int → Option (Int)
 | 0, _, _, _ => none
 | k + 1, x0, x1, x5 => if x5 < (x0.length : Int) then (if 0 ≤ x5 then (if ((rd_T41 x0 x5).f0) = x1 then ((laws_heldIntS.f k ((rd_T41 x0 x5).f1) (wrap64 (x1 + 1))).bind fun t431 => (if t431 < 0 then (some (-1)) else ((laws_heldBoxS.f k ((rd_T41 x0 x5).f2) t431).bind fun t433 => (if t433 < 0 then (some (-1)) else (laws_heldColumnS.l0 k x0 t433 (wrap64 (x5 + 1))))))) else (some (-1))) else (none)) else (some x1)
def laws_heldColumnS.f (k : Nat) (l0 : List (S41)) (a1 : Int) : Option (Int) := laws_heldColumnS.l0 k l0 a1 0
set_option maxHeartbeats 8000000 in
set_option maxRecDepth 100000 in
theorem laws_heldColumnS.calls (k : Nat) (A0 : Option Addr) (c0 : Nat) (l0 : List (S41)) (a1 : Int) (r : Int) (w : World) (hr0 : Kd.C k41 w A0 l0.length l0) (hc0 : l0.length ≤ c0) (h : laws_heldColumnS.f k l0 a1 = some r) :
  Calls Try.prog 26 #[.slice A0 l0.length c0, .int .i64 a1] w fun e w' => e = .returned (.int .i64 r) ∧ Drawn0 w w' := by
 have HR0 := Aside0.mk hr0
 have HC0 := Aside0.mk hc0
 clear hr0 hc0
 have H : (laws_heldColumnS.l0 k l0 a1 0) = some r := h
 clear h
 have H' := Aside0.mk H
 clear H
 go_enter Try.func26, Try.ntmps26
 go_wp2
 go_loopg [1, 5] k (fun kq v1 v5 w' => ∃ (x1_1 : Int) (x5_1 : Int), v1 = .int .i64 x1_1 ∧ v5 = .int .i64 x5_1 ∧ Aside0 (laws_heldColumnS.l0 kq l0 x1_1 x5_1 = some r) ∧ Aside0 (kq ≤ k) ∧ Drawn0 w w')
 case atStart => exact ⟨(a1), (0), (by first | rfl | (simp; done) | (simp [*]; done)), (by first | rfl | (simp; done) | (simp [*]; done)), H', ⟨Nat.le_refl _⟩, by repeat (first | exact Drawn0.refl _ | apply Drawn0.step)⟩
 case round =>
  clear H'
  try clear c2
  try clear p2
  obtain ⟨x1_1, x5_1, rfl, rfl, HA, HK1, ⟨m1, rfl⟩⟩ := hrel
  cases gk with
  | zero => exact absurd HA.out (by simp [laws_heldColumnS.l0])
  | succ k1 =>
   have H := HA.out
   clear HA
   simp only [laws_heldColumnS.l0] at H
   by_cases c3 : x5_1 < (l0.length : Int)
   ·rw [if_pos c3] at H
    have c3b0 : decide (x5_1 < (l0.length : Int)) = true := decide_eq_true c3
    clear c3
    by_cases c4 : 0 ≤ x5_1
    ·rw [if_pos c4] at H
     have c4b0 : decide (0 ≤ x5_1) = true := decide_eq_true c4
     clear c4
     by_cases c5 : ((rd_T41 l0 x5_1).f0) = x1_1
     ·rw [if_pos c5] at H
      have c5b0 : (((rd_T41 l0 x5_1).f0) == x1_1) = true := beq_iff_eq.mpr c5
      have c5b1 : (((rd_T41 l0 x5_1).f0) != x1_1) = false := bne_eq_false_iff_eq.mpr c5
      clear c5
      replace H := Option.bind_eq_some_iff.mp H
      obtain ⟨t431, A60, H⟩ := H
      try dsimp only at H
      have A6 := Aside0.mk A60
      clear A60
      by_cases c7 : t431 < 0
      ·rw [if_pos c7] at H
       have c7b0 : decide (t431 < 0) = true := decide_eq_true c7
       clear c7
       obtain rfl := Option.some.inj H
       have p429 : 0 ≤ (x5_1 : Int) := of_decide_eq_true asm
       have q429 : x5_1 < (l0.length : Int) := of_decide_eq_true asm
       obtain ⟨ad429, A429_1, c429_1, A429_2, c429_2, e429, hx429_0, hx429_1, hx429_2, hl429_1, hi429_1, hl429_2, hi429_2⟩ := at_T41 HR0.out x5_1 p429 q429
       cases e429
       have HR429_1 := Aside0.mk hi429_1
       have HC429_1 := Aside0.mk hl429_1
       clear hi429_1 hl429_1
       have HR429_2 := Aside0.mk hi429_2
       have HC429_2 := Aside0.mk hl429_2
       clear hi429_2 hl429_2
       replace p429 := eq_true p429
       replace q429 := eq_true q429
       have p430 : 0 ≤ (x5_1 : Int) := of_decide_eq_true asm
       have q430 : x5_1 < (l0.length : Int) := of_decide_eq_true asm
       obtain ⟨ad430, A430_1, c430_1, A430_2, c430_2, e430, hx430_0, hx430_1, hx430_2, hl430_1, hi430_1, hl430_2, hi430_2⟩ := at_T41 HR0.out x5_1 p430 q430
       obtain rfl : ad429 = ad430 := (by injection e430)
       have HR430_1 := Aside0.mk hi430_1
       have HC430_1 := Aside0.mk hl430_1
       clear hi430_1 hl430_1
       have HR430_2 := Aside0.mk hi430_2
       have HC430_2 := Aside0.mk hl430_2
       clear hi430_2 hl430_2
       replace p430 := eq_true p430
       replace q430 := eq_true q430
       have ea_ := Option.some.inj (hx429_1.symm.trans hx430_1)
       injection ea_ with ea_ en_ ec_
       subst ea_
       subst ec_
       clear en_
       have ea_ := Option.some.inj (hx429_2.symm.trans hx430_2)
       injection ea_ with ea_ en_ ec_
       subst ea_
       subst ec_
       clear en_
       go_wp2_with (first | ((with_reducible refine gate_callee (f := 55) rfl ?_); refine goesL_ (some 27) rfl rfl Try.func55 (by kernel_rfl) rfl #[.slice A429_1 ((rd_T41 l0 x5_1).f1).length c429_1, .int .i64 (wrap64 (x1_1 + 1))] rfl mapd ?_; (with_reducible refine (laws_heldIntS.calls k1 _ _ ((rd_T41 l0 x5_1).f1) (wrap64 (x1_1 + 1)) t431 _ ?side1 ?side2 A6.out).mono ?_); (case side1 => repeat (first | exact HR430_1.out | (with_reducible refine Kd.C_alloc ?_ _) | (with_reducible refine Kd.C_drewN ?_ _) | (with_reducible refine Kd.C_drew ?_))); (case side2 => exact HC430_1.out); rintro e w' ⟨rfl, ⟨nd, rfl⟩⟩; refine ⟨_, rfl, ?_⟩))
       go_ret
       exact ⟨by first | rfl | (simp; done) | (simp [*]; done), by repeat (first | exact Drawn0.refl _ | apply Drawn0.step)⟩
      ·rw [if_neg c7] at H
       have c7b0 : decide (t431 < 0) = false := decide_eq_false c7
       clear c7
       replace H := Option.bind_eq_some_iff.mp H
       obtain ⟨t433, A80, H⟩ := H
       try dsimp only at H
       have A8 := Aside0.mk A80
       clear A80
       by_cases c9 : t433 < 0
       ·rw [if_pos c9] at H
        have c9b0 : decide (t433 < 0) = true := decide_eq_true c9
        clear c9
        obtain rfl := Option.some.inj H
        have p429 : 0 ≤ (x5_1 : Int) := of_decide_eq_true asm
        have q429 : x5_1 < (l0.length : Int) := of_decide_eq_true asm
        obtain ⟨ad429, A429_1, c429_1, A429_2, c429_2, e429, hx429_0, hx429_1, hx429_2, hl429_1, hi429_1, hl429_2, hi429_2⟩ := at_T41 HR0.out x5_1 p429 q429
        cases e429
        have HR429_1 := Aside0.mk hi429_1
        have HC429_1 := Aside0.mk hl429_1
        clear hi429_1 hl429_1
        have HR429_2 := Aside0.mk hi429_2
        have HC429_2 := Aside0.mk hl429_2
        clear hi429_2 hl429_2
        replace p429 := eq_true p429
        replace q429 := eq_true q429
        have p430 : 0 ≤ (x5_1 : Int) := of_decide_eq_true asm
        have q430 : x5_1 < (l0.length : Int) := of_decide_eq_true asm
        obtain ⟨ad430, A430_1, c430_1, A430_2, c430_2, e430, hx430_0, hx430_1, hx430_2, hl430_1, hi430_1, hl430_2, hi430_2⟩ := at_T41 HR0.out x5_1 p430 q430
        obtain rfl : ad429 = ad430 := (by injection e430)
        have HR430_1 := Aside0.mk hi430_1
        have HC430_1 := Aside0.mk hl430_1
        clear hi430_1 hl430_1
        have HR430_2 := Aside0.mk hi430_2
        have HC430_2 := Aside0.mk hl430_2
        clear hi430_2 hl430_2
        replace p430 := eq_true p430
        replace q430 := eq_true q430
        have ea_ := Option.some.inj (hx429_1.symm.trans hx430_1)
        injection ea_ with ea_ en_ ec_
        subst ea_
        subst ec_
        clear en_
        have ea_ := Option.some.inj (hx429_2.symm.trans hx430_2)
        injection ea_ with ea_ en_ ec_
        subst ea_
        subst ec_
        clear en_
        go_wp2_with (first | ((with_reducible refine gate_callee (f := 55) rfl ?_); refine goesL_ (some 27) rfl rfl Try.func55 (by kernel_rfl) rfl #[.slice A429_1 ((rd_T41 l0 x5_1).f1).length c429_1, .int .i64 (wrap64 (x1_1 + 1))] rfl mapd ?_; (with_reducible refine (laws_heldIntS.calls k1 _ _ ((rd_T41 l0 x5_1).f1) (wrap64 (x1_1 + 1)) t431 _ ?side1 ?side2 A6.out).mono ?_); (case side1 => repeat (first | exact HR430_1.out | (with_reducible refine Kd.C_alloc ?_ _) | (with_reducible refine Kd.C_drewN ?_ _) | (with_reducible refine Kd.C_drew ?_))); (case side2 => exact HC430_1.out); rintro e w' ⟨rfl, ⟨nd, rfl⟩⟩; refine ⟨_, rfl, ?_⟩; have p432 : 0 ≤ (x5_1 : Int) := of_decide_eq_true asm; have q432 : x5_1 < (l0.length : Int) := of_decide_eq_true asm; obtain ⟨ad432, A432_1, c432_1, A432_2, c432_2, e432, hx432_0, hx432_1, hx432_2, hl432_1, hi432_1, hl432_2, hi432_2⟩ := at_T41 HR0.out x5_1 p432 q432; obtain rfl : ad429 = ad432 := (by injection e432); have HR432_1 := Aside0.mk hi432_1; have HC432_1 := Aside0.mk hl432_1; clear hi432_1 hl432_1; have HR432_2 := Aside0.mk hi432_2; have HC432_2 := Aside0.mk hl432_2; clear hi432_2 hl432_2; replace p432 := eq_true p432; replace q432 := eq_true q432; have ea_ := Option.some.inj (hx429_1.symm.trans hx432_1); injection ea_ with ea_ en_ ec_; subst ea_; subst ec_; clear en_; have ea_ := Option.some.inj (hx429_2.symm.trans hx432_2); injection ea_ with ea_ en_ ec_; subst ea_; subst ec_; clear en_) | ((with_reducible refine gate_callee (f := 74) rfl ?_); refine goesL_ (some 36) rfl rfl Try.func74 (by kernel_rfl) rfl #[.slice A429_2 ((rd_T41 l0 x5_1).f2).length c429_2, .int .i64 t431] rfl mapd ?_; (with_reducible refine (laws_heldBoxS.calls k1 _ _ ((rd_T41 l0 x5_1).f2) t431 t433 _ ?side1 ?side2 A8.out).mono ?_); (case side1 => repeat (first | exact HR432_2.out | (with_reducible refine Kd.C_alloc ?_ _) | (with_reducible refine Kd.C_drewN ?_ _) | (with_reducible refine Kd.C_drew ?_))); (case side2 => exact HC432_2.out); rintro e w' ⟨rfl, ⟨nd, rfl⟩⟩; refine ⟨_, rfl, ?_⟩))
        go_ret
        exact ⟨by first | rfl | (simp; done) | (simp [*]; done), by repeat (first | exact Drawn0.refl _ | apply Drawn0.step)⟩
       ·rw [if_neg c9] at H
        have c9b0 : decide (t433 < 0) = false := decide_eq_false c9
        clear c9
        have H' := Aside0.mk H
        clear H
        have p429 : 0 ≤ (x5_1 : Int) := of_decide_eq_true asm
        have q429 : x5_1 < (l0.length : Int) := of_decide_eq_true asm
        obtain ⟨ad429, A429_1, c429_1, A429_2, c429_2, e429, hx429_0, hx429_1, hx429_2, hl429_1, hi429_1, hl429_2, hi429_2⟩ := at_T41 HR0.out x5_1 p429 q429
        cases e429
        have HR429_1 := Aside0.mk hi429_1
        have HC429_1 := Aside0.mk hl429_1
        clear hi429_1 hl429_1
        have HR429_2 := Aside0.mk hi429_2
        have HC429_2 := Aside0.mk hl429_2
        clear hi429_2 hl429_2
        replace p429 := eq_true p429
        replace q429 := eq_true q429
        have p430 : 0 ≤ (x5_1 : Int) := of_decide_eq_true asm
        have q430 : x5_1 < (l0.length : Int) := of_decide_eq_true asm
        obtain ⟨ad430, A430_1, c430_1, A430_2, c430_2, e430, hx430_0, hx430_1, hx430_2, hl430_1, hi430_1, hl430_2, hi430_2⟩ := at_T41 HR0.out x5_1 p430 q430
        obtain rfl : ad429 = ad430 := (by injection e430)
        have HR430_1 := Aside0.mk hi430_1
        have HC430_1 := Aside0.mk hl430_1
        clear hi430_1 hl430_1
        have HR430_2 := Aside0.mk hi430_2
        have HC430_2 := Aside0.mk hl430_2
        clear hi430_2 hl430_2
        replace p430 := eq_true p430
        replace q430 := eq_true q430
        have ea_ := Option.some.inj (hx429_1.symm.trans hx430_1)
        injection ea_ with ea_ en_ ec_
        subst ea_
        subst ec_
        clear en_
        have ea_ := Option.some.inj (hx429_2.symm.trans hx430_2)
        injection ea_ with ea_ en_ ec_
        subst ea_
        subst ec_
        clear en_
        go_wp2_with (first | ((with_reducible refine gate_callee (f := 55) rfl ?_); refine goesL_ (some 27) rfl rfl Try.func55 (by kernel_rfl) rfl #[.slice A429_1 ((rd_T41 l0 x5_1).f1).length c429_1, .int .i64 (wrap64 (x1_1 + 1))] rfl mapd ?_; (with_reducible refine (laws_heldIntS.calls k1 _ _ ((rd_T41 l0 x5_1).f1) (wrap64 (x1_1 + 1)) t431 _ ?side1 ?side2 A6.out).mono ?_); (case side1 => repeat (first | exact HR430_1.out | (with_reducible refine Kd.C_alloc ?_ _) | (with_reducible refine Kd.C_drewN ?_ _) | (with_reducible refine Kd.C_drew ?_))); (case side2 => exact HC430_1.out); rintro e w' ⟨rfl, ⟨nd, rfl⟩⟩; refine ⟨_, rfl, ?_⟩; have p432 : 0 ≤ (x5_1 : Int) := of_decide_eq_true asm; have q432 : x5_1 < (l0.length : Int) := of_decide_eq_true asm; obtain ⟨ad432, A432_1, c432_1, A432_2, c432_2, e432, hx432_0, hx432_1, hx432_2, hl432_1, hi432_1, hl432_2, hi432_2⟩ := at_T41 HR0.out x5_1 p432 q432; obtain rfl : ad429 = ad432 := (by injection e432); have HR432_1 := Aside0.mk hi432_1; have HC432_1 := Aside0.mk hl432_1; clear hi432_1 hl432_1; have HR432_2 := Aside0.mk hi432_2; have HC432_2 := Aside0.mk hl432_2; clear hi432_2 hl432_2; replace p432 := eq_true p432; replace q432 := eq_true q432; have ea_ := Option.some.inj (hx429_1.symm.trans hx432_1); injection ea_ with ea_ en_ ec_; subst ea_; subst ec_; clear en_; have ea_ := Option.some.inj (hx429_2.symm.trans hx432_2); injection ea_ with ea_ en_ ec_; subst ea_; subst ec_; clear en_) | ((with_reducible refine gate_callee (f := 74) rfl ?_); refine goesL_ (some 36) rfl rfl Try.func74 (by kernel_rfl) rfl #[.slice A429_2 ((rd_T41 l0 x5_1).f2).length c429_2, .int .i64 t431] rfl mapd ?_; (with_reducible refine (laws_heldBoxS.calls k1 _ _ ((rd_T41 l0 x5_1).f2) t431 t433 _ ?side1 ?side2 A8.out).mono ?_); (case side1 => repeat (first | exact HR432_2.out | (with_reducible refine Kd.C_alloc ?_ _) | (with_reducible refine Kd.C_drewN ?_ _) | (with_reducible refine Kd.C_drew ?_))); (case side2 => exact HC432_2.out); rintro e w' ⟨rfl, ⟨nd, rfl⟩⟩; refine ⟨_, rfl, ?_⟩))
        go_roundg k1
        case measure => have := HK1.out; omega
        case rel => exact ⟨(t433), (wrap64 (x5_1 + 1)), (by first | rfl | (simp; done) | (simp [*]; done)), (by first | rfl | (simp; done) | (simp [*]; done)), H', ⟨by have := HK1.out; omega⟩, by repeat (first | exact Drawn0.refl _ | apply Drawn0.step)⟩
     ·rw [if_neg c5] at H
      have c5b0 : (((rd_T41 l0 x5_1).f0) == x1_1) = false := beq_eq_false_iff_ne.mpr c5
      have c5b1 : (((rd_T41 l0 x5_1).f0) != x1_1) = true := bne_iff_ne.mpr c5
      obtain rfl := Option.some.inj H
      have p429 : 0 ≤ (x5_1 : Int) := of_decide_eq_true asm
      have q429 : x5_1 < (l0.length : Int) := of_decide_eq_true asm
      obtain ⟨ad429, A429_1, c429_1, A429_2, c429_2, e429, hx429_0, hx429_1, hx429_2, hl429_1, hi429_1, hl429_2, hi429_2⟩ := at_T41 HR0.out x5_1 p429 q429
      cases e429
      have HR429_1 := Aside0.mk hi429_1
      have HC429_1 := Aside0.mk hl429_1
      clear hi429_1 hl429_1
      have HR429_2 := Aside0.mk hi429_2
      have HC429_2 := Aside0.mk hl429_2
      clear hi429_2 hl429_2
      replace p429 := eq_true p429
      replace q429 := eq_true q429
      go_wp2
      go_ret
      exact ⟨by first | rfl | (simp; done) | (simp [*]; done), by repeat (first | exact Drawn0.refl _ | apply Drawn0.step)⟩
    ·rw [if_neg c4] at H
     exact absurd H (by simp)
   ·rw [if_neg c3] at H
    have c3b0 : decide (x5_1 < (l0.length : Int)) = false := decide_eq_false c3
    clear c3
    obtain rfl := Option.some.inj H
    go_wp2
    go_ret
    exact ⟨by first | rfl | (simp; done) | (simp [*]; done), by repeat (first | exact Drawn0.refl _ | apply Drawn0.step)⟩
theorem drawn_below_ {w w2 : World} (h : Drawn0 w w2) : Below w.heap.size w w2 := by
 obtain ⟨n, rfl⟩ := h.out
 exact pw_below_drewN (Below.refl _ _) n
def laws_FnExactBankTake.f (k : Nat) (l0 : List (S58)) (a1 : Int) : Option (Bool) :=
 (laws_szColumnS.f k l0 1048576).bind fun t1 => if t1 < 0 then some true else
 (laws_toColumnS.f k l0).bind fun t2 => (spec_BankTake.f k t2 a1).bind fun t3 => (impl_BankTake.f k t2 a1).bind fun t4 =>
 (laws_eqColumnS.f k t4.1 t3.1).bind fun t5 => (laws_eqColumnS.f k t2 t2).bind fun t6 => (laws_markColumnS.f k t2 1).bind fun t7 =>
 (laws_markColumnS.g k t4.1 1).bind fun t8 => (laws_heldColumnS.f k t8.2 1).bind fun t9 =>
 if t5 = true ∧ t6 = true ∧ t4.2 = t3.2 ∧ 0 ≤ t7 ∧ 0 ≤ t9 ∧ t9 = t8.1 then some true else none
set_option maxHeartbeats 8000000 in
set_option maxRecDepth 100000 in
theorem laws_FnExactBankTake.calls (k : Nat) (A0 : Option Addr) (c0 : Nat) (l0 : List (S58)) (a1 : Int) (r : Bool) (w : World) (hr0 : Kd.C k58 w A0 l0.length l0) (hc0 : l0.length ≤ c0) (hr_ : Aside0 (r = true)) (h : laws_FnExactBankTake.f k l0 a1 = some r) :
  Calls Try.prog 4 #[.slice A0 l0.length c0, .int .i64 a1] w fun e w' => e = .returned (.bool r) ∧ Below w.heap.size w w' := by
 have hu41 := Try.underlying41
 have HR0 := Aside0.mk hr0
 have HC0 := Aside0.mk hc0
 have HB := Aside0.mk (Below.refl w.heap.size w)
 clear hr0 hc0
 unfold laws_FnExactBankTake.f at h
 obtain ⟨t1, B1, h⟩ := Option.bind_eq_some_iff.mp h
 have A1 := Aside0.mk B1
 clear B1
 by_cases c1 : t1 < 0
 ·rw [if_pos c1] at h
  have c1b0 : decide (t1 < 0) = true := decide_eq_true c1
  obtain rfl := Option.some.inj h
  clear c1 h
  go_enter Try.func4, Try.ntmps4
  go_wp2_with (first | ((with_reducible refine gate_callee (f := 15) rfl ?_); refine goesL_ (some 18) rfl rfl Try.func15 (by kernel_rfl) rfl #[.slice A0 l0.length c0, .int .i64 1048576] rfl (by (try simp only [List.map_toArray, List.map_cons, List.map_nil]); first | done | rfl) ?_; refine (laws_szColumnS.calls k _ _ l0 1048576 t1 _ (Kd.C_below HR0.out HB.out) HC0.out A1.out).mono ?_; rintro e w2 ⟨rfl, hb⟩; refine ⟨_, rfl, ?_⟩; replace HB := Aside0.mk (below_step HB.out hb); clear hb))
  go_ret
  exact ⟨by first | rfl | (simp [errW_none, errW_some] <;> rfl), HB.out⟩
 ·rw [if_neg c1] at h
  have c1b0 : decide (t1 < 0) = false := decide_eq_false c1
  clear c1
  obtain ⟨t2, B2, h⟩ := Option.bind_eq_some_iff.mp h
  obtain ⟨⟨t3, u3⟩, B3, h⟩ := Option.bind_eq_some_iff.mp h
  obtain ⟨⟨t4, u4⟩, B4, h⟩ := Option.bind_eq_some_iff.mp h
  obtain ⟨t5, B5, h⟩ := Option.bind_eq_some_iff.mp h
  obtain ⟨t6, B6, h⟩ := Option.bind_eq_some_iff.mp h
  obtain ⟨t7, B7, h⟩ := Option.bind_eq_some_iff.mp h
  obtain ⟨⟨t8, u8⟩, B8, h⟩ := Option.bind_eq_some_iff.mp h
  obtain ⟨t9, B9, h⟩ := Option.bind_eq_some_iff.mp h
  dsimp only at B5 B8 B9 h
  by_cases c2 : t5 = true ∧ t6 = true ∧ u4 = u3 ∧ 0 ≤ t7 ∧ 0 ≤ t9 ∧ t9 = t8
  ·rw [if_pos c2] at h
   obtain rfl := Option.some.inj h
   obtain ⟨rfl, rfl, rfl, c7, c9, rfl⟩ := c2
   have c7b0 : decide (t7 < 0) = false := decide_eq_false (by omega)
   have c9b0 : decide (t9 < 0) = false := decide_eq_false (by omega)
   clear h c7 c9
   have A2 := Aside0.mk B2
   have A3 := Aside0.mk B3
   have A4 := Aside0.mk B4
   have A5 := Aside0.mk B5
   have A6 := Aside0.mk B6
   have A7 := Aside0.mk B7
   have A8 := Aside0.mk B8
   have A9 := Aside0.mk B9
   clear B2 B3 B4 B5 B6 B7 B8 B9
   go_enter Try.func4, Try.ntmps4
   go_upto_region 14 with (first | ((with_reducible refine gate_callee (f := 15) rfl ?_); refine goesL_ (some 18) rfl rfl Try.func15 (by kernel_rfl) rfl #[.slice A0 l0.length c0, .int .i64 1048576] rfl (by (try simp only [List.map_toArray, List.map_cons, List.map_nil]); first | done | rfl) ?_; refine (laws_szColumnS.calls k _ _ l0 1048576 t1 _ (Kd.C_below HR0.out HB.out) HC0.out A1.out).mono ?_; rintro e w2 ⟨rfl, hb⟩; refine ⟨_, rfl, ?_⟩; replace HB := Aside0.mk (below_step HB.out hb); clear hb) | ((with_reducible refine gate_callee (f := 17) rfl ?_); refine goesL_ (some 23) rfl rfl Try.func17 (by kernel_rfl) rfl #[.slice A0 l0.length c0] rfl (by (try simp only [List.map_toArray, List.map_cons, List.map_nil]); first | done | rfl) ?_; refine (laws_toColumnS.calls k _ _ l0 t2 _ (Kd.C_below HR0.out HB.out) HC0.out A2.out).mono ?_; rintro e w3 ⟨v3, rfl, ho, hb⟩; refine ⟨_, rfl, ?_⟩; have HT := Aside0.mk (ho); replace HB := Aside0.mk (below_step HB.out hb); clear ho hb; obtain ⟨At, ct, et⟩ := Kd.S_slice HT.out; subst et) | ((with_reducible refine gate_callee (f := 24) rfl ?_); refine goesL_ (some 25) rfl rfl Try.func24 (by kernel_rfl) rfl #[.slice At t2.length ct, .int .i64 a1] rfl (by (try simp only [List.map_toArray, List.map_cons, List.map_nil]); first | done | rfl) ?_; refine (spec_BankTake.calls k _ _ t2 a1 t3 u4 _ (Kd.S_reads' HT.out).2.2 (Kd.S_reads' HT.out).2.1 A3.out).mono ?_; rintro e w4 ⟨v4, rfl, ho, hb⟩; refine ⟨_, rfl, ?_⟩; have HW := Aside0.mk (Kd.S_mono (ok' := fun k_ => k_ < w4.heap.size) (Kd.S_bound (Kd.S_lower ho (below_size HB.out))) (fun _ hk_ => hk_.2.2.1)); replace HB := Aside0.mk (below_step HB.out hb); clear ho hb HT; obtain ⟨Aw, cw, ew⟩ := Kd.S_slice HW.out; subst ew) | ((with_reducible refine gate_callee (f := 17) rfl ?_); refine goesL_ (some 29) rfl rfl Try.func17 (by kernel_rfl) rfl #[.slice A0 l0.length c0] rfl (by (try simp only [List.map_toArray, List.map_cons, List.map_nil]); first | done | rfl) ?_; refine (laws_toColumnS.calls k _ _ l0 t2 _ (Kd.C_below HR0.out HB.out) HC0.out A2.out).mono ?_; rintro e w5 ⟨v5, rfl, ho, hb⟩; refine ⟨_, rfl, ?_⟩; have HS45 := Aside0.mk (below_size hb); replace HW := Aside0.mk (Kd.S_below HW.out hb); have HX := Aside0.mk (Kd.S_lower (Kd.S_mono (ok' := fun k_ => w4.heap.size ≤ k_ ∧ k_ < w5.heap.size) (Kd.S_bound ho) (fun _ hk_ => ⟨hk_.2.1, hk_.2.2.1⟩)) (below_size HB.out)); replace HB := Aside0.mk (below_step HB.out hb); clear ho hb; obtain ⟨Ax, cx, ex⟩ := Kd.S_slice HX.out; subst ex) | ((with_reducible refine gate_callee (f := 25) rfl ?_); refine goesL_ (some 33) rfl rfl Try.func25 (by kernel_rfl) rfl #[.slice Ax t2.length cx, .int .i64 a1] rfl (by (try simp only [List.map_toArray, List.map_cons, List.map_nil]); first | done | rfl) ?_; refine (impl_BankTake.calls k _ _ t2 a1 t4 u4 _ (Kd.S_reads' HX.out).2.2 (Kd.S_reads' HX.out).2.1 A4.out).mono ?_; rintro e w6 ⟨v6, rfl, ho, hb⟩; refine ⟨_, rfl, ?_⟩; replace HW := Aside0.mk (Kd.S_below HW.out hb); replace HX := Aside0.mk (Kd.S_below HX.out hb); have HG := Aside0.mk (Kd.S_lower (Kd.S_mono (ok' := fun k_ => w5.heap.size ≤ k_) (Kd.S_bound ho) (fun _ hk_ => hk_.2.1)) (below_size HB.out)); replace HB := Aside0.mk (below_step HB.out hb); clear ho hb; obtain ⟨Ag, cg, eg⟩ := Kd.S_slice HG.out; subst eg; have HLT := Aside0.mk (show ∀ k_, k_ < w4.heap.size → ¬ w5.heap.size ≤ k_ from fun _ h1_ h2_ => Nat.not_le.mpr h1_ (Nat.le_trans HS45.out h2_))) | ((with_reducible refine gate_callee (f := 20) rfl ?_); refine goesL_ (some 38) rfl rfl Try.func20 (by kernel_rfl) rfl #[.slice Ag t4.length cg, .slice Aw t3.length cw] rfl (by (try simp only [List.map_toArray, List.map_cons, List.map_nil]); first | done | rfl) ?_; refine (laws_eqColumnS.calls k _ _ t4 _ _ t3 true _ (Kd.S_reads' HG.out).2.2 (Kd.S_reads' HG.out).2.1 (Kd.S_reads' HW.out).2.2 (Kd.S_reads' HW.out).2.1 A5.out).mono ?_; rintro e w7 ⟨rfl, hb⟩; refine ⟨_, rfl, ?_⟩; replace HW := Aside0.mk (Kd.S_below HW.out hb); replace HX := Aside0.mk (Kd.S_below HX.out hb); replace HG := Aside0.mk (Kd.S_below HG.out hb); replace HB := Aside0.mk (below_step HB.out hb); clear hb) | ((with_reducible refine gate_callee (f := 17) rfl ?_); refine goesL_ (some 47) rfl rfl Try.func17 (by kernel_rfl) rfl #[.slice A0 l0.length c0] rfl (by (try simp only [List.map_toArray, List.map_cons, List.map_nil]); first | done | rfl) ?_; refine (laws_toColumnS.calls k _ _ l0 t2 _ (Kd.C_below HR0.out HB.out) HC0.out A2.out).mono ?_; rintro e w8 ⟨v8, rfl, ho, hb⟩; refine ⟨_, rfl, ?_⟩; replace HW := Aside0.mk (Kd.S_below HW.out hb); replace HX := Aside0.mk (Kd.S_below HX.out hb); replace HG := Aside0.mk (Kd.S_below HG.out hb); have HT := Aside0.mk (ho); replace HB := Aside0.mk (below_step HB.out hb); clear ho hb; obtain ⟨Au, cu, eu⟩ := Kd.S_slice HT.out; subst eu) | ((with_reducible refine gate_callee (f := 20) rfl ?_); refine goesL_ (some 48) rfl rfl Try.func20 (by kernel_rfl) rfl #[.slice Ax t2.length cx, .slice Au t2.length cu] rfl (by (try simp only [List.map_toArray, List.map_cons, List.map_nil]); first | done | rfl) ?_; refine (laws_eqColumnS.calls k _ _ t2 _ _ t2 true _ (Kd.S_reads' HX.out).2.2 (Kd.S_reads' HX.out).2.1 (Kd.S_reads' HT.out).2.2 (Kd.S_reads' HT.out).2.1 A6.out).mono ?_; rintro e w9 ⟨rfl, hb⟩; refine ⟨_, rfl, ?_⟩; replace HW := Aside0.mk (Kd.S_below HW.out hb); replace HX := Aside0.mk (Kd.S_below HX.out hb); replace HG := Aside0.mk (Kd.S_below HG.out hb); replace HB := Aside0.mk (below_step HB.out hb); clear hb) | ((with_reducible refine gate_callee (f := 21) rfl ?_); refine goesL_ (some 52) rfl rfl Try.func21 (by kernel_rfl) rfl #[.slice Ax t2.length cx, .int .i64 1] rfl (by (try simp only [List.map_toArray, List.map_cons, List.map_nil]); first | done | rfl) ?_; refine (laws_markColumnS.calls k (fun k_ => w4.heap.size ≤ k_ ∧ k_ < w5.heap.size) (.slice Ax t2.length cx) t2 1 t7 w _ HB.out (Kd.S_R HX.out) A7.out).mono ?_; rintro e w10 ⟨rfl, hb, hkp⟩; refine ⟨_, rfl, ?_⟩; replace HW := Aside0.mk (Kd.S_kept HW.out hkp (fun _ hk_ hs_ => Nat.not_le.mpr hk_ hs_.1)); replace HG := Aside0.mk (Kd.S_kept HG.out hkp (fun _ hk_ hs_ => Nat.not_le.mpr hs_.2 hk_)); replace HB := Aside0.mk (hb); clear hb hkp HX HT))
   (try simp only [Act.put, List.setIfInBounds_toArray, List.set_cons_zero, List.set_cons_succ])
   (first | rw [c7b0] | (simp only [i64_w, i32_w]; rw [c7b0]) | skip)
   go_wp2_with (first | (go_at_call 20; refine (laws_eqColumnS.calls k _ _ t4 _ _ t3 true _ (Kd.S_reads' HG.out).2.2 (Kd.S_reads' HG.out).2.1 (Kd.S_reads' HW.out).2.2 (Kd.S_reads' HW.out).2.1 A5.out).mono ?_; rintro e w11 ⟨rfl, hb⟩; replace HW := Aside0.mk (Kd.S_below HW.out hb); replace HG := Aside0.mk (Kd.S_below HG.out hb); replace HB := Aside0.mk (below_step HB.out hb); clear hb) | ((with_reducible refine gate_callee (f := 21) rfl ?_); refine goesL_ (some 68) rfl rfl Try.func21 (by kernel_rfl) rfl #[.slice Ag t4.length cg, .int .i64 1] rfl (by (try simp only [List.map_toArray, List.map_cons, List.map_nil]); first | done | rfl) ?_; refine (laws_markColumnS.callsS k (fun k_ => w5.heap.size ≤ k_) (.slice Ag t4.length cg) t4 1 t9 u8 w _ HB.out HG.out A8.out).mono ?_; rintro e w12 ⟨rfl, hy, hb, hkp⟩; refine ⟨_, rfl, ?_⟩; replace HW := Aside0.mk (Kd.S_kept HW.out hkp (fun _ hk_ hs_ => HLT.out _ hk_ hs_)); replace HG := Aside0.mk (hy); replace HB := Aside0.mk (hb); clear hb hkp hy; have HN := Aside0.mk (Kd.S_reads' HG.out).1) | ((with_reducible refine gate_callee (f := 26) rfl ?_); refine goesL_ (some 71) rfl rfl Try.func26 (by kernel_rfl) rfl #[.slice Ag t4.length cg, .int .i64 1] rfl (by (try simp only [List.map_toArray, List.map_cons, List.map_nil]); first | done | rfl) ?_; have C_ := laws_heldColumnS.calls k Ag cg u8 1 t9 _ (Kd.S_reads' HG.out).2.2 (by have h_ := (Kd.S_reads' HG.out).2.1; have e_ := HN.out; omega) A9.out; rw [← HN.out] at C_; refine C_.mono ?_; rintro e w13 ⟨rfl, hd⟩; refine ⟨_, rfl, ?_⟩; have hb := drawn_below_ hd; clear C_; replace HW := Aside0.mk (Kd.S_below HW.out hb); replace HG := Aside0.mk (Kd.S_below HG.out hb); replace HB := Aside0.mk (below_step HB.out hb); clear hb hd) | ((with_reducible refine gate_callee (f := 17) rfl ?_); refine goesL_ (some 79) rfl rfl Try.func17 (by kernel_rfl) rfl #[.slice A0 l0.length c0] rfl (by (try simp only [List.map_toArray, List.map_cons, List.map_nil]); first | done | rfl) ?_; refine (laws_toColumnS.calls k _ _ l0 t2 _ (Kd.C_below HR0.out HB.out) HC0.out A2.out).mono ?_; rintro e w14 ⟨v14, rfl, ho, hb⟩; refine ⟨_, rfl, ?_⟩; replace HW := Aside0.mk (Kd.S_below HW.out hb); replace HG := Aside0.mk (Kd.S_below HG.out hb); have HT := Aside0.mk (ho); replace HB := Aside0.mk (below_step HB.out hb); clear ho hb; obtain ⟨As, cs, es⟩ := Kd.S_slice HT.out; subst es) | ((with_reducible refine gate_callee (f := 25) rfl ?_); refine goesL_ (some 81) rfl rfl Try.func25 (by kernel_rfl) rfl #[.slice As t2.length cs, .int .i64 a1] rfl (by (try simp only [List.map_toArray, List.map_cons, List.map_nil]); first | done | rfl) ?_; refine (impl_BankTake.calls k _ _ t2 a1 t4 u4 _ (Kd.S_reads' HT.out).2.2 (Kd.S_reads' HT.out).2.1 A4.out).mono ?_; rintro e w15 ⟨v15, rfl, ho, hb⟩; refine ⟨_, rfl, ?_⟩; replace HW := Aside0.mk (Kd.S_below HW.out hb); replace HG := Aside0.mk (Kd.S_below HG.out hb); have HH := Aside0.mk (ho); replace HB := Aside0.mk (below_step HB.out hb); clear ho hb HT; obtain ⟨Ah, ch, eh⟩ := Kd.S_slice HH.out; subst eh) | ((with_reducible refine gate_callee (f := 20) rfl ?_); refine goesL_ (some 86) rfl rfl Try.func20 (by kernel_rfl) rfl #[.slice Ah t4.length ch, .slice Aw t3.length cw] rfl (by (try simp only [List.map_toArray, List.map_cons, List.map_nil]); first | done | rfl) ?_; refine (laws_eqColumnS.calls k _ _ t4 _ _ t3 true _ (Kd.S_reads' HH.out).2.2 (Kd.S_reads' HH.out).2.1 (Kd.S_reads' HW.out).2.2 (Kd.S_reads' HW.out).2.1 A5.out).mono ?_; rintro e w16 ⟨rfl, hb⟩; refine ⟨_, rfl, ?_⟩; replace HW := Aside0.mk (Kd.S_below HW.out hb); replace HG := Aside0.mk (Kd.S_below HG.out hb); replace HB := Aside0.mk (below_step HB.out hb); clear hb) | ((with_reducible refine gate_callee (f := 26) rfl ?_); refine goesL_ (some 95) rfl rfl Try.func26 (by kernel_rfl) rfl #[.slice Ag t4.length cg, .int .i64 1] rfl (by (try simp only [List.map_toArray, List.map_cons, List.map_nil]); first | done | rfl) ?_; have C_ := laws_heldColumnS.calls k Ag cg u8 1 t9 _ (Kd.S_reads' HG.out).2.2 (by have h_ := (Kd.S_reads' HG.out).2.1; have e_ := HN.out; omega) A9.out; rw [← HN.out] at C_; refine C_.mono ?_; rintro e w17 ⟨rfl, hd⟩; refine ⟨_, rfl, ?_⟩; have hb := drawn_below_ hd; clear C_; replace HW := Aside0.mk (Kd.S_below HW.out hb); replace HG := Aside0.mk (Kd.S_below HG.out hb); replace HB := Aside0.mk (below_step HB.out hb); clear hb hd))
   go_ret
   exact ⟨by first | rfl | (simp [errW_none, errW_some] <;> rfl), HB.out⟩
  ·rw [if_neg c2] at h
   exact absurd h (by simp)
def IsS116 (w0 W : World) (g : Nat) (f0 : List Int) (f1 : Int) (f2 : Int) : Prop := ∃ A0 c0, W.heap[g]? = some (.cells #[.slice A0 f0.length c0, .int .i64 f1, .int .i64 f2] 116 (0, 0)) ∧ w0.heap.size ≤ g ∧ Kd.C (Kd.int .u8) w0 A0 f0.length f0
theorem IsS116.grown {w0 W : World} {g : Nat} {f0 : List Int} {f1 : Int} {f2 : Int} {W1 : World} {row : Option Nat} (h : IsS116 w0 W g f0 f1 f2) (hw : W.grownBy W1 row) (hne : some g ≠ row) : IsS116 w0 W1 g f0 f1 f2 := by
 obtain ⟨A0, c0, hb, hg, hr0⟩ := h
 exact ⟨A0, c0, blk_grown hb hw hne, hg, hr0⟩
theorem IsS116.kept {w0 W : World} {g : Nat} {f0 : List Int} {f1 : Int} {f2 : Int} {W1 : World} {S : Nat → Prop} (h : IsS116 w0 W g f0 f1 f2) (hk : Kept W W1 S) (hne : ¬ S g) : IsS116 w0 W1 g f0 f1 f2 := by
 obtain ⟨A0, c0, hb, hg, hr0⟩ := h
 exact ⟨A0, c0, blk_kept hb hk hne, hg, hr0⟩
theorem IsS116.below {w0 W : World} {g : Nat} {f0 : List Int} {f1 : Int} {f2 : Int} {W1 : World} (h : IsS116 w0 W g f0 f1 f2) (hw : Below W.heap.size W W1) : IsS116 w0 W1 g f0 f1 f2 := h.grown (grown_of_below hw none) (by simp)
theorem IsS116.alloc {w0 W : World} {g : Nat} {f0 : List Int} {f1 : Int} {f2 : Int} (h : IsS116 w0 W g f0 f1 f2) (o : Obj) : IsS116 w0 (W.alloc o) g f0 f1 f2 := h.below (below_alloc (Below.refl _ _) o)
theorem IsS116.drewN {w0 W : World} {g : Nat} {f0 : List Int} {f1 : Int} {f2 : Int} (h : IsS116 w0 W g f0 f1 f2) (m : Nat) : IsS116 w0 (W.drewN m) g f0 f1 f2 := h
theorem IsS116.drew {w0 W : World} {g : Nat} {f0 : List Int} {f1 : Int} {f2 : Int} (h : IsS116 w0 W g f0 f1 f2) : IsS116 w0 W.drew g f0 f1 f2 := h
theorem IsS116.at_ {w0 W : World} {g : Nat} {f0 : List Int} {f1 : Int} {f2 : Int} {w' : World} {m : Nat} (hq : W.drewN m = w') (h : IsS116 w0 W g f0 f1 f2) : IsS116 w0 w' g f0 f1 f2 := by subst hq; exact IsS116.drewN h m
theorem IsS116.apart {w0 W : World} {g : Nat} {f0 : List Int} {f1 : Int} {f2 : Int} {α : Type} {d : Kd α} {e : Nat} {base : Nat} {ok : Nat → Prop} {v : Value} {xs : List α} (h : IsS116 w0 W g f0 f1 f2) (ho : d.R e W base ok v xs) (ht : ∀ q, q ∈ e :: d.E → q ≠ 116) : d.R e W base (fun k => ok k ∧ k ≠ g) v xs := by
 obtain ⟨A0, c0, hb, hg, hr0⟩ := h
 exact Kd.R_types ho hb ht
theorem IsS116.own_ne {w0 W : World} {g : Nat} {f0 : List Int} {f1 : Int} {f2 : Int} {α : Type} {d : Kd α} {e : Nat} {base : Nat} {ok : Nat → Prop} {v : Value} {xs : List α} (h : IsS116 w0 W g f0 f1 f2) (ho : d.R e W base ok v xs) (ht : e ≠ 116) : some g ≠ v.ownBlock := by
 obtain ⟨A0, c0, hb, hg, hr0⟩ := h
 exact Kd.R_ne ho hb ht
theorem IsS116.lt {w0 W : World} {g : Nat} {f0 : List Int} {f1 : Int} {f2 : Int} (h : IsS116 w0 W g f0 f1 f2) : g < W.heap.size := by
 obtain ⟨A0, c0, hb, hg, hr0⟩ := h
 exact blk_lt hb
theorem IsS116.ge {w0 W : World} {g : Nat} {f0 : List Int} {f1 : Int} {f2 : Int} (h : IsS116 w0 W g f0 f1 f2) : w0.heap.size ≤ g := by
 obtain ⟨A0, c0, hb, hg, hr0⟩ := h
 exact hg
theorem IsS116.far {w0 W : World} {g : Nat} {f0 : List Int} {f1 : Int} {f2 : Int} {p : Addr} (h : IsS116 w0 W g f0 f1 f2) (hne : g ≠ p.block) (u : Value) : IsS116 w0 (W.setCell p u) g f0 f1 f2 := by
 obtain ⟨A0, c0, hb, hg, hr0⟩ := h
 exact ⟨A0, c0, blk_far hb hne u, hg, hr0⟩
theorem IsS116.set_1 {w0 W : World} {g : Nat} {f0 : List Int} {f1 : Int} {f2 : Int} (h : IsS116 w0 W g f0 f1 f2) (x : Int) : IsS116 w0 (W.setCell ⟨g, 1, none⟩ (.int .i64 x)) g f0 x f2 := by
 obtain ⟨A0, c0, hb, hg, hr0⟩ := h
 exact ⟨A0, c0, by simpa using blk_set hb 1 (.int .i64 x), hg, hr0⟩
theorem IsS116.set_2 {w0 W : World} {g : Nat} {f0 : List Int} {f1 : Int} {f2 : Int} (h : IsS116 w0 W g f0 f1 f2) (x : Int) : IsS116 w0 (W.setCell ⟨g, 2, none⟩ (.int .i64 x)) g f0 f1 x := by
 obtain ⟨A0, c0, hb, hg, hr0⟩ := h
 exact ⟨A0, c0, by simpa using blk_set hb 2 (.int .i64 x), hg, hr0⟩
end Go.Proofs.Ytbpjidekjogfeaa.A

namespace Go.Proofs.Ytbpjidekjogfeaa.A
open Go.ChangeShapes Go.WideShapes Go.ChangeAt Go.RowKit Go.Proofs.YtbpjidekjogfeaaW.PrintWords Go.Proofs.YtbpjidekjogfeaaW.PrintLast
set_option linter.unusedVariables false
set_option linter.unusedSimpArgs false
def Opn {α : Type} (P : Program) (t : TypeId) (d : Kd α) (ok : α → Prop) : Prop :=
 ∀ {H : Type} {enc : TypeId × Value → H} (w : World) (fuel : Nat) (cs : List Value) (x : DataW H × List MemPlace),
  DataW.trod enc P w 0 (fun _ => true) true fuel t cs = some x → ∃ a, d.K w a cs ∧ ok a
theorem opn_int {P : Program} {t : TypeId} {k : IntKind} (ht : P.underlying t = some (.int k)) : Opn P t (Kd.int k) (fun a => (Lit.int k a).wf = true) := by
 intro H enc w fuel cs x h
 obtain ⟨n, rfl, _, hw⟩ := DataW.trod_int ht h
 exact ⟨n, rfl, hw⟩
theorem opn_bool {P : Program} {t : TypeId} (ht : P.underlying t = some .bool) : Opn P t Kd.bool (fun _ => True) := by
 intro H enc w fuel cs x h
 obtain ⟨b, rfl, _⟩ := DataW.trod_bool ht h
 exact ⟨b, rfl, trivial⟩
theorem add_add_ (a : Addr) (i j : Nat) : (a.add i).add j = a.add (i + j) := by
 unfold Addr.add
 by_cases hi : i = 0
 ·subst hi; simp
 ·by_cases hj : j = 0
  ·subst hj; simp
  ·rw [if_neg hi, if_neg hj, if_neg (by omega)]
   simp; omega
theorem cells_at {w : World} {base : Nat} {a : Addr} {n : Nat} {cs : List Value} (h : w.cells? base a n = some cs) : cs.length = n ∧ ∀ i u, cs[i]? = some u → w.cell? (a.add i) = some u := by
 unfold World.cells? at h
 split at h
 ·have l := mapM_some_length h
  simp only [List.length_range] at l
  refine ⟨l, fun i u hu => ?_⟩
  have hi := (List.getElem?_eq_some_iff.1 hu).1
  have := mapM_some_get h i i (by simp [show i < n by omega])
  rw [this]; exact hu
 ·cases h
theorem choose_list {α : Type} {Q : Nat → α → Prop} (m : Nat) (h : ∀ i, i < m → ∃ v, Q i v) : ∃ l : List α, l.length = m ∧ ∀ i v, l[i]? = some v → Q i v := by
 induction m with
 | zero => exact ⟨[], rfl, fun i v hv => by simp at hv⟩
 | succ m ih =>
  obtain ⟨l, hl, hq⟩ := ih (fun i hi => h i (by omega))
  obtain ⟨v, hv⟩ := h m (by omega)
  refine ⟨l ++ [v], by simp [hl], fun i u hu => ?_⟩
  rcases Nat.lt_trichotomy i m with hi | hi | hi
  ·rw [List.getElem?_append_left (by omega)] at hu
   exact hq i u hu
  ·subst hi
   rw [List.getElem?_append_right (by omega), hl, Nat.sub_self] at hu
   have : v = u := by simpa using hu
   exact this ▸ hv
  ·rw [List.getElem?_eq_none (by simp; omega)] at hu
   cases hu
theorem opn_slice {α : Type} {P : Program} {t e : TypeId} {d : Kd α} {ok : α → Prop} (ht : P.underlying t = some (.slice e)) (hs : P.cellsOf e = d.sz) (ho : Opn P e d ok) :
  Opn P t (Kd.slice e d) (fun l => l.length ≤ maxLen ∧ ∀ x ∈ l, ok x) := by
 intro H enc w fuel cs x h
 rcases DataW.trod_slice ht h with ⟨rfl, _⟩ | ⟨a, len, cap, elems, rest, n, _, rfl, _, _, hl, hm, hlen, hel, _, _⟩
 ·exact ⟨[], ⟨none, 0, rfl, Nat.le_refl _, rfl, Nat.zero_le _, fun h => absurd h (by simp)⟩, by simp, by simp⟩
 ·have each : ∀ i, i < len → ∃ v, ok v ∧ ∃ c, c.length = d.sz ∧ d.K w v c ∧ ∀ j u, c[j]? = some u → w.cell? (a.add (i * d.sz + j)) = some u := by
   intro i hi
   have h1 := hel i hi
   rw [List.getElem?_eq_getElem (by omega)] at h1
   obtain ⟨c, hc, hr⟩ := Option.bind_eq_some_iff.1 h1
   obtain ⟨v, hk, hv⟩ := ho w n c _ hr
   obtain ⟨_, hcell⟩ := cells_at hc
   refine ⟨v, hv, c, d.K_len hk, hk, fun j u hu => ?_⟩
   have := hcell j u hu
   rw [hs, add_add_] at this
   exact this
  obtain ⟨l, hll, hq⟩ := choose_list len each
  subst hll
  have hm' : l.length ≤ maxLen := Nat.le_trans hl hm
  refine ⟨l, ⟨some a, cap, rfl, hl, rfl, by unfold maxLen at hm'; omega, fun _ => ⟨a, rfl, fun j p hp => ?_⟩⟩, hm', fun v hv => ?_⟩
  ·obtain ⟨_, c, h1, h2, h3⟩ := hq j p hp
   exact ⟨c, h1, h2, h3⟩
  ·obtain ⟨i, hi, rfl⟩ := List.getElem_of_mem hv
   exact (hq i _ (List.getElem?_eq_getElem hi)).1
theorem opn_top {α : Type} {H : Type} {enc : TypeId × Value → H} {P : Program} {w : World} {t : TypeId} {d : Kd α} {ok : α → Prop} {v : Value} {x : DataW H} {ps : List MemPlace} (ho : Opn P t d ok)
  (h : DataW.Trod enc P w 0 (fun _ => true) true t v x ps) : ∃ a, d.K w a v.cells.toList ∧ ok a := by
 obtain ⟨fuel, hf⟩ := h
 exact ho w fuel _ _ hf
theorem slice_eq {a b : Option Addr} {l m c q : Nat} (h : (Value.slice a l c).cells.toList = [.slice b m q]) : a = b ∧ l = m ∧ c = q := by
 simpa [Value.cells] using h
abbrev ok3 (a : Int) : Prop := (Lit.int .i64 a).wf = true
abbrev ok38 (l : List Int) : Prop := l.length ≤ maxLen ∧ ∀ x ∈ l, ok3 x
abbrev ok4 (_ : Bool) : Prop := True
abbrev ok123 (x : S123) : Prop := ok3 x.f0 ∧ ok3 x.f1 ∧ ok3 x.f2 ∧ ok4 x.f3
abbrev ok56 (l : List (S123)) : Prop := l.length ≤ maxLen ∧ ∀ x ∈ l, ok123 x
abbrev ok58 (x : S58) : Prop := ok3 x.f0 ∧ ok38 x.f1 ∧ ok56 x.f2
abbrev ok22 (l : List (S58)) : Prop := l.length ≤ maxLen ∧ ∀ x ∈ l, ok58 x
theorem op3 : Opn Try.prog 3 (Kd.int .i64) ok3 := opn_int Try.underlying3
theorem op38 : Opn Try.prog 38 (Kd.slice 3 (Kd.int .i64)) ok38 := opn_slice Try.underlying38 (by kernel_rfl) op3
theorem op4 : Opn Try.prog 4 Kd.bool ok4 := opn_bool Try.underlying4
set_option maxRecDepth 100000 in
theorem op123 : Opn Try.prog 123 k123 ok123 := by
 intro H enc w fuel cs x h
 obtain ⟨xs, n, _, _, hl, hlen, hf⟩ := DataW.trod_struct Try.underlying123 h
 have hl' : cs.length = 4 := hl.trans (by kernel_rfl)
 match cs, hl' with
 | [c0, c1, c2, c3], _ =>
  match xs, hlen with
  | [y0, y1, y2, y3], _ =>
  obtain ⟨a0, q0, z0⟩ := op3 (H := H) (enc := enc) w n [c0] y0 (hf 0 _ rfl)
  obtain ⟨a1, q1, z1⟩ := op3 (H := H) (enc := enc) w n [c1] y1 (hf 1 _ rfl)
  obtain ⟨a2, q2, z2⟩ := op3 (H := H) (enc := enc) w n [c2] y2 (hf 2 _ rfl)
  obtain ⟨a3, q3, z3⟩ := op4 (H := H) (enc := enc) w n [c3] y3 (hf 3 _ rfl)
  exact ⟨⟨a0, a1, a2, a3⟩, ⟨[c0], [c1, c2, c3], rfl, q0, ⟨[c1], [c2, c3], rfl, q1, ⟨[c2], [c3], rfl, q2, q3⟩⟩⟩, ⟨z0, z1, z2, z3⟩⟩
theorem op56 : Opn Try.prog 56 (Kd.slice 123 k123) ok56 := opn_slice Try.underlying56 (by kernel_rfl) op123
set_option maxRecDepth 100000 in
theorem op58 : Opn Try.prog 58 k58 ok58 := by
 intro H enc w fuel cs x h
 obtain ⟨xs, n, _, _, hl, hlen, hf⟩ := DataW.trod_struct Try.underlying58 h
 have hl' : cs.length = 3 := hl.trans (by kernel_rfl)
 match cs, hl' with
 | [c0, c1, c2], _ =>
  match xs, hlen with
  | [y0, y1, y2], _ =>
  obtain ⟨a0, q0, z0⟩ := op3 (H := H) (enc := enc) w n [c0] y0 (hf 0 _ rfl)
  obtain ⟨a1, q1, z1⟩ := op38 (H := H) (enc := enc) w n [c1] y1 (hf 1 _ rfl)
  obtain ⟨a2, q2, z2⟩ := op56 (H := H) (enc := enc) w n [c2] y2 (hf 2 _ rfl)
  exact ⟨⟨a0, a1, a2⟩, ⟨[c0], [c1, c2], rfl, q0, ⟨[c1], [c2], rfl, q1, q2⟩⟩, ⟨z0, z1, z2⟩⟩
theorem op22 : Opn Try.prog 22 (Kd.slice 58 k58) ok22 := opn_slice Try.underlying22 (by kernel_rfl) op58
end Go.Proofs.Ytbpjidekjogfeaa.A

namespace Go.Proofs.Ytbpjidekjogfeaa.A
open Go.RowKit Go.Proofs.YtbpjidekjogfeaaW.PrintWords Go.Proofs.YtbpjidekjogfeaaW.PrintLast Go.Proofs.YtbpjidekjogfeaaW.PrintMore
set_option linter.unusedVariables false
set_option linter.unusedSimpArgs false
def Ev {α : Type} (F : Nat → Option α) (r : α) : Prop := ∃ K, ∀ k, K ≤ k → F k = some r
theorem Ev.mk {α : Type} {F : Nat → Option α} {r : α} (K : Nat) (h : ∀ k, K < k → F k = some r) : Ev F r := ⟨K + 1, fun k hk => h k hk⟩
theorem Ev.get {α : Type} {F : Nat → Option α} {r : α} (h : Ev F r) : ∃ k, F k = some r := by
 obtain ⟨K, h⟩ := h
 exact ⟨K, h K (Nat.le_refl _)⟩
theorem Ev.const {α : Type} {o : Option α} {r : α} (h : o = some r) : Ev (fun _ => o) r := ⟨0, fun _ _ => h⟩
theorem Ev.ret {α : Type} (r : α) : Ev (fun _ => some r) r := ⟨0, fun _ _ => rfl⟩
theorem Ev.bind {α β : Type} {F : Nat → Option α} {G : Nat → α → Option β} {a : α} {b : β} (h1 : Ev F a) (h2 : Ev (fun k => G k a) b) : Ev (fun k => (F k).bind (G k)) b := by
 obtain ⟨K1, h1⟩ := h1
 obtain ⟨K2, h2⟩ := h2
 refine ⟨max K1 K2, fun k hk => ?_⟩
 show (F k).bind (G k) = some b
 rw [h1 k (by omega)]
 exact h2 k (by omega)
theorem Ev.pos {α : Type} {c : Prop} [Decidable c] {A B : Nat → Option α} {r : α} (h : c) (hA : Ev A r) : Ev (fun k => if c then A k else B k) r := by
 obtain ⟨K, hA⟩ := hA
 exact ⟨K, fun k hk => by show (if c then A k else B k) = some r; rw [if_pos h]; exact hA k hk⟩
theorem Ev.neg {α : Type} {c : Prop} [Decidable c] {A B : Nat → Option α} {r : α} (h : ¬ c) (hB : Ev B r) : Ev (fun k => if c then A k else B k) r := by
 obtain ⟨K, hB⟩ := hB
 exact ⟨K, fun k hk => by show (if c then A k else B k) = some r; rw [if_neg h]; exact hB k hk⟩
theorem Ev.ite {α : Type} {c : Prop} [Decidable c] {A B : Nat → Option α} {a b : α} (hA : c → Ev A a) (hB : ¬ c → Ev B b) : Ev (fun k => if c then A k else B k) (if c then a else b) := by
 by_cases h : c
 ·rw [if_pos h]; exact Ev.pos h (hA h)
 ·rw [if_neg h]; exact Ev.neg h (hB h)
theorem Ev.succ {α : Type} {F : Nat → Option α} {r : α} (h : Ev (fun k => F (k + 1)) r) : Ev F r := by
 obtain ⟨K, h⟩ := h
 refine ⟨K + 1, fun k hk => ?_⟩
 obtain ⟨m, rfl⟩ : ∃ m, k = m + 1 := ⟨k - 1, by omega⟩
 exact h m (by omega)
theorem Ev.of_eq {α : Type} {F G : Nat → Option α} {r : α} (h : Ev F r) (e : ∀ k, G k = F k) : Ev G r := by
 obtain ⟨K, h⟩ := h
 exact ⟨K, fun k hk => (e k).trans (h k hk)⟩
theorem Ev.to {α : Type} {F : Nat → Option α} {r s : α} (h : Ev F r) (e : r = s) : Ev F s := e ▸ h
theorem getD_gen {α : Type} {l : List α} {i : Nat} (d : α) (h : i < l.length) : l.getD i d = l[i] := by
 rw [List.getD_eq_getElem?_getD, List.getElem?_eq_getElem h]; rfl
theorem wsucc (i : Nat) (h : i < 9223372036854775807) : wrap64 ((i : Int) + 1) = ((i + 1 : Nat) : Int) := by unfold wrap64; omega
theorem wpred (i : Nat) (h : 0 < i) (h2 : i ≤ 9223372036854775807) : wrap64 ((i : Int) - 1) = ((i - 1 : Nat) : Int) := by unfold wrap64; omega
theorem wid (x : Int) (h : -9223372036854775808 ≤ x) (h2 : x ≤ 9223372036854775807) : wrap64 x = x := by unfold wrap64; omega
theorem all_loop {L : Nat → Int → Option Bool} {n : Nat} {P : Nat → Bool} (h : ∀ k i, i < n → L (k + 1) (i : Int) = if P i = true then L k ((i + 1 : Nat) : Int) else some false)
  (he : ∀ k, L (k + 1) (n : Int) = some true) (d : Nat) : ∀ k i, i + d = n → d < k → L k (i : Int) = some ((List.range' i d).all P) := by
 induction d with
 | zero =>
  intro k i hi hk
  obtain ⟨k, rfl⟩ : ∃ m, k = m + 1 := ⟨k - 1, by omega⟩
  obtain rfl : i = n := by omega
  rw [he]; rfl
 | succ d ih =>
  intro k i hi hk
  obtain ⟨k, rfl⟩ : ∃ m, k = m + 1 := ⟨k - 1, by omega⟩
  rw [h k i (by omega), List.range'_succ, List.all_cons]
  by_cases hp : P i = true
  ·rw [if_pos hp, ih k (i + 1) (by omega) (by omega), hp, Bool.true_and]
  ·rw [if_neg hp]
   have : P i = false := by simpa using hp
   rw [this, Bool.false_and]
theorem map_loop {α β : Type} {L : Nat → List β → Int → Option (List β)} {xs : List α} {g : α → β} (d0 : α)
  (h : ∀ k acc (i : Nat), i < xs.length → acc.length = xs.length → L (k + 1) acc (i : Int) = L k (acc.set i (g (xs.getD i d0))) ((i + 1 : Nat) : Int))
  (he : ∀ k acc, L (k + 1) acc (xs.length : Int) = some acc) (d : Nat) :
  ∀ k acc i, i + d = xs.length → d < k → acc.length = xs.length → (∀ j, j < i → acc[j]? = (xs.map g)[j]?) → L k acc (i : Int) = some (xs.map g) := by
 induction d with
 | zero =>
  intro k acc i hi hk hl hp
  obtain ⟨k, rfl⟩ : ∃ m, k = m + 1 := ⟨k - 1, by omega⟩
  obtain rfl : i = xs.length := by omega
  rw [he]
  congr 1
  apply List.ext_getElem?
  intro j
  by_cases hj : j < xs.length
  ·exact hp j hj
  ·rw [List.getElem?_eq_none (by omega), List.getElem?_eq_none (by simp; omega)]
 | succ d ih =>
  intro k acc i hi hk hl hp
  obtain ⟨k, rfl⟩ : ∃ m, k = m + 1 := ⟨k - 1, by omega⟩
  rw [h k acc i (by omega) hl]
  refine ih k _ (i + 1) (by omega) (by omega) (by simp [hl]) (fun j hj => ?_)
  by_cases e : i = j
  ·subst e
   rw [List.getElem?_set_self (by omega), List.getElem?_map, List.getElem?_eq_getElem (show i < xs.length by omega), List.getD_eq_getElem?_getD, List.getElem?_eq_getElem (show i < xs.length by omega)]
   rfl
  ·rw [List.getElem?_set_ne e]
   exact hp j (by omega)
theorem in_eq (a b c : Int) : spec_l01In.f a b c = some (decide (b ≤ a ∧ a ≤ c)) := by
 unfold spec_l01In.f
 split
 ·congr 1; rw [decide_eq_decide]; omega
 ·congr 1; exact (decide_eq_false (by omega)).symm
def boxS : List S98 → Int → List Int → Option Int
 | [], low, _ => some low
 | b :: bs, low, ps => if b.f0 = low ∧ (1 ≤ b.f1 ∧ b.f1 ≤ 24) ∧ (0 ≤ b.f2 ∧ b.f2 ≤ 999) ∧ ¬ (0 < b.f2 ∧ b.f2 ∈ ps) ∧ low + b.f1 ≤ 24 then boxS bs (low + b.f1) (b.f2 :: ps) else none
def boxesS (h : Int) (bx : List S98) (o : Option Int) : Bool := match o with | none => false | some low => decide (bx ≠ []) && decide (low = h)
theorem boxes_in (h : Int) (fx : List Int) (bx : List S98) (at_ : Int) (i : Nat) (hi : i < bx.length) (hi2 : i ≤ 24) (b : S98) (P : Prop) [Decidable P] (hP : P ↔ (0 < b.f2 ∧ ∃ j, j < i ∧ (bx.getD j z98).f2 = b.f2)) (d : Nat) :
  ∀ (k j : Nat), j + d = i → d < k → (∀ m, m < j → 0 < b.f2 → (bx.getD m z98).f2 ≠ b.f2) → spec_l02Boxes.l1 k at_ (i : Int) (j : Int) h fx bx b.f0 b.f1 b.f2 b.f3 = if P then some false else (if (wrap64 (at_ + b.f1)) > 24 then (some false) else (spec_l02Boxes.l0 (k - d - 1) (wrap64 (at_ + b.f1)) ((i + 1 : Nat) : Int) h fx bx)) := by
 induction d with
 | zero =>
  intro k j hj hk hn
  obtain ⟨k, rfl⟩ : ∃ m, k = m + 1 := ⟨k - 1, by omega⟩
  simp only [spec_l02Boxes.l1]
  have hnp : ¬ P := fun hp => by obtain ⟨h0, m, hm, e⟩ := hP.mp hp; exact hn m (by omega) h0 e
  rw [if_neg (by omega), if_neg hnp, wsucc i (by omega)]
  rfl
 | succ d ih =>
  intro k j hj hk hn
  obtain ⟨k, rfl⟩ : ∃ m, k = m + 1 := ⟨k - 1, by omega⟩
  simp only [spec_l02Boxes.l1]
  have er : rd_T98 bx (j : Int) = bx.getD j z98 := rfl
  rw [if_pos (by omega), er, wsucc j (by omega)]
  by_cases c0 : b.f2 > 0
  ·rw [if_pos c0, if_pos (by omega), if_pos (by omega)]
   by_cases c1 : (bx.getD j z98).f2 = b.f2
   ·rw [if_pos c1, if_pos (hP.mpr ⟨c0, j, by omega, c1⟩)]
   ·rw [if_neg c1, ih k (j + 1) (by omega) (by omega) (fun m hm h0 => by
     by_cases e : m = j
     ·subst e; exact c1
     ·exact hn m (by omega) h0), show k + 1 - (d + 1) - 1 = k - d - 1 by omega]
  ·rw [if_neg c0, ih k (j + 1) (by omega) (by omega) (fun m hm h0 => absurd h0 c0), show k + 1 - (d + 1) - 1 = k - d - 1 by omega]
theorem drop_cons {α : Type} (l : List α) (d : α) (i : Nat) (hi : i < l.length) : l.drop i = l.getD i d :: l.drop (i + 1) := by
 rw [List.drop_eq_getElem_cons hi, getD_gen d hi]
theorem boxes_loop (h : Int) (fx : List Int) (bx : List S98) (hl : bx.length ≤ 140737488351232) : ∀ (d k i : Nat) (at_ : Int) (ps : List Int), (24 - at_).toNat = d → 0 ≤ at_ → at_ ≤ 24 → (i : Int) ≤ at_ → i ≤ bx.length → (d + 2) * 40 < k →
  (∀ x, x ∈ ps ↔ ∃ j, j < i ∧ (bx.getD j z98).f2 = x) → spec_l02Boxes.l0 k at_ (i : Int) h fx bx = some (boxesS h bx (boxS (bx.drop i) at_ ps)) := by
 intro d
 induction d using Nat.strongRecOn with
 | _ d ih =>
 intro k i at_ ps hd h0 h1 hi hil hk hps
 obtain ⟨k, rfl⟩ : ∃ m, k = m + 2 := ⟨k - 2, by omega⟩
 simp only [spec_l02Boxes.l0]
 by_cases c : i < bx.length
 ·have er : rd_T98 bx (i : Int) = bx.getD i z98 := rfl
  rw [if_pos (by omega), if_pos (by omega), drop_cons bx z98 i c, er]
  simp only [in_eq, Option.bind_some, boxS]
  generalize hb : bx.getD i z98 = b
  by_cases c0 : b.f0 = at_
  ·rw [if_pos c0]
   by_cases c1 : 1 ≤ b.f1 ∧ b.f1 ≤ 24
   ·rw [if_pos (decide_eq_true c1)]
    by_cases c2 : 0 ≤ b.f2 ∧ b.f2 ≤ 999
    ·simp only [decide_eq_true c2, spec_l02Boxes.j1, Bool.not_true]
     rw [if_neg (by simp)]
     have hin := boxes_in h fx bx at_ i c (by omega) b (0 < b.f2 ∧ b.f2 ∈ ps) (by rw [hps]) i k 0 (by omega) (by omega) (fun m hm => by omega)
     refine hin.trans ?_
     by_cases c3 : 0 < b.f2 ∧ b.f2 ∈ ps
     ·rw [if_pos c3, if_neg (fun h => h.2.2.2.1 c3)]; rfl
     ·rw [if_neg c3, wid (at_ + b.f1) (by omega) (by omega)]
      by_cases c4 : at_ + b.f1 > 24
      ·rw [if_pos c4, if_neg (fun h => by have := h.2.2.2.2; omega)]; rfl
      ·rw [if_neg c4, if_pos ⟨c0, c1, c2, c3, by omega⟩]
       refine ih (24 - (at_ + b.f1)).toNat (by omega) _ (i + 1) (at_ + b.f1) (b.f2 :: ps) rfl (by omega) (by omega) (by omega) (by omega) (by omega) (fun x => ?_)
       rw [List.mem_cons, hps]
       constructor
       ·rintro (rfl | ⟨j, hj, e⟩)
        ·exact ⟨i, by omega, by rw [hb]⟩
        ·exact ⟨j, by omega, e⟩
       ·rintro ⟨j, hj, e⟩
        by_cases ej : j = i
        ·subst ej; left; rw [← e, hb]
        ·right; exact ⟨j, by omega, e⟩
    ·simp only [decide_eq_false c2, spec_l02Boxes.j1, Bool.not_false]
     rw [if_pos trivial, if_neg (fun h => c2 h.2.2.1)]; rfl
   ·rw [if_neg (by simpa using c1)]
    simp only [spec_l02Boxes.j1]
    rw [if_pos trivial, if_neg (fun h => c1 h.2.1)]; rfl
  ·rw [if_neg c0]
   simp only [spec_l02Boxes.j1]
   rw [if_pos trivial, if_neg (fun h => c0 h.1)]; rfl
 ·rw [if_neg (by omega), List.drop_eq_nil_of_le (by omega)]
  simp only [boxS, boxesS]
  by_cases c0 : (bx.length : Int) > 0
  ·have hne : bx ≠ [] := by intro e; rw [e] at c0; simp at c0
   rw [if_pos c0, decide_eq_true hne, Bool.true_and]
   congr 1
  ·have hne : ¬ bx ≠ [] := by intro e; exact e (List.length_eq_zero_iff.mp (by omega))
   rw [if_neg c0, decide_eq_false hne, Bool.false_and]
theorem boxes_eq (h : Int) (fx : List Int) (bx : List S98) (hl : bx.length ≤ 140737488351232) (k : Nat) (hk : 1100 < k) : spec_l02Boxes.f k h fx bx = some (boxesS h bx (boxS bx 0 [])) := by
 unfold spec_l02Boxes.f
 have := boxes_loop h fx bx hl 24 k 0 0 [] (by omega) (by omega) (by omega) (by omega) (by omega) (by omega) (by simp)
 exact this
theorem boxS_le : ∀ (bs : List S98) (low : Int) (ps : List Int) (e : Int), boxS bs low ps = some e → low ≤ e ∧ (bs.length : Int) ≤ e - low ∧ (low ≤ 24 → e ≤ 24)
 | [], low, ps, e, h => by simp [boxS] at h; subst h; exact ⟨by omega, by simp, id⟩
 | b :: bs, low, ps, e, h => by
  simp only [boxS] at h
  split at h
  ·next hc =>
   obtain ⟨h1, h2, h3⟩ := boxS_le bs _ _ _ h
   exact ⟨by omega, by simp; omega, fun _ => h3 (by omega)⟩
  ·simp at h
theorem boxP_S (h : Int) (hh : h ≤ 24) : ∀ (bs : List S98) (low : Int) (ls ps : List Int) (e : Int) (ls' : List Int), 0 ≤ low → boxP h bs low ls ps = some (e, ls') → boxS bs low ps = some e ∧ ∀ f, f ∈ ls' ↔ f ∈ ls ∨ f ∈ bs.map (fun b => b.f0)
 | [], low, ls, ps, e, ls', h0, hb => by
  simp only [boxP, Option.some.injEq, Prod.mk.injEq] at hb
  obtain ⟨rfl, rfl⟩ := hb
  exact ⟨rfl, fun f => by simp⟩
 | b :: bs, low, ls, ps, e, ls', h0, hb => by
  simp only [boxP] at hb
  split at hb
  ·next hc =>
   obtain ⟨h1, h2⟩ := boxP_S h hh bs _ _ _ _ _ (by omega) hb
   refine ⟨?_, fun f => ?_⟩
   ·simp only [boxS]
    rw [if_pos ⟨hc.1, ⟨hc.2.1.1, by omega⟩, hc.2.2.1, hc.2.2.2, by omega⟩]
    exact h1
   ·rw [h2 f, List.mem_cons, List.map_cons, List.mem_cons]
    constructor
    ·rintro ((h | h) | h)
     ·exact Or.inr (Or.inl h)
     ·exact Or.inl h
     ·exact Or.inr (Or.inr h)
    ·rintro (h | h | h)
     ·exact Or.inl (Or.inr h)
     ·exact Or.inl (Or.inl h)
     ·exact Or.inr h
  ·simp at hb
theorem boxS_P (h : Int) : ∀ (bs : List S98) (low : Int) (ls ps : List Int), boxS bs low ps = some h → ∃ ls', boxP h bs low ls ps = some (h, ls')
 | [], low, ls, ps, hb => by
  simp only [boxS, Option.some.injEq] at hb
  subst hb
  exact ⟨ls, rfl⟩
 | b :: bs, low, ls, ps, hb => by
  simp only [boxS] at hb
  split at hb
  ·next hc =>
   have hle := (boxS_le bs _ _ _ hb).1
   obtain ⟨ls', h1⟩ := boxS_P h bs _ (b.f0 :: ls) _ hb
   refine ⟨ls', ?_⟩
   simp only [boxP]
   rw [if_pos ⟨hc.1, ⟨hc.2.1.1, by omega⟩, hc.2.2.1, hc.2.2.2.1⟩]
   exact h1
  ·simp at hb
theorem colS_eq (h : Int) (fx : List Int) (bx : List S98) : (decide (1 ≤ h ∧ h ≤ 24) && (boxesS h bx (boxS bx 0 []) && (fixP h none fx && fx.all (fun f => decide (f ∈ bx.map (fun b => b.f0)))))) = colP h fx bx := by
 unfold colP
 by_cases hh : 1 ≤ h ∧ h ≤ 24
 ·rw [decide_eq_true hh, Bool.true_and, Bool.true_and]
  cases hP : boxP h bx 0 [] [] with
  | none =>
   have hf : boxesS h bx (boxS bx 0 []) = false := by
    cases hS : boxS bx 0 [] with
    | none => rfl
    | some e =>
     by_cases c : e = h
     ·subst c
      obtain ⟨ls', hl⟩ := boxS_P e bx 0 [] [] hS
      rw [hl] at hP; simp at hP
     ·simp [boxesS, c]
   rw [hf]; simp
  | some z =>
   obtain ⟨e, ls⟩ := z
   obtain ⟨h1, h2⟩ := boxP_S h hh.2 bx 0 [] [] e ls (by omega) hP
   have ha : fx.all (fun f => decide (f ∈ bx.map (fun b => b.f0))) = fx.all (fun f => decide (f ∈ ls)) := by
    congr 1
    funext f
    rw [decide_eq_decide, h2 f]
    simp
   rw [h1, ha]
   simp only [boxesS]
   cases decide (bx ≠ []) <;> cases decide (e = h) <;> cases fixP h none fx <;> cases fx.all (fun f => decide (f ∈ ls)) <;> rfl
 ·rw [decide_eq_false hh, Bool.false_and, Bool.false_and, Bool.false_and, Bool.false_and]
def fixS (h : Int) (L : List Int) : Option Int → List Int → Bool
 | _, [] => true
 | p, f :: fs => decide (1 ≤ f ∧ f ≤ h - 1) && (match p with | none => true | some q => decide (q < f)) && decide (f ∈ L) && fixS h L (some f) fs
theorem fixS_eq (h : Int) (L : List Int) : ∀ (fs : List Int) (p : Option Int), fixS h L p fs = (fixP h p fs && fs.all (fun f => decide (f ∈ L)))
 | [], p => rfl
 | f :: fs, p => by
  simp only [fixS, fixP, List.all_cons]
  rw [fixS_eq h L fs (some f)]
  ac_rfl
theorem drop_step {α : Type} {l : List α} {i : Nat} {b : α} {rest : List α} (d : α) (h : l.drop i = b :: rest) : i < l.length ∧ l.getD i d = b ∧ l.drop (i + 1) = rest := by
 have hi : i < l.length := by
  apply Classical.byContradiction
  intro c
  rw [List.drop_eq_nil_of_le (by omega)] at h
  cases h
 have h2 := drop_cons l d i hi
 rw [h] at h2
 injection h2 with h3 h4
 exact ⟨hi, h3.symm, h4.symm⟩
theorem drop_end {α : Type} {l : List α} {i : Nat} (h : l.drop i = []) (hi : i ≤ l.length) : i = l.length := by
 have := List.drop_eq_nil_iff.mp h
 omega
theorem found_ev (h : Int) (fx : List Int) (bx : List S98) (i : Nat) (hi : i < fx.length) (hi2 : i ≤ 140737488351232) (hl : bx.length ≤ 24) (s : Bool) (hs : Ev (fun k => spec_ColumnOk.l0 k ((i + 1 : Nat) : Int) h fx bx) s) :
  ∀ (rest : List S98) (j : Nat) (b : Bool), bx.drop j = rest → j ≤ bx.length → Ev (fun k => spec_ColumnOk.l1 k (i : Int) b (j : Int) h fx bx) (if (b || rest.any (fun x => decide (x.f0 = fx.getD i 0))) = true then s else false)
 | [], j, b, hd, hj => by
  refine Ev.succ ?_
  simp only [spec_ColumnOk.l1]
  have he := drop_end hd hj
  refine Ev.neg (by omega) ?_
  rw [List.any_nil, Bool.or_false, wsucc i (by omega)]
  exact Ev.ite (fun _ => hs) (fun _ => Ev.ret _)
 | x :: rest, j, b, hd, hj => by
  obtain ⟨h1, h2, h3⟩ := drop_step z98 hd
  refine Ev.succ ?_
  simp only [spec_ColumnOk.l1]
  refine Ev.pos (by omega) ?_
  rw [wsucc j (by omega), List.any_cons]
  cases b with
  | true =>
   refine Ev.pos rfl ?_
   refine (found_ev h fx bx i hi hi2 hl s hs rest (j + 1) true h3 (by omega)).to ?_
   rw [Bool.true_or, Bool.true_or]
  | false =>
   refine Ev.neg (by simp) ?_
   refine Ev.pos (by omega) ?_
   refine Ev.pos (by omega) ?_
   refine Ev.pos (by omega) ?_
   refine (found_ev h fx bx i hi hi2 hl s hs rest (j + 1) _ h3 (by omega)).to ?_
   rw [Bool.false_or]
   have e1 : rd_T98 bx (j : Int) = x := h2
   have e2 : rd fx (i : Int) = fx.getD i 0 := rfl
   rw [e1, e2]
   rfl
theorem prev_eq (fx : List Int) (i : Nat) : prevP fx ((i + 1 : Nat) : Int) = some (fx.getD i 0) := by
 unfold prevP
 rw [if_neg (by omega), show ((i + 1 : Nat) : Int) - 1 = (i : Int) by omega]
 rfl
theorem any_lows (f : Int) (bx : List S98) : (bx.any (fun x => decide (x.f0 = f))) = decide (f ∈ bx.map (fun b => b.f0)) := by
 rw [Bool.eq_iff_iff, List.any_eq_true, decide_eq_true_iff, List.mem_map]
 constructor
 ·rintro ⟨x, hx, e⟩; exact ⟨x, hx, of_decide_eq_true e⟩
 ·rintro ⟨x, hx, e⟩; exact ⟨x, hx, decide_eq_true e⟩
theorem fixed_ev (h : Int) (h0 : 1 ≤ h) (h1 : h ≤ 24) (fx : List Int) (hx : fx.length ≤ 140737488351232) (bx : List S98) (hl : bx.length ≤ 24) :
  ∀ (rest : List Int) (i : Nat), fx.drop i = rest → i ≤ fx.length → Ev (fun k => spec_ColumnOk.l0 k (i : Int) h fx bx) (fixS h (bx.map (fun b => b.f0)) (prevP fx (i : Int)) rest)
 | [], i, hd, hj => by
  refine Ev.succ ?_
  simp only [spec_ColumnOk.l0]
  have he := drop_end hd hj
  refine Ev.neg (by omega) ?_
  exact Ev.ret _
 | f :: rest, i, hd, hj => by
  obtain ⟨h2, h3, h4⟩ := drop_step 0 hd
  have ih := fixed_ev h h0 h1 fx hx bx hl rest (i + 1) h4 (by omega)
  have hf := found_ev h fx bx i h2 (by omega) hl _ ih bx 0 false rfl (by omega)
  rw [Bool.false_or, any_lows, h3, prev_eq, h3] at hf
  have er : rd fx (i : Int) = f := h3
  have go : ∀ (b : Bool), Ev (fun k => spec_ColumnOk.j2 k (i : Int) b h fx bx) (if b = true then false else if decide (f ∈ bx.map (fun b => b.f0)) = true then fixS h (bx.map (fun b => b.f0)) (some f) rest else false) := by
   intro b
   refine Ev.succ ?_
   simp only [spec_ColumnOk.j2]
   exact Ev.ite (fun _ => Ev.ret _) (fun _ => hf)
  refine Ev.succ ?_
  simp only [spec_ColumnOk.l0]
  refine Ev.pos (by omega) ?_
  refine Ev.pos (by omega) ?_
  rw [er, wid (h - 1) (by omega) (by omega)]
  refine Ev.bind (Ev.const (in_eq _ _ _)) ?_
  simp only [fixS]
  by_cases c1 : 1 ≤ f ∧ f ≤ h - 1
  ·refine Ev.pos (decide_eq_true c1) ?_
   rw [decide_eq_true c1, Bool.true_and]
   by_cases c2 : (i : Int) > 0
   ·have hp : prevP fx (i : Int) = some (fx.getD (i - 1) 0) := by
     have := prev_eq fx (i - 1)
     rwa [show i - 1 + 1 = i by omega] at this
    have e2 : rd fx ((i - 1 : Nat) : Int) = fx.getD (i - 1) 0 := rfl
    refine Ev.pos c2 ?_
    rw [wpred i (by omega) (by omega), hp, e2]
    refine Ev.pos (by omega) ?_
    refine Ev.pos (by omega) ?_
    refine (go _).to ?_
    by_cases c3 : f ≤ fx.getD (i - 1) 0
    ·rw [if_pos (decide_eq_true c3)]
     simp only [decide_eq_false (show ¬ fx.getD (i - 1) 0 < f by omega), Bool.false_and]
    ·rw [if_neg (by simpa using c3)]
     simp only [decide_eq_true (show fx.getD (i - 1) 0 < f by omega), Bool.true_and]
     cases decide (f ∈ bx.map (fun b => b.f0)) <;> simp
   ·have hp : prevP fx (i : Int) = none := by unfold prevP; rw [if_pos (by omega)]
    refine Ev.neg c2 ?_
    refine (go _).to ?_
    rw [hp]
    cases decide (f ∈ bx.map (fun b => b.f0)) <;> simp
  ·refine Ev.neg (by simpa using c1) ?_
   refine (go _).to ?_
   rw [if_pos rfl, decide_eq_false c1]
   simp only [Bool.false_and]
theorem colok_ev (h : Int) (fx : List Int) (hx : fx.length ≤ 140737488351232) (bx : List S98) (hl : bx.length ≤ 140737488351232) : Ev (fun k => spec_ColumnOk.f k h fx bx) (colP h fx bx) := by
 refine Ev.of_eq ?_ (fun k => by unfold spec_ColumnOk.f; rfl)
 refine Ev.bind (Ev.const (in_eq _ _ _)) ?_
 rw [← colS_eq, ← fixS_eq]
 by_cases hh : 1 ≤ h ∧ h ≤ 24
 ·refine Ev.pos (decide_eq_true hh) ?_
  refine Ev.bind (Ev.mk 1100 (fun k hk => boxes_eq h fx bx hl k hk)) ?_
  rw [decide_eq_true hh, Bool.true_and]
  refine Ev.succ ?_
  simp only [spec_ColumnOk.j0]
  cases hS : boxS bx 0 [] with
  | none =>
   refine Ev.pos (by simp [boxesS]) ?_
   exact Ev.ret _
  | some e =>
   by_cases hb : boxesS h bx (some e) = true
   ·rw [hb]
    have hle := boxS_le bx 0 [] e hS
    have he : e ≤ 24 := hle.2.2 (by omega)
    refine Ev.neg (by simp) ?_
    exact fixed_ev h hh.1 hh.2 fx hx bx (by omega) fx 0 rfl (by omega)
   ·have hb2 : boxesS h bx (some e) = false := by simpa using hb
    rw [hb2]
    refine Ev.pos (by simp) ?_
    exact Ev.ret _
 ·refine Ev.neg (by simpa using hh) ?_
  rw [decide_eq_false hh, Bool.false_and]
  refine Ev.succ ?_
  simp only [spec_ColumnOk.j0]
  refine Ev.pos (by simp) ?_
  exact Ev.ret _
end Go.Proofs.Ytbpjidekjogfeaa.A

namespace Go.Proofs.Ytbpjidekjogfeaa.A
open Go.RowKit Go.Proofs.YtbpjidekjogfeaaW.PrintWords Go.Proofs.YtbpjidekjogfeaaW.PrintLast Go.Proofs.YtbpjidekjogfeaaW.PrintMore
set_option linter.unusedVariables false
set_option linter.unusedSimpArgs false
def opB (b : S98) : Bool := decide (b.f2 = 0) && !b.f3
def sumB (l : List S98) : Int := (l.map (fun b => b.f1)).foldr (· + ·) 0
theorem sumB_nil : sumB [] = 0 := rfl
theorem sumB_cons (b : S98) (l : List S98) : sumB (b :: l) = b.f1 + sumB l := rfl
theorem sumB_app (a b : List S98) : sumB (a ++ b) = sumB a + sumB b := by
 induction a with
 | nil => simp [sumB_nil]
 | cons x a ih => rw [List.cons_append, sumB_cons, sumB_cons, ih]; omega
def tile : Int → List S98 → Int → Prop
 | lo, [], hi => lo = hi
 | lo, b :: bs, hi => b.f0 = lo ∧ 1 ≤ b.f1 ∧ tile (lo + b.f1) bs hi
theorem tile_sum : ∀ (bs : List S98) (lo hi : Int), tile lo bs hi → lo + sumB bs = hi ∧ lo + bs.length ≤ hi
 | [], lo, hi, h => by simp only [tile] at h; subst h; simp [sumB_nil]
 | b :: bs, lo, hi, h => by
  obtain ⟨_, h1, h2⟩ := h
  have := tile_sum bs _ _ h2
  rw [sumB_cons, List.length_cons]
  omega
theorem tile_app : ∀ (a b : List S98) (lo hi : Int), tile lo (a ++ b) hi ↔ tile lo a (lo + sumB a) ∧ tile (lo + sumB a) b hi
 | [], b, lo, hi => by simp [tile, sumB_nil]
 | x :: a, b, lo, hi => by
  simp only [List.cons_append, tile, sumB_cons]
  rw [tile_app a b, show lo + (x.f1 + sumB a) = lo + x.f1 + sumB a by omega]
  constructor
  ·rintro ⟨h1, h2, h3, h4⟩; exact ⟨⟨h1, h2, h3⟩, h4⟩
  ·rintro ⟨⟨h1, h2, h3⟩, h4⟩; exact ⟨h1, h2, h3, h4⟩
theorem tile_mem : ∀ (bs : List S98) (lo hi : Int), tile lo bs hi → ∀ b ∈ bs, lo ≤ b.f0 ∧ 1 ≤ b.f1 ∧ b.f0 + b.f1 ≤ hi
 | [], _, _, _, b, hb => absurd hb (by simp)
 | x :: bs, lo, hi, h, b, hb => by
  obtain ⟨h0, h1, h2⟩ := h
  have h3 := tile_sum bs _ _ h2
  rcases List.mem_cons.mp hb with rfl | hb
  ·omega
  ·have := tile_mem bs _ _ h2 b hb
   omega
def Cut (fx : List Int) : List S98 → Prop
 | [] => True
 | b :: _ => opB b = false ∨ b.f0 ∈ fx
def gapR : List S98 → S50
 | [] => ⟨0, 0, 0⟩
 | b :: bs => ⟨0, b.f0, sumB (b :: bs)⟩
def emR (cur : List S98) : List S50 := if cur = [] then [] else [gapR cur]
def gapsW (fx : List Int) : List S98 → List S98 → List S50
 | cur, [] => emR cur
 | cur, b :: bs => if opB b = true then (if cur ≠ [] ∧ b.f0 ∉ fx then gapsW fx (cur ++ [b]) bs else emR cur ++ gapsW fx [b] bs) else emR cur ++ gapsW fx [] bs
def gapsB (fx : List Int) (bx : List S98) : List S50 := gapsW fx [] bx
def emD (pre cur bs : List S98) : List (List S98 × List S98 × List S98) := if cur = [] then [] else [(pre, cur, bs)]
def decs (fx : List Int) : List S98 → List S98 → List S98 → List (List S98 × List S98 × List S98)
 | pre, cur, [] => emD pre cur []
 | pre, cur, b :: bs => if opB b = true then (if cur ≠ [] ∧ b.f0 ∉ fx then decs fx pre (cur ++ [b]) bs else emD pre cur (b :: bs) ++ decs fx (pre ++ cur) [b] bs) else emD pre cur (b :: bs) ++ decs fx (pre ++ cur ++ [b]) [] bs
theorem emD_gap (pre cur bs : List S98) : (emD pre cur bs).map (fun d => gapR d.2.1) = emR cur := by
 unfold emD emR; split <;> rfl
theorem decs_gaps (fx : List Int) : ∀ (bs pre cur : List S98), (decs fx pre cur bs).map (fun d => gapR d.2.1) = gapsW fx cur bs
 | [], pre, cur => emD_gap pre cur []
 | b :: bs, pre, cur => by
  simp only [decs, gapsW]
  split
  ·split
   ·exact decs_gaps fx bs _ _
   ·rw [List.map_append, emD_gap, decs_gaps fx bs]
  ·rw [List.map_append, emD_gap, decs_gaps fx bs]
theorem gapsW_cut (fx : List Int) (B cur : List S98) (h : Cut fx B) : gapsW fx cur B = emR cur ++ gapsW fx [] B := by
 cases B with
 | nil => simp [gapsW, emR]
 | cons b B =>
  have e : emR [] = [] := rfl
  simp only [gapsW]
  by_cases hb : opB b = true
  ·have hf : b.f0 ∈ fx := by
    rcases h with h | h
    ·rw [hb] at h; cases h
    ·exact h
   rw [if_pos hb, if_pos hb, if_neg (fun c => c.2 hf), if_neg (fun c => c.2 hf), e, List.nil_append]
  ·rw [if_neg hb, if_neg hb, e, List.nil_append]
theorem gapsW_app (fx : List Int) (B : List S98) (h : Cut fx B) : ∀ (A cur : List S98), gapsW fx cur (A ++ B) = gapsW fx cur A ++ gapsW fx [] B
 | [], cur => gapsW_cut fx B cur h
 | a :: A, cur => by
  simp only [List.cons_append, gapsW]
  split
  ·split
   ·exact gapsW_app fx B h A _
   ·rw [gapsW_app fx B h A, List.append_assoc]
  ·rw [gapsW_app fx B h A, List.append_assoc]
def Shut (fx : List Int) (A : List S98) : Prop := ∀ Z, gapsW fx [] (A ++ Z) = gapsW fx [] A ++ gapsW fx [] Z
def ShutAt (fx : List Int) (A : List S98) (lo : Int) : Prop := ∀ z Z, z.f0 = lo → gapsW fx [] (A ++ z :: Z) = gapsW fx [] A ++ gapsW fx [] (z :: Z)
theorem shut_nil (fx : List Int) : Shut fx [] := fun Z => by simp [gapsW, emR]
theorem shut_snoc (fx : List Int) (A : List S98) (b : S98) (hb : opB b = false) : Shut fx (A ++ [b]) := by
 intro Z
 have hc : ∀ Z, Cut fx (b :: Z) := fun Z => Or.inl hb
 have hb' : ¬ opB b = true := by rw [hb]; simp
 rw [List.append_assoc, show [b] ++ Z = b :: Z from rfl, gapsW_app fx (b :: Z) (hc Z), gapsW_app fx [b] (hc []), List.append_assoc]
 simp only [gapsW]
 rw [if_neg hb', if_neg hb']
 simp [emR]
theorem Shut.at {fx : List Int} {A : List S98} (h : Shut fx A) (lo : Int) : ShutAt fx A lo := fun z Z _ => h (z :: Z)
theorem shutAt_fixed (fx : List Int) (A : List S98) (lo : Int) (h : lo ∈ fx) : ShutAt fx A lo := fun z Z e => gapsW_app fx (z :: Z) (Or.inr (by rw [e]; exact h)) A []
def loR (R : List S98) : Int := (R.headD z98).f0
structure RunAt (fx : List Int) (bx A R B : List S98) : Prop where
 all : A ++ R ++ B = bx
 ne : R ≠ []
 opn : ∀ b ∈ R, opB b = true
 free : ∀ b ∈ R.tail, b.f0 ∉ fx
 pre : ShutAt fx A (loR R)
 post : Cut fx B
theorem loR_app {R : List S98} (h : R ≠ []) (S : List S98) : loR (R ++ S) = loR R := by
 cases R with
 | nil => exact absurd rfl h
 | cons x R => rfl
theorem decs_runs (fx : List Int) : ∀ (bs pre cur : List S98), (cur = [] → Shut fx pre) → (cur ≠ [] → ShutAt fx pre (loR cur) ∧ (∀ b ∈ cur, opB b = true) ∧ ∀ b ∈ cur.tail, b.f0 ∉ fx) →
  ∀ d ∈ decs fx pre cur bs, RunAt fx (pre ++ cur ++ bs) d.1 d.2.1 d.2.2 := by
 intro bs
 induction bs with
 | nil =>
  intro pre cur h0 h1 d hd
  simp only [decs, emD] at hd
  split at hd
  ·simp at hd
  ·next hc =>
   simp only [List.mem_singleton] at hd
   subst hd
   exact ⟨rfl, hc, (h1 hc).2.1, (h1 hc).2.2, (h1 hc).1, trivial⟩
 | cons b bs ih =>
  intro pre cur h0 h1 d hd
  simp only [decs] at hd
  have em : ∀ (hC : Cut fx (b :: bs)), d ∈ emD pre cur (b :: bs) → RunAt fx (pre ++ cur ++ b :: bs) d.1 d.2.1 d.2.2 := by
   intro hC he
   simp only [emD] at he
   split at he
   ·simp at he
   ·next hc =>
    simp only [List.mem_singleton] at he
    subst he
    exact ⟨rfl, hc, (h1 hc).2.1, (h1 hc).2.2, (h1 hc).1, hC⟩
  by_cases hb : opB b = true
  ·rw [if_pos hb] at hd
   by_cases hc : cur ≠ [] ∧ b.f0 ∉ fx
   ·rw [if_pos hc] at hd
    obtain ⟨g1, g2, g3⟩ := h1 hc.1
    have := ih pre (cur ++ [b]) (fun e => by simp at e) (fun _ => ⟨by rw [loR_app hc.1]; exact g1, fun x hx => by
     rcases List.mem_append.mp hx with hx | hx
     ·exact g2 x hx
     ·rw [List.mem_singleton.mp hx]; exact hb, fun x hx => by
     rw [List.tail_append_of_ne_nil hc.1] at hx
     rcases List.mem_append.mp hx with hx | hx
     ·exact g3 x hx
     ·rw [List.mem_singleton.mp hx]; exact hc.2⟩) d hd
    simpa using this
   ·rw [if_neg hc] at hd
    rcases List.mem_append.mp hd with hd | hd
    ·by_cases hcur : cur = []
     ·subst hcur; simp [emD] at hd
     ·exact em (Or.inr (Classical.byContradiction fun e => hc ⟨hcur, e⟩)) hd
    ·have := ih (pre ++ cur) [b] (fun e => by simp at e) (fun _ => ⟨by
      by_cases hcur : cur = []
      ·subst hcur; rw [List.append_nil]; exact (h0 rfl).at _
      ·exact shutAt_fixed fx _ _ (Classical.byContradiction fun e => hc ⟨hcur, e⟩), fun x hx => by rw [List.mem_singleton.mp hx]; exact hb, fun x hx => by simp at hx⟩) d hd
     simpa using this
  ·rw [if_neg hb] at hd
   have hb' : opB b = false := by simpa using hb
   rcases List.mem_append.mp hd with hd | hd
   ·exact em (Or.inl hb') hd
   ·have := ih (pre ++ cur ++ [b]) [] (fun _ => shut_snoc fx _ b hb') (fun e => absurd rfl e) d hd
    simpa using this
theorem decs_top (fx : List Int) (bx : List S98) : ∀ d ∈ decs fx [] [] bx, RunAt fx bx d.1 d.2.1 d.2.2 := by
 have := decs_runs fx bx [] [] (fun _ => shut_nil fx) (fun e => absurd rfl e)
 simpa using this
theorem gapsW_run (fx : List Int) : ∀ (R cur : List S98), cur ≠ [] → (∀ b ∈ R, opB b = true) → (∀ b ∈ R, b.f0 ∉ fx) → gapsW fx cur R = [gapR (cur ++ R)]
 | [], cur, hc, _, _ => by simp only [gapsW, emR]; rw [if_neg hc, List.append_nil]
 | b :: R, cur, hc, h1, h2 => by
  simp only [gapsW]
  rw [if_pos (h1 b (by simp)), if_pos ⟨hc, h2 b (by simp)⟩, gapsW_run fx R (cur ++ [b]) (by simp) (fun x hx => h1 x (by simp [hx])) (fun x hx => h2 x (by simp [hx]))]
  simp
theorem run_gap {fx : List Int} {bx A R B : List S98} (h : RunAt fx bx A R B) : gapsB fx R = [gapR R] := by
 have h1 := h.ne
 have h2 := h.opn
 have h3 := h.free
 cases R with
 | nil => exact absurd rfl h1
 | cons r R =>
  unfold gapsB
  simp only [gapsW]
  rw [if_pos (h2 r (by simp)), if_neg (fun c => c.1 rfl), gapsW_run fx R [r] (by simp) (fun x hx => h2 x (by simp [hx])) (fun x hx => h3 x hx)]
  rfl
theorem run_put {fx : List Int} {bx A R B : List S98} (h : RunAt fx bx A R B) (N : List S98) (hN : N ≠ []) (hs : loR N = loR R ∨ Cut fx N) : gapsB fx (A ++ N ++ B) = gapsB fx A ++ gapsB fx N ++ gapsB fx B := by
 unfold gapsB
 cases N with
 | nil => exact absurd rfl hN
 | cons n N =>
  have h1 : gapsW fx [] (A ++ (n :: N)) = gapsW fx [] A ++ gapsW fx [] (n :: N) := by
   rcases hs with hs | hs
   ·exact h.pre n N hs
   ·exact gapsW_app fx (n :: N) hs A []
  rw [gapsW_app fx B h.post, h1]
theorem run_gaps {fx : List Int} {bx A R B : List S98} (h : RunAt fx bx A R B) : gapsB fx bx = gapsB fx A ++ [gapR R] ++ gapsB fx B := by
 rw [← h.all, run_put h R h.ne (Or.inl rfl), run_gap h]
theorem gapsW_asc (fx : List Int) : ∀ (bs cur : List S98) (lo hi : Int), tile lo bs hi → (cur ≠ [] → loR cur < lo) → (gapsW fx cur bs).Pairwise (fun a b => a.f1 < b.f1) ∧ ∀ g ∈ gapsW fx cur bs, (cur = [] → lo ≤ g.f1) ∧ (cur ≠ [] → loR cur ≤ g.f1)
 | [], cur, lo, hi, _, hc => by
  simp only [gapsW, emR]
  split
  ·next e => exact ⟨List.Pairwise.nil, fun g hg => absurd hg (by simp)⟩
  ·next e =>
   refine ⟨by simp, fun g hg => ⟨fun c => absurd c e, fun _ => ?_⟩⟩
   rw [List.mem_singleton.mp hg]
   cases cur with
   | nil => exact absurd rfl e
   | cons x cur => exact Int.le_refl _
 | b :: bs, cur, lo, hi, ht, hc => by
  obtain ⟨e0, e1, e2⟩ := ht
  simp only [gapsW]
  have em : ∀ (L : List S50), L.Pairwise (fun a b => a.f1 < b.f1) → (∀ g ∈ L, lo ≤ g.f1) → (emR cur ++ L).Pairwise (fun a b => a.f1 < b.f1) ∧ ∀ g ∈ emR cur ++ L, (cur = [] → lo ≤ g.f1) ∧ (cur ≠ [] → loR cur ≤ g.f1) := by
   intro L h1 h2
   unfold emR
   by_cases e : cur = []
   ·rw [if_pos e, List.nil_append]
    exact ⟨h1, fun g hg => ⟨fun _ => h2 g hg, fun c => absurd e c⟩⟩
   ·have hl := hc e
    have hg0 : (gapR cur).f1 = loR cur := by cases cur with | nil => exact absurd rfl e | cons x cur => rfl
    rw [if_neg e]
    refine ⟨List.pairwise_append.mpr ⟨by simp, h1, fun a ha b hb => ?_⟩, fun g hg => ⟨fun c => absurd c e, fun _ => ?_⟩⟩
    ·rw [List.mem_singleton.mp ha, hg0]; have := h2 b hb; omega
    ·rcases List.mem_append.mp hg with hg | hg
     ·rw [List.mem_singleton.mp hg, hg0]; exact Int.le_refl _
     ·have := h2 g hg; omega
  split
  ·split
   ·next h =>
    have ih := gapsW_asc fx bs (cur ++ [b]) _ hi e2 (fun _ => by rw [loR_app h.1]; have := hc h.1; omega)
    refine ⟨ih.1, fun g hg => ⟨fun c => absurd c h.1, fun _ => ?_⟩⟩
    have := (ih.2 g hg).2 (by simp)
    rwa [loR_app h.1] at this
   ·have ih := gapsW_asc fx bs [b] _ hi e2 (fun _ => by show b.f0 < _; omega)
    exact em _ ih.1 (fun g hg => by have := (ih.2 g hg).2 (by simp); show lo ≤ g.f1; have h2 : loR [b] = b.f0 := rfl; omega)
  ·have ih := gapsW_asc fx bs [] _ hi e2 (fun e => absurd rfl e)
   exact em _ ih.1 (fun g hg => by have := (ih.2 g hg).1 rfl; omega)
def fillB (lo sz : Int) (N bx : List S98) : List S98 := bx.flatMap (fun b => (if b.f0 = lo then N else []) ++ (if b.f0 < lo ∨ lo + sz ≤ b.f0 then [b] else []))
theorem fillB_out (lo sz : Int) (N : List S98) : ∀ (l : List S98), (∀ b ∈ l, b.f0 ≠ lo ∧ (b.f0 < lo ∨ lo + sz ≤ b.f0)) → fillB lo sz N l = l
 | [], _ => rfl
 | b :: l, h => by
  have h1 := h b (by simp)
  have ih := fillB_out lo sz N l (fun x hx => h x (by simp [hx]))
  unfold fillB at ih ⊢
  rw [List.flatMap_cons, ih, if_neg h1.1, if_pos h1.2]
  rfl
theorem fillB_in (lo sz : Int) (N : List S98) : ∀ (l : List S98), (∀ b ∈ l, lo < b.f0 ∧ b.f0 < lo + sz) → fillB lo sz N l = []
 | [], _ => rfl
 | b :: l, h => by
  have h1 := h b (by simp)
  have ih := fillB_in lo sz N l (fun x hx => h x (by simp [hx]))
  unfold fillB at ih ⊢
  rw [List.flatMap_cons, ih, if_neg (by omega), if_neg (by omega)]
  rfl
theorem fillB_run {A R B : List S98} {lo hi : Int} (h : tile lo (A ++ R ++ B) hi) (hR : R ≠ []) (N : List S98) : fillB (loR R) (sumB R) N (A ++ R ++ B) = A ++ N ++ B := by
 rw [tile_app, tile_app] at h
 obtain ⟨⟨hA, hM⟩, hB⟩ := h
 rw [sumB_app] at hB
 cases R with
 | nil => exact absurd rfl hR
 | cons r R =>
  have er : loR (r :: R) = r.f0 := rfl
  obtain ⟨m0, m1, m2⟩ := hM
  have s := tile_sum _ _ _ m2
  unfold fillB
  rw [List.flatMap_append, List.flatMap_append]
  have a1 := fillB_out (loR (r :: R)) (sumB (r :: R)) N A (fun b hb => by have := tile_mem _ _ _ hA b hb; rw [er]; omega)
  have a2 := fillB_out (loR (r :: R)) (sumB (r :: R)) N B (fun b hb => by have := tile_mem _ _ _ hB b hb; rw [er, sumB_cons] at *; omega)
  have a3 := fillB_in (loR (r :: R)) (sumB (r :: R)) N R (fun b hb => by have := tile_mem _ _ _ m2 b hb; rw [er, sumB_cons]; omega)
  unfold fillB at a1 a2 a3
  rw [a1, a2, List.flatMap_cons, a3, if_pos er.symm, if_neg (by rw [er, sumB_cons]; have := tile_sum _ _ _ m2; omega)]
  simp
def parcs (ps : List Int) : List S98 → Prop
 | [] => True
 | b :: bs => (0 ≤ b.f2 ∧ b.f2 ≤ 999) ∧ ¬ (0 < b.f2 ∧ b.f2 ∈ ps) ∧ parcs (b.f2 :: ps) bs
theorem boxS_iff : ∀ (bs : List S98) (low : Int) (ps : List Int) (e : Int), 0 ≤ low → low ≤ 24 → (boxS bs low ps = some e ↔ tile low bs e ∧ e ≤ 24 ∧ parcs ps bs)
 | [], low, ps, e, h0, h => by
  simp only [boxS, tile, parcs, Option.some.injEq]
  constructor
  ·rintro rfl; exact ⟨rfl, h, trivial⟩
  ·rintro ⟨h, _⟩; exact h
 | b :: bs, low, ps, e, hn, h => by
  simp only [boxS, tile, parcs]
  constructor
  ·intro hs
   split at hs
   ·next hc =>
    obtain ⟨h1, h2, h3⟩ := (boxS_iff bs _ _ e (by omega) hc.2.2.2.2).mp hs
    exact ⟨⟨hc.1, hc.2.1.1, h1⟩, h2, hc.2.2.1, hc.2.2.2.1, h3⟩
   ·cases hs
  ·rintro ⟨⟨h0, h1, h2⟩, h3, h4, h5, h6⟩
   have hs := tile_sum _ _ _ h2
   rw [if_pos ⟨h0, ⟨h1, by omega⟩, h4, h5, by omega⟩]
   exact (boxS_iff bs _ _ e (by omega) (by omega)).mpr ⟨h2, h3, h6⟩
structure ColV (h : Int) (fx : List Int) (bx : List S98) : Prop where
 hi : 1 ≤ h ∧ h ≤ 24
 til : tile 0 bx h
 par : parcs [] bx
 fix : fixP h none fx = true
 low : ∀ f ∈ fx, ∃ b ∈ bx, b.f0 = f
theorem colP_iff (h : Int) (fx : List Int) (bx : List S98) : colP h fx bx = true ↔ ColV h fx bx := by
 rw [← colS_eq]
 constructor
 ·intro e
  simp only [Bool.and_eq_true, decide_eq_true_eq] at e
  obtain ⟨e1, e2, e3, e4⟩ := e
  cases hS : boxS bx 0 [] with
  | none => rw [hS] at e2; simp [boxesS] at e2
  | some x =>
   rw [hS] at e2
   simp only [boxesS, Bool.and_eq_true, decide_eq_true_eq] at e2
   obtain ⟨_, rfl⟩ := e2
   obtain ⟨t1, t2, t3⟩ := (boxS_iff bx 0 [] x (by omega) (by omega)).mp hS
   refine ⟨e1, t1, t3, e3, fun f hf => ?_⟩
   have := List.all_eq_true.mp e4 f hf
   simp only [decide_eq_true_eq, List.mem_map] at this
   exact this
 ·intro v
  have hS := (boxS_iff bx 0 [] h (by omega) (by omega)).mpr ⟨v.til, v.hi.2, v.par⟩
  have hne : bx ≠ [] := by
   intro e
   have := v.til
   rw [e] at this
   simp only [tile] at this
   have := v.hi
   omega
  simp only [Bool.and_eq_true, decide_eq_true_eq]
  refine ⟨v.hi, ?_, v.fix, ?_⟩
  ·rw [hS]; simp [boxesS, hne]
  ·exact List.all_eq_true.mpr (fun f hf => by simp only [decide_eq_true_eq, List.mem_map]; exact v.low f hf)
theorem ColV.len {h : Int} {fx : List Int} {bx : List S98} (v : ColV h fx bx) : bx.length ≤ 24 := by
 have := tile_sum _ _ _ v.til
 have := v.hi
 omega
theorem parcs_iff : ∀ (bs : List S98) (ps : List Int), parcs ps bs ↔ (∀ b ∈ bs, 0 ≤ b.f2 ∧ b.f2 ≤ 999) ∧ (∀ b ∈ bs, 0 < b.f2 → b.f2 ∉ ps) ∧ bs.Pairwise (fun a b => 0 < b.f2 → a.f2 ≠ b.f2)
 | [], ps => by simp [parcs]
 | b :: bs, ps => by
  simp only [parcs]
  rw [parcs_iff bs]
  constructor
  ·rintro ⟨h1, h2, h3, h4, h5⟩
   refine ⟨fun x hx => ?_, fun x hx h0 => ?_, List.pairwise_cons.mpr ⟨fun x hx h0 e => h4 x hx h0 (by rw [← e]; simp), h5⟩⟩
   ·rcases List.mem_cons.mp hx with rfl | hx
    ·exact h1
    ·exact h3 x hx
   ·rcases List.mem_cons.mp hx with rfl | hx
    ·exact fun hm => h2 ⟨h0, hm⟩
    ·exact fun hm => h4 x hx h0 (by simp [hm])
  ·rintro ⟨h1, h2, h3⟩
   obtain ⟨h4, h5⟩ := List.pairwise_cons.mp h3
   refine ⟨h1 b (by simp), fun h => h2 b (by simp) h.1 h.2, fun x hx => h1 x (by simp [hx]), fun x hx h0 hm => ?_, h5⟩
   rcases List.mem_cons.mp hm with e | hm
   ·exact h4 x hx h0 e.symm
   ·exact h2 x (by simp [hx]) h0 hm
end Go.Proofs.Ytbpjidekjogfeaa.A

namespace Go.Proofs.Ytbpjidekjogfeaa.A
open Go.RowKit Go.Proofs.YtbpjidekjogfeaaW.PrintWords Go.Proofs.YtbpjidekjogfeaaW.PrintLast Go.Proofs.YtbpjidekjogfeaaW.PrintMore
set_option linter.unusedVariables false
set_option linter.unusedSimpArgs false
def toI_Box (b : S123) : S98 := ⟨b.f0, b.f1, b.f2, b.f3⟩
theorem toIntS_ev (l : List Int) (hl : l.length ≤ 1048576) : Ev (fun k => laws_toIntS.f k l) l := Ev.mk l.length (fun k hk => by
 unfold laws_toIntS.f
 rw [if_pos (by omega), if_pos (by omega)]
 refine (map_loop (L := fun k acc i => laws_toIntS.l0 k l acc i) (xs := l) (g := id) 0 (fun k acc i hi ha => ?_) (fun k acc => ?_) l.length k _ 0 (by omega) hk (by simp) (fun j hj => by omega)).trans (by rw [List.map_id])
 ·simp only [laws_toIntS.l0]
  rw [if_pos (by omega), if_pos (by omega), if_pos (by omega), wsucc i (by omega)]
  rfl
 ·simp only [laws_toIntS.l0]
  rw [if_neg (by omega)])
theorem toBoxS_ev (l : List S123) (hl : l.length ≤ 1048576) : Ev (fun k => laws_toBoxS.f k l) (l.map toI_Box) := Ev.mk l.length (fun k hk => by
 unfold laws_toBoxS.f
 rw [if_pos (by omega), if_pos (by omega)]
 refine map_loop (L := fun k acc i => laws_toBoxS.l0 k l acc i) z123 (fun k acc i hi ha => ?_) (fun k acc => ?_) l.length k _ 0 (by omega) hk (by simp) (fun j hj => by omega)
 ·simp only [laws_toBoxS.l0]
  rw [if_pos (by omega), if_pos (by omega)]
  simp only [laws_toBox.f, Option.bind_some]
  rw [if_pos (by omega), wsucc i (by omega)]
  rfl
 ·simp only [laws_toBoxS.l0]
  rw [if_neg (by omega)])
theorem toColumn_ev (h : Int) (fx : List Int) (bx : List S123) (hf : fx.length ≤ 1048576) (hb : bx.length ≤ 1048576) : Ev (fun k => laws_toColumn.f k h fx bx) (h, fx, bx.map toI_Box) := by
 unfold laws_toColumn.f
 exact Ev.bind (toIntS_ev fx hf) (Ev.bind (toBoxS_ev bx hb) (Ev.ret _))
theorem szColumn_eq (h : Int) (fx : List Int) (bx : List S123) (a : Int) (h0 : 0 ≤ a) (h1 : a ≤ 1048576) (hf : fx.length ≤ 9223372036854775807) (hb : bx.length ≤ 9223372036854775807) : laws_szColumn.f h fx bx a = some (if a < fx.length + bx.length then -1 else a - fx.length - bx.length) := by
 unfold laws_szColumn.f laws_szIntS.f laws_szBoxS.f
 rw [wid (a - (fx.length : Int)) (by omega) (by omega)]
 by_cases c : a - (fx.length : Int) < 0
 ·rw [if_pos c]
  simp only [Option.bind_some]
  rw [if_pos (by omega), if_pos (by omega)]
 ·rw [if_neg c]
  simp only [Option.bind_some]
  rw [if_neg c, wid (a - (fx.length : Int) - (bx.length : Int)) (by omega) (by omega)]
  by_cases d : a - (fx.length : Int) - (bx.length : Int) < 0
  ·rw [if_pos d]
   simp only [Option.bind_some]
   rw [if_pos (by omega), if_pos (by omega)]
  ·rw [if_neg d]
   simp only [Option.bind_some]
   rw [if_neg d, if_neg (by omega)]
theorem eqIntS_ev (l : List Int) (hl : l.length ≤ 1048576) : Ev (fun k => laws_eqIntS.f k l l) true := Ev.mk l.length (fun k hk => by
 unfold laws_eqIntS.f
 rw [if_pos rfl]
 have h := all_loop (L := fun k i => laws_eqIntS.l0 k l l i) (n := l.length) (P := fun _ => true) (fun k i hi => ?_) (fun k => ?_) l.length k 0 (by omega) hk
 ·have e : (List.range' 0 l.length).all (fun _ => true) = true := by simp
  rw [e] at h
  exact h
 ·simp only [laws_eqIntS.l0]
  rw [if_pos (by omega), if_pos (by omega), if_pos (by omega)]
  simp only [if_true]
  rw [wsucc i (by omega)]
 ·simp only [laws_eqIntS.l0]
  rw [if_neg (by omega)])
theorem eqBoxS_ev (l : List S98) (hl : l.length ≤ 1048576) : Ev (fun k => laws_eqBoxS.f k l l) true := Ev.mk l.length (fun k hk => by
 unfold laws_eqBoxS.f
 rw [if_pos rfl]
 have h := all_loop (L := fun k i => laws_eqBoxS.l0 k l l i) (n := l.length) (P := fun _ => true) (fun k i hi => ?_) (fun k => ?_) l.length k 0 (by omega) hk
 ·have e : (List.range' 0 l.length).all (fun _ => true) = true := by simp
  rw [e] at h
  exact h
 ·simp only [laws_eqBoxS.l0]
  rw [if_pos (by omega), if_pos (by omega), if_pos (by omega)]
  simp only [laws_eqBox.f, bne_self_eq_false, Bool.false_eq_true, if_false, if_true, Option.bind_some]
  rw [wsucc i (by omega)]
 ·simp only [laws_eqBoxS.l0]
  rw [if_neg (by omega)])
theorem eqColumn_ev (h : Int) (fx : List Int) (bx : List S98) (hf : fx.length ≤ 1048576) (hb : bx.length ≤ 1048576) : Ev (fun k => laws_eqColumn.f k h fx bx h fx bx) true := by
 unfold laws_eqColumn.f
 refine Ev.pos rfl ?_
 refine Ev.bind (eqIntS_ev fx hf) ?_
 refine Ev.pos rfl ?_
 refine Ev.bind (eqBoxS_ev bx hb) ?_
 refine Ev.pos rfl ?_
 exact Ev.ret _
theorem mark_loop {β : Type} {L : Nat → List β → Int → Int → Option (Int × List β)} {n : Nat} {g : Nat → β} {X : Nat → Int}
  (h : ∀ k acc (i : Nat), i < n → acc.length = n → L (k + 1) acc (X i) (i : Int) = L k (acc.set i (g i)) (X (i + 1)) ((i + 1 : Nat) : Int))
  (he : ∀ k acc, acc.length = n → L (k + 1) acc (X n) (n : Int) = some (X n, acc)) (d : Nat) :
  ∀ k acc (i : Nat), i + d = n → d < k → acc.length = n → (∀ j, j < i → acc[j]? = ((List.range n).map g)[j]?) → L k acc (X i) (i : Int) = some (X n, (List.range n).map g) := by
 induction d with
 | zero =>
  intro k acc i hi hk hl hp
  obtain ⟨k, rfl⟩ : ∃ m, k = m + 1 := ⟨k - 1, by omega⟩
  obtain rfl : i = n := by omega
  rw [he k acc hl]
  congr 2
  apply List.ext_getElem?
  intro j
  by_cases hj : j < i
  ·exact hp j hj
  ·rw [List.getElem?_eq_none (by omega), List.getElem?_eq_none (by simp; omega)]
 | succ d ih =>
  intro k acc i hi hk hl hp
  obtain ⟨k, rfl⟩ : ∃ m, k = m + 1 := ⟨k - 1, by omega⟩
  rw [h k acc i (by omega) hl]
  refine ih k _ (i + 1) (by omega) (by omega) (by simp [hl]) (fun j hj => ?_)
  by_cases e : i = j
  ·subst e
   rw [List.getElem?_set_self (by omega), List.getElem?_map, List.getElem?_range (by omega)]
   rfl
  ·rw [List.getElem?_set_ne e]
   exact hp j (by omega)
theorem held_loop {L : Nat → Int → Int → Option Int} {n : Nat} {X : Nat → Int}
  (h : ∀ k (i : Nat), i < n → L (k + 1) (X i) (i : Int) = L k (X (i + 1)) ((i + 1 : Nat) : Int)) (he : ∀ k, L (k + 1) (X n) (n : Int) = some (X n)) (d : Nat) :
  ∀ k (i : Nat), i + d = n → d < k → L k (X i) (i : Int) = some (X n) := by
 induction d with
 | zero =>
  intro k i hi hk
  obtain ⟨k, rfl⟩ : ∃ m, k = m + 1 := ⟨k - 1, by omega⟩
  obtain rfl : i = n := by omega
  exact he k
 | succ d ih =>
  intro k i hi hk
  obtain ⟨k, rfl⟩ : ∃ m, k = m + 1 := ⟨k - 1, by omega⟩
  rw [h k i (by omega)]
  exact ih k (i + 1) (by omega) (by omega)
theorem getD_range {β : Type} (n : Nat) (g : Nat → β) (d : β) (i : Nat) (h : i < n) : ((List.range n).map g).getD i d = g i := by
 rw [List.getD_eq_getElem?_getD, List.getElem?_map, List.getElem?_range h]
 rfl
def mkI (a : Int) (n : Nat) : List Int := (List.range n).map (fun (j : Nat) => a + (j : Int))
theorem markIntS_ev (l : List Int) (hl : l.length ≤ 1048576) (a : Int) (h0 : 0 ≤ a) (h1 : a ≤ 100000000) : Ev (fun k => laws_markIntS.f k l a) (a + l.length, mkI a l.length) := Ev.mk l.length (fun k hk => by
 unfold laws_markIntS.f
 have h := mark_loop (L := fun k acc x i => laws_markIntS.l0 k acc x i) (n := l.length) (g := fun j => a + (j : Int)) (X := fun j => a + (j : Int)) (fun k acc i hi ha => ?_) (fun k acc ha => ?_) l.length k l 0 (by omega) hk rfl (fun j hj => by omega)
 ·rw [show a + ((0 : Nat) : Int) = a by omega] at h
  exact h
 ·simp only [laws_markIntS.l0]
  rw [if_pos (by omega), if_pos (by omega), wid (a + (i : Int) + 1) (by omega) (by omega), wsucc i (by omega), show a + (i : Int) + 1 = a + ((i + 1 : Nat) : Int) by omega]
  rfl
 ·simp only [laws_markIntS.l0]
  rw [if_neg (by omega)])
theorem heldIntS_ev (n : Nat) (hn : n ≤ 1048576) (a : Int) (h0 : 0 ≤ a) (h1 : a ≤ 100000000) : Ev (fun k => laws_heldIntS.f k (mkI a n) a) (a + n) := Ev.mk n (fun k hk => by
 unfold laws_heldIntS.f
 have hl : (mkI a n).length = n := by unfold mkI; simp
 have h := held_loop (L := fun k x i => laws_heldIntS.l0 k (mkI a n) x i) (n := n) (X := fun j => a + (j : Int)) (fun k i hi => ?_) (fun k => ?_) n k 0 (by omega) hk
 ·rw [show a + ((0 : Nat) : Int) = a by omega] at h
  exact h
 ·simp only [laws_heldIntS.l0]
  have e : rd (mkI a n) (i : Int) = a + (i : Int) := getD_range n _ _ i hi
  rw [if_pos (by omega), if_pos (by omega), e, if_pos rfl, wid (a + (i : Int) + 1) (by omega) (by omega), wsucc i (by omega), show a + (i : Int) + 1 = a + ((i + 1 : Nat) : Int) by omega]
 ·simp only [laws_heldIntS.l0]
  rw [if_neg (by omega)])
theorem rd_set {l : List S98} {i : Nat} (h : i < l.length) (v : S98) : rd_T98 (l.set i v) (i : Int) = v := by
 show (l.set i v).getD i _ = v
 rw [List.getD_eq_getElem?_getD, List.getElem?_set_self h]
 rfl
def mkBox (x : Int) : S98 := ⟨x, x + 1, x + 2, Int.tmod (x + 3) 3 == 0⟩
def mkB (a : Int) (n : Nat) : List S98 := (List.range n).map (fun (j : Nat) => mkBox (a + 4 * (j : Int)))
theorem mkB_len (a : Int) (n : Nat) : (mkB a n).length = n := by unfold mkB; simp
theorem markBoxS_ev (l : List S98) (hl : l.length ≤ 1048576) (a : Int) (h0 : 0 ≤ a) (h1 : a ≤ 100000000) : Ev (fun k => laws_markBoxS.f k l a) (a + 4 * l.length, mkB a l.length) := Ev.mk l.length (fun k hk => by
 unfold laws_markBoxS.f
 have h := mark_loop (L := fun k acc x i => laws_markBoxS.l0 k acc x i) (n := l.length) (g := fun j => mkBox (a + 4 * (j : Int))) (X := fun j => a + 4 * (j : Int)) (fun k acc i hi ha => ?_) (fun k acc ha => ?_) l.length k l 0 (by omega) hk rfl (fun j hj => by omega)
 ·rw [show a + 4 * ((0 : Nat) : Int) = a by omega] at h
  exact h
 ·simp only [laws_markBoxS.l0]
  generalize hx : a + 4 * (i : Int) = x
  rw [if_pos (by omega), if_pos (by omega)]
  simp only [Option.bind_some, Int.toNat_natCast]
  rw [wid (x + 1) (by omega) (by omega), wid (x + 1 + 1) (by omega) (by omega), wid (x + 1 + 1 + 1) (by omega) (by omega), wid (x + 1 + 1 + 1 + 1) (by omega) (by omega), wsucc i (by omega)]
  have s1 : i < acc.length := by omega
  simp only [rd_set s1, List.set_set]
  rw [show x + 1 + 1 + 1 + 1 = a + 4 * ((i + 1 : Nat) : Int) by omega, show x + 1 + 1 + 1 = x + 3 by omega, show x + 1 + 1 = x + 2 by omega]
  rfl
 ·simp only [laws_markBoxS.l0]
  rw [if_neg (by omega)])
theorem heldBoxS_ev (n : Nat) (hn : n ≤ 1048576) (a : Int) (h0 : 0 ≤ a) (h1 : a ≤ 100000000) : Ev (fun k => laws_heldBoxS.f k (mkB a n) a) (a + 4 * n) := Ev.mk n (fun k hk => by
 unfold laws_heldBoxS.f
 have hl := mkB_len a n
 have h := held_loop (L := fun k x i => laws_heldBoxS.l0 k (mkB a n) x i) (n := n) (X := fun j => a + 4 * (j : Int)) (fun k i hi => ?_) (fun k => ?_) n k 0 (by omega) hk
 ·rw [show a + 4 * ((0 : Nat) : Int) = a by omega] at h
  exact h
 ·simp only [laws_heldBoxS.l0]
  have e : rd_T98 (mkB a n) (i : Int) = mkBox (a + 4 * (i : Int)) := getD_range n _ _ i hi
  generalize hx : a + 4 * (i : Int) = x at e ⊢
  rw [if_pos (by omega), if_pos (by omega), e]
  rw [wid (x + 1) (by omega) (by omega), wid (x + 1 + 1) (by omega) (by omega), wid (x + 1 + 1 + 1) (by omega) (by omega), wid (x + 1 + 1 + 1 + 1) (by omega) (by omega), wsucc i (by omega)]
  rw [show x + 1 + 1 + 1 + 1 = a + 4 * ((i + 1 : Nat) : Int) by omega, show x + 1 + 1 + 1 = x + 3 by omega, show x + 1 + 1 = x + 2 by omega]
  simp only [mkBox, if_true, bne_self_eq_false, Bool.false_eq_true, if_false]
 ·simp only [laws_heldBoxS.l0]
  rw [if_neg (by omega)])
end Go.Proofs.Ytbpjidekjogfeaa.A

namespace Go.Proofs.Ytbpjidekjogfeaa.A
open Go.RowKit Go.Proofs.YtbpjidekjogfeaaW.PrintWords Go.Proofs.YtbpjidekjogfeaaW.PrintLast Go.Proofs.YtbpjidekjogfeaaW.PrintMore
set_option linter.unusedVariables false
set_option linter.unusedSimpArgs false
theorem clone_ev (l : List Int) (hl : l.length ≤ 4398046511103) : Ev (fun _ => slices_Clone_int_int.f l) l := Ev.const (by
 unfold slices_Clone_int_int.f
 simp only [Option.bind_some, List.length_nil, List.nil_append, Nat.zero_add]
 rw [if_pos (by omega)])
theorem cloneB_ev (l : List S98) (hl : l.length ≤ 4398046511103) : Ev (fun _ => impl_Box_117.f l) l := Ev.const (by
 unfold impl_Box_117.f
 simp only [Option.bind_some, List.length_nil, List.nil_append, Nat.zero_add]
 rw [if_pos (by omega)])
theorem copy_ev (h : Int) (fx : List Int) (bx : List S98) (hf : fx.length ≤ 4398046511103) (hb : bx.length ≤ 4398046511103) : Ev (fun _ => impl_copyColumn.f h fx bx) (h, fx, bx) := by
 unfold impl_copyColumn.f
 exact Ev.bind (clone_ev fx hf) (Ev.bind (cloneB_ev bx hb) (Ev.ret _))
theorem copyS_ev (h : Int) (fx : List Int) (bx : List S98) (hf : fx.length ≤ 4398046511103) (hb : bx.length ≤ 4398046511103) : Ev (fun _ => spec_l02Copy.f h fx bx) (h, fx, bx) := Ev.const (by
 unfold spec_l02Copy.f
 simp only [Option.bind_some, List.length_nil, List.nil_append, Nat.zero_add]
 rw [if_pos (by omega), if_pos (by omega)])
theorem idxP_add : ∀ (l : List S98) (p i : Int), 0 ≤ i → (idxP l p i = -1 ∧ ∀ b ∈ l, b.f2 ≠ p) ∨ ∃ l1 b l2, l = l1 ++ b :: l2 ∧ b.f2 = p ∧ (∀ x ∈ l1, x.f2 ≠ p) ∧ idxP l p i = i + l1.length
 | [], p, i, _ => Or.inl ⟨rfl, by simp⟩
 | b :: l, p, i, hi => by
  simp only [idxP]
  by_cases c : b.f2 = p
  ·rw [if_pos c]
   exact Or.inr ⟨[], b, l, rfl, c, by simp, by simp⟩
  ·rw [if_neg c]
   rcases idxP_add l p (i + 1) (by omega) with ⟨h1, h2⟩ | ⟨l1, x, l2, h1, h2, h3, h4⟩
   ·exact Or.inl ⟨h1, fun y hy => by
     rcases List.mem_cons.mp hy with rfl | hy
     ·exact c
     ·exact h2 y hy⟩
   ·refine Or.inr ⟨b :: l1, x, l2, by rw [h1]; rfl, h2, fun y hy => ?_, by rw [h4, List.length_cons]; omega⟩
    rcases List.mem_cons.mp hy with rfl | hy
    ·exact c
    ·exact h3 y hy
theorem idxP_cases (l : List S98) (p : Int) : (idxP l p 0 = -1 ∧ ∀ b ∈ l, b.f2 ≠ p) ∨ ∃ l1 b l2, l = l1 ++ b :: l2 ∧ b.f2 = p ∧ (∀ x ∈ l1, x.f2 ≠ p) ∧ idxP l p 0 = l1.length := by
 rcases idxP_add l p 0 (Int.le_refl _) with h | ⟨l1, b, l2, h1, h2, h3, h4⟩
 ·exact Or.inl h
 ·exact Or.inr ⟨l1, b, l2, h1, h2, h3, by rw [h4]; omega⟩
def boxI (l : List S98) (p : Int) : Int := if 0 < p then idxP l p 0 else -1
theorem box_loop (h : Int) (fx : List Int) (bx : List S98) (hl : bx.length ≤ 1048576) (p : Int) : ∀ (rest : List S98) (i : Nat), bx.drop i = rest → i ≤ bx.length → Ev (fun k => spec_l02Box.l0 k p (i : Int) h fx bx) (if 0 < p then idxP rest p (i : Int) else -1)
 | [], i, hd, hi => by
  have he := drop_end hd hi
  refine Ev.succ ?_
  simp only [spec_l02Box.l0]
  refine Ev.neg (by omega) ?_
  refine Ev.to (Ev.ret _) ?_
  simp [idxP]
 | b :: rest, i, hd, hi => by
  obtain ⟨h1, h2, h3⟩ := drop_step z98 hd
  have er : rd_T98 bx (i : Int) = b := h2
  have ih := box_loop h fx bx hl p rest (i + 1) h3 (by omega)
  refine Ev.succ ?_
  simp only [spec_l02Box.l0, er]
  refine Ev.pos (by omega) ?_
  refine Ev.pos (by omega) ?_
  rw [wsucc i (by omega)]
  by_cases c : b.f2 = p
  ·refine Ev.pos c ?_
   by_cases d : p > 0
   ·refine Ev.pos d (Ev.to (Ev.ret _) ?_)
    rw [if_pos d]
    simp only [idxP]
    rw [if_pos c]
   ·refine Ev.neg d (Ev.to ih ?_)
    rw [if_neg d, if_neg d]
  ·refine Ev.neg c (Ev.to ih ?_)
   simp only [idxP]
   rw [if_neg c]
   rfl
theorem box_ev (h : Int) (fx : List Int) (bx : List S98) (hl : bx.length ≤ 1048576) (p : Int) : Ev (fun k => spec_l02Box.f k h fx bx p) (boxI bx p) := by
 unfold spec_l02Box.f
 exact box_loop h fx bx hl p bx 0 rfl (by omega)
def takeP (h : Int) (fx : List Int) (bx : List S98) (p : Int) : List S98 × Bool :=
 if colP h fx bx = true ∧ 0 < p ∧ 0 ≤ idxP bx p 0 ∧ (rd_T98 bx (idxP bx p 0)).f3 = false then (bx.set (idxP bx p 0).toNat ⟨(rd_T98 bx (idxP bx p 0)).f0, (rd_T98 bx (idxP bx p 0)).f1, 0, (rd_T98 bx (idxP bx p 0)).f3⟩, true) else (bx, false)
theorem idxP_lt (l : List S98) (p : Int) : idxP l p 0 < l.length := by
 rcases idxP_cases l p with ⟨h, _⟩ | ⟨l1, b, l2, h1, _, _, h4⟩
 ·rw [h]; omega
 ·rw [h4, h1]; simp; omega
theorem takeP_no {h : Int} {fx : List Int} {bx : List S98} {p : Int} (c : ¬ (colP h fx bx = true ∧ 0 < p ∧ 0 ≤ idxP bx p 0 ∧ (rd_T98 bx (idxP bx p 0)).f3 = false)) : takeP h fx bx p = (bx, false) := by
 unfold takeP; rw [if_neg c]
theorem takeP_yes {h : Int} {fx : List Int} {bx : List S98} {p : Int} (c : colP h fx bx = true ∧ 0 < p ∧ 0 ≤ idxP bx p 0 ∧ (rd_T98 bx (idxP bx p 0)).f3 = false) : takeP h fx bx p = (bx.set (idxP bx p 0).toNat ⟨(rd_T98 bx (idxP bx p 0)).f0, (rd_T98 bx (idxP bx p 0)).f1, 0, (rd_T98 bx (idxP bx p 0)).f3⟩, true) := by
 unfold takeP; rw [if_pos c]
theorem take_ev (h : Int) (fx : List Int) (bx : List S98) (hf : fx.length ≤ 1048576) (hb : bx.length ≤ 1048576) (p : Int) : Ev (fun _ => impl_TakeOut.f h fx bx p) (h, fx, takeP h fx bx p) := by
 unfold impl_TakeOut.f
 refine Ev.bind (copy_ev h fx bx (by omega) (by omega)) ?_
 refine Ev.bind (Ev.const rfl) ?_
 refine Ev.bind (Ev.const rfl) ?_
 dsimp only
 have hi := idxP_lt bx p
 by_cases c1 : colP h fx bx = true
 ·refine Ev.pos c1 ?_
  by_cases c2 : p < 1
  ·rw [takeP_no (by omega)]
   exact Ev.pos c2 (Ev.ret _)
  ·refine Ev.neg c2 ?_
   by_cases c3 : idxP bx p 0 < 0
   ·rw [takeP_no (by omega)]
    exact Ev.pos c3 (Ev.ret _)
   ·refine Ev.neg c3 (Ev.pos (by omega) (Ev.pos hi ?_))
    cases c4 : (rd_T98 bx (idxP bx p 0)).f3 with
    | true =>
     rw [takeP_no (fun e => by rw [c4] at e; simp at e)]
     exact Ev.pos rfl (Ev.ret _)
    | false =>
     rw [takeP_yes ⟨c1, by omega, by omega, c4⟩, c4]
     exact Ev.neg (by simp) (Ev.pos hi (Ev.ret _))
 ·rw [takeP_no (fun e => c1 e.1)]
  exact Ev.neg c1 (Ev.ret _)
theorem takeS_ev (h : Int) (fx : List Int) (bx : List S98) (hf : fx.length ≤ 1048576) (hb : bx.length ≤ 1048576) (p : Int) : Ev (fun k => spec_TakeOut.f k h fx bx p) (h, fx, takeP h fx bx p) := by
 unfold spec_TakeOut.f
 refine Ev.bind (copyS_ev h fx bx (by omega) (by omega)) ?_
 refine Ev.bind (box_ev h fx bx hb p) ?_
 refine Ev.bind (colok_ev h fx (by omega) bx (by omega)) ?_
 dsimp only
 have hi := idxP_lt bx p
 by_cases c1 : colP h fx bx = true
 ·refine Ev.pos c1 ?_
  by_cases c2 : p < 1
  ·rw [takeP_no (by omega)]
   have e : boxI bx p = -1 := by unfold boxI; rw [if_neg (by omega)]
   rw [e]
   exact Ev.pos (by omega) (Ev.ret _)
  ·have e : boxI bx p = idxP bx p 0 := by unfold boxI; rw [if_pos (by omega)]
   rw [e]
   by_cases c3 : idxP bx p 0 < 0
   ·rw [takeP_no (by omega)]
    exact Ev.pos c3 (Ev.ret _)
   ·refine Ev.neg c3 (Ev.pos (by omega) (Ev.pos hi ?_))
    cases c4 : (rd_T98 bx (idxP bx p 0)).f3 with
    | true =>
     rw [takeP_no (fun e => by rw [c4] at e; simp at e)]
     exact Ev.pos rfl (Ev.ret _)
    | false =>
     rw [takeP_yes ⟨c1, by omega, by omega, c4⟩, c4]
     exact Ev.neg (by simp) (Ev.pos hi (Ev.ret _))
 ·rw [takeP_no (fun e => c1 e.1)]
  exact Ev.neg c1 (Ev.ret _)
theorem takeP_len (h : Int) (fx : List Int) (bx : List S98) (p : Int) : (takeP h fx bx p).1.length = bx.length := by
 unfold takeP; split
 ·simp
 ·rfl
end Go.Proofs.Ytbpjidekjogfeaa.A
