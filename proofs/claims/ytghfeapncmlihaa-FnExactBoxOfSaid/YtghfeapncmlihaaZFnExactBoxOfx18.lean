/- What the proof of the law FnExactBoxOf uses: lemmas, the Lean functions of the Go functions that it reaches, their contracts, and the pure statement's proof. -/
import Derived.Test.YtghfeapncmlihaaZFnExactBoxOfx11
import Derived.Test.YtghfeapncmlihaaZFnExactBoxOfx17
import Derived.Test.YtghfeapncmlihaaZFnExactBoxOfx13
import Derived.ProofKit
import Derived.OpenShut
import Derived.ShutString
import Derived.ChangeOld
import Derived.SizedLaws
import Derived.ChangeArms
namespace Go.Proofs.Ytghfeapncmlihaa.A
open Go.RowKit Go.Proofs.YtghfeapncmlihaaW.PrintWords Go.Proofs.YtghfeapncmlihaaW.PrintLast Go.Proofs.YtghfeapncmlihaaW.PrintMore
attribute [local go_sem] max2_int min2_int max_two min_two max_three min_three max_four min_four   
set_option linter.unusedVariables false
set_option linter.unusedSimpArgs false
mutual
def spec_BoxOf.l0 : Nat → List (S30) → Int → Int → Option (Int × Int)
  | 0, _, _, _ => none
  | k + 1, x0, x1, x6 => if x6 < (x0.length : Int) then ((spec_BankOk.f k x0).bind fun t330 => (spec_BoxOf.j1 k x0 x1 x6 t330)) else (spec_BoxOf.j1 k x0 x1 x6 false)
def spec_BoxOf.j1 : Nat → List (S30) → Int → Int → Bool → Option (Int × Int)
  | 0, _, _, _, _ => none
  | k + 1, x0, x1, x6, x15 => if x15 = true then (if 0 ≤ x6 then (if x6 < (x0.length : Int) then ((spec_l02Box.f k ((rd_T30 x0 x6).f0) ((rd_T30 x0 x6).f1) ((rd_T30 x0 x6).f2) x1).bind fun t332 => (if t332 ≥ 0 then (if 0 ≤ t332 then (if t332 < (((rd_T30 x0 x6).f2).length : Int) then (some (x6, (rd_T71 ((rd_T30 x0 x6).f2) t332).f0)) else (none)) else (none)) else (spec_BoxOf.l0 k x0 x1 (wrap64 (x6 + 1))))) else (none)) else (none)) else (some ((-1), (-1)))
end
def spec_BoxOf.f (k : Nat) (l0 : List (S30)) (a1 : Int) : Option (Int × Int) := spec_BoxOf.l0 k l0 a1 0
set_option maxHeartbeats 8000000 in
set_option maxRecDepth 100000 in
theorem spec_BoxOf.calls (k : Nat) (A0 : Option Addr) (c0 : Nat) (l0 : List (S30)) (a1 : Int) (r1 : Int) (r2 : Int) (w : World) (hr0 : Kd.C k30 w A0 l0.length l0) (hc0 : l0.length ≤ c0) (h : spec_BoxOf.f k l0 a1 = some (r1, r2)) :
    Calls Try.prog 32 #[.slice A0 l0.length c0, .int .i64 a1] w fun e w' => e = .returned (.tuple #[.int .i64 r1, .int .i64 r2]) ∧ Below w.heap.size w w' := by
  have hu30 := Try.underlying30
  have HR0 := Aside0.mk hr0
  have HC0 := Aside0.mk hc0
  clear hr0 hc0
  have HB := Aside0.mk (Below.refl w.heap.size w)
  have H : (spec_BoxOf.l0 k l0 a1 0) = some (r1, r2) := h
  clear h
  have H' := Aside0.mk H
  clear H
  go_enter Try.func32, Try.ntmps32
  go_wp2
  repeat (go_quiet (fail); try go_wp2)
  go_loopg [6] k (fun kq v6 w' => ∃ (x6_1 : Int), v6 = .int .i64 x6_1 ∧ Aside0 (spec_BoxOf.l0 kq l0 a1 x6_1 = some (r1, r2)) ∧ Aside0 (kq ≤ k) ∧ Aside0 (Below w.heap.size w w'))
  case atStart => exact ⟨(0), (by first | rfl | (simp; done) | (simp [*]; done)), H', ⟨Nat.le_refl _⟩, ⟨by repeat (first | (with_reducible first | exact HB.out | apply below_alloc | apply pw_below_drewN | apply below_drew1) | exact HB.out)⟩⟩
  case round =>
    clear H'
    try clear p2
    obtain ⟨x6_1, rfl, HA, HK1, HB⟩ := hrel
    cases gk with
    | zero => exact absurd HA.out (by simp [spec_BoxOf.l0])
    | succ k1 =>
      have H := HA.out
      clear HA
      simp only [spec_BoxOf.l0] at H
      have HC3 := Aside0.mk H
      clear H
      go_upto_region 2 with (fail)
      repeat (go_quiet (fail); go_upto_region 2 with (fail))
      go_cut [15] (fun v15 wc => ∃ (kq : Nat) (x15_2 : Bool), v15 = .bool x15_2 ∧ Aside0 (spec_BoxOf.j1 kq l0 a1 x6_1 x15_2 = some (r1, r2)) ∧ Aside0 (kq ≤ k1) ∧ Aside0 (Below w.heap.size w wc))
      case first =>
        have H := HC3.out
        clear HC3
        by_cases c4 : x6_1 < (l0.length : Int)
        · rw [if_pos c4] at H
          have c4b0 : decide (x6_1 < (l0.length : Int)) = true := decide_eq_true c4
          clear c4
          (first | rw [c4b0] | (simp only [i64_w, i32_w]; rw [c4b0]) | skip)
          replace H := Option.bind_eq_some_iff.mp H
          obtain ⟨t330, A50, H⟩ := H
          replace H : (spec_BoxOf.j1 k1 l0 a1 x6_1 t330) = some (r1, r2) := H
          have A5 := Aside0.mk A50
          clear A50
          have H' := Aside0.mk H
          clear H
          go_wp2_with (first | (go_at_call 28; (with_reducible refine (spec_BankOk.calls k1 _ _ l0 t330 _ ?side1 ?side2 A5.out).mono ?_); (case side1 => repeat (first | exact (Kd.C_below HR0.out HB.out) | (with_reducible refine Kd.C_alloc ?_ _) | (with_reducible refine Kd.C_drewN ?_ _) | (with_reducible refine Kd.C_drew ?_))); (case side2 => exact HC0.out); rintro e w6 ⟨rfl, hb⟩; have n0_ := Aside0.mk (below_step (by repeat (first | (with_reducible first | exact HB.out | apply below_alloc | apply pw_below_drewN | apply below_drew1) | exact HB.out)) hb); clear HB; have HB := n0_; clear n0_; (try clear hb); (try clear hb2); (try clear hk); (try clear hi)))
          repeat (go_quiet (first | (go_at_call 28; (with_reducible refine (spec_BankOk.calls k1 _ _ l0 t330 _ ?side1 ?side2 A5.out).mono ?_); (case side1 => repeat (first | exact (Kd.C_below HR0.out HB.out) | (with_reducible refine Kd.C_alloc ?_ _) | (with_reducible refine Kd.C_drewN ?_ _) | (with_reducible refine Kd.C_drew ?_))); (case side2 => exact HC0.out); rintro e w6 ⟨rfl, hb⟩; have n0_ := Aside0.mk (below_step (by repeat (first | (with_reducible first | exact HB.out | apply below_alloc | apply pw_below_drewN | apply below_drew1) | exact HB.out)) hb); clear HB; have HB := n0_; clear n0_; (try clear hb); (try clear hb2); (try clear hk); (try clear hi))); try go_wp2_with (first | (go_at_call 28; (with_reducible refine (spec_BankOk.calls k1 _ _ l0 t330 _ ?side1 ?side2 A5.out).mono ?_); (case side1 => repeat (first | exact (Kd.C_below HR0.out HB.out) | (with_reducible refine Kd.C_alloc ?_ _) | (with_reducible refine Kd.C_drewN ?_ _) | (with_reducible refine Kd.C_drew ?_))); (case side2 => exact HC0.out); rintro e w6 ⟨rfl, hb⟩; have n0_ := Aside0.mk (below_step (by repeat (first | (with_reducible first | exact HB.out | apply below_alloc | apply pw_below_drewN | apply below_drew1) | exact HB.out)) hb); clear HB; have HB := n0_; clear n0_; (try clear hb); (try clear hb2); (try clear hk); (try clear hi))))
          go_meet
          case rel => exact ⟨_, (t330), (by first | rfl | (simp; done) | (simp [*]; done)), H', ⟨by have := HK1.out; first | omega | exact Nat.le_refl _⟩, ⟨by repeat (first | (with_reducible first | exact HB.out | apply below_alloc | apply pw_below_drewN | apply below_drew1) | exact HB.out)⟩⟩
        · rw [if_neg c4] at H
          have c4b0 : decide (x6_1 < (l0.length : Int)) = false := decide_eq_false c4
          clear c4
          (first | rw [c4b0] | (simp only [i64_w, i32_w]; rw [c4b0]) | skip)
          have H' := Aside0.mk H
          clear H
          go_wp2
          repeat (go_quiet (fail); try go_wp2)
          go_meet
          case rel => exact ⟨_, (false), (by first | rfl | (simp; done) | (simp [*]; done)), H', ⟨by have := HK1.out; first | omega | exact Nat.le_refl _⟩, ⟨by repeat (first | (with_reducible first | exact HB.out | apply below_alloc | apply pw_below_drewN | apply below_drew1) | exact HB.out)⟩⟩
      case rest =>
        clear HC3
        try clear p2
        try clear c3
        try clear c4
        try clear c4b0
        try clear p2
        obtain ⟨kq, x15_2, rfl, HA, HJ2, HB⟩ := hcut
        cases kq with
        | zero => exact absurd HA.out (by simp [spec_BoxOf.j1])
        | succ kj2 =>
          have H := HA.out
          clear HA
          simp only [spec_BoxOf.j1] at H
          by_cases c7 : x15_2 = true
          · subst c7
            have H1 : (if 0 ≤ x6_1 then (if x6_1 < (l0.length : Int) then ((spec_l02Box.f kj2 ((rd_T30 l0 x6_1).f0) ((rd_T30 l0 x6_1).f1) ((rd_T30 l0 x6_1).f2) a1).bind fun t332 => (if t332 ≥ 0 then (if 0 ≤ t332 then (if t332 < (((rd_T30 l0 x6_1).f2).length : Int) then (some (x6_1, (rd_T71 ((rd_T30 l0 x6_1).f2) t332).f0)) else (none)) else (none)) else (spec_BoxOf.l0 kj2 l0 a1 (wrap64 (x6_1 + 1))))) else (none)) else (none)) = some (r1, r2) := by rw [if_pos rfl] at H; exact H
            clear H
            have H := H1
            clear H1
            by_cases c8 : 0 ≤ x6_1
            · rw [if_pos c8] at H
              have c8b0 : decide (0 ≤ x6_1) = true := decide_eq_true c8
              clear c8
              by_cases c9 : x6_1 < (l0.length : Int)
              · rw [if_pos c9] at H
                have c9b0 : decide (x6_1 < (l0.length : Int)) = true := decide_eq_true c9
                clear c9
                replace H := Option.bind_eq_some_iff.mp H
                obtain ⟨t332, A100, H⟩ := H
                replace H : (if t332 ≥ 0 then (if 0 ≤ t332 then (if t332 < (((rd_T30 l0 x6_1).f2).length : Int) then (some (x6_1, (rd_T71 ((rd_T30 l0 x6_1).f2) t332).f0)) else (none)) else (none)) else (spec_BoxOf.l0 kj2 l0 a1 (wrap64 (x6_1 + 1)))) = some (r1, r2) := H
                have A10 := Aside0.mk A100
                clear A100
                by_cases c11 : t332 ≥ 0
                · rw [if_pos c11] at H
                  have c11b0 : decide (0 ≤ t332) = true := decide_eq_true c11
                  clear c11
                  by_cases c12 : 0 ≤ t332
                  · rw [if_pos c12] at H
                    have c12b0 : decide (0 ≤ t332) = true := decide_eq_true c12
                    clear c12
                    by_cases c13 : t332 < (((rd_T30 l0 x6_1).f2).length : Int)
                    · rw [if_pos c13] at H
                      have c13b0 : decide (t332 < (((rd_T30 l0 x6_1).f2).length : Int)) = true := decide_eq_true c13
                      clear c13
                      simp only [Option.some.injEq, Prod.mk.injEq] at H
                      obtain ⟨rfl, rfl⟩ := H
                      have p331 : 0 ≤ (x6_1 : Int) := of_decide_eq_true (by first | (with_reducible assumption) | assumption)
                      have q331 : x6_1 < (l0.length : Int) := of_decide_eq_true (by first | (with_reducible assumption) | assumption)
                      obtain ⟨ad331, A331_1, c331_1, A331_2, c331_2, e331, hx331_0, hx331_1, hx331_2, hl331_1, hi331_1, hl331_2, hi331_2⟩ := at_T30 HR0.out x6_1 p331 q331
                      cases e331
                      replace hx331_0 := (HB.out.cell (World.block_lt_of_cell? w _ hx331_0)).trans hx331_0
                      replace hx331_1 := (HB.out.cell (World.block_lt_of_cell? w _ hx331_1)).trans hx331_1
                      replace hx331_2 := (HB.out.cell (World.block_lt_of_cell? w _ hx331_2)).trans hx331_2
                      have HR331_1 := Aside0.mk hi331_1
                      have HC331_1 := Aside0.mk hl331_1
                      clear hi331_1 hl331_1
                      have HR331_2 := Aside0.mk hi331_2
                      have HC331_2 := Aside0.mk hl331_2
                      clear hi331_2 hl331_2
                      replace p331 := eq_true p331
                      replace q331 := eq_true q331
                      go_wp2_with (first | (go_at_call 68; (with_reducible refine (spec_l02Box.calls kj2 ((rd_T30 l0 x6_1).f0) _ _ ((rd_T30 l0 x6_1).f1) _ _ ((rd_T30 l0 x6_1).f2) a1 t332 _ ?side1 ?side2 ?side3 ?side4 A10.out).mono ?_); (case side1 => repeat (first | exact (Kd.C_below HR331_1.out HB.out) | (with_reducible refine Kd.C_alloc ?_ _) | (with_reducible refine Kd.C_drewN ?_ _) | (with_reducible refine Kd.C_drew ?_))); (case side2 => exact HC331_1.out); (case side3 => repeat (first | exact (Kd.C_below HR331_2.out HB.out) | (with_reducible refine Kd.C_alloc ?_ _) | (with_reducible refine Kd.C_drewN ?_ _) | (with_reducible refine Kd.C_drew ?_))); (case side4 => exact HC331_2.out); rintro e w14 ⟨rfl, hb⟩; have n0_ := Aside0.mk (below_step (by repeat (first | (with_reducible first | exact HB.out | apply below_alloc | apply pw_below_drewN | apply below_drew1) | exact HB.out)) hb); clear HB; have HB := n0_; clear n0_; (try clear hb); (try clear hb2); (try clear hk); (try clear hi); have p333 : 0 ≤ (x6_1 : Int) := of_decide_eq_true (by first | (with_reducible assumption) | assumption); have q333 : x6_1 < (l0.length : Int) := of_decide_eq_true (by first | (with_reducible assumption) | assumption); obtain ⟨ad333, A333_1, c333_1, A333_2, c333_2, e333, hx333_0, hx333_1, hx333_2, hl333_1, hi333_1, hl333_2, hi333_2⟩ := at_T30 HR0.out x6_1 p333 q333; obtain rfl : ad331 = ad333 := (by injection e333); replace hx333_0 := (HB.out.cell (World.block_lt_of_cell? w _ hx333_0)).trans hx333_0; replace hx333_1 := (HB.out.cell (World.block_lt_of_cell? w _ hx333_1)).trans hx333_1; replace hx333_2 := (HB.out.cell (World.block_lt_of_cell? w _ hx333_2)).trans hx333_2; have HR333_1 := Aside0.mk hi333_1; have HC333_1 := Aside0.mk hl333_1; clear hi333_1 hl333_1; have HR333_2 := Aside0.mk hi333_2; have HC333_2 := Aside0.mk hl333_2; clear hi333_2 hl333_2; replace p333 := eq_true p333; replace q333 := eq_true q333; have p334 : 0 ≤ (t332 : Int) := of_decide_eq_true (by first | (with_reducible assumption) | assumption); have q334 : t332 < (((rd_T30 l0 x6_1).f2).length : Int) := of_decide_eq_true (by first | (with_reducible assumption) | assumption); obtain ⟨ad334, e334, hx334_0, hx334_1, hx334_2, hx334_3⟩ := at_T71 HR333_2.out t332 p334 q334; cases e334; replace hx334_0 := (HB.out.cell (World.block_lt_of_cell? w _ hx334_0)).trans hx334_0; replace hx334_1 := (HB.out.cell (World.block_lt_of_cell? w _ hx334_1)).trans hx334_1; replace hx334_2 := (HB.out.cell (World.block_lt_of_cell? w _ hx334_2)).trans hx334_2; replace hx334_3 := (HB.out.cell (World.block_lt_of_cell? w _ hx334_3)).trans hx334_3; replace p334 := eq_true p334; replace q334 := eq_true q334))
                      repeat (go_quiet (first | (go_at_call 68; (with_reducible refine (spec_l02Box.calls kj2 ((rd_T30 l0 x6_1).f0) _ _ ((rd_T30 l0 x6_1).f1) _ _ ((rd_T30 l0 x6_1).f2) a1 t332 _ ?side1 ?side2 ?side3 ?side4 A10.out).mono ?_); (case side1 => repeat (first | exact (Kd.C_below HR331_1.out HB.out) | (with_reducible refine Kd.C_alloc ?_ _) | (with_reducible refine Kd.C_drewN ?_ _) | (with_reducible refine Kd.C_drew ?_))); (case side2 => exact HC331_1.out); (case side3 => repeat (first | exact (Kd.C_below HR331_2.out HB.out) | (with_reducible refine Kd.C_alloc ?_ _) | (with_reducible refine Kd.C_drewN ?_ _) | (with_reducible refine Kd.C_drew ?_))); (case side4 => exact HC331_2.out); rintro e w14 ⟨rfl, hb⟩; have n0_ := Aside0.mk (below_step (by repeat (first | (with_reducible first | exact HB.out | apply below_alloc | apply pw_below_drewN | apply below_drew1) | exact HB.out)) hb); clear HB; have HB := n0_; clear n0_; (try clear hb); (try clear hb2); (try clear hk); (try clear hi); have p333 : 0 ≤ (x6_1 : Int) := of_decide_eq_true (by first | (with_reducible assumption) | assumption); have q333 : x6_1 < (l0.length : Int) := of_decide_eq_true (by first | (with_reducible assumption) | assumption); obtain ⟨ad333, A333_1, c333_1, A333_2, c333_2, e333, hx333_0, hx333_1, hx333_2, hl333_1, hi333_1, hl333_2, hi333_2⟩ := at_T30 HR0.out x6_1 p333 q333; obtain rfl : ad331 = ad333 := (by injection e333); replace hx333_0 := (HB.out.cell (World.block_lt_of_cell? w _ hx333_0)).trans hx333_0; replace hx333_1 := (HB.out.cell (World.block_lt_of_cell? w _ hx333_1)).trans hx333_1; replace hx333_2 := (HB.out.cell (World.block_lt_of_cell? w _ hx333_2)).trans hx333_2; have HR333_1 := Aside0.mk hi333_1; have HC333_1 := Aside0.mk hl333_1; clear hi333_1 hl333_1; have HR333_2 := Aside0.mk hi333_2; have HC333_2 := Aside0.mk hl333_2; clear hi333_2 hl333_2; replace p333 := eq_true p333; replace q333 := eq_true q333; have p334 : 0 ≤ (t332 : Int) := of_decide_eq_true (by first | (with_reducible assumption) | assumption); have q334 : t332 < (((rd_T30 l0 x6_1).f2).length : Int) := of_decide_eq_true (by first | (with_reducible assumption) | assumption); obtain ⟨ad334, e334, hx334_0, hx334_1, hx334_2, hx334_3⟩ := at_T71 HR333_2.out t332 p334 q334; cases e334; replace hx334_0 := (HB.out.cell (World.block_lt_of_cell? w _ hx334_0)).trans hx334_0; replace hx334_1 := (HB.out.cell (World.block_lt_of_cell? w _ hx334_1)).trans hx334_1; replace hx334_2 := (HB.out.cell (World.block_lt_of_cell? w _ hx334_2)).trans hx334_2; replace hx334_3 := (HB.out.cell (World.block_lt_of_cell? w _ hx334_3)).trans hx334_3; replace p334 := eq_true p334; replace q334 := eq_true q334)); try go_wp2_with (first | (go_at_call 68; (with_reducible refine (spec_l02Box.calls kj2 ((rd_T30 l0 x6_1).f0) _ _ ((rd_T30 l0 x6_1).f1) _ _ ((rd_T30 l0 x6_1).f2) a1 t332 _ ?side1 ?side2 ?side3 ?side4 A10.out).mono ?_); (case side1 => repeat (first | exact (Kd.C_below HR331_1.out HB.out) | (with_reducible refine Kd.C_alloc ?_ _) | (with_reducible refine Kd.C_drewN ?_ _) | (with_reducible refine Kd.C_drew ?_))); (case side2 => exact HC331_1.out); (case side3 => repeat (first | exact (Kd.C_below HR331_2.out HB.out) | (with_reducible refine Kd.C_alloc ?_ _) | (with_reducible refine Kd.C_drewN ?_ _) | (with_reducible refine Kd.C_drew ?_))); (case side4 => exact HC331_2.out); rintro e w14 ⟨rfl, hb⟩; have n0_ := Aside0.mk (below_step (by repeat (first | (with_reducible first | exact HB.out | apply below_alloc | apply pw_below_drewN | apply below_drew1) | exact HB.out)) hb); clear HB; have HB := n0_; clear n0_; (try clear hb); (try clear hb2); (try clear hk); (try clear hi); have p333 : 0 ≤ (x6_1 : Int) := of_decide_eq_true (by first | (with_reducible assumption) | assumption); have q333 : x6_1 < (l0.length : Int) := of_decide_eq_true (by first | (with_reducible assumption) | assumption); obtain ⟨ad333, A333_1, c333_1, A333_2, c333_2, e333, hx333_0, hx333_1, hx333_2, hl333_1, hi333_1, hl333_2, hi333_2⟩ := at_T30 HR0.out x6_1 p333 q333; obtain rfl : ad331 = ad333 := (by injection e333); replace hx333_0 := (HB.out.cell (World.block_lt_of_cell? w _ hx333_0)).trans hx333_0; replace hx333_1 := (HB.out.cell (World.block_lt_of_cell? w _ hx333_1)).trans hx333_1; replace hx333_2 := (HB.out.cell (World.block_lt_of_cell? w _ hx333_2)).trans hx333_2; have HR333_1 := Aside0.mk hi333_1; have HC333_1 := Aside0.mk hl333_1; clear hi333_1 hl333_1; have HR333_2 := Aside0.mk hi333_2; have HC333_2 := Aside0.mk hl333_2; clear hi333_2 hl333_2; replace p333 := eq_true p333; replace q333 := eq_true q333; have p334 : 0 ≤ (t332 : Int) := of_decide_eq_true (by first | (with_reducible assumption) | assumption); have q334 : t332 < (((rd_T30 l0 x6_1).f2).length : Int) := of_decide_eq_true (by first | (with_reducible assumption) | assumption); obtain ⟨ad334, e334, hx334_0, hx334_1, hx334_2, hx334_3⟩ := at_T71 HR333_2.out t332 p334 q334; cases e334; replace hx334_0 := (HB.out.cell (World.block_lt_of_cell? w _ hx334_0)).trans hx334_0; replace hx334_1 := (HB.out.cell (World.block_lt_of_cell? w _ hx334_1)).trans hx334_1; replace hx334_2 := (HB.out.cell (World.block_lt_of_cell? w _ hx334_2)).trans hx334_2; replace hx334_3 := (HB.out.cell (World.block_lt_of_cell? w _ hx334_3)).trans hx334_3; replace p334 := eq_true p334; replace q334 := eq_true q334)))
                      go_ret2
                      exact ⟨by first | rfl | (simp [errW_none, errW_some] <;> rfl) | (simp [*, errW_none, errW_some] <;> rfl), by repeat (first | (with_reducible first | exact HB.out | apply below_alloc | apply pw_below_drewN | apply below_drew1) | exact HB.out)⟩
                    · rw [if_neg c13] at H
                      exact absurd H (by simp)
                  · rw [if_neg c12] at H
                    exact absurd H (by simp)
                · rw [if_neg c11] at H
                  have c11b0 : decide (0 ≤ t332) = false := decide_eq_false c11
                  clear c11
                  have H' := Aside0.mk H
                  clear H
                  have p331 : 0 ≤ (x6_1 : Int) := of_decide_eq_true (by first | (with_reducible assumption) | assumption)
                  have q331 : x6_1 < (l0.length : Int) := of_decide_eq_true (by first | (with_reducible assumption) | assumption)
                  obtain ⟨ad331, A331_1, c331_1, A331_2, c331_2, e331, hx331_0, hx331_1, hx331_2, hl331_1, hi331_1, hl331_2, hi331_2⟩ := at_T30 HR0.out x6_1 p331 q331
                  cases e331
                  replace hx331_0 := (HB.out.cell (World.block_lt_of_cell? w _ hx331_0)).trans hx331_0
                  replace hx331_1 := (HB.out.cell (World.block_lt_of_cell? w _ hx331_1)).trans hx331_1
                  replace hx331_2 := (HB.out.cell (World.block_lt_of_cell? w _ hx331_2)).trans hx331_2
                  have HR331_1 := Aside0.mk hi331_1
                  have HC331_1 := Aside0.mk hl331_1
                  clear hi331_1 hl331_1
                  have HR331_2 := Aside0.mk hi331_2
                  have HC331_2 := Aside0.mk hl331_2
                  clear hi331_2 hl331_2
                  replace p331 := eq_true p331
                  replace q331 := eq_true q331
                  go_wp2_with (first | (go_at_call 68; (with_reducible refine (spec_l02Box.calls kj2 ((rd_T30 l0 x6_1).f0) _ _ ((rd_T30 l0 x6_1).f1) _ _ ((rd_T30 l0 x6_1).f2) a1 t332 _ ?side1 ?side2 ?side3 ?side4 A10.out).mono ?_); (case side1 => repeat (first | exact (Kd.C_below HR331_1.out HB.out) | (with_reducible refine Kd.C_alloc ?_ _) | (with_reducible refine Kd.C_drewN ?_ _) | (with_reducible refine Kd.C_drew ?_))); (case side2 => exact HC331_1.out); (case side3 => repeat (first | exact (Kd.C_below HR331_2.out HB.out) | (with_reducible refine Kd.C_alloc ?_ _) | (with_reducible refine Kd.C_drewN ?_ _) | (with_reducible refine Kd.C_drew ?_))); (case side4 => exact HC331_2.out); rintro e w15 ⟨rfl, hb⟩; have n0_ := Aside0.mk (below_step (by repeat (first | (with_reducible first | exact HB.out | apply below_alloc | apply pw_below_drewN | apply below_drew1) | exact HB.out)) hb); clear HB; have HB := n0_; clear n0_; (try clear hb); (try clear hb2); (try clear hk); (try clear hi)))
                  repeat (go_quiet (first | (go_at_call 68; (with_reducible refine (spec_l02Box.calls kj2 ((rd_T30 l0 x6_1).f0) _ _ ((rd_T30 l0 x6_1).f1) _ _ ((rd_T30 l0 x6_1).f2) a1 t332 _ ?side1 ?side2 ?side3 ?side4 A10.out).mono ?_); (case side1 => repeat (first | exact (Kd.C_below HR331_1.out HB.out) | (with_reducible refine Kd.C_alloc ?_ _) | (with_reducible refine Kd.C_drewN ?_ _) | (with_reducible refine Kd.C_drew ?_))); (case side2 => exact HC331_1.out); (case side3 => repeat (first | exact (Kd.C_below HR331_2.out HB.out) | (with_reducible refine Kd.C_alloc ?_ _) | (with_reducible refine Kd.C_drewN ?_ _) | (with_reducible refine Kd.C_drew ?_))); (case side4 => exact HC331_2.out); rintro e w15 ⟨rfl, hb⟩; have n0_ := Aside0.mk (below_step (by repeat (first | (with_reducible first | exact HB.out | apply below_alloc | apply pw_below_drewN | apply below_drew1) | exact HB.out)) hb); clear HB; have HB := n0_; clear n0_; (try clear hb); (try clear hb2); (try clear hk); (try clear hi))); try go_wp2_with (first | (go_at_call 68; (with_reducible refine (spec_l02Box.calls kj2 ((rd_T30 l0 x6_1).f0) _ _ ((rd_T30 l0 x6_1).f1) _ _ ((rd_T30 l0 x6_1).f2) a1 t332 _ ?side1 ?side2 ?side3 ?side4 A10.out).mono ?_); (case side1 => repeat (first | exact (Kd.C_below HR331_1.out HB.out) | (with_reducible refine Kd.C_alloc ?_ _) | (with_reducible refine Kd.C_drewN ?_ _) | (with_reducible refine Kd.C_drew ?_))); (case side2 => exact HC331_1.out); (case side3 => repeat (first | exact (Kd.C_below HR331_2.out HB.out) | (with_reducible refine Kd.C_alloc ?_ _) | (with_reducible refine Kd.C_drewN ?_ _) | (with_reducible refine Kd.C_drew ?_))); (case side4 => exact HC331_2.out); rintro e w15 ⟨rfl, hb⟩; have n0_ := Aside0.mk (below_step (by repeat (first | (with_reducible first | exact HB.out | apply below_alloc | apply pw_below_drewN | apply below_drew1) | exact HB.out)) hb); clear HB; have HB := n0_; clear n0_; (try clear hb); (try clear hb2); (try clear hk); (try clear hi))))
                  go_roundg kj2
                  case measure => have := HK1.out; have := HJ2.out; omega
                  case rel => exact ⟨(wrap64 (x6_1 + 1)), (by first | rfl | (simp; done) | (simp [*]; done)), H', ⟨by have := HK1.out; have := HJ2.out; omega⟩, ⟨by repeat (first | (with_reducible first | exact HB.out | apply below_alloc | apply pw_below_drewN | apply below_drew1) | exact HB.out)⟩⟩
              · rw [if_neg c9] at H
                exact absurd H (by simp)
            · rw [if_neg c8] at H
              exact absurd H (by simp)
          · replace c7 := Bool.eq_false_iff.mpr c7
            subst c7
            have H1 : (some ((-1), (-1))) = some (r1, r2) := by rw [if_neg (show ¬ (false = true) by decide)] at H; exact H
            clear H
            have H := H1
            clear H1
            simp only [Option.some.injEq, Prod.mk.injEq] at H
            obtain ⟨rfl, rfl⟩ := H
            go_wp2
            repeat (go_quiet (fail); try go_wp2)
            go_ret2
            exact ⟨by first | rfl | (simp [errW_none, errW_some] <;> rfl) | (simp [*, errW_none, errW_some] <;> rfl), by repeat (first | (with_reducible first | exact HB.out | apply below_alloc | apply pw_below_drewN | apply below_drew1) | exact HB.out)⟩
theorem getD_at_ {α : Type} {l : List α} {i : Nat} (d : α) (h : i < l.length) : l.getD i d = l[i] := by
  rw [List.getD_eq_getElem?_getD, List.getElem?_eq_getElem h]; rfl
def idxP : List S71 → Int → Int → Int
  | [], _, _ => -1
  | b :: bs, p, i => if b.f2 = p then i else idxP bs p (i + 1)
set_option maxHeartbeats 8000000 in
set_option maxRecDepth 100000 in
theorem boxAt_is (b0 b1 b2 : Int) (b3 : Bool) (g : Nat) (p : Int) (w : World) (hc : w.cell? ⟨g, 0, none⟩ = some (.int .i64 p)) :
    Calls Try.prog 91 #[.agg #[.int .i64 b0, .int .i64 b1, .int .i64 b2, .bool b3], .pointer (some ⟨g, 0, none⟩)] w fun e w' => e = .returned (.bool (b2 == p)) ∧ Below w.heap.size w w' := by
  have hg : g < w.heap.size := World.block_lt_of_cell? w _ hc
  have hc' := fun o => (World.cell?_alloc_lt w o ⟨g, 0, none⟩ hg).trans hc
  have huB := Try.underlying71
  go_enter Try.func91, Try.ntmps91
  go_wp2
  go_ret
  exact ⟨rfl, by repeat (first | exact Below.refl _ _ | apply below_alloc | apply pw_below_drewN | apply below_drew1)⟩
set_option maxHeartbeats 8000000 in
set_option maxRecDepth 100000 in
theorem boxAt_index (A : Option Addr) (c : Nat) (l : List S71) (g : Nat) (p : Int) (w : World) (hr : Kd.C k71 w A l.length l) (hcell : w.cell? ⟨g, 0, none⟩ = some (.int .i64 p)) :
    Calls Try.prog 90 #[.slice A l.length c, .func (.func 91) #[] #[.pointer (some ⟨g, 0, none⟩)]] w fun e w' => e = .returned (.int .i64 (idxP l p 0)) ∧ Below w.heap.size w w' := by
  have hL : l.length ≤ 9223372036854775807 := hr.2.1
  have huB := Try.underlying71
  have HR := Aside0.mk hr
  clear hr
  have HL := Aside0.mk hL
  clear hL
  go_enter Try.func90, Try.ntmps90
  go_wp2
  go_loopw [8] (fun v8 wr => ∃ i : Int, v8 = .int .i64 i ∧ Aside0 (0 ≤ i ∧ i ≤ l.length) ∧ Aside0 (idxP l p 0 = idxP (l.drop i.toNat) p i) ∧ Aside0 (Below w.heap.size w wr)) (fun v8 _ => l.length - (intOf v8).toNat)
  case atStart => exact ⟨0, rfl, ⟨by omega⟩, ⟨rfl⟩, ⟨Below.refl _ _⟩⟩
  case round =>
    obtain ⟨i, rfl, hk, hi, HB⟩ := hrel
    have hcw := (HB.out.cell (World.block_lt_of_cell? w _ hcell)).trans hcell
    by_cases hlt : i < (l.length : Int)
    · obtain ⟨ad, e1, h0, h1, h2, h3⟩ := at_T71 HR.out i hk.out.1 hlt
      subst e1
      replace h0 := (HB.out.cell (World.block_lt_of_cell? w _ h0)).trans h0
      replace h1 := (HB.out.cell (World.block_lt_of_cell? w _ h1)).trans h1
      replace h2 := (HB.out.cell (World.block_lt_of_cell? w _ h2)).trans h2
      replace h3 := (HB.out.cell (World.block_lt_of_cell? w _ h3)).trans h3
      have q0 := eq_true hk.out.1
      have q1 := eq_true hlt
      have hltb : decide (i < (l.length : Int)) = true := decide_eq_true hlt
      have hdrop : Aside0 (l.drop i.toNat = rd_T71 l i :: l.drop (i.toNat + 1)) := ⟨by
        have hn : i.toNat < l.length := by have := hk.out.1; omega
        rw [List.drop_eq_getElem_cons hn]
        unfold rd_T71
        rw [getD_at_ _ hn]⟩
      have hwr : Aside0 (wrap64 (i + 1) = i + 1) := ⟨by have := hk.out; have := HL.out; unfold wrap64; omega⟩
      have hlt2 := Aside0.mk hlt
      clear hlt
      by_cases hb : (rd_T71 l i).f2 = p
      · have hbb : ((rd_T71 l i).f2 == p) = true := by simpa using hb
        have hres : Aside0 (idxP l p 0 = i) := ⟨by rw [hi.out, hdrop.out]; simp only [idxP]; rw [if_pos hb]⟩
        clear hb hi hdrop
        go_wp2_with (go_at_call 91; refine (boxAt_is _ _ _ _ g p _ hcw).mono ?_; rintro e w' ⟨rfl, hb1⟩)
        go_ret
        exact ⟨by rw [hres.out]; rfl, below_step HB.out hb1⟩
      · have hbb : ((rd_T71 l i).f2 == p) = false := by simpa using hb
        have hres : Aside0 (idxP l p 0 = idxP (l.drop (i + 1).toNat) p (i + 1)) := ⟨by
          rw [hi.out, hdrop.out]; simp only [idxP]; rw [if_neg hb]
          congr 2
          have := hk.out.1
          omega⟩
        clear hb hi hdrop
        go_wp2_with (go_at_call 91; refine (boxAt_is _ _ _ _ g p _ hcw).mono ?_; rintro e w' ⟨rfl, hb1⟩)
        go_roundw
        case rel => exact ⟨i + 1, by rw [hwr.out], ⟨by have := hk.out; have := hlt2.out; omega⟩, hres, ⟨below_step HB.out hb1⟩⟩
        case measure =>
          have := hk.out; have := hlt2.out
          rw [hwr.out]
          simp [intOf]
          omega
    · have hltb : decide (i < (l.length : Int)) = false := decide_eq_false hlt
      have hres : Aside0 (idxP l p 0 = -1) := ⟨by
        have := hk.out
        rw [hi.out, List.drop_eq_nil_of_le (by omega)]; rfl⟩
      clear hlt hi
      go_wp2
      go_ret
      exact ⟨by rw [hres.out]; rfl, HB.out⟩
theorem cell_new2 (w : World) (O : Obj) (v : Value) (t : TypeId) : ((w.alloc O).alloc (.cells #[v] t)).cell? ⟨w.heap.size + 1, 0, none⟩ = some v := by
  have h := (MapKept.heap_alloc (w.alloc O) (.cells #[v] t)).1
  have hs : (w.alloc O).heap.size = w.heap.size + 1 := Array.size_push _
  rw [hs] at h
  exact blk_cell h 0
def impl_boxAt.f (a0_0 : Int) (l0_1 : List Int) (l0_2 : List (S71)) (a1 : Int) : Option (Int) := some (idxP l0_2 a1 0)
set_option maxHeartbeats 8000000 in
set_option maxRecDepth 100000 in
theorem impl_boxAt.calls (a0_0 : Int) (A0_1 : Option Addr) (c0_1 : Nat) (l0_1 : List Int) (A0_2 : Option Addr) (c0_2 : Nat) (l0_2 : List (S71)) (a1 : Int) (r : Int) (w : World) (hr0_1 : Kd.C (Kd.int .i64) w A0_1 l0_1.length l0_1) (hc0_1 : l0_1.length ≤ c0_1) (hr0_2 : Kd.C k71 w A0_2 l0_2.length l0_2) (hc0_2 : l0_2.length ≤ c0_2) (h : impl_boxAt.f a0_0 l0_1 l0_2 a1 = some r) :
    Calls Try.prog 70 #[.agg #[.int .i64 a0_0, .slice A0_1 l0_1.length c0_1, .slice A0_2 l0_2.length c0_2], .int .i64 a1] w fun e w' => e = .returned (.int .i64 r) ∧ Below w.heap.size w w' := by
  obtain rfl := Option.some.inj h
  have HR := Aside0.mk hr0_2
  clear h hr0_1 hr0_2 hc0_1 hc0_2
  have huC := Try.underlying30
  go_enter Try.func70, Try.ntmps70
  go_wp2_with (go_at_call 90; refine (boxAt_index _ _ l0_2 (w.heap.size + 1) a1 _ (Kd.C_alloc (Kd.C_alloc HR.out _) _) (cell_new2 w _ _ _)).mono ?_; rintro e w' ⟨rfl, hb1⟩)
  go_ret
  exact ⟨rfl, below_step (below_alloc (below_alloc (Below.refl _ _) _) _) hb1⟩
def idxC : List S30 → Int → Int → Int
  | [], _, _ => -1
  | c :: cs, p, i => if 0 ≤ idxP c.f2 p 0 then i else idxC cs p (i + 1)
set_option maxHeartbeats 8000000 in
set_option maxRecDepth 100000 in
theorem columnOf_has (h0 : Int) (A1 : Option Addr) (c1 : Nat) (fx : List Int) (A2 : Option Addr) (c2 : Nat) (bx : List S71) (g : Nat) (p : Int) (w : World) (hr1 : Kd.C (Kd.int .i64) w A1 fx.length fx) (hc1 : fx.length ≤ c1)
    (hr2 : Kd.C k71 w A2 bx.length bx) (hc2 : bx.length ≤ c2) (hc : w.cell? ⟨g, 0, none⟩ = some (.int .i64 p)) :
    Calls Try.prog 89 #[.agg #[.int .i64 h0, .slice A1 fx.length c1, .slice A2 bx.length c2], .pointer (some ⟨g, 0, none⟩)] w fun e w' => e = .returned (.bool (decide (0 ≤ idxP bx p 0))) ∧ Below w.heap.size w w' := by
  have hg : g < w.heap.size := World.block_lt_of_cell? w _ hc
  have hc' := fun o => (World.cell?_alloc_lt w o ⟨g, 0, none⟩ hg).trans hc
  have huC := Try.underlying30
  have HR1 := Aside0.mk hr1
  have HR2 := Aside0.mk hr2
  have HC1 := Aside0.mk hc1
  have HC2 := Aside0.mk hc2
  clear hr1 hr2 hc1 hc2
  go_enter Try.func89, Try.ntmps89
  go_wp2_with (go_at_call 70; refine (impl_boxAt.calls h0 _ _ fx _ _ bx p (idxP bx p 0) _ (Kd.C_alloc HR1.out _) HC1.out (Kd.C_alloc HR2.out _) HC2.out rfl).mono ?_; rintro e w' ⟨rfl, hb1⟩)
  go_ret
  exact ⟨rfl, below_step (below_alloc (Below.refl _ _) _) hb1⟩
set_option maxHeartbeats 8000000 in
set_option maxRecDepth 100000 in
theorem columnOf_index (A : Option Addr) (c : Nat) (l : List S30) (g : Nat) (p : Int) (w : World) (hr : Kd.C k30 w A l.length l) (hcell : w.cell? ⟨g, 0, none⟩ = some (.int .i64 p)) :
    Calls Try.prog 88 #[.slice A l.length c, .func (.func 89) #[] #[.pointer (some ⟨g, 0, none⟩)]] w fun e w' => e = .returned (.int .i64 (idxC l p 0)) ∧ Below w.heap.size w w' := by
  have hL : l.length ≤ 9223372036854775807 := hr.2.1
  have huC := Try.underlying30
  have HR := Aside0.mk hr
  clear hr
  have HL := Aside0.mk hL
  clear hL
  go_enter Try.func88, Try.ntmps88
  go_wp2
  go_loopw [8] (fun v8 wr => ∃ i : Int, v8 = .int .i64 i ∧ Aside0 (0 ≤ i ∧ i ≤ l.length) ∧ Aside0 (idxC l p 0 = idxC (l.drop i.toNat) p i) ∧ Aside0 (Below w.heap.size w wr)) (fun v8 _ => l.length - (intOf v8).toNat)
  case atStart => exact ⟨0, rfl, ⟨by omega⟩, ⟨rfl⟩, ⟨Below.refl _ _⟩⟩
  case round =>
    obtain ⟨i, rfl, hk, hi, HB⟩ := hrel
    have hcw := (HB.out.cell (World.block_lt_of_cell? w _ hcell)).trans hcell
    by_cases hlt : i < (l.length : Int)
    · obtain ⟨ad, A1, c1, A2, c2, e1, h0, h1, h2, hl1, hi1, hl2, hi2⟩ := at_T30 HR.out i hk.out.1 hlt
      subst e1
      replace h0 := (HB.out.cell (World.block_lt_of_cell? w _ h0)).trans h0
      replace h1 := (HB.out.cell (World.block_lt_of_cell? w _ h1)).trans h1
      replace h2 := (HB.out.cell (World.block_lt_of_cell? w _ h2)).trans h2
      have HR1 := Aside0.mk (Kd.C_below hi1 HB.out)
      have HR2 := Aside0.mk (Kd.C_below hi2 HB.out)
      have HC1 := Aside0.mk hl1
      have HC2 := Aside0.mk hl2
      clear hi1 hi2 hl1 hl2
      have q0 := eq_true hk.out.1
      have q1 := eq_true hlt
      have hltb : decide (i < (l.length : Int)) = true := decide_eq_true hlt
      have hdrop : Aside0 (l.drop i.toNat = rd_T30 l i :: l.drop (i.toNat + 1)) := ⟨by
        have hn : i.toNat < l.length := by have := hk.out.1; omega
        rw [List.drop_eq_getElem_cons hn]
        unfold rd_T30
        rw [getD_at_ _ hn]⟩
      have hwr : Aside0 (wrap64 (i + 1) = i + 1) := ⟨by have := hk.out; have := HL.out; unfold wrap64; omega⟩
      have hlt2 := Aside0.mk hlt
      clear hlt
      by_cases hb : 0 ≤ idxP (rd_T30 l i).f2 p 0
      · have hbb : decide (0 ≤ idxP (rd_T30 l i).f2 p 0) = true := decide_eq_true hb
        have hres : Aside0 (idxC l p 0 = i) := ⟨by rw [hi.out, hdrop.out]; simp only [idxC]; rw [if_pos hb]⟩
        clear hb hi hdrop
        go_wp2_with (go_at_call 89; refine (columnOf_has _ _ _ _ _ _ _ g p _ HR1.out HC1.out HR2.out HC2.out hcw).mono ?_; rintro e w' ⟨rfl, hb1⟩)
        go_ret
        exact ⟨by rw [hres.out]; rfl, below_step HB.out hb1⟩
      · have hbb : decide (0 ≤ idxP (rd_T30 l i).f2 p 0) = false := decide_eq_false hb
        have hres : Aside0 (idxC l p 0 = idxC (l.drop (i + 1).toNat) p (i + 1)) := ⟨by
          rw [hi.out, hdrop.out]; simp only [idxC]; rw [if_neg hb]
          congr 2
          have := hk.out.1
          omega⟩
        clear hb hi hdrop
        go_wp2_with (go_at_call 89; refine (columnOf_has _ _ _ _ _ _ _ g p _ HR1.out HC1.out HR2.out HC2.out hcw).mono ?_; rintro e w' ⟨rfl, hb1⟩)
        go_roundw
        case rel => exact ⟨i + 1, by rw [hwr.out], ⟨by have := hk.out; have := hlt2.out; omega⟩, hres, ⟨below_step HB.out hb1⟩⟩
        case measure =>
          have := hk.out; have := hlt2.out
          rw [hwr.out]
          simp [intOf]
          omega
    · have hltb : decide (i < (l.length : Int)) = false := decide_eq_false hlt
      have hres : Aside0 (idxC l p 0 = -1) := ⟨by
        have := hk.out
        rw [hi.out, List.drop_eq_nil_of_le (by omega)]; rfl⟩
      clear hlt hi
      go_wp2
      go_ret
      exact ⟨by rw [hres.out]; rfl, HB.out⟩
theorem cell_new1 (w : World) (v : Value) (t : TypeId) : (w.alloc (.cells #[v] t)).cell? ⟨w.heap.size, 0, none⟩ = some v :=
  blk_cell (MapKept.heap_alloc w (.cells #[v] t)).1 0
def impl_columnOf.f (l0 : List (S30)) (a1 : Int) : Option (Int) := some (idxC l0 a1 0)
set_option maxHeartbeats 8000000 in
set_option maxRecDepth 100000 in
theorem impl_columnOf.calls (A0 : Option Addr) (c0 : Nat) (l0 : List (S30)) (a1 : Int) (r : Int) (w : World) (hr0 : Kd.C k30 w A0 l0.length l0) (hc0 : l0.length ≤ c0) (h : impl_columnOf.f l0 a1 = some r) :
    Calls Try.prog 69 #[.slice A0 l0.length c0, .int .i64 a1] w fun e w' => e = .returned (.int .i64 r) ∧ Below w.heap.size w w' := by
  obtain rfl := Option.some.inj h
  have HR := Aside0.mk hr0
  clear h hr0 hc0
  go_enter Try.func69, Try.ntmps69
  go_wp2_with (go_at_call 88; refine (columnOf_index _ _ l0 w.heap.size a1 _ (Kd.C_alloc HR.out _) (cell_new1 w _ _)).mono ?_; rintro e w' ⟨rfl, hb1⟩)
  go_ret
  exact ⟨rfl, below_step (below_alloc (Below.refl _ _) _) hb1⟩
end Go.Proofs.Ytghfeapncmlihaa.A

namespace Go.Proofs.Ytghfeapncmlihaa.A
open Go.RowKit Go.Proofs.YtghfeapncmlihaaW.PrintWords Go.Proofs.YtghfeapncmlihaaW.PrintLast Go.Proofs.YtghfeapncmlihaaW.PrintMore
attribute [local go_sem] max2_int min2_int max_two min_two max_three min_three max_four min_four   
set_option linter.unusedVariables false
set_option linter.unusedSimpArgs false
def impl_BoxOf.f (l0 : List (S30)) (a1 : Int) : Option (Int × Int) := (impl_columnOf.f l0 a1).bind fun t335 => ((impl_BankOk.f l0).bind fun t336 => (if t336 = true then (if a1 < 1 then (some ((-1), (-1))) else (if t335 < 0 then (some ((-1), (-1))) else (if 0 ≤ t335 then (if t335 < (l0.length : Int) then ((impl_boxAt.f ((rd_T30 l0 t335).f0) ((rd_T30 l0 t335).f1) ((rd_T30 l0 t335).f2) a1).bind fun t339 => (if 0 ≤ t339 then (if t339 < (((rd_T30 l0 t335).f2).length : Int) then (some (t335, (rd_T71 ((rd_T30 l0 t335).f2) t339).f0)) else (none)) else (none))) else (none)) else (none)))) else (some ((-1), (-1)))))
def impl_BoxOf.T4 : Bool × List (List Nat × List Nat) := (true, [([], []), ([], []), ([], []), ([1, 2], [1, 2]), ([3], [3]), ([4], [4]), ([], []), ([], []), ([6, 7], [6, 7]), ([8], [8]), ([], []), ([9, 10], [9, 10]), ([5, 11], [5, 11]), ([12], [12]), ([13], [13]), ([0, 11, 0], [0]), ([14, 15, 0, 1, 2, 3, 4, 5, 6, 7, 8, 9, 10, 11, 12, 13, 14, 15], [14])])
def impl_BoxOf.B4 : List Nat := [0, 0, 0, 6, 14, 30, 0, 0, 192, 448, 0, 1984, 4094, 8190, 16382, 4033, 65535]
theorem impl_BoxOf.tab4 : rtab .any (opsOf Try.f33 4) = impl_BoxOf.T4 := by kernel_rfl
theorem impl_BoxOf.bits4 : waitsOk impl_BoxOf.T4.2 impl_BoxOf.B4 = true := by kernel_rfl
set_option maxHeartbeats 8000000 in
set_option maxRecDepth 100000 in
theorem impl_BoxOf.calls (A0 : Option Addr) (c0 : Nat) (l0 : List (S30)) (a1 : Int) (r1 : Int) (r2 : Int) (w : World) (hr0 : Kd.C k30 w A0 l0.length l0) (hc0 : l0.length ≤ c0) (h : impl_BoxOf.f l0 a1 = some (r1, r2)) :
    Calls Try.prog 33 #[.slice A0 l0.length c0, .int .i64 a1] w fun e w' => e = .returned (.tuple #[.int .i64 r1, .int .i64 r2]) ∧ Below w.heap.size w w' := by
  have hu30 := Try.underlying30
  have HR0 := Aside0.mk hr0
  have HC0 := Aside0.mk hc0
  clear hr0 hc0
  have HB := Aside0.mk (Below.refl w.heap.size w)
  have H : ((impl_columnOf.f l0 a1).bind fun t335 => ((impl_BankOk.f l0).bind fun t336 => (if t336 = true then (if a1 < 1 then (some ((-1), (-1))) else (if t335 < 0 then (some ((-1), (-1))) else (if 0 ≤ t335 then (if t335 < (l0.length : Int) then ((impl_boxAt.f ((rd_T30 l0 t335).f0) ((rd_T30 l0 t335).f1) ((rd_T30 l0 t335).f2) a1).bind fun t339 => (if 0 ≤ t339 then (if t339 < (((rd_T30 l0 t335).f2).length : Int) then (some (t335, (rd_T71 ((rd_T30 l0 t335).f2) t339).f0)) else (none)) else (none))) else (none)) else (none)))) else (some ((-1), (-1)))))) = some (r1, r2) := h
  clear h
  replace H := Option.bind_eq_some_iff.mp H
  obtain ⟨t335, A30, H⟩ := H
  replace H : ((impl_BankOk.f l0).bind fun t336 => (if t336 = true then (if a1 < 1 then (some ((-1), (-1))) else (if t335 < 0 then (some ((-1), (-1))) else (if 0 ≤ t335 then (if t335 < (l0.length : Int) then ((impl_boxAt.f ((rd_T30 l0 t335).f0) ((rd_T30 l0 t335).f1) ((rd_T30 l0 t335).f2) a1).bind fun t339 => (if 0 ≤ t339 then (if t339 < (((rd_T30 l0 t335).f2).length : Int) then (some (t335, (rd_T71 ((rd_T30 l0 t335).f2) t339).f0)) else (none)) else (none))) else (none)) else (none)))) else (some ((-1), (-1))))) = some (r1, r2) := H
  have A3 := Aside0.mk A30
  clear A30
  replace H := Option.bind_eq_some_iff.mp H
  obtain ⟨t336, A40, H⟩ := H
  replace H : (if t336 = true then (if a1 < 1 then (some ((-1), (-1))) else (if t335 < 0 then (some ((-1), (-1))) else (if 0 ≤ t335 then (if t335 < (l0.length : Int) then ((impl_boxAt.f ((rd_T30 l0 t335).f0) ((rd_T30 l0 t335).f1) ((rd_T30 l0 t335).f2) a1).bind fun t339 => (if 0 ≤ t339 then (if t339 < (((rd_T30 l0 t335).f2).length : Int) then (some (t335, (rd_T71 ((rd_T30 l0 t335).f2) t339).f0)) else (none)) else (none))) else (none)) else (none)))) else (some ((-1), (-1)))) = some (r1, r2) := H
  have A4 := Aside0.mk A40
  clear A40
  by_cases c5 : t336 = true
  · subst c5
    have H1 : (if a1 < 1 then (some ((-1), (-1))) else (if t335 < 0 then (some ((-1), (-1))) else (if 0 ≤ t335 then (if t335 < (l0.length : Int) then ((impl_boxAt.f ((rd_T30 l0 t335).f0) ((rd_T30 l0 t335).f1) ((rd_T30 l0 t335).f2) a1).bind fun t339 => (if 0 ≤ t339 then (if t339 < (((rd_T30 l0 t335).f2).length : Int) then (some (t335, (rd_T71 ((rd_T30 l0 t335).f2) t339).f0)) else (none)) else (none))) else (none)) else (none)))) = some (r1, r2) := by rw [if_pos rfl] at H; exact H
    clear H
    have H := H1
    clear H1
    by_cases c6 : a1 < 1
    · rw [if_pos c6] at H
      have c6b0 : decide (a1 < 1) = true := decide_eq_true c6
      clear c6
      simp only [Option.some.injEq, Prod.mk.injEq] at H
      obtain ⟨rfl, rfl⟩ := H
      go_enter Try.func33, Try.ntmps33
      go_wp2_with (first | ((with_reducible refine gate_callee (f := 69) rfl ?_); refine goesL_ (some 9) rfl rfl Try.func69 (by kernel_rfl) rfl #[.slice A0 l0.length c0, .int .i64 a1] rfl (by (try simp only [List.map_toArray, List.map_cons, List.map_nil]); first | done | rfl | (simp only [List.length_drop, List.length_take]; rfl)) ?_; (with_reducible refine (impl_columnOf.calls _ _ l0 a1 t335 _ ?side1 ?side2 A3.out).mono ?_); (case side1 => repeat (first | exact HR0.out | (with_reducible refine Kd.C_alloc ?_ _) | (with_reducible refine Kd.C_drewN ?_ _) | (with_reducible refine Kd.C_drew ?_))); (case side2 => exact HC0.out); rintro e w7 ⟨rfl, hb⟩; refine ⟨_, rfl, ?_⟩; have n0_ := Aside0.mk (below_step (by repeat (first | (with_reducible first | exact HB.out | apply below_alloc | apply pw_below_drewN | apply below_drew1) | exact HB.out)) hb); clear HB; have HB := n0_; clear n0_; (try clear hb); (try clear hb2); (try clear hk); (try clear hi)) | ((with_reducible refine gate_callee (f := 30) rfl ?_); refine goesL_ (some 11) rfl rfl Try.func30 (by kernel_rfl) rfl #[.slice A0 l0.length c0] rfl (by (try simp only [List.map_toArray, List.map_cons, List.map_nil]); first | done | rfl | (simp only [List.length_drop, List.length_take]; rfl)) ?_; (with_reducible refine (impl_BankOk.calls _ _ l0 true _ ?side1 ?side2 A4.out).mono ?_); (case side1 => repeat (first | exact (Kd.C_below HR0.out HB.out) | (with_reducible refine Kd.C_alloc ?_ _) | (with_reducible refine Kd.C_drewN ?_ _) | (with_reducible refine Kd.C_drew ?_))); (case side2 => exact HC0.out); rintro e w8 ⟨rfl, hb⟩; refine ⟨_, rfl, ?_⟩; have n0_ := Aside0.mk (below_step (by repeat (first | (with_reducible first | exact HB.out | apply below_alloc | apply pw_below_drewN | apply below_drew1) | exact HB.out)) hb); clear HB; have HB := n0_; clear n0_; (try clear hb); (try clear hb2); (try clear hk); (try clear hi)))
      go_ret2
      exact ⟨by first | rfl | (simp [errW_none, errW_some] <;> rfl) | (simp [*, errW_none, errW_some] <;> rfl), by repeat (first | (with_reducible first | exact HB.out | apply below_alloc | apply pw_below_drewN | apply below_drew1) | exact HB.out)⟩
    · rw [if_neg c6] at H
      have c6b0 : decide (a1 < 1) = false := decide_eq_false c6
      clear c6
      by_cases c9 : t335 < 0
      · rw [if_pos c9] at H
        have c9b0 : decide (t335 < 0) = true := decide_eq_true c9
        clear c9
        simp only [Option.some.injEq, Prod.mk.injEq] at H
        obtain ⟨rfl, rfl⟩ := H
        go_enter Try.func33, Try.ntmps33
        go_wp2_with (first | ((with_reducible refine gate_callee (f := 69) rfl ?_); refine goesL_ (some 9) rfl rfl Try.func69 (by kernel_rfl) rfl #[.slice A0 l0.length c0, .int .i64 a1] rfl (by (try simp only [List.map_toArray, List.map_cons, List.map_nil]); first | done | rfl | (simp only [List.length_drop, List.length_take]; rfl)) ?_; (with_reducible refine (impl_columnOf.calls _ _ l0 a1 t335 _ ?side1 ?side2 A3.out).mono ?_); (case side1 => repeat (first | exact HR0.out | (with_reducible refine Kd.C_alloc ?_ _) | (with_reducible refine Kd.C_drewN ?_ _) | (with_reducible refine Kd.C_drew ?_))); (case side2 => exact HC0.out); rintro e w10 ⟨rfl, hb⟩; refine ⟨_, rfl, ?_⟩; have n0_ := Aside0.mk (below_step (by repeat (first | (with_reducible first | exact HB.out | apply below_alloc | apply pw_below_drewN | apply below_drew1) | exact HB.out)) hb); clear HB; have HB := n0_; clear n0_; (try clear hb); (try clear hb2); (try clear hk); (try clear hi)) | ((with_reducible refine gate_callee (f := 30) rfl ?_); refine goesL_ (some 11) rfl rfl Try.func30 (by kernel_rfl) rfl #[.slice A0 l0.length c0] rfl (by (try simp only [List.map_toArray, List.map_cons, List.map_nil]); first | done | rfl | (simp only [List.length_drop, List.length_take]; rfl)) ?_; (with_reducible refine (impl_BankOk.calls _ _ l0 true _ ?side1 ?side2 A4.out).mono ?_); (case side1 => repeat (first | exact (Kd.C_below HR0.out HB.out) | (with_reducible refine Kd.C_alloc ?_ _) | (with_reducible refine Kd.C_drewN ?_ _) | (with_reducible refine Kd.C_drew ?_))); (case side2 => exact HC0.out); rintro e w11 ⟨rfl, hb⟩; refine ⟨_, rfl, ?_⟩; have n0_ := Aside0.mk (below_step (by repeat (first | (with_reducible first | exact HB.out | apply below_alloc | apply pw_below_drewN | apply below_drew1) | exact HB.out)) hb); clear HB; have HB := n0_; clear n0_; (try clear hb); (try clear hb2); (try clear hk); (try clear hi)))
        go_ret2
        exact ⟨by first | rfl | (simp [errW_none, errW_some] <;> rfl) | (simp [*, errW_none, errW_some] <;> rfl), by repeat (first | (with_reducible first | exact HB.out | apply below_alloc | apply pw_below_drewN | apply below_drew1) | exact HB.out)⟩
      · rw [if_neg c9] at H
        have c9b0 : decide (t335 < 0) = false := decide_eq_false c9
        clear c9
        by_cases c12 : 0 ≤ t335
        · rw [if_pos c12] at H
          have c12b0 : decide (0 ≤ t335) = true := decide_eq_true c12
          clear c12
          by_cases c13 : t335 < (l0.length : Int)
          · rw [if_pos c13] at H
            have c13b0 : decide (t335 < (l0.length : Int)) = true := decide_eq_true c13
            clear c13
            replace H := Option.bind_eq_some_iff.mp H
            obtain ⟨t339, A140, H⟩ := H
            replace H : (if 0 ≤ t339 then (if t339 < (((rd_T30 l0 t335).f2).length : Int) then (some (t335, (rd_T71 ((rd_T30 l0 t335).f2) t339).f0)) else (none)) else (none)) = some (r1, r2) := H
            have A14 := Aside0.mk A140
            clear A140
            by_cases c15 : 0 ≤ t339
            · rw [if_pos c15] at H
              have c15b0 : decide (0 ≤ t339) = true := decide_eq_true c15
              clear c15
              by_cases c16 : t339 < (((rd_T30 l0 t335).f2).length : Int)
              · rw [if_pos c16] at H
                have c16b0 : decide (t339 < (((rd_T30 l0 t335).f2).length : Int)) = true := decide_eq_true c16
                clear c16
                simp only [Option.some.injEq, Prod.mk.injEq] at H
                obtain ⟨rfl, rfl⟩ := H
                go_enter Try.func33, Try.ntmps33
                try go_wp2_with (first | ((with_reducible refine gate_callee (f := 69) rfl ?_); refine goesL_ (some 9) rfl rfl Try.func69 (by kernel_rfl) rfl #[.slice A0 l0.length c0, .int .i64 a1] rfl (by (try simp only [List.map_toArray, List.map_cons, List.map_nil]); first | done | rfl | (simp only [List.length_drop, List.length_take]; rfl)) ?_; (with_reducible refine (impl_columnOf.calls _ _ l0 a1 t335 _ ?side1 ?side2 A3.out).mono ?_); (case side1 => repeat (first | exact HR0.out | (with_reducible refine Kd.C_alloc ?_ _) | (with_reducible refine Kd.C_drewN ?_ _) | (with_reducible refine Kd.C_drew ?_))); (case side2 => exact HC0.out); rintro e w17 ⟨rfl, hb⟩; refine ⟨_, rfl, ?_⟩; have n0_ := Aside0.mk (below_step (by repeat (first | (with_reducible first | exact HB.out | apply below_alloc | apply pw_below_drewN | apply below_drew1) | exact HB.out)) hb); clear HB; have HB := n0_; clear n0_; (try clear hb); (try clear hb2); (try clear hk); (try clear hi)) | ((with_reducible refine gate_callee (f := 30) rfl ?_); refine goesL_ (some 11) rfl rfl Try.func30 (by kernel_rfl) rfl #[.slice A0 l0.length c0] rfl (by (try simp only [List.map_toArray, List.map_cons, List.map_nil]); first | done | rfl | (simp only [List.length_drop, List.length_take]; rfl)) ?_; (with_reducible refine (impl_BankOk.calls _ _ l0 true _ ?side1 ?side2 A4.out).mono ?_); (case side1 => repeat (first | exact (Kd.C_below HR0.out HB.out) | (with_reducible refine Kd.C_alloc ?_ _) | (with_reducible refine Kd.C_drewN ?_ _) | (with_reducible refine Kd.C_drew ?_))); (case side2 => exact HC0.out); rintro e w18 ⟨rfl, hb⟩; refine ⟨_, rfl, ?_⟩; have n0_ := Aside0.mk (below_step (by repeat (first | (with_reducible first | exact HB.out | apply below_alloc | apply pw_below_drewN | apply below_drew1) | exact HB.out)) hb); clear HB; have HB := n0_; clear n0_; (try clear hb); (try clear hb2); (try clear hk); (try clear hi)))
                have n0_ := Aside0.mk (below_drew1 HB.out)
                clear HB
                have HB := n0_
                clear n0_
                have p337 : 0 ≤ (t335 : Int) := of_decide_eq_true (by first | (with_reducible assumption) | assumption)
                have q337 : t335 < (l0.length : Int) := of_decide_eq_true (by first | (with_reducible assumption) | assumption)
                obtain ⟨ad337, A337_1, c337_1, A337_2, c337_2, e337, hx337_0, hx337_1, hx337_2, hl337_1, hi337_1, hl337_2, hi337_2⟩ := at_T30 HR0.out t335 p337 q337
                have hw337_2 := hx337_2
                have hw337_1 := hx337_1
                have hw337_0 := hx337_0
                cases e337
                replace hx337_0 := (HB.out.cell (World.block_lt_of_cell? w _ hx337_0)).trans hx337_0
                replace hx337_1 := (HB.out.cell (World.block_lt_of_cell? w _ hx337_1)).trans hx337_1
                replace hx337_2 := (HB.out.cell (World.block_lt_of_cell? w _ hx337_2)).trans hx337_2
                have HR337_1 := Aside0.mk hi337_1
                have HC337_1 := Aside0.mk hl337_1
                clear hi337_1 hl337_1
                have HR337_2 := Aside0.mk hi337_2
                have HC337_2 := Aside0.mk hl337_2
                clear hi337_2 hl337_2
                replace p337 := eq_true p337
                replace q337 := eq_true q337
                have p338 : 0 ≤ (t335 : Int) := of_decide_eq_true (by first | (with_reducible assumption) | assumption)
                have q338 : t335 < (l0.length : Int) := of_decide_eq_true (by first | (with_reducible assumption) | assumption)
                obtain ⟨ad338, A338_1, c338_1, A338_2, c338_2, e338, hx338_0, hx338_1, hx338_2, hl338_1, hi338_1, hl338_2, hi338_2⟩ := at_T30 HR0.out t335 p338 q338
                have hw338_2 := hx338_2
                have hw338_1 := hx338_1
                have hw338_0 := hx338_0
                obtain rfl : ad337 = ad338 := (by injection e338)
                replace hx338_0 := (HB.out.cell (World.block_lt_of_cell? w _ hx338_0)).trans hx338_0
                replace hx338_1 := (HB.out.cell (World.block_lt_of_cell? w _ hx338_1)).trans hx338_1
                replace hx338_2 := (HB.out.cell (World.block_lt_of_cell? w _ hx338_2)).trans hx338_2
                have HR338_1 := Aside0.mk hi338_1
                have HC338_1 := Aside0.mk hl338_1
                clear hi338_1 hl338_1
                have HR338_2 := Aside0.mk hi338_2
                have HC338_2 := Aside0.mk hl338_2
                clear hi338_2 hl338_2
                replace p338 := eq_true p338
                replace q338 := eq_true q338
                have ea_ := Option.some.inj (hx337_1.symm.trans hx338_1)
                injection ea_ with ea_ en_ ec_
                subst ea_
                subst ec_
                clear en_
                have ea_ := Option.some.inj (hx337_2.symm.trans hx338_2)
                injection ea_ with ea_ en_ ec_
                subst ea_
                subst ec_
                clear en_
                have p340 : 0 ≤ (t339 : Int) := of_decide_eq_true (by first | (with_reducible assumption) | assumption)
                have q340 : t339 < (((rd_T30 l0 t335).f2).length : Int) := of_decide_eq_true (by first | (with_reducible assumption) | assumption)
                obtain ⟨ad340, e340, hx340_0, hx340_1, hx340_2, hx340_3⟩ := at_T71 HR337_2.out t339 p340 q340
                have hw340_3 := hx340_3
                have hw340_2 := hx340_2
                have hw340_1 := hx340_1
                have hw340_0 := hx340_0
                cases e340
                replace hx340_0 := (HB.out.cell (World.block_lt_of_cell? w _ hx340_0)).trans hx340_0
                replace hx340_1 := (HB.out.cell (World.block_lt_of_cell? w _ hx340_1)).trans hx340_1
                replace hx340_2 := (HB.out.cell (World.block_lt_of_cell? w _ hx340_2)).trans hx340_2
                replace hx340_3 := (HB.out.cell (World.block_lt_of_cell? w _ hx340_3)).trans hx340_3
                replace p340 := eq_true p340
                replace q340 := eq_true q340
                refine start_ (n := 17) (S := fun w' => w'.cell? (ad337.add ((t335).toNat * 3)) = some (.int .i64 ((rd_T30 l0 t335).f0)) ∧ w'.cell? ⟨(ad337.add ((t335).toNat * 3)).block, (ad337.add ((t335).toNat * 3)).off + 1, none⟩ = some (.slice A337_1 ((rd_T30 l0 t335).f1).length c337_1) ∧ w'.cell? ⟨(ad337.add ((t335).toNat * 3)).block, (ad337.add ((t335).toNat * 3)).off + 2, none⟩ = some (.slice (some ad340) ((rd_T30 l0 t335).f2).length c337_2) ∧ w'.cell? (ad337.add ((t335).toNat * 3)) = some (.int .i64 ((rd_T30 l0 t335).f0)) ∧ w'.cell? ⟨(ad337.add ((t335).toNat * 3)).block, (ad337.add ((t335).toNat * 3)).off + 1, none⟩ = some (.slice A337_1 ((rd_T30 l0 t335).f1).length c337_1) ∧ w'.cell? ⟨(ad337.add ((t335).toNat * 3)).block, (ad337.add ((t335).toNat * 3)).off + 2, none⟩ = some (.slice (some ad340) ((rd_T30 l0 t335).f2).length c337_2) ∧ w'.cell? (ad340.add ((t339).toNat * 4)) = some (.int .i64 ((rd_T71 ((rd_T30 l0 t335).f2) t339).f0)) ∧ w'.cell? ⟨(ad340.add ((t339).toNat * 4)).block, (ad340.add ((t339).toNat * 4)).off + 1, none⟩ = some (.int .i64 ((rd_T71 ((rd_T30 l0 t335).f2) t339).f1)) ∧ w'.cell? ⟨(ad340.add ((t339).toNat * 4)).block, (ad340.add ((t339).toNat * 4)).off + 2, none⟩ = some (.int .i64 ((rd_T71 ((rd_T30 l0 t335).f2) t339).f2)) ∧ w'.cell? ⟨(ad340.add ((t339).toNat * 4)).block, (ad340.add ((t339).toNat * 4)).off + 3, none⟩ = some (.bool ((rd_T71 ((rd_T30 l0 t335).f2) t339).f3))) (ds := []) #[false, false, false, false, false, false, false, false, false, false, false, false, false, false, false, false, false] (by kernel_rfl) rfl rfl ⟨((HB.out.cell (World.block_lt_of_cell? w _ hw337_0)).trans hw337_0), ((HB.out.cell (World.block_lt_of_cell? w _ hw337_1)).trans hw337_1), ((HB.out.cell (World.block_lt_of_cell? w _ hw337_2)).trans hw337_2), ((HB.out.cell (World.block_lt_of_cell? w _ hw338_0)).trans hw338_0), ((HB.out.cell (World.block_lt_of_cell? w _ hw338_1)).trans hw338_1), ((HB.out.cell (World.block_lt_of_cell? w _ hw338_2)).trans hw338_2), ((HB.out.cell (World.block_lt_of_cell? w _ hw340_0)).trans hw340_0), ((HB.out.cell (World.block_lt_of_cell? w _ hw340_1)).trans hw340_1), ((HB.out.cell (World.block_lt_of_cell? w _ hw340_2)).trans hw340_2), ((HB.out.cell (World.block_lt_of_cell? w _ hw340_3)).trans hw340_3)⟩ (fun hHeld => ?_); refine with_tabW impl_BoxOf.tab4 impl_BoxOf.bits4 (fun HT_ HW_ => ?_)
                generalize w18.drew = w19 at HB HR337_1 HR337_2 HR338_1 HR338_2 hx337_0 hx337_1 hx337_2 hx338_0 hx338_1 hx338_2 hx340_0 hx340_1 hx340_2 hx340_3 hHeld ⊢
                refine pure_ (i := 0) (N := some 21) (v := ?_) (a' := ?_) #[true, false, false, false, false, false, false, false, false, false, false, false, false, false, false, false, false] rfl rfl (any_of HT_.out (by kernel_rfl)) (fun _ _ _ h => h) (Or.inl ⟨by rfl, ?_⟩) ?_ ?_
                rotate_left
                · intro w'
                  go_simp
                  with_reducible rfl
                rotate_left
                · simp only [Act.put, List.setIfInBounds_toArray, List.set_cons_zero, List.set_cons_succ, i64_w, i32_w]
                  rfl
                refine pure_ (i := 1) (N := some 22) (v := ?_) (a' := ?_) #[true, true, false, false, false, false, false, false, false, false, false, false, false, false, false, false, false] rfl rfl (any_of HT_.out (by kernel_rfl)) (fun _ _ _ h => h) (Or.inl ⟨by rfl, ?_⟩) ?_ ?_
                rotate_left
                · intro w'
                  go_simp
                  with_reducible rfl
                rotate_left
                · simp only [Act.put, List.setIfInBounds_toArray, List.set_cons_zero, List.set_cons_succ, i64_w, i32_w]
                  rfl
                refine pure_ (i := 2) (N := some 23) (v := ?_) (a' := ?_) #[true, true, true, false, false, false, false, false, false, false, false, false, false, false, false, false, false] rfl rfl (any_of HT_.out (by kernel_rfl)) (fun _ _ _ h => h) (Or.inl ⟨by rfl, ?_⟩) ?_ ?_
                rotate_left
                · intro w'
                  go_simp
                  with_reducible rfl
                rotate_left
                · simp only [Act.put, List.setIfInBounds_toArray, List.set_cons_zero, List.set_cons_succ, i64_w, i32_w]
                  rfl
                refine pure_ (i := 3) (N := some 24) (v := ?_) (a' := ?_) #[true, true, true, true, false, false, false, false, false, false, false, false, false, false, false, false, false] rfl rfl (any_of HT_.out (by kernel_rfl)) (fun _ _ _ h => h) (Or.inl ⟨by rfl, ?_⟩) ?_ ?_
                rotate_left
                · intro w'
                  go_simp
                  with_reducible rfl
                rotate_left
                · simp only [Act.put, List.setIfInBounds_toArray, List.set_cons_zero, List.set_cons_succ, i64_w, i32_w]
                  rfl
                refine pure_ (i := 4) (N := some 25) (v := ?_) (a' := ?_) #[true, true, true, true, true, false, false, false, false, false, false, false, false, false, false, false, false] rfl rfl (any_of HT_.out (by kernel_rfl)) (fun _ _ _ h => h) (Or.inl ⟨by rfl, ?_⟩) ?_ ?_
                rotate_left
                · intro w'
                  go_simp
                  with_reducible rfl
                rotate_left
                · simp only [Act.put, List.setIfInBounds_toArray, List.set_cons_zero, List.set_cons_succ, i64_w, i32_w]
                  rfl
                refine pure_ (i := 6) (N := some 27) (v := ?_) (a' := ?_) #[true, true, true, true, true, false, true, false, false, false, false, false, false, false, false, false, false] rfl rfl (any_of HT_.out (by kernel_rfl)) (fun _ _ _ h => h) (Or.inl ⟨by rfl, ?_⟩) ?_ ?_
                rotate_left
                · intro w'
                  go_simp
                  with_reducible rfl
                rotate_left
                · simp only [Act.put, List.setIfInBounds_toArray, List.set_cons_zero, List.set_cons_succ, i64_w, i32_w]
                  rfl
                refine pure_ (i := 7) (N := some 28) (v := ?_) (a' := ?_) #[true, true, true, true, true, false, true, true, false, false, false, false, false, false, false, false, false] rfl rfl (any_of HT_.out (by kernel_rfl)) (fun _ _ _ h => h) (Or.inl ⟨by rfl, ?_⟩) ?_ ?_
                rotate_left
                · intro w'
                  go_simp
                  with_reducible rfl
                rotate_left
                · simp only [Act.put, List.setIfInBounds_toArray, List.set_cons_zero, List.set_cons_succ, i64_w, i32_w]
                  rfl
                refine pure_ (i := 8) (N := some 29) (v := ?_) (a' := ?_) #[true, true, true, true, true, false, true, true, true, false, false, false, false, false, false, false, false] rfl rfl (any_of HT_.out (by kernel_rfl)) (fun _ _ _ h => h) (Or.inl ⟨by rfl, ?_⟩) ?_ ?_
                rotate_left
                · intro w'
                  go_simp
                  with_reducible rfl
                rotate_left
                · simp only [Act.put, List.setIfInBounds_toArray, List.set_cons_zero, List.set_cons_succ, i64_w, i32_w]
                  rfl
                refine pure_ (i := 10) (N := some 31) (v := ?_) (a' := ?_) #[true, true, true, true, true, false, true, true, true, false, true, false, false, false, false, false, false] rfl rfl (any_of HT_.out (by kernel_rfl)) (fun _ _ _ h => h) (Or.inl ⟨by rfl, ?_⟩) ?_ ?_
                rotate_left
                · intro w'
                  go_simp
                  with_reducible rfl
                rotate_left
                · simp only [Act.put, List.setIfInBounds_toArray, List.set_cons_zero, List.set_cons_succ, i64_w, i32_w]
                  rfl
                refine take_ (i := 5) (N := some 26) (v := ?_) (a' := ?_) #[true, true, true, true, true, true, true, true, true, false, true, false, false, false, false, false, false] rfl rfl (take_ofW HT_.out HW_.out (by kernel_rfl)) (fun _ _ _ h => h) (Or.inl ⟨by rfl, ?_⟩) hHeld ?_ ?_
                rotate_left
                · rintro w' ⟨s0, s1, s2, s3, s4, s5, s6, s7, s8, s9⟩
                  go_simp
                  with_reducible rfl
                rotate_left
                · simp only [Act.put, List.setIfInBounds_toArray, List.set_cons_zero, List.set_cons_succ, i64_w, i32_w]
                  rfl
                refine take_ (i := 9) (N := some 30) (v := ?_) (a' := ?_) #[true, true, true, true, true, true, true, true, true, true, true, false, false, false, false, false, false] rfl rfl (take_ofW HT_.out HW_.out (by kernel_rfl)) (fun _ _ _ h => h) (Or.inl ⟨by rfl, ?_⟩) hHeld ?_ ?_
                rotate_left
                · rintro w' ⟨s0, s1, s2, s3, s4, s5, s6, s7, s8, s9⟩
                  go_simp
                  with_reducible rfl
                rotate_left
                · simp only [Act.put, List.setIfInBounds_toArray, List.set_cons_zero, List.set_cons_succ, i64_w, i32_w]
                  rfl
                refine one_ (i := 11) (N := some 32) #[true, true, true, true, true, true, true, true, true, true, true, true, false, false, false, false, false] rfl rfl (one_of HT_.out (by kernel_rfl)) (by decide) (fun K hK => ?_)
                refine goes_ Try.func70 (by kernel_rfl) rfl #[.agg #[.int .i64 ((rd_T30 l0 t335).f0), .slice A337_1 ((rd_T30 l0 t335).f1).length c337_1, .slice (some ad340) ((rd_T30 l0 t335).f2).length c337_2], .int .i64 a1] (by rfl) rfl rfl (by (try simp only [List.map_toArray, List.map_cons, List.map_nil]); first | done | rfl | (simp only [List.length_drop, List.length_take]; rfl)) ?_
                with_reducible refine (impl_boxAt.calls ((rd_T30 l0 t335).f0) _ _ ((rd_T30 l0 t335).f1) _ _ ((rd_T30 l0 t335).f2) a1 t339 _ ?side1 ?side2 ?side3 ?side4 A14.out).mono ?_
                (case side1 => repeat (first | exact (Kd.C_below HR338_1.out HB.out) | (with_reducible refine Kd.C_alloc ?_ _) | (with_reducible refine Kd.C_drewN ?_ _) | (with_reducible refine Kd.C_drew ?_)))
                (case side2 => exact HC338_1.out)
                (case side3 => repeat (first | exact (Kd.C_below HR338_2.out HB.out) | (with_reducible refine Kd.C_alloc ?_ _) | (with_reducible refine Kd.C_drewN ?_ _) | (with_reducible refine Kd.C_drew ?_)))
                (case side4 => exact HC338_2.out)
                rintro e w20 ⟨rfl, hb⟩
                refine ⟨_, rfl, ?_⟩
                have n0_ := Aside0.mk (below_step (by repeat (first | (with_reducible first | exact HB.out | apply below_alloc | apply pw_below_drewN | apply below_drew1) | exact HB.out)) hb)
                clear HB
                have HB := n0_
                clear n0_
                (try clear hb)
                (try clear hb2)
                (try clear hk)
                (try clear hi)
                refine hK.out _ _ ⟨((HB.out.cell (World.block_lt_of_cell? w _ hw337_0)).trans hw337_0), ((HB.out.cell (World.block_lt_of_cell? w _ hw337_1)).trans hw337_1), ((HB.out.cell (World.block_lt_of_cell? w _ hw337_2)).trans hw337_2), ((HB.out.cell (World.block_lt_of_cell? w _ hw338_0)).trans hw338_0), ((HB.out.cell (World.block_lt_of_cell? w _ hw338_1)).trans hw338_1), ((HB.out.cell (World.block_lt_of_cell? w _ hw338_2)).trans hw338_2), ((HB.out.cell (World.block_lt_of_cell? w _ hw340_0)).trans hw340_0), ((HB.out.cell (World.block_lt_of_cell? w _ hw340_1)).trans hw340_1), ((HB.out.cell (World.block_lt_of_cell? w _ hw340_2)).trans hw340_2), ((HB.out.cell (World.block_lt_of_cell? w _ hw340_3)).trans hw340_3)⟩ (fun hHeld => ?_)
                clear hK K
                refine norm_ (a' := ?_) ?_ ?_
                rotate_left
                · show Act.put _ (some 32) _ = _
                  simp only [Act.put, List.setIfInBounds_toArray, List.set_cons_zero, List.set_cons_succ, i64_w, i32_w]
                  rfl
                refine pure_ (i := 12) (N := some 33) (v := ?_) (a' := ?_) #[true, true, true, true, true, true, true, true, true, true, true, true, true, false, false, false, false] rfl rfl (any_of HT_.out (by kernel_rfl)) (fun _ _ _ h => h) (Or.inl ⟨by rfl, ?_⟩) ?_ ?_
                rotate_left
                · intro w'
                  go_simp
                  with_reducible rfl
                rotate_left
                · simp only [Act.put, List.setIfInBounds_toArray, List.set_cons_zero, List.set_cons_succ, i64_w, i32_w]
                  rfl
                refine pure_ (i := 13) (N := some 34) (v := ?_) (a' := ?_) #[true, true, true, true, true, true, true, true, true, true, true, true, true, true, false, false, false] rfl rfl (any_of HT_.out (by kernel_rfl)) (fun _ _ _ h => h) (Or.inl ⟨by rfl, ?_⟩) ?_ ?_
                rotate_left
                · intro w'
                  go_simp
                  with_reducible rfl
                rotate_left
                · simp only [Act.put, List.setIfInBounds_toArray, List.set_cons_zero, List.set_cons_succ, i64_w, i32_w]
                  rfl
                refine pure_ (i := 15) (N := some 4) (v := ?_) (a' := ?_) #[true, true, true, true, true, true, true, true, true, true, true, true, true, true, false, true, false] rfl rfl (any_of HT_.out (by kernel_rfl)) (fun _ _ _ h => h) (Or.inl ⟨by rfl, ?_⟩) ?_ ?_
                rotate_left
                · intro w'
                  go_simp
                  with_reducible rfl
                rotate_left
                · simp only [Act.put, List.setIfInBounds_toArray, List.set_cons_zero, List.set_cons_succ, i64_w, i32_w]
                  rfl
                refine take_ (i := 14) (N := some 35) (v := ?_) (a' := ?_) #[true, true, true, true, true, true, true, true, true, true, true, true, true, true, true, true, false] rfl rfl (take_ofW HT_.out HW_.out (by kernel_rfl)) (fun _ _ _ h => h) (Or.inl ⟨by rfl, ?_⟩) hHeld ?_ ?_
                rotate_left
                · rintro w' ⟨s0, s1, s2, s3, s4, s5, s6, s7, s8, s9⟩
                  go_simp
                  with_reducible rfl
                rotate_left
                · simp only [Act.put, List.setIfInBounds_toArray, List.set_cons_zero, List.set_cons_succ, i64_w, i32_w]
                  rfl
                refine pure_ (i := 16) (N := some 5) (v := ?_) (a' := ?_) #[true, true, true, true, true, true, true, true, true, true, true, true, true, true, true, true, true] rfl rfl (any_of HT_.out (by kernel_rfl)) (fun _ _ _ h => h) (Or.inl ⟨by rfl, ?_⟩) ?_ ?_
                rotate_left
                · intro w'
                  go_simp
                  with_reducible rfl
                rotate_left
                · simp only [Act.put, List.setIfInBounds_toArray, List.set_cons_zero, List.set_cons_succ, i64_w, i32_w]
                  rfl
                refine done_ (done_of HT_.out (by kernel_rfl)) ?_
                try go_wp2
                go_ret2
                exact ⟨by first | rfl | (simp [errW_none, errW_some] <;> rfl) | (simp [*, errW_none, errW_some] <;> rfl), by repeat (first | (with_reducible first | exact HB.out | apply below_alloc | apply pw_below_drewN | apply below_drew1) | exact HB.out)⟩
              · rw [if_neg c16] at H
                exact absurd H (by simp)
            · rw [if_neg c15] at H
              exact absurd H (by simp)
          · rw [if_neg c13] at H
            exact absurd H (by simp)
        · rw [if_neg c12] at H
          exact absurd H (by simp)
  · replace c5 := Bool.eq_false_iff.mpr c5
    subst c5
    have H1 : (some ((-1), (-1))) = some (r1, r2) := by rw [if_neg (show ¬ (false = true) by decide)] at H; exact H
    clear H
    have H := H1
    clear H1
    simp only [Option.some.injEq, Prod.mk.injEq] at H
    obtain ⟨rfl, rfl⟩ := H
    go_enter Try.func33, Try.ntmps33
    go_wp2_with (first | ((with_reducible refine gate_callee (f := 69) rfl ?_); refine goesL_ (some 9) rfl rfl Try.func69 (by kernel_rfl) rfl #[.slice A0 l0.length c0, .int .i64 a1] rfl (by (try simp only [List.map_toArray, List.map_cons, List.map_nil]); first | done | rfl | (simp only [List.length_drop, List.length_take]; rfl)) ?_; (with_reducible refine (impl_columnOf.calls _ _ l0 a1 t335 _ ?side1 ?side2 A3.out).mono ?_); (case side1 => repeat (first | exact HR0.out | (with_reducible refine Kd.C_alloc ?_ _) | (with_reducible refine Kd.C_drewN ?_ _) | (with_reducible refine Kd.C_drew ?_))); (case side2 => exact HC0.out); rintro e w21 ⟨rfl, hb⟩; refine ⟨_, rfl, ?_⟩; have n0_ := Aside0.mk (below_step (by repeat (first | (with_reducible first | exact HB.out | apply below_alloc | apply pw_below_drewN | apply below_drew1) | exact HB.out)) hb); clear HB; have HB := n0_; clear n0_; (try clear hb); (try clear hb2); (try clear hk); (try clear hi)) | ((with_reducible refine gate_callee (f := 30) rfl ?_); refine goesL_ (some 11) rfl rfl Try.func30 (by kernel_rfl) rfl #[.slice A0 l0.length c0] rfl (by (try simp only [List.map_toArray, List.map_cons, List.map_nil]); first | done | rfl | (simp only [List.length_drop, List.length_take]; rfl)) ?_; (with_reducible refine (impl_BankOk.calls _ _ l0 false _ ?side1 ?side2 A4.out).mono ?_); (case side1 => repeat (first | exact (Kd.C_below HR0.out HB.out) | (with_reducible refine Kd.C_alloc ?_ _) | (with_reducible refine Kd.C_drewN ?_ _) | (with_reducible refine Kd.C_drew ?_))); (case side2 => exact HC0.out); rintro e w22 ⟨rfl, hb⟩; refine ⟨_, rfl, ?_⟩; have n0_ := Aside0.mk (below_step (by repeat (first | (with_reducible first | exact HB.out | apply below_alloc | apply pw_below_drewN | apply below_drew1) | exact HB.out)) hb); clear HB; have HB := n0_; clear n0_; (try clear hb); (try clear hb2); (try clear hk); (try clear hi)))
    go_ret2
    exact ⟨by first | rfl | (simp [errW_none, errW_some] <;> rfl) | (simp [*, errW_none, errW_some] <;> rfl), by repeat (first | (with_reducible first | exact HB.out | apply below_alloc | apply pw_below_drewN | apply below_drew1) | exact HB.out)⟩
def laws_FnExactBoxOf.j0 : Nat → List (S25) → List (S30) → Bool → Option (Bool)
  | 0, _, _, _ => none
  | k + 1, x0, x8, x38 => if x38 = true then (some false) else ((laws_toColumnS.f k x0).bind fun t352 => ((laws_eqColumnS.f k x8 t352).bind fun t355 => (if t355 = true then (some true) else (some false))))
def laws_FnExactBoxOf.f (k : Nat) (l0 : List (S25)) (a1 : Int) : Option (Bool) := (laws_szColumnS.f k l0 1048576).bind fun t341 => (if t341 < 0 then (some true) else ((laws_toColumnS.f k l0).bind fun t342 => ((spec_BoxOf.f k t342 a1).bind fun bt345 => ((laws_toColumnS.f k l0).bind fun t347 => ((impl_BoxOf.f t347 a1).bind fun bt350 => (if bt350.1 = bt345.1 then (laws_FnExactBoxOf.j0 k l0 t347 (bt350.2 != bt345.2)) else (laws_FnExactBoxOf.j0 k l0 t347 true)))))))
set_option maxHeartbeats 8000000 in
set_option maxRecDepth 100000 in
theorem laws_FnExactBoxOf.calls (k : Nat) (A0 : Option Addr) (c0 : Nat) (l0 : List (S25)) (a1 : Int) (r : Bool) (w : World) (hr0 : Kd.C k25 w A0 l0.length l0) (hc0 : l0.length ≤ c0) (hr_ : Aside0 (r = true)) (h : laws_FnExactBoxOf.f k l0 a1 = some r) :
    Calls Try.prog 6 #[.slice A0 l0.length c0, .int .i64 a1] w fun e w' => e = .returned (.bool r) ∧ Below w.heap.size w w' := by
  have HR0 := Aside0.mk hr0
  have HC0 := Aside0.mk hc0
  clear hr0 hc0
  have HB := Aside0.mk (Below.refl w.heap.size w)
  have H : ((laws_szColumnS.f k l0 1048576).bind fun t341 => (if t341 < 0 then (some true) else ((laws_toColumnS.f k l0).bind fun t342 => ((spec_BoxOf.f k t342 a1).bind fun bt345 => ((laws_toColumnS.f k l0).bind fun t347 => ((impl_BoxOf.f t347 a1).bind fun bt350 => (if bt350.1 = bt345.1 then (laws_FnExactBoxOf.j0 k l0 t347 (bt350.2 != bt345.2)) else (laws_FnExactBoxOf.j0 k l0 t347 true)))))))) = some r := h
  clear h
  replace H := Option.bind_eq_some_iff.mp H
  obtain ⟨t341, A30, H⟩ := H
  replace H : (if t341 < 0 then (some true) else ((laws_toColumnS.f k l0).bind fun t342 => ((spec_BoxOf.f k t342 a1).bind fun bt345 => ((laws_toColumnS.f k l0).bind fun t347 => ((impl_BoxOf.f t347 a1).bind fun bt350 => (if bt350.1 = bt345.1 then (laws_FnExactBoxOf.j0 k l0 t347 (bt350.2 != bt345.2)) else (laws_FnExactBoxOf.j0 k l0 t347 true))))))) = some r := H
  have A3 := Aside0.mk A30
  clear A30
  by_cases c4 : t341 < 0
  · rw [if_pos c4] at H
    have c4b0 : decide (t341 < 0) = true := decide_eq_true c4
    clear c4
    obtain rfl := Option.some.inj H
    go_enter Try.func6, Try.ntmps6
    go_wp2_with (first | ((with_reducible refine gate_callee (f := 27) rfl ?_); refine goesL_ (some 13) rfl rfl Try.func27 (by kernel_rfl) rfl #[.slice A0 l0.length c0, .int .i64 1048576] rfl (by (try simp only [List.map_toArray, List.map_cons, List.map_nil]); first | done | rfl | (simp only [List.length_drop, List.length_take]; rfl)) ?_; (with_reducible refine (laws_szColumnS.calls k _ _ l0 1048576 t341 _ ?side1 ?side2 A3.out).mono ?_); (case side1 => repeat (first | exact HR0.out | (with_reducible refine Kd.C_alloc ?_ _) | (with_reducible refine Kd.C_drewN ?_ _) | (with_reducible refine Kd.C_drew ?_))); (case side2 => exact HC0.out); rintro e w5 ⟨rfl, hb⟩; refine ⟨_, rfl, ?_⟩; have n0_ := Aside0.mk (below_step (by repeat (first | (with_reducible first | exact HB.out | apply below_alloc | apply pw_below_drewN | apply below_drew1) | exact HB.out)) hb); clear HB; have HB := n0_; clear n0_; (try clear hb); (try clear hb2); (try clear hk); (try clear hi)))
    go_ret
    exact ⟨by first | rfl | (simp [errW_none, errW_some] <;> rfl) | (simp [*, errW_none, errW_some] <;> rfl), by repeat (first | (with_reducible first | exact HB.out | apply below_alloc | apply pw_below_drewN | apply below_drew1) | exact HB.out)⟩
  · rw [if_neg c4] at H
    have c4b0 : decide (t341 < 0) = false := decide_eq_false c4
    clear c4
    replace H := Option.bind_eq_some_iff.mp H
    obtain ⟨t342, A60, H⟩ := H
    replace H : ((spec_BoxOf.f k t342 a1).bind fun bt345 => ((laws_toColumnS.f k l0).bind fun t347 => ((impl_BoxOf.f t347 a1).bind fun bt350 => (if bt350.1 = bt345.1 then (laws_FnExactBoxOf.j0 k l0 t347 (bt350.2 != bt345.2)) else (laws_FnExactBoxOf.j0 k l0 t347 true))))) = some r := H
    have A6 := Aside0.mk A60
    clear A60
    replace H := Option.bind_eq_some_iff.mp H
    obtain ⟨⟨t345, t346⟩, A70, H⟩ := H
    replace H : ((laws_toColumnS.f k l0).bind fun t347 => ((impl_BoxOf.f t347 a1).bind fun bt350 => (if bt350.1 = t345 then (laws_FnExactBoxOf.j0 k l0 t347 (bt350.2 != t346)) else (laws_FnExactBoxOf.j0 k l0 t347 true)))) = some r := H
    have A7 := Aside0.mk A70
    clear A70
    replace H := Option.bind_eq_some_iff.mp H
    obtain ⟨t347, A80, H⟩ := H
    replace H : ((impl_BoxOf.f t347 a1).bind fun bt350 => (if bt350.1 = t345 then (laws_FnExactBoxOf.j0 k l0 t347 (bt350.2 != t346)) else (laws_FnExactBoxOf.j0 k l0 t347 true))) = some r := H
    have A8 := Aside0.mk A80
    clear A80
    replace H := Option.bind_eq_some_iff.mp H
    obtain ⟨⟨t350, t351⟩, A90, H⟩ := H
    replace H : (if t350 = t345 then (laws_FnExactBoxOf.j0 k l0 t347 (t351 != t346)) else (laws_FnExactBoxOf.j0 k l0 t347 true)) = some r := H
    have A9 := Aside0.mk A90
    clear A90
    have HC10 := Aside0.mk H
    clear H
    go_enter Try.func6, Try.ntmps6
    go_upto_region 8 with (first | ((with_reducible refine gate_callee (f := 27) rfl ?_); refine goesL_ (some 13) rfl rfl Try.func27 (by kernel_rfl) rfl #[.slice A0 l0.length c0, .int .i64 1048576] rfl (by (try simp only [List.map_toArray, List.map_cons, List.map_nil]); first | done | rfl | (simp only [List.length_drop, List.length_take]; rfl)) ?_; (with_reducible refine (laws_szColumnS.calls k _ _ l0 1048576 t341 _ ?side1 ?side2 A3.out).mono ?_); (case side1 => repeat (first | exact HR0.out | (with_reducible refine Kd.C_alloc ?_ _) | (with_reducible refine Kd.C_drewN ?_ _) | (with_reducible refine Kd.C_drew ?_))); (case side2 => exact HC0.out); rintro e w11 ⟨rfl, hb⟩; refine ⟨_, rfl, ?_⟩; have n0_ := Aside0.mk (below_step (by repeat (first | (with_reducible first | exact HB.out | apply below_alloc | apply pw_below_drewN | apply below_drew1) | exact HB.out)) hb); clear HB; have HB := n0_; clear n0_; (try clear hb); (try clear hb2); (try clear hk); (try clear hi)) | ((with_reducible refine gate_callee (f := 29) rfl ?_); refine goesL_ (some 18) rfl rfl Try.func29 (by kernel_rfl) rfl #[.slice A0 l0.length c0] rfl (by (try simp only [List.map_toArray, List.map_cons, List.map_nil]); first | done | rfl | (simp only [List.length_drop, List.length_take]; rfl)) ?_; (with_reducible refine (laws_toColumnS.calls k _ _ l0 t342 _ ?side1 ?side2 A6.out).mono ?_); (case side1 => repeat (first | exact (Kd.C_below HR0.out HB.out) | (with_reducible refine Kd.C_alloc ?_ _) | (with_reducible refine Kd.C_drewN ?_ _) | (with_reducible refine Kd.C_drew ?_))); (case side2 => exact HC0.out); rintro e w12 ⟨v343, rfl, ho0, hb⟩; refine ⟨_, rfl, ?_⟩; have n0_ := Aside0.mk (Kd.S_lower ho0 (below_size (by repeat (first | (with_reducible first | exact HB.out | apply below_alloc | apply pw_below_drewN | apply below_drew1) | exact HB.out)))); have n1_ := Aside0.mk (below_step (by repeat (first | (with_reducible first | exact HB.out | apply below_alloc | apply pw_below_drewN | apply below_drew1) | exact HB.out)) hb); clear HB; have HO344 := n0_; have HB := n1_; clear n0_ n1_; (try clear hb); (try clear hb2); (try clear hk); (try clear hi); (try clear ho0); obtain ⟨Ao13, co13, eo13⟩ := Kd.S_slice HO344.out; subst eo13) | ((with_reducible refine gate_callee (f := 32) rfl ?_); refine goesL_ (some 20) rfl rfl Try.func32 (by kernel_rfl) rfl #[.slice Ao13 t342.length co13, .int .i64 a1] rfl (by (try simp only [List.map_toArray, List.map_cons, List.map_nil]); first | done | rfl | (simp only [List.length_drop, List.length_take]; rfl)) ?_; (with_reducible refine (spec_BoxOf.calls k _ _ t342 a1 t345 t346 _ ?side1 ?side2 A7.out).mono ?_); (case side1 => repeat (first | exact (Kd.S_reads' HO344.out).2.2 | (with_reducible refine Kd.C_alloc ?_ _) | (with_reducible refine Kd.C_drewN ?_ _) | (with_reducible refine Kd.C_drew ?_))); (case side2 => exact (Kd.S_reads' HO344.out).2.1); rintro e w14 ⟨rfl, hb⟩; refine ⟨_, rfl, ?_⟩; have n0_ := Aside0.mk (Kd.S_below (by (with_reducible repeat (first | apply Kd.S_alloc | apply Kd.S_drewN | apply Kd.S_drew)); exact HO344.out) hb); have n1_ := Aside0.mk (below_step (by repeat (first | (with_reducible first | exact HB.out | apply below_alloc | apply pw_below_drewN | apply below_drew1) | exact HB.out)) hb); clear HO344; clear HB; have HO344 := n0_; have HB := n1_; clear n0_ n1_; (try clear hb); (try clear hb2); (try clear hk); (try clear hi)) | ((with_reducible refine gate_callee (f := 29) rfl ?_); refine goesL_ (some 24) rfl rfl Try.func29 (by kernel_rfl) rfl #[.slice A0 l0.length c0] rfl (by (try simp only [List.map_toArray, List.map_cons, List.map_nil]); first | done | rfl | (simp only [List.length_drop, List.length_take]; rfl)) ?_; (with_reducible refine (laws_toColumnS.calls k _ _ l0 t347 _ ?side1 ?side2 A8.out).mono ?_); (case side1 => repeat (first | exact (Kd.C_below HR0.out HB.out) | (with_reducible refine Kd.C_alloc ?_ _) | (with_reducible refine Kd.C_drewN ?_ _) | (with_reducible refine Kd.C_drew ?_))); (case side2 => exact HC0.out); rintro e w15 ⟨v348, rfl, ho0, hb⟩; refine ⟨_, rfl, ?_⟩; have n0_ := Aside0.mk (Kd.S_elder' (by (with_reducible repeat (first | apply Kd.S_alloc | apply Kd.S_drewN | apply Kd.S_drew)); exact HO344.out) (Kd.S_base ho0) hb); have n1_ := Aside0.mk (Kd.S_lower (Kd.S_new' ho0 (Kd.S_lt (by (with_reducible repeat (first | apply Kd.S_alloc | apply Kd.S_drewN | apply Kd.S_drew)); exact HO344.out))) (below_size (by repeat (first | (with_reducible first | exact HB.out | apply below_alloc | apply pw_below_drewN | apply below_drew1) | exact HB.out)))); have n2_ := Aside0.mk (below_step (by repeat (first | (with_reducible first | exact HB.out | apply below_alloc | apply pw_below_drewN | apply below_drew1) | exact HB.out)) hb); clear HO344; clear HB; have HO344 := n0_; have HO349 := n1_; have HB := n2_; clear n0_ n1_ n2_; (try clear hb); (try clear hb2); (try clear hk); (try clear hi); (try clear ho0); obtain ⟨Ao16, co16, eo16⟩ := Kd.S_slice HO349.out; subst eo16) | ((with_reducible refine gate_callee (f := 33) rfl ?_); refine goesL_ (some 28) rfl rfl Try.func33 (by kernel_rfl) rfl #[.slice Ao16 t347.length co16, .int .i64 a1] rfl (by (try simp only [List.map_toArray, List.map_cons, List.map_nil]); first | done | rfl | (simp only [List.length_drop, List.length_take]; rfl)) ?_; (with_reducible refine (impl_BoxOf.calls _ _ t347 a1 t350 t351 _ ?side1 ?side2 A9.out).mono ?_); (case side1 => repeat (first | exact (Kd.S_reads' HO349.out).2.2 | (with_reducible refine Kd.C_alloc ?_ _) | (with_reducible refine Kd.C_drewN ?_ _) | (with_reducible refine Kd.C_drew ?_))); (case side2 => exact (Kd.S_reads' HO349.out).2.1); rintro e w17 ⟨rfl, hb⟩; refine ⟨_, rfl, ?_⟩; have n0_ := Aside0.mk (Kd.S_below (by (with_reducible repeat (first | apply Kd.S_alloc | apply Kd.S_drewN | apply Kd.S_drew)); exact HO344.out) hb); have n1_ := Aside0.mk (Kd.S_below (by (with_reducible repeat (first | apply Kd.S_alloc | apply Kd.S_drewN | apply Kd.S_drew)); exact HO349.out) hb); have n2_ := Aside0.mk (below_step (by repeat (first | (with_reducible first | exact HB.out | apply below_alloc | apply pw_below_drewN | apply below_drew1) | exact HB.out)) hb); clear HO344; clear HO349; clear HB; have HO344 := n0_; have HO349 := n1_; have HB := n2_; clear n0_ n1_ n2_; (try clear hb); (try clear hb2); (try clear hk); (try clear hi)))
    (try simp only [Act.put, List.setIfInBounds_toArray, List.set_cons_zero, List.set_cons_succ])
    go_cut [38] (fun v38 wc => ∃ (kq : Nat) (x38_9 : Bool), v38 = .bool x38_9 ∧ Aside0 (laws_FnExactBoxOf.j0 kq l0 t347 x38_9 = some r) ∧ Aside0 (kq ≤ k) ∧ Aside0 (Kd.S k30 30 wc w.heap.size (fun _ => True) (.slice Ao16 t347.length co16) t347) ∧ Aside0 (Below w.heap.size w wc))
    case first =>
      have H := HC10.out
      clear HC10
      by_cases c18 : t350 = t345
      · rw [if_pos c18] at H
        have c18b0 : (t350 == t345) = true := beq_iff_eq.mpr c18
        have c18b1 : (t350 != t345) = false := bne_eq_false_iff_eq.mpr c18
        clear c18
        (first | rw [c18b0] | (simp only [i64_w, i32_w]; rw [c18b0]) | skip)
        have H' := Aside0.mk H
        clear H
        go_wp2
        go_meet
        case rel => exact ⟨_, ((t351 != t346)), (by first | rfl | (simp; done) | (simp [*]; done)), H', ⟨by first | omega | exact Nat.le_refl _⟩, ⟨by (with_reducible repeat (first | apply Kd.S_alloc | apply Kd.S_drewN | apply Kd.S_drew)); exact Kd.S_mono HO349.out (fun _ hk => trivial)⟩, ⟨by repeat (first | (with_reducible first | exact HB.out | apply below_alloc | apply pw_below_drewN | apply below_drew1) | exact HB.out)⟩⟩
      · rw [if_neg c18] at H
        have c18b0 : (t350 == t345) = false := beq_eq_false_iff_ne.mpr c18
        have c18b1 : (t350 != t345) = true := bne_iff_ne.mpr c18
        (first | rw [c18b0] | (simp only [i64_w, i32_w]; rw [c18b0]) | skip)
        have H' := Aside0.mk H
        clear H
        go_wp2
        go_meet
        case rel => exact ⟨_, (true), (by first | rfl | (simp; done) | (simp [*]; done)), H', ⟨by first | omega | exact Nat.le_refl _⟩, ⟨by (with_reducible repeat (first | apply Kd.S_alloc | apply Kd.S_drewN | apply Kd.S_drew)); exact Kd.S_mono HO349.out (fun _ hk => trivial)⟩, ⟨by repeat (first | (with_reducible first | exact HB.out | apply below_alloc | apply pw_below_drewN | apply below_drew1) | exact HB.out)⟩⟩
    case rest =>
      clear HC10
      try clear c1
      try clear c2
      try clear p2
      try clear c3
      try clear c4
      try clear c4b0
      try clear c6
      try clear c18
      try clear c18b0
      try clear c18b1
      obtain ⟨kq, x38_9, rfl, HA, HJ9, HO_8, HB⟩ := hcut
      cases kq with
      | zero => exact absurd HA.out (by simp [laws_FnExactBoxOf.j0])
      | succ kj9 =>
        have H := HA.out
        clear HA
        simp only [laws_FnExactBoxOf.j0] at H
        by_cases c19 : x38_9 = true
        · subst c19
          have H1 : (some false) = some r := by rw [if_pos rfl] at H; exact H
          clear H
          have H := H1
          clear H1
          exact absurd (Option.some.inj H) (by rw [hr_.out]; decide)
        · replace c19 := Bool.eq_false_iff.mpr c19
          subst c19
          have H1 : ((laws_toColumnS.f kj9 l0).bind fun t352 => ((laws_eqColumnS.f kj9 t347 t352).bind fun t355 => (if t355 = true then (some true) else (some false)))) = some r := by rw [if_neg (show ¬ (false = true) by decide)] at H; exact H
          clear H
          have H := H1
          clear H1
          replace H := Option.bind_eq_some_iff.mp H
          obtain ⟨t352, A200, H⟩ := H
          replace H : ((laws_eqColumnS.f kj9 t347 t352).bind fun t355 => (if t355 = true then (some true) else (some false))) = some r := H
          have A20 := Aside0.mk A200
          clear A200
          replace H := Option.bind_eq_some_iff.mp H
          obtain ⟨t355, A210, H⟩ := H
          replace H : (if t355 = true then (some true) else (some false)) = some r := H
          have A21 := Aside0.mk A210
          clear A210
          by_cases c22 : t355 = true
          · subst c22
            have H1 : (some true) = some r := by rw [if_pos rfl] at H; exact H
            clear H
            have H := H1
            clear H1
            obtain rfl := Option.some.inj H
            go_wp2_with (first | ((with_reducible refine gate_callee (f := 29) rfl ?_); refine goesL_ (some 41) rfl rfl Try.func29 (by kernel_rfl) rfl #[.slice A0 l0.length c0] rfl (by (try simp only [List.map_toArray, List.map_cons, List.map_nil]); first | done | rfl | (simp only [List.length_drop, List.length_take]; rfl)) ?_; (with_reducible refine (laws_toColumnS.calls kj9 _ _ l0 t352 _ ?side1 ?side2 A20.out).mono ?_); (case side1 => repeat (first | exact (Kd.C_below HR0.out HB.out) | (with_reducible refine Kd.C_alloc ?_ _) | (with_reducible refine Kd.C_drewN ?_ _) | (with_reducible refine Kd.C_drew ?_))); (case side2 => exact HC0.out); rintro e w23 ⟨v353, rfl, ho0, hb⟩; refine ⟨_, rfl, ?_⟩; have n0_ := Aside0.mk (Kd.S_elder' (by (with_reducible repeat (first | apply Kd.S_alloc | apply Kd.S_drewN | apply Kd.S_drew)); exact HO_8.out) (Kd.S_base ho0) hb); have n1_ := Aside0.mk (Kd.S_lower (Kd.S_new' ho0 (Kd.S_lt (by (with_reducible repeat (first | apply Kd.S_alloc | apply Kd.S_drewN | apply Kd.S_drew)); exact HO_8.out))) (below_size (by repeat (first | (with_reducible first | exact HB.out | apply below_alloc | apply pw_below_drewN | apply below_drew1) | exact HB.out)))); have n2_ := Aside0.mk (below_step (by repeat (first | (with_reducible first | exact HB.out | apply below_alloc | apply pw_below_drewN | apply below_drew1) | exact HB.out)) hb); clear HO_8; clear HB; have HO_8 := n0_; have HO354 := n1_; have HB := n2_; clear n0_ n1_ n2_; (try clear hb); (try clear hb2); (try clear hk); (try clear hi); (try clear ho0); obtain ⟨Ao24, co24, eo24⟩ := Kd.S_slice HO354.out; subst eo24) | ((with_reducible refine gate_callee (f := 31) rfl ?_); refine goesL_ (some 42) rfl rfl Try.func31 (by kernel_rfl) rfl #[.slice Ao16 t347.length co16, .slice Ao24 t352.length co24] rfl (by (try simp only [List.map_toArray, List.map_cons, List.map_nil]); first | done | rfl | (simp only [List.length_drop, List.length_take]; rfl)) ?_; (with_reducible refine (laws_eqColumnS.calls kj9 _ _ t347 _ _ t352 true _ ?side1 ?side2 ?side3 ?side4 A21.out).mono ?_); (case side1 => repeat (first | exact (Kd.S_reads' HO_8.out).2.2 | (with_reducible refine Kd.C_alloc ?_ _) | (with_reducible refine Kd.C_drewN ?_ _) | (with_reducible refine Kd.C_drew ?_))); (case side2 => exact (Kd.S_reads' HO_8.out).2.1); (case side3 => repeat (first | exact (Kd.S_reads' HO354.out).2.2 | (with_reducible refine Kd.C_alloc ?_ _) | (with_reducible refine Kd.C_drewN ?_ _) | (with_reducible refine Kd.C_drew ?_))); (case side4 => exact (Kd.S_reads' HO354.out).2.1); rintro e w25 ⟨rfl, hb⟩; refine ⟨_, rfl, ?_⟩; have n0_ := Aside0.mk (Kd.S_below (by (with_reducible repeat (first | apply Kd.S_alloc | apply Kd.S_drewN | apply Kd.S_drew)); exact HO_8.out) hb); have n1_ := Aside0.mk (Kd.S_below (by (with_reducible repeat (first | apply Kd.S_alloc | apply Kd.S_drewN | apply Kd.S_drew)); exact HO354.out) hb); have n2_ := Aside0.mk (below_step (by repeat (first | (with_reducible first | exact HB.out | apply below_alloc | apply pw_below_drewN | apply below_drew1) | exact HB.out)) hb); clear HO_8; clear HO354; clear HB; have HO_8 := n0_; have HO354 := n1_; have HB := n2_; clear n0_ n1_ n2_; (try clear hb); (try clear hb2); (try clear hk); (try clear hi)))
            go_ret
            exact ⟨by first | rfl | (simp [errW_none, errW_some] <;> rfl) | (simp [*, errW_none, errW_some] <;> rfl), by repeat (first | (with_reducible first | exact HB.out | apply below_alloc | apply pw_below_drewN | apply below_drew1) | exact HB.out)⟩
          · replace c22 := Bool.eq_false_iff.mpr c22
            subst c22
            have H1 : (some false) = some r := by rw [if_neg (show ¬ (false = true) by decide)] at H; exact H
            clear H
            have H := H1
            clear H1
            exact absurd (Option.some.inj H) (by rw [hr_.out]; decide)
end Go.Proofs.Ytghfeapncmlihaa.A

namespace Go.Proofs.Ytghfeapncmlihaa.A
open Go.ChangeShapes Go.WideShapes Go.ChangeAt Go.RowKit Go.Proofs.YtghfeapncmlihaaW.PrintWords Go.Proofs.YtghfeapncmlihaaW.PrintLast
set_option linter.unusedVariables false
set_option linter.unusedSimpArgs false
def Opn {α : Type} (P : Program) (t : TypeId) (d : Kd α) (ok : α → Prop) : Prop :=
  ∀ {H : Type} {enc : TypeId × Value → H} (w : World) (fuel : Nat) (cs : List Value) (x : DataW H × List MemPlace),
    DataW.trod enc P w 0 (fun _ => true) true fuel t cs = some x → ∃ a, d.K w a cs ∧ ok a
theorem opn_int {P : Program} {t : TypeId} {k : IntKind} (ht : P.underlying t = some (.int k)) : Opn P t (Kd.int k) (fun a => (Lit.int k a).wf = true) := by
  intro H enc w fuel cs x h
  obtain ⟨n, rfl, _, hw⟩ := DataW.trod_int ht h
  exact ⟨n, rfl, hw⟩
theorem opn_bool {P : Program} {t : TypeId} (ht : P.underlying t = some .bool) : Opn P t Kd.bool (fun _ => True) := by
  intro H enc w fuel cs x h
  obtain ⟨b, rfl, _⟩ := DataW.trod_bool ht h
  exact ⟨b, rfl, trivial⟩
theorem add_add_ (a : Addr) (i j : Nat) : (a.add i).add j = a.add (i + j) := by
  unfold Addr.add
  by_cases hi : i = 0
  · subst hi; simp
  · by_cases hj : j = 0
    · subst hj; simp
    · rw [if_neg hi, if_neg hj, if_neg (by omega)]
      simp; omega
theorem cells_at {w : World} {base : Nat} {a : Addr} {n : Nat} {cs : List Value} (h : w.cells? base a n = some cs) : cs.length = n ∧ ∀ i u, cs[i]? = some u → w.cell? (a.add i) = some u := by
  unfold World.cells? at h
  split at h
  · have l := mapM_some_length h
    simp only [List.length_range] at l
    refine ⟨l, fun i u hu => ?_⟩
    have hi := (List.getElem?_eq_some_iff.1 hu).1
    have := mapM_some_get h i i (by simp [show i < n by omega])
    rw [this]; exact hu
  · cases h
theorem choose_list {α : Type} {Q : Nat → α → Prop} (m : Nat) (h : ∀ i, i < m → ∃ v, Q i v) : ∃ l : List α, l.length = m ∧ ∀ i v, l[i]? = some v → Q i v := by
  induction m with
  | zero => exact ⟨[], rfl, fun i v hv => by simp at hv⟩
  | succ m ih =>
    obtain ⟨l, hl, hq⟩ := ih (fun i hi => h i (by omega))
    obtain ⟨v, hv⟩ := h m (by omega)
    refine ⟨l ++ [v], by simp [hl], fun i u hu => ?_⟩
    rcases Nat.lt_trichotomy i m with hi | hi | hi
    · rw [List.getElem?_append_left (by omega)] at hu
      exact hq i u hu
    · subst hi
      rw [List.getElem?_append_right (by omega), hl, Nat.sub_self] at hu
      have : v = u := by simpa using hu
      exact this ▸ hv
    · rw [List.getElem?_eq_none (by simp; omega)] at hu
      cases hu
theorem opn_slice {α : Type} {P : Program} {t e : TypeId} {d : Kd α} {ok : α → Prop} (ht : P.underlying t = some (.slice e)) (hs : P.cellsOf e = d.sz) (ho : Opn P e d ok) :
    Opn P t (Kd.slice e d) (fun l => l.length ≤ maxLen ∧ ∀ x ∈ l, ok x) := by
  intro H enc w fuel cs x h
  rcases DataW.trod_slice ht h with ⟨rfl, _⟩ | ⟨a, len, cap, elems, rest, n, _, rfl, _, _, hl, hm, hlen, hel, _, _⟩
  · exact ⟨[], ⟨none, 0, rfl, Nat.le_refl _, rfl, Nat.zero_le _, fun h => absurd h (by simp)⟩, by simp, by simp⟩
  · have each : ∀ i, i < len → ∃ v, ok v ∧ ∃ c, c.length = d.sz ∧ d.K w v c ∧ ∀ j u, c[j]? = some u → w.cell? (a.add (i * d.sz + j)) = some u := by
      intro i hi
      have h1 := hel i hi
      rw [List.getElem?_eq_getElem (by omega)] at h1
      obtain ⟨c, hc, hr⟩ := Option.bind_eq_some_iff.1 h1
      obtain ⟨v, hk, hv⟩ := ho w n c _ hr
      obtain ⟨_, hcell⟩ := cells_at hc
      refine ⟨v, hv, c, d.K_len hk, hk, fun j u hu => ?_⟩
      have := hcell j u hu
      rw [hs, add_add_] at this
      exact this
    obtain ⟨l, hll, hq⟩ := choose_list len each
    subst hll
    have hm' : l.length ≤ maxLen := Nat.le_trans hl hm
    refine ⟨l, ⟨some a, cap, rfl, hl, rfl, by unfold maxLen at hm'; omega, fun _ => ⟨a, rfl, fun j p hp => ?_⟩⟩, hm', fun v hv => ?_⟩
    · obtain ⟨_, c, h1, h2, h3⟩ := hq j p hp
      exact ⟨c, h1, h2, h3⟩
    · obtain ⟨i, hi, rfl⟩ := List.getElem_of_mem hv
      exact (hq i _ (List.getElem?_eq_getElem hi)).1
theorem opn_top {α : Type} {H : Type} {enc : TypeId × Value → H} {P : Program} {w : World} {t : TypeId} {d : Kd α} {ok : α → Prop} {v : Value} {x : DataW H} {ps : List MemPlace} (ho : Opn P t d ok)
    (h : DataW.Trod enc P w 0 (fun _ => true) true t v x ps) : ∃ a, d.K w a v.cells.toList ∧ ok a := by
  obtain ⟨fuel, hf⟩ := h
  exact ho w fuel _ _ hf
theorem slice_eq {a b : Option Addr} {l m c q : Nat} (h : (Value.slice a l c).cells.toList = [.slice b m q]) : a = b ∧ l = m ∧ c = q := by
  simpa [Value.cells] using h
abbrev ok3 (a : Int) : Prop := (Lit.int .i64 a).wf = true
abbrev ok4 (_ : Bool) : Prop := True
abbrev ok22 (l : List Int) : Prop := l.length ≤ maxLen ∧ ∀ x ∈ l, ok3 x
abbrev ok93 (x : S93) : Prop := ok3 x.f0 ∧ ok3 x.f1 ∧ ok3 x.f2 ∧ ok4 x.f3
abbrev ok23 (l : List (S93)) : Prop := l.length ≤ maxLen ∧ ∀ x ∈ l, ok93 x
abbrev ok25 (x : S25) : Prop := ok3 x.f0 ∧ ok22 x.f1 ∧ ok23 x.f2
abbrev ok41 (l : List (S25)) : Prop := l.length ≤ maxLen ∧ ∀ x ∈ l, ok25 x
theorem op3 : Opn Try.prog 3 (Kd.int .i64) ok3 := opn_int Try.underlying3
theorem op4 : Opn Try.prog 4 Kd.bool ok4 := opn_bool Try.underlying4
theorem op22 : Opn Try.prog 22 (Kd.slice 3 (Kd.int .i64)) ok22 := opn_slice Try.underlying22 (by kernel_rfl) op3
set_option maxRecDepth 100000 in
theorem op93 : Opn Try.prog 93 k93 ok93 := by
  intro H enc w fuel cs x h
  obtain ⟨xs, n, _, _, hl, hlen, hf⟩ := DataW.trod_struct Try.underlying93 h
  have hl' : cs.length = 4 := hl.trans (by kernel_rfl)
  match cs, hl' with
  | [c0, c1, c2, c3], _ =>
    match xs, hlen with
    | [y0, y1, y2, y3], _ =>
    obtain ⟨a0, q0, z0⟩ := op3 (H := H) (enc := enc) w n [c0] y0 (hf 0 _ rfl)
    obtain ⟨a1, q1, z1⟩ := op3 (H := H) (enc := enc) w n [c1] y1 (hf 1 _ rfl)
    obtain ⟨a2, q2, z2⟩ := op3 (H := H) (enc := enc) w n [c2] y2 (hf 2 _ rfl)
    obtain ⟨a3, q3, z3⟩ := op4 (H := H) (enc := enc) w n [c3] y3 (hf 3 _ rfl)
    exact ⟨⟨a0, a1, a2, a3⟩, ⟨[c0], [c1, c2, c3], rfl, q0, ⟨[c1], [c2, c3], rfl, q1, ⟨[c2], [c3], rfl, q2, q3⟩⟩⟩, ⟨z0, z1, z2, z3⟩⟩
theorem op23 : Opn Try.prog 23 (Kd.slice 93 k93) ok23 := opn_slice Try.underlying23 (by kernel_rfl) op93
set_option maxRecDepth 100000 in
theorem op25 : Opn Try.prog 25 k25 ok25 := by
  intro H enc w fuel cs x h
  obtain ⟨xs, n, _, _, hl, hlen, hf⟩ := DataW.trod_struct Try.underlying25 h
  have hl' : cs.length = 3 := hl.trans (by kernel_rfl)
  match cs, hl' with
  | [c0, c1, c2], _ =>
    match xs, hlen with
    | [y0, y1, y2], _ =>
    obtain ⟨a0, q0, z0⟩ := op3 (H := H) (enc := enc) w n [c0] y0 (hf 0 _ rfl)
    obtain ⟨a1, q1, z1⟩ := op22 (H := H) (enc := enc) w n [c1] y1 (hf 1 _ rfl)
    obtain ⟨a2, q2, z2⟩ := op23 (H := H) (enc := enc) w n [c2] y2 (hf 2 _ rfl)
    exact ⟨⟨a0, a1, a2⟩, ⟨[c0], [c1, c2], rfl, q0, ⟨[c1], [c2], rfl, q1, q2⟩⟩, ⟨z0, z1, z2⟩⟩
theorem op41 : Opn Try.prog 41 (Kd.slice 25 k25) ok41 := opn_slice Try.underlying41 (by kernel_rfl) op25
end Go.Proofs.Ytghfeapncmlihaa.A
