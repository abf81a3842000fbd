/- Used by the law FnExactBankTake. -/
import Derived.Test.YtbpjidekjogfeaaZFnExactBankTakex11
import Derived.Test.YtbpjidekjogfeaaZFnExactBankTakex12
import Derived.Test.YtbpjidekjogfeaaZFnExactBankTakex15
import Derived.Test.YtbpjidekjogfeaaZFnExactBankTakeh
namespace Go.Proofs.Ytbpjidekjogfeaa.A
open Go.RowKit Go.Proofs.YtbpjidekjogfeaaW.PrintWords Go.Proofs.YtbpjidekjogfeaaW.PrintLast Go.Proofs.YtbpjidekjogfeaaW.PrintMore
attribute [local go_sem] max2_int min2_int max_two min_two max_three min_three max_four min_four   
set_option linter.unusedVariables false
set_option linter.unusedSimpArgs false
mutual
def spec_BoxOf.l0 : Nat → List (S41) → Int → Int → Option (Int × Int)
 | 0, _, _, _ => none
 | k + 1, x0, x1, x6 => if x6 < (x0.length : Int) then ((spec_BankOk.f k x0).bind fun t327 => (spec_BoxOf.j1 k x0 x1 x6 t327)) else (spec_BoxOf.j1 k x0 x1 x6 false)
def spec_BoxOf.j1 : Nat → List (S41) → Int → Int → Bool → Option (Int × Int)
 | 0, _, _, _, _ => none
 | k + 1, x0, x1, x6, x15 => if x15 = true then (if 0 ≤ x6 then (if x6 < (x0.length : Int) then ((spec_l02Box.f k ((rd_T41 x0 x6).f0) ((rd_T41 x0 x6).f1) ((rd_T41 x0 x6).f2) x1).bind fun t329 => (if t329 ≥ 0 then (if 0 ≤ t329 then (if t329 < (((rd_T41 x0 x6).f2).length : Int) then (some (x6, (rd_T98 ((rd_T41 x0 x6).f2) t329).f0)) else (none)) else (none)) else (spec_BoxOf.l0 k x0 x1 (wrap64 (x6 + 1))))) else (none)) else (none)) else (some ((-1), (-1)))
end
def spec_BoxOf.f (k : Nat) (l0 : List (S41)) (a1 : Int) : Option (Int × Int) := spec_BoxOf.l0 k l0 a1 0
set_option maxHeartbeats 8000000 in
set_option maxRecDepth 100000 in
theorem spec_BoxOf.calls (k : Nat) (A0 : Option Addr) (c0 : Nat) (l0 : List (S41)) (a1 : Int) (r1 : Int) (r2 : Int) (w : World) (hr0 : Kd.C k41 w A0 l0.length l0) (hc0 : l0.length ≤ c0) (h : spec_BoxOf.f k l0 a1 = some (r1, r2)) :
  Calls Try.prog 70 #[.slice A0 l0.length c0, .int .i64 a1] w fun e w' => e = .returned (.tuple #[.int .i64 r1, .int .i64 r2]) ∧ Below w.heap.size w w' := by
 have hu41 := Try.underlying41
 have HR0 := Aside0.mk hr0
 have HC0 := Aside0.mk hc0
 clear hr0 hc0
 have HB := Aside0.mk (Below.refl w.heap.size w)
 have H : (spec_BoxOf.l0 k l0 a1 0) = some (r1, r2) := h
 clear h
 have H' := Aside0.mk H
 clear H
 go_enter Try.func70, Try.ntmps70
 go_wp2
 repeat (go_quiet (fail); try go_wp2)
 go_loopg [6] k (fun kq v6 w' => ∃ (x6_1 : Int), v6 = .int .i64 x6_1 ∧ Aside0 (spec_BoxOf.l0 kq l0 a1 x6_1 = some (r1, r2)) ∧ Aside0 (kq ≤ k) ∧ Aside0 (Below w.heap.size w w'))
 case atStart => exact ⟨(0), (by first | rfl | (simp; done) | (simp [*]; done)), H', ⟨Nat.le_refl _⟩, ⟨bl HB.out⟩⟩
 case round =>
  clear H'
  try clear p2
  obtain ⟨x6_1, rfl, HA, HK1, HB⟩ := hrel
  cases gk with
  | zero => exact absurd HA.out (by simp [spec_BoxOf.l0])
  | succ k1 =>
   have H := HA.out
   clear HA
   simp only [spec_BoxOf.l0] at H
   have HC3 := Aside0.mk H
   clear H
   go_upto_region 2 with (fail)
   repeat (go_quiet (fail); go_upto_region 2 with (fail))
   go_cut [15] (fun v15 wc => ∃ (kq : Nat) (x15_2 : Bool), v15 = .bool x15_2 ∧ Aside0 (spec_BoxOf.j1 kq l0 a1 x6_1 x15_2 = some (r1, r2)) ∧ Aside0 (kq ≤ k1) ∧ Aside0 (Below w.heap.size w wc))
   case first =>
    have H := HC3.out
    clear HC3
    by_cases c4 : x6_1 < (l0.length : Int)
    ·rw [if_pos c4] at H
     have c4b0 : decide (x6_1 < (l0.length : Int)) = true := decide_eq_true c4
     clear c4
     (first | rw [c4b0] | (simp only [i64_w, i32_w]; rw [c4b0]) | skip)
     replace H := Option.bind_eq_some_iff.mp H
     obtain ⟨t327, A50, H⟩ := H
     try dsimp only at H
     have A5 := Aside0.mk A50
     clear A50
     have H' := Aside0.mk H
     clear H
     go_wp2_with (first | (go_at_call 61; (with_reducible refine (spec_BankOk.calls k1 _ _ l0 t327 _ ?side1 ?side2 A5.out).mono ?_); (case side1 => exact cb (Kd.C_below HR0.out HB.out)); (case side2 => exact HC0.out); rintro e w6 ⟨rfl, hb⟩; replace HB := Aside0.mk (below_step (bl HB.out) hb); (try clear hb); (try clear hb2); (try clear hk); (try clear hi)))
     repeat (go_quiet (first | (go_at_call 61; (with_reducible refine (spec_BankOk.calls k1 _ _ l0 t327 _ ?side1 ?side2 A5.out).mono ?_); (case side1 => exact cb (Kd.C_below HR0.out HB.out)); (case side2 => exact HC0.out); rintro e w6 ⟨rfl, hb⟩; replace HB := Aside0.mk (below_step (bl HB.out) hb); (try clear hb); (try clear hb2); (try clear hk); (try clear hi))); try go_wp2_with (first | (go_at_call 61; (with_reducible refine (spec_BankOk.calls k1 _ _ l0 t327 _ ?side1 ?side2 A5.out).mono ?_); (case side1 => exact cb (Kd.C_below HR0.out HB.out)); (case side2 => exact HC0.out); rintro e w6 ⟨rfl, hb⟩; replace HB := Aside0.mk (below_step (bl HB.out) hb); (try clear hb); (try clear hb2); (try clear hk); (try clear hi))))
     go_meet
     case rel => exact ⟨_, (t327), (by first | rfl | (simp; done) | (simp [*]; done)), H', ⟨by have := HK1.out; first | omega | exact Nat.le_refl _⟩, ⟨bl HB.out⟩⟩
    ·rw [if_neg c4] at H
     have c4b0 : decide (x6_1 < (l0.length : Int)) = false := decide_eq_false c4
     clear c4
     (first | rw [c4b0] | (simp only [i64_w, i32_w]; rw [c4b0]) | skip)
     have H' := Aside0.mk H
     clear H
     go_wp2
     repeat (go_quiet (fail); try go_wp2)
     go_meet
     case rel => exact ⟨_, (false), (by first | rfl | (simp; done) | (simp [*]; done)), H', ⟨by have := HK1.out; first | omega | exact Nat.le_refl _⟩, ⟨bl HB.out⟩⟩
   case rest =>
    clear HC3
    try clear p2
    try clear c4
    try clear c4b0
    try clear p2
    obtain ⟨kq, x15_2, rfl, HA, HJ2, HB⟩ := hcut
    cases kq with
    | zero => exact absurd HA.out (by simp [spec_BoxOf.j1])
    | succ kj2 =>
     have H := HA.out
     clear HA
     simp only [spec_BoxOf.j1] at H
     by_cases c7 : x15_2 = true
     ·subst c7
      rw [if_pos rfl] at H
      by_cases c8 : 0 ≤ x6_1
      ·rw [if_pos c8] at H
       have c8b0 : decide (0 ≤ x6_1) = true := decide_eq_true c8
       clear c8
       by_cases c9 : x6_1 < (l0.length : Int)
       ·rw [if_pos c9] at H
        have c9b0 : decide (x6_1 < (l0.length : Int)) = true := decide_eq_true c9
        clear c9
        replace H := Option.bind_eq_some_iff.mp H
        obtain ⟨t329, A100, H⟩ := H
        try dsimp only at H
        have A10 := Aside0.mk A100
        clear A100
        by_cases c11 : t329 ≥ 0
        ·rw [if_pos c11] at H
         have c11b0 : decide (0 ≤ t329) = true := decide_eq_true c11
         clear c11
         by_cases c12 : 0 ≤ t329
         ·rw [if_pos c12] at H
          have c12b0 : decide (0 ≤ t329) = true := decide_eq_true c12
          clear c12
          by_cases c13 : t329 < (((rd_T41 l0 x6_1).f2).length : Int)
          ·rw [if_pos c13] at H
           have c13b0 : decide (t329 < (((rd_T41 l0 x6_1).f2).length : Int)) = true := decide_eq_true c13
           clear c13
           simp only [Option.some.injEq, Prod.mk.injEq] at H
           obtain ⟨rfl, rfl⟩ := H
           have p328 : 0 ≤ (x6_1 : Int) := of_decide_eq_true asm
           have q328 : x6_1 < (l0.length : Int) := of_decide_eq_true asm
           obtain ⟨ad328, A328_1, c328_1, A328_2, c328_2, e328, hx328_0, hx328_1, hx328_2, hl328_1, hi328_1, hl328_2, hi328_2⟩ := at_T41 HR0.out x6_1 p328 q328
           cases e328
           replace hx328_0 := (HB.out.cell (World.block_lt_of_cell? w _ hx328_0)).trans hx328_0
           replace hx328_1 := (HB.out.cell (World.block_lt_of_cell? w _ hx328_1)).trans hx328_1
           replace hx328_2 := (HB.out.cell (World.block_lt_of_cell? w _ hx328_2)).trans hx328_2
           have HR328_1 := Aside0.mk hi328_1
           have HC328_1 := Aside0.mk hl328_1
           clear hi328_1 hl328_1
           have HR328_2 := Aside0.mk hi328_2
           have HC328_2 := Aside0.mk hl328_2
           clear hi328_2 hl328_2
           replace p328 := eq_true p328
           replace q328 := eq_true q328
           go_wp2_with (first | (go_at_call 85; (with_reducible refine (spec_l02Box.calls kj2 ((rd_T41 l0 x6_1).f0) _ _ ((rd_T41 l0 x6_1).f1) _ _ ((rd_T41 l0 x6_1).f2) a1 t329 _ ?side1 ?side2 ?side3 ?side4 A10.out).mono ?_); (case side1 => exact cb (Kd.C_below HR328_1.out HB.out)); (case side2 => exact HC328_1.out); (case side3 => exact cb (Kd.C_below HR328_2.out HB.out)); (case side4 => exact HC328_2.out); rintro e w14 ⟨rfl, hb⟩; replace HB := Aside0.mk (below_step (bl HB.out) hb); (try clear hb); (try clear hb2); (try clear hk); (try clear hi); have p330 : 0 ≤ (x6_1 : Int) := of_decide_eq_true asm; have q330 : x6_1 < (l0.length : Int) := of_decide_eq_true asm; obtain ⟨ad330, A330_1, c330_1, A330_2, c330_2, e330, hx330_0, hx330_1, hx330_2, hl330_1, hi330_1, hl330_2, hi330_2⟩ := at_T41 HR0.out x6_1 p330 q330; obtain rfl : ad328 = ad330 := (by injection e330); replace hx330_0 := (HB.out.cell (World.block_lt_of_cell? w _ hx330_0)).trans hx330_0; replace hx330_1 := (HB.out.cell (World.block_lt_of_cell? w _ hx330_1)).trans hx330_1; replace hx330_2 := (HB.out.cell (World.block_lt_of_cell? w _ hx330_2)).trans hx330_2; have HR330_1 := Aside0.mk hi330_1; have HC330_1 := Aside0.mk hl330_1; clear hi330_1 hl330_1; have HR330_2 := Aside0.mk hi330_2; have HC330_2 := Aside0.mk hl330_2; clear hi330_2 hl330_2; replace p330 := eq_true p330; replace q330 := eq_true q330; have p331 : 0 ≤ (t329 : Int) := of_decide_eq_true asm; have q331 : t329 < (((rd_T41 l0 x6_1).f2).length : Int) := of_decide_eq_true asm; obtain ⟨ad331, e331, hx331_0, hx331_1, hx331_2, hx331_3⟩ := at_T98 HR330_2.out t329 p331 q331; cases e331; replace hx331_0 := (HB.out.cell (World.block_lt_of_cell? w _ hx331_0)).trans hx331_0; replace hx331_1 := (HB.out.cell (World.block_lt_of_cell? w _ hx331_1)).trans hx331_1; replace hx331_2 := (HB.out.cell (World.block_lt_of_cell? w _ hx331_2)).trans hx331_2; replace hx331_3 := (HB.out.cell (World.block_lt_of_cell? w _ hx331_3)).trans hx331_3; replace p331 := eq_true p331; replace q331 := eq_true q331))
           repeat (go_quiet (first | (go_at_call 85; (with_reducible refine (spec_l02Box.calls kj2 ((rd_T41 l0 x6_1).f0) _ _ ((rd_T41 l0 x6_1).f1) _ _ ((rd_T41 l0 x6_1).f2) a1 t329 _ ?side1 ?side2 ?side3 ?side4 A10.out).mono ?_); (case side1 => exact cb (Kd.C_below HR328_1.out HB.out)); (case side2 => exact HC328_1.out); (case side3 => exact cb (Kd.C_below HR328_2.out HB.out)); (case side4 => exact HC328_2.out); rintro e w14 ⟨rfl, hb⟩; replace HB := Aside0.mk (below_step (bl HB.out) hb); (try clear hb); (try clear hb2); (try clear hk); (try clear hi); have p330 : 0 ≤ (x6_1 : Int) := of_decide_eq_true asm; have q330 : x6_1 < (l0.length : Int) := of_decide_eq_true asm; obtain ⟨ad330, A330_1, c330_1, A330_2, c330_2, e330, hx330_0, hx330_1, hx330_2, hl330_1, hi330_1, hl330_2, hi330_2⟩ := at_T41 HR0.out x6_1 p330 q330; obtain rfl : ad328 = ad330 := (by injection e330); replace hx330_0 := (HB.out.cell (World.block_lt_of_cell? w _ hx330_0)).trans hx330_0; replace hx330_1 := (HB.out.cell (World.block_lt_of_cell? w _ hx330_1)).trans hx330_1; replace hx330_2 := (HB.out.cell (World.block_lt_of_cell? w _ hx330_2)).trans hx330_2; have HR330_1 := Aside0.mk hi330_1; have HC330_1 := Aside0.mk hl330_1; clear hi330_1 hl330_1; have HR330_2 := Aside0.mk hi330_2; have HC330_2 := Aside0.mk hl330_2; clear hi330_2 hl330_2; replace p330 := eq_true p330; replace q330 := eq_true q330; have p331 : 0 ≤ (t329 : Int) := of_decide_eq_true asm; have q331 : t329 < (((rd_T41 l0 x6_1).f2).length : Int) := of_decide_eq_true asm; obtain ⟨ad331, e331, hx331_0, hx331_1, hx331_2, hx331_3⟩ := at_T98 HR330_2.out t329 p331 q331; cases e331; replace hx331_0 := (HB.out.cell (World.block_lt_of_cell? w _ hx331_0)).trans hx331_0; replace hx331_1 := (HB.out.cell (World.block_lt_of_cell? w _ hx331_1)).trans hx331_1; replace hx331_2 := (HB.out.cell (World.block_lt_of_cell? w _ hx331_2)).trans hx331_2; replace hx331_3 := (HB.out.cell (World.block_lt_of_cell? w _ hx331_3)).trans hx331_3; replace p331 := eq_true p331; replace q331 := eq_true q331)); try go_wp2_with (first | (go_at_call 85; (with_reducible refine (spec_l02Box.calls kj2 ((rd_T41 l0 x6_1).f0) _ _ ((rd_T41 l0 x6_1).f1) _ _ ((rd_T41 l0 x6_1).f2) a1 t329 _ ?side1 ?side2 ?side3 ?side4 A10.out).mono ?_); (case side1 => exact cb (Kd.C_below HR328_1.out HB.out)); (case side2 => exact HC328_1.out); (case side3 => exact cb (Kd.C_below HR328_2.out HB.out)); (case side4 => exact HC328_2.out); rintro e w14 ⟨rfl, hb⟩; replace HB := Aside0.mk (below_step (bl HB.out) hb); (try clear hb); (try clear hb2); (try clear hk); (try clear hi); have p330 : 0 ≤ (x6_1 : Int) := of_decide_eq_true asm; have q330 : x6_1 < (l0.length : Int) := of_decide_eq_true asm; obtain ⟨ad330, A330_1, c330_1, A330_2, c330_2, e330, hx330_0, hx330_1, hx330_2, hl330_1, hi330_1, hl330_2, hi330_2⟩ := at_T41 HR0.out x6_1 p330 q330; obtain rfl : ad328 = ad330 := (by injection e330); replace hx330_0 := (HB.out.cell (World.block_lt_of_cell? w _ hx330_0)).trans hx330_0; replace hx330_1 := (HB.out.cell (World.block_lt_of_cell? w _ hx330_1)).trans hx330_1; replace hx330_2 := (HB.out.cell (World.block_lt_of_cell? w _ hx330_2)).trans hx330_2; have HR330_1 := Aside0.mk hi330_1; have HC330_1 := Aside0.mk hl330_1; clear hi330_1 hl330_1; have HR330_2 := Aside0.mk hi330_2; have HC330_2 := Aside0.mk hl330_2; clear hi330_2 hl330_2; replace p330 := eq_true p330; replace q330 := eq_true q330; have p331 : 0 ≤ (t329 : Int) := of_decide_eq_true asm; have q331 : t329 < (((rd_T41 l0 x6_1).f2).length : Int) := of_decide_eq_true asm; obtain ⟨ad331, e331, hx331_0, hx331_1, hx331_2, hx331_3⟩ := at_T98 HR330_2.out t329 p331 q331; cases e331; replace hx331_0 := (HB.out.cell (World.block_lt_of_cell? w _ hx331_0)).trans hx331_0; replace hx331_1 := (HB.out.cell (World.block_lt_of_cell? w _ hx331_1)).trans hx331_1; replace hx331_2 := (HB.out.cell (World.block_lt_of_cell? w _ hx331_2)).trans hx331_2; replace hx331_3 := (HB.out.cell (World.block_lt_of_cell? w _ hx331_3)).trans hx331_3; replace p331 := eq_true p331; replace q331 := eq_true q331)))
           go_ret2
           exact ⟨by first | rfl | (simp [errW_none, errW_some] <;> rfl) | (simp [*, errW_none, errW_some] <;> rfl), bl HB.out⟩
          ·rw [if_neg c13] at H
           exact absurd H (by simp)
         ·rw [if_neg c12] at H
          exact absurd H (by simp)
        ·rw [if_neg c11] at H
         have c11b0 : decide (0 ≤ t329) = false := decide_eq_false c11
         clear c11
         have H' := Aside0.mk H
         clear H
         have p328 : 0 ≤ (x6_1 : Int) := of_decide_eq_true asm
         have q328 : x6_1 < (l0.length : Int) := of_decide_eq_true asm
         obtain ⟨ad328, A328_1, c328_1, A328_2, c328_2, e328, hx328_0, hx328_1, hx328_2, hl328_1, hi328_1, hl328_2, hi328_2⟩ := at_T41 HR0.out x6_1 p328 q328
         cases e328
         replace hx328_0 := (HB.out.cell (World.block_lt_of_cell? w _ hx328_0)).trans hx328_0
         replace hx328_1 := (HB.out.cell (World.block_lt_of_cell? w _ hx328_1)).trans hx328_1
         replace hx328_2 := (HB.out.cell (World.block_lt_of_cell? w _ hx328_2)).trans hx328_2
         have HR328_1 := Aside0.mk hi328_1
         have HC328_1 := Aside0.mk hl328_1
         clear hi328_1 hl328_1
         have HR328_2 := Aside0.mk hi328_2
         have HC328_2 := Aside0.mk hl328_2
         clear hi328_2 hl328_2
         replace p328 := eq_true p328
         replace q328 := eq_true q328
         go_wp2_with (first | (go_at_call 85; (with_reducible refine (spec_l02Box.calls kj2 ((rd_T41 l0 x6_1).f0) _ _ ((rd_T41 l0 x6_1).f1) _ _ ((rd_T41 l0 x6_1).f2) a1 t329 _ ?side1 ?side2 ?side3 ?side4 A10.out).mono ?_); (case side1 => exact cb (Kd.C_below HR328_1.out HB.out)); (case side2 => exact HC328_1.out); (case side3 => exact cb (Kd.C_below HR328_2.out HB.out)); (case side4 => exact HC328_2.out); rintro e w15 ⟨rfl, hb⟩; replace HB := Aside0.mk (below_step (bl HB.out) hb); (try clear hb); (try clear hb2); (try clear hk); (try clear hi)))
         repeat (go_quiet (first | (go_at_call 85; (with_reducible refine (spec_l02Box.calls kj2 ((rd_T41 l0 x6_1).f0) _ _ ((rd_T41 l0 x6_1).f1) _ _ ((rd_T41 l0 x6_1).f2) a1 t329 _ ?side1 ?side2 ?side3 ?side4 A10.out).mono ?_); (case side1 => exact cb (Kd.C_below HR328_1.out HB.out)); (case side2 => exact HC328_1.out); (case side3 => exact cb (Kd.C_below HR328_2.out HB.out)); (case side4 => exact HC328_2.out); rintro e w15 ⟨rfl, hb⟩; replace HB := Aside0.mk (below_step (bl HB.out) hb); (try clear hb); (try clear hb2); (try clear hk); (try clear hi))); try go_wp2_with (first | (go_at_call 85; (with_reducible refine (spec_l02Box.calls kj2 ((rd_T41 l0 x6_1).f0) _ _ ((rd_T41 l0 x6_1).f1) _ _ ((rd_T41 l0 x6_1).f2) a1 t329 _ ?side1 ?side2 ?side3 ?side4 A10.out).mono ?_); (case side1 => exact cb (Kd.C_below HR328_1.out HB.out)); (case side2 => exact HC328_1.out); (case side3 => exact cb (Kd.C_below HR328_2.out HB.out)); (case side4 => exact HC328_2.out); rintro e w15 ⟨rfl, hb⟩; replace HB := Aside0.mk (below_step (bl HB.out) hb); (try clear hb); (try clear hb2); (try clear hk); (try clear hi))))
         go_roundg kj2
         case measure => have := HK1.out; have := HJ2.out; omega
         case rel => exact ⟨(wrap64 (x6_1 + 1)), (by first | rfl | (simp; done) | (simp [*]; done)), H', ⟨by have := HK1.out; have := HJ2.out; omega⟩, ⟨bl HB.out⟩⟩
       ·rw [if_neg c9] at H
        exact absurd H (by simp)
      ·rw [if_neg c8] at H
       exact absurd H (by simp)
     ·replace c7 := Bool.eq_false_iff.mpr c7
      subst c7
      rw [if_neg (show ¬ (false = true) by decide)] at H
      simp only [Option.some.injEq, Prod.mk.injEq] at H
      obtain ⟨rfl, rfl⟩ := H
      go_wp2
      repeat (go_quiet (fail); try go_wp2)
      go_ret2
      exact ⟨by first | rfl | (simp [errW_none, errW_some] <;> rfl) | (simp [*, errW_none, errW_some] <;> rfl), bl HB.out⟩
def spec_TakeOut.f (k : Nat) (a0_0 : Int) (l0_1 : List Int) (l0_2 : List (S98)) (a1 : Int) : Option (Int × List Int × (List (S98)) × Bool) := (spec_l02Copy.f a0_0 l0_1 l0_2).bind fun bt334 => ((spec_l02Box.f k a0_0 l0_1 l0_2 a1).bind fun t342 => ((spec_ColumnOk.f k a0_0 l0_1 l0_2).bind fun t343 => (if t343 = true then (if t342 < 0 then (some (bt334.1, bt334.2.1, bt334.2.2, false)) else (if 0 ≤ t342 then (if t342 < (l0_2.length : Int) then (if (rd_T98 l0_2 t342).f3 = true then (some (bt334.1, bt334.2.1, bt334.2.2, false)) else (if t342 < (bt334.2.2.length : Int) then (some (bt334.1, bt334.2.1, (bt334.2.2.set (t342 : Int).toNat (⟨(rd_T98 bt334.2.2 t342).f0, (rd_T98 bt334.2.2 t342).f1, 0, (rd_T98 bt334.2.2 t342).f3⟩ : S98)), true)) else (none))) else (none)) else (none))) else (some (bt334.1, bt334.2.1, bt334.2.2, false)))))
set_option maxHeartbeats 8000000 in
set_option maxRecDepth 100000 in
theorem spec_TakeOut.calls (k : Nat) (a0_0 : Int) (A0_1 : Option Addr) (c0_1 : Nat) (l0_1 : List Int) (A0_2 : Option Addr) (c0_2 : Nat) (l0_2 : List (S98)) (a1 : Int) (r1 : Int) (r2 : List Int) (r3 : List (S98)) (r4 : Bool) (w : World) (hr0_1 : Kd.C (Kd.int .i64) w A0_1 l0_1.length l0_1) (hc0_1 : l0_1.length ≤ c0_1) (hr0_2 : Kd.C k98 w A0_2 l0_2.length l0_2) (hc0_2 : l0_2.length ≤ c0_2) (h : spec_TakeOut.f k a0_0 l0_1 l0_2 a1 = some (r1, r2, r3, r4)) :
  Calls Try.prog 71 #[.agg #[.int .i64 a0_0, .slice A0_1 l0_1.length c0_1, .slice A0_2 l0_2.length c0_2], .int .i64 a1] w fun e w' => ∃ v1_ v2_ : Value, e = .returned (.tuple #[.agg #[.int .i64 r1, v1_, v2_], .bool r4]) ∧ Kd.R (Kd.int .i64) 3 w' w.heap.size (fun _ => True) v1_ r2 ∧ Kd.R k98 98 w' w.heap.size (fun _ => True) v2_ r3 ∧ Below w.heap.size w w' := by
 have hu41 := Try.underlying41
 have HR0_1 := Aside0.mk hr0_1
 have HC0_1 := Aside0.mk hc0_1
 clear hr0_1 hc0_1
 have HR0_2 := Aside0.mk hr0_2
 have HC0_2 := Aside0.mk hc0_2
 clear hr0_2 hc0_2
 have HB := Aside0.mk (Below.refl w.heap.size w)
 have H : ((spec_l02Copy.f a0_0 l0_1 l0_2).bind fun bt334 => ((spec_l02Box.f k a0_0 l0_1 l0_2 a1).bind fun t342 => ((spec_ColumnOk.f k a0_0 l0_1 l0_2).bind fun t343 => (if t343 = true then (if t342 < 0 then (some (bt334.1, bt334.2.1, bt334.2.2, false)) else (if 0 ≤ t342 then (if t342 < (l0_2.length : Int) then (if (rd_T98 l0_2 t342).f3 = true then (some (bt334.1, bt334.2.1, bt334.2.2, false)) else (if t342 < (bt334.2.2.length : Int) then (some (bt334.1, bt334.2.1, (bt334.2.2.set (t342 : Int).toNat (⟨(rd_T98 bt334.2.2 t342).f0, (rd_T98 bt334.2.2 t342).f1, 0, (rd_T98 bt334.2.2 t342).f3⟩ : S98)), true)) else (none))) else (none)) else (none))) else (some (bt334.1, bt334.2.1, bt334.2.2, false)))))) = some (r1, r2, r3, r4) := h
 clear h
 replace H := Option.bind_eq_some_iff.mp H
 obtain ⟨⟨t334, t335, t338⟩, A30, H⟩ := H
 try dsimp only at H
 have A3 := Aside0.mk A30
 clear A30
 replace H := Option.bind_eq_some_iff.mp H
 obtain ⟨t342, A40, H⟩ := H
 try dsimp only at H
 have A4 := Aside0.mk A40
 clear A40
 replace H := Option.bind_eq_some_iff.mp H
 obtain ⟨t343, A50, H⟩ := H
 try dsimp only at H
 have A5 := Aside0.mk A50
 clear A50
 by_cases c6 : t343 = true
 focus
  subst c6
  rw [if_pos rfl] at H
  by_cases c7 : t342 < 0
  focus
   rw [if_pos c7] at H
   have c7b0 : decide (t342 < 0) = true := decide_eq_true c7
   clear c7
   simp only [Option.some.injEq, Prod.mk.injEq] at H
   obtain ⟨rfl, rfl, rfl, rfl⟩ := H
  rotate_left
  focus
   rw [if_neg c7] at H
   have c7b0 : decide (t342 < 0) = false := decide_eq_false c7
   clear c7
   by_cases c25 : 0 ≤ t342
   focus
    rw [if_pos c25] at H
    have c25b0 : decide (0 ≤ t342) = true := decide_eq_true c25
    clear c25
    by_cases c26 : t342 < (l0_2.length : Int)
    focus
     rw [if_pos c26] at H
     have c26b0 : decide (t342 < (l0_2.length : Int)) = true := decide_eq_true c26
     clear c26
     obtain ⟨bq27, hbq27⟩ : ∃ b_ : Bool, b_ = ((rd_T98 l0_2 t342).f3) := ⟨_, rfl⟩
     replace H : (if bq27 = true then (some (t334, t335, t338, false)) else (if t342 < (t338.length : Int) then (some (t334, t335, (t338.set (t342 : Int).toNat (⟨(rd_T98 t338 t342).f0, (rd_T98 t338 t342).f1, 0, (rd_T98 t338 t342).f3⟩ : S98)), true)) else (none))) = some (r1, r2, r3, r4) := by rw [← hbq27] at H; exact H
     have Nbq27 := Aside0.mk hbq27
     clear hbq27
     by_cases c28 : bq27 = true
     focus
      subst c28
      rw [if_pos rfl] at H
      simp only [Option.some.injEq, Prod.mk.injEq] at H
      obtain ⟨rfl, rfl, rfl, rfl⟩ := H
     rotate_left
     focus
      replace c28 := Bool.eq_false_iff.mpr c28
      subst c28
      rw [if_neg (show ¬ (false = true) by decide)] at H
      by_cases c47 : t342 < (t338.length : Int)
      focus
       rw [if_pos c47] at H
       have c47b0 : decide (t342 < (t338.length : Int)) = true := decide_eq_true c47
       clear c47
       obtain ⟨y345, hy345⟩ : ∃ y_ : List (S98), y_ = (t338.set (t342 : Int).toNat (⟨(rd_T98 t338 t342).f0, (rd_T98 t338 t342).f1, 0, (rd_T98 t338 t342).f3⟩ : S98)) := ⟨_, rfl⟩
       replace H : (some (t334, t335, y345, true)) = some (r1, r2, r3, r4) := by first | (rw [hy345]; with_reducible exact H) | (have H2_ := (Option.bind_some _ _).symm.trans H; rw [hy345]; with_reducible exact H2_) | (have H2_ := (Option.bind_some _ _).symm.trans H; with_reducible exact H2_) | with_reducible exact H | (rw [hy345]; exact H) | exact H
       have Ny345 := Aside0.mk hy345
       clear hy345
       simp only [Option.some.injEq, Prod.mk.injEq] at H
       obtain ⟨rfl, rfl, rfl, rfl⟩ := H
      rotate_left
      ·rw [if_neg c47] at H
       exact absurd H (by simp)
     rotate_left
    rotate_left 2
    ·rw [if_neg c26] at H
     exact absurd H (by simp)
   rotate_left 2
   ·rw [if_neg c25] at H
    exact absurd H (by simp)
  rotate_left 2
 rotate_left 3
 focus
  replace c6 := Bool.eq_false_iff.mpr c6
  subst c6
  rw [if_neg (show ¬ (false = true) by decide)] at H
  simp only [Option.some.injEq, Prod.mk.injEq] at H
  obtain ⟨rfl, rfl, rfl, rfl⟩ := H
 rotate_left
 all_goals go_enter Try.func71, Try.ntmps71
 all_goals go_wp2_with (first | ((with_reducible refine gate_dst (N := 2) rfl ?_); refine bx (cs := #[.int .i64 a0_0, .slice A0_1 l0_1.length c0_1, .slice A0_2 l0_2.length c0_2]) (t := 41) fun gb332 hg w8 hbox hb => ?_; have BK332 := Aside0.mk (hbox); have GW332 := Aside0.mk (gs HB.out hg); have GE332 := Aside0.mk (gs HB.out hg); replace HB := Aside0.mk (below_step (bl HB.out) hb); clear hb hbox hg) | ((with_reducible refine gate_dst (N := 4) rfl ?_); refine bx (cs := #[.int .i64 0, .slice none 0 0, .slice none 0 0]) (t := 41) fun gb333 hg w9 hbox hb => ?_; have BK333 := Aside0.mk (hbox); have GW333 := Aside0.mk (gs HB.out hg); have GE333 := Aside0.mk (gs HB.out hg); replace HB := Aside0.mk (below_step (bl HB.out) hb); have NB332_333 := Aside0.mk ((nl BK332.out hg)); have NB333_332 := Aside0.mk ((ng BK332.out hg)); replace BK332 := Aside0.mk (bb BK332.out hb); clear hb hbox hg; have hnb10 := NB332_333.out; have hnc10 := NB333_332.out; obtain ⟨hcz11_0, hcz11_1, hcz11_2, hfz11_0, hfz11_1, hfz11_2⟩ := cz3 BK332.out) | ((with_reducible refine gate_callee (f := 86) rfl ?_); refine goesL_ (some 9) rfl rfl Try.func86 (by kernel_rfl) rfl #[.agg #[.int .i64 a0_0, .slice A0_1 l0_1.length c0_1, .slice A0_2 l0_2.length c0_2]] rfl mapd ?_; (with_reducible refine (spec_l02Copy.calls a0_0 _ _ l0_1 _ _ l0_2 t334 t335 t338 _ ?side1 ?side2 ?side3 ?side4 A3.out).mono ?_); (case side1 => exact cb (Kd.C_below HR0_1.out HB.out)); (case side2 => exact HC0_1.out); (case side3 => exact cb (Kd.C_below HR0_2.out HB.out)); (case side4 => exact HC0_2.out); rintro e w12 ⟨v336, v339, rfl, ho0, ho1, hb⟩; refine ⟨_, rfl, ?_⟩; have HO337 := Aside0.mk (Kd.R_lower ho0 (below_size (bl HB.out))); have HO340 := Aside0.mk (Kd.R_lower ho1 (below_size (bl HB.out))); replace BK332 := Aside0.mk (bb BK332.out hb); replace BK333 := Aside0.mk (bb BK333.out hb); replace HB := Aside0.mk (below_step (bl HB.out) hb); (try clear hb); (try clear hb2); (try clear hk); (try clear hi); (try clear ho0); (try clear ho1)) | ((with_reducible refine gate_dst (N := 6) rfl ?_); refine bx (cs := #[.int .i64 0, .slice none 0 0, .slice none 0 0]) (t := 41) fun gb341 hg w13 hbox hb => ?_; replace HO337 := Aside0.mk (Kd.R_below (rk HO337.out) hb); replace HO340 := Aside0.mk (Kd.R_below (rk HO340.out) hb); have BK341 := Aside0.mk (hbox); have GW341 := Aside0.mk (gs HB.out hg); have GE341 := Aside0.mk (gs HB.out hg); replace HB := Aside0.mk (below_step (bl HB.out) hb); have NB332_341 := Aside0.mk ((nl BK332.out hg)); have NB341_332 := Aside0.mk ((ng BK332.out hg)); replace BK332 := Aside0.mk (bb BK332.out hb); have NB333_341 := Aside0.mk ((nl BK333.out hg)); have NB341_333 := Aside0.mk ((ng BK333.out hg)); replace BK333 := Aside0.mk (bb BK333.out hb); clear hb hbox hg; have hnb14 := NB341_332.out; have hnc14 := NB332_341.out; have hnb15 := NB341_333.out; have hnc15 := NB333_341.out; obtain ⟨hcz16_0, hcz16_1, hcz16_2, hfz16_0, hfz16_1, hfz16_2⟩ := cz3 BK341.out; obtain ⟨Ao17, co17, eo17⟩ := Kd.R_slice HO337.out; subst eo17; obtain ⟨Ao18, co18, eo18⟩ := Kd.R_slice HO340.out; subst eo18; obtain ⟨hcz19_0, hcz19_1, hcz19_2, hfz19_0, hfz19_1, hfz19_2⟩ := cz3 BK332.out) | ((with_reducible refine gate_callee (f := 85) rfl ?_); refine goesL_ (some 12) rfl rfl Try.func85 (by kernel_rfl) rfl #[.agg #[.int .i64 a0_0, .slice A0_1 l0_1.length c0_1, .slice A0_2 l0_2.length c0_2], .int .i64 a1] rfl mapd ?_; (with_reducible refine (spec_l02Box.calls k a0_0 _ _ l0_1 _ _ l0_2 a1 t342 _ ?side1 ?side2 ?side3 ?side4 A4.out).mono ?_); (case side1 => exact Kd.C_below HR0_1.out (bl HB.out)); (case side2 => exact HC0_1.out); (case side3 => exact Kd.C_below HR0_2.out (bl HB.out)); (case side4 => exact HC0_2.out); rintro e w20 ⟨rfl, hb⟩; refine ⟨_, rfl, ?_⟩; replace HO337 := Aside0.mk (Kd.R_below (by refine rk ?_; exact (Kd.R_mono (Kd.R_far (p := ⟨gb341, 2, none⟩) (Kd.R_far (p := ⟨gb341, 1, none⟩) (Kd.R_far (p := ⟨gb341, 0, none⟩) (Kd.R_types HO337.out BK341.out (by decide)) (fun _ hk => hk.2) (.int .i64 t334)) (fun _ hk => hk.2) (.slice Ao17 t335.length co17)) (fun _ hk => hk.2) (.slice Ao18 t338.length co18)) (fun _ h_ => h_.1))) hb); replace HO340 := Aside0.mk (Kd.R_below (by refine rk ?_; exact (Kd.R_mono (Kd.R_far (p := ⟨gb341, 2, none⟩) (Kd.R_far (p := ⟨gb341, 1, none⟩) (Kd.R_far (p := ⟨gb341, 0, none⟩) (Kd.R_types HO340.out BK341.out (by decide)) (fun _ hk => hk.2) (.int .i64 t334)) (fun _ hk => hk.2) (.slice Ao17 t335.length co17)) (fun _ hk => hk.2) (.slice Ao18 t338.length co18)) (fun _ h_ => h_.1))) hb); replace BK332 := Aside0.mk (blk_below (g := gb332) (o := .cells #[.int .i64 a0_0, .slice A0_1 l0_1.length c0_1, .slice A0_2 l0_2.length c0_2] 41 (0, 0)) (bf BK332.out) hb); replace BK333 := Aside0.mk (blk_below (g := gb333) (o := .cells #[.int .i64 0, .slice none 0 0, .slice none 0 0] 41 (0, 0)) (bf BK333.out) hb); replace BK341 := Aside0.mk (blk_below (g := gb341) (o := .cells #[.int .i64 t334, .slice Ao17 t335.length co17, .slice Ao18 t338.length co18] 41 (0, 0)) (by refine bk ?_; refine blk_put (cs := #[.int .i64 t334, .slice Ao17 t335.length co17, .slice none 0 0]) ?_ 2 _ rfl; refine bk ?_; refine blk_put (cs := #[.int .i64 t334, .slice none 0 0, .slice none 0 0]) ?_ 1 _ rfl; refine bk ?_; refine blk_put (cs := #[.int .i64 0, .slice none 0 0, .slice none 0 0]) ?_ 0 _ rfl; refine bk ?_; exact BK341.out) hb); replace HB := Aside0.mk (below_step (bl HB.out) hb); (try clear hb); (try clear hb2); (try clear hk); (try clear hi); obtain ⟨hcz21_0, hcz21_1, hcz21_2, hfz21_0, hfz21_1, hfz21_2⟩ := cz3 BK332.out) | ((with_reducible refine gate_callee (f := 91) rfl ?_); refine goesL_ (some 14) rfl rfl Try.func91 (by kernel_rfl) rfl #[.agg #[.int .i64 a0_0, .slice A0_1 l0_1.length c0_1, .slice A0_2 l0_2.length c0_2]] rfl mapd ?_; (with_reducible refine (spec_ColumnOk.calls k a0_0 _ _ l0_1 _ _ l0_2 false _ ?side1 ?side2 ?side3 ?side4 A5.out).mono ?_); (case side1 => exact cb (Kd.C_below HR0_1.out HB.out)); (case side2 => exact HC0_1.out); (case side3 => exact cb (Kd.C_below HR0_2.out HB.out)); (case side4 => exact HC0_2.out); rintro e w84 ⟨rfl, hb⟩; refine ⟨_, rfl, ?_⟩; replace HO337 := Aside0.mk (Kd.R_below (rk HO337.out) hb); replace HO340 := Aside0.mk (Kd.R_below (rk HO340.out) hb); replace BK332 := Aside0.mk (bb BK332.out hb); replace BK333 := Aside0.mk (bb BK333.out hb); replace BK341 := Aside0.mk (bb BK341.out hb); replace HB := Aside0.mk (below_step (bl HB.out) hb); (try clear hb); (try clear hb2); (try clear hk); (try clear hi); obtain ⟨hcz85_0, hcz85_1, hcz85_2, hfz85_0, hfz85_1, hfz85_2⟩ := cz3 BK341.out; obtain ⟨hcz86_0, hcz86_1, hcz86_2, hfz86_0, hfz86_1, hfz86_2⟩ := cz3 BK333.out) | ((with_reducible refine gate_callee (f := 91) rfl ?_); refine goesL_ (some 14) rfl rfl Try.func91 (by kernel_rfl) rfl #[.agg #[.int .i64 a0_0, .slice A0_1 l0_1.length c0_1, .slice A0_2 l0_2.length c0_2]] rfl mapd ?_; (with_reducible refine (spec_ColumnOk.calls k a0_0 _ _ l0_1 _ _ l0_2 true _ ?side1 ?side2 ?side3 ?side4 A5.out).mono ?_); (case side1 => exact cb (Kd.C_below HR0_1.out HB.out)); (case side2 => exact HC0_1.out); (case side3 => exact cb (Kd.C_below HR0_2.out HB.out)); (case side4 => exact HC0_2.out); rintro e w63 ⟨rfl, hb⟩; refine ⟨_, rfl, ?_⟩; replace HO337 := Aside0.mk (Kd.R_below (rk HO337.out) hb); replace HO340 := Aside0.mk (Kd.R_below (rk HO340.out) hb); replace BK332 := Aside0.mk (bb BK332.out hb); replace BK333 := Aside0.mk (bb BK333.out hb); replace BK341 := Aside0.mk (bb BK341.out hb); replace HB := Aside0.mk (below_step (bl HB.out) hb); (try clear hb); (try clear hb2); (try clear hk); (try clear hi); obtain ⟨hcz64_0, hcz64_1, hcz64_2, hfz64_0, hfz64_1, hfz64_2⟩ := cz3 BK332.out; have p344 : 0 ≤ (t342 : Int) := of_decide_eq_true asm; have q344 : t342 < (l0_2.length : Int) := of_decide_eq_true asm; obtain ⟨ad344, e344, hx344_0, hx344_1, hx344_2, hx344_3⟩ := at_T98 HR0_2.out t342 p344 q344; (try rw [← Nbq27.out] at hx344_3); cases e344; replace hx344_0 := (HB.out.cell (World.block_lt_of_cell? w _ hx344_0)).trans hx344_0; replace hx344_1 := (HB.out.cell (World.block_lt_of_cell? w _ hx344_1)).trans hx344_1; replace hx344_2 := (HB.out.cell (World.block_lt_of_cell? w _ hx344_2)).trans hx344_2; replace hx344_3 := (HB.out.cell (World.block_lt_of_cell? w _ hx344_3)).trans hx344_3; replace p344 := eq_true p344; replace q344 := eq_true q344; obtain ⟨hcz65_0, hcz65_1, hcz65_2, hfz65_0, hfz65_1, hfz65_2⟩ := cz3 BK341.out; have p48 : 0 ≤ (t342 : Int) := of_decide_eq_true asm; have q48 : (t342 : Int) < ((t338.length : Int) : Int) := of_decide_eq_true asm; obtain ⟨go48, co48, eo48, gb48, gl48, cl48, HG48⟩ := Kd.R_form HO340.out (by omega); (first | cases eo48 | (injection eo48 with ea_ en_ ec_; (first | subst ea_ | (injection ea_ with ea_; subst ea_)); subst ec_; clear en_)); have GB48 := Aside0.mk gb48; have GG48 := Aside0.mk HG48; clear gb48 gl48 HG48; obtain ⟨ce48, hcl48, hM48, hcc48, hfr48⟩ := Kd.R_elem HO340.out z98 (t342 : Int) p48 q48; obtain rfl := k98_openM hM48; have hx48_0 : w63.cell? ⟨go48, (t342 : Int).toNat * 4, none⟩ = some (.int .i64 ((rd_T98 t338 t342).f0)) := hcc48 0 _ rfl; have hx48_1 : w63.cell? ⟨go48, (t342 : Int).toNat * 4 + 1, none⟩ = some (.int .i64 ((rd_T98 t338 t342).f1)) := hcc48 1 _ rfl; have hx48_2 : w63.cell? ⟨go48, (t342 : Int).toNat * 4 + 2, none⟩ = some (.int .i64 ((rd_T98 t338 t342).f2)) := hcc48 2 _ rfl; have hx48_3 : w63.cell? ⟨go48, (t342 : Int).toNat * 4 + 3, none⟩ = some (.bool ((rd_T98 t338 t342).f3)) := hcc48 3 _ rfl; have hf48_0 : w63.frozen? ⟨go48, (t342 : Int).toNat * 4, none⟩ = false := hfr48 0; have hf48_1 : w63.frozen? ⟨go48, (t342 : Int).toNat * 4 + 1, none⟩ = false := hfr48 1; have hf48_2 : w63.frozen? ⟨go48, (t342 : Int).toNat * 4 + 2, none⟩ = false := hfr48 2; have hf48_3 : w63.frozen? ⟨go48, (t342 : Int).toNat * 4 + 3, none⟩ = false := hfr48 3; clear hcl48 hcc48 hfr48 hM48; replace p48 := eq_true p48; replace q48 := eq_true q48; have HX66 := Aside0.mk (show Kd.R k98 98 w63 w.heap.size (fun _ => True) (.slice (some ⟨go48, 0, none⟩) t338.length co18) t338 from (rk HO340.out)); obtain ⟨ce66, hcl66, hM66, hcc66, hfr66⟩ := Kd.R_elem HX66.out z98 (t342 : Int) (of_decide_eq_true asm) (by have h_ : (t342 : Int) < ((t338.length : Int) : Int) := of_decide_eq_true asm; first | exact h_ | (have e_ := (Kd.R_reads' HO340.out).1; omega) | simpa using h_); obtain rfl := k98_openM hM66; have HP66 := Kd.R_seg HX66.out (t342 : Int) (of_decide_eq_true asm) (by have h_ : (t342 : Int) < ((t338.length : Int) : Int) := of_decide_eq_true asm; first | exact h_ | (have e_ := (Kd.R_reads' HO340.out).1; omega) | simpa using h_) (seg := [.int .i64 0]) (j := 2) hcl66 hcc66 (show 3 ≤ 4 from by decide) (x' := (⟨(rd_T98 t338 t342).f0, (rd_T98 t338 t342).f1, 0, (rd_T98 t338 t342).f3⟩ : S98)) (k98_mkM _ _ _ (⟨(rd_T98 t338 t342).f0, (rd_T98 t338 t342).f1, 0, (rd_T98 t338 t342).f3⟩ : S98) ) (fun _ hk => hk); have hx66_2 := hcc66 2 _ rfl; (try simp only [show (k98).sz = 4 from rfl, Nat.mul_one, Nat.add_zero] at hx66_2); have hf66_2 := hfr66 2; (try simp only [show (k98).sz = 4 from rfl, Nat.mul_one, Nat.add_zero] at hf66_2); clear hcl66 hcc66 hfr66 hM66) | ((with_reducible refine gate_store (t := 3) (p := 33) rfl ?_); refine store_event (t := 3) (p := 33) (v := ?vo_w67) (w1 := (w63.setCell ⟨go48, (t342 : Int).toNat * 4 + 2, none⟩ (.int .i64 0))) ?hg ?ho ?hn ?hr ?_; (case ho => rfl); (case hg => rfl); (case hn => rfl); (case hr => first | (go_simp; done) | (go_simp; rfl)); intro w67 hw; have hg : w63.grownBy w67 (some go48) := (by rw [hw]; exact HP66.2); have hp_ : Kd.R k98 98 w67 w.heap.size (fun _ => True) (.slice (some ⟨go48, 0, none⟩) t338.length co18) y345 := (by rw [hw, Ny345.out]; exact HP66.1); clear HP66; replace BK332 := Aside0.mk (blk_grown (g := gb332) (o := .cells #[.int .i64 a0_0, .slice A0_1 l0_1.length c0_1, .slice (some ad344) l0_2.length c0_2] 41 (0, 0)) (bk BK332.out) hg (Kd.R_ne HO340.out BK332.out (by decide))); replace BK333 := Aside0.mk (blk_grown (g := gb333) (o := .cells #[.int .i64 0, .slice none 0 0, .slice none 0 0] 41 (0, 0)) (bk BK333.out) hg (Kd.R_ne HO340.out BK333.out (by decide))); replace HO337 := Aside0.mk (Kd.R_over' (v := (.slice (some ⟨go48, 0, none⟩) t338.length co18)) (rk HO337.out) (Kd.R_typed HO340.out) (by decide) hg); replace BK341 := Aside0.mk (blk_grown (g := gb341) (o := .cells #[.int .i64 t334, .slice Ao17 t335.length co17, .slice (some ⟨go48, 0, none⟩) t338.length co18] 41 (0, 0)) (bk BK341.out) hg (Kd.R_ne HO340.out BK341.out (by decide))); replace HO340 := Aside0.mk (hp_); replace HB := Aside0.mk ((by rw [hw]; exact below_set (HB.out) GB48.out : Below w.heap.size w w67)); clear hg hw hp_; obtain ⟨hcz68_0, hcz68_1, hcz68_2, hfz68_0, hfz68_1, hfz68_2⟩ := cz3 BK341.out; obtain ⟨hcz69_0, hcz69_1, hcz69_2, hfz69_0, hfz69_1, hfz69_2⟩ := cz3 BK333.out) | ((with_reducible refine gate_callee (f := 91) rfl ?_); refine goesL_ (some 14) rfl rfl Try.func91 (by kernel_rfl) rfl #[.agg #[.int .i64 a0_0, .slice A0_1 l0_1.length c0_1, .slice A0_2 l0_2.length c0_2]] rfl mapd ?_; (with_reducible refine (spec_ColumnOk.calls k a0_0 _ _ l0_1 _ _ l0_2 true _ ?side1 ?side2 ?side3 ?side4 A5.out).mono ?_); (case side1 => exact cb (Kd.C_below HR0_1.out HB.out)); (case side2 => exact HC0_1.out); (case side3 => exact cb (Kd.C_below HR0_2.out HB.out)); (case side4 => exact HC0_2.out); rintro e w43 ⟨rfl, hb⟩; refine ⟨_, rfl, ?_⟩; replace HO337 := Aside0.mk (Kd.R_below (rk HO337.out) hb); replace HO340 := Aside0.mk (Kd.R_below (rk HO340.out) hb); replace BK332 := Aside0.mk (bb BK332.out hb); replace BK333 := Aside0.mk (bb BK333.out hb); replace BK341 := Aside0.mk (bb BK341.out hb); replace HB := Aside0.mk (below_step (bl HB.out) hb); (try clear hb); (try clear hb2); (try clear hk); (try clear hi); obtain ⟨hcz44_0, hcz44_1, hcz44_2, hfz44_0, hfz44_1, hfz44_2⟩ := cz3 BK332.out; have p344 : 0 ≤ (t342 : Int) := of_decide_eq_true asm; have q344 : t342 < (l0_2.length : Int) := of_decide_eq_true asm; obtain ⟨ad344, e344, hx344_0, hx344_1, hx344_2, hx344_3⟩ := at_T98 HR0_2.out t342 p344 q344; (try rw [← Nbq27.out] at hx344_3); cases e344; replace hx344_0 := (HB.out.cell (World.block_lt_of_cell? w _ hx344_0)).trans hx344_0; replace hx344_1 := (HB.out.cell (World.block_lt_of_cell? w _ hx344_1)).trans hx344_1; replace hx344_2 := (HB.out.cell (World.block_lt_of_cell? w _ hx344_2)).trans hx344_2; replace hx344_3 := (HB.out.cell (World.block_lt_of_cell? w _ hx344_3)).trans hx344_3; replace p344 := eq_true p344; replace q344 := eq_true q344; obtain ⟨hcz45_0, hcz45_1, hcz45_2, hfz45_0, hfz45_1, hfz45_2⟩ := cz3 BK341.out; obtain ⟨hcz46_0, hcz46_1, hcz46_2, hfz46_0, hfz46_1, hfz46_2⟩ := cz3 BK333.out) | ((with_reducible refine gate_callee (f := 91) rfl ?_); refine goesL_ (some 14) rfl rfl Try.func91 (by kernel_rfl) rfl #[.agg #[.int .i64 a0_0, .slice A0_1 l0_1.length c0_1, .slice A0_2 l0_2.length c0_2]] rfl mapd ?_; (with_reducible refine (spec_ColumnOk.calls k a0_0 _ _ l0_1 _ _ l0_2 true _ ?side1 ?side2 ?side3 ?side4 A5.out).mono ?_); (case side1 => exact cb (Kd.C_below HR0_1.out HB.out)); (case side2 => exact HC0_1.out); (case side3 => exact cb (Kd.C_below HR0_2.out HB.out)); (case side4 => exact HC0_2.out); rintro e w22 ⟨rfl, hb⟩; refine ⟨_, rfl, ?_⟩; replace HO337 := Aside0.mk (Kd.R_below (rk HO337.out) hb); replace HO340 := Aside0.mk (Kd.R_below (rk HO340.out) hb); replace BK332 := Aside0.mk (bb BK332.out hb); replace BK333 := Aside0.mk (bb BK333.out hb); replace BK341 := Aside0.mk (bb BK341.out hb); replace HB := Aside0.mk (below_step (bl HB.out) hb); (try clear hb); (try clear hb2); (try clear hk); (try clear hi); obtain ⟨hcz23_0, hcz23_1, hcz23_2, hfz23_0, hfz23_1, hfz23_2⟩ := cz3 BK341.out; obtain ⟨hcz24_0, hcz24_1, hcz24_2, hfz24_0, hfz24_1, hfz24_2⟩ := cz3 BK333.out))
 ·refine bodyPost_ret (results_ct rfl _ _ gb333 41 #[.int .i64 t334, .slice Ao17 t335.length co17, .slice Ao18 t338.length co18] (0, 0) _ rfl (by refine bk ?_; refine blk_put (cs := #[.int .i64 t334, .slice Ao17 t335.length co17, .slice none 0 0]) ?_ 2 _ rfl; refine bk ?_; refine blk_put (cs := #[.int .i64 t334, .slice none 0 0, .slice none 0 0]) ?_ 1 _ rfl; refine bk ?_; refine blk_put (cs := #[.int .i64 0, .slice none 0 0, .slice none 0 0]) ?_ 0 _ rfl; refine bk ?_; exact BK333.out) Try.underlying41 rfl (by kernel_rfl)) rfl ?_
  exact ⟨_, _, by first | rfl | (simp [errW_none, errW_some] <;> rfl) | (simp [*, errW_none, errW_some] <;> rfl), by refine rk ?_; exact Kd.R_mono (Kd.R_far (p := ⟨gb333, 2, none⟩) (Kd.R_far (p := ⟨gb333, 1, none⟩) (Kd.R_far (p := ⟨gb333, 0, none⟩) (Kd.R_types HO337.out BK333.out (by decide)) (fun _ hk => hk.2) (.int .i64 t334)) (fun _ hk => hk.2) (.slice Ao17 t335.length co17)) (fun _ hk => hk.2) (.slice Ao18 t338.length co18)) (fun _ hk => trivial), by refine rk ?_; exact Kd.R_mono (Kd.R_far (p := ⟨gb333, 2, none⟩) (Kd.R_far (p := ⟨gb333, 1, none⟩) (Kd.R_far (p := ⟨gb333, 0, none⟩) (Kd.R_types HO340.out BK333.out (by decide)) (fun _ hk => hk.2) (.int .i64 t334)) (fun _ hk => hk.2) (.slice Ao17 t335.length co17)) (fun _ hk => hk.2) (.slice Ao18 t338.length co18)) (fun _ hk => trivial), bl HB.out⟩
 ·refine bodyPost_ret (results_ct rfl _ _ gb333 41 #[.int .i64 t334, .slice Ao17 t335.length co17, .slice Ao18 t338.length co18] (0, 0) _ rfl (by refine bk ?_; refine blk_put (cs := #[.int .i64 t334, .slice Ao17 t335.length co17, .slice none 0 0]) ?_ 2 _ rfl; refine bk ?_; refine blk_put (cs := #[.int .i64 t334, .slice none 0 0, .slice none 0 0]) ?_ 1 _ rfl; refine bk ?_; refine blk_put (cs := #[.int .i64 0, .slice none 0 0, .slice none 0 0]) ?_ 0 _ rfl; refine bk ?_; exact BK333.out) Try.underlying41 rfl (by kernel_rfl)) rfl ?_
  exact ⟨_, _, by first | rfl | (simp [errW_none, errW_some] <;> rfl) | (simp [*, errW_none, errW_some] <;> rfl), by refine rk ?_; exact Kd.R_mono (Kd.R_far (p := ⟨gb333, 2, none⟩) (Kd.R_far (p := ⟨gb333, 1, none⟩) (Kd.R_far (p := ⟨gb333, 0, none⟩) (Kd.R_types HO337.out BK333.out (by decide)) (fun _ hk => hk.2) (.int .i64 t334)) (fun _ hk => hk.2) (.slice Ao17 t335.length co17)) (fun _ hk => hk.2) (.slice Ao18 t338.length co18)) (fun _ hk => trivial), by refine rk ?_; exact Kd.R_mono (Kd.R_far (p := ⟨gb333, 2, none⟩) (Kd.R_far (p := ⟨gb333, 1, none⟩) (Kd.R_far (p := ⟨gb333, 0, none⟩) (Kd.R_types HO340.out BK333.out (by decide)) (fun _ hk => hk.2) (.int .i64 t334)) (fun _ hk => hk.2) (.slice Ao17 t335.length co17)) (fun _ hk => hk.2) (.slice Ao18 t338.length co18)) (fun _ hk => trivial), bl HB.out⟩
 ·refine bodyPost_ret (results_ct rfl _ _ gb333 41 #[.int .i64 t334, .slice Ao17 t335.length co17, .slice (some ⟨go48, 0, none⟩) t338.length co18] (0, 0) _ rfl (by refine bk ?_; refine blk_put (cs := #[.int .i64 t334, .slice Ao17 t335.length co17, .slice none 0 0]) ?_ 2 _ rfl; refine bk ?_; refine blk_put (cs := #[.int .i64 t334, .slice none 0 0, .slice none 0 0]) ?_ 1 _ rfl; refine bk ?_; refine blk_put (cs := #[.int .i64 0, .slice none 0 0, .slice none 0 0]) ?_ 0 _ rfl; refine bk ?_; exact BK333.out) Try.underlying41 rfl (by kernel_rfl)) rfl ?_
  exact ⟨_, _, by first | rfl | (simp [errW_none, errW_some] <;> rfl) | (simp [*, errW_none, errW_some] <;> rfl), by refine rk ?_; exact Kd.R_mono (Kd.R_far (p := ⟨gb333, 2, none⟩) (Kd.R_far (p := ⟨gb333, 1, none⟩) (Kd.R_far (p := ⟨gb333, 0, none⟩) (Kd.R_types HO337.out BK333.out (by decide)) (fun _ hk => hk.2) (.int .i64 t334)) (fun _ hk => hk.2) (.slice Ao17 t335.length co17)) (fun _ hk => hk.2) (.slice (some ⟨go48, 0, none⟩) t338.length co18)) (fun _ hk => trivial), by refine rk ?_; exact Kd.R_mono (Kd.R_far (p := ⟨gb333, 2, none⟩) (Kd.R_far (p := ⟨gb333, 1, none⟩) (Kd.R_far (p := ⟨gb333, 0, none⟩) (Kd.R_types HO340.out BK333.out (by decide)) (fun _ hk => hk.2) (.int .i64 t334)) (fun _ hk => hk.2) (.slice Ao17 t335.length co17)) (fun _ hk => hk.2) (.slice (some ⟨go48, 0, none⟩) t338.length co18)) (fun _ hk => trivial), bl HB.out⟩
 ·refine bodyPost_ret (results_ct rfl _ _ gb333 41 #[.int .i64 t334, .slice Ao17 t335.length co17, .slice Ao18 t338.length co18] (0, 0) _ rfl (by refine bk ?_; refine blk_put (cs := #[.int .i64 t334, .slice Ao17 t335.length co17, .slice none 0 0]) ?_ 2 _ rfl; refine bk ?_; refine blk_put (cs := #[.int .i64 t334, .slice none 0 0, .slice none 0 0]) ?_ 1 _ rfl; refine bk ?_; refine blk_put (cs := #[.int .i64 0, .slice none 0 0, .slice none 0 0]) ?_ 0 _ rfl; refine bk ?_; exact BK333.out) Try.underlying41 rfl (by kernel_rfl)) rfl ?_
  exact ⟨_, _, by first | rfl | (simp [errW_none, errW_some] <;> rfl) | (simp [*, errW_none, errW_some] <;> rfl), by refine rk ?_; exact Kd.R_mono (Kd.R_far (p := ⟨gb333, 2, none⟩) (Kd.R_far (p := ⟨gb333, 1, none⟩) (Kd.R_far (p := ⟨gb333, 0, none⟩) (Kd.R_types HO337.out BK333.out (by decide)) (fun _ hk => hk.2) (.int .i64 t334)) (fun _ hk => hk.2) (.slice Ao17 t335.length co17)) (fun _ hk => hk.2) (.slice Ao18 t338.length co18)) (fun _ hk => trivial), by refine rk ?_; exact Kd.R_mono (Kd.R_far (p := ⟨gb333, 2, none⟩) (Kd.R_far (p := ⟨gb333, 1, none⟩) (Kd.R_far (p := ⟨gb333, 0, none⟩) (Kd.R_types HO340.out BK333.out (by decide)) (fun _ hk => hk.2) (.int .i64 t334)) (fun _ hk => hk.2) (.slice Ao17 t335.length co17)) (fun _ hk => hk.2) (.slice Ao18 t338.length co18)) (fun _ hk => trivial), bl HB.out⟩

def spec_BankTake.f (k : Nat) (l0 : List (S41)) (a1 : Int) : Option ((List (S41)) × Bool) := (spec_l02CopyBank.f k l0).bind fun t346 => ((spec_BoxOf.f k l0 a1).bind fun bt349 => (if bt349.1 < 0 then (some (t346, false)) else (if 0 ≤ bt349.1 then (if bt349.1 < (l0.length : Int) then ((spec_TakeOut.f k ((rd_T41 l0 bt349.1).f0) ((rd_T41 l0 bt349.1).f1) ((rd_T41 l0 bt349.1).f2) a1).bind fun bt352 => (if bt349.1 < (t346.length : Int) then (some ((t346.set (bt349.1 : Int).toNat (⟨bt352.1, bt352.2.1, bt352.2.2.1⟩ : S41)), bt352.2.2.2)) else (none))) else (none)) else (none))))
set_option maxHeartbeats 8000000 in
set_option maxRecDepth 100000 in
theorem spec_BankTake.calls (k : Nat) (A0 : Option Addr) (c0 : Nat) (l0 : List (S41)) (a1 : Int) (r1 : List (S41)) (r2 : Bool) (w : World) (hr0 : Kd.C k41 w A0 l0.length l0) (hc0 : l0.length ≤ c0) (h : spec_BankTake.f k l0 a1 = some (r1, r2)) :
  Calls Try.prog 24 #[.slice A0 l0.length c0, .int .i64 a1] w fun e w' => ∃ v0_ : Value, e = .returned (.tuple #[v0_, .bool r2]) ∧ Kd.S k41 41 w' w.heap.size (fun _ => True) v0_ r1 ∧ Below w.heap.size w w' := by
 have hu41 := Try.underlying41
 have HR0 := Aside0.mk hr0
 have HC0 := Aside0.mk hc0
 clear hr0 hc0
 have HB := Aside0.mk (Below.refl w.heap.size w)
 have H : ((spec_l02CopyBank.f k l0).bind fun t346 => ((spec_BoxOf.f k l0 a1).bind fun bt349 => (if bt349.1 < 0 then (some (t346, false)) else (if 0 ≤ bt349.1 then (if bt349.1 < (l0.length : Int) then ((spec_TakeOut.f k ((rd_T41 l0 bt349.1).f0) ((rd_T41 l0 bt349.1).f1) ((rd_T41 l0 bt349.1).f2) a1).bind fun bt352 => (if bt349.1 < (t346.length : Int) then (some ((t346.set (bt349.1 : Int).toNat (⟨bt352.1, bt352.2.1, bt352.2.2.1⟩ : S41)), bt352.2.2.2)) else (none))) else (none)) else (none))))) = some (r1, r2) := h
 clear h
 replace H := Option.bind_eq_some_iff.mp H
 obtain ⟨t346, A30, H⟩ := H
 try dsimp only at H
 have A3 := Aside0.mk A30
 clear A30
 replace H := Option.bind_eq_some_iff.mp H
 obtain ⟨⟨t349, t350⟩, A40, H⟩ := H
 try dsimp only at H
 have A4 := Aside0.mk A40
 clear A40
 by_cases c5 : t349 < 0
 focus
  rw [if_pos c5] at H
  have c5b0 : decide (t349 < 0) = true := decide_eq_true c5
  clear c5
  simp only [Option.some.injEq, Prod.mk.injEq] at H
  obtain ⟨rfl, rfl⟩ := H
 rotate_left
 focus
  rw [if_neg c5] at H
  have c5b0 : decide (t349 < 0) = false := decide_eq_false c5
  clear c5
  by_cases c8 : 0 ≤ t349
  focus
   rw [if_pos c8] at H
   have c8b0 : decide (0 ≤ t349) = true := decide_eq_true c8
   clear c8
   by_cases c9 : t349 < (l0.length : Int)
   focus
    rw [if_pos c9] at H
    have c9b0 : decide (t349 < (l0.length : Int)) = true := decide_eq_true c9
    clear c9
    replace H := Option.bind_eq_some_iff.mp H
    obtain ⟨⟨t352, t353, t356, t359⟩, A100, H⟩ := H
    try dsimp only at H
    have A10 := Aside0.mk A100
    clear A100
    by_cases c11 : t349 < (t346.length : Int)
    focus
     rw [if_pos c11] at H
     have c11b0 : decide (t349 < (t346.length : Int)) = true := decide_eq_true c11
     clear c11
     obtain ⟨y361, hy361⟩ : ∃ y_ : List (S41), y_ = (t346.set (t349 : Int).toNat (⟨t352, t353, t356⟩ : S41)) := ⟨_, rfl⟩
     replace H : (some (y361, t359)) = some (r1, r2) := by first | (rw [hy361]; with_reducible exact H) | (have H2_ := (Option.bind_some _ _).symm.trans H; rw [hy361]; with_reducible exact H2_) | (have H2_ := (Option.bind_some _ _).symm.trans H; with_reducible exact H2_) | with_reducible exact H | (rw [hy361]; exact H) | exact H
     have Ny361 := Aside0.mk hy361
     clear hy361
     simp only [Option.some.injEq, Prod.mk.injEq] at H
     obtain ⟨rfl, rfl⟩ := H
    rotate_left
    ·rw [if_neg c11] at H
     exact absurd H (by simp)
   rotate_left
   ·rw [if_neg c9] at H
    exact absurd H (by simp)
  rotate_left
  ·rw [if_neg c8] at H
   exact absurd H (by simp)
 rotate_left
 all_goals go_enter Try.func24, Try.ntmps24
 all_goals go_wp2_with (first | ((with_reducible refine gate_callee (f := 69) rfl ?_); refine goesL_ (some 12) rfl rfl Try.func69 (by kernel_rfl) rfl #[.slice A0 l0.length c0] rfl mapd ?_; (with_reducible refine (spec_l02CopyBank.calls k _ _ l0 t346 _ ?side1 ?side2 A3.out).mono ?_); (case side1 => repeat (first | exact HR0.out | (with_reducible refine Kd.C_alloc ?_ _) | (with_reducible refine Kd.C_drewN ?_ _) | (with_reducible refine Kd.C_drew ?_))); (case side2 => exact HC0.out); rintro e w6 ⟨v347, rfl, ho0, hb⟩; refine ⟨_, rfl, ?_⟩; have HO348 := Aside0.mk (Kd.S_lower ho0 (below_size (bl HB.out))); replace HB := Aside0.mk (below_step (bl HB.out) hb); (try clear hb); (try clear hb2); (try clear hk); (try clear hi); (try clear ho0)) | ((with_reducible refine gate_callee (f := 70) rfl ?_); refine goesL_ (some 16) rfl rfl Try.func70 (by kernel_rfl) rfl #[.slice A0 l0.length c0, .int .i64 a1] rfl mapd ?_; (with_reducible refine (spec_BoxOf.calls k _ _ l0 a1 t349 t350 _ ?side1 ?side2 A4.out).mono ?_); (case side1 => exact cb (Kd.C_below HR0.out HB.out)); (case side2 => exact HC0.out); rintro e w14 ⟨rfl, hb⟩; refine ⟨_, rfl, ?_⟩; replace HO348 := Aside0.mk (Kd.S_below (by (with_reducible repeat (first | apply Kd.S_alloc | apply Kd.S_drewN | apply Kd.S_drew)); exact HO348.out) hb); replace HB := Aside0.mk (below_step (bl HB.out) hb); (try clear hb); (try clear hb2); (try clear hk); (try clear hi); have p351 : 0 ≤ (t349 : Int) := of_decide_eq_true asm; have q351 : t349 < (l0.length : Int) := of_decide_eq_true asm; obtain ⟨ad351, A351_1, c351_1, A351_2, c351_2, e351, hx351_0, hx351_1, hx351_2, hl351_1, hi351_1, hl351_2, hi351_2⟩ := at_T41 HR0.out t349 p351 q351; cases e351; replace hx351_0 := (HB.out.cell (World.block_lt_of_cell? w _ hx351_0)).trans hx351_0; replace hx351_1 := (HB.out.cell (World.block_lt_of_cell? w _ hx351_1)).trans hx351_1; replace hx351_2 := (HB.out.cell (World.block_lt_of_cell? w _ hx351_2)).trans hx351_2; have HR351_1 := Aside0.mk hi351_1; have HC351_1 := Aside0.mk hl351_1; clear hi351_1 hl351_1; have HR351_2 := Aside0.mk hi351_2; have HC351_2 := Aside0.mk hl351_2; clear hi351_2 hl351_2; replace p351 := eq_true p351; replace q351 := eq_true q351) | ((with_reducible refine gate_callee (f := 71) rfl ?_); refine goesL_ (some 28) rfl rfl Try.func71 (by kernel_rfl) rfl #[.agg #[.int .i64 ((rd_T41 l0 t349).f0), .slice A351_1 ((rd_T41 l0 t349).f1).length c351_1, .slice A351_2 ((rd_T41 l0 t349).f2).length c351_2], .int .i64 a1] rfl mapd ?_; (with_reducible refine (spec_TakeOut.calls k ((rd_T41 l0 t349).f0) _ _ ((rd_T41 l0 t349).f1) _ _ ((rd_T41 l0 t349).f2) a1 t352 t353 t356 t359 _ ?side1 ?side2 ?side3 ?side4 A10.out).mono ?_); (case side1 => exact cb (Kd.C_below HR351_1.out HB.out)); (case side2 => exact HC351_1.out); (case side3 => exact cb (Kd.C_below HR351_2.out HB.out)); (case side4 => exact HC351_2.out); rintro e w15 ⟨v354, v357, rfl, ho0, ho1, hb⟩; refine ⟨_, rfl, ?_⟩; replace HO348 := Aside0.mk (Kd.S_mono (Kd.S_told (Kd.S_told (Kd.S_old (by (with_reducible repeat (first | apply Kd.S_alloc | apply Kd.S_drewN | apply Kd.S_drew)); exact HO348.out) hb) (Kd.R_base ho0)) (Kd.R_base ho1)) (fun _ h_ => h_.1)); have HO355 := Aside0.mk (Kd.R_lower ho0 (below_size (bl HB.out))); have HO358 := Aside0.mk (Kd.R_lower ho1 (below_size (bl HB.out))); replace HB := Aside0.mk (below_step (bl HB.out) hb); (try clear hb); (try clear hb2); (try clear hk); (try clear hi); (try clear ho0); (try clear ho1)) | ((with_reducible refine gate_dst (N := 9) rfl ?_); refine bx (cs := #[.int .i64 0, .slice none 0 0, .slice none 0 0]) (t := 41) fun gb360 hg w16 hbox hb => ?_; replace HO348 := Aside0.mk (Kd.S_below (Kd.S_elderB (by (with_reducible repeat (first | apply Kd.S_alloc | apply Kd.S_drewN | apply Kd.S_drew)); exact HO348.out) gb360 (Nat.le_of_eq hg.symm)) hb); replace HO355 := Aside0.mk (Kd.R_below (rk HO355.out) hb); replace HO358 := Aside0.mk (Kd.R_below (rk HO358.out) hb); have BK360 := Aside0.mk (hbox); have GW360 := Aside0.mk (gs HB.out hg); have GE360 := Aside0.mk (gs HB.out hg); replace HB := Aside0.mk (below_step (bl HB.out) hb); clear hb hbox hg; obtain ⟨hcz17_0, hcz17_1, hcz17_2, hfz17_0, hfz17_1, hfz17_2⟩ := cz3 BK360.out; obtain ⟨Ao18, co18, eo18⟩ := Kd.R_slice HO355.out; subst eo18; obtain ⟨Ao19, co19, eo19⟩ := Kd.R_slice HO358.out; subst eo19) | ((with_reducible refine gate_store (t := 41) (p := 9) rfl ?_); refine store_event (t := 41) (p := 9) (v := ?vo_w20) (w1 := (((w16.setCell ⟨gb360, 0, none⟩ (.int .i64 t352)).setCell ⟨gb360, 1, none⟩ (.slice Ao18 t353.length co18)).setCell ⟨gb360, 2, none⟩ (.slice Ao19 t356.length co19))) ?hg ?ho ?hn ?hr ?_; (case ho => rfl); (case hg => rfl); (case hn => rfl); (case hr => first | (go_simp; done) | (go_simp; rfl)); intro w20 hw; have n0_ : Aside0 (Kd.S k41 41 w20 w.heap.size (fun k_ => some k_ ≠ (.slice Ao18 t353.length co18 : Value).ownBlock ∧ some k_ ≠ (.slice Ao19 t356.length co19 : Value).ownBlock ∧ k_ ≠ gb360) v347 t346) := ⟨(by rw [hw]; exact (by (with_reducible repeat (first | apply Kd.S_alloc | apply Kd.S_drewN | apply Kd.S_drew)); exact Kd.S_mono (Kd.S_far (p := ⟨gb360, 2, none⟩) (Kd.S_far (p := ⟨gb360, 1, none⟩) (Kd.S_far (p := ⟨gb360, 0, none⟩) (Kd.S_mono HO348.out (fun k_ hk => (⟨hk, hk.2⟩ : _ ∧ k_ ≠ gb360))) (fun _ hk => hk.2) (.int .i64 t352)) (fun _ hk => hk.2) (.slice Ao18 t353.length co18)) (fun _ hk => hk.2) (.slice Ao19 t356.length co19)) (fun _ hk => ⟨hk.1.1.1.2, ⟨hk.1.1.2, hk.1.2⟩⟩)))⟩; have n1_ : Aside0 (Kd.R (Kd.int .i64) 3 w20 w.heap.size (fun _ => True) (.slice Ao18 t353.length co18) t353) := ⟨(by rw [hw]; exact (by refine rk ?_; exact Kd.R_mono (Kd.R_far (p := ⟨gb360, 2, none⟩) (Kd.R_far (p := ⟨gb360, 1, none⟩) (Kd.R_far (p := ⟨gb360, 0, none⟩) (Kd.R_types HO355.out BK360.out (by decide)) (fun _ hk => hk.2) (.int .i64 t352)) (fun _ hk => hk.2) (.slice Ao18 t353.length co18)) (fun _ hk => hk.2) (.slice Ao19 t356.length co19)) (fun _ hk => trivial)))⟩; have n2_ : Aside0 (Kd.R k98 98 w20 w.heap.size (fun _ => True) (.slice Ao19 t356.length co19) t356) := ⟨(by rw [hw]; exact (by refine rk ?_; exact Kd.R_mono (Kd.R_far (p := ⟨gb360, 2, none⟩) (Kd.R_far (p := ⟨gb360, 1, none⟩) (Kd.R_far (p := ⟨gb360, 0, none⟩) (Kd.R_types HO358.out BK360.out (by decide)) (fun _ hk => hk.2) (.int .i64 t352)) (fun _ hk => hk.2) (.slice Ao18 t353.length co18)) (fun _ hk => hk.2) (.slice Ao19 t356.length co19)) (fun _ hk => trivial)))⟩; have n3_ : Aside0 (w20.heap[gb360]? = some (.cells #[.int .i64 t352, .slice Ao18 t353.length co18, .slice Ao19 t356.length co19] 41 (0, 0))) := ⟨(by rw [hw]; exact (by refine bk ?_; refine blk_put (cs := #[.int .i64 t352, .slice Ao18 t353.length co18, .slice none 0 0]) ?_ 2 _ rfl; refine bk ?_; refine blk_put (cs := #[.int .i64 t352, .slice none 0 0, .slice none 0 0]) ?_ 1 _ rfl; refine bk ?_; refine blk_put (cs := #[.int .i64 0, .slice none 0 0, .slice none 0 0]) ?_ 0 _ rfl; refine bk ?_; exact BK360.out))⟩; have n4_ : Aside0 (Below w.heap.size w w20) := ⟨(by rw [hw]; exact (bl HB.out))⟩; clear hw; clear HO348; clear HO355; clear HO358; clear BK360; clear HB; have HO348 := n0_; have HO355 := n1_; have HO358 := n2_; have BK360 := n3_; have HB := n4_; clear n0_ n1_ n2_ n3_ n4_; obtain ⟨hcz21_0, hcz21_1, hcz21_2, hfz21_0, hfz21_1, hfz21_2⟩ := cz3 BK360.out; have p12 : 0 ≤ (t349 : Int) := of_decide_eq_true asm; have q12 : (t349 : Int) < ((t346.length : Int) : Int) := of_decide_eq_true asm; obtain ⟨go12, co12, eo12, gb12, gl12, cl12, HG12⟩ := Kd.S_form HO348.out (by omega); (first | cases eo12 | (injection eo12 with ea_ en_ ec_; (first | subst ea_ | (injection ea_ with ea_; subst ea_)); subst ec_; clear en_)); have GB12 := Aside0.mk gb12; have GG12 := Aside0.mk HG12; clear gb12 gl12 HG12; obtain ⟨_, ce12, hcl12, hM12, hcc12, hfr12, _, _⟩ := Kd.S_elem HO348.out z41 (t349 : Int) p12 q12; obtain ⟨ve12_1, ve12_2, rfl, ge12_1, ge12_2⟩ := k41_openM hM12; have hx12_0 : w20.cell? ⟨go12, (t349 : Int).toNat * 3, none⟩ = some (.int .i64 ((rd_T41 t346 t349).f0)) := hcc12 0 _ rfl; have hx12_1 : w20.cell? ⟨go12, (t349 : Int).toNat * 3 + 1, none⟩ = some (ve12_1) := hcc12 1 _ rfl; have hx12_2 : w20.cell? ⟨go12, (t349 : Int).toNat * 3 + 2, none⟩ = some (ve12_2) := hcc12 2 _ rfl; have hf12_0 : w20.frozen? ⟨go12, (t349 : Int).toNat * 3, none⟩ = false := hfr12 0; have hf12_1 : w20.frozen? ⟨go12, (t349 : Int).toNat * 3 + 1, none⟩ = false := hfr12 1; have hf12_2 : w20.frozen? ⟨go12, (t349 : Int).toNat * 3 + 2, none⟩ = false := hfr12 2; clear hcl12 hcc12 hfr12 hM12; replace p12 := eq_true p12; replace q12 := eq_true q12; have HX22 := Aside0.mk (show Kd.S k41 41 w20 w.heap.size (fun k_ => ((fun k_ => k_ ≠ gb360)) k_ ∧ ¬ ((fun k_ => some k_ = (.slice Ao18 t353.length co18 : Value).ownBlock ∨ some k_ = (.slice Ao19 t356.length co19 : Value).ownBlock)) k_) (.slice (some ⟨go12, 0, none⟩) t346.length co12) t346 from (by (with_reducible repeat (first | apply Kd.S_alloc | apply Kd.S_drewN | apply Kd.S_drew)); exact Kd.S_mono HO348.out (fun k_ hk => ⟨hk.2.2, fun e_ => e_.elim (fun h_ => hk.1 h_) (fun h_ => hk.2.1 h_)⟩))); obtain ⟨oki22, ce22, hcl22, hM22, hcc22, hfr22, hoki22, hH22⟩ := Kd.S_elem HX22.out z41 (t349 : Int) (of_decide_eq_true asm) (by have h_ : (t349 : Int) < ((t346.length : Int) : Int) := of_decide_eq_true asm; first | exact h_ | (have e_ := (Kd.S_reads' HO348.out).1; omega) | simpa using h_); obtain ⟨ve22_1, ve22_2, rfl, ge22_1, ge22_2⟩ := k41_openM hM22; have HP22 := Kd.S_seg hH22 (of_decide_eq_true asm) (by have h_ : (t349 : Int) < ((t346.length : Int) : Int) := of_decide_eq_true asm; first | exact h_ | (have e_ := (Kd.S_reads' HO348.out).1; omega) | simpa using h_) (seg := [.int .i64 t352, .slice Ao18 t353.length co18, .slice Ao19 t356.length co19]) (j := 0) (show 3 ≤ 3 from by decide) (x' := (⟨t352, t353, t356⟩ : S41)) (k41_mkM _ _ _ (⟨t352, t353, t356⟩ : S41) (Kd.R_mono (Kd.R_tight rfl (Kd.R_mono (ok' := fun k_ => ((fun k_ => k_ ≠ gb360)) k_ ∧ k_ ≠ go12) (Kd.R_types (Kd.R_apart' (HO355.out) (Kd.S_typed HO348.out) (by decide)) BK360.out (by decide)) (fun k_ hk => ⟨hk.2, fun e_ => (hk.1.2) (by rw [e_]; rfl)⟩))) (fun _ h_ => Or.inr (Or.inl h_))) (Kd.R_mono (Kd.R_tight rfl (Kd.R_mono (ok' := fun k_ => ((fun k_ => k_ ≠ gb360)) k_ ∧ k_ ≠ go12) (Kd.R_types (Kd.R_apart' (HO358.out) (Kd.S_typed HO348.out) (by decide)) BK360.out (by decide)) (fun k_ hk => ⟨hk.2, fun e_ => (hk.1.2) (by rw [e_]; rfl)⟩))) (fun _ h_ => Or.inr (Or.inr (h_))))) (fun _ hk => hk) (fun k_ hk_ => hk_.elim (fun h_ => ((Kd.R_mono (ok' := fun k_ => ((fun k_ => k_ ≠ gb360)) k_ ∧ k_ ≠ go12) (Kd.R_types (Kd.R_apart' (HO355.out) (Kd.S_typed HO348.out) (by decide)) BK360.out (by decide)) (fun k_ hk => ⟨hk.2, fun e_ => (hk.1.2) (by rw [e_]; rfl)⟩))).1 k_ h_.symm) (fun h_ => ((Kd.R_mono (ok' := fun k_ => ((fun k_ => k_ ≠ gb360)) k_ ∧ k_ ≠ go12) (Kd.R_types (Kd.R_apart' (HO358.out) (Kd.S_typed HO348.out) (by decide)) BK360.out (by decide)) (fun k_ hk => ⟨hk.2, fun e_ => (hk.1.2) (by rw [e_]; rfl)⟩))).1 k_ h_.symm)); have hx22_0 := hcc22 0 _ rfl; (try simp only [show (k41).sz = 3 from rfl, Nat.mul_one, Nat.add_zero] at hx22_0); have hf22_0 := hfr22 0; (try simp only [show (k41).sz = 3 from rfl, Nat.mul_one, Nat.add_zero] at hf22_0); have hx22_1 := hcc22 1 _ rfl; (try simp only [show (k41).sz = 3 from rfl, Nat.mul_one, Nat.add_zero] at hx22_1); have hf22_1 := hfr22 1; (try simp only [show (k41).sz = 3 from rfl, Nat.mul_one, Nat.add_zero] at hf22_1); have hx22_2 := hcc22 2 _ rfl; (try simp only [show (k41).sz = 3 from rfl, Nat.mul_one, Nat.add_zero] at hx22_2); have hf22_2 := hfr22 2; (try simp only [show (k41).sz = 3 from rfl, Nat.mul_one, Nat.add_zero] at hf22_2); clear hcl22 hcc22 hfr22 hM22 hoki22 hH22) | ((with_reducible refine gate_store (t := 41) (p := 34) rfl ?_); refine store_event (t := 41) (p := 34) (v := ?vo_w23) (w1 := (((w20.setCell ⟨go12, (t349 : Int).toNat * 3, none⟩ (.int .i64 t352)).setCell ⟨go12, (t349 : Int).toNat * 3 + 1, none⟩ (.slice Ao18 t353.length co18)).setCell ⟨go12, (t349 : Int).toNat * 3 + 2, none⟩ (.slice Ao19 t356.length co19))) ?hg ?ho ?hn ?hr ?_; (case ho => rfl); (case hg => rfl); (case hn => rfl); (case hr => first | (go_simp; done) | (go_simp; rfl)); intro w23 hw; have hg : w20.grownBy w23 (some go12) := (by rw [hw]; exact HP22.2); have hp_ : Kd.S k41 41 w23 w.heap.size (fun k_ => k_ ≠ gb360) (.slice (some ⟨go12, 0, none⟩) t346.length co12) y361 := (by rw [hw, Ny361.out]; exact HP22.1); clear HP22; replace BK360 := Aside0.mk (blk_grown (g := gb360) (o := .cells #[.int .i64 t352, .slice Ao18 t353.length co18, .slice Ao19 t356.length co19] 41 (0, 0)) (bk BK360.out) hg (Kd.S_away HO348.out (fun _ hk => hk.2.2))); replace HO348 := Aside0.mk (hp_); replace HB := Aside0.mk ((by rw [hw]; exact below_set (below_set (below_set (HB.out) GB12.out) GB12.out) GB12.out : Below w.heap.size w w23)); clear HO355 HO358; clear hg hw hp_) | ((with_reducible refine gate_callee (f := 70) rfl ?_); refine goesL_ (some 16) rfl rfl Try.func70 (by kernel_rfl) rfl #[.slice A0 l0.length c0, .int .i64 a1] rfl mapd ?_; (with_reducible refine (spec_BoxOf.calls k _ _ l0 a1 t349 t350 _ ?side1 ?side2 A4.out).mono ?_); (case side1 => exact cb (Kd.C_below HR0.out HB.out)); (case side2 => exact HC0.out); rintro e w7 ⟨rfl, hb⟩; refine ⟨_, rfl, ?_⟩; replace HO348 := Aside0.mk (Kd.S_below (by (with_reducible repeat (first | apply Kd.S_alloc | apply Kd.S_drewN | apply Kd.S_drew)); exact HO348.out) hb); replace HB := Aside0.mk (below_step (bl HB.out) hb); (try clear hb); (try clear hb2); (try clear hk); (try clear hi)))
 ·go_ret2
  exact ⟨_, by first | rfl | (simp [errW_none, errW_some] <;> rfl) | (simp [*, errW_none, errW_some] <;> rfl), by (with_reducible repeat (first | apply Kd.S_alloc | apply Kd.S_drewN | apply Kd.S_drew)); exact HO348.out, bl HB.out⟩
 ·go_ret2
  exact ⟨_, by first | rfl | (simp [errW_none, errW_some] <;> rfl) | (simp [*, errW_none, errW_some] <;> rfl), by (with_reducible repeat (first | apply Kd.S_alloc | apply Kd.S_drewN | apply Kd.S_drew)); exact Kd.S_mono HO348.out (fun _ hk => trivial), bl HB.out⟩

theorem getD_at_ {α : Type} {l : List α} {i : Nat} (d : α) (h : i < l.length) : l.getD i d = l[i] := by
 rw [List.getD_eq_getElem?_getD, List.getElem?_eq_getElem h]; rfl
def idxP : List S98 → Int → Int → Int
 | [], _, _ => -1
 | b :: bs, p, i => if b.f2 = p then i else idxP bs p (i + 1)
set_option maxHeartbeats 8000000 in
set_option maxRecDepth 100000 in
theorem boxAt_is (b0 b1 b2 : Int) (b3 : Bool) (g : Nat) (p : Int) (w : World) (hc : w.cell? ⟨g, 0, none⟩ = some (.int .i64 p)) :
  Calls Try.prog 115 #[.agg #[.int .i64 b0, .int .i64 b1, .int .i64 b2, .bool b3], .pointer (some ⟨g, 0, none⟩)] w fun e w' => e = .returned (.bool (b2 == p)) ∧ Below w.heap.size w w' := by
 have hg : g < w.heap.size := World.block_lt_of_cell? w _ hc
 have hc' := fun o => (World.cell?_alloc_lt w o ⟨g, 0, none⟩ hg).trans hc
 have huB := Try.underlying98
 go_enter Try.func115, Try.ntmps115
 go_wp2
 go_ret
 exact ⟨rfl, by repeat (first | exact Below.refl _ _ | apply below_alloc | apply pw_below_drewN | apply below_drew1)⟩
set_option maxHeartbeats 8000000 in
set_option maxRecDepth 100000 in
theorem boxAt_index (A : Option Addr) (c : Nat) (l : List S98) (g : Nat) (p : Int) (w : World) (hr : Kd.C k98 w A l.length l) (hcell : w.cell? ⟨g, 0, none⟩ = some (.int .i64 p)) :
  Calls Try.prog 114 #[.slice A l.length c, .func (.func 115) #[] #[.pointer (some ⟨g, 0, none⟩)]] w fun e w' => e = .returned (.int .i64 (idxP l p 0)) ∧ Below w.heap.size w w' := by
 have hL : l.length ≤ 9223372036854775807 := hr.2.1
 have huB := Try.underlying98
 have HR := Aside0.mk hr
 clear hr
 have HL := Aside0.mk hL
 clear hL
 go_enter Try.func114, Try.ntmps114
 go_wp2
 go_loopw [8] (fun v8 wr => ∃ i : Int, v8 = .int .i64 i ∧ Aside0 (0 ≤ i ∧ i ≤ l.length) ∧ Aside0 (idxP l p 0 = idxP (l.drop i.toNat) p i) ∧ Aside0 (Below w.heap.size w wr)) (fun v8 _ => l.length - (intOf v8).toNat)
 case atStart => exact ⟨0, rfl, ⟨by omega⟩, ⟨rfl⟩, ⟨Below.refl _ _⟩⟩
 case round =>
  obtain ⟨i, rfl, hk, hi, HB⟩ := hrel
  have hcw := (HB.out.cell (World.block_lt_of_cell? w _ hcell)).trans hcell
  by_cases hlt : i < (l.length : Int)
  ·obtain ⟨ad, e1, h0, h1, h2, h3⟩ := at_T98 HR.out i hk.out.1 hlt
   subst e1
   replace h0 := (HB.out.cell (World.block_lt_of_cell? w _ h0)).trans h0
   replace h1 := (HB.out.cell (World.block_lt_of_cell? w _ h1)).trans h1
   replace h2 := (HB.out.cell (World.block_lt_of_cell? w _ h2)).trans h2
   replace h3 := (HB.out.cell (World.block_lt_of_cell? w _ h3)).trans h3
   have q0 := eq_true hk.out.1
   have q1 := eq_true hlt
   have hltb : decide (i < (l.length : Int)) = true := decide_eq_true hlt
   have hdrop : Aside0 (l.drop i.toNat = rd_T98 l i :: l.drop (i.toNat + 1)) := ⟨by
    have hn : i.toNat < l.length := by have := hk.out.1; omega
    rw [List.drop_eq_getElem_cons hn]
    unfold rd_T98
    rw [getD_at_ _ hn]⟩
   have hwr : Aside0 (wrap64 (i + 1) = i + 1) := ⟨by have := hk.out; have := HL.out; unfold wrap64; omega⟩
   have hlt2 := Aside0.mk hlt
   clear hlt
   by_cases hb : (rd_T98 l i).f2 = p
   ·have hbb : ((rd_T98 l i).f2 == p) = true := by simpa using hb
    have hres : Aside0 (idxP l p 0 = i) := ⟨by rw [hi.out, hdrop.out]; simp only [idxP]; rw [if_pos hb]⟩
    clear hb hi hdrop
    go_wp2_with (go_at_call 115; refine (boxAt_is _ _ _ _ g p _ hcw).mono ?_; rintro e w' ⟨rfl, hb1⟩)
    go_ret
    exact ⟨by rw [hres.out]; rfl, below_step HB.out hb1⟩
   ·have hbb : ((rd_T98 l i).f2 == p) = false := by simpa using hb
    have hres : Aside0 (idxP l p 0 = idxP (l.drop (i + 1).toNat) p (i + 1)) := ⟨by
     rw [hi.out, hdrop.out]; simp only [idxP]; rw [if_neg hb]
     congr 2
     have := hk.out.1
     omega⟩
    clear hb hi hdrop
    go_wp2_with (go_at_call 115; refine (boxAt_is _ _ _ _ g p _ hcw).mono ?_; rintro e w' ⟨rfl, hb1⟩)
    go_roundw
    case rel => exact ⟨i + 1, by rw [hwr.out], ⟨by have := hk.out; have := hlt2.out; omega⟩, hres, ⟨below_step HB.out hb1⟩⟩
    case measure =>
     have := hk.out; have := hlt2.out
     rw [hwr.out]
     simp [intOf]
     omega
  ·have hltb : decide (i < (l.length : Int)) = false := decide_eq_false hlt
   have hres : Aside0 (idxP l p 0 = -1) := ⟨by
    have := hk.out
    rw [hi.out, List.drop_eq_nil_of_le (by omega)]; rfl⟩
   clear hlt hi
   go_wp2
   go_ret
   exact ⟨by rw [hres.out]; rfl, HB.out⟩
theorem cell_new2 (w : World) (O : Obj) (v : Value) (t : TypeId) : ((w.alloc O).alloc (.cells #[v] t)).cell? ⟨w.heap.size + 1, 0, none⟩ = some v := by
 have h := (MapKept.heap_alloc (w.alloc O) (.cells #[v] t)).1
 have hs : (w.alloc O).heap.size = w.heap.size + 1 := Array.size_push _
 rw [hs] at h
 exact blk_cell h 0
def impl_boxAt.f (a0_0 : Int) (l0_1 : List Int) (l0_2 : List (S98)) (a1 : Int) : Option (Int) := some (idxP l0_2 a1 0)
set_option maxHeartbeats 8000000 in
set_option maxRecDepth 100000 in
theorem impl_boxAt.calls (a0_0 : Int) (A0_1 : Option Addr) (c0_1 : Nat) (l0_1 : List Int) (A0_2 : Option Addr) (c0_2 : Nat) (l0_2 : List (S98)) (a1 : Int) (r : Int) (w : World) (hr0_1 : Kd.C (Kd.int .i64) w A0_1 l0_1.length l0_1) (hc0_1 : l0_1.length ≤ c0_1) (hr0_2 : Kd.C k98 w A0_2 l0_2.length l0_2) (hc0_2 : l0_2.length ≤ c0_2) (h : impl_boxAt.f a0_0 l0_1 l0_2 a1 = some r) :
  Calls Try.prog 80 #[.agg #[.int .i64 a0_0, .slice A0_1 l0_1.length c0_1, .slice A0_2 l0_2.length c0_2], .int .i64 a1] w fun e w' => e = .returned (.int .i64 r) ∧ Below w.heap.size w w' := by
 obtain rfl := Option.some.inj h
 have HR := Aside0.mk hr0_2
 clear h hr0_1 hr0_2 hc0_1 hc0_2
 have huC := Try.underlying41
 go_enter Try.func80, Try.ntmps80
 go_wp2_with (go_at_call 114; refine (boxAt_index _ _ l0_2 (w.heap.size + 1) a1 _ (Kd.C_alloc (Kd.C_alloc HR.out _) _) (cell_new2 w _ _ _)).mono ?_; rintro e w' ⟨rfl, hb1⟩)
 go_ret
 exact ⟨rfl, below_step (below_alloc (below_alloc (Below.refl _ _) _) _) hb1⟩
end Go.Proofs.Ytbpjidekjogfeaa.A
