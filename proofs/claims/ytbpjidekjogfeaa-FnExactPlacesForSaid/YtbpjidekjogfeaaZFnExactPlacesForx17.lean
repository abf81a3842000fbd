/- Used by the law FnExactPlacesFor. -/
import Derived.Test.YtbpjidekjogfeaaZFnExactPlacesForx12
import Derived.Test.YtbpjidekjogfeaaZFnExactPlacesForx16
import Derived.Test.YtbpjidekjogfeaaZFnExactPlacesForx13
import Derived.Test.YtbpjidekjogfeaaZFnExactPlacesForx15
import Derived.Test.YtbpjidekjogfeaaZFnExactPlacesForh
namespace Go.Proofs.Ytbpjidekjogfeaa.A
open Go.RowKit Go.Proofs.YtbpjidekjogfeaaW.PrintWords Go.Proofs.YtbpjidekjogfeaaW.PrintLast Go.Proofs.YtbpjidekjogfeaaW.PrintMore
attribute [local go_sem] max2_int min2_int max_two min_two max_three min_three max_four min_four   
set_option linter.unusedVariables false
set_option linter.unusedSimpArgs false
def laws_eqColumnS.l0 : Nat → List (S41) → List (S41) → Int → Option (Bool)
 | 0, _, _, _ => none
 | k + 1, x0, x1, x5 => if x5 < (x0.length : Int) then (if 0 ≤ x5 then (if x5 < (x1.length : Int) then ((laws_eqColumn.f k ((rd_T41 x0 x5).f0) ((rd_T41 x0 x5).f1) ((rd_T41 x0 x5).f2) ((rd_T41 x1 x5).f0) ((rd_T41 x1 x5).f1) ((rd_T41 x1 x5).f2)).bind fun t255 => (if t255 = true then (laws_eqColumnS.l0 k x0 x1 (wrap64 (x5 + 1))) else (some false))) else (none)) else (none)) else (some true)
def laws_eqColumnS.f (k : Nat) (l0 : List (S41)) (l1 : List (S41)) : Option (Bool) := if (l0.length : Int) = (l1.length : Int) then (laws_eqColumnS.l0 k l0 l1 0) else (some false)
def laws_eqColumnS.T6 : Bool × List (List Nat × List Nat) := (true, [([], []), ([], []), ([0, 1], [0, 1]), ([2], [2]), ([], []), ([], []), ([4, 5], [4, 5]), ([6], [6]), ([3, 7], [3, 7]), ([8], [8])])
def laws_eqColumnS.B6 : List Nat := [0, 0, 3, 7, 0, 0, 48, 112, 255, 511]
theorem laws_eqColumnS.tab6 : rtab .any (opsOf Try.f20 6) = laws_eqColumnS.T6 := by kernel_rfl
theorem laws_eqColumnS.bits6 : waitsOk laws_eqColumnS.T6.2 laws_eqColumnS.B6 = true := by kernel_rfl
set_option maxHeartbeats 8000000 in
set_option maxRecDepth 100000 in
theorem laws_eqColumnS.calls (k : Nat) (A0 : Option Addr) (c0 : Nat) (l0 : List (S41)) (A1 : Option Addr) (c1 : Nat) (l1 : List (S41)) (r : Bool) (w : World) (hr0 : Kd.C k41 w A0 l0.length l0) (hc0 : l0.length ≤ c0) (hr1 : Kd.C k41 w A1 l1.length l1) (hc1 : l1.length ≤ c1) (h : laws_eqColumnS.f k l0 l1 = some r) :
  Calls Try.prog 20 #[.slice A0 l0.length c0, .slice A1 l1.length c1] w fun e w' => e = .returned (.bool r) ∧ Below w.heap.size w w' := by
 have hu41 := Try.underlying41
 have HR0 := Aside0.mk hr0
 have HC0 := Aside0.mk hc0
 clear hr0 hc0
 have HR1 := Aside0.mk hr1
 have HC1 := Aside0.mk hc1
 clear hr1 hc1
 have HB := Aside0.mk (Below.refl w.heap.size w)
 have H : (if (l0.length : Int) = (l1.length : Int) then (laws_eqColumnS.l0 k l0 l1 0) else (some false)) = some r := h
 clear h
 by_cases c3 : (l0.length : Int) = (l1.length : Int)
 ·rw [if_pos c3] at H
  have c3b0 : ((l0.length : Int) == (l1.length : Int)) = true := beq_iff_eq.mpr c3
  have c3b1 : ((l0.length : Int) != (l1.length : Int)) = false := bne_eq_false_iff_eq.mpr c3
  have c3b2 : (l0.length == l1.length) = true := by first | simpa using c3 | (simp at c3 ⊢; omega)
  clear c3
  have H' := Aside0.mk H
  clear H
  go_enter Try.func20, Try.ntmps20
  go_wp2
  go_loopg [5] k (fun kq v5 w' => ∃ (x5_1 : Int), v5 = .int .i64 x5_1 ∧ Aside0 (laws_eqColumnS.l0 kq l0 l1 x5_1 = some r) ∧ Aside0 (kq ≤ k) ∧ Aside0 (Below w.heap.size w w'))
  case atStart => exact ⟨(0), (by first | rfl | (simp; done) | (simp [*]; done)), H', ⟨Nat.le_refl _⟩, ⟨bl HB.out⟩⟩
  case round =>
   clear H'
   try clear c1
   try clear c2
   try clear p2
   try clear c3
   try clear c3b0
   try clear c3b1
   try clear c3b2
   obtain ⟨x5_1, rfl, HA, HK1, HB⟩ := hrel
   cases gk with
   | zero => exact absurd HA.out (by simp [laws_eqColumnS.l0])
   | succ k1 =>
    have H := HA.out
    clear HA
    simp only [laws_eqColumnS.l0] at H
    by_cases c4 : x5_1 < (l0.length : Int)
    ·rw [if_pos c4] at H
     have c4b0 : decide (x5_1 < (l0.length : Int)) = true := decide_eq_true c4
     clear c4
     by_cases c5 : 0 ≤ x5_1
     ·rw [if_pos c5] at H
      have c5b0 : decide (0 ≤ x5_1) = true := decide_eq_true c5
      clear c5
      by_cases c6 : x5_1 < (l1.length : Int)
      ·rw [if_pos c6] at H
       have c6b0 : decide (x5_1 < (l1.length : Int)) = true := decide_eq_true c6
       clear c6
       replace H := Option.bind_eq_some_iff.mp H
       obtain ⟨t255, A70, H⟩ := H
       try dsimp only at H
       have A7 := Aside0.mk A70
       clear A70
       by_cases c8 : t255 = true
       ·subst c8
        rw [if_pos rfl] at H
        have H' := Aside0.mk H
        clear H
        try go_wp2
        replace HB := Aside0.mk (below_drew1 HB.out)
        have p253 : 0 ≤ (x5_1 : Int) := of_decide_eq_true asm
        have q253 : x5_1 < (l0.length : Int) := of_decide_eq_true asm
        obtain ⟨ad253, A253_1, c253_1, A253_2, c253_2, e253, hx253_0, hx253_1, hx253_2, hl253_1, hi253_1, hl253_2, hi253_2⟩ := at_T41 HR0.out x5_1 p253 q253
        have hw253_2 := hx253_2
        have hw253_1 := hx253_1
        have hw253_0 := hx253_0
        cases e253
        replace hx253_0 := (HB.out.cell (World.block_lt_of_cell? w _ hx253_0)).trans hx253_0
        replace hx253_1 := (HB.out.cell (World.block_lt_of_cell? w _ hx253_1)).trans hx253_1
        replace hx253_2 := (HB.out.cell (World.block_lt_of_cell? w _ hx253_2)).trans hx253_2
        have HR253_1 := Aside0.mk hi253_1
        have HC253_1 := Aside0.mk hl253_1
        clear hi253_1 hl253_1
        have HR253_2 := Aside0.mk hi253_2
        have HC253_2 := Aside0.mk hl253_2
        clear hi253_2 hl253_2
        replace p253 := eq_true p253
        replace q253 := eq_true q253
        have p254 : 0 ≤ (x5_1 : Int) := of_decide_eq_true asm
        have q254 : x5_1 < (l1.length : Int) := of_decide_eq_true asm
        obtain ⟨ad254, A254_1, c254_1, A254_2, c254_2, e254, hx254_0, hx254_1, hx254_2, hl254_1, hi254_1, hl254_2, hi254_2⟩ := at_T41 HR1.out x5_1 p254 q254
        have hw254_2 := hx254_2
        have hw254_1 := hx254_1
        have hw254_0 := hx254_0
        cases e254
        replace hx254_0 := (HB.out.cell (World.block_lt_of_cell? w _ hx254_0)).trans hx254_0
        replace hx254_1 := (HB.out.cell (World.block_lt_of_cell? w _ hx254_1)).trans hx254_1
        replace hx254_2 := (HB.out.cell (World.block_lt_of_cell? w _ hx254_2)).trans hx254_2
        have HR254_1 := Aside0.mk hi254_1
        have HC254_1 := Aside0.mk hl254_1
        clear hi254_1 hl254_1
        have HR254_2 := Aside0.mk hi254_2
        have HC254_2 := Aside0.mk hl254_2
        clear hi254_2 hl254_2
        replace p254 := eq_true p254
        replace q254 := eq_true q254
        refine start_ (n := 10) (S := fun w' => w'.cell? (ad253.add ((x5_1).toNat * 3)) = some (.int .i64 ((rd_T41 l0 x5_1).f0)) ∧ w'.cell? ⟨(ad253.add ((x5_1).toNat * 3)).block, (ad253.add ((x5_1).toNat * 3)).off + 1, none⟩ = some (.slice A253_1 ((rd_T41 l0 x5_1).f1).length c253_1) ∧ w'.cell? ⟨(ad253.add ((x5_1).toNat * 3)).block, (ad253.add ((x5_1).toNat * 3)).off + 2, none⟩ = some (.slice A253_2 ((rd_T41 l0 x5_1).f2).length c253_2) ∧ w'.cell? (ad254.add ((x5_1).toNat * 3)) = some (.int .i64 ((rd_T41 l1 x5_1).f0)) ∧ w'.cell? ⟨(ad254.add ((x5_1).toNat * 3)).block, (ad254.add ((x5_1).toNat * 3)).off + 1, none⟩ = some (.slice A254_1 ((rd_T41 l1 x5_1).f1).length c254_1) ∧ w'.cell? ⟨(ad254.add ((x5_1).toNat * 3)).block, (ad254.add ((x5_1).toNat * 3)).off + 2, none⟩ = some (.slice A254_2 ((rd_T41 l1 x5_1).f2).length c254_2)) (ds := []) #[false, false, false, false, false, false, false, false, false, false] (by kernel_rfl) rfl rfl ⟨((HB.out.cell (World.block_lt_of_cell? w _ hw253_0)).trans hw253_0), ((HB.out.cell (World.block_lt_of_cell? w _ hw253_1)).trans hw253_1), ((HB.out.cell (World.block_lt_of_cell? w _ hw253_2)).trans hw253_2), ((HB.out.cell (World.block_lt_of_cell? w _ hw254_0)).trans hw254_0), ((HB.out.cell (World.block_lt_of_cell? w _ hw254_1)).trans hw254_1), ((HB.out.cell (World.block_lt_of_cell? w _ hw254_2)).trans hw254_2)⟩ (fun hHeld => ?_); refine with_tabW laws_eqColumnS.tab6 laws_eqColumnS.bits6 (fun HT_ HW_ => ?_)
        generalize wr.drew = w9 at HB HR253_1 HR253_2 HR254_1 HR254_2 hx253_0 hx253_1 hx253_2 hx254_0 hx254_1 hx254_2 hHeld ⊢
        refine puA (i := 0) (N := some 17) HT_.out ?_
        refine puA (i := 1) (N := some 18) HT_.out ?_
        refine puA (i := 2) (N := some 19) HT_.out ?_
        refine puA (i := 4) (N := some 21) HT_.out ?_
        refine puA (i := 5) (N := some 22) HT_.out ?_
        refine puA (i := 6) (N := some 23) HT_.out ?_
        refine tkA6 (i := 3) (N := some 20) HT_.out HW_.out hHeld ?_
        refine tkA6 (i := 7) (N := some 24) HT_.out HW_.out hHeld ?_
        refine onA (i := 8) (N := some 25) HT_.out (fun K hK => ?_)
        refine goes_ Try.func39 (by kernel_rfl) rfl #[.agg #[.int .i64 ((rd_T41 l0 x5_1).f0), .slice A253_1 ((rd_T41 l0 x5_1).f1).length c253_1, .slice A253_2 ((rd_T41 l0 x5_1).f2).length c253_2], .agg #[.int .i64 ((rd_T41 l1 x5_1).f0), .slice A254_1 ((rd_T41 l1 x5_1).f1).length c254_1, .slice A254_2 ((rd_T41 l1 x5_1).f2).length c254_2]] (by rfl) rfl rfl mapd ?_
        with_reducible refine (laws_eqColumn.calls k1 ((rd_T41 l0 x5_1).f0) _ _ ((rd_T41 l0 x5_1).f1) _ _ ((rd_T41 l0 x5_1).f2) ((rd_T41 l1 x5_1).f0) _ _ ((rd_T41 l1 x5_1).f1) _ _ ((rd_T41 l1 x5_1).f2) true _ ?side1 ?side2 ?side3 ?side4 ?side5 ?side6 ?side7 ?side8 A7.out).mono ?_
        (case side1 => exact cb (Kd.C_below HR253_1.out HB.out))
        (case side2 => exact HC253_1.out)
        (case side3 => exact cb (Kd.C_below HR253_2.out HB.out))
        (case side4 => exact HC253_2.out)
        (case side5 => exact cb (Kd.C_below HR254_1.out HB.out))
        (case side6 => exact HC254_1.out)
        (case side7 => exact cb (Kd.C_below HR254_2.out HB.out))
        (case side8 => exact HC254_2.out)
        rintro e w10 ⟨rfl, hb⟩
        refine ⟨_, rfl, ?_⟩
        replace HB := Aside0.mk (below_step (bl HB.out) hb)
        (try clear hb)
        (try clear hb2)
        (try clear hk)
        (try clear hi)
        refine hK.out _ _ ⟨((HB.out.cell (World.block_lt_of_cell? w _ hw253_0)).trans hw253_0), ((HB.out.cell (World.block_lt_of_cell? w _ hw253_1)).trans hw253_1), ((HB.out.cell (World.block_lt_of_cell? w _ hw253_2)).trans hw253_2), ((HB.out.cell (World.block_lt_of_cell? w _ hw254_0)).trans hw254_0), ((HB.out.cell (World.block_lt_of_cell? w _ hw254_1)).trans hw254_1), ((HB.out.cell (World.block_lt_of_cell? w _ hw254_2)).trans hw254_2)⟩ (fun hHeld => ?_)
        clear hK K
        refine norm_ (a' := ?_) ?_ ?_
        rotate_left
        ·show Act.put _ (some 25) _ = _
         simp only [Act.put, List.setIfInBounds_toArray, List.set_cons_zero, List.set_cons_succ, i64_w, i32_w]
         rfl
        refine puA (i := 9) (N := some 26) HT_.out ?_
        refine done_ (done_of HT_.out (by kernel_rfl)) ?_
        try go_wp2
        go_roundg k1
        case measure => have := HK1.out; omega
        case rel => exact ⟨(wrap64 (x5_1 + 1)), (by first | rfl | (simp; done) | (simp [*]; done)), H', ⟨by have := HK1.out; omega⟩, ⟨bl HB.out⟩⟩
       ·replace c8 := Bool.eq_false_iff.mpr c8
        subst c8
        rw [if_neg (show ¬ (false = true) by decide)] at H
        obtain rfl := Option.some.inj H
        try go_wp2
        replace HB := Aside0.mk (below_drew1 HB.out)
        have p253 : 0 ≤ (x5_1 : Int) := of_decide_eq_true asm
        have q253 : x5_1 < (l0.length : Int) := of_decide_eq_true asm
        obtain ⟨ad253, A253_1, c253_1, A253_2, c253_2, e253, hx253_0, hx253_1, hx253_2, hl253_1, hi253_1, hl253_2, hi253_2⟩ := at_T41 HR0.out x5_1 p253 q253
        have hw253_2 := hx253_2
        have hw253_1 := hx253_1
        have hw253_0 := hx253_0
        cases e253
        replace hx253_0 := (HB.out.cell (World.block_lt_of_cell? w _ hx253_0)).trans hx253_0
        replace hx253_1 := (HB.out.cell (World.block_lt_of_cell? w _ hx253_1)).trans hx253_1
        replace hx253_2 := (HB.out.cell (World.block_lt_of_cell? w _ hx253_2)).trans hx253_2
        have HR253_1 := Aside0.mk hi253_1
        have HC253_1 := Aside0.mk hl253_1
        clear hi253_1 hl253_1
        have HR253_2 := Aside0.mk hi253_2
        have HC253_2 := Aside0.mk hl253_2
        clear hi253_2 hl253_2
        replace p253 := eq_true p253
        replace q253 := eq_true q253
        have p254 : 0 ≤ (x5_1 : Int) := of_decide_eq_true asm
        have q254 : x5_1 < (l1.length : Int) := of_decide_eq_true asm
        obtain ⟨ad254, A254_1, c254_1, A254_2, c254_2, e254, hx254_0, hx254_1, hx254_2, hl254_1, hi254_1, hl254_2, hi254_2⟩ := at_T41 HR1.out x5_1 p254 q254
        have hw254_2 := hx254_2
        have hw254_1 := hx254_1
        have hw254_0 := hx254_0
        cases e254
        replace hx254_0 := (HB.out.cell (World.block_lt_of_cell? w _ hx254_0)).trans hx254_0
        replace hx254_1 := (HB.out.cell (World.block_lt_of_cell? w _ hx254_1)).trans hx254_1
        replace hx254_2 := (HB.out.cell (World.block_lt_of_cell? w _ hx254_2)).trans hx254_2
        have HR254_1 := Aside0.mk hi254_1
        have HC254_1 := Aside0.mk hl254_1
        clear hi254_1 hl254_1
        have HR254_2 := Aside0.mk hi254_2
        have HC254_2 := Aside0.mk hl254_2
        clear hi254_2 hl254_2
        replace p254 := eq_true p254
        replace q254 := eq_true q254
        refine start_ (n := 10) (S := fun w' => w'.cell? (ad253.add ((x5_1).toNat * 3)) = some (.int .i64 ((rd_T41 l0 x5_1).f0)) ∧ w'.cell? ⟨(ad253.add ((x5_1).toNat * 3)).block, (ad253.add ((x5_1).toNat * 3)).off + 1, none⟩ = some (.slice A253_1 ((rd_T41 l0 x5_1).f1).length c253_1) ∧ w'.cell? ⟨(ad253.add ((x5_1).toNat * 3)).block, (ad253.add ((x5_1).toNat * 3)).off + 2, none⟩ = some (.slice A253_2 ((rd_T41 l0 x5_1).f2).length c253_2) ∧ w'.cell? (ad254.add ((x5_1).toNat * 3)) = some (.int .i64 ((rd_T41 l1 x5_1).f0)) ∧ w'.cell? ⟨(ad254.add ((x5_1).toNat * 3)).block, (ad254.add ((x5_1).toNat * 3)).off + 1, none⟩ = some (.slice A254_1 ((rd_T41 l1 x5_1).f1).length c254_1) ∧ w'.cell? ⟨(ad254.add ((x5_1).toNat * 3)).block, (ad254.add ((x5_1).toNat * 3)).off + 2, none⟩ = some (.slice A254_2 ((rd_T41 l1 x5_1).f2).length c254_2)) (ds := []) #[false, false, false, false, false, false, false, false, false, false] (by kernel_rfl) rfl rfl ⟨((HB.out.cell (World.block_lt_of_cell? w _ hw253_0)).trans hw253_0), ((HB.out.cell (World.block_lt_of_cell? w _ hw253_1)).trans hw253_1), ((HB.out.cell (World.block_lt_of_cell? w _ hw253_2)).trans hw253_2), ((HB.out.cell (World.block_lt_of_cell? w _ hw254_0)).trans hw254_0), ((HB.out.cell (World.block_lt_of_cell? w _ hw254_1)).trans hw254_1), ((HB.out.cell (World.block_lt_of_cell? w _ hw254_2)).trans hw254_2)⟩ (fun hHeld => ?_); refine with_tabW laws_eqColumnS.tab6 laws_eqColumnS.bits6 (fun HT_ HW_ => ?_)
        generalize wr.drew = w11 at HB HR253_1 HR253_2 HR254_1 HR254_2 hx253_0 hx253_1 hx253_2 hx254_0 hx254_1 hx254_2 hHeld ⊢
        refine puA (i := 0) (N := some 17) HT_.out ?_
        refine puA (i := 1) (N := some 18) HT_.out ?_
        refine puA (i := 2) (N := some 19) HT_.out ?_
        refine puA (i := 4) (N := some 21) HT_.out ?_
        refine puA (i := 5) (N := some 22) HT_.out ?_
        refine puA (i := 6) (N := some 23) HT_.out ?_
        refine tkA6 (i := 3) (N := some 20) HT_.out HW_.out hHeld ?_
        refine tkA6 (i := 7) (N := some 24) HT_.out HW_.out hHeld ?_
        refine onA (i := 8) (N := some 25) HT_.out (fun K hK => ?_)
        refine goes_ Try.func39 (by kernel_rfl) rfl #[.agg #[.int .i64 ((rd_T41 l0 x5_1).f0), .slice A253_1 ((rd_T41 l0 x5_1).f1).length c253_1, .slice A253_2 ((rd_T41 l0 x5_1).f2).length c253_2], .agg #[.int .i64 ((rd_T41 l1 x5_1).f0), .slice A254_1 ((rd_T41 l1 x5_1).f1).length c254_1, .slice A254_2 ((rd_T41 l1 x5_1).f2).length c254_2]] (by rfl) rfl rfl mapd ?_
        with_reducible refine (laws_eqColumn.calls k1 ((rd_T41 l0 x5_1).f0) _ _ ((rd_T41 l0 x5_1).f1) _ _ ((rd_T41 l0 x5_1).f2) ((rd_T41 l1 x5_1).f0) _ _ ((rd_T41 l1 x5_1).f1) _ _ ((rd_T41 l1 x5_1).f2) false _ ?side1 ?side2 ?side3 ?side4 ?side5 ?side6 ?side7 ?side8 A7.out).mono ?_
        (case side1 => exact cb (Kd.C_below HR253_1.out HB.out))
        (case side2 => exact HC253_1.out)
        (case side3 => exact cb (Kd.C_below HR253_2.out HB.out))
        (case side4 => exact HC253_2.out)
        (case side5 => exact cb (Kd.C_below HR254_1.out HB.out))
        (case side6 => exact HC254_1.out)
        (case side7 => exact cb (Kd.C_below HR254_2.out HB.out))
        (case side8 => exact HC254_2.out)
        rintro e w12 ⟨rfl, hb⟩
        refine ⟨_, rfl, ?_⟩
        replace HB := Aside0.mk (below_step (bl HB.out) hb)
        (try clear hb)
        (try clear hb2)
        (try clear hk)
        (try clear hi)
        refine hK.out _ _ ⟨((HB.out.cell (World.block_lt_of_cell? w _ hw253_0)).trans hw253_0), ((HB.out.cell (World.block_lt_of_cell? w _ hw253_1)).trans hw253_1), ((HB.out.cell (World.block_lt_of_cell? w _ hw253_2)).trans hw253_2), ((HB.out.cell (World.block_lt_of_cell? w _ hw254_0)).trans hw254_0), ((HB.out.cell (World.block_lt_of_cell? w _ hw254_1)).trans hw254_1), ((HB.out.cell (World.block_lt_of_cell? w _ hw254_2)).trans hw254_2)⟩ (fun hHeld => ?_)
        clear hK K
        refine norm_ (a' := ?_) ?_ ?_
        rotate_left
        ·show Act.put _ (some 25) _ = _
         simp only [Act.put, List.setIfInBounds_toArray, List.set_cons_zero, List.set_cons_succ, i64_w, i32_w]
         rfl
        refine puA (i := 9) (N := some 26) HT_.out ?_
        refine done_ (done_of HT_.out (by kernel_rfl)) ?_
        try go_wp2
        go_ret
        exact ⟨by first | rfl | (simp [errW_none, errW_some] <;> rfl) | (simp [*, errW_none, errW_some] <;> rfl), bl HB.out⟩
      ·rw [if_neg c6] at H
       exact absurd H (by simp)
     ·rw [if_neg c5] at H
      exact absurd H (by simp)
    ·rw [if_neg c4] at H
     have c4b0 : decide (x5_1 < (l0.length : Int)) = false := decide_eq_false c4
     clear c4
     obtain rfl := Option.some.inj H
     go_wp2
     go_ret
     exact ⟨by first | rfl | (simp [errW_none, errW_some] <;> rfl) | (simp [*, errW_none, errW_some] <;> rfl), bl HB.out⟩
 ·rw [if_neg c3] at H
  have c3b0 : ((l0.length : Int) == (l1.length : Int)) = false := beq_eq_false_iff_ne.mpr c3
  have c3b1 : ((l0.length : Int) != (l1.length : Int)) = true := bne_iff_ne.mpr c3
  have c3b2 : (l0.length == l1.length) = false := by first | simpa using c3 | (simp at c3 ⊢; omega)
  obtain rfl := Option.some.inj H
  go_enter Try.func20, Try.ntmps20
  go_wp2
  go_ret
  exact ⟨by first | rfl | (simp [errW_none, errW_some] <;> rfl) | (simp [*, errW_none, errW_some] <;> rfl), bl HB.out⟩
def laws_markIntS.l0 : Nat → List Int → Int → Int → Option (Int × List Int)
 | 0, _, _, _ => none
 | k + 1, x0, x1, x5 => if x5 < (x0.length : Int) then (if 0 ≤ x5 then (laws_markIntS.l0 k (x0.set (x5 : Int).toNat x1) (wrap64 (x1 + 1)) (wrap64 (x5 + 1))) else (none)) else (some (x1, x0))
def laws_markIntS.f (k : Nat) (l0 : List Int) (a1 : Int) : Option (Int × List Int) := laws_markIntS.l0 k l0 a1 0
set_option maxHeartbeats 8000000 in
set_option maxRecDepth 100000 in
theorem laws_markIntS.calls (k : Nat) (P0_ : Nat → Prop) (u9000_ : Value) (l0 : List Int) (a1 : Int) (r1 : Int) (r2 : List Int) (w0 w : World) (hB : Below w0.heap.size w0 w) (ho0 : Kd.R (Kd.int .i64) 3 w w0.heap.size P0_ u9000_ l0) (h : laws_markIntS.f k l0 a1 = some (r1, r2)) :
  Calls Try.prog 54 #[u9000_, .int .i64 a1] w fun e w' => e = .returned (.int .i64 r1) ∧ Kd.R (Kd.int .i64) 3 w' w0.heap.size (fun k_ => (P0_ k_ ∨ w.heap.size ≤ k_)) u9000_ r2 ∧ Below w0.heap.size w0 w' ∧ Kept w w' (fun k_ => P0_ k_) := by
 have HO0 := Aside0.mk (show Kd.R (Kd.int .i64) 3 w w0.heap.size (fun k_ => (P0_ k_ ∨ w.heap.size ≤ k_)) u9000_ l0 from Kd.R_mono ho0 (fun k_ hk => (.inl hk)))
 have HK := Aside0.mk (Kept.refl w (fun k_ => P0_ k_))
 have HW0 := Aside0.mk hB.size
 have HB := Aside0.mk hB
 clear hB
 have H : (laws_markIntS.l0 k l0 a1 0) = some (r1, r2) := h
 clear h
 have H' := Aside0.mk H
 clear H
 go_enter Try.func54, Try.ntmps54
 go_wp2
 go_loopg [1, 5] k (fun kq v1 v5 w' => ∃ (x0_1 : List Int) (x1_1 : Int) (x5_1 : Int), v1 = .int .i64 x1_1 ∧ v5 = .int .i64 x5_1 ∧ Aside0 (laws_markIntS.l0 kq x0_1 x1_1 x5_1 = some (r1, r2)) ∧ Aside0 (kq ≤ k) ∧ Aside0 (Kd.R (Kd.int .i64) 3 w' w0.heap.size (fun k_ => (P0_ k_ ∨ w.heap.size ≤ k_)) u9000_ x0_1) ∧ Aside0 (Kept w w' (fun k_ => P0_ k_)) ∧ Aside0 (Below w0.heap.size w0 w'))
 case atStart => exact ⟨(l0), (a1), (0), (by first | rfl | (simp; done) | (simp [*]; done)), (by first | rfl | (simp; done) | (simp [*]; done)), H', ⟨Nat.le_refl _⟩, ⟨rk HO0.out⟩, ⟨by repeat (first | (with_reducible first | exact HK.out | apply Kept.alloc | apply Kept.drewN | apply Kept.drew) | exact HK.out)⟩, ⟨bl HB.out⟩⟩
 case round =>
  clear H'
  try clear p2
  obtain ⟨x0_1, x1_1, x5_1, rfl, rfl, HA, HK1, HO_0, HK, HB⟩ := hrel
  cases gk with
  | zero => exact absurd HA.out (by simp [laws_markIntS.l0])
  | succ k1 =>
   have H := HA.out
   clear HA
   simp only [laws_markIntS.l0] at H
   by_cases c3 : x5_1 < (x0_1.length : Int)
   ·rw [if_pos c3] at H
    have c3b0 : decide (x5_1 < (x0_1.length : Int)) = true := decide_eq_true c3
    clear c3
    by_cases c4 : 0 ≤ x5_1
    ·rw [if_pos c4] at H
     have c4b0 : decide (0 ≤ x5_1) = true := decide_eq_true c4
     clear c4
     obtain ⟨y256, hy256⟩ : ∃ y_ : List Int, y_ = (x0_1.set (x5_1 : Int).toNat x1_1) := ⟨_, rfl⟩
     replace H : (laws_markIntS.l0 k1 y256 (wrap64 (x1_1 + 1)) (wrap64 (x5_1 + 1))) = some (r1, r2) := by first | (rw [hy256]; with_reducible exact H) | (have H2_ := (Option.bind_some _ _).symm.trans H; rw [hy256]; with_reducible exact H2_) | (have H2_ := (Option.bind_some _ _).symm.trans H; with_reducible exact H2_) | with_reducible exact H | (rw [hy256]; exact H) | exact H
     have Ny256 := Aside0.mk hy256
     clear hy256
     have H' := Aside0.mk H
     clear H
     obtain ⟨Ao6, co6, eo6⟩ := Kd.R_slice HO_0.out
     subst eo6
     have p5 : 0 ≤ (x5_1 : Int) := of_decide_eq_true asm
     have q5 : (x5_1 : Int) < ((x0_1.length : Int) : Int) := of_decide_eq_true asm
     obtain ⟨go5, co5, eo5, gb5, gl5, cl5, HG5⟩ := Kd.R_form HO_0.out (by omega)
     (first | cases eo5 | (injection eo5 with ea_ en_ ec_; (first | subst ea_ | (injection ea_ with ea_; subst ea_)); subst ec_; clear en_))
     have GB5 := Aside0.mk gb5
     have GG5 := Aside0.mk HG5
     clear gb5 gl5 HG5
     have HMgo5 := Aside0.mk (show (P0_ go5 ∨ w.heap.size ≤ go5) from (HO_0.out.1 _ rfl))
     obtain ⟨hx5_0, hf5_0⟩ := Kd.R_celln 0 HO_0.out (x5_1 : Int) p5 q5
     replace p5 := eq_true p5
     replace q5 := eq_true q5
     have HP7 := Kd.R_putg HO_0.out (x5_1 : Int) x1_1
     go_wp2_with (first | ((with_reducible refine gate_store (t := 3) (p := 15) rfl ?_); refine store_event (t := 3) (p := 15) (v := ?vo_w8) (w1 := (wr.setCell ⟨go5, (x5_1 : Int).toNat, none⟩ (.int .i64 x1_1))) ?hg ?ho ?hn ?hr ?_; (case ho => rfl); (case hg => rfl); (case hn => rfl); (case hr => first | (go_simp; done) | (go_simp; rfl)); intro w8 hw; have hg : wr.grownBy w8 (some go5) := (by rw [hw]; exact HP7.2); have hp_ : Kd.R (Kd.int .i64) 3 w8 w0.heap.size (fun k_ => (P0_ k_ ∨ w.heap.size ≤ k_)) (.slice (some ⟨go5, 0, none⟩) x0_1.length co6) y256 := (by rw [hw, Ny256.out]; exact HP7.1); clear HP7; replace HB := Aside0.mk ((by rw [hw]; exact below_set (HB.out) GB5.out : Below w0.heap.size w0 w8)); replace HK := Aside0.mk (Kept.of_grown (S := (fun k_ => P0_ k_)) hg (by repeat (first | (with_reducible first | exact HK.out | apply Kept.alloc | apply Kept.drewN | apply Kept.drew) | exact HK.out)) (fun k_ e_ => (HO_0.out.1 k_ e_))); replace HO_0 := Aside0.mk (hp_); clear hg hw hp_))
     go_roundg k1
     case measure => have := HK1.out; omega
     case rel => exact ⟨(y256), (wrap64 (x1_1 + 1)), (wrap64 (x5_1 + 1)), (by first | rfl | (simp; done) | (simp [*]; done)), (by first | rfl | (simp; done) | (simp [*]; done)), H', ⟨by have := HK1.out; omega⟩, ⟨rk HO_0.out⟩, ⟨by repeat (first | (with_reducible first | exact HK.out | apply Kept.alloc | apply Kept.drewN | apply Kept.drew) | exact HK.out)⟩, ⟨bl HB.out⟩⟩
    ·rw [if_neg c4] at H
     exact absurd H (by simp)
   ·rw [if_neg c3] at H
    have c3b0 : decide (x5_1 < (x0_1.length : Int)) = false := decide_eq_false c3
    clear c3
    simp only [Option.some.injEq, Prod.mk.injEq] at H
    obtain ⟨rfl, rfl⟩ := H
    obtain ⟨Ao9, co9, eo9⟩ := Kd.R_slice HO_0.out
    subst eo9
    go_wp2
    go_ret
    exact ⟨by first | rfl | (simp [errW_none, errW_some] <;> rfl) | (simp [*, errW_none, errW_some] <;> rfl), rk HO_0.out, bl HB.out, by repeat (first | (with_reducible first | exact HK.out | apply Kept.alloc | apply Kept.drewN | apply Kept.drew) | exact HK.out)⟩
end Go.Proofs.Ytbpjidekjogfeaa.A

namespace Go.Proofs.Ytbpjidekjogfeaa.A
open Go.RowKit Go.Proofs.YtbpjidekjogfeaaW.PrintWords Go.Proofs.YtbpjidekjogfeaaW.PrintLast Go.Proofs.YtbpjidekjogfeaaW.PrintMore
attribute [local go_sem] max2_int min2_int max_two min_two max_three min_three max_four min_four   
set_option linter.unusedVariables false
set_option linter.unusedSimpArgs false
def laws_markBoxS.l0 : Nat → List (S98) → Int → Int → Option (Int × (List (S98)))
 | 0, _, _, _ => none
 | k + 1, x0, x1, x5 => if x5 < (x0.length : Int) then (if 0 ≤ x5 then ((some (x0.set (x5 : Int).toNat (⟨x1, (rd_T98 x0 x5).f1, (rd_T98 x0 x5).f2, (rd_T98 x0 x5).f3⟩ : S98) : List (S98))).bind fun y257 => ((some (y257.set (x5 : Int).toNat (⟨(rd_T98 y257 x5).f0, wrap64 (x1 + 1), (rd_T98 y257 x5).f2, (rd_T98 y257 x5).f3⟩ : S98) : List (S98))).bind fun y258 => ((some (y258.set (x5 : Int).toNat (⟨(rd_T98 y258 x5).f0, (rd_T98 y258 x5).f1, wrap64 ((wrap64 (x1 + 1)) + 1), (rd_T98 y258 x5).f3⟩ : S98) : List (S98))).bind fun y259 => (laws_markBoxS.l0 k (y259.set (x5 : Int).toNat (⟨(rd_T98 y259 x5).f0, (rd_T98 y259 x5).f1, (rd_T98 y259 x5).f2, ((Int.tmod (wrap64 ((wrap64 ((wrap64 (x1 + 1)) + 1)) + 1)) 3) == 0)⟩ : S98)) (wrap64 ((wrap64 ((wrap64 ((wrap64 (x1 + 1)) + 1)) + 1)) + 1)) (wrap64 (x5 + 1)))))) else (none)) else (some (x1, x0))
def laws_markBoxS.f (k : Nat) (l0 : List (S98)) (a1 : Int) : Option (Int × (List (S98))) := laws_markBoxS.l0 k l0 a1 0
end Go.Proofs.Ytbpjidekjogfeaa.A

namespace Go.Proofs.Ytbpjidekjogfeaa.A
open Go.RowKit Go.Proofs.YtbpjidekjogfeaaW.PrintWords Go.Proofs.YtbpjidekjogfeaaW.PrintLast Go.Proofs.YtbpjidekjogfeaaW.PrintMore
attribute [local go_sem] max2_int min2_int max_two min_two max_three min_three max_four min_four   
set_option linter.unusedVariables false
set_option linter.unusedSimpArgs false
def Alike_ (u v : Value) : Prop := (∃ x y : Int, u = .int .i64 x ∧ v = .int .i64 y) ∨ ∃ x y : Bool, u = .bool x ∧ v = .bool y
structure SoftK_ {α : Type} (d : Kd α) (S : α → α → Prop) : Prop where
 val : ∀ {W : World} {base : Nat} {ok : Nat → Prop} {x : α} {cs : List Value} {g j : Nat} {u v : Value}, d.M W base ok x cs → W.cell? ⟨g, j, none⟩ = some u → Alike_ u v → ∃ x', S x x' ∧ d.M (W.setCell ⟨g, j, none⟩ v) base ok x' cs
 seg : ∀ {W : World} {base : Nat} {ok : Nat → Prop} {x : α} {cs : List Value} {j : Nat} {u v : Value}, d.M W base ok x cs → cs[j]? = some u → Alike_ u v → ∃ x', S x x' ∧ d.M W base ok x' (cs.set j v)
theorem soft_int_ : SoftK_ (Kd.int .i64) (fun _ _ => True) where
 val := fun h _ _ => ⟨_, trivial, h⟩
 seg := by
  rintro W base ok x cs j u v h hj ha
  have h' : cs = [.int .i64 x] := h
  subst h'
  cases j with
  | zero =>
   rcases ha with ⟨a, b, rfl, rfl⟩ | ⟨a, b, rfl, rfl⟩
   ·exact ⟨b, trivial, rfl⟩
   ·simp at hj
  | succ j => simp at hj
theorem soft_bool_ : SoftK_ Kd.bool (fun _ _ => True) where
 val := fun h _ _ => ⟨_, trivial, h⟩
 seg := by
  rintro W base ok x cs j u v h hj ha
  have h' : cs = [.bool x] := h
  subst h'
  cases j with
  | zero =>
   rcases ha with ⟨a, b, rfl, rfl⟩ | ⟨a, b, rfl, rfl⟩
   ·simp at hj
   ·exact ⟨b, trivial, rfl⟩
  | succ j => simp at hj
theorem soft_pair_ {α β : Type} {a : Kd α} {b : Kd β} {S : α → α → Prop} {T : β → β → Prop} (ra : ∀ x, S x x) (rb : ∀ x, T x x) (ha : SoftK_ a S) (hb : SoftK_ b T) : SoftK_ (Kd.pair a b) (fun x y => S x.1 y.1 ∧ T x.2 y.2) where
 val := by
  rintro W base ok x cs g j u v ⟨c0, c1, rfl, h0, h1⟩ hu hv
  obtain ⟨x0, s0, m0⟩ := ha.val h0 hu hv
  obtain ⟨x1, s1, m1⟩ := hb.val h1 hu hv
  exact ⟨(x0, x1), ⟨s0, s1⟩, c0, c1, rfl, m0, m1⟩
 seg := by
  rintro W base ok x cs j u v ⟨c0, c1, rfl, h0, h1⟩ hu hv
  by_cases hj : j < c0.length
  ·rw [List.getElem?_append_left hj] at hu
   obtain ⟨x0, s0, m0⟩ := ha.seg h0 hu hv
   exact ⟨(x0, x.2), ⟨s0, rb _⟩, c0.set j v, c1, by rw [List.set_append_left _ _ hj], m0, h1⟩
  ·rw [List.getElem?_append_right (by omega)] at hu
   obtain ⟨x1, s1, m1⟩ := hb.seg h1 hu hv
   exact ⟨(x.1, x1), ⟨ra _, s1⟩, c0, c1.set (j - c0.length) v, by rw [List.set_append_right _ _ (by omega)], h0, m1⟩
theorem soft_iso_ {α β : Type} {d : Kd α} {f : β → α} {g : α → β} (hfg : ∀ x, f (g x) = x) {S : α → α → Prop} (h : SoftK_ d S) : SoftK_ (Kd.iso d f) (fun x y => S (f x) (f y)) where
 val := by
  intro W base ok x cs b j u v hm hu hv
  obtain ⟨y, s, m⟩ := h.val (show d.M W base ok (f x) cs from hm) hu hv
  refine ⟨g y, ?_, ?_⟩
  ·show S (f x) (f (g y))
   rw [hfg]; exact s
  ·show d.M _ base ok (f (g y)) cs
   rw [hfg]; exact m
 seg := by
  intro W base ok x cs j u v hm hu hv
  obtain ⟨y, s, m⟩ := h.seg (show d.M W base ok (f x) cs from hm) hu hv
  refine ⟨g y, ?_, ?_⟩
  ·show S (f x) (f (g y))
   rw [hfg]; exact s
  ·show d.M _ base ok (f (g y)) _
   rw [hfg]; exact m
theorem exists_list_ {α : Type} (Q : Nat → α → Prop) : ∀ n, (∀ i, i < n → ∃ x, Q i x) → ∃ l : List α, l.length = n ∧ ∀ i x, l[i]? = some x → Q i x
 | 0, _ => ⟨[], rfl, fun i x h => by simp at h⟩
 | n + 1, h => by
  obtain ⟨l, h1, h2⟩ := exists_list_ Q n (fun i hi => h i (by omega))
  obtain ⟨x, hx⟩ := h n (by omega)
  refine ⟨l ++ [x], by rw [List.length_append, h1]; rfl, fun i y hy => ?_⟩
  by_cases hi : i < l.length
  ·rw [List.getElem?_append_left hi] at hy
   exact h2 i y hy
  ·rw [List.getElem?_append_right (by omega)] at hy
   have h0 : i - l.length = 0 := by
    have := (List.getElem?_eq_some_iff.mp hy).1
    rw [List.length_singleton] at this
    omega
   rw [h0] at hy
   have : x = y := by simpa using hy
   subst this
   rw [show i = n by omega]
   exact hx
def Rows_ {α : Type} (S : α → α → Prop) (xs ys : List α) : Prop := xs.length = ys.length ∧ ∀ (i : Nat) (x y : α), xs[i]? = some x → ys[i]? = some y → S x y
theorem Rows_.rfl_ {α : Type} {S : α → α → Prop} (h : ∀ x, S x x) (xs : List α) : Rows_ S xs xs := ⟨rfl, fun i x y h1 h2 => by rw [h1] at h2; cases h2; exact h x⟩
theorem Rows_.trans_ {α : Type} {S : α → α → Prop} (h : ∀ x y z, S x y → S y z → S x z) {xs ys zs : List α} (h1 : Rows_ S xs ys) (h2 : Rows_ S ys zs) : Rows_ S xs zs := by
 refine ⟨h1.1.trans h2.1, fun i x z e1 e2 => ?_⟩
 have hi : i < ys.length := by
  have := (List.getElem?_eq_some_iff.mp e1).1
  have := h1.1
  omega
 have e3 : ys[i]? = some ys[i] := List.getElem?_eq_getElem hi
 exact h _ _ _ (h1.2 i _ _ e1 e3) (h2.2 i _ _ e3 e2)
theorem soft_row_ {α : Type} {d : Kd α} {S : α → α → Prop} (hr : ∀ x, S x x) (ht : ∀ x y z, S x y → S y z → S x z) (h : SoftK_ d S) {e : Nat} {W : World} {base : Nat} {ok : Nat → Prop} {s : Value} {xs : List α} {g j : Nat} {u v : Value}
  (hR : d.R e W base ok s xs) (hu : W.cell? ⟨g, j, none⟩ = some u) (hv : Alike_ u v) : ∃ xs', Rows_ S xs xs' ∧ d.R e (W.setCell ⟨g, j, none⟩ v) base ok s xs' := by
 obtain ⟨h0, inner, ⟨hlen, ho⟩, hil, hreps⟩ := hR
 rcases ho with ⟨rfl, hn⟩ | ⟨b, cap, cur, rfl, hb, hheap, hcap, hmax, hsize, htake⟩
 ·have hxs : xs = [] := List.length_eq_zero_iff.mp hn
  subst hxs
  exact ⟨[], Rows_.rfl_ hr _, h0, inner, ⟨hlen, Or.inl ⟨rfl, rfl⟩⟩, hil, fun j p hp => by simp at hp⟩
 ·by_cases hg : g = b
  ·subst hg
   have hcu : cur[j]? = some u := by
    unfold World.cell? at hu
    rw [hheap] at hu
    exact hu
   have hheap2 : (W.setCell ⟨g, j, none⟩ v).heap[g]? = some (.cells (cur.setIfInBounds j v) e (0, 0)) := by
    unfold World.setCell
    simp [Array.getElem?_modify, hheap]
   have htake2 : (cur.setIfInBounds j v).toList.take (xs.length * d.sz) = inner.set j v := by
    rw [Array.toList_setIfInBounds, List.take_set, htake]
   obtain ⟨xs', hl', hq⟩ := exists_list_ (fun i x' => (∀ x, xs[i]? = some x → S x x') ∧ d.M (W.setCell ⟨g, j, none⟩ v) base (fun k => ok k ∧ some k ≠ (Value.slice (some ⟨g, 0, none⟩) xs.length cap).ownBlock) x' (((inner.set j v).drop (i * d.sz)).take d.sz)) xs.length (fun i hi => by
    have hx := List.getElem?_eq_getElem hi
    obtain ⟨x1, s1, m1⟩ := h.val (hreps i _ hx) hu hv
    by_cases hin : i * d.sz ≤ j ∧ j < i * d.sz + d.sz
    ·have hseg : ((inner.drop (i * d.sz)).take d.sz)[j - i * d.sz]? = some u := by
      rw [List.getElem?_take_of_lt (by omega), List.getElem?_drop, show i * d.sz + (j - i * d.sz) = j by omega, ← htake]
      have hjl : j < xs.length * d.sz := by
       have : i * d.sz + d.sz ≤ xs.length * d.sz := by rw [← Nat.succ_mul]; exact Nat.mul_le_mul_right _ hi
       omega
      rw [List.getElem?_take_of_lt hjl, Array.getElem?_toList]
      exact hcu
     obtain ⟨x2, s2, m2⟩ := h.seg m1 hseg hv
     refine ⟨x2, fun x hx' => ?_, ?_⟩
     ·rw [hx] at hx'; cases hx'; exact ht _ _ _ s1 s2
     ·rw [List.drop_set, if_neg (by omega), List.take_set]
      exact m2
    ·refine ⟨x1, fun x hx' => by rw [hx] at hx'; cases hx'; exact s1, ?_⟩
     rw [List.drop_set]
     by_cases hlt : j < i * d.sz
     ·rw [if_pos hlt]; exact m1
     ·rw [if_neg hlt, List.take_set, List.set_eq_of_length_le (by rw [List.length_take]; omega)]
      exact m1)
   refine ⟨xs', ⟨hl'.symm, fun i x y e1 e2 => (hq i y e2).1 x e1⟩, fun k hk => h0 k hk, inner.set j v, ⟨by rw [List.length_set, hlen, hl'], Or.inr ⟨g, cap, cur.setIfInBounds j v, by rw [hl'], hb, hheap2, by omega, hmax, by rw [Array.size_setIfInBounds]; exact hsize, by rw [hl']; exact htake2⟩⟩, by rw [List.length_set, hil, hl'], fun i p hp => ?_⟩
   exact (hq i p hp).2
  ·have hheap2 : (W.setCell ⟨g, j, none⟩ v).heap[b]? = some (.cells cur e (0, 0)) := (Below.heap_setCell W ⟨g, j, none⟩ v b (fun e_ => hg e_.symm)).trans hheap
   obtain ⟨xs', hl', hq⟩ := exists_list_ (fun i x' => (∀ x, xs[i]? = some x → S x x') ∧ d.M (W.setCell ⟨g, j, none⟩ v) base (fun k => ok k ∧ some k ≠ (Value.slice (some ⟨b, 0, none⟩) xs.length cap).ownBlock) x' ((inner.drop (i * d.sz)).take d.sz)) xs.length (fun i hi => by
    have hx := List.getElem?_eq_getElem hi
    obtain ⟨x1, s1, m1⟩ := h.val (hreps i _ hx) hu hv
    exact ⟨x1, fun x hx' => by rw [hx] at hx'; cases hx'; exact s1, m1⟩)
   refine ⟨xs', ⟨hl'.symm, fun i x y e1 e2 => (hq i y e2).1 x e1⟩, fun k hk => h0 k hk, inner, ⟨by rw [hlen, hl'], Or.inr ⟨b, cap, cur, by rw [hl'], hb, hheap2, by omega, hmax, hsize, by rw [hl']; exact htake⟩⟩, by rw [hil, hl'], fun i p hp => (hq i p hp).2⟩
theorem soft_slice_ {α : Type} {d : Kd α} {S : α → α → Prop} (hr : ∀ x, S x x) (ht : ∀ x y z, S x y → S y z → S x z) (h : SoftK_ d S) (e : Nat) : SoftK_ (Kd.slice e d) (fun xs ys => xs.length = ys.length) where
 val := by
  rintro W base ok x cs g j u v ⟨s, rfl, hR⟩ hu hv
  obtain ⟨xs', h1, h2⟩ := soft_row_ hr ht h hR hu hv
  exact ⟨xs', h1.1, s, rfl, h2⟩
 seg := by
  rintro W base ok x cs j u v ⟨s, rfl, hR⟩ hu hv
  cases j with
  | zero =>
   exfalso
   have e1 : s = u := by simpa using hu
   subst e1
   obtain ⟨_, inner, ⟨_, ho⟩, _⟩ := hR
   rcases ho with ⟨e2, _⟩ | ⟨b, cap, cur, e2, _⟩
   ·rw [e2] at hv
    rcases hv with ⟨a, b, h1, _⟩ | ⟨a, b, h1, _⟩ <;> cases h1
   ·rw [e2] at hv
    rcases hv with ⟨a, b, h1, _⟩ | ⟨a, b, h1, _⟩ <;> cases h1
  | succ j => simp at hu
set_option maxHeartbeats 8000000 in
set_option maxRecDepth 100000 in
theorem laws_markIntS.callsJ (J : World → Prop) (hJ : ∀ (W : World) (g j : Nat) (u v : Value), J W → W.cell? ⟨g, j, none⟩ = some u → Alike_ u v → J (W.setCell ⟨g, j, none⟩ v)) (k : Nat) (P0_ : Nat → Prop) (u9000_ : Value) (l0 : List Int) (a1 : Int) (r1 : Int) (r2 : List Int) (w0 w : World) (hB : Below w0.heap.size w0 w) (ho0 : Kd.R (Kd.int .i64) 3 w w0.heap.size P0_ u9000_ l0) (hJ0 : J w) (h : laws_markIntS.f k l0 a1 = some (r1, r2)) :
  Calls Try.prog 54 #[u9000_, .int .i64 a1] w fun e w' => e = .returned (.int .i64 r1) ∧ Kd.R (Kd.int .i64) 3 w' w0.heap.size (fun k_ => (P0_ k_ ∨ w.heap.size ≤ k_)) u9000_ r2 ∧ Below w0.heap.size w0 w' ∧ Kept w w' (fun k_ => P0_ k_) ∧ J w' := by
 have HO0 := Aside0.mk (show Kd.R (Kd.int .i64) 3 w w0.heap.size (fun k_ => (P0_ k_ ∨ w.heap.size ≤ k_)) u9000_ l0 from Kd.R_mono ho0 (fun k_ hk => (.inl hk)))
 have HK := Aside0.mk (Kept.refl w (fun k_ => P0_ k_))
 have HW0 := Aside0.mk hB.size
 have HB := Aside0.mk hB
 clear hB
 have H : (laws_markIntS.l0 k l0 a1 0) = some (r1, r2) := h
 clear h
 have H' := Aside0.mk H
 clear H
 go_enter Try.func54, Try.ntmps54
 go_wp2
 go_loopg [1, 5] k (fun kq v1 v5 w' => ∃ (x0_1 : List Int) (x1_1 : Int) (x5_1 : Int), v1 = .int .i64 x1_1 ∧ v5 = .int .i64 x5_1 ∧ Aside0 (laws_markIntS.l0 kq x0_1 x1_1 x5_1 = some (r1, r2)) ∧ Aside0 (kq ≤ k) ∧ Aside0 (Kd.R (Kd.int .i64) 3 w' w0.heap.size (fun k_ => (P0_ k_ ∨ w.heap.size ≤ k_)) u9000_ x0_1) ∧ Aside0 (Kept w w' (fun k_ => P0_ k_)) ∧ Aside0 (Below w0.heap.size w0 w') ∧ Aside0 (J w'))
 case atStart => exact ⟨(l0), (a1), (0), (by first | rfl | (simp; done) | (simp [*]; done)), (by first | rfl | (simp; done) | (simp [*]; done)), H', ⟨Nat.le_refl _⟩, ⟨rk HO0.out⟩, ⟨by repeat (first | (with_reducible first | exact HK.out | apply Kept.alloc | apply Kept.drewN | apply Kept.drew) | exact HK.out)⟩, ⟨bl HB.out⟩, ⟨hJ0⟩⟩
 case round =>
  clear H'
  try clear p2
  obtain ⟨x0_1, x1_1, x5_1, rfl, rfl, HA, HK1, HO_0, HK, HB, HJ⟩ := hrel
  cases gk with
  | zero => exact absurd HA.out (by simp [laws_markIntS.l0])
  | succ k1 =>
   have H := HA.out
   clear HA
   simp only [laws_markIntS.l0] at H
   by_cases c3 : x5_1 < (x0_1.length : Int)
   ·rw [if_pos c3] at H
    have c3b0 : decide (x5_1 < (x0_1.length : Int)) = true := decide_eq_true c3
    clear c3
    by_cases c4 : 0 ≤ x5_1
    ·rw [if_pos c4] at H
     have c4b0 : decide (0 ≤ x5_1) = true := decide_eq_true c4
     clear c4
     obtain ⟨y256, hy256⟩ : ∃ y_ : List Int, y_ = (x0_1.set (x5_1 : Int).toNat x1_1) := ⟨_, rfl⟩
     replace H : (laws_markIntS.l0 k1 y256 (wrap64 (x1_1 + 1)) (wrap64 (x5_1 + 1))) = some (r1, r2) := by first | (rw [hy256]; with_reducible exact H) | (have H2_ := (Option.bind_some _ _).symm.trans H; rw [hy256]; with_reducible exact H2_) | (have H2_ := (Option.bind_some _ _).symm.trans H; with_reducible exact H2_) | with_reducible exact H | (rw [hy256]; exact H) | exact H
     have Ny256 := Aside0.mk hy256
     clear hy256
     have H' := Aside0.mk H
     clear H
     obtain ⟨Ao6, co6, eo6⟩ := Kd.R_slice HO_0.out
     subst eo6
     have p5 : 0 ≤ (x5_1 : Int) := of_decide_eq_true asm
     have q5 : (x5_1 : Int) < ((x0_1.length : Int) : Int) := of_decide_eq_true asm
     obtain ⟨go5, co5, eo5, gb5, gl5, cl5, HG5⟩ := Kd.R_form HO_0.out (by omega)
     (first | cases eo5 | (injection eo5 with ea_ en_ ec_; (first | subst ea_ | (injection ea_ with ea_; subst ea_)); subst ec_; clear en_))
     have GB5 := Aside0.mk gb5
     have GG5 := Aside0.mk HG5
     clear gb5 gl5 HG5
     have HMgo5 := Aside0.mk (show (P0_ go5 ∨ w.heap.size ≤ go5) from (HO_0.out.1 _ rfl))
     obtain ⟨hx5_0, hf5_0⟩ := Kd.R_celln 0 HO_0.out (x5_1 : Int) p5 q5
     replace p5 := eq_true p5
     replace q5 := eq_true q5
     have HP7 := Kd.R_putg HO_0.out (x5_1 : Int) x1_1
     go_wp2_with (first | ((with_reducible refine gate_store (t := 3) (p := 15) rfl ?_); refine store_event (t := 3) (p := 15) (v := ?vo_w8) (w1 := (wr.setCell ⟨go5, (x5_1 : Int).toNat, none⟩ (.int .i64 x1_1))) ?hg ?ho ?hn ?hr ?_; (case ho => rfl); (case hg => rfl); (case hn => rfl); (case hr => first | (go_simp; done) | (go_simp; rfl)); intro w8 hw; have nJ_ := Aside0.mk (by rw [hw]; exact hJ _ _ _ _ _ HJ.out (by assumption) (by first | exact Or.inl ⟨_, _, rfl, rfl⟩ | exact Or.inr ⟨_, _, rfl, rfl⟩) : J w8); have hg : wr.grownBy w8 (some go5) := (by rw [hw]; exact HP7.2); have hp_ : Kd.R (Kd.int .i64) 3 w8 w0.heap.size (fun k_ => (P0_ k_ ∨ w.heap.size ≤ k_)) (.slice (some ⟨go5, 0, none⟩) x0_1.length co6) y256 := (by rw [hw, Ny256.out]; exact HP7.1); clear HP7; replace HB := Aside0.mk ((by rw [hw]; exact below_set (HB.out) GB5.out : Below w0.heap.size w0 w8)); replace HK := Aside0.mk (Kept.of_grown (S := (fun k_ => P0_ k_)) hg (by repeat (first | (with_reducible first | exact HK.out | apply Kept.alloc | apply Kept.drewN | apply Kept.drew) | exact HK.out)) (fun k_ e_ => (HO_0.out.1 k_ e_))); replace HO_0 := Aside0.mk (hp_); clear HJ; have HJ := nJ_; clear nJ_; clear hg hw hp_))
     go_roundg k1
     case measure => have := HK1.out; omega
     case rel => exact ⟨(y256), (wrap64 (x1_1 + 1)), (wrap64 (x5_1 + 1)), (by first | rfl | (simp; done) | (simp [*]; done)), (by first | rfl | (simp; done) | (simp [*]; done)), H', ⟨by have := HK1.out; omega⟩, ⟨rk HO_0.out⟩, ⟨by repeat (first | (with_reducible first | exact HK.out | apply Kept.alloc | apply Kept.drewN | apply Kept.drew) | exact HK.out)⟩, ⟨bl HB.out⟩, HJ⟩
    ·rw [if_neg c4] at H
     exact absurd H (by simp)
   ·rw [if_neg c3] at H
    have c3b0 : decide (x5_1 < (x0_1.length : Int)) = false := decide_eq_false c3
    clear c3
    simp only [Option.some.injEq, Prod.mk.injEq] at H
    obtain ⟨rfl, rfl⟩ := H
    obtain ⟨Ao9, co9, eo9⟩ := Kd.R_slice HO_0.out
    subst eo9
    go_wp2
    go_ret
    exact ⟨by first | rfl | (simp [errW_none, errW_some] <;> rfl) | (simp [*, errW_none, errW_some] <;> rfl), rk HO_0.out, bl HB.out, by repeat (first | (with_reducible first | exact HK.out | apply Kept.alloc | apply Kept.drewN | apply Kept.drew) | exact HK.out), HJ.out⟩
set_option maxHeartbeats 8000000 in
set_option maxRecDepth 100000 in
theorem laws_markBoxS.callsJ (J : World → Prop) (hJ : ∀ (W : World) (g j : Nat) (u v : Value), J W → W.cell? ⟨g, j, none⟩ = some u → Alike_ u v → J (W.setCell ⟨g, j, none⟩ v)) (k : Nat) (P0_ : Nat → Prop) (u9000_ : Value) (l0 : List (S98)) (a1 : Int) (r1 : Int) (r2 : List (S98)) (w0 w : World) (hB : Below w0.heap.size w0 w) (ho0 : Kd.R k98 98 w w0.heap.size P0_ u9000_ l0) (hJ0 : J w) (h : laws_markBoxS.f k l0 a1 = some (r1, r2)) :
  Calls Try.prog 68 #[u9000_, .int .i64 a1] w fun e w' => e = .returned (.int .i64 r1) ∧ Kd.R k98 98 w' w0.heap.size (fun k_ => (P0_ k_ ∨ w.heap.size ≤ k_)) u9000_ r2 ∧ Below w0.heap.size w0 w' ∧ Kept w w' (fun k_ => P0_ k_) ∧ J w' := by
 have HO0 := Aside0.mk (show Kd.R k98 98 w w0.heap.size (fun k_ => (P0_ k_ ∨ w.heap.size ≤ k_)) u9000_ l0 from Kd.R_mono ho0 (fun k_ hk => (.inl hk)))
 have HK := Aside0.mk (Kept.refl w (fun k_ => P0_ k_))
 have HW0 := Aside0.mk hB.size
 have HB := Aside0.mk hB
 clear hB
 have H : (laws_markBoxS.l0 k l0 a1 0) = some (r1, r2) := h
 clear h
 have H' := Aside0.mk H
 clear H
 go_enter Try.func68, Try.ntmps68
 go_wp2
 go_loopg [1, 5] k (fun kq v1 v5 w' => ∃ (x0_1 : List (S98)) (x1_1 : Int) (x5_1 : Int), v1 = .int .i64 x1_1 ∧ v5 = .int .i64 x5_1 ∧ Aside0 (laws_markBoxS.l0 kq x0_1 x1_1 x5_1 = some (r1, r2)) ∧ Aside0 (kq ≤ k) ∧ Aside0 (Kd.R k98 98 w' w0.heap.size (fun k_ => (P0_ k_ ∨ w.heap.size ≤ k_)) u9000_ x0_1) ∧ Aside0 (Kept w w' (fun k_ => P0_ k_)) ∧ Aside0 (Below w0.heap.size w0 w') ∧ Aside0 (J w'))
 case atStart => exact ⟨(l0), (a1), (0), (by first | rfl | (simp; done) | (simp [*]; done)), (by first | rfl | (simp; done) | (simp [*]; done)), H', ⟨Nat.le_refl _⟩, ⟨rk HO0.out⟩, ⟨by repeat (first | (with_reducible first | exact HK.out | apply Kept.alloc | apply Kept.drewN | apply Kept.drew) | exact HK.out)⟩, ⟨bl HB.out⟩, ⟨hJ0⟩⟩
 case round =>
  clear H'
  try clear p2
  obtain ⟨x0_1, x1_1, x5_1, rfl, rfl, HA, HK1, HO_0, HK, HB, HJ⟩ := hrel
  cases gk with
  | zero => exact absurd HA.out (by simp [laws_markBoxS.l0])
  | succ k1 =>
   have H := HA.out
   clear HA
   simp only [laws_markBoxS.l0] at H
   by_cases c3 : x5_1 < (x0_1.length : Int)
   ·rw [if_pos c3] at H
    have c3b0 : decide (x5_1 < (x0_1.length : Int)) = true := decide_eq_true c3
    clear c3
    by_cases c4 : 0 ≤ x5_1
    ·rw [if_pos c4] at H
     have c4b0 : decide (0 ≤ x5_1) = true := decide_eq_true c4
     clear c4
     obtain ⟨y257, hy257⟩ : ∃ y_ : List (S98), y_ = (x0_1.set (x5_1 : Int).toNat (⟨x1_1, (rd_T98 x0_1 x5_1).f1, (rd_T98 x0_1 x5_1).f2, (rd_T98 x0_1 x5_1).f3⟩ : S98)) := ⟨_, rfl⟩
     replace H : ((some (y257.set (x5_1 : Int).toNat (⟨(rd_T98 y257 x5_1).f0, wrap64 (x1_1 + 1), (rd_T98 y257 x5_1).f2, (rd_T98 y257 x5_1).f3⟩ : S98) : List (S98))).bind fun y258 => ((some (y258.set (x5_1 : Int).toNat (⟨(rd_T98 y258 x5_1).f0, (rd_T98 y258 x5_1).f1, wrap64 ((wrap64 (x1_1 + 1)) + 1), (rd_T98 y258 x5_1).f3⟩ : S98) : List (S98))).bind fun y259 => (laws_markBoxS.l0 k1 (y259.set (x5_1 : Int).toNat (⟨(rd_T98 y259 x5_1).f0, (rd_T98 y259 x5_1).f1, (rd_T98 y259 x5_1).f2, ((Int.tmod (wrap64 ((wrap64 ((wrap64 (x1_1 + 1)) + 1)) + 1)) 3) == 0)⟩ : S98)) (wrap64 ((wrap64 ((wrap64 ((wrap64 (x1_1 + 1)) + 1)) + 1)) + 1)) (wrap64 (x5_1 + 1))))) = some (r1, r2) := by first | (rw [hy257]; with_reducible exact H) | (have H2_ := (Option.bind_some _ _).symm.trans H; rw [hy257]; with_reducible exact H2_) | (have H2_ := (Option.bind_some _ _).symm.trans H; with_reducible exact H2_) | with_reducible exact H | (rw [hy257]; exact H) | exact H
     have Ny257 := Aside0.mk hy257
     clear hy257
     obtain ⟨y258, hy258⟩ : ∃ y_ : List (S98), y_ = (y257.set (x5_1 : Int).toNat (⟨(rd_T98 y257 x5_1).f0, wrap64 (x1_1 + 1), (rd_T98 y257 x5_1).f2, (rd_T98 y257 x5_1).f3⟩ : S98)) := ⟨_, rfl⟩
     replace H : ((some (y258.set (x5_1 : Int).toNat (⟨(rd_T98 y258 x5_1).f0, (rd_T98 y258 x5_1).f1, wrap64 ((wrap64 (x1_1 + 1)) + 1), (rd_T98 y258 x5_1).f3⟩ : S98) : List (S98))).bind fun y259 => (laws_markBoxS.l0 k1 (y259.set (x5_1 : Int).toNat (⟨(rd_T98 y259 x5_1).f0, (rd_T98 y259 x5_1).f1, (rd_T98 y259 x5_1).f2, ((Int.tmod (wrap64 ((wrap64 ((wrap64 (x1_1 + 1)) + 1)) + 1)) 3) == 0)⟩ : S98)) (wrap64 ((wrap64 ((wrap64 ((wrap64 (x1_1 + 1)) + 1)) + 1)) + 1)) (wrap64 (x5_1 + 1)))) = some (r1, r2) := by first | (rw [hy258]; with_reducible exact H) | (have H2_ := (Option.bind_some _ _).symm.trans H; rw [hy258]; with_reducible exact H2_) | (have H2_ := (Option.bind_some _ _).symm.trans H; with_reducible exact H2_) | with_reducible exact H | (rw [hy258]; exact H) | exact H
     have Ny258 := Aside0.mk hy258
     clear hy258
     obtain ⟨y259, hy259⟩ : ∃ y_ : List (S98), y_ = (y258.set (x5_1 : Int).toNat (⟨(rd_T98 y258 x5_1).f0, (rd_T98 y258 x5_1).f1, wrap64 ((wrap64 (x1_1 + 1)) + 1), (rd_T98 y258 x5_1).f3⟩ : S98)) := ⟨_, rfl⟩
     replace H : (laws_markBoxS.l0 k1 (y259.set (x5_1 : Int).toNat (⟨(rd_T98 y259 x5_1).f0, (rd_T98 y259 x5_1).f1, (rd_T98 y259 x5_1).f2, ((Int.tmod (wrap64 ((wrap64 ((wrap64 (x1_1 + 1)) + 1)) + 1)) 3) == 0)⟩ : S98)) (wrap64 ((wrap64 ((wrap64 ((wrap64 (x1_1 + 1)) + 1)) + 1)) + 1)) (wrap64 (x5_1 + 1))) = some (r1, r2) := by first | (rw [hy259]; with_reducible exact H) | (have H2_ := (Option.bind_some _ _).symm.trans H; rw [hy259]; with_reducible exact H2_) | (have H2_ := (Option.bind_some _ _).symm.trans H; with_reducible exact H2_) | with_reducible exact H | (rw [hy259]; exact H) | exact H
     have Ny259 := Aside0.mk hy259
     clear hy259
     obtain ⟨y260, hy260⟩ : ∃ y_ : List (S98), y_ = (y259.set (x5_1 : Int).toNat (⟨(rd_T98 y259 x5_1).f0, (rd_T98 y259 x5_1).f1, (rd_T98 y259 x5_1).f2, ((Int.tmod (wrap64 ((wrap64 ((wrap64 (x1_1 + 1)) + 1)) + 1)) 3) == 0)⟩ : S98)) := ⟨_, rfl⟩
     replace H : (laws_markBoxS.l0 k1 y260 (wrap64 ((wrap64 ((wrap64 ((wrap64 (x1_1 + 1)) + 1)) + 1)) + 1)) (wrap64 (x5_1 + 1))) = some (r1, r2) := by first | (rw [hy260]; with_reducible exact H) | (have H2_ := (Option.bind_some _ _).symm.trans H; rw [hy260]; with_reducible exact H2_) | (have H2_ := (Option.bind_some _ _).symm.trans H; with_reducible exact H2_) | with_reducible exact H | (rw [hy260]; exact H) | exact H
     have Ny260 := Aside0.mk hy260
     clear hy260
     have H' := Aside0.mk H
     clear H
     obtain ⟨Ao9, co9, eo9⟩ := Kd.R_slice HO_0.out
     subst eo9
     have p5 : 0 ≤ (x5_1 : Int) := of_decide_eq_true asm
     have q5 : (x5_1 : Int) < ((x0_1.length : Int) : Int) := of_decide_eq_true asm
     obtain ⟨go5, co5, eo5, gb5, gl5, cl5, HG5⟩ := Kd.R_form HO_0.out (by omega)
     (first | cases eo5 | (injection eo5 with ea_ en_ ec_; (first | subst ea_ | (injection ea_ with ea_; subst ea_)); subst ec_; clear en_))
     have GB5 := Aside0.mk gb5
     have GG5 := Aside0.mk HG5
     clear gb5 gl5 HG5
     have HMgo5 := Aside0.mk (show (P0_ go5 ∨ w.heap.size ≤ go5) from (HO_0.out.1 _ rfl))
     obtain ⟨ce5, hcl5, hM5, hcc5, hfr5⟩ := Kd.R_elem HO_0.out z98 (x5_1 : Int) p5 q5
     obtain rfl := k98_openM hM5
     have hx5_0 : wr.cell? ⟨go5, (x5_1 : Int).toNat * 4, none⟩ = some (.int .i64 ((rd_T98 x0_1 x5_1).f0)) := hcc5 0 _ rfl
     have hx5_1 : wr.cell? ⟨go5, (x5_1 : Int).toNat * 4 + 1, none⟩ = some (.int .i64 ((rd_T98 x0_1 x5_1).f1)) := hcc5 1 _ rfl
     have hx5_2 : wr.cell? ⟨go5, (x5_1 : Int).toNat * 4 + 2, none⟩ = some (.int .i64 ((rd_T98 x0_1 x5_1).f2)) := hcc5 2 _ rfl
     have hx5_3 : wr.cell? ⟨go5, (x5_1 : Int).toNat * 4 + 3, none⟩ = some (.bool ((rd_T98 x0_1 x5_1).f3)) := hcc5 3 _ rfl
     have hf5_0 : wr.frozen? ⟨go5, (x5_1 : Int).toNat * 4, none⟩ = false := hfr5 0
     have hf5_1 : wr.frozen? ⟨go5, (x5_1 : Int).toNat * 4 + 1, none⟩ = false := hfr5 1
     have hf5_2 : wr.frozen? ⟨go5, (x5_1 : Int).toNat * 4 + 2, none⟩ = false := hfr5 2
     have hf5_3 : wr.frozen? ⟨go5, (x5_1 : Int).toNat * 4 + 3, none⟩ = false := hfr5 3
     clear hcl5 hcc5 hfr5 hM5
     replace p5 := eq_true p5
     replace q5 := eq_true q5
     have HX10 := Aside0.mk (show Kd.R k98 98 wr w0.heap.size (fun k_ => (P0_ k_ ∨ w.heap.size ≤ k_)) (.slice (some ⟨go5, 0, none⟩) x0_1.length co9) x0_1 from (rk HO_0.out))
     obtain ⟨ce10, hcl10, hM10, hcc10, hfr10⟩ := Kd.R_elem HX10.out z98 (x5_1 : Int) (of_decide_eq_true asm) (by have h_ : (x5_1 : Int) < ((x0_1.length : Int) : Int) := of_decide_eq_true asm; first | exact h_ | (have e_ := (Kd.R_reads' HO_0.out).1; omega) | simpa using h_)
     obtain rfl := k98_openM hM10
     have HP10 := Kd.R_seg HX10.out (x5_1 : Int) (of_decide_eq_true asm) (by have h_ : (x5_1 : Int) < ((x0_1.length : Int) : Int) := of_decide_eq_true asm; first | exact h_ | (have e_ := (Kd.R_reads' HO_0.out).1; omega) | simpa using h_) (seg := [.int .i64 x1_1]) (j := 0) hcl10 hcc10 (show 1 ≤ 4 from by decide) (x' := (⟨x1_1, (rd_T98 x0_1 x5_1).f1, (rd_T98 x0_1 x5_1).f2, (rd_T98 x0_1 x5_1).f3⟩ : S98)) (k98_mkM _ _ _ (⟨x1_1, (rd_T98 x0_1 x5_1).f1, (rd_T98 x0_1 x5_1).f2, (rd_T98 x0_1 x5_1).f3⟩ : S98) ) (fun _ hk => hk)
     have hx10_0 := hcc10 0 _ rfl
     (try simp only [show (k98).sz = 4 from rfl, Nat.mul_one, Nat.add_zero] at hx10_0)
     have hf10_0 := hfr10 0
     (try simp only [show (k98).sz = 4 from rfl, Nat.mul_one, Nat.add_zero] at hf10_0)
     clear hcl10 hcc10 hfr10 hM10
     go_wp2_with (first | ((with_reducible refine gate_store (t := 3) (p := 16) rfl ?_); refine store_event (t := 3) (p := 16) (v := ?vo_w11) (w1 := (wr.setCell ⟨go5, (x5_1 : Int).toNat * 4, none⟩ (.int .i64 x1_1))) ?hg ?ho ?hn ?hr ?_; (case ho => rfl); (case hg => rfl); (case hn => rfl); (case hr => first | (go_simp; done) | (go_simp; rfl)); intro w11 hw; have nJ_ := Aside0.mk (by rw [hw]; exact hJ _ _ _ _ _ HJ.out (by assumption) (by first | exact Or.inl ⟨_, _, rfl, rfl⟩ | exact Or.inr ⟨_, _, rfl, rfl⟩) : J w11); have hg : wr.grownBy w11 (some go5) := (by rw [hw]; exact HP10.2); have hp_ : Kd.R k98 98 w11 w0.heap.size (fun k_ => (P0_ k_ ∨ w.heap.size ≤ k_)) (.slice (some ⟨go5, 0, none⟩) x0_1.length co9) y257 := (by rw [hw, Ny257.out]; exact HP10.1); clear HP10; replace HB := Aside0.mk ((by rw [hw]; exact below_set (HB.out) GB5.out : Below w0.heap.size w0 w11)); replace HK := Aside0.mk (Kept.of_grown (S := (fun k_ => P0_ k_)) hg (by repeat (first | (with_reducible first | exact HK.out | apply Kept.alloc | apply Kept.drewN | apply Kept.drew) | exact HK.out)) (fun k_ e_ => (HO_0.out.1 k_ e_))); replace HO_0 := Aside0.mk (hp_); clear HJ; have HJ := nJ_; clear nJ_; clear hg hw hp_; have p6 : 0 ≤ (x5_1 : Int) := of_decide_eq_true asm; have q6 : (x5_1 : Int) < ((x0_1.length : Int) : Int) := of_decide_eq_true asm; obtain ⟨ce6, hcl6, hM6, hcc6, hfr6⟩ := Kd.R_elem HO_0.out z98 (x5_1 : Int) p6 q6; obtain rfl := k98_openM hM6; have hx6_0 : w11.cell? ⟨go5, (x5_1 : Int).toNat * 4, none⟩ = some (.int .i64 ((rd_T98 y257 x5_1).f0)) := hcc6 0 _ rfl; have hx6_1 : w11.cell? ⟨go5, (x5_1 : Int).toNat * 4 + 1, none⟩ = some (.int .i64 ((rd_T98 y257 x5_1).f1)) := hcc6 1 _ rfl; have hx6_2 : w11.cell? ⟨go5, (x5_1 : Int).toNat * 4 + 2, none⟩ = some (.int .i64 ((rd_T98 y257 x5_1).f2)) := hcc6 2 _ rfl; have hx6_3 : w11.cell? ⟨go5, (x5_1 : Int).toNat * 4 + 3, none⟩ = some (.bool ((rd_T98 y257 x5_1).f3)) := hcc6 3 _ rfl; have hf6_0 : w11.frozen? ⟨go5, (x5_1 : Int).toNat * 4, none⟩ = false := hfr6 0; have hf6_1 : w11.frozen? ⟨go5, (x5_1 : Int).toNat * 4 + 1, none⟩ = false := hfr6 1; have hf6_2 : w11.frozen? ⟨go5, (x5_1 : Int).toNat * 4 + 2, none⟩ = false := hfr6 2; have hf6_3 : w11.frozen? ⟨go5, (x5_1 : Int).toNat * 4 + 3, none⟩ = false := hfr6 3; clear hcl6 hcc6 hfr6 hM6; replace p6 := eq_true p6; replace q6 := eq_true q6; have HX12 := Aside0.mk (show Kd.R k98 98 w11 w0.heap.size (fun k_ => (P0_ k_ ∨ w.heap.size ≤ k_)) (.slice (some ⟨go5, 0, none⟩) x0_1.length co9) y257 from (rk HO_0.out)); obtain ⟨ce12, hcl12, hM12, hcc12, hfr12⟩ := Kd.R_elem HX12.out z98 (x5_1 : Int) (of_decide_eq_true asm) (by have h_ : (x5_1 : Int) < ((x0_1.length : Int) : Int) := of_decide_eq_true asm; first | exact h_ | (have e_ := (Kd.R_reads' HO_0.out).1; omega) | simpa using h_); obtain rfl := k98_openM hM12; have HP12 := Kd.R_seg HX12.out (x5_1 : Int) (of_decide_eq_true asm) (by have h_ : (x5_1 : Int) < ((x0_1.length : Int) : Int) := of_decide_eq_true asm; first | exact h_ | (have e_ := (Kd.R_reads' HO_0.out).1; omega) | simpa using h_) (seg := [.int .i64 (wrap64 (x1_1 + 1))]) (j := 1) hcl12 hcc12 (show 2 ≤ 4 from by decide) (x' := (⟨(rd_T98 y257 x5_1).f0, wrap64 (x1_1 + 1), (rd_T98 y257 x5_1).f2, (rd_T98 y257 x5_1).f3⟩ : S98)) (k98_mkM _ _ _ (⟨(rd_T98 y257 x5_1).f0, wrap64 (x1_1 + 1), (rd_T98 y257 x5_1).f2, (rd_T98 y257 x5_1).f3⟩ : S98) ) (fun _ hk => hk); have hx12_1 := hcc12 1 _ rfl; (try simp only [show (k98).sz = 4 from rfl, Nat.mul_one, Nat.add_zero] at hx12_1); have hf12_1 := hfr12 1; (try simp only [show (k98).sz = 4 from rfl, Nat.mul_one, Nat.add_zero] at hf12_1); clear hcl12 hcc12 hfr12 hM12) | ((with_reducible refine gate_store (t := 3) (p := 23) rfl ?_); refine store_event (t := 3) (p := 23) (v := ?vo_w13) (w1 := (w11.setCell ⟨go5, (x5_1 : Int).toNat * 4 + 1, none⟩ (.int .i64 (wrap64 (x1_1 + 1))))) ?hg ?ho ?hn ?hr ?_; (case ho => rfl); (case hg => rfl); (case hn => rfl); (case hr => first | (go_simp; done) | (go_simp; rfl)); intro w13 hw; have nJ_ := Aside0.mk (by rw [hw]; exact hJ _ _ _ _ _ HJ.out (by assumption) (by first | exact Or.inl ⟨_, _, rfl, rfl⟩ | exact Or.inr ⟨_, _, rfl, rfl⟩) : J w13); have hg : w11.grownBy w13 (some go5) := (by rw [hw]; exact HP12.2); have hp_ : Kd.R k98 98 w13 w0.heap.size (fun k_ => (P0_ k_ ∨ w.heap.size ≤ k_)) (.slice (some ⟨go5, 0, none⟩) x0_1.length co9) y258 := (by rw [hw, Ny258.out]; exact HP12.1); clear HP12; replace HB := Aside0.mk ((by rw [hw]; exact below_set (HB.out) GB5.out : Below w0.heap.size w0 w13)); replace HK := Aside0.mk (Kept.of_grown (S := (fun k_ => P0_ k_)) hg (by repeat (first | (with_reducible first | exact HK.out | apply Kept.alloc | apply Kept.drewN | apply Kept.drew) | exact HK.out)) (fun k_ e_ => (HO_0.out.1 k_ e_))); replace HO_0 := Aside0.mk (hp_); clear HJ; have HJ := nJ_; clear nJ_; clear hg hw hp_; have p7 : 0 ≤ (x5_1 : Int) := of_decide_eq_true asm; have q7 : (x5_1 : Int) < ((x0_1.length : Int) : Int) := of_decide_eq_true asm; obtain ⟨ce7, hcl7, hM7, hcc7, hfr7⟩ := Kd.R_elem HO_0.out z98 (x5_1 : Int) p7 q7; obtain rfl := k98_openM hM7; have hx7_0 : w13.cell? ⟨go5, (x5_1 : Int).toNat * 4, none⟩ = some (.int .i64 ((rd_T98 y258 x5_1).f0)) := hcc7 0 _ rfl; have hx7_1 : w13.cell? ⟨go5, (x5_1 : Int).toNat * 4 + 1, none⟩ = some (.int .i64 ((rd_T98 y258 x5_1).f1)) := hcc7 1 _ rfl; have hx7_2 : w13.cell? ⟨go5, (x5_1 : Int).toNat * 4 + 2, none⟩ = some (.int .i64 ((rd_T98 y258 x5_1).f2)) := hcc7 2 _ rfl; have hx7_3 : w13.cell? ⟨go5, (x5_1 : Int).toNat * 4 + 3, none⟩ = some (.bool ((rd_T98 y258 x5_1).f3)) := hcc7 3 _ rfl; have hf7_0 : w13.frozen? ⟨go5, (x5_1 : Int).toNat * 4, none⟩ = false := hfr7 0; have hf7_1 : w13.frozen? ⟨go5, (x5_1 : Int).toNat * 4 + 1, none⟩ = false := hfr7 1; have hf7_2 : w13.frozen? ⟨go5, (x5_1 : Int).toNat * 4 + 2, none⟩ = false := hfr7 2; have hf7_3 : w13.frozen? ⟨go5, (x5_1 : Int).toNat * 4 + 3, none⟩ = false := hfr7 3; clear hcl7 hcc7 hfr7 hM7; replace p7 := eq_true p7; replace q7 := eq_true q7; have HX14 := Aside0.mk (show Kd.R k98 98 w13 w0.heap.size (fun k_ => (P0_ k_ ∨ w.heap.size ≤ k_)) (.slice (some ⟨go5, 0, none⟩) x0_1.length co9) y258 from (rk HO_0.out)); obtain ⟨ce14, hcl14, hM14, hcc14, hfr14⟩ := Kd.R_elem HX14.out z98 (x5_1 : Int) (of_decide_eq_true asm) (by have h_ : (x5_1 : Int) < ((x0_1.length : Int) : Int) := of_decide_eq_true asm; first | exact h_ | (have e_ := (Kd.R_reads' HO_0.out).1; omega) | simpa using h_); obtain rfl := k98_openM hM14; have HP14 := Kd.R_seg HX14.out (x5_1 : Int) (of_decide_eq_true asm) (by have h_ : (x5_1 : Int) < ((x0_1.length : Int) : Int) := of_decide_eq_true asm; first | exact h_ | (have e_ := (Kd.R_reads' HO_0.out).1; omega) | simpa using h_) (seg := [.int .i64 (wrap64 ((wrap64 (x1_1 + 1)) + 1))]) (j := 2) hcl14 hcc14 (show 3 ≤ 4 from by decide) (x' := (⟨(rd_T98 y258 x5_1).f0, (rd_T98 y258 x5_1).f1, wrap64 ((wrap64 (x1_1 + 1)) + 1), (rd_T98 y258 x5_1).f3⟩ : S98)) (k98_mkM _ _ _ (⟨(rd_T98 y258 x5_1).f0, (rd_T98 y258 x5_1).f1, wrap64 ((wrap64 (x1_1 + 1)) + 1), (rd_T98 y258 x5_1).f3⟩ : S98) ) (fun _ hk => hk); have hx14_2 := hcc14 2 _ rfl; (try simp only [show (k98).sz = 4 from rfl, Nat.mul_one, Nat.add_zero] at hx14_2); have hf14_2 := hfr14 2; (try simp only [show (k98).sz = 4 from rfl, Nat.mul_one, Nat.add_zero] at hf14_2); clear hcl14 hcc14 hfr14 hM14) | ((with_reducible refine gate_store (t := 3) (p := 30) rfl ?_); refine store_event (t := 3) (p := 30) (v := ?vo_w15) (w1 := (w13.setCell ⟨go5, (x5_1 : Int).toNat * 4 + 2, none⟩ (.int .i64 (wrap64 ((wrap64 (x1_1 + 1)) + 1))))) ?hg ?ho ?hn ?hr ?_; (case ho => rfl); (case hg => rfl); (case hn => rfl); (case hr => first | (go_simp; done) | (go_simp; rfl)); intro w15 hw; have nJ_ := Aside0.mk (by rw [hw]; exact hJ _ _ _ _ _ HJ.out (by assumption) (by first | exact Or.inl ⟨_, _, rfl, rfl⟩ | exact Or.inr ⟨_, _, rfl, rfl⟩) : J w15); have hg : w13.grownBy w15 (some go5) := (by rw [hw]; exact HP14.2); have hp_ : Kd.R k98 98 w15 w0.heap.size (fun k_ => (P0_ k_ ∨ w.heap.size ≤ k_)) (.slice (some ⟨go5, 0, none⟩) x0_1.length co9) y259 := (by rw [hw, Ny259.out]; exact HP14.1); clear HP14; replace HB := Aside0.mk ((by rw [hw]; exact below_set (HB.out) GB5.out : Below w0.heap.size w0 w15)); replace HK := Aside0.mk (Kept.of_grown (S := (fun k_ => P0_ k_)) hg (by repeat (first | (with_reducible first | exact HK.out | apply Kept.alloc | apply Kept.drewN | apply Kept.drew) | exact HK.out)) (fun k_ e_ => (HO_0.out.1 k_ e_))); replace HO_0 := Aside0.mk (hp_); clear HJ; have HJ := nJ_; clear nJ_; clear hg hw hp_; have p8 : 0 ≤ (x5_1 : Int) := of_decide_eq_true asm; have q8 : (x5_1 : Int) < ((x0_1.length : Int) : Int) := of_decide_eq_true asm; obtain ⟨ce8, hcl8, hM8, hcc8, hfr8⟩ := Kd.R_elem HO_0.out z98 (x5_1 : Int) p8 q8; obtain rfl := k98_openM hM8; have hx8_0 : w15.cell? ⟨go5, (x5_1 : Int).toNat * 4, none⟩ = some (.int .i64 ((rd_T98 y259 x5_1).f0)) := hcc8 0 _ rfl; have hx8_1 : w15.cell? ⟨go5, (x5_1 : Int).toNat * 4 + 1, none⟩ = some (.int .i64 ((rd_T98 y259 x5_1).f1)) := hcc8 1 _ rfl; have hx8_2 : w15.cell? ⟨go5, (x5_1 : Int).toNat * 4 + 2, none⟩ = some (.int .i64 ((rd_T98 y259 x5_1).f2)) := hcc8 2 _ rfl; have hx8_3 : w15.cell? ⟨go5, (x5_1 : Int).toNat * 4 + 3, none⟩ = some (.bool ((rd_T98 y259 x5_1).f3)) := hcc8 3 _ rfl; have hf8_0 : w15.frozen? ⟨go5, (x5_1 : Int).toNat * 4, none⟩ = false := hfr8 0; have hf8_1 : w15.frozen? ⟨go5, (x5_1 : Int).toNat * 4 + 1, none⟩ = false := hfr8 1; have hf8_2 : w15.frozen? ⟨go5, (x5_1 : Int).toNat * 4 + 2, none⟩ = false := hfr8 2; have hf8_3 : w15.frozen? ⟨go5, (x5_1 : Int).toNat * 4 + 3, none⟩ = false := hfr8 3; clear hcl8 hcc8 hfr8 hM8; replace p8 := eq_true p8; replace q8 := eq_true q8; have HX16 := Aside0.mk (show Kd.R k98 98 w15 w0.heap.size (fun k_ => (P0_ k_ ∨ w.heap.size ≤ k_)) (.slice (some ⟨go5, 0, none⟩) x0_1.length co9) y259 from (rk HO_0.out)); obtain ⟨ce16, hcl16, hM16, hcc16, hfr16⟩ := Kd.R_elem HX16.out z98 (x5_1 : Int) (of_decide_eq_true asm) (by have h_ : (x5_1 : Int) < ((x0_1.length : Int) : Int) := of_decide_eq_true asm; first | exact h_ | (have e_ := (Kd.R_reads' HO_0.out).1; omega) | simpa using h_); obtain rfl := k98_openM hM16; have HP16 := Kd.R_seg HX16.out (x5_1 : Int) (of_decide_eq_true asm) (by have h_ : (x5_1 : Int) < ((x0_1.length : Int) : Int) := of_decide_eq_true asm; first | exact h_ | (have e_ := (Kd.R_reads' HO_0.out).1; omega) | simpa using h_) (seg := [.bool ((Int.tmod (wrap64 ((wrap64 ((wrap64 (x1_1 + 1)) + 1)) + 1)) 3) == 0)]) (j := 3) hcl16 hcc16 (show 4 ≤ 4 from by decide) (x' := (⟨(rd_T98 y259 x5_1).f0, (rd_T98 y259 x5_1).f1, (rd_T98 y259 x5_1).f2, ((Int.tmod (wrap64 ((wrap64 ((wrap64 (x1_1 + 1)) + 1)) + 1)) 3) == 0)⟩ : S98)) (k98_mkM _ _ _ (⟨(rd_T98 y259 x5_1).f0, (rd_T98 y259 x5_1).f1, (rd_T98 y259 x5_1).f2, ((Int.tmod (wrap64 ((wrap64 ((wrap64 (x1_1 + 1)) + 1)) + 1)) 3) == 0)⟩ : S98) ) (fun _ hk => hk); have hx16_3 := hcc16 3 _ rfl; (try simp only [show (k98).sz = 4 from rfl, Nat.mul_one, Nat.add_zero] at hx16_3); have hf16_3 := hfr16 3; (try simp only [show (k98).sz = 4 from rfl, Nat.mul_one, Nat.add_zero] at hf16_3); clear hcl16 hcc16 hfr16 hM16) | ((with_reducible refine gate_store (t := 4) (p := 39) rfl ?_); refine store_event (t := 4) (p := 39) (v := ?vo_w17) (w1 := (w15.setCell ⟨go5, (x5_1 : Int).toNat * 4 + 3, none⟩ (.bool ((Int.tmod (wrap64 ((wrap64 ((wrap64 (x1_1 + 1)) + 1)) + 1)) 3) == 0)))) ?hg ?ho ?hn ?hr ?_; (case ho => rfl); (case hg => rfl); (case hn => rfl); (case hr => first | (go_simp; done) | (go_simp; rfl)); intro w17 hw; have nJ_ := Aside0.mk (by rw [hw]; exact hJ _ _ _ _ _ HJ.out (by assumption) (by first | exact Or.inl ⟨_, _, rfl, rfl⟩ | exact Or.inr ⟨_, _, rfl, rfl⟩) : J w17); have hg : w15.grownBy w17 (some go5) := (by rw [hw]; exact HP16.2); have hp_ : Kd.R k98 98 w17 w0.heap.size (fun k_ => (P0_ k_ ∨ w.heap.size ≤ k_)) (.slice (some ⟨go5, 0, none⟩) x0_1.length co9) y260 := (by rw [hw, Ny260.out]; exact HP16.1); clear HP16; replace HB := Aside0.mk ((by rw [hw]; exact below_set (HB.out) GB5.out : Below w0.heap.size w0 w17)); replace HK := Aside0.mk (Kept.of_grown (S := (fun k_ => P0_ k_)) hg (by repeat (first | (with_reducible first | exact HK.out | apply Kept.alloc | apply Kept.drewN | apply Kept.drew) | exact HK.out)) (fun k_ e_ => (HO_0.out.1 k_ e_))); replace HO_0 := Aside0.mk (hp_); clear HJ; have HJ := nJ_; clear nJ_; clear hg hw hp_))
     go_roundg k1
     case measure => have := HK1.out; omega
     case rel => exact ⟨(y260), (wrap64 ((wrap64 ((wrap64 ((wrap64 (x1_1 + 1)) + 1)) + 1)) + 1)), (wrap64 (x5_1 + 1)), (by first | rfl | (simp; done) | (simp [*]; done)), (by first | rfl | (simp; done) | (simp [*]; done)), H', ⟨by have := HK1.out; omega⟩, ⟨rk HO_0.out⟩, ⟨by repeat (first | (with_reducible first | exact HK.out | apply Kept.alloc | apply Kept.drewN | apply Kept.drew) | exact HK.out)⟩, ⟨bl HB.out⟩, HJ⟩
    ·rw [if_neg c4] at H
     exact absurd H (by simp)
   ·rw [if_neg c3] at H
    have c3b0 : decide (x5_1 < (x0_1.length : Int)) = false := decide_eq_false c3
    clear c3
    simp only [Option.some.injEq, Prod.mk.injEq] at H
    obtain ⟨rfl, rfl⟩ := H
    obtain ⟨Ao18, co18, eo18⟩ := Kd.R_slice HO_0.out
    subst eo18
    go_wp2
    go_ret
    exact ⟨by first | rfl | (simp [errW_none, errW_some] <;> rfl) | (simp [*, errW_none, errW_some] <;> rfl), rk HO_0.out, bl HB.out, by repeat (first | (with_reducible first | exact HK.out | apply Kept.alloc | apply Kept.drewN | apply Kept.drew) | exact HK.out), HJ.out⟩
theorem laws_markIntS.like_ : ∀ (k : Nat) (x0 z0 : List Int) (x1 x5 r : Int) (y : List Int), x0.length = z0.length → laws_markIntS.l0 k x0 x1 x5 = some (r, y) → ∃ y', laws_markIntS.l0 k z0 x1 x5 = some (r, y')
 | 0, _, _, _, _, _, _, _, h => by simp [laws_markIntS.l0] at h
 | k + 1, x0, z0, x1, x5, r, y, hl, h => by
  simp only [laws_markIntS.l0] at h ⊢
  rw [← hl]
  by_cases c1 : x5 < (x0.length : Int)
  ·rw [if_pos c1] at h ⊢
   by_cases c2 : 0 ≤ x5
   ·rw [if_pos c2] at h ⊢
    exact laws_markIntS.like_ k _ _ _ _ r y (by rw [List.length_set, List.length_set, hl]) h
   ·rw [if_neg c2] at h; simp at h
  ·rw [if_neg c1] at h ⊢
   simp only [Option.some.injEq, Prod.mk.injEq] at h
   exact ⟨z0, by rw [h.1]⟩
theorem laws_markBoxS.like_ : ∀ (k : Nat) (x0 z0 : List S98) (x1 x5 r : Int) (y : List S98), x0.length = z0.length → laws_markBoxS.l0 k x0 x1 x5 = some (r, y) → ∃ y', laws_markBoxS.l0 k z0 x1 x5 = some (r, y')
 | 0, _, _, _, _, _, _, _, h => by simp [laws_markBoxS.l0] at h
 | k + 1, x0, z0, x1, x5, r, y, hl, h => by
  simp only [laws_markBoxS.l0, Option.bind_some] at h ⊢
  rw [← hl]
  by_cases c1 : x5 < (x0.length : Int)
  ·rw [if_pos c1] at h ⊢
   by_cases c2 : 0 ≤ x5
   ·rw [if_pos c2] at h ⊢
    exact laws_markBoxS.like_ k _ _ _ _ r y (by simp only [List.length_set]; exact hl) h
   ·rw [if_neg c2] at h; simp at h
  ·rw [if_neg c1] at h ⊢
   simp only [Option.some.injEq, Prod.mk.injEq] at h
   exact ⟨z0, by rw [h.1]⟩
def laws_markColumnS.l0 : Nat → List (S41) → Int → Int → Option Int
 | 0, _, _, _ => none
 | k + 1, x0, x1, x5 => if x5 < (x0.length : Int) then (if 0 ≤ x5 then ((laws_markIntS.f k ((rd_T41 x0 x5).f1) (wrap64 (x1 + 1))).bind fun bt1 => ((laws_markBoxS.f k ((rd_T41 x0 x5).f2) bt1.1).bind fun bt2 => (laws_markColumnS.l0 k x0 bt2.1 (wrap64 (x5 + 1))))) else (none)) else (some x1)
def laws_markColumnS.f (k : Nat) (l0 : List (S41)) (a1 : Int) : Option Int := laws_markColumnS.l0 k l0 a1 0
def SC_ (x y : S41) : Prop := x.f1.length = y.f1.length ∧ x.f2.length = y.f2.length
theorem soft_k98_ : SoftK_ k98 (fun _ _ => True) :=
 have h := soft_iso_ (f := fun x : S98 => (x.f0, x.f1, x.f2, x.f3)) (g := fun t => ⟨t.1, t.2.1, t.2.2.1, t.2.2.2⟩) (fun _ => rfl) (soft_pair_ (fun _ => trivial) (fun _ => ⟨trivial, trivial, trivial⟩) soft_int_ (soft_pair_ (fun _ => trivial) (fun _ => ⟨trivial, trivial⟩) soft_int_ (soft_pair_ (fun _ => trivial) (fun _ => trivial) soft_int_ soft_bool_)))
 ⟨fun a b c => (h.val a b c).elim fun x' m => ⟨x', trivial, m.2⟩, fun a b c => (h.seg a b c).elim fun x' m => ⟨x', trivial, m.2⟩⟩
theorem soft_k41_ : SoftK_ k41 SC_ :=
 have h := soft_iso_ (f := fun x : S41 => (x.f0, x.f1, x.f2)) (g := fun t => ⟨t.1, t.2.1, t.2.2⟩) (fun _ => rfl) (soft_pair_ (fun _ => trivial) (fun _ => ⟨rfl, rfl⟩) soft_int_ (soft_pair_ (S := fun xs ys : List Int => xs.length = ys.length) (T := fun xs ys : List S98 => xs.length = ys.length) (fun _ => rfl) (fun _ => rfl) (soft_slice_ (fun _ => trivial) (fun _ _ _ _ _ => trivial) soft_int_ 3) (soft_slice_ (fun _ => trivial) (fun _ _ _ _ _ => trivial) soft_k98_ 98)))
 ⟨fun a b c => (h.val a b c).elim fun x' m => ⟨x', m.1.2, m.2⟩, fun a b c => (h.seg a b c).elim fun x' m => ⟨x', m.1.2, m.2⟩⟩
def MarkJ_ (base : Nat) (P : Nat → Prop) (s : Value) (l0 : List S41) (W : World) : Prop := ∃ l1, Rows_ SC_ l0 l1 ∧ Kd.R k41 41 W base P s l1
theorem markJ_set_ {base : Nat} {P : Nat → Prop} {s : Value} {l0 : List S41} (W : World) (g j : Nat) (u v : Value) (h : MarkJ_ base P s l0 W) (hu : W.cell? ⟨g, j, none⟩ = some u) (hv : Alike_ u v) : MarkJ_ base P s l0 (W.setCell ⟨g, j, none⟩ v) := by
 obtain ⟨l1, h1, h2⟩ := h
 obtain ⟨l2, h3, h4⟩ := soft_row_ (fun _ => ⟨rfl, rfl⟩) (fun _ _ _ a b => ⟨a.1.trans b.1, a.2.trans b.2⟩) soft_k41_ h2 hu hv
 exact ⟨l2, Rows_.trans_ (fun _ _ _ a b => ⟨a.1.trans b.1, a.2.trans b.2⟩) h1 h3, h4⟩
theorem markJ_open_ {base : Nat} {P : Nat → Prop} {g cap n : Nat} {l0 : List S41} {W : World} (hn : n = l0.length) (h : MarkJ_ base P (.slice (some ⟨g, 0, none⟩) n cap) l0 W) (i : Int) (h0 : 0 ≤ i) (h1 : i < n) :
  ∃ (x : Int) (m1 : List Int) (m2 : List S98) (A1 : Option Addr) (c1 : Nat) (A2 : Option Addr) (c2 : Nat), (rd_T41 l0 i).f1.length = m1.length ∧ (rd_T41 l0 i).f2.length = m2.length ∧
   W.cell? ⟨g, i.toNat * 3, none⟩ = some (.int .i64 x) ∧ W.cell? ⟨g, i.toNat * 3 + 1, none⟩ = some (.slice A1 m1.length c1) ∧ W.cell? ⟨g, i.toNat * 3 + 2, none⟩ = some (.slice A2 m2.length c2) ∧
   W.frozen? ⟨g, i.toNat * 3, none⟩ = false ∧ W.frozen? ⟨g, i.toNat * 3 + 1, none⟩ = false ∧ W.frozen? ⟨g, i.toNat * 3 + 2, none⟩ = false ∧
   Kd.R (Kd.int .i64) 3 W base P (.slice A1 m1.length c1) m1 ∧ Kd.R k98 98 W base P (.slice A2 m2.length c2) m2 := by
 obtain ⟨l1, hl, hR⟩ := h
 obtain ⟨c, hc, hM, hcell, hfr⟩ := Kd.R_elem hR z41 i h0 h1
 have hi : i.toNat < l1.length := by have := hl.1; omega
 have e1 : l1[i.toNat]? = some (l1.getD i.toNat z41) := by rw [List.getD_eq_getElem?_getD, List.getElem?_eq_getElem hi]; rfl
 have e0 : l0[i.toNat]? = some (rd_T41 l0 i) := by unfold rd_T41; rw [List.getD_eq_getElem?_getD, List.getElem?_eq_getElem (show i.toNat < l0.length by omega)]; rfl
 have hs := hl.2 _ _ _ e0 e1
 obtain ⟨v1, v2, rfl, g1, g2⟩ := k41_openM hM
 obtain ⟨A1, c1, rfl⟩ := Kd.R_slice g1
 obtain ⟨A2, c2, rfl⟩ := Kd.R_slice g2
 exact ⟨_, _, _, A1, c1, A2, c2, hs.1, hs.2, hcell 0 _ rfl, hcell 1 _ rfl, hcell 2 _ rfl, hfr 0, hfr 1, hfr 2, Kd.R_mono g1 (fun _ hk => hk.1), Kd.R_mono g2 (fun _ hk => hk.1)⟩
set_option maxHeartbeats 8000000 in
set_option maxRecDepth 100000 in
theorem laws_markColumnS.calls (k : Nat) (P0_ : Nat → Prop) (u9000_ : Value) (l0 : List (S41)) (a1 : Int) (r : Int) (w0 w : World) (hB : Below w0.heap.size w0 w) (ho0 : Kd.R k41 41 w w0.heap.size P0_ u9000_ l0) (h : laws_markColumnS.f k l0 a1 = some r) :
  Calls Try.prog 21 #[u9000_, .int .i64 a1] w fun e w' => e = .returned (.int .i64 r) ∧ Below w0.heap.size w0 w' ∧ Kept w w' (fun k_ => P0_ k_) := by
 have hu41 := Try.underlying41
 have HK := Aside0.mk (Kept.refl w (fun k_ => P0_ k_))
 have HB := Aside0.mk hB
 clear hB
 obtain ⟨Ao6, co6, eo6⟩ := Kd.R_slice ho0
 subst eo6
 have HJ := Aside0.mk (show MarkJ_ w0.heap.size P0_ (.slice Ao6 l0.length co6) l0 w from ⟨l0, Rows_.rfl_ (fun _ => ⟨rfl, rfl⟩) _, ho0⟩)
 have HF : 0 < l0.length → ∃ g, Ao6 = some ⟨g, 0, none⟩ ∧ P0_ g ∧ w0.heap.size ≤ g := by
  intro hp
  obtain ⟨g, cap, e, hb, _, _⟩ := Kd.R_form ho0 hp
  injection e with e1 e2 e3
  subst e1
  exact ⟨g, rfl, ho0.1 g rfl, hb⟩
 have HF' := Aside0.mk HF
 clear HF ho0
 have H : (laws_markColumnS.l0 k l0 a1 0) = some r := h
 clear h
 have H' := Aside0.mk H
 clear H
 go_enter Try.func21, Try.ntmps21
 go_wp2
 go_loopg [1, 5] k (fun kq v1 v5 w' => ∃ (x1_1 : Int) (x5_1 : Int), v1 = .int .i64 x1_1 ∧ v5 = .int .i64 x5_1 ∧ Aside0 (laws_markColumnS.l0 kq l0 x1_1 x5_1 = some r) ∧ Aside0 (kq ≤ k) ∧ Aside0 (MarkJ_ w0.heap.size P0_ (.slice Ao6 l0.length co6) l0 w') ∧ Aside0 (Kept w w' (fun k_ => P0_ k_)) ∧ Aside0 (Below w0.heap.size w0 w'))
 case atStart => exact ⟨(a1), (0), (by first | rfl | (simp; done) | (simp [*]; done)), (by first | rfl | (simp; done) | (simp [*]; done)), H', ⟨Nat.le_refl _⟩, HJ, HK, HB⟩
 case round =>
  clear H' HJ HK HB
  try clear p2
  obtain ⟨x1_1, x5_1, rfl, rfl, HA, HK1, HJ, HK, HB⟩ := hrel
  cases gk with
  | zero => exact absurd HA.out (by simp [laws_markColumnS.l0])
  | succ k1 =>
   have H := HA.out
   clear HA
   simp only [laws_markColumnS.l0] at H
   by_cases c3 : x5_1 < (l0.length : Int)
   ·rw [if_pos c3] at H
    have c3b0 : decide (x5_1 < (l0.length : Int)) = true := decide_eq_true c3
    by_cases c4 : 0 ≤ x5_1
    ·rw [if_pos c4] at H
     have c4b0 : decide (0 ≤ x5_1) = true := decide_eq_true c4
     replace H := Option.bind_eq_some_iff.mp H
     obtain ⟨⟨t1, y1⟩, A30, H⟩ := H
     replace H := Option.bind_eq_some_iff.mp H
     obtain ⟨⟨t2, y2⟩, A40, H⟩ := H
     try dsimp only at H
     replace A40 : laws_markBoxS.f k1 ((rd_T41 l0 x5_1).f2) t1 = some (t2, y2) := A40
     have A3 := Aside0.mk A30
     have A4 := Aside0.mk A40
     have H' := Aside0.mk H
     clear H A30 A40
     obtain ⟨go5, ea_, hP5, hg5⟩ := HF'.out (by omega)
     subst ea_
     have HP5 := Aside0.mk hP5
     have GB5 := Aside0.mk hg5
     clear hP5 hg5
     obtain ⟨x5c, m5_1, m5_2, A5_1, c5_1, A5_2, c5_2, el5_1, el5_2, hx5_0, hx5_1, hx5_2, hf5_0, hf5_1, hf5_2, hr5_1, hr5_2⟩ := markJ_open_ rfl HJ.out x5_1 c4 c3
     clear el5_1 el5_2 hr5_1 hr5_2
     have p5 : (0 ≤ (x5_1 : Int)) = True := eq_true c4
     have q5 : (x5_1 < (l0.length : Int)) = True := eq_true c3
     go_wp2_with (first | ((with_reducible refine gate_store (t := 3) (p := 16) rfl ?_); refine store_event (t := 3) (p := 16) (v := ?vo_w8) (w1 := (wr.setCell ⟨go5, (x5_1 : Int).toNat * 3, none⟩ (.int .i64 x1_1))) ?hg ?ho ?hn ?hr ?_; (case ho => rfl); (case hg => rfl); (case hn => rfl); (case hr => first | (go_simp; done) | (go_simp; rfl)); intro w8 hw; replace HJ := Aside0.mk (show MarkJ_ w0.heap.size P0_ (.slice (some ⟨go5, 0, none⟩) l0.length co6) l0 w8 from by rw [hw]; exact markJ_set_ _ _ _ _ _ HJ.out hx5_0 (Or.inl ⟨_, _, rfl, rfl⟩)); replace HB := Aside0.mk (show Below w0.heap.size w0 w8 from by rw [hw]; exact below_set HB.out GB5.out); replace HK := Aside0.mk (show Kept w w8 (fun k_ => P0_ k_) from by rw [hw]; exact Kept.setCell HK.out (.inl HP5.out) _); clear hw hx5_0 hx5_1 hx5_2 hf5_0 hf5_1 hf5_2; obtain ⟨x6c, m6_1, m6_2, A6_1, c6_1, A6_2, c6_2, el6_1, el6_2, hx6_0, hx6_1, hx6_2, hf6_0, hf6_1, hf6_2, hr6_1, hr6_2⟩ := markJ_open_ rfl HJ.out x5_1 c4 c3) | ((with_reducible refine gate_callee (f := 54) rfl ?_); refine goesL_ (some 25) rfl rfl Try.func54 (by kernel_rfl) rfl #[.slice A6_1 m6_1.length c6_1, .int .i64 (wrap64 (x1_1 + 1))] rfl mapd ?_; obtain ⟨y1', A3'⟩ := laws_markIntS.like_ k1 _ m6_1 _ _ _ _ el6_1 A3.out; refine (laws_markIntS.callsJ (MarkJ_ w0.heap.size P0_ (.slice (some ⟨go5, 0, none⟩) l0.length co6) l0) markJ_set_ k1 P0_ (.slice A6_1 m6_1.length c6_1) m6_1 (wrap64 (x1_1 + 1)) t1 y1' w0 _ HB.out hr6_1 HJ.out A3').mono ?_; rintro e w9 ⟨rfl, hy0, hb, hkp, hj⟩; refine ⟨_, rfl, ?_⟩; have n0_ := Aside0.mk hj; have n1_ := Aside0.mk hb; have n2_ := Aside0.mk (Kept.then_ (S := fun k_ => P0_ k_) HK.out hkp (fun k_ hs_ => .inl hs_)); clear HJ HB HK hy0 hb hkp hj hx6_0 hx6_1 hx6_2 hf6_0 hf6_1 hf6_2 hr6_1 hr6_2 A3'; have HJ := n0_; have HB := n1_; have HK := n2_; clear n0_ n1_ n2_; obtain ⟨x7c, m7_1, m7_2, A7_1, c7_1, A7_2, c7_2, el7_1, el7_2, hx7_0, hx7_1, hx7_2, hf7_0, hf7_1, hf7_2, hr7_1, hr7_2⟩ := markJ_open_ rfl HJ.out x5_1 c4 c3) | ((with_reducible refine gate_callee (f := 68) rfl ?_); refine goesL_ (some 32) rfl rfl Try.func68 (by kernel_rfl) rfl #[.slice A7_2 m7_2.length c7_2, .int .i64 t1] rfl mapd ?_; obtain ⟨y2', A4'⟩ := laws_markBoxS.like_ k1 _ m7_2 _ _ _ _ el7_2 A4.out; refine (laws_markBoxS.callsJ (MarkJ_ w0.heap.size P0_ (.slice (some ⟨go5, 0, none⟩) l0.length co6) l0) markJ_set_ k1 P0_ (.slice A7_2 m7_2.length c7_2) m7_2 t1 t2 y2' w0 _ HB.out hr7_2 HJ.out A4').mono ?_; rintro e w11 ⟨rfl, hy0, hb, hkp, hj⟩; refine ⟨_, rfl, ?_⟩; have n0_ := Aside0.mk hj; have n1_ := Aside0.mk hb; have n2_ := Aside0.mk (Kept.then_ (S := fun k_ => P0_ k_) HK.out hkp (fun k_ hs_ => .inl hs_)); clear HJ HB HK hy0 hb hkp hj hx7_0 hx7_1 hx7_2 hf7_0 hf7_1 hf7_2 hr7_1 hr7_2 A4'; have HJ := n0_; have HB := n1_; have HK := n2_; clear n0_ n1_ n2_))
     go_roundg k1
     case measure => have := HK1.out; omega
     case rel => exact ⟨t2, (wrap64 (x5_1 + 1)), (by first | rfl | (simp; done) | (simp [*]; done)), (by first | rfl | (simp; done) | (simp [*]; done)), H', ⟨by have := HK1.out; omega⟩, HJ, HK, HB⟩
    ·rw [if_neg c4] at H
     exact absurd H (by simp)
   ·rw [if_neg c3] at H
    have c3b0 : decide (x5_1 < (l0.length : Int)) = false := decide_eq_false c3
    clear c3
    obtain rfl := Option.some.inj H
    go_wp2
    go_ret
    exact ⟨by first | rfl | (simp [errW_none, errW_some] <;> rfl) | (simp [*, errW_none, errW_some] <;> rfl), HB.out, HK.out⟩
theorem far_types_ {α : Type} {d : Kd α} {e base : Nat} {w : World} {ok : Nat → Prop} {v : Value} {xs : List α} (h : d.R e w base ok v xs) {E : List Nat} {A B C : Prop} (ht : ∀ q, q ∈ E → q ≠ e) (k : Nat) (hk : some k = v.ownBlock) (hs : A ∧ B ∧ C ∧ ∃ q, q ∈ E ∧ ∃ cells, w.heap[k]? = some (.cells cells q (0, 0))) : False := by
 obtain ⟨_, _, _, q, hq, c, hc⟩ := hs
 obtain ⟨c2, hc2⟩ := Kd.R_typed h k hk.symm
 rw [hc] at hc2
 injection hc2 with h1
 injection h1 with h2 h3 h4
 exact ht q hq h3
end Go.Proofs.Ytbpjidekjogfeaa.A

namespace Go.Proofs.Ytbpjidekjogfeaa.A
open Go.RowKit Go.Proofs.YtbpjidekjogfeaaW.PrintWords Go.Proofs.YtbpjidekjogfeaaW.PrintLast Go.Proofs.YtbpjidekjogfeaaW.PrintMore
attribute [local go_sem] max2_int min2_int max_two min_two max_three min_three max_four min_four   
set_option linter.unusedVariables false
set_option linter.unusedSimpArgs false
def idxP : List S98 → Int → Int → Int
 | [], _, _ => -1
 | b :: bs, p, i => if b.f2 = p then i else idxP bs p (i + 1)
end Go.Proofs.Ytbpjidekjogfeaa.A

namespace Go.Proofs.Ytbpjidekjogfeaa.A
open Go.RowKit Go.Proofs.YtbpjidekjogfeaaW.PrintWords Go.Proofs.YtbpjidekjogfeaaW.PrintLast Go.Proofs.YtbpjidekjogfeaaW.PrintMore
attribute [local go_sem] max2_int min2_int max_two min_two max_three min_three max_four min_four   
set_option linter.unusedVariables false
set_option linter.unusedSimpArgs false
def laws_heldIntS.l0 : Nat → List Int → Int → Int → Option (Int)
 | 0, _, _, _ => none
 | k + 1, x0, x1, x5 => if x5 < (x0.length : Int) then (if 0 ≤ x5 then (if (rd x0 x5) = x1 then (laws_heldIntS.l0 k x0 (wrap64 (x1 + 1)) (wrap64 (x5 + 1))) else (some (-1))) else (none)) else (some x1)
def laws_heldIntS.f (k : Nat) (l0 : List Int) (a1 : Int) : Option (Int) := laws_heldIntS.l0 k l0 a1 0
set_option maxHeartbeats 8000000 in
set_option maxRecDepth 100000 in
theorem laws_heldIntS.calls (k : Nat) (A0 : Option Addr) (c0 : Nat) (l0 : List Int) (a1 : Int) (r : Int) (w : World) (hr0 : Kd.C (Kd.int .i64) w A0 l0.length l0) (hc0 : l0.length ≤ c0) (h : laws_heldIntS.f k l0 a1 = some r) :
  Calls Try.prog 55 #[.slice A0 l0.length c0, .int .i64 a1] w fun e w' => e = .returned (.int .i64 r) ∧ Drawn0 w w' := by
 have HR0 := Aside0.mk hr0
 have HC0 := Aside0.mk hc0
 clear hr0 hc0
 have H : (laws_heldIntS.l0 k l0 a1 0) = some r := h
 clear h
 have H' := Aside0.mk H
 clear H
 go_enter Try.func55, Try.ntmps55
 go_wp2
 go_loopg [1, 5] k (fun kq v1 v5 w' => ∃ (x1_1 : Int) (x5_1 : Int), v1 = .int .i64 x1_1 ∧ v5 = .int .i64 x5_1 ∧ Aside0 (laws_heldIntS.l0 kq l0 x1_1 x5_1 = some r) ∧ Aside0 (kq ≤ k) ∧ Drawn0 w w')
 case atStart => exact ⟨(a1), (0), (by first | rfl | (simp; done) | (simp [*]; done)), (by first | rfl | (simp; done) | (simp [*]; done)), H', ⟨Nat.le_refl _⟩, by repeat (first | exact Drawn0.refl _ | apply Drawn0.step)⟩
 case round =>
  clear H'
  try clear p2
  obtain ⟨x1_1, x5_1, rfl, rfl, HA, HK1, ⟨m1, rfl⟩⟩ := hrel
  cases gk with
  | zero => exact absurd HA.out (by simp [laws_heldIntS.l0])
  | succ k1 =>
   have H := HA.out
   clear HA
   simp only [laws_heldIntS.l0] at H
   by_cases c3 : x5_1 < (l0.length : Int)
   ·rw [if_pos c3] at H
    have c3b0 : decide (x5_1 < (l0.length : Int)) = true := decide_eq_true c3
    clear c3
    by_cases c4 : 0 ≤ x5_1
    ·rw [if_pos c4] at H
     have c4b0 : decide (0 ≤ x5_1) = true := decide_eq_true c4
     clear c4
     by_cases c5 : (rd l0 x5_1) = x1_1
     ·rw [if_pos c5] at H
      have c5b0 : ((rd l0 x5_1) == x1_1) = true := beq_iff_eq.mpr c5
      have c5b1 : ((rd l0 x5_1) != x1_1) = false := bne_eq_false_iff_eq.mpr c5
      clear c5
      have H' := Aside0.mk H
      clear H
      have p424 : 0 ≤ (x5_1 : Int) := of_decide_eq_true asm
      have q424 : x5_1 < (l0.length : Int) := of_decide_eq_true asm
      obtain ⟨ad424, e424, hx424_0⟩ := Kd.at_int HR0.out x5_1 p424 q424
      cases e424
      replace p424 := eq_true p424
      replace q424 := eq_true q424
      go_wp2
      go_roundg k1
      case measure => have := HK1.out; omega
      case rel => exact ⟨(wrap64 (x1_1 + 1)), (wrap64 (x5_1 + 1)), (by first | rfl | (simp; done) | (simp [*]; done)), (by first | rfl | (simp; done) | (simp [*]; done)), H', ⟨by have := HK1.out; omega⟩, by repeat (first | exact Drawn0.refl _ | apply Drawn0.step)⟩
     ·rw [if_neg c5] at H
      have c5b0 : ((rd l0 x5_1) == x1_1) = false := beq_eq_false_iff_ne.mpr c5
      have c5b1 : ((rd l0 x5_1) != x1_1) = true := bne_iff_ne.mpr c5
      obtain rfl := Option.some.inj H
      have p424 : 0 ≤ (x5_1 : Int) := of_decide_eq_true asm
      have q424 : x5_1 < (l0.length : Int) := of_decide_eq_true asm
      obtain ⟨ad424, e424, hx424_0⟩ := Kd.at_int HR0.out x5_1 p424 q424
      cases e424
      replace p424 := eq_true p424
      replace q424 := eq_true q424
      go_wp2
      go_ret
      exact ⟨by first | rfl | (simp; done) | (simp [*]; done), by repeat (first | exact Drawn0.refl _ | apply Drawn0.step)⟩
    ·rw [if_neg c4] at H
     exact absurd H (by simp)
   ·rw [if_neg c3] at H
    have c3b0 : decide (x5_1 < (l0.length : Int)) = false := decide_eq_false c3
    clear c3
    obtain rfl := Option.some.inj H
    go_wp2
    go_ret
    exact ⟨by first | rfl | (simp; done) | (simp [*]; done), by repeat (first | exact Drawn0.refl _ | apply Drawn0.step)⟩
end Go.Proofs.Ytbpjidekjogfeaa.A

namespace Go.Proofs.Ytbpjidekjogfeaa.A
open Go.RowKit Go.Proofs.YtbpjidekjogfeaaW.PrintWords Go.Proofs.YtbpjidekjogfeaaW.PrintLast Go.Proofs.YtbpjidekjogfeaaW.PrintMore
attribute [local go_sem] max2_int min2_int max_two min_two max_three min_three max_four min_four   
set_option linter.unusedVariables false
set_option linter.unusedSimpArgs false
mutual
def spec_l02Sizes.l0 : Nat → List Int → Int → Option (Bool)
 | 0, _, _ => none
 | k + 1, x0, x3 => if x3 < (x0.length : Int) then (spec_l02Sizes.j1 k x0 x3 (decide (x3 ≤ 8))) else (spec_l02Sizes.j1 k x0 x3 false)
def spec_l02Sizes.j1 : Nat → List Int → Int → Bool → Option (Bool)
 | 0, _, _, _ => none
 | k + 1, x0, x3, x11 => if x11 = true then (if 0 ≤ x3 then (if x3 < (x0.length : Int) then (if (rd x0 x3) < 1 then (some false) else (spec_l02Sizes.l0 k x0 (wrap64 (x3 + 1)))) else (none)) else (none)) else (some (decide ((x0.length : Int) ≤ 8)))
end
def spec_l02Sizes.f (k : Nat) (l0 : List Int) : Option (Bool) := spec_l02Sizes.l0 k l0 0
set_option maxHeartbeats 8000000 in
set_option maxRecDepth 100000 in
theorem spec_l02Sizes.calls (k : Nat) (A0 : Option Addr) (c0 : Nat) (l0 : List Int) (r : Bool) (w : World) (hr0 : Kd.C (Kd.int .i64) w A0 l0.length l0) (hc0 : l0.length ≤ c0) (h : spec_l02Sizes.f k l0 = some r) :
  Calls Try.prog 98 #[.slice A0 l0.length c0] w fun e w' => e = .returned (.bool r) ∧ Drawn0 w w' := by
 have HR0 := Aside0.mk hr0
 have HC0 := Aside0.mk hc0
 clear hr0 hc0
 have H : (spec_l02Sizes.l0 k l0 0) = some r := h
 clear h
 have H' := Aside0.mk H
 clear H
 go_enter Try.func98, Try.ntmps98
 go_wp2
 go_loopg [3] k (fun kq v3 w' => ∃ (x3_1 : Int), v3 = .int .i64 x3_1 ∧ Aside0 (spec_l02Sizes.l0 kq l0 x3_1 = some r) ∧ Aside0 (kq ≤ k) ∧ Drawn0 w w')
 case atStart => exact ⟨(0), (by first | rfl | (simp; done) | (simp [*]; done)), H', ⟨Nat.le_refl _⟩, by repeat (first | exact Drawn0.refl _ | apply Drawn0.step)⟩
 case round =>
  clear H'
  obtain ⟨x3_1, rfl, HA, HK1, ⟨m1, rfl⟩⟩ := hrel
  cases gk with
  | zero => exact absurd HA.out (by simp [spec_l02Sizes.l0])
  | succ k1 =>
   have H := HA.out
   clear HA
   simp only [spec_l02Sizes.l0] at H
   have HC2 := Aside0.mk H
   clear H
   go_upto_region 2 with (fail)
   go_cut [11] (fun v11 wc => ∃ (kq : Nat) (x11_1 : Bool), v11 = .bool x11_1 ∧ Aside0 (spec_l02Sizes.j1 kq l0 x3_1 x11_1 = some r) ∧ Aside0 (kq ≤ k1) ∧ Drawn0 w wc)
   case first =>
    have H := HC2.out
    clear HC2
    by_cases c3 : x3_1 < (l0.length : Int)
    ·rw [if_pos c3] at H
     have c3b0 : decide (x3_1 < (l0.length : Int)) = true := decide_eq_true c3
     clear c3
     (first | rw [c3b0] | (simp only [i64_w, i32_w]; rw [c3b0]) | skip)
     have H' := Aside0.mk H
     clear H
     go_wp2
     go_meet
     case rel => exact ⟨_, (decide (x3_1 ≤ 8)), (by first | rfl | (simp; done) | (simp [*]; done)), H', ⟨by have := HK1.out; first | omega | exact Nat.le_refl _⟩, by repeat (first | exact Drawn0.refl _ | apply Drawn0.step)⟩
    ·rw [if_neg c3] at H
     have c3b0 : decide (x3_1 < (l0.length : Int)) = false := decide_eq_false c3
     clear c3
     (first | rw [c3b0] | (simp only [i64_w, i32_w]; rw [c3b0]) | skip)
     have H' := Aside0.mk H
     clear H
     go_wp2
     go_meet
     case rel => exact ⟨_, (false), (by first | rfl | (simp; done) | (simp [*]; done)), H', ⟨by have := HK1.out; first | omega | exact Nat.le_refl _⟩, by repeat (first | exact Drawn0.refl _ | apply Drawn0.step)⟩
   case rest =>
    clear HC2
    try clear p2
    try clear c3
    try clear c3b0
    obtain ⟨kq, x11_1, rfl, HA, HJ1, ⟨mc1, rfl⟩⟩ := hcut
    cases kq with
    | zero => exact absurd HA.out (by simp [spec_l02Sizes.j1])
    | succ kj1 =>
     have H := HA.out
     clear HA
     simp only [spec_l02Sizes.j1] at H
     by_cases c4 : x11_1 = true
     ·subst c4
      rw [if_pos rfl] at H
      by_cases c5 : 0 ≤ x3_1
      ·rw [if_pos c5] at H
       have c5b0 : decide (0 ≤ x3_1) = true := decide_eq_true c5
       clear c5
       by_cases c6 : x3_1 < (l0.length : Int)
       ·rw [if_pos c6] at H
        have c6b0 : decide (x3_1 < (l0.length : Int)) = true := decide_eq_true c6
        clear c6
        by_cases c7 : (rd l0 x3_1) < 1
        ·rw [if_pos c7] at H
         have c7b0 : decide ((rd l0 x3_1) < 1) = true := decide_eq_true c7
         clear c7
         obtain rfl := Option.some.inj H
         have p980 : 0 ≤ (x3_1 : Int) := of_decide_eq_true asm
         have q980 : x3_1 < (l0.length : Int) := of_decide_eq_true asm
         obtain ⟨ad980, e980, hx980_0⟩ := Kd.at_int HR0.out x3_1 p980 q980
         cases e980
         replace p980 := eq_true p980
         replace q980 := eq_true q980
         go_wp2
         go_ret
         exact ⟨by first | rfl | (simp; done) | (simp [*]; done), by repeat (first | exact Drawn0.refl _ | apply Drawn0.step)⟩
        ·rw [if_neg c7] at H
         have c7b0 : decide ((rd l0 x3_1) < 1) = false := decide_eq_false c7
         clear c7
         have H' := Aside0.mk H
         clear H
         have p980 : 0 ≤ (x3_1 : Int) := of_decide_eq_true asm
         have q980 : x3_1 < (l0.length : Int) := of_decide_eq_true asm
         obtain ⟨ad980, e980, hx980_0⟩ := Kd.at_int HR0.out x3_1 p980 q980
         cases e980
         replace p980 := eq_true p980
         replace q980 := eq_true q980
         go_wp2
         go_roundg kj1
         case measure => have := HK1.out; have := HJ1.out; omega
         case rel => exact ⟨(wrap64 (x3_1 + 1)), (by first | rfl | (simp; done) | (simp [*]; done)), H', ⟨by have := HK1.out; have := HJ1.out; omega⟩, by repeat (first | exact Drawn0.refl _ | apply Drawn0.step)⟩
       ·rw [if_neg c6] at H
        exact absurd H (by simp)
      ·rw [if_neg c5] at H
       exact absurd H (by simp)
     ·replace c4 := Bool.eq_false_iff.mpr c4
      subst c4
      rw [if_neg (show ¬ (false = true) by decide)] at H
      obtain rfl := Option.some.inj H
      go_wp2
      go_ret
      exact ⟨by first | rfl | (simp; done) | (simp [*]; done), by repeat (first | exact Drawn0.refl _ | apply Drawn0.step)⟩
def spec_l02Less.f (l0 : List Int) (a1 : Int) (a2 : Int) : Option (List Int) := (some (([] : List Int) : List Int)).bind fun y981 => (if y981.length + l0.length < 17592186044416 then ((some (y981 ++ l0 : List Int)).bind fun y984 => (if 0 ≤ a1 then (if a1 < (y984.length : Int) then (some (y984.set (a1 : Int).toNat (wrap64 ((rd y984 a1) - a2)))) else (none)) else (none))) else (none))
set_option maxHeartbeats 8000000 in
set_option maxRecDepth 100000 in
theorem spec_l02Less.calls (A0 : Option Addr) (c0 : Nat) (l0 : List Int) (a1 : Int) (a2 : Int) (r : List Int) (w : World) (hr0 : Kd.C (Kd.int .i64) w A0 l0.length l0) (hc0 : l0.length ≤ c0) (h : spec_l02Less.f l0 a1 a2 = some r) :
  Calls Try.prog 104 #[.slice A0 l0.length c0, .int .i64 a1, .int .i64 a2] w fun e w' => ∃ v0_ : Value, e = .returned (v0_) ∧ Kd.R (Kd.int .i64) 3 w' w.heap.size (fun _ => True) v0_ r ∧ Below w.heap.size w w' := by
 have HR0 := Aside0.mk hr0
 have HC0 := Aside0.mk hc0
 clear hr0 hc0
 have HB := Aside0.mk (Below.refl w.heap.size w)
 have H : ((some (([] : List Int) : List Int)).bind fun y981 => (if y981.length + l0.length < 17592186044416 then ((some (y981 ++ l0 : List Int)).bind fun y984 => (if 0 ≤ a1 then (if a1 < (y984.length : Int) then (some (y984.set (a1 : Int).toNat (wrap64 ((rd y984 a1) - a2)))) else (none)) else (none))) else (none))) = some r := h
 clear h
 obtain ⟨y981, hy981⟩ : ∃ y_ : List Int, y_ = (([] : List Int)) := ⟨_, rfl⟩
 replace H : (if y981.length + l0.length < 17592186044416 then ((some (y981 ++ l0 : List Int)).bind fun y984 => (if 0 ≤ a1 then (if a1 < (y984.length : Int) then (some (y984.set (a1 : Int).toNat (wrap64 ((rd y984 a1) - a2)))) else (none)) else (none))) else (none)) = some r := by first | (rw [hy981]; with_reducible exact H) | (have H2_ := (Option.bind_some _ _).symm.trans H; rw [hy981]; with_reducible exact H2_) | (have H2_ := (Option.bind_some _ _).symm.trans H; with_reducible exact H2_) | with_reducible exact H | (rw [hy981]; exact H) | exact H
 have Ny981 := Aside0.mk hy981
 clear hy981
 by_cases c4 : y981.length + l0.length < 17592186044416
 ·rw [if_pos c4] at H
  have LMc4 := Aside0.mk c4
  clear c4
  obtain ⟨y984, hy984⟩ : ∃ y_ : List Int, y_ = (y981 ++ l0) := ⟨_, rfl⟩
  replace H : (if 0 ≤ a1 then (if a1 < (y984.length : Int) then (some (y984.set (a1 : Int).toNat (wrap64 ((rd y984 a1) - a2)))) else (none)) else (none)) = some r := by first | (rw [hy984]; with_reducible exact H) | (have H2_ := (Option.bind_some _ _).symm.trans H; rw [hy984]; with_reducible exact H2_) | (have H2_ := (Option.bind_some _ _).symm.trans H; with_reducible exact H2_) | with_reducible exact H | (rw [hy984]; exact H) | exact H
  have Ny984 := Aside0.mk hy984
  clear hy984
  by_cases c5 : 0 ≤ a1
  ·rw [if_pos c5] at H
   have c5b0 : decide (0 ≤ a1) = true := decide_eq_true c5
   clear c5
   by_cases c6 : a1 < (y984.length : Int)
   ·rw [if_pos c6] at H
    have c6b0 : decide (a1 < (y984.length : Int)) = true := decide_eq_true c6
    clear c6
    obtain ⟨y988, hy988⟩ : ∃ y_ : List Int, y_ = (y984.set (a1 : Int).toNat (wrap64 ((rd y984 a1) - a2))) := ⟨_, rfl⟩
    replace H : (some y988) = some r := by first | (rw [hy988]; with_reducible exact H) | (have H2_ := (Option.bind_some _ _).symm.trans H; rw [hy988]; with_reducible exact H2_) | (have H2_ := (Option.bind_some _ _).symm.trans H; with_reducible exact H2_) | with_reducible exact H | (rw [hy988]; exact H) | exact H
    have Ny988 := Aside0.mk hy988
    clear hy988
    obtain rfl := Option.some.inj H
    go_enter Try.func104, Try.ntmps104
    go_wp2_with (first | ((with_reducible refine gate_dst (N := 8) rfl ?_); refine Kd.R_lit (Kd.int .i64) _ 3 ?hg (N := 8) ?hd (xs := ([] : List Int)) (inner := []) (ok := fun _ => True) (okp := fun _ => True) ?hr ?hp (fun _ hk => hk) trivial (Below.refl _ _) (Nat.le_refl _) (by simp) ?_; (case hd => rfl); (case hg => rfl); (case hr => first | (go_simp; done) | (go_simp; rfl)); (case hp => exact (Reps.none _ _)); intro v982 w8 ho9 hb hg_ hnew_; clear hg_ hnew_; (first | rw [← Ny981.out] at ho9 | (simp only [Int.reduceToNat] at ho9; rw [← Ny981.out] at ho9)); have HO983 := Aside0.mk (Kd.R_lower ho9 (below_size (bl HB.out))); replace HB := Aside0.mk (below_step (bl HB.out) hb); clear hb ho9) | ((with_reducible refine gate_builtin (b := .append) (xs := #[.tmp 8, .tmp 9]) rfl ?_); at_builtin; refine Kd.R_append_rows (Kd.int .i64) (w0 := w) w.heap.size rfl (.tmp 8) (.tmp 9) 38 3 (.int .i64 0) 8 rfl Try.underlying38 info3 rfl (by decide) (by omega) v982 y981 l0 _ _ _ (fun _ => True) (fun _ => False) rfl rfl ?aO ?aR (fun _ _ h => h) (fun _ h => h.elim) ?aF ?aB ?aS ?aL ?_; (case aR => exact cb (Kd.C_below HR0.out HB.out)); (case aB => exact (bl HB.out)); (case aF => exact (fun _ _ => trivial)); (case aO => exact (rk HO983.out)); (case aS => exact (below_size (bl HB.out))); (case aL => have := LMc4.out; omega); intro v985 w10 ho hb hg hat; rw [← Ny984.out] at ho; replace HB := Aside0.mk (hb); have HO986 := Aside0.mk (ho); clear HO983; clear ho hb hg hat; obtain ⟨Ao11, co11, eo11⟩ := Kd.R_slice HO986.out; subst eo11; have p987 : 0 ≤ (a1 : Int) := of_decide_eq_true asm; have q987 : a1 < (y984.length : Int) := of_decide_eq_true asm; obtain ⟨ad987, e987, hx987_0⟩ := Kd.at_int (Kd.R_reads' HO986.out).2.2 a1 p987 q987; cases e987; replace p987 := eq_true p987; replace q987 := eq_true q987; have p7 : 0 ≤ (a1 : Int) := of_decide_eq_true asm; have q7 : (a1 : Int) < ((y984.length : Int) : Int) := of_decide_eq_true asm; obtain ⟨go7, co7, eo7, gb7, gl7, cl7, HG7⟩ := Kd.R_form HO986.out (by omega); (first | cases eo7 | (injection eo7 with ea_ en_ ec_; (first | subst ea_ | (injection ea_ with ea_; subst ea_)); subst ec_; clear en_)); have GB7 := Aside0.mk gb7; have GG7 := Aside0.mk HG7; clear gb7 gl7 HG7; (first | simp only [add_plain] at hx987_0 | skip); obtain ⟨hx7_0, hf7_0⟩ := Kd.R_celln 0 HO986.out (a1 : Int) p7 q7; replace p7 := eq_true p7; replace q7 := eq_true q7; obtain ⟨hy12_, hz12_⟩ := Kd.R_celln 0 HO986.out (a1 : Int) (of_decide_eq_true asm) (of_decide_eq_true asm); have HP12 := Kd.R_putg HO986.out (a1 : Int) (wrap64 ((rd y984 a1) - a2))) | ((with_reducible refine gate_store (t := 3) (p := 19) rfl ?_); refine store_event (t := 3) (p := 19) (v := ?vo_w13) (w1 := (w10.setCell ⟨go7, (a1 : Int).toNat, none⟩ (.int .i64 (wrap64 ((rd y984 a1) - a2))))) ?hg ?ho ?hn ?hr ?_; (case ho => rfl); (case hg => rfl); (case hn => rfl); (case hr => first | (go_simp; done) | (go_simp; rfl)); intro w13 hw; have hg : w10.grownBy w13 (some go7) := (by rw [hw]; exact HP12.2); have hp_ : Kd.R (Kd.int .i64) 3 w13 w.heap.size (fun _ => True) (.slice (some ⟨go7, 0, none⟩) y984.length co11) y988 := (by rw [hw, Ny988.out]; exact HP12.1); clear HP12; replace HO986 := Aside0.mk (hp_); replace HB := Aside0.mk ((by rw [hw]; exact below_set (HB.out) GB7.out : Below w.heap.size w w13)); clear hg hw hp_))
    go_ret
    exact ⟨_, by first | rfl | (simp [errW_none, errW_some] <;> rfl) | (simp [*, errW_none, errW_some] <;> rfl), rk HO986.out, bl HB.out⟩
   ·rw [if_neg c6] at H
    exact absurd H (by simp)
  ·rw [if_neg c5] at H
   exact absurd H (by simp)
 ·rw [if_neg c4] at H
  exact absurd H (by simp)
end Go.Proofs.Ytbpjidekjogfeaa.A
