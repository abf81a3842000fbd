/- What the proof of the law FnExactHeldInOrder uses: lemmas, the Lean functions of the Go functions that it reaches, their contracts, and the pure statement's proof. -/
import Derived.Test.YtbpjidekjogfeaaZFnExactHeldInOrderx14
import Derived.Test.YtbpjidekjogfeaaZFnExactHeldInOrderx18
import Derived.Test.YtbpjidekjogfeaaZFnExactHeldInOrderx15
import Derived.Test.YtbpjidekjogfeaaZFnExactHeldInOrderx17
import Derived.Test.YtbpjidekjogfeaaZFnExactHeldInOrderx16
import Derived.Test.YtbpjidekjogfeaaZFnExactHeldInOrderh
namespace Go.Proofs.Ytbpjidekjogfeaa.A
open Go.RowKit Go.Proofs.YtbpjidekjogfeaaW.PrintWords Go.Proofs.YtbpjidekjogfeaaW.PrintLast Go.Proofs.YtbpjidekjogfeaaW.PrintMore
attribute [local go_sem] max2_int min2_int max_two min_two max_three min_three max_four min_four   
set_option linter.unusedVariables false
set_option linter.unusedSimpArgs false
def laws_eqColumnS.l0 : Nat → List (S41) → List (S41) → Int → Option (Bool)
 | 0, _, _, _ => none
 | k + 1, x0, x1, x5 => if x5 < (x0.length : Int) then (if 0 ≤ x5 then (if x5 < (x1.length : Int) then ((laws_eqColumn.f k ((rd_T41 x0 x5).f0) ((rd_T41 x0 x5).f1) ((rd_T41 x0 x5).f2) ((rd_T41 x1 x5).f0) ((rd_T41 x1 x5).f1) ((rd_T41 x1 x5).f2)).bind fun t255 => (if t255 = true then (laws_eqColumnS.l0 k x0 x1 (wrap64 (x5 + 1))) else (some false))) else (none)) else (none)) else (some true)
def laws_eqColumnS.f (k : Nat) (l0 : List (S41)) (l1 : List (S41)) : Option (Bool) := if (l0.length : Int) = (l1.length : Int) then (laws_eqColumnS.l0 k l0 l1 0) else (some false)
def laws_eqColumnS.T6 : Bool × List (List Nat × List Nat) := (true, [([], []), ([], []), ([0, 1], [0, 1]), ([2], [2]), ([], []), ([], []), ([4, 5], [4, 5]), ([6], [6]), ([3, 7], [3, 7]), ([8], [8])])
def laws_eqColumnS.B6 : List Nat := [0, 0, 3, 7, 0, 0, 48, 112, 255, 511]
theorem laws_eqColumnS.tab6 : rtab .any (opsOf Try.f20 6) = laws_eqColumnS.T6 := by kernel_rfl
theorem laws_eqColumnS.bits6 : waitsOk laws_eqColumnS.T6.2 laws_eqColumnS.B6 = true := by kernel_rfl
set_option maxHeartbeats 8000000 in
set_option maxRecDepth 100000 in
theorem laws_eqColumnS.calls (k : Nat) (A0 : Option Addr) (c0 : Nat) (l0 : List (S41)) (A1 : Option Addr) (c1 : Nat) (l1 : List (S41)) (r : Bool) (w : World) (hr0 : Kd.C k41 w A0 l0.length l0) (hc0 : l0.length ≤ c0) (hr1 : Kd.C k41 w A1 l1.length l1) (hc1 : l1.length ≤ c1) (h : laws_eqColumnS.f k l0 l1 = some r) :
  Calls Try.prog 20 #[.slice A0 l0.length c0, .slice A1 l1.length c1] w fun e w' => e = .returned (.bool r) ∧ Below w.heap.size w w' := by
 have hu41 := Try.underlying41
 have HR0 := Aside0.mk hr0
 have HC0 := Aside0.mk hc0
 clear hr0 hc0
 have HR1 := Aside0.mk hr1
 have HC1 := Aside0.mk hc1
 clear hr1 hc1
 have HB := Aside0.mk (Below.refl w.heap.size w)
 have H : (if (l0.length : Int) = (l1.length : Int) then (laws_eqColumnS.l0 k l0 l1 0) else (some false)) = some r := h
 clear h
 by_cases c3 : (l0.length : Int) = (l1.length : Int)
 ·rw [if_pos c3] at H
  have c3b0 : ((l0.length : Int) == (l1.length : Int)) = true := beq_iff_eq.mpr c3
  have c3b1 : ((l0.length : Int) != (l1.length : Int)) = false := bne_eq_false_iff_eq.mpr c3
  have c3b2 : (l0.length == l1.length) = true := by first | simpa using c3 | (simp at c3 ⊢; omega)
  clear c3
  have H' := Aside0.mk H
  clear H
  go_enter Try.func20, Try.ntmps20
  go_wp2
  go_loopg [5] k (fun kq v5 w' => ∃ (x5_1 : Int), v5 = .int .i64 x5_1 ∧ Aside0 (laws_eqColumnS.l0 kq l0 l1 x5_1 = some r) ∧ Aside0 (kq ≤ k) ∧ Aside0 (Below w.heap.size w w'))
  case atStart => exact ⟨(0), (by first | rfl | (simp; done) | (simp [*]; done)), H', ⟨Nat.le_refl _⟩, ⟨bl HB.out⟩⟩
  case round =>
   clear H'
   try clear c1
   try clear c2
   try clear p2
   try clear c3
   try clear c3b0
   try clear c3b1
   try clear c3b2
   obtain ⟨x5_1, rfl, HA, HK1, HB⟩ := hrel
   cases gk with
   | zero => exact absurd HA.out (by simp [laws_eqColumnS.l0])
   | succ k1 =>
    have H := HA.out
    clear HA
    simp only [laws_eqColumnS.l0] at H
    by_cases c4 : x5_1 < (l0.length : Int)
    ·rw [if_pos c4] at H
     have c4b0 : decide (x5_1 < (l0.length : Int)) = true := decide_eq_true c4
     clear c4
     by_cases c5 : 0 ≤ x5_1
     ·rw [if_pos c5] at H
      have c5b0 : decide (0 ≤ x5_1) = true := decide_eq_true c5
      clear c5
      by_cases c6 : x5_1 < (l1.length : Int)
      ·rw [if_pos c6] at H
       have c6b0 : decide (x5_1 < (l1.length : Int)) = true := decide_eq_true c6
       clear c6
       replace H := Option.bind_eq_some_iff.mp H
       obtain ⟨t255, A70, H⟩ := H
       try dsimp only at H
       have A7 := Aside0.mk A70
       clear A70
       by_cases c8 : t255 = true
       ·subst c8
        rw [if_pos rfl] at H
        have H' := Aside0.mk H
        clear H
        try go_wp2
        replace HB := Aside0.mk (below_drew1 HB.out)
        have p253 : 0 ≤ (x5_1 : Int) := of_decide_eq_true asm
        have q253 : x5_1 < (l0.length : Int) := of_decide_eq_true asm
        obtain ⟨ad253, A253_1, c253_1, A253_2, c253_2, e253, hx253_0, hx253_1, hx253_2, hl253_1, hi253_1, hl253_2, hi253_2⟩ := at_T41 HR0.out x5_1 p253 q253
        have hw253_2 := hx253_2
        have hw253_1 := hx253_1
        have hw253_0 := hx253_0
        cases e253
        replace hx253_0 := (HB.out.cell (World.block_lt_of_cell? w _ hx253_0)).trans hx253_0
        replace hx253_1 := (HB.out.cell (World.block_lt_of_cell? w _ hx253_1)).trans hx253_1
        replace hx253_2 := (HB.out.cell (World.block_lt_of_cell? w _ hx253_2)).trans hx253_2
        have HR253_1 := Aside0.mk hi253_1
        have HC253_1 := Aside0.mk hl253_1
        clear hi253_1 hl253_1
        have HR253_2 := Aside0.mk hi253_2
        have HC253_2 := Aside0.mk hl253_2
        clear hi253_2 hl253_2
        replace p253 := eq_true p253
        replace q253 := eq_true q253
        have p254 : 0 ≤ (x5_1 : Int) := of_decide_eq_true asm
        have q254 : x5_1 < (l1.length : Int) := of_decide_eq_true asm
        obtain ⟨ad254, A254_1, c254_1, A254_2, c254_2, e254, hx254_0, hx254_1, hx254_2, hl254_1, hi254_1, hl254_2, hi254_2⟩ := at_T41 HR1.out x5_1 p254 q254
        have hw254_2 := hx254_2
        have hw254_1 := hx254_1
        have hw254_0 := hx254_0
        cases e254
        replace hx254_0 := (HB.out.cell (World.block_lt_of_cell? w _ hx254_0)).trans hx254_0
        replace hx254_1 := (HB.out.cell (World.block_lt_of_cell? w _ hx254_1)).trans hx254_1
        replace hx254_2 := (HB.out.cell (World.block_lt_of_cell? w _ hx254_2)).trans hx254_2
        have HR254_1 := Aside0.mk hi254_1
        have HC254_1 := Aside0.mk hl254_1
        clear hi254_1 hl254_1
        have HR254_2 := Aside0.mk hi254_2
        have HC254_2 := Aside0.mk hl254_2
        clear hi254_2 hl254_2
        replace p254 := eq_true p254
        replace q254 := eq_true q254
        refine start_ (n := 10) (S := fun w' => w'.cell? (ad253.add ((x5_1).toNat * 3)) = some (.int .i64 ((rd_T41 l0 x5_1).f0)) ∧ w'.cell? ⟨(ad253.add ((x5_1).toNat * 3)).block, (ad253.add ((x5_1).toNat * 3)).off + 1, none⟩ = some (.slice A253_1 ((rd_T41 l0 x5_1).f1).length c253_1) ∧ w'.cell? ⟨(ad253.add ((x5_1).toNat * 3)).block, (ad253.add ((x5_1).toNat * 3)).off + 2, none⟩ = some (.slice A253_2 ((rd_T41 l0 x5_1).f2).length c253_2) ∧ w'.cell? (ad254.add ((x5_1).toNat * 3)) = some (.int .i64 ((rd_T41 l1 x5_1).f0)) ∧ w'.cell? ⟨(ad254.add ((x5_1).toNat * 3)).block, (ad254.add ((x5_1).toNat * 3)).off + 1, none⟩ = some (.slice A254_1 ((rd_T41 l1 x5_1).f1).length c254_1) ∧ w'.cell? ⟨(ad254.add ((x5_1).toNat * 3)).block, (ad254.add ((x5_1).toNat * 3)).off + 2, none⟩ = some (.slice A254_2 ((rd_T41 l1 x5_1).f2).length c254_2)) (ds := []) #[false, false, false, false, false, false, false, false, false, false] (by kernel_rfl) rfl rfl ⟨((HB.out.cell (World.block_lt_of_cell? w _ hw253_0)).trans hw253_0), ((HB.out.cell (World.block_lt_of_cell? w _ hw253_1)).trans hw253_1), ((HB.out.cell (World.block_lt_of_cell? w _ hw253_2)).trans hw253_2), ((HB.out.cell (World.block_lt_of_cell? w _ hw254_0)).trans hw254_0), ((HB.out.cell (World.block_lt_of_cell? w _ hw254_1)).trans hw254_1), ((HB.out.cell (World.block_lt_of_cell? w _ hw254_2)).trans hw254_2)⟩ (fun hHeld => ?_); refine with_tabW laws_eqColumnS.tab6 laws_eqColumnS.bits6 (fun HT_ HW_ => ?_)
        generalize wr.drew = w9 at HB HR253_1 HR253_2 HR254_1 HR254_2 hx253_0 hx253_1 hx253_2 hx254_0 hx254_1 hx254_2 hHeld ⊢
        refine puA (i := 0) (N := some 17) HT_.out ?_
        refine puA (i := 1) (N := some 18) HT_.out ?_
        refine puA (i := 2) (N := some 19) HT_.out ?_
        refine puA (i := 4) (N := some 21) HT_.out ?_
        refine puA (i := 5) (N := some 22) HT_.out ?_
        refine puA (i := 6) (N := some 23) HT_.out ?_
        refine tkA6 (i := 3) (N := some 20) HT_.out HW_.out hHeld ?_
        refine tkA6 (i := 7) (N := some 24) HT_.out HW_.out hHeld ?_
        refine onA (i := 8) (N := some 25) HT_.out (fun K hK => ?_)
        refine goes_ Try.func39 (by kernel_rfl) rfl #[.agg #[.int .i64 ((rd_T41 l0 x5_1).f0), .slice A253_1 ((rd_T41 l0 x5_1).f1).length c253_1, .slice A253_2 ((rd_T41 l0 x5_1).f2).length c253_2], .agg #[.int .i64 ((rd_T41 l1 x5_1).f0), .slice A254_1 ((rd_T41 l1 x5_1).f1).length c254_1, .slice A254_2 ((rd_T41 l1 x5_1).f2).length c254_2]] (by rfl) rfl rfl mapd ?_
        with_reducible refine (laws_eqColumn.calls k1 ((rd_T41 l0 x5_1).f0) _ _ ((rd_T41 l0 x5_1).f1) _ _ ((rd_T41 l0 x5_1).f2) ((rd_T41 l1 x5_1).f0) _ _ ((rd_T41 l1 x5_1).f1) _ _ ((rd_T41 l1 x5_1).f2) true _ ?side1 ?side2 ?side3 ?side4 ?side5 ?side6 ?side7 ?side8 A7.out).mono ?_
        (case side1 => exact cb (Kd.C_below HR253_1.out HB.out))
        (case side2 => exact HC253_1.out)
        (case side3 => exact cb (Kd.C_below HR253_2.out HB.out))
        (case side4 => exact HC253_2.out)
        (case side5 => exact cb (Kd.C_below HR254_1.out HB.out))
        (case side6 => exact HC254_1.out)
        (case side7 => exact cb (Kd.C_below HR254_2.out HB.out))
        (case side8 => exact HC254_2.out)
        rintro e w10 ⟨rfl, hb⟩
        refine ⟨_, rfl, ?_⟩
        replace HB := Aside0.mk (below_step (bl HB.out) hb)
        (try clear hb)
        (try clear hb2)
        (try clear hk)
        (try clear hi)
        refine hK.out _ _ ⟨((HB.out.cell (World.block_lt_of_cell? w _ hw253_0)).trans hw253_0), ((HB.out.cell (World.block_lt_of_cell? w _ hw253_1)).trans hw253_1), ((HB.out.cell (World.block_lt_of_cell? w _ hw253_2)).trans hw253_2), ((HB.out.cell (World.block_lt_of_cell? w _ hw254_0)).trans hw254_0), ((HB.out.cell (World.block_lt_of_cell? w _ hw254_1)).trans hw254_1), ((HB.out.cell (World.block_lt_of_cell? w _ hw254_2)).trans hw254_2)⟩ (fun hHeld => ?_)
        clear hK K
        refine norm_ (a' := ?_) ?_ ?_
        rotate_left
        ·show Act.put _ (some 25) _ = _
         simp only [Act.put, List.setIfInBounds_toArray, List.set_cons_zero, List.set_cons_succ, i64_w, i32_w]
         rfl
        refine puA (i := 9) (N := some 26) HT_.out ?_
        refine done_ (done_of HT_.out (by kernel_rfl)) ?_
        try go_wp2
        go_roundg k1
        case measure => have := HK1.out; omega
        case rel => exact ⟨(wrap64 (x5_1 + 1)), (by first | rfl | (simp; done) | (simp [*]; done)), H', ⟨by have := HK1.out; omega⟩, ⟨bl HB.out⟩⟩
       ·replace c8 := Bool.eq_false_iff.mpr c8
        subst c8
        rw [if_neg (show ¬ (false = true) by decide)] at H
        obtain rfl := Option.some.inj H
        try go_wp2
        replace HB := Aside0.mk (below_drew1 HB.out)
        have p253 : 0 ≤ (x5_1 : Int) := of_decide_eq_true asm
        have q253 : x5_1 < (l0.length : Int) := of_decide_eq_true asm
        obtain ⟨ad253, A253_1, c253_1, A253_2, c253_2, e253, hx253_0, hx253_1, hx253_2, hl253_1, hi253_1, hl253_2, hi253_2⟩ := at_T41 HR0.out x5_1 p253 q253
        have hw253_2 := hx253_2
        have hw253_1 := hx253_1
        have hw253_0 := hx253_0
        cases e253
        replace hx253_0 := (HB.out.cell (World.block_lt_of_cell? w _ hx253_0)).trans hx253_0
        replace hx253_1 := (HB.out.cell (World.block_lt_of_cell? w _ hx253_1)).trans hx253_1
        replace hx253_2 := (HB.out.cell (World.block_lt_of_cell? w _ hx253_2)).trans hx253_2
        have HR253_1 := Aside0.mk hi253_1
        have HC253_1 := Aside0.mk hl253_1
        clear hi253_1 hl253_1
        have HR253_2 := Aside0.mk hi253_2
        have HC253_2 := Aside0.mk hl253_2
        clear hi253_2 hl253_2
        replace p253 := eq_true p253
        replace q253 := eq_true q253
        have p254 : 0 ≤ (x5_1 : Int) := of_decide_eq_true asm
        have q254 : x5_1 < (l1.length : Int) := of_decide_eq_true asm
        obtain ⟨ad254, A254_1, c254_1, A254_2, c254_2, e254, hx254_0, hx254_1, hx254_2, hl254_1, hi254_1, hl254_2, hi254_2⟩ := at_T41 HR1.out x5_1 p254 q254
        have hw254_2 := hx254_2
        have hw254_1 := hx254_1
        have hw254_0 := hx254_0
        cases e254
        replace hx254_0 := (HB.out.cell (World.block_lt_of_cell? w _ hx254_0)).trans hx254_0
        replace hx254_1 := (HB.out.cell (World.block_lt_of_cell? w _ hx254_1)).trans hx254_1
        replace hx254_2 := (HB.out.cell (World.block_lt_of_cell? w _ hx254_2)).trans hx254_2
        have HR254_1 := Aside0.mk hi254_1
        have HC254_1 := Aside0.mk hl254_1
        clear hi254_1 hl254_1
        have HR254_2 := Aside0.mk hi254_2
        have HC254_2 := Aside0.mk hl254_2
        clear hi254_2 hl254_2
        replace p254 := eq_true p254
        replace q254 := eq_true q254
        refine start_ (n := 10) (S := fun w' => w'.cell? (ad253.add ((x5_1).toNat * 3)) = some (.int .i64 ((rd_T41 l0 x5_1).f0)) ∧ w'.cell? ⟨(ad253.add ((x5_1).toNat * 3)).block, (ad253.add ((x5_1).toNat * 3)).off + 1, none⟩ = some (.slice A253_1 ((rd_T41 l0 x5_1).f1).length c253_1) ∧ w'.cell? ⟨(ad253.add ((x5_1).toNat * 3)).block, (ad253.add ((x5_1).toNat * 3)).off + 2, none⟩ = some (.slice A253_2 ((rd_T41 l0 x5_1).f2).length c253_2) ∧ w'.cell? (ad254.add ((x5_1).toNat * 3)) = some (.int .i64 ((rd_T41 l1 x5_1).f0)) ∧ w'.cell? ⟨(ad254.add ((x5_1).toNat * 3)).block, (ad254.add ((x5_1).toNat * 3)).off + 1, none⟩ = some (.slice A254_1 ((rd_T41 l1 x5_1).f1).length c254_1) ∧ w'.cell? ⟨(ad254.add ((x5_1).toNat * 3)).block, (ad254.add ((x5_1).toNat * 3)).off + 2, none⟩ = some (.slice A254_2 ((rd_T41 l1 x5_1).f2).length c254_2)) (ds := []) #[false, false, false, false, false, false, false, false, false, false] (by kernel_rfl) rfl rfl ⟨((HB.out.cell (World.block_lt_of_cell? w _ hw253_0)).trans hw253_0), ((HB.out.cell (World.block_lt_of_cell? w _ hw253_1)).trans hw253_1), ((HB.out.cell (World.block_lt_of_cell? w _ hw253_2)).trans hw253_2), ((HB.out.cell (World.block_lt_of_cell? w _ hw254_0)).trans hw254_0), ((HB.out.cell (World.block_lt_of_cell? w _ hw254_1)).trans hw254_1), ((HB.out.cell (World.block_lt_of_cell? w _ hw254_2)).trans hw254_2)⟩ (fun hHeld => ?_); refine with_tabW laws_eqColumnS.tab6 laws_eqColumnS.bits6 (fun HT_ HW_ => ?_)
        generalize wr.drew = w11 at HB HR253_1 HR253_2 HR254_1 HR254_2 hx253_0 hx253_1 hx253_2 hx254_0 hx254_1 hx254_2 hHeld ⊢
        refine puA (i := 0) (N := some 17) HT_.out ?_
        refine puA (i := 1) (N := some 18) HT_.out ?_
        refine puA (i := 2) (N := some 19) HT_.out ?_
        refine puA (i := 4) (N := some 21) HT_.out ?_
        refine puA (i := 5) (N := some 22) HT_.out ?_
        refine puA (i := 6) (N := some 23) HT_.out ?_
        refine tkA6 (i := 3) (N := some 20) HT_.out HW_.out hHeld ?_
        refine tkA6 (i := 7) (N := some 24) HT_.out HW_.out hHeld ?_
        refine onA (i := 8) (N := some 25) HT_.out (fun K hK => ?_)
        refine goes_ Try.func39 (by kernel_rfl) rfl #[.agg #[.int .i64 ((rd_T41 l0 x5_1).f0), .slice A253_1 ((rd_T41 l0 x5_1).f1).length c253_1, .slice A253_2 ((rd_T41 l0 x5_1).f2).length c253_2], .agg #[.int .i64 ((rd_T41 l1 x5_1).f0), .slice A254_1 ((rd_T41 l1 x5_1).f1).length c254_1, .slice A254_2 ((rd_T41 l1 x5_1).f2).length c254_2]] (by rfl) rfl rfl mapd ?_
        with_reducible refine (laws_eqColumn.calls k1 ((rd_T41 l0 x5_1).f0) _ _ ((rd_T41 l0 x5_1).f1) _ _ ((rd_T41 l0 x5_1).f2) ((rd_T41 l1 x5_1).f0) _ _ ((rd_T41 l1 x5_1).f1) _ _ ((rd_T41 l1 x5_1).f2) false _ ?side1 ?side2 ?side3 ?side4 ?side5 ?side6 ?side7 ?side8 A7.out).mono ?_
        (case side1 => exact cb (Kd.C_below HR253_1.out HB.out))
        (case side2 => exact HC253_1.out)
        (case side3 => exact cb (Kd.C_below HR253_2.out HB.out))
        (case side4 => exact HC253_2.out)
        (case side5 => exact cb (Kd.C_below HR254_1.out HB.out))
        (case side6 => exact HC254_1.out)
        (case side7 => exact cb (Kd.C_below HR254_2.out HB.out))
        (case side8 => exact HC254_2.out)
        rintro e w12 ⟨rfl, hb⟩
        refine ⟨_, rfl, ?_⟩
        replace HB := Aside0.mk (below_step (bl HB.out) hb)
        (try clear hb)
        (try clear hb2)
        (try clear hk)
        (try clear hi)
        refine hK.out _ _ ⟨((HB.out.cell (World.block_lt_of_cell? w _ hw253_0)).trans hw253_0), ((HB.out.cell (World.block_lt_of_cell? w _ hw253_1)).trans hw253_1), ((HB.out.cell (World.block_lt_of_cell? w _ hw253_2)).trans hw253_2), ((HB.out.cell (World.block_lt_of_cell? w _ hw254_0)).trans hw254_0), ((HB.out.cell (World.block_lt_of_cell? w _ hw254_1)).trans hw254_1), ((HB.out.cell (World.block_lt_of_cell? w _ hw254_2)).trans hw254_2)⟩ (fun hHeld => ?_)
        clear hK K
        refine norm_ (a' := ?_) ?_ ?_
        rotate_left
        ·show Act.put _ (some 25) _ = _
         simp only [Act.put, List.setIfInBounds_toArray, List.set_cons_zero, List.set_cons_succ, i64_w, i32_w]
         rfl
        refine puA (i := 9) (N := some 26) HT_.out ?_
        refine done_ (done_of HT_.out (by kernel_rfl)) ?_
        try go_wp2
        go_ret
        exact ⟨by first | rfl | (simp [errW_none, errW_some] <;> rfl) | (simp [*, errW_none, errW_some] <;> rfl), bl HB.out⟩
      ·rw [if_neg c6] at H
       exact absurd H (by simp)
     ·rw [if_neg c5] at H
      exact absurd H (by simp)
    ·rw [if_neg c4] at H
     have c4b0 : decide (x5_1 < (l0.length : Int)) = false := decide_eq_false c4
     clear c4
     obtain rfl := Option.some.inj H
     go_wp2
     go_ret
     exact ⟨by first | rfl | (simp [errW_none, errW_some] <;> rfl) | (simp [*, errW_none, errW_some] <;> rfl), bl HB.out⟩
 ·rw [if_neg c3] at H
  have c3b0 : ((l0.length : Int) == (l1.length : Int)) = false := beq_eq_false_iff_ne.mpr c3
  have c3b1 : ((l0.length : Int) != (l1.length : Int)) = true := bne_iff_ne.mpr c3
  have c3b2 : (l0.length == l1.length) = false := by first | simpa using c3 | (simp at c3 ⊢; omega)
  obtain rfl := Option.some.inj H
  go_enter Try.func20, Try.ntmps20
  go_wp2
  go_ret
  exact ⟨by first | rfl | (simp [errW_none, errW_some] <;> rfl) | (simp [*, errW_none, errW_some] <;> rfl), bl HB.out⟩
end Go.Proofs.Ytbpjidekjogfeaa.A

namespace Go.Proofs.Ytbpjidekjogfeaa.A
open Go.RowKit Go.Proofs.YtbpjidekjogfeaaW.PrintWords Go.Proofs.YtbpjidekjogfeaaW.PrintLast Go.Proofs.YtbpjidekjogfeaaW.PrintMore
attribute [local go_sem] max2_int min2_int max_two min_two max_three min_three max_four min_four   
set_option linter.unusedVariables false
set_option linter.unusedSimpArgs false
def idxP : List S98 → Int → Int → Int
 | [], _, _ => -1
 | b :: bs, p, i => if b.f2 = p then i else idxP bs p (i + 1)
end Go.Proofs.Ytbpjidekjogfeaa.A

namespace Go.Proofs.Ytbpjidekjogfeaa.A
open Go.RowKit Go.Proofs.YtbpjidekjogfeaaW.PrintWords Go.Proofs.YtbpjidekjogfeaaW.PrintLast Go.Proofs.YtbpjidekjogfeaaW.PrintMore
attribute [local go_sem] max2_int min2_int max_two min_two max_three min_three max_four min_four   
set_option linter.unusedVariables false
set_option linter.unusedSimpArgs false
def slices_Clone_int_int.f (l0 : List Int) : Option (List Int) := (some (([] : List Int) : List Int)).bind fun y349 => (if y349.length + l0.length < 17592186044416 then (some (y349 ++ l0)) else (none))
set_option maxHeartbeats 8000000 in
set_option maxRecDepth 100000 in
theorem slices_Clone_int_int.calls (A0 : Option Addr) (c0 : Nat) (l0 : List Int) (r : List Int) (w : World) (hr0 : Kd.C (Kd.int .i64) w A0 l0.length l0) (hc0 : l0.length ≤ c0) (h : slices_Clone_int_int.f l0 = some r) :
  Calls Try.prog 116 #[.slice A0 l0.length c0] w fun e w' => ∃ v0_ : Value, e = .returned (v0_) ∧ Kd.R (Kd.int .i64) 3 w' w.heap.size (fun _ => True) v0_ r ∧ Below w.heap.size w w' := by
 have heq_ := fun W => Go.Lib.run_eql_slice_nil (P := Try.prog) W 38 3 A0 l0.length c0 0 0 Try.underlying38
 by_cases hA_ : A0.isNone = true
 ·obtain rfl : A0 = none := by simpa using hA_
  obtain rfl : l0 = [] := by
   rcases l0 with _ | ⟨x, xs⟩
   ·rfl
   ·obtain ⟨ad, e, _⟩ := hr0.2.2 (by simp)
    cases e
  obtain rfl : r = [] := by
   have h2 := h
   simp [slices_Clone_int_int.f] at h2
   first | exact h2 | exact h2.symm
  clear hA_ h hr0 heq_
  have heq_ := fun W => Go.Lib.run_eql_slice_nil (P := Try.prog) W 38 3 none 0 c0 0 0 Try.underlying38
  show Calls _ _ #[.slice none 0 c0] w _
  go_enter Try.func116, Try.ntmps116
  go_wp2
  go_ret
  exact ⟨_, rfl, Kd.R_nil _ _ _ _ _, Below.refl _ _⟩
 replace hA_ : A0.isNone = false := Bool.eq_false_iff.mpr hA_
 have HR0 := Aside0.mk hr0
 have HC0 := Aside0.mk hc0
 clear hr0 hc0
 have HB := Aside0.mk (Below.refl w.heap.size w)
 have H : ((some (([] : List Int) : List Int)).bind fun y349 => (if y349.length + l0.length < 17592186044416 then (some (y349 ++ l0)) else (none))) = some r := h
 clear h
 obtain ⟨y349, hy349⟩ : ∃ y_ : List Int, y_ = (([] : List Int)) := ⟨_, rfl⟩
 replace H : (if y349.length + l0.length < 17592186044416 then (some (y349 ++ l0)) else (none)) = some r := by first | (rw [hy349]; with_reducible exact H) | (have H2_ := (Option.bind_some _ _).symm.trans H; rw [hy349]; with_reducible exact H2_) | (have H2_ := (Option.bind_some _ _).symm.trans H; with_reducible exact H2_) | with_reducible exact H | (rw [hy349]; exact H) | exact H
 have Ny349 := Aside0.mk hy349
 clear hy349
 by_cases c2 : y349.length + l0.length < 17592186044416
 ·rw [if_pos c2] at H
  have LMc2 := Aside0.mk c2
  clear c2
  obtain ⟨y352, hy352⟩ : ∃ y_ : List Int, y_ = (y349 ++ l0) := ⟨_, rfl⟩
  replace H : (some y352) = some r := by first | (rw [hy352]; with_reducible exact H) | (have H2_ := (Option.bind_some _ _).symm.trans H; rw [hy352]; with_reducible exact H2_) | (have H2_ := (Option.bind_some _ _).symm.trans H; with_reducible exact H2_) | with_reducible exact H | (rw [hy352]; exact H) | exact H
  have Ny352 := Aside0.mk hy352
  clear hy352
  obtain rfl := Option.some.inj H
  go_enter Try.func116, Try.ntmps116
  go_wp2_with (first | ((with_reducible refine gate_dst (N := 5) rfl ?_); refine Kd.R_lit (Kd.int .i64) _ 3 ?hg (N := 5) ?hd (xs := ([] : List Int)) (inner := []) (ok := fun _ => True) (okp := fun _ => True) ?hr ?hp (fun _ hk => hk) trivial (Below.refl _ _) (Nat.le_refl _) (by simp) ?_; (case hd => rfl); (case hg => rfl); (case hr => first | (go_simp; done) | (go_simp; rfl)); (case hp => exact (Reps.none _ _)); intro v350 w3 ho4 hb hg_ hnew_; clear hg_ hnew_; (first | rw [← Ny349.out] at ho4 | (simp only [Int.reduceToNat] at ho4; rw [← Ny349.out] at ho4)); have HO351 := Aside0.mk (Kd.R_lower ho4 (below_size (bl HB.out))); replace HB := Aside0.mk (below_step (bl HB.out) hb); clear hb ho4) | ((with_reducible refine gate_builtin (b := .append) (xs := #[.tmp 5, .tmp 6]) rfl ?_); at_builtin; refine Kd.R_append_rows (Kd.int .i64) (w0 := w) w.heap.size rfl (.tmp 5) (.tmp 6) 38 3 (.int .i64 0) 8 rfl Try.underlying38 info3 rfl (by decide) (by omega) v350 y349 l0 _ _ _ (fun _ => True) (fun _ => False) rfl rfl ?aO ?aR (fun _ _ h => h) (fun _ h => h.elim) ?aF ?aB ?aS ?aL ?_; (case aR => exact cb (Kd.C_below HR0.out HB.out)); (case aB => exact (bl HB.out)); (case aF => exact (fun _ _ => trivial)); (case aO => exact (rk HO351.out)); (case aS => exact (below_size (bl HB.out))); (case aL => have := LMc2.out; omega); intro v353 w5 ho hb hg hat; rw [← Ny352.out] at ho; replace HB := Aside0.mk (hb); have HO354 := Aside0.mk (ho); clear HO351; clear ho hb hg hat))
  go_ret
  exact ⟨_, by first | rfl | (simp [errW_none, errW_some] <;> rfl) | (simp [*, errW_none, errW_some] <;> rfl), rk HO354.out, bl HB.out⟩
 ·rw [if_neg c2] at H
  exact absurd H (by simp)
def impl_Box_117.f (l0 : List (S98)) : Option ((List (S98))) := (some (([] : List (S98)) : List (S98))).bind fun y355 => (if y355.length + l0.length < 4398046511104 then (some (y355 ++ l0)) else (none))
set_option maxHeartbeats 8000000 in
set_option maxRecDepth 100000 in
theorem impl_Box_117.calls (A0 : Option Addr) (c0 : Nat) (l0 : List (S98)) (r : List (S98)) (w : World) (hr0 : Kd.C k98 w A0 l0.length l0) (hc0 : l0.length ≤ c0) (h : impl_Box_117.f l0 = some r) :
  Calls Try.prog 117 #[.slice A0 l0.length c0] w fun e w' => ∃ v0_ : Value, e = .returned (v0_) ∧ Kd.R k98 98 w' w.heap.size (fun _ => True) v0_ r ∧ Below w.heap.size w w' := by
 have heq_ := fun W => Go.Lib.run_eql_slice_nil (P := Try.prog) W 39 98 A0 l0.length c0 0 0 Try.underlying39
 by_cases hA_ : A0.isNone = true
 ·obtain rfl : A0 = none := by simpa using hA_
  obtain rfl : l0 = [] := by
   rcases l0 with _ | ⟨x, xs⟩
   ·rfl
   ·obtain ⟨ad, e, _⟩ := hr0.2.2 (by simp)
    cases e
  obtain rfl : r = [] := by
   have h2 := h
   simp [impl_Box_117.f] at h2
   first | exact h2 | exact h2.symm
  clear hA_ h hr0 heq_
  have heq_ := fun W => Go.Lib.run_eql_slice_nil (P := Try.prog) W 39 98 none 0 c0 0 0 Try.underlying39
  show Calls _ _ #[.slice none 0 c0] w _
  go_enter Try.func117, Try.ntmps117
  go_wp2
  go_ret
  exact ⟨_, rfl, Kd.R_nil _ _ _ _ _, Below.refl _ _⟩
 replace hA_ : A0.isNone = false := Bool.eq_false_iff.mpr hA_
 have HR0 := Aside0.mk hr0
 have HC0 := Aside0.mk hc0
 clear hr0 hc0
 have HB := Aside0.mk (Below.refl w.heap.size w)
 have H : ((some (([] : List (S98)) : List (S98))).bind fun y355 => (if y355.length + l0.length < 4398046511104 then (some (y355 ++ l0)) else (none))) = some r := h
 clear h
 obtain ⟨y355, hy355⟩ : ∃ y_ : List (S98), y_ = (([] : List (S98))) := ⟨_, rfl⟩
 replace H : (if y355.length + l0.length < 4398046511104 then (some (y355 ++ l0)) else (none)) = some r := by first | (rw [hy355]; with_reducible exact H) | (have H2_ := (Option.bind_some _ _).symm.trans H; rw [hy355]; with_reducible exact H2_) | (have H2_ := (Option.bind_some _ _).symm.trans H; with_reducible exact H2_) | with_reducible exact H | (rw [hy355]; exact H) | exact H
 have Ny355 := Aside0.mk hy355
 clear hy355
 by_cases c2 : y355.length + l0.length < 4398046511104
 ·rw [if_pos c2] at H
  have LMc2 := Aside0.mk c2
  clear c2
  obtain ⟨y358, hy358⟩ : ∃ y_ : List (S98), y_ = (y355 ++ l0) := ⟨_, rfl⟩
  replace H : (some y358) = some r := by first | (rw [hy358]; with_reducible exact H) | (have H2_ := (Option.bind_some _ _).symm.trans H; rw [hy358]; with_reducible exact H2_) | (have H2_ := (Option.bind_some _ _).symm.trans H; with_reducible exact H2_) | with_reducible exact H | (rw [hy358]; exact H) | exact H
  have Ny358 := Aside0.mk hy358
  clear hy358
  obtain rfl := Option.some.inj H
  go_enter Try.func117, Try.ntmps117
  go_wp2_with (first | ((with_reducible refine gate_dst (N := 5) rfl ?_); refine Kd.R_lit k98 _ 98 ?hg (N := 5) ?hd (xs := ([] : List (S98))) (inner := []) (ok := fun _ => True) (okp := fun _ => True) ?hr ?hp (fun _ hk => hk) trivial (Below.refl _ _) (Nat.le_refl _) (by simp) ?_; (case hd => rfl); (case hg => rfl); (case hr => first | (go_simp; done) | (go_simp; rfl)); (case hp => exact (Reps.none _ _)); intro v356 w3 ho4 hb hg_ hnew_; clear hg_ hnew_; (first | rw [← Ny355.out] at ho4 | (simp only [Int.reduceToNat] at ho4; rw [← Ny355.out] at ho4)); have HO357 := Aside0.mk (Kd.R_lower ho4 (below_size (bl HB.out))); replace HB := Aside0.mk (below_step (bl HB.out) hb); clear hb ho4) | ((with_reducible refine gate_builtin (b := .append) (xs := #[.tmp 5, .tmp 6]) rfl ?_); at_builtin; refine Kd.R_append_rows k98 (w0 := w) w.heap.size rfl (.tmp 5) (.tmp 6) 39 98 (.agg #[(.int .i64 0), (.int .i64 0), (.int .i64 0), (.bool false)]) 32 rfl Try.underlying39 info98 rfl (by decide) (by omega) v356 y355 l0 _ _ _ (fun _ => True) (fun _ => False) rfl rfl ?aO ?aR (fun _ _ h => h) (fun _ h => h.elim) ?aF ?aB ?aS ?aL ?_; (case aR => exact cb (Kd.C_below HR0.out HB.out)); (case aB => exact (bl HB.out)); (case aF => exact (fun _ _ => trivial)); (case aO => exact (rk HO357.out)); (case aS => exact (below_size (bl HB.out))); (case aL => have := LMc2.out; omega); intro v359 w5 ho hb hg hat; rw [← Ny358.out] at ho; replace HB := Aside0.mk (hb); have HO360 := Aside0.mk (ho); clear HO357; clear ho hb hg hat))
  go_ret
  exact ⟨_, by first | rfl | (simp [errW_none, errW_some] <;> rfl) | (simp [*, errW_none, errW_some] <;> rfl), rk HO360.out, bl HB.out⟩
 ·rw [if_neg c2] at H
  exact absurd H (by simp)
def impl_copyColumn.f (a0_0 : Int) (l0_1 : List Int) (l0_2 : List (S98)) : Option (Int × List Int × (List (S98))) := (slices_Clone_int_int.f l0_1).bind fun t363 => ((impl_Box_117.f l0_2).bind fun t366 => (some (a0_0, t363, t366)))
def impl_copyColumn.T1 : Bool × List (List Nat × List Nat) := (true, [([], []), ([0], [0]), ([1], [1]), ([], []), ([3], [3]), ([4, 2], [4]), ([0, 1, 2, 3, 4], []), ([6, 2, 5, 0, 1, 2, 3, 4], [2, 6]), ([0, 1, 2, 3, 4, 5, 6, 7], []), ([8, 5, 7, 0, 1, 2, 3, 4, 5, 6, 7], [5, 8])])
def impl_copyColumn.B1 : List Nat := [0, 1, 3, 0, 8, 31, 31, 127, 255, 511]
theorem impl_copyColumn.tab1 : rtab .any (opsOf Try.f81 1) = impl_copyColumn.T1 := by kernel_rfl
theorem impl_copyColumn.bits1 : waitsOk impl_copyColumn.T1.2 impl_copyColumn.B1 = true := by kernel_rfl
set_option maxHeartbeats 8000000 in
set_option maxRecDepth 100000 in
theorem impl_copyColumn.calls (a0_0 : Int) (A0_1 : Option Addr) (c0_1 : Nat) (l0_1 : List Int) (A0_2 : Option Addr) (c0_2 : Nat) (l0_2 : List (S98)) (r1 : Int) (r2 : List Int) (r3 : List (S98)) (w : World) (hr0_1 : Kd.C (Kd.int .i64) w A0_1 l0_1.length l0_1) (hc0_1 : l0_1.length ≤ c0_1) (hr0_2 : Kd.C k98 w A0_2 l0_2.length l0_2) (hc0_2 : l0_2.length ≤ c0_2) (h : impl_copyColumn.f a0_0 l0_1 l0_2 = some (r1, r2, r3)) :
  Calls Try.prog 81 #[.agg #[.int .i64 a0_0, .slice A0_1 l0_1.length c0_1, .slice A0_2 l0_2.length c0_2]] w fun e w' => ∃ v1_ v2_ : Value, e = .returned (.agg #[.int .i64 r1, v1_, v2_]) ∧ Kd.R (Kd.int .i64) 3 w' w.heap.size (fun _ => True) v1_ r2 ∧ Kd.R k98 98 w' w.heap.size (fun _ => True) v2_ r3 ∧ Below w.heap.size w w' := by
 have hu41 := Try.underlying41
 have HR0_1 := Aside0.mk hr0_1
 have HC0_1 := Aside0.mk hc0_1
 clear hr0_1 hc0_1
 have HR0_2 := Aside0.mk hr0_2
 have HC0_2 := Aside0.mk hc0_2
 clear hr0_2 hc0_2
 have HB := Aside0.mk (Below.refl w.heap.size w)
 have H : ((slices_Clone_int_int.f l0_1).bind fun t363 => ((impl_Box_117.f l0_2).bind fun t366 => (some (a0_0, t363, t366)))) = some (r1, r2, r3) := h
 clear h
 replace H := Option.bind_eq_some_iff.mp H
 obtain ⟨t363, A20, H⟩ := H
 try dsimp only at H
 have A2 := Aside0.mk A20
 clear A20
 replace H := Option.bind_eq_some_iff.mp H
 obtain ⟨t366, A30, H⟩ := H
 try dsimp only at H
 have A3 := Aside0.mk A30
 clear A30
 simp only [Option.some.injEq, Prod.mk.injEq] at H
 obtain ⟨rfl, rfl, rfl⟩ := H
 go_enter Try.func81, Try.ntmps81
 try go_wp2_with (first | ((with_reducible refine gate_dst (N := 1) rfl ?_); refine bx (cs := #[.int .i64 a0_0, .slice A0_1 l0_1.length c0_1, .slice A0_2 l0_2.length c0_2]) (t := 41) fun gb361 hg w4 hbox hb => ?_; have BK361 := Aside0.mk (hbox); have GW361 := Aside0.mk (gs HB.out hg); have GE361 := Aside0.mk (gs HB.out hg); replace HB := Aside0.mk (below_step (bl HB.out) hb); clear hb hbox hg) | ((with_reducible refine gate_dst (N := 2) rfl ?_); refine bx (cs := #[.int .i64 0, .slice none 0 0, .slice none 0 0]) (t := 41) fun gb362 hg w5 hbox hb => ?_; have BK362 := Aside0.mk (hbox); have GW362 := Aside0.mk (gs HB.out hg); have GE362 := Aside0.mk (gs HB.out hg); replace HB := Aside0.mk (below_step (bl HB.out) hb); have NB361_362 := Aside0.mk ((nl BK361.out hg)); have NB362_361 := Aside0.mk ((ng BK361.out hg)); replace BK361 := Aside0.mk (bb BK361.out hb); clear hb hbox hg))
 replace BK361 := Aside0.mk (blk_drew BK361.out)
 replace BK362 := Aside0.mk (blk_drew BK362.out)
 replace HB := Aside0.mk (below_drew1 HB.out)
 refine start_ (n := 10) (S := fun w' => w'.cell? ⟨gb361, 0, none⟩ = some (.int .i64 a0_0) ∧ w'.cell? ⟨gb361, 1, none⟩ = some (.slice A0_1 l0_1.length c0_1) ∧ w'.cell? ⟨gb361, 2, none⟩ = some (.slice A0_2 l0_2.length c0_2)) (ds := [7, 9]) #[false, false, false, false, false, false, false, false, false, false] (by kernel_rfl) rfl rfl ⟨(blk_cell BK361.out 0).trans rfl, (blk_cell BK361.out 1).trans rfl, (blk_cell BK361.out 2).trans rfl⟩ (fun hHeld => ?_); refine with_tabW impl_copyColumn.tab1 impl_copyColumn.bits1 (fun HT_ HW_ => ?_)
 generalize w5.drew = w6 at BK361 BK362 HB hHeld ⊢
 refine puA (i := 0) (N := some 3) HT_.out ?_
 refine puA (i := 3) (N := some 6) HT_.out ?_
 refine tkA3 (i := 1) (N := some 4) HT_.out HW_.out hHeld ?_
 refine tkA3 (i := 4) (N := some 7) HT_.out HW_.out hHeld ?_
 refine onA (i := 2) (N := some 5) HT_.out (fun K hK => ?_)
 refine goes_ Try.func116 (by kernel_rfl) rfl #[.slice A0_1 l0_1.length c0_1] (by rfl) rfl rfl mapd ?_
 with_reducible refine (slices_Clone_int_int.calls _ _ l0_1 t363 _ ?side1 ?side2 A2.out).mono ?_
 (case side1 => exact cb (Kd.C_below HR0_1.out HB.out))
 (case side2 => exact HC0_1.out)
 rintro e w7 ⟨v364, rfl, ho0, hb⟩
 refine ⟨_, rfl, ?_⟩
 have HO365 := Aside0.mk (Kd.R_lower ho0 (below_size (bl HB.out)))
 replace BK361 := Aside0.mk (bb BK361.out hb)
 replace BK362 := Aside0.mk (bb BK362.out hb)
 replace HB := Aside0.mk (below_step (bl HB.out) hb)
 (try clear hb)
 (try clear hb2)
 (try clear hk)
 (try clear hi)
 (try clear ho0)
 refine hK.out _ _ ⟨(blk_cell BK361.out 0).trans rfl, (blk_cell BK361.out 1).trans rfl, (blk_cell BK361.out 2).trans rfl⟩ (fun hHeld => ?_)
 clear hK K
 refine norm_ (a' := ?_) ?_ ?_
 rotate_left
 ·show Act.put _ (some 5) _ = _
  simp only [Act.put, List.setIfInBounds_toArray, List.set_cons_zero, List.set_cons_succ, i64_w, i32_w]
  rfl
 refine puA (i := 6) (N := some 9) HT_.out ?_
 refine onA (i := 5) (N := some 8) HT_.out (fun K hK => ?_)
 refine goes_ Try.func117 (by kernel_rfl) rfl #[.slice A0_2 l0_2.length c0_2] (by rfl) rfl rfl mapd ?_
 with_reducible refine (impl_Box_117.calls _ _ l0_2 t366 _ ?side1 ?side2 A3.out).mono ?_
 (case side1 => exact cb (Kd.C_below HR0_2.out HB.out))
 (case side2 => exact HC0_2.out)
 rintro e w8 ⟨v367, rfl, ho0, hb⟩
 refine ⟨_, rfl, ?_⟩
 replace HO365 := Aside0.mk (Kd.R_below (rk HO365.out) hb)
 have HO368 := Aside0.mk (Kd.R_lower ho0 (below_size (bl HB.out)))
 replace BK361 := Aside0.mk (bb BK361.out hb)
 replace BK362 := Aside0.mk (bb BK362.out hb)
 replace HB := Aside0.mk (below_step (bl HB.out) hb)
 (try clear hb)
 (try clear hb2)
 (try clear hk)
 (try clear hi)
 (try clear ho0)
 obtain ⟨Ao9, co9, eo9⟩ := Kd.R_slice HO365.out
 (first | subst eo9 | (injection eo9 with f1_ f2_ f3_; have f4_ := f1_.symm; have f5_ := f3_.symm; clear f1_ f2_ f3_; subst f4_; subst f5_))
 obtain ⟨Ao11, co11, eo11⟩ := Kd.R_slice HO368.out
 (first | subst eo11 | (injection eo11 with f1_ f2_ f3_; have f4_ := f1_.symm; have f5_ := f3_.symm; clear f1_ f2_ f3_; subst f4_; subst f5_))
 refine hK.out _ _ ⟨(blk_cell BK361.out 0).trans rfl, (blk_cell BK361.out 1).trans rfl, (blk_cell BK361.out 2).trans rfl⟩ (fun hHeld => ?_)
 clear hK K
 refine norm_ (a' := ?_) ?_ ?_
 rotate_left
 ·show Act.put _ (some 8) _ = _
  simp only [Act.put, List.setIfInBounds_toArray, List.set_cons_zero, List.set_cons_succ, i64_w, i32_w]
  rfl
 refine last_ (i := 7) (N := none) #[true, true, true, true, true, true, true, true, false, false] rfl rfl (one_of HT_.out (by kernel_rfl)) (by decide) (fun K hK => ?_)
 have hs10 : w8.cell? ⟨gb361, 1, none⟩ = some (.slice A0_1 l0_1.length c0_1) := (blk_cell BK361.out 1).trans rfl
 have hfs10 := blk_frozen BK361.out 1
 have hns10_1 := NB362_361.out
 have hms10_1 := NB361_362.out
 refine skip_ (w1 := ?_) (by rfl) rfl ?_ ?_
 rotate_left
 ·go_simp
  rfl
 refine hK.out _ _ ?_
 clear hK K
 refine puA (i := 8) (N := some 10) HT_.out ?_
 refine last_ (i := 9) (N := none) #[true, true, true, true, true, true, true, true, true, true] rfl rfl (one_of HT_.out (by kernel_rfl)) (by decide) (fun K hK => ?_)
 have hs12 : w8.cell? ⟨gb361, 2, none⟩ = some (.slice A0_2 l0_2.length c0_2) := (blk_cell BK361.out 2).trans rfl
 have hfs12 := blk_frozen BK361.out 2
 have hns12_1 := NB362_361.out
 have hms12_1 := NB361_362.out
 refine skip_ (w1 := ?_) (by rfl) rfl ?_ ?_
 rotate_left
 ·go_simp
  rfl
 refine hK.out _ _ ?_
 clear hK K
 refine done_ (done_of HT_.out (by kernel_rfl)) ?_
 have hnb13 := NB361_362.out
 have hnc13 := NB362_361.out
 obtain ⟨hcz14_0, hcz14_1, hcz14_2, hfz14_0, hfz14_1, hfz14_2⟩ := cz3 BK361.out
 obtain ⟨hcz15_0, hcz15_1, hcz15_2, hfz15_0, hfz15_1, hfz15_2⟩ := cz3 BK362.out
 try go_wp2
 refine bodyPost_ret (results_cell_row rfl _ _ gb362 41 #[.int .i64 a0_0, .slice Ao9 t363.length co9, .slice Ao11 t366.length co11] (0, 0) _ rfl (by refine bk ?_; refine blk_put (cs := #[.int .i64 a0_0, .slice Ao9 t363.length co9, .slice none 0 0]) ?_ 2 _ rfl; refine bk ?_; refine blk_put (cs := #[.int .i64 a0_0, .slice none 0 0, .slice none 0 0]) ?_ 1 _ rfl; refine bk ?_; refine blk_put (cs := #[.int .i64 0, .slice none 0 0, .slice none 0 0]) ?_ 0 _ rfl; refine bk ?_; refine blk_far ?_ NB362_361.out _; refine bk ?_; refine blk_far ?_ NB362_361.out _; refine bk ?_; exact BK362.out) Try.underlying41 rfl (by kernel_rfl)) rfl ?_
 exact ⟨_, _, by first | rfl | (simp [errW_none, errW_some] <;> rfl) | (simp [*, errW_none, errW_some] <;> rfl), by refine rk ?_; exact Kd.R_mono (Kd.R_far (p := ⟨gb362, 2, none⟩) (Kd.R_far (p := ⟨gb362, 1, none⟩) (Kd.R_far (p := ⟨gb362, 0, none⟩) (Kd.R_far (p := ⟨gb361, 2, none⟩) (Kd.R_far (p := ⟨gb361, 1, none⟩) (Kd.R_types (Kd.R_types HO365.out BK361.out (by decide)) BK362.out (by decide)) (fun _ hk => hk.1.2) (.slice Ao9 t363.length co9)) (fun _ hk => hk.1.2) (.slice Ao11 t366.length co11)) (fun _ hk => hk.2) (.int .i64 a0_0)) (fun _ hk => hk.2) (.slice Ao9 t363.length co9)) (fun _ hk => hk.2) (.slice Ao11 t366.length co11)) (fun _ hk => trivial), by refine rk ?_; exact Kd.R_mono (Kd.R_far (p := ⟨gb362, 2, none⟩) (Kd.R_far (p := ⟨gb362, 1, none⟩) (Kd.R_far (p := ⟨gb362, 0, none⟩) (Kd.R_far (p := ⟨gb361, 2, none⟩) (Kd.R_far (p := ⟨gb361, 1, none⟩) (Kd.R_types (Kd.R_types HO368.out BK361.out (by decide)) BK362.out (by decide)) (fun _ hk => hk.1.2) (.slice Ao9 t363.length co9)) (fun _ hk => hk.1.2) (.slice Ao11 t366.length co11)) (fun _ hk => hk.2) (.int .i64 a0_0)) (fun _ hk => hk.2) (.slice Ao9 t363.length co9)) (fun _ hk => hk.2) (.slice Ao11 t366.length co11)) (fun _ hk => trivial), bl HB.out⟩
def impl_copyBank.l0 : Nat → List (S41) → List (S41) → Int → Int → Option ((List (S41)))
 | 0, _, _, _, _ => none
 | k + 1, x3, x6, x7, x8 => if x8 < x7 then (if 0 ≤ x8 then (if x8 < (x6.length : Int) then ((impl_copyColumn.f ((rd_T41 x6 x8).f0) ((rd_T41 x6 x8).f1) ((rd_T41 x6 x8).f2)).bind fun bt385 => (if x3.length < 2513169434916 then (impl_copyBank.l0 k (x3 ++ [(⟨bt385.1, bt385.2.1, bt385.2.2⟩ : S41)]) x6 x7 (wrap64 (x8 + 1))) else (none))) else (none)) else (none)) else (some x3)
def impl_copyBank.f (k : Nat) (l0 : List (S41)) : Option ((List (S41))) := impl_copyBank.l0 k ([] : List (S41)) l0 (l0.length : Int) 0
set_option maxHeartbeats 8000000 in
set_option maxRecDepth 100000 in
theorem impl_copyBank.calls (k : Nat) (A0 : Option Addr) (c0 : Nat) (l0 : List (S41)) (r : List (S41)) (w : World) (hr0 : Kd.C k41 w A0 l0.length l0) (hc0 : l0.length ≤ c0) (h : impl_copyBank.f k l0 = some r) :
  Calls Try.prog 72 #[.slice A0 l0.length c0] w fun e w' => ∃ v0_ : Value, e = .returned (v0_) ∧ Kd.S k41 41 w' w.heap.size (fun _ => True) v0_ r ∧ Below w.heap.size w w' := by
 have hu41 := Try.underlying41
 have HR0 := Aside0.mk hr0
 have HC0 := Aside0.mk hc0
 clear hr0 hc0
 have HB := Aside0.mk (Below.refl w.heap.size w)
 have H : (impl_copyBank.l0 k ([] : List (S41)) l0 (l0.length : Int) 0) = some r := h
 clear h
 have H' := Aside0.mk H
 clear H
 go_enter Try.func72, Try.ntmps72
 go_wp2
 go_loopg [3, 8] k (fun kq v3 v8 w' => ∃ (x3_1 : List (S41)) (x8_1 : Int), v8 = .int .i64 x8_1 ∧ Aside0 (impl_copyBank.l0 kq x3_1 l0 (l0.length : Int) x8_1 = some r) ∧ Aside0 (kq ≤ k) ∧ Aside0 (Kd.S k41 41 w' w.heap.size (fun _ => True) v3 x3_1) ∧ Aside0 (Below w.heap.size w w'))
 case atStart => exact ⟨(([] : List (S41))), (0), (by first | rfl | (simp; done) | (simp [*]; done)), H', ⟨Nat.le_refl _⟩, ⟨by first | exact Kd.S_nil _ _ _ _ _ | exact Kd.N_nil _ _ _ _ _ | exact Kd.V_nil _ _ _ _ _ | exact Kd.Q_nil _ _ _ _ _ | exact Kd.R_nil _ _ _ _ _⟩, ⟨bl HB.out⟩⟩
 case round =>
  clear H'
  obtain ⟨x3_1, x8_1, rfl, HA, HK1, HO_3, HB⟩ := hrel
  cases gk with
  | zero => exact absurd HA.out (by simp [impl_copyBank.l0])
  | succ k1 =>
   have H := HA.out
   clear HA
   simp only [impl_copyBank.l0] at H
   by_cases c2 : x8_1 < (l0.length : Int)
   ·rw [if_pos c2] at H
    have c2b0 : decide (x8_1 < (l0.length : Int)) = true := decide_eq_true c2
    clear c2
    by_cases c3 : 0 ≤ x8_1
    ·rw [if_pos c3] at H
     have c3b0 : decide (0 ≤ x8_1) = true := decide_eq_true c3
     clear c3
     by_cases c4 : x8_1 < (l0.length : Int)
     ·rw [if_pos c4] at H
      have c4b0 : decide (x8_1 < (l0.length : Int)) = true := decide_eq_true c4
      clear c4
      replace H := Option.bind_eq_some_iff.mp H
      obtain ⟨⟨t385, t386, t389⟩, A50, H⟩ := H
      try dsimp only at H
      have A5 := Aside0.mk A50
      clear A50
      by_cases c6 : x3_1.length < 2513169434916
      ·rw [if_pos c6] at H
       have LMc6 := Aside0.mk c6
       clear c6
       obtain ⟨y392, hy392⟩ : ∃ y_ : List (S41), y_ = (x3_1 ++ [(⟨t385, t386, t389⟩ : S41)]) := ⟨_, rfl⟩
       replace H : (impl_copyBank.l0 k1 y392 l0 (l0.length : Int) (wrap64 (x8_1 + 1))) = some r := by first | (rw [hy392]; with_reducible exact H) | (have H2_ := (Option.bind_some _ _).symm.trans H; rw [hy392]; with_reducible exact H2_) | (have H2_ := (Option.bind_some _ _).symm.trans H; with_reducible exact H2_) | with_reducible exact H | (rw [hy392]; exact H) | exact H
       have Ny392 := Aside0.mk hy392
       clear hy392
       have H' := Aside0.mk H
       clear H
       have p383 : 0 ≤ (x8_1 : Int) := of_decide_eq_true asm
       have q383 : x8_1 < (l0.length : Int) := of_decide_eq_true asm
       obtain ⟨ad383, A383_1, c383_1, A383_2, c383_2, e383, hx383_0, hx383_1, hx383_2, hl383_1, hi383_1, hl383_2, hi383_2⟩ := at_T41 HR0.out x8_1 p383 q383
       cases e383
       replace hx383_0 := (HB.out.cell (World.block_lt_of_cell? w _ hx383_0)).trans hx383_0
       replace hx383_1 := (HB.out.cell (World.block_lt_of_cell? w _ hx383_1)).trans hx383_1
       replace hx383_2 := (HB.out.cell (World.block_lt_of_cell? w _ hx383_2)).trans hx383_2
       have HR383_1 := Aside0.mk hi383_1
       have HC383_1 := Aside0.mk hl383_1
       clear hi383_1 hl383_1
       have HR383_2 := Aside0.mk hi383_2
       have HC383_2 := Aside0.mk hl383_2
       clear hi383_2 hl383_2
       replace p383 := eq_true p383
       replace q383 := eq_true q383
       go_wp2_with (first | ((with_reducible refine gate_dst (N := 5) rfl ?_); refine bx (cs := #[.int .i64 0, .slice none 0 0, .slice none 0 0]) (t := 41) fun gb384 hg w7 hbox hb => ?_; replace HO_3 := Aside0.mk (Kd.S_below (Kd.S_elderB (by (with_reducible repeat (first | apply Kd.S_alloc | apply Kd.S_drewN | apply Kd.S_drew)); exact HO_3.out) gb384 (Nat.le_of_eq hg.symm)) hb); have BK384 := Aside0.mk (hbox); have GW384 := Aside0.mk (gs HB.out hg); have GE384 := Aside0.mk (gs HB.out hg); replace HB := Aside0.mk (below_step (bl HB.out) hb); clear hb hbox hg; obtain ⟨hcz8_0, hcz8_1, hcz8_2, hfz8_0, hfz8_1, hfz8_2⟩ := cz3 BK384.out) | ((with_reducible refine gate_callee (f := 81) rfl ?_); refine goesL_ (some 14) rfl rfl Try.func81 (by kernel_rfl) rfl #[.agg #[.int .i64 ((rd_T41 l0 x8_1).f0), .slice A383_1 ((rd_T41 l0 x8_1).f1).length c383_1, .slice A383_2 ((rd_T41 l0 x8_1).f2).length c383_2]] rfl mapd ?_; (with_reducible refine (impl_copyColumn.calls ((rd_T41 l0 x8_1).f0) _ _ ((rd_T41 l0 x8_1).f1) _ _ ((rd_T41 l0 x8_1).f2) t385 t386 t389 _ ?side1 ?side2 ?side3 ?side4 A5.out).mono ?_); (case side1 => exact Kd.C_below HR383_1.out (bl HB.out)); (case side2 => exact HC383_1.out); (case side3 => exact Kd.C_below HR383_2.out (bl HB.out)); (case side4 => exact HC383_2.out); rintro e w9 ⟨v387, v390, rfl, ho0, ho1, hb⟩; refine ⟨_, rfl, ?_⟩; replace HO_3 := Aside0.mk (Kd.S_mono (Kd.S_told (Kd.S_told (Kd.S_old (by (with_reducible repeat (first | apply Kd.S_alloc | apply Kd.S_drewN | apply Kd.S_drew)); exact (Kd.S_mono (Kd.S_far (p := ⟨gb384, 2, none⟩) (Kd.S_far (p := ⟨gb384, 1, none⟩) (Kd.S_far (p := ⟨gb384, 0, none⟩) (Kd.S_mono HO_3.out (fun k_ hk => (⟨hk, hk.2⟩ : _ ∧ k_ ≠ gb384))) (fun _ hk => hk.2) (.int .i64 ((rd_T41 l0 x8_1).f0))) (fun _ hk => hk.2) (.slice A383_1 ((rd_T41 l0 x8_1).f1).length c383_1)) (fun _ hk => hk.2) (.slice A383_2 ((rd_T41 l0 x8_1).f2).length c383_2)) (fun _ h_ => h_.1))) hb) (Kd.R_base ho0)) (Kd.R_base ho1)) (fun _ h_ => h_.1)); have HO388 := Aside0.mk (Kd.R_lower ho0 (below_size (bl HB.out))); have HO391 := Aside0.mk (Kd.R_lower ho1 (below_size (bl HB.out))); replace BK384 := Aside0.mk (blk_below (g := gb384) (o := .cells #[.int .i64 ((rd_T41 l0 x8_1).f0), .slice A383_1 ((rd_T41 l0 x8_1).f1).length c383_1, .slice A383_2 ((rd_T41 l0 x8_1).f2).length c383_2] 41 (0, 0)) (by refine bk ?_; refine blk_put (cs := #[.int .i64 ((rd_T41 l0 x8_1).f0), .slice A383_1 ((rd_T41 l0 x8_1).f1).length c383_1, .slice none 0 0]) ?_ 2 _ rfl; refine bk ?_; refine blk_put (cs := #[.int .i64 ((rd_T41 l0 x8_1).f0), .slice none 0 0, .slice none 0 0]) ?_ 1 _ rfl; refine bk ?_; refine blk_put (cs := #[.int .i64 0, .slice none 0 0, .slice none 0 0]) ?_ 0 _ rfl; refine bk ?_; exact BK384.out) hb); replace HB := Aside0.mk (below_step (bl HB.out) hb); (try clear hb); (try clear hb2); (try clear hk); (try clear hi); (try clear ho0); (try clear ho1); obtain ⟨Ao11, co11, eo11⟩ := Kd.R_slice HO388.out; subst eo11; obtain ⟨Ao12, co12, eo12⟩ := Kd.R_slice HO391.out; subst eo12) | ((with_reducible refine gate_builtin (b := .append) (xs := #[.tmp 12, .tmp 15]) rfl ?_); at_builtin; refine Kd.S_append k41 (w0 := w) w.heap.size rfl (.tmp 12) (.tmp 15) 26 41 (.agg #[(.int .i64 0), (.slice none 0 0), (.slice none 0 0)]) 56 rfl Try.underlying26 info41 rfl (by decide) (by omega) u3 x3_1 (⟨t385, t386, t389⟩ : S41) [.int .i64 t385, .slice Ao11 t386.length co11, .slice Ao12 t389.length co12] (fun k_ => k_ ≠ gb384) (fun k_ => some k_ = (.slice Ao11 t386.length co11 : Value).ownBlock ∨ some k_ = (.slice Ao12 t389.length co12 : Value).ownBlock) rfl rfl ?aP (fun k_ hk_ => hk_.elim (fun h_ => ((Kd.R_mono (ok' := fun k_ => ((fun k_ => k_ ≠ gb384)) k_ ∧ some k_ ≠ (u3 : Value).ownBlock) (Kd.R_types (Kd.R_apart' (HO388.out) (Kd.S_typed HO_3.out) (by decide)) BK384.out (by decide)) (fun k_ hk => ⟨hk.2, hk.1.2⟩))).1 k_ h_.symm) (fun h_ => ((Kd.R_mono (ok' := fun k_ => ((fun k_ => k_ ≠ gb384)) k_ ∧ some k_ ≠ (u3 : Value).ownBlock) (Kd.R_types (Kd.R_apart' (HO391.out) (Kd.S_typed HO_3.out) (by decide)) BK384.out (by decide)) (fun k_ hk => ⟨hk.2, hk.1.2⟩))).1 k_ h_.symm)) ?aF ?aO ?aB ?aS ?aL ?_; (case aP => exact k41_mkM _ _ _ (⟨t385, t386, t389⟩ : S41) (Kd.R_mono (Kd.R_tight rfl (Kd.R_mono (ok' := fun k_ => ((fun k_ => k_ ≠ gb384)) k_ ∧ some k_ ≠ (u3 : Value).ownBlock) (Kd.R_types (Kd.R_apart' (HO388.out) (Kd.S_typed HO_3.out) (by decide)) BK384.out (by decide)) (fun k_ hk => ⟨hk.2, hk.1.2⟩))) (fun _ h_ => Or.inl h_)) (Kd.R_mono (Kd.R_tight rfl (Kd.R_mono (ok' := fun k_ => ((fun k_ => k_ ≠ gb384)) k_ ∧ some k_ ≠ (u3 : Value).ownBlock) (Kd.R_types (Kd.R_apart' (HO391.out) (Kd.S_typed HO_3.out) (by decide)) BK384.out (by decide)) (fun k_ hk => ⟨hk.2, hk.1.2⟩))) (fun _ h_ => Or.inr (h_)))); (case aB => exact (bl HB.out)); (case aF => exact (fun k_ hk => Kd.freshB (g := gb384) (o := .cells #[.int .i64 ((rd_T41 l0 x8_1).f0), .slice A383_1 ((rd_T41 l0 x8_1).f1).length c383_1, .slice A383_2 ((rd_T41 l0 x8_1).f2).length c383_2] 41 (0, 0)) (bk BK384.out) k_ hk)); (case aO => exact (by (with_reducible repeat (first | apply Kd.S_alloc | apply Kd.S_drewN | apply Kd.S_drew)); exact Kd.S_mono HO_3.out (fun k_ hk => ⟨hk.1.1.2, fun e_ => e_.elim (fun h_ => hk.1.2 h_) (fun h_ => hk.2 h_)⟩))); (case aS => exact (below_size (bl HB.out))); (case aL => have := LMc6.out; omega); intro v393 w10 ho hb hg hat; rw [← Ny392.out] at ho; replace BK384 := Aside0.mk (blk_grown (g := gb384) (o := .cells #[.int .i64 ((rd_T41 l0 x8_1).f0), .slice A383_1 ((rd_T41 l0 x8_1).f1).length c383_1, .slice A383_2 ((rd_T41 l0 x8_1).f2).length c383_2] 41 (0, 0)) (bk BK384.out) hg (Kd.S_away HO_3.out (fun _ hk => hk.1.1.2))); replace HB := Aside0.mk (hb); have HO394 := Aside0.mk (ho); clear HO_3 HO388 HO391; clear ho hb hg hat))
       go_roundg k1
       case measure => have := HK1.out; omega
       case rel => exact ⟨(y392), (wrap64 (x8_1 + 1)), (by first | rfl | (simp; done) | (simp [*]; done)), H', ⟨by have := HK1.out; omega⟩, ⟨by (with_reducible repeat (first | apply Kd.S_alloc | apply Kd.S_drewN | apply Kd.S_drew)); exact Kd.S_mono HO394.out (fun _ hk => trivial)⟩, ⟨bl HB.out⟩⟩
      ·rw [if_neg c6] at H
       exact absurd H (by simp)
     ·rw [if_neg c4] at H
      exact absurd H (by simp)
    ·rw [if_neg c3] at H
     exact absurd H (by simp)
   ·rw [if_neg c2] at H
    have c2b0 : decide (x8_1 < (l0.length : Int)) = false := decide_eq_false c2
    clear c2
    obtain rfl := Option.some.inj H
    go_wp2
    go_ret
    exact ⟨_, by first | rfl | (simp [errW_none, errW_some] <;> rfl) | (simp [*, errW_none, errW_some] <;> rfl), by (with_reducible repeat (first | apply Kd.S_alloc | apply Kd.S_drewN | apply Kd.S_drew)); exact HO_3.out, bl HB.out⟩
end Go.Proofs.Ytbpjidekjogfeaa.A

namespace Go.Proofs.Ytbpjidekjogfeaa.A
open Go.RowKit Go.Proofs.YtbpjidekjogfeaaW.PrintWords Go.Proofs.YtbpjidekjogfeaaW.PrintLast Go.Proofs.YtbpjidekjogfeaaW.PrintMore
attribute [local go_sem] max2_int min2_int max_two min_two max_three min_three max_four min_four   
set_option linter.unusedVariables false
set_option linter.unusedSimpArgs false
def IsS116 (w0 W : World) (g : Nat) (f0 : List Int) (f1 : Int) (f2 : Int) : Prop := ∃ A0 c0, W.heap[g]? = some (.cells #[.slice A0 f0.length c0, .int .i64 f1, .int .i64 f2] 116 (0, 0)) ∧ w0.heap.size ≤ g ∧ Kd.C (Kd.int .u8) w0 A0 f0.length f0
theorem IsS116.grown {w0 W : World} {g : Nat} {f0 : List Int} {f1 : Int} {f2 : Int} {W1 : World} {row : Option Nat} (h : IsS116 w0 W g f0 f1 f2) (hw : W.grownBy W1 row) (hne : some g ≠ row) : IsS116 w0 W1 g f0 f1 f2 := by
 obtain ⟨A0, c0, hb, hg, hr0⟩ := h
 exact ⟨A0, c0, blk_grown hb hw hne, hg, hr0⟩
theorem IsS116.kept {w0 W : World} {g : Nat} {f0 : List Int} {f1 : Int} {f2 : Int} {W1 : World} {S : Nat → Prop} (h : IsS116 w0 W g f0 f1 f2) (hk : Kept W W1 S) (hne : ¬ S g) : IsS116 w0 W1 g f0 f1 f2 := by
 obtain ⟨A0, c0, hb, hg, hr0⟩ := h
 exact ⟨A0, c0, blk_kept hb hk hne, hg, hr0⟩
theorem IsS116.below {w0 W : World} {g : Nat} {f0 : List Int} {f1 : Int} {f2 : Int} {W1 : World} (h : IsS116 w0 W g f0 f1 f2) (hw : Below W.heap.size W W1) : IsS116 w0 W1 g f0 f1 f2 := h.grown (grown_of_below hw none) (by simp)
theorem IsS116.alloc {w0 W : World} {g : Nat} {f0 : List Int} {f1 : Int} {f2 : Int} (h : IsS116 w0 W g f0 f1 f2) (o : Obj) : IsS116 w0 (W.alloc o) g f0 f1 f2 := h.below (below_alloc (Below.refl _ _) o)
theorem IsS116.drewN {w0 W : World} {g : Nat} {f0 : List Int} {f1 : Int} {f2 : Int} (h : IsS116 w0 W g f0 f1 f2) (m : Nat) : IsS116 w0 (W.drewN m) g f0 f1 f2 := h
theorem IsS116.drew {w0 W : World} {g : Nat} {f0 : List Int} {f1 : Int} {f2 : Int} (h : IsS116 w0 W g f0 f1 f2) : IsS116 w0 W.drew g f0 f1 f2 := h
theorem IsS116.at_ {w0 W : World} {g : Nat} {f0 : List Int} {f1 : Int} {f2 : Int} {w' : World} {m : Nat} (hq : W.drewN m = w') (h : IsS116 w0 W g f0 f1 f2) : IsS116 w0 w' g f0 f1 f2 := by subst hq; exact IsS116.drewN h m
theorem IsS116.apart {w0 W : World} {g : Nat} {f0 : List Int} {f1 : Int} {f2 : Int} {α : Type} {d : Kd α} {e : Nat} {base : Nat} {ok : Nat → Prop} {v : Value} {xs : List α} (h : IsS116 w0 W g f0 f1 f2) (ho : d.R e W base ok v xs) (ht : ∀ q, q ∈ e :: d.E → q ≠ 116) : d.R e W base (fun k => ok k ∧ k ≠ g) v xs := by
 obtain ⟨A0, c0, hb, hg, hr0⟩ := h
 exact Kd.R_types ho hb ht
theorem IsS116.own_ne {w0 W : World} {g : Nat} {f0 : List Int} {f1 : Int} {f2 : Int} {α : Type} {d : Kd α} {e : Nat} {base : Nat} {ok : Nat → Prop} {v : Value} {xs : List α} (h : IsS116 w0 W g f0 f1 f2) (ho : d.R e W base ok v xs) (ht : e ≠ 116) : some g ≠ v.ownBlock := by
 obtain ⟨A0, c0, hb, hg, hr0⟩ := h
 exact Kd.R_ne ho hb ht
theorem IsS116.lt {w0 W : World} {g : Nat} {f0 : List Int} {f1 : Int} {f2 : Int} (h : IsS116 w0 W g f0 f1 f2) : g < W.heap.size := by
 obtain ⟨A0, c0, hb, hg, hr0⟩ := h
 exact blk_lt hb
theorem IsS116.ge {w0 W : World} {g : Nat} {f0 : List Int} {f1 : Int} {f2 : Int} (h : IsS116 w0 W g f0 f1 f2) : w0.heap.size ≤ g := by
 obtain ⟨A0, c0, hb, hg, hr0⟩ := h
 exact hg
theorem IsS116.far {w0 W : World} {g : Nat} {f0 : List Int} {f1 : Int} {f2 : Int} {p : Addr} (h : IsS116 w0 W g f0 f1 f2) (hne : g ≠ p.block) (u : Value) : IsS116 w0 (W.setCell p u) g f0 f1 f2 := by
 obtain ⟨A0, c0, hb, hg, hr0⟩ := h
 exact ⟨A0, c0, blk_far hb hne u, hg, hr0⟩
theorem IsS116.set_1 {w0 W : World} {g : Nat} {f0 : List Int} {f1 : Int} {f2 : Int} (h : IsS116 w0 W g f0 f1 f2) (x : Int) : IsS116 w0 (W.setCell ⟨g, 1, none⟩ (.int .i64 x)) g f0 x f2 := by
 obtain ⟨A0, c0, hb, hg, hr0⟩ := h
 exact ⟨A0, c0, by simpa using blk_set hb 1 (.int .i64 x), hg, hr0⟩
theorem IsS116.set_2 {w0 W : World} {g : Nat} {f0 : List Int} {f1 : Int} {f2 : Int} (h : IsS116 w0 W g f0 f1 f2) (x : Int) : IsS116 w0 (W.setCell ⟨g, 2, none⟩ (.int .i64 x)) g f0 f1 x := by
 obtain ⟨A0, c0, hb, hg, hr0⟩ := h
 exact ⟨A0, c0, by simpa using blk_set hb 2 (.int .i64 x), hg, hr0⟩
theorem IsS116.new (w0 W : World) (A0 : Option Addr) (c0 : Nat) (f0 : List Int) (f1 : Int) (f2 : Int) (hB : Below w0.heap.size w0 W) (hr0 : Kd.C (Kd.int .u8) w0 A0 f0.length f0) : IsS116 w0 (W.alloc (.cells #[.slice A0 f0.length c0, .int .i64 f1, .int .i64 f2] 116)) W.heap.size f0 f1 f2 := ⟨A0, c0, by simpa using heap_alloc_new W _, hB.size, hr0⟩
end Go.Proofs.Ytbpjidekjogfeaa.A

namespace Go.Proofs.Ytbpjidekjogfeaa.A
open Go.RowKit Go.Proofs.YtbpjidekjogfeaaW.PrintWords Go.Proofs.YtbpjidekjogfeaaW.PrintLast Go.Proofs.YtbpjidekjogfeaaW.PrintMore
attribute [local go_sem] max2_int min2_int max_two min_two max_three min_three max_four min_four   
set_option linter.unusedVariables false
set_option linter.unusedSimpArgs false
def spec_l02Least.l0 : Nat → List (S50) → Int → Int → Int → Option (Int)
 | 0, _, _, _, _ => none
 | k + 1, x0, x1, x5, x6 => if x6 < (x0.length : Int) then (if 0 ≤ x6 then (if ((rd_T50 x0 x6).f2) ≥ x1 then (if x5 < 0 then (spec_l02Least.l0 k x0 x1 x6 (wrap64 (x6 + 1))) else (if 0 ≤ x5 then (if x5 < (x0.length : Int) then (if ((rd_T50 x0 x6).f2) < ((rd_T50 x0 x5).f2) then (spec_l02Least.l0 k x0 x1 x6 (wrap64 (x6 + 1))) else (spec_l02Least.l0 k x0 x1 x5 (wrap64 (x6 + 1)))) else (none)) else (none))) else (spec_l02Least.l0 k x0 x1 x5 (wrap64 (x6 + 1)))) else (none)) else (some x5)
def spec_l02Least.f (k : Nat) (l0 : List (S50)) (a1 : Int) : Option (Int) := spec_l02Least.l0 k l0 a1 (-1) 0
set_option maxHeartbeats 8000000 in
set_option maxRecDepth 100000 in
theorem spec_l02Least.calls (k : Nat) (A0 : Option Addr) (c0 : Nat) (l0 : List (S50)) (a1 : Int) (r : Int) (w : World) (hr0 : Kd.C k50 w A0 l0.length l0) (hc0 : l0.length ≤ c0) (h : spec_l02Least.f k l0 a1 = some r) :
  Calls Try.prog 99 #[.slice A0 l0.length c0, .int .i64 a1] w fun e w' => e = .returned (.int .i64 r) ∧ Drawn0 w w' := by
 have HR0 := Aside0.mk hr0
 have HC0 := Aside0.mk hc0
 clear hr0 hc0
 have H : (spec_l02Least.l0 k l0 a1 (-1) 0) = some r := h
 clear h
 have H' := Aside0.mk H
 clear H
 go_enter Try.func99, Try.ntmps99
 go_wp2
 repeat (go_quiet (fail); try go_wp2)
 go_loopg [5, 6] k (fun kq v5 v6 w' => ∃ (x5_1 : Int) (x6_1 : Int), v5 = .int .i64 x5_1 ∧ v6 = .int .i64 x6_1 ∧ Aside0 (spec_l02Least.l0 kq l0 a1 x5_1 x6_1 = some r) ∧ Aside0 (kq ≤ k) ∧ Drawn0 w w')
 case atStart => exact ⟨((-1)), (0), (by first | rfl | (simp; done) | (simp [*]; done)), (by first | rfl | (simp; done) | (simp [*]; done)), H', ⟨Nat.le_refl _⟩, by repeat (first | exact Drawn0.refl _ | apply Drawn0.step)⟩
 case round =>
  clear H'
  try clear p2
  obtain ⟨x5_1, x6_1, rfl, rfl, HA, HK1, ⟨m1, rfl⟩⟩ := hrel
  cases gk with
  | zero => exact absurd HA.out (by simp [spec_l02Least.l0])
  | succ k1 =>
   have H := HA.out
   clear HA
   simp only [spec_l02Least.l0] at H
   by_cases c3 : x6_1 < (l0.length : Int)
   ·rw [if_pos c3] at H
    have c3b0 : decide (x6_1 < (l0.length : Int)) = true := decide_eq_true c3
    clear c3
    by_cases c4 : 0 ≤ x6_1
    ·rw [if_pos c4] at H
     have c4b0 : decide (0 ≤ x6_1) = true := decide_eq_true c4
     clear c4
     by_cases c5 : ((rd_T50 l0 x6_1).f2) ≥ a1
     ·rw [if_pos c5] at H
      have c5b0 : decide (a1 ≤ ((rd_T50 l0 x6_1).f2)) = true := decide_eq_true c5
      clear c5
      by_cases c6 : x5_1 < 0
      ·rw [if_pos c6] at H
       have c6b0 : decide (x5_1 < 0) = true := decide_eq_true c6
       clear c6
       have H' := Aside0.mk H
       clear H
       have p464 : 0 ≤ (x6_1 : Int) := of_decide_eq_true asm
       have q464 : x6_1 < (l0.length : Int) := of_decide_eq_true asm
       obtain ⟨ad464, e464, hx464_0, hx464_1, hx464_2⟩ := at_T50 HR0.out x6_1 p464 q464
       cases e464
       replace p464 := eq_true p464
       replace q464 := eq_true q464
       go_wp2
       repeat (go_quiet (fail); try go_wp2)
       go_roundg k1
       case measure => have := HK1.out; omega
       case rel => exact ⟨(x6_1), (wrap64 (x6_1 + 1)), (by first | rfl | (simp; done) | (simp [*]; done)), (by first | rfl | (simp; done) | (simp [*]; done)), H', ⟨by have := HK1.out; omega⟩, by repeat (first | exact Drawn0.refl _ | apply Drawn0.step)⟩
      ·rw [if_neg c6] at H
       have c6b0 : decide (x5_1 < 0) = false := decide_eq_false c6
       clear c6
       by_cases c7 : 0 ≤ x5_1
       ·rw [if_pos c7] at H
        have c7b0 : decide (0 ≤ x5_1) = true := decide_eq_true c7
        clear c7
        by_cases c8 : x5_1 < (l0.length : Int)
        ·rw [if_pos c8] at H
         have c8b0 : decide (x5_1 < (l0.length : Int)) = true := decide_eq_true c8
         clear c8
         by_cases c9 : ((rd_T50 l0 x6_1).f2) < ((rd_T50 l0 x5_1).f2)
         ·rw [if_pos c9] at H
          have c9b0 : decide (((rd_T50 l0 x6_1).f2) < ((rd_T50 l0 x5_1).f2)) = true := decide_eq_true c9
          clear c9
          have H' := Aside0.mk H
          clear H
          have p464 : 0 ≤ (x6_1 : Int) := of_decide_eq_true asm
          have q464 : x6_1 < (l0.length : Int) := of_decide_eq_true asm
          obtain ⟨ad464, e464, hx464_0, hx464_1, hx464_2⟩ := at_T50 HR0.out x6_1 p464 q464
          cases e464
          replace p464 := eq_true p464
          replace q464 := eq_true q464
          have p465 : 0 ≤ (x6_1 : Int) := of_decide_eq_true asm
          have q465 : x6_1 < (l0.length : Int) := of_decide_eq_true asm
          obtain ⟨ad465, e465, hx465_0, hx465_1, hx465_2⟩ := at_T50 HR0.out x6_1 p465 q465
          obtain rfl : ad464 = ad465 := (by injection e465)
          replace p465 := eq_true p465
          replace q465 := eq_true q465
          have p466 : 0 ≤ (x5_1 : Int) := of_decide_eq_true asm
          have q466 : x5_1 < (l0.length : Int) := of_decide_eq_true asm
          obtain ⟨ad466, e466, hx466_0, hx466_1, hx466_2⟩ := at_T50 HR0.out x5_1 p466 q466
          obtain rfl : ad464 = ad466 := (by injection e466)
          replace p466 := eq_true p466
          replace q466 := eq_true q466
          go_wp2
          repeat (go_quiet (fail); try go_wp2)
          go_roundg k1
          case measure => have := HK1.out; omega
          case rel => exact ⟨(x6_1), (wrap64 (x6_1 + 1)), (by first | rfl | (simp; done) | (simp [*]; done)), (by first | rfl | (simp; done) | (simp [*]; done)), H', ⟨by have := HK1.out; omega⟩, by repeat (first | exact Drawn0.refl _ | apply Drawn0.step)⟩
         ·rw [if_neg c9] at H
          have c9b0 : decide (((rd_T50 l0 x6_1).f2) < ((rd_T50 l0 x5_1).f2)) = false := decide_eq_false c9
          clear c9
          have H' := Aside0.mk H
          clear H
          have p464 : 0 ≤ (x6_1 : Int) := of_decide_eq_true asm
          have q464 : x6_1 < (l0.length : Int) := of_decide_eq_true asm
          obtain ⟨ad464, e464, hx464_0, hx464_1, hx464_2⟩ := at_T50 HR0.out x6_1 p464 q464
          cases e464
          replace p464 := eq_true p464
          replace q464 := eq_true q464
          have p465 : 0 ≤ (x6_1 : Int) := of_decide_eq_true asm
          have q465 : x6_1 < (l0.length : Int) := of_decide_eq_true asm
          obtain ⟨ad465, e465, hx465_0, hx465_1, hx465_2⟩ := at_T50 HR0.out x6_1 p465 q465
          obtain rfl : ad464 = ad465 := (by injection e465)
          replace p465 := eq_true p465
          replace q465 := eq_true q465
          have p466 : 0 ≤ (x5_1 : Int) := of_decide_eq_true asm
          have q466 : x5_1 < (l0.length : Int) := of_decide_eq_true asm
          obtain ⟨ad466, e466, hx466_0, hx466_1, hx466_2⟩ := at_T50 HR0.out x5_1 p466 q466
          obtain rfl : ad464 = ad466 := (by injection e466)
          replace p466 := eq_true p466
          replace q466 := eq_true q466
          go_wp2
          repeat (go_quiet (fail); try go_wp2)
          go_roundg k1
          case measure => have := HK1.out; omega
          case rel => exact ⟨(x5_1), (wrap64 (x6_1 + 1)), (by first | rfl | (simp; done) | (simp [*]; done)), (by first | rfl | (simp; done) | (simp [*]; done)), H', ⟨by have := HK1.out; omega⟩, by repeat (first | exact Drawn0.refl _ | apply Drawn0.step)⟩
        ·rw [if_neg c8] at H
         exact absurd H (by simp)
       ·rw [if_neg c7] at H
        exact absurd H (by simp)
     ·rw [if_neg c5] at H
      have c5b0 : decide (a1 ≤ ((rd_T50 l0 x6_1).f2)) = false := decide_eq_false c5
      clear c5
      have H' := Aside0.mk H
      clear H
      have p464 : 0 ≤ (x6_1 : Int) := of_decide_eq_true asm
      have q464 : x6_1 < (l0.length : Int) := of_decide_eq_true asm
      obtain ⟨ad464, e464, hx464_0, hx464_1, hx464_2⟩ := at_T50 HR0.out x6_1 p464 q464
      cases e464
      replace p464 := eq_true p464
      replace q464 := eq_true q464
      go_wp2
      repeat (go_quiet (fail); try go_wp2)
      go_roundg k1
      case measure => have := HK1.out; omega
      case rel => exact ⟨(x5_1), (wrap64 (x6_1 + 1)), (by first | rfl | (simp; done) | (simp [*]; done)), (by first | rfl | (simp; done) | (simp [*]; done)), H', ⟨by have := HK1.out; omega⟩, by repeat (first | exact Drawn0.refl _ | apply Drawn0.step)⟩
    ·rw [if_neg c4] at H
     exact absurd H (by simp)
   ·rw [if_neg c3] at H
    have c3b0 : decide (x6_1 < (l0.length : Int)) = false := decide_eq_false c3
    clear c3
    obtain rfl := Option.some.inj H
    go_wp2
    repeat (go_quiet (fail); try go_wp2)
    go_ret
    exact ⟨by first | rfl | (simp; done) | (simp [*]; done), by repeat (first | exact Drawn0.refl _ | apply Drawn0.step)⟩
end Go.Proofs.Ytbpjidekjogfeaa.A

namespace Go.Proofs.Ytbpjidekjogfeaa.A
open Go.RowKit Go.Proofs.YtbpjidekjogfeaaW.PrintWords Go.Proofs.YtbpjidekjogfeaaW.PrintLast Go.Proofs.YtbpjidekjogfeaaW.PrintMore
attribute [local go_sem] max2_int min2_int max_two min_two max_three min_three max_four min_four   
set_option linter.unusedVariables false
set_option linter.unusedSimpArgs false
mutual
def spec_l02Sizes.l0 : Nat → List Int → Int → Option (Bool)
 | 0, _, _ => none
 | k + 1, x0, x3 => if x3 < (x0.length : Int) then (spec_l02Sizes.j1 k x0 x3 (decide (x3 ≤ 8))) else (spec_l02Sizes.j1 k x0 x3 false)
def spec_l02Sizes.j1 : Nat → List Int → Int → Bool → Option (Bool)
 | 0, _, _, _ => none
 | k + 1, x0, x3, x11 => if x11 = true then (if 0 ≤ x3 then (if x3 < (x0.length : Int) then (if (rd x0 x3) < 1 then (some false) else (spec_l02Sizes.l0 k x0 (wrap64 (x3 + 1)))) else (none)) else (none)) else (some (decide ((x0.length : Int) ≤ 8)))
end
def spec_l02Sizes.f (k : Nat) (l0 : List Int) : Option (Bool) := spec_l02Sizes.l0 k l0 0
set_option maxHeartbeats 8000000 in
set_option maxRecDepth 100000 in
theorem spec_l02Sizes.calls (k : Nat) (A0 : Option Addr) (c0 : Nat) (l0 : List Int) (r : Bool) (w : World) (hr0 : Kd.C (Kd.int .i64) w A0 l0.length l0) (hc0 : l0.length ≤ c0) (h : spec_l02Sizes.f k l0 = some r) :
  Calls Try.prog 98 #[.slice A0 l0.length c0] w fun e w' => e = .returned (.bool r) ∧ Drawn0 w w' := by
 have HR0 := Aside0.mk hr0
 have HC0 := Aside0.mk hc0
 clear hr0 hc0
 have H : (spec_l02Sizes.l0 k l0 0) = some r := h
 clear h
 have H' := Aside0.mk H
 clear H
 go_enter Try.func98, Try.ntmps98
 go_wp2
 go_loopg [3] k (fun kq v3 w' => ∃ (x3_1 : Int), v3 = .int .i64 x3_1 ∧ Aside0 (spec_l02Sizes.l0 kq l0 x3_1 = some r) ∧ Aside0 (kq ≤ k) ∧ Drawn0 w w')
 case atStart => exact ⟨(0), (by first | rfl | (simp; done) | (simp [*]; done)), H', ⟨Nat.le_refl _⟩, by repeat (first | exact Drawn0.refl _ | apply Drawn0.step)⟩
 case round =>
  clear H'
  obtain ⟨x3_1, rfl, HA, HK1, ⟨m1, rfl⟩⟩ := hrel
  cases gk with
  | zero => exact absurd HA.out (by simp [spec_l02Sizes.l0])
  | succ k1 =>
   have H := HA.out
   clear HA
   simp only [spec_l02Sizes.l0] at H
   have HC2 := Aside0.mk H
   clear H
   go_upto_region 2 with (fail)
   go_cut [11] (fun v11 wc => ∃ (kq : Nat) (x11_1 : Bool), v11 = .bool x11_1 ∧ Aside0 (spec_l02Sizes.j1 kq l0 x3_1 x11_1 = some r) ∧ Aside0 (kq ≤ k1) ∧ Drawn0 w wc)
   case first =>
    have H := HC2.out
    clear HC2
    by_cases c3 : x3_1 < (l0.length : Int)
    ·rw [if_pos c3] at H
     have c3b0 : decide (x3_1 < (l0.length : Int)) = true := decide_eq_true c3
     clear c3
     (first | rw [c3b0] | (simp only [i64_w, i32_w]; rw [c3b0]) | skip)
     have H' := Aside0.mk H
     clear H
     go_wp2
     go_meet
     case rel => exact ⟨_, (decide (x3_1 ≤ 8)), (by first | rfl | (simp; done) | (simp [*]; done)), H', ⟨by have := HK1.out; first | omega | exact Nat.le_refl _⟩, by repeat (first | exact Drawn0.refl _ | apply Drawn0.step)⟩
    ·rw [if_neg c3] at H
     have c3b0 : decide (x3_1 < (l0.length : Int)) = false := decide_eq_false c3
     clear c3
     (first | rw [c3b0] | (simp only [i64_w, i32_w]; rw [c3b0]) | skip)
     have H' := Aside0.mk H
     clear H
     go_wp2
     go_meet
     case rel => exact ⟨_, (false), (by first | rfl | (simp; done) | (simp [*]; done)), H', ⟨by have := HK1.out; first | omega | exact Nat.le_refl _⟩, by repeat (first | exact Drawn0.refl _ | apply Drawn0.step)⟩
   case rest =>
    clear HC2
    try clear p2
    try clear c3
    try clear c3b0
    obtain ⟨kq, x11_1, rfl, HA, HJ1, ⟨mc1, rfl⟩⟩ := hcut
    cases kq with
    | zero => exact absurd HA.out (by simp [spec_l02Sizes.j1])
    | succ kj1 =>
     have H := HA.out
     clear HA
     simp only [spec_l02Sizes.j1] at H
     by_cases c4 : x11_1 = true
     ·subst c4
      rw [if_pos rfl] at H
      by_cases c5 : 0 ≤ x3_1
      ·rw [if_pos c5] at H
       have c5b0 : decide (0 ≤ x3_1) = true := decide_eq_true c5
       clear c5
       by_cases c6 : x3_1 < (l0.length : Int)
       ·rw [if_pos c6] at H
        have c6b0 : decide (x3_1 < (l0.length : Int)) = true := decide_eq_true c6
        clear c6
        by_cases c7 : (rd l0 x3_1) < 1
        ·rw [if_pos c7] at H
         have c7b0 : decide ((rd l0 x3_1) < 1) = true := decide_eq_true c7
         clear c7
         obtain rfl := Option.some.inj H
         have p964 : 0 ≤ (x3_1 : Int) := of_decide_eq_true asm
         have q964 : x3_1 < (l0.length : Int) := of_decide_eq_true asm
         obtain ⟨ad964, e964, hx964_0⟩ := Kd.at_int HR0.out x3_1 p964 q964
         cases e964
         replace p964 := eq_true p964
         replace q964 := eq_true q964
         go_wp2
         go_ret
         exact ⟨by first | rfl | (simp; done) | (simp [*]; done), by repeat (first | exact Drawn0.refl _ | apply Drawn0.step)⟩
        ·rw [if_neg c7] at H
         have c7b0 : decide ((rd l0 x3_1) < 1) = false := decide_eq_false c7
         clear c7
         have H' := Aside0.mk H
         clear H
         have p964 : 0 ≤ (x3_1 : Int) := of_decide_eq_true asm
         have q964 : x3_1 < (l0.length : Int) := of_decide_eq_true asm
         obtain ⟨ad964, e964, hx964_0⟩ := Kd.at_int HR0.out x3_1 p964 q964
         cases e964
         replace p964 := eq_true p964
         replace q964 := eq_true q964
         go_wp2
         go_roundg kj1
         case measure => have := HK1.out; have := HJ1.out; omega
         case rel => exact ⟨(wrap64 (x3_1 + 1)), (by first | rfl | (simp; done) | (simp [*]; done)), H', ⟨by have := HK1.out; have := HJ1.out; omega⟩, by repeat (first | exact Drawn0.refl _ | apply Drawn0.step)⟩
       ·rw [if_neg c6] at H
        exact absurd H (by simp)
      ·rw [if_neg c5] at H
       exact absurd H (by simp)
     ·replace c4 := Bool.eq_false_iff.mpr c4
      subst c4
      rw [if_neg (show ¬ (false = true) by decide)] at H
      obtain rfl := Option.some.inj H
      go_wp2
      go_ret
      exact ⟨by first | rfl | (simp; done) | (simp [*]; done), by repeat (first | exact Drawn0.refl _ | apply Drawn0.step)⟩
end Go.Proofs.Ytbpjidekjogfeaa.A

namespace Go.Proofs.Ytbpjidekjogfeaa.A
open Go.RowKit Go.Proofs.YtbpjidekjogfeaaW.PrintWords Go.Proofs.YtbpjidekjogfeaaW.PrintLast Go.Proofs.YtbpjidekjogfeaaW.PrintMore
attribute [local go_sem] max2_int min2_int max_two min_two max_three min_three max_four min_four   
set_option linter.unusedVariables false
set_option linter.unusedSimpArgs false
mutual
def spec_HeldInOrder.j0 : Nat → List (S41) → List Int → Bool → Option (Int)
 | 0, _, _, _ => none
 | k + 1, x0, x1, x15 => if x15 = true then (some 0) else ((spec_BankGaps.f k x0).bind fun t1078 => (spec_HeldInOrder.l0 k x1 t1078 0))
def spec_HeldInOrder.l0 : Nat → List Int → List (S50) → Int → Option (Int)
 | 0, _, _, _ => none
 | k + 1, x1, x5, x6 => if x6 < (x1.length : Int) then (if 0 ≤ x6 then ((spec_l02Least.f k x5 (rd x1 x6)).bind fun t1082 => (if t1082 < 0 then (some x6) else (if 0 ≤ t1082 then (if t1082 < (x5.length : Int) then (spec_HeldInOrder.l0 k x1 (x5.set (t1082 : Int).toNat (⟨(rd_T50 x5 t1082).f0, (rd_T50 x5 t1082).f1, wrap64 (((rd_T50 x5 t1082).f2) - (rd x1 x6))⟩ : S50)) (wrap64 (x6 + 1))) else (none)) else (none)))) else (none)) else (some (x1.length : Int))
end
def spec_HeldInOrder.f (k : Nat) (l0 : List (S41)) (l1 : List Int) : Option (Int) := (spec_BankOk.f k l0).bind fun t1076 => (if t1076 = true then ((spec_l02Sizes.f k l1).bind fun t1077 => (spec_HeldInOrder.j0 k l0 l1 (!t1077))) else (spec_HeldInOrder.j0 k l0 l1 true))
def spec_HeldInOrder.T10 : Bool × List (List Nat × List Nat) := (true, [([], []), ([], []), ([], []), ([], []), ([2, 3], [2, 3]), ([4], [4]), ([5], [5]), ([], []), ([], []), ([7, 8], [7, 8]), ([9], [9]), ([6, 10], [6, 10]), ([0, 1, 0, 1, 2, 3, 4, 5, 6, 7, 8, 9, 10, 11], [0, 1]), ([12, 0, 1, 2, 3, 4, 5, 6, 7, 8, 9, 10, 11], [12]), ([13, 11, 0, 1, 2, 3, 4, 5, 6, 7, 8, 9, 10, 11], [11, 13])])
def spec_HeldInOrder.B10 : List Nat := [0, 0, 0, 0, 12, 28, 60, 0, 0, 384, 896, 2044, 4095, 8191, 16383]
theorem spec_HeldInOrder.tab10 : rtab .any (opsOf Try.f46 10) = spec_HeldInOrder.T10 := by kernel_rfl
theorem spec_HeldInOrder.bits10 : waitsOk spec_HeldInOrder.T10.2 spec_HeldInOrder.B10 = true := by kernel_rfl
set_option maxHeartbeats 8000000 in
set_option maxRecDepth 100000 in
theorem spec_HeldInOrder.calls (k : Nat) (A0 : Option Addr) (c0 : Nat) (l0 : List (S41)) (A1 : Option Addr) (c1 : Nat) (l1 : List Int) (r : Int) (w : World) (hr0 : Kd.C k41 w A0 l0.length l0) (hc0 : l0.length ≤ c0) (hr1 : Kd.C (Kd.int .i64) w A1 l1.length l1) (hc1 : l1.length ≤ c1) (h : spec_HeldInOrder.f k l0 l1 = some r) :
  Calls Try.prog 46 #[.slice A0 l0.length c0, .slice A1 l1.length c1] w fun e w' => e = .returned (.int .i64 r) ∧ Below w.heap.size w w' := by
 have HR0 := Aside0.mk hr0
 have HC0 := Aside0.mk hc0
 clear hr0 hc0
 have HR1 := Aside0.mk hr1
 have HC1 := Aside0.mk hc1
 clear hr1 hc1
 have HB := Aside0.mk (Below.refl w.heap.size w)
 have H : ((spec_BankOk.f k l0).bind fun t1076 => (if t1076 = true then ((spec_l02Sizes.f k l1).bind fun t1077 => (spec_HeldInOrder.j0 k l0 l1 (!t1077))) else (spec_HeldInOrder.j0 k l0 l1 true))) = some r := h
 clear h
 have HC3 := Aside0.mk H
 clear H
 go_enter Try.func46, Try.ntmps46
 go_upto_region 1 with (fail)
 go_cut [15] (fun v15 wc => ∃ (kq : Nat) (x15_2 : Bool), v15 = .bool x15_2 ∧ Aside0 (spec_HeldInOrder.j0 kq l0 l1 x15_2 = some r) ∧ Aside0 (kq ≤ k) ∧ Aside0 (Below w.heap.size w wc))
 case first =>
  have H := HC3.out
  clear HC3
  replace H := Option.bind_eq_some_iff.mp H
  obtain ⟨t1076, A40, H⟩ := H
  try dsimp only at H
  have A4 := Aside0.mk A40
  clear A40
  by_cases c5 : t1076 = true
  ·subst c5
   rw [if_pos rfl] at H
   replace H := Option.bind_eq_some_iff.mp H
   obtain ⟨t1077, A60, H⟩ := H
   try dsimp only at H
   have A6 := Aside0.mk A60
   clear A60
   have H' := Aside0.mk H
   clear H
   go_wp2_with (first | ((with_reducible refine gate_callee (f := 61) rfl ?_); refine goesL_ (some 9) rfl rfl Try.func61 (by kernel_rfl) rfl #[.slice A0 l0.length c0] rfl mapd ?_; (with_reducible refine (spec_BankOk.calls k _ _ l0 true _ ?side1 ?side2 A4.out).mono ?_); (case side1 => exact cb (Kd.C_below HR0.out HB.out)); (case side2 => exact HC0.out); rintro e w7 ⟨rfl, hb⟩; refine ⟨_, rfl, ?_⟩; replace HB := Aside0.mk (below_step (bl HB.out) hb); (try clear hb); (try clear hb2); (try clear hk); (try clear hi)) | (go_at_call 98; (with_reducible refine (spec_l02Sizes.calls k _ _ l1 t1077 _ ?side1 ?side2 A6.out).mono ?_); (case side1 => exact cb (Kd.C_below HR1.out HB.out)); (case side2 => exact HC1.out); rintro e w' ⟨rfl, ⟨nd, rfl⟩⟩))
   go_meet
   case rel => exact ⟨_, (!t1077), (by first | rfl | (simp; done) | (simp [*]; done)), H', ⟨by first | omega | exact Nat.le_refl _⟩, ⟨bl HB.out⟩⟩
  ·replace c5 := Bool.eq_false_iff.mpr c5
   subst c5
   rw [if_neg (show ¬ (false = true) by decide)] at H
   have H' := Aside0.mk H
   clear H
   go_wp2_with (first | ((with_reducible refine gate_callee (f := 61) rfl ?_); refine goesL_ (some 9) rfl rfl Try.func61 (by kernel_rfl) rfl #[.slice A0 l0.length c0] rfl mapd ?_; (with_reducible refine (spec_BankOk.calls k _ _ l0 false _ ?side1 ?side2 A4.out).mono ?_); (case side1 => exact cb (Kd.C_below HR0.out HB.out)); (case side2 => exact HC0.out); rintro e w8 ⟨rfl, hb⟩; refine ⟨_, rfl, ?_⟩; replace HB := Aside0.mk (below_step (bl HB.out) hb); (try clear hb); (try clear hb2); (try clear hk); (try clear hi)))
   go_meet
   case rel => exact ⟨_, (true), (by first | rfl | (simp; done) | (simp [*]; done)), H', ⟨by first | omega | exact Nat.le_refl _⟩, ⟨bl HB.out⟩⟩
 case rest =>
  clear HC3
  try clear c1
  try clear p2
  try clear c4
  try clear c5
  try clear c6
  obtain ⟨kq, x15_2, rfl, HA, HJ2, HB⟩ := hcut
  cases kq with
  | zero => exact absurd HA.out (by simp [spec_HeldInOrder.j0])
  | succ kj2 =>
   have H := HA.out
   clear HA
   simp only [spec_HeldInOrder.j0] at H
   by_cases c9 : x15_2 = true
   ·subst c9
    rw [if_pos rfl] at H
    obtain rfl := Option.some.inj H
    go_wp2
    go_ret
    exact ⟨by first | rfl | (simp [errW_none, errW_some] <;> rfl) | (simp [*, errW_none, errW_some] <;> rfl), bl HB.out⟩
   ·replace c9 := Bool.eq_false_iff.mpr c9
    subst c9
    rw [if_neg (show ¬ (false = true) by decide)] at H
    replace H := Option.bind_eq_some_iff.mp H
    obtain ⟨t1078, A100, H⟩ := H
    try dsimp only at H
    have A10 := Aside0.mk A100
    clear A100
    have H' := Aside0.mk H
    clear H
    go_wp2_with (first | ((with_reducible refine gate_callee (f := 16) rfl ?_); refine goesL_ (some 17) rfl rfl Try.func16 (by kernel_rfl) rfl #[.slice A0 l0.length c0] rfl mapd ?_; (with_reducible refine (spec_BankGaps.calls kj2 _ _ l0 t1078 _ ?side1 ?side2 A10.out).mono ?_); (case side1 => exact cb (Kd.C_below HR0.out HB.out)); (case side2 => exact HC0.out); rintro e w11 ⟨v1079, rfl, ho0, hb⟩; refine ⟨_, rfl, ?_⟩; have HO1080 := Aside0.mk (Kd.R_lower ho0 (below_size (bl HB.out))); replace HB := Aside0.mk (below_step (bl HB.out) hb); (try clear hb); (try clear hb2); (try clear hk); (try clear hi); (try clear ho0)))
    go_loopg [6] kj2 (fun kq v6 w' => ∃ (x5_2 : List (S50)) (x6_2 : Int), v6 = .int .i64 x6_2 ∧ Aside0 (spec_HeldInOrder.l0 kq l1 x5_2 x6_2 = some r) ∧ Aside0 (kq ≤ kj2) ∧ Aside0 (Kd.R k50 50 w' w.heap.size (fun _ => True) v1079 x5_2) ∧ Aside0 (Below w.heap.size w w'))
    case atStart => exact ⟨(t1078), (0), (by first | rfl | (simp; done) | (simp [*]; done)), H', ⟨Nat.le_refl _⟩, ⟨rk HO1080.out⟩, ⟨bl HB.out⟩⟩
    case round =>
     clear H'
     try clear c1
     try clear p2
     try clear c4
     try clear c5
     try clear c6
     try clear c9
     try clear p2
     obtain ⟨x5_2, x6_2, rfl, HA, HK2, HO_5, HB⟩ := hrel
     cases gk with
     | zero => exact absurd HA.out (by simp [spec_HeldInOrder.l0])
     | succ k2 =>
      have H := HA.out
      clear HA
      simp only [spec_HeldInOrder.l0] at H
      by_cases c12 : x6_2 < (l1.length : Int)
      ·rw [if_pos c12] at H
       have c12b0 : decide (x6_2 < (l1.length : Int)) = true := decide_eq_true c12
       clear c12
       by_cases c13 : 0 ≤ x6_2
       ·rw [if_pos c13] at H
        have c13b0 : decide (0 ≤ x6_2) = true := decide_eq_true c13
        clear c13
        replace H := Option.bind_eq_some_iff.mp H
        obtain ⟨t1082, A140, H⟩ := H
        try dsimp only at H
        have A14 := Aside0.mk A140
        clear A140
        by_cases c15 : t1082 < 0
        ·rw [if_pos c15] at H
         have c15b0 : decide (t1082 < 0) = true := decide_eq_true c15
         clear c15
         obtain rfl := Option.some.inj H
         have p1081 : 0 ≤ (x6_2 : Int) := of_decide_eq_true asm
         have q1081 : x6_2 < (l1.length : Int) := of_decide_eq_true asm
         obtain ⟨ad1081, e1081, hx1081_0⟩ := Kd.at_int HR1.out x6_2 p1081 q1081
         cases e1081
         replace hx1081_0 := (HB.out.cell (World.block_lt_of_cell? w _ hx1081_0)).trans hx1081_0
         replace p1081 := eq_true p1081
         replace q1081 := eq_true q1081
         obtain ⟨Ao16, co16, eo16⟩ := Kd.R_slice HO_5.out
         subst eo16
         go_wp2_with (first | ((with_reducible refine gate_callee (f := 99) rfl ?_); refine goesL_ (some 29) rfl rfl Try.func99 (by kernel_rfl) rfl #[.slice Ao16 x5_2.length co16, .int .i64 (rd l1 x6_2)] rfl mapd ?_; (with_reducible refine (spec_l02Least.calls k2 _ _ x5_2 (rd l1 x6_2) t1082 _ ?side1 ?side2 A14.out).mono ?_); (case side1 => exact cb ((Kd.R_reads' HO_5.out).2.2)); (case side2 => exact (Kd.R_reads' HO_5.out).2.1); rintro e w' ⟨rfl, ⟨nd, rfl⟩⟩; refine ⟨_, rfl, ?_⟩))
         go_ret
         exact ⟨by first | rfl | (simp [errW_none, errW_some] <;> rfl) | (simp [*, errW_none, errW_some] <;> rfl), bl HB.out⟩
        ·rw [if_neg c15] at H
         have c15b0 : decide (t1082 < 0) = false := decide_eq_false c15
         clear c15
         by_cases c17 : 0 ≤ t1082
         ·rw [if_pos c17] at H
          have c17b0 : decide (0 ≤ t1082) = true := decide_eq_true c17
          clear c17
          by_cases c18 : t1082 < (x5_2.length : Int)
          ·rw [if_pos c18] at H
           have c18b0 : decide (t1082 < (x5_2.length : Int)) = true := decide_eq_true c18
           clear c18
           obtain ⟨y1085, hy1085⟩ : ∃ y_ : List (S50), y_ = (x5_2.set (t1082 : Int).toNat (⟨(rd_T50 x5_2 t1082).f0, (rd_T50 x5_2 t1082).f1, wrap64 (((rd_T50 x5_2 t1082).f2) - (rd l1 x6_2))⟩ : S50)) := ⟨_, rfl⟩
           replace H : (spec_HeldInOrder.l0 k2 l1 y1085 (wrap64 (x6_2 + 1))) = some r := by first | (rw [hy1085]; with_reducible exact H) | (have H2_ := (Option.bind_some _ _).symm.trans H; rw [hy1085]; with_reducible exact H2_) | (have H2_ := (Option.bind_some _ _).symm.trans H; with_reducible exact H2_) | with_reducible exact H | (rw [hy1085]; exact H) | exact H
           have Ny1085 := Aside0.mk hy1085
           clear hy1085
           have H' := Aside0.mk H
           clear H
           have p1081 : 0 ≤ (x6_2 : Int) := of_decide_eq_true asm
           have q1081 : x6_2 < (l1.length : Int) := of_decide_eq_true asm
           obtain ⟨ad1081, e1081, hx1081_0⟩ := Kd.at_int HR1.out x6_2 p1081 q1081
           cases e1081
           replace hx1081_0 := (HB.out.cell (World.block_lt_of_cell? w _ hx1081_0)).trans hx1081_0
           replace p1081 := eq_true p1081
           replace q1081 := eq_true q1081
           obtain ⟨Ao20, co20, eo20⟩ := Kd.R_slice HO_5.out
           subst eo20
           try go_wp2_with (first | ((with_reducible refine gate_callee (f := 99) rfl ?_); refine goesL_ (some 29) rfl rfl Try.func99 (by kernel_rfl) rfl #[.slice Ao20 x5_2.length co20, .int .i64 (rd l1 x6_2)] rfl mapd ?_; (with_reducible refine (spec_l02Least.calls k2 _ _ x5_2 (rd l1 x6_2) t1082 _ ?side1 ?side2 A14.out).mono ?_); (case side1 => exact cb ((Kd.R_reads' HO_5.out).2.2)); (case side2 => exact (Kd.R_reads' HO_5.out).2.1); rintro e w' ⟨rfl, ⟨nd, rfl⟩⟩; refine ⟨_, rfl, ?_⟩; (try (rw [drewN_self wr]; generalize hq_ : World.drewN wr _ = wr; have n0_ : Aside0 (Kd.R k50 50 wr w.heap.size (fun _ => True) (.slice Ao20 x5_2.length co20) x5_2) := ⟨by rw [← hq_]; exact (rk HO_5.out)⟩; have n1_ : Aside0 (Below w.heap.size w wr) := ⟨by rw [← hq_]; exact (bl HB.out)⟩; clear HO_5 HB hq_; have HO_5 := n0_; have HB := n1_; clear n0_ n1_))))
           replace HO_5 := Aside0.mk (Kd.R_drew HO_5.out)
           replace HB := Aside0.mk (below_drew1 HB.out)
           have p1083 : 0 ≤ (t1082 : Int) := of_decide_eq_true asm
           have q1083 : t1082 < (x5_2.length : Int) := of_decide_eq_true asm
           obtain ⟨ad1083, e1083, hx1083_0, hx1083_1, hx1083_2⟩ := at_T50 (Kd.R_reads' HO_5.out).2.2 t1082 p1083 q1083
           cases e1083
           replace p1083 := eq_true p1083
           replace q1083 := eq_true q1083
           have p1084 : 0 ≤ (x6_2 : Int) := of_decide_eq_true asm
           have q1084 : x6_2 < (l1.length : Int) := of_decide_eq_true asm
           obtain ⟨ad1084, e1084, hx1084_0⟩ := Kd.at_int HR1.out x6_2 p1084 q1084
           have hw1084_0 := hx1084_0
           obtain rfl : ad1081 = ad1084 := (by injection e1084)
           replace hx1084_0 := (HB.out.cell (World.block_lt_of_cell? w _ hx1084_0)).trans hx1084_0
           replace p1084 := eq_true p1084
           replace q1084 := eq_true q1084
           have p19 : 0 ≤ (t1082 : Int) := of_decide_eq_true asm
           have q19 : (t1082 : Int) < ((x5_2.length : Int) : Int) := of_decide_eq_true asm
           obtain ⟨go19, co19, eo19, gb19, gl19, cl19, HG19⟩ := Kd.R_form HO_5.out (by omega)
           (first | cases eo19 | (injection eo19 with ea_ en_ ec_; (first | subst ea_ | (injection ea_ with ea_; subst ea_)); subst ec_; clear en_))
           have GB19 := Aside0.mk gb19
           have GG19 := Aside0.mk HG19
           clear gb19 gl19 HG19
           (first | simp only [add_plain] at hx1083_0 | skip)
           (first | simp only [add_plain] at hx1083_1 | skip)
           (first | simp only [add_plain] at hx1083_2 | skip)
           obtain ⟨ce19, hcl19, hM19, hcc19, hfr19⟩ := Kd.R_elem HO_5.out z50 (t1082 : Int) p19 q19
           obtain rfl := k50_openM hM19
           have hx19_0 : World.cell? _ ⟨go19, (t1082 : Int).toNat * 3, none⟩ = some (.int .i64 ((rd_T50 x5_2 t1082).f0)) := hcc19 0 _ rfl
           have hx19_1 : World.cell? _ ⟨go19, (t1082 : Int).toNat * 3 + 1, none⟩ = some (.int .i64 ((rd_T50 x5_2 t1082).f1)) := hcc19 1 _ rfl
           have hx19_2 : World.cell? _ ⟨go19, (t1082 : Int).toNat * 3 + 2, none⟩ = some (.int .i64 ((rd_T50 x5_2 t1082).f2)) := hcc19 2 _ rfl
           have hf19_0 : World.frozen? _ ⟨go19, (t1082 : Int).toNat * 3, none⟩ = false := hfr19 0
           have hf19_1 : World.frozen? _ ⟨go19, (t1082 : Int).toNat * 3 + 1, none⟩ = false := hfr19 1
           have hf19_2 : World.frozen? _ ⟨go19, (t1082 : Int).toNat * 3 + 2, none⟩ = false := hfr19 2
           clear hcl19 hcc19 hfr19 hM19
           replace p19 := eq_true p19
           replace q19 := eq_true q19
           obtain ⟨ce22, hcl22, hM22, hcc22, hfr22⟩ := Kd.R_elem HO_5.out z50 (t1082 : Int) (of_decide_eq_true asm) (by have h_ : (t1082 : Int) < ((x5_2.length : Int) : Int) := of_decide_eq_true asm; first | exact h_ | (have e_ := (Kd.R_reads' HO_5.out).1; omega) | simpa using h_)
           obtain rfl := k50_openM hM22
           have HP22 := (Kd.R_seg HO_5.out (t1082 : Int) (of_decide_eq_true asm) (by have h_ : (t1082 : Int) < ((x5_2.length : Int) : Int) := of_decide_eq_true asm; first | exact h_ | (have e_ := (Kd.R_reads' HO_5.out).1; omega) | simpa using h_) (seg := [.int .i64 (wrap64 (((rd_T50 x5_2 t1082).f2) - (rd l1 x6_2)))]) (j := 2) hcl22 hcc22 (show 3 ≤ 3 from by decide) (x' := (⟨(rd_T50 x5_2 t1082).f0, (rd_T50 x5_2 t1082).f1, wrap64 (((rd_T50 x5_2 t1082).f2) - (rd l1 x6_2))⟩ : S50)) (k50_mkM _ _ _ (⟨(rd_T50 x5_2 t1082).f0, (rd_T50 x5_2 t1082).f1, wrap64 (((rd_T50 x5_2 t1082).f2) - (rd l1 x6_2))⟩ : S50) ) (fun _ hk => hk)).1
           rw [← Ny1085.out] at HP22
           have HQ22 := Aside0.mk HP22
           clear hcl22 hcc22 hfr22 hM22 HP22
           refine start_ (n := 15) (S := fun w' => w'.cell? ⟨go19, ((t1082).toNat * 3), none⟩ = some (.int .i64 ((rd_T50 x5_2 t1082).f0)) ∧ w'.cell? ⟨go19, ((t1082).toNat * 3) + 1, none⟩ = some (.int .i64 ((rd_T50 x5_2 t1082).f1)) ∧ w'.cell? ⟨go19, ((t1082).toNat * 3) + 2, none⟩ = some (.int .i64 ((rd_T50 x5_2 t1082).f2)) ∧ w'.cell? (ad1081.add (x6_2).toNat) = some (.int .i64 (rd l1 x6_2))) (ds := [14]) #[false, false, false, false, false, false, false, false, false, false, false, false, false, false, false] (by kernel_rfl) rfl rfl ⟨hx1083_0, hx1083_1, hx1083_2, ((HB.out.cell (World.block_lt_of_cell? w _ hw1084_0)).trans hw1084_0)⟩ (fun hHeld => ?_); refine with_tabW spec_HeldInOrder.tab10 spec_HeldInOrder.bits10 (fun HT_ HW_ => ?_)
           generalize wr.drew = w21 at HO_5 HB GG19 HQ22 hf19_0 hf19_1 hf19_2 hx1083_0 hx1083_1 hx1083_2 hx1084_0 hx19_0 hx19_1 hx19_2 hHeld ⊢
           refine puA (i := 0) (N := some 33) HT_.out ?_
           refine puA (i := 1) (N := some 34) HT_.out ?_
           refine puA (i := 2) (N := some 35) HT_.out ?_
           refine puA (i := 3) (N := some 36) HT_.out ?_
           refine puA (i := 4) (N := some 37) HT_.out ?_
           refine puA (i := 5) (N := some 38) HT_.out ?_
           refine puA (i := 7) (N := some 40) HT_.out ?_
           refine puA (i := 8) (N := some 41) HT_.out ?_
           refine puA (i := 9) (N := some 42) HT_.out ?_
           refine tkA4 (i := 6) (N := some 39) HT_.out HW_.out hHeld ?_
           refine tkA4 (i := 10) (N := some 43) HT_.out HW_.out hHeld ?_
           refine puA (i := 11) (N := some 44) HT_.out ?_
           refine puA (i := 12) (N := some 45) HT_.out ?_
           refine puA (i := 13) (N := some 46) HT_.out ?_
           refine last_ (i := 14) (N := none) #[true, true, true, true, true, true, true, true, true, true, true, true, true, true, true] rfl rfl (one_of HT_.out (by kernel_rfl)) (by decide) (fun K hK => ?_)
           refine skip_ (w1 := ?_) (by rfl) rfl ?_ ?_
           rotate_left
           ·go_simp
            rfl
           refine hK.out _ _ ?_
           clear hK K
           refine done_ (done_of HT_.out (by kernel_rfl)) ?_
           try go_wp2
           go_roundg k2
           case measure => have := HJ2.out; have := HK2.out; omega
           case rel => exact ⟨(y1085), (wrap64 (x6_2 + 1)), (by first | rfl | (simp; done) | (simp [*]; done)), H', ⟨by have := HJ2.out; have := HK2.out; omega⟩, ⟨rk HQ22.out⟩, ⟨by repeat (first | (with_reducible first | exact HB.out | apply below_alloc | apply pw_below_drewN | apply below_drew1 | refine below_set ?_ GB19.out) | exact HB.out)⟩⟩
          ·rw [if_neg c18] at H
           exact absurd H (by simp)
         ·rw [if_neg c17] at H
          exact absurd H (by simp)
       ·rw [if_neg c13] at H
        exact absurd H (by simp)
      ·rw [if_neg c12] at H
       have c12b0 : decide (x6_2 < (l1.length : Int)) = false := decide_eq_false c12
       clear c12
       obtain rfl := Option.some.inj H
       go_wp2
       go_ret
       exact ⟨by first | rfl | (simp [errW_none, errW_some] <;> rfl) | (simp [*, errW_none, errW_some] <;> rfl), bl HB.out⟩
end Go.Proofs.Ytbpjidekjogfeaa.A

namespace Go.Proofs.Ytbpjidekjogfeaa.A
open Go.RowKit Go.Proofs.YtbpjidekjogfeaaW.PrintWords Go.Proofs.YtbpjidekjogfeaaW.PrintLast Go.Proofs.YtbpjidekjogfeaaW.PrintMore
attribute [local go_sem] max2_int min2_int max_two min_two max_three min_three max_four min_four   
set_option linter.unusedVariables false
set_option linter.unusedSimpArgs false
def impl_least.l0 : Nat → Int → Bool → List (S50) → Int → Int → Int → Int → Int → Option (Int × Int × Int × Bool)
 | 0, _, _, _, _, _, _, _, _ => none
 | k + 1, x1, x7, x14, x15, x16, x693000, x693001, x693002 => if x16 < x15 then (if 0 ≤ x16 then (if x16 < (x14.length : Int) then (if ((rd_T50 x14 x16).f2) ≥ x1 then (if x7 = true then (if ((rd_T50 x14 x16).f2) < x693002 then (impl_least.l0 k x1 true x14 x15 (wrap64 (x16 + 1)) ((rd_T50 x14 x16).f0) ((rd_T50 x14 x16).f1) ((rd_T50 x14 x16).f2)) else (impl_least.l0 k x1 x7 x14 x15 (wrap64 (x16 + 1)) x693000 x693001 x693002)) else (impl_least.l0 k x1 true x14 x15 (wrap64 (x16 + 1)) ((rd_T50 x14 x16).f0) ((rd_T50 x14 x16).f1) ((rd_T50 x14 x16).f2))) else (impl_least.l0 k x1 x7 x14 x15 (wrap64 (x16 + 1)) x693000 x693001 x693002)) else (none)) else (none)) else (some (x693000, x693001, x693002, x7))
def impl_least.f (k : Nat) (l0 : List (S50)) (a1 : Int) : Option (Int × Int × Int × Bool) := if a1 < 1 then (some (0, 0, 0, false)) else (impl_least.l0 k a1 false l0 (l0.length : Int) 0 0 0 0)
set_option maxHeartbeats 8000000 in
set_option maxRecDepth 100000 in
theorem impl_least.calls (k : Nat) (A0 : Option Addr) (c0 : Nat) (l0 : List (S50)) (a1 : Int) (r1 : Int) (r2 : Int) (r3 : Int) (r4 : Bool) (w : World) (hr0 : Kd.C k50 w A0 l0.length l0) (hc0 : l0.length ≤ c0) (h : impl_least.f k l0 a1 = some (r1, r2, r3, r4)) :
  Calls Try.prog 89 #[.slice A0 l0.length c0, .int .i64 a1] w fun e w' => e = .returned (.tuple #[.agg #[.int .i64 r1, .int .i64 r2, .int .i64 r3], .bool r4]) ∧ Below w.heap.size w w' := by
 have hu50 := Try.underlying50
 have HR0 := Aside0.mk hr0
 have HC0 := Aside0.mk hc0
 clear hr0 hc0
 have HB := Aside0.mk (Below.refl w.heap.size w)
 have H : (if a1 < 1 then (some (0, 0, 0, false)) else (impl_least.l0 k a1 false l0 (l0.length : Int) 0 0 0 0)) = some (r1, r2, r3, r4) := h
 clear h
 by_cases c3 : a1 < 1
 ·rw [if_pos c3] at H
  have c3b0 : decide (a1 < 1) = true := decide_eq_true c3
  clear c3
  simp only [Option.some.injEq, Prod.mk.injEq] at H
  obtain ⟨rfl, rfl, rfl, rfl⟩ := H
  go_enter Try.func89, Try.ntmps89
  go_wp2_with (first | ((with_reducible refine gate_dst (N := 4) rfl ?_); refine bx (cs := #[.int .i64 0, .int .i64 0, .int .i64 0]) (t := 50) fun gb691 hg w4 hbox hb => ?_; have BK691 := Aside0.mk (hbox); have GW691 := Aside0.mk (gs HB.out hg); have GE691 := Aside0.mk (gs HB.out hg); replace HB := Aside0.mk (below_step (bl HB.out) hb); clear hb hbox hg) | ((with_reducible refine gate_dst (N := 6) rfl ?_); refine bx (cs := #[.int .i64 0, .int .i64 0, .int .i64 0]) (t := 50) fun gb692 hg w5 hbox hb => ?_; have BK692 := Aside0.mk (hbox); have GW692 := Aside0.mk (gs HB.out hg); have GE692 := Aside0.mk (gs HB.out hg); replace HB := Aside0.mk (below_step (bl HB.out) hb); have NB691_692 := Aside0.mk ((nl BK691.out hg)); have NB692_691 := Aside0.mk ((ng BK691.out hg)); replace BK691 := Aside0.mk (bb BK691.out hb); clear hb hbox hg; have hnb6 := NB692_691.out; have hnc6 := NB691_692.out; obtain ⟨hcz7_0, hcz7_1, hcz7_2, hfz7_0, hfz7_1, hfz7_2⟩ := cz3 BK692.out; obtain ⟨hcz8_0, hcz8_1, hcz8_2, hfz8_0, hfz8_1, hfz8_2⟩ := cz3 BK691.out))
  refine bodyPost_ret (results_ct rfl _ _ gb691 50 #[.int .i64 0, .int .i64 0, .int .i64 0] (0, 0) _ rfl (by refine bk ?_; refine blk_put (cs := #[.int .i64 0, .int .i64 0, .int .i64 0]) ?_ 2 _ rfl; refine bk ?_; refine blk_put (cs := #[.int .i64 0, .int .i64 0, .int .i64 0]) ?_ 1 _ rfl; refine bk ?_; refine blk_put (cs := #[.int .i64 0, .int .i64 0, .int .i64 0]) ?_ 0 _ rfl; refine bk ?_; refine blk_far ?_ NB691_692.out _; refine bk ?_; refine blk_far ?_ NB691_692.out _; refine bk ?_; refine blk_far ?_ NB691_692.out _; refine bk ?_; exact BK691.out) Try.underlying50 rfl (by kernel_rfl)) rfl ?_
  exact ⟨by first | rfl | (simp [errW_none, errW_some] <;> rfl) | (simp [*, errW_none, errW_some] <;> rfl), bl HB.out⟩
 ·rw [if_neg c3] at H
  have c3b0 : decide (a1 < 1) = false := decide_eq_false c3
  clear c3
  have H' := Aside0.mk H
  clear H
  go_enter Try.func89, Try.ntmps89
  go_wp2_with (first | ((with_reducible refine gate_dst (N := 4) rfl ?_); refine bx (cs := #[.int .i64 0, .int .i64 0, .int .i64 0]) (t := 50) fun gb691 hg w9 hbox hb => ?_; have BK691 := Aside0.mk (hbox); have GW691 := Aside0.mk (gs HB.out hg); have GE691 := Aside0.mk (gs HB.out hg); replace HB := Aside0.mk (below_step (bl HB.out) hb); clear hb hbox hg) | ((with_reducible refine gate_dst (N := 6) rfl ?_); refine bx (cs := #[.int .i64 0, .int .i64 0, .int .i64 0]) (t := 50) fun gb692 hg w10 hbox hb => ?_; have BK692 := Aside0.mk (hbox); have GW692 := Aside0.mk (gs HB.out hg); have GE692 := Aside0.mk (gs HB.out hg); replace HB := Aside0.mk (below_step (bl HB.out) hb); have NB691_692 := Aside0.mk ((nl BK691.out hg)); have NB692_691 := Aside0.mk ((ng BK691.out hg)); replace BK691 := Aside0.mk (bb BK691.out hb); clear hb hbox hg; have hnb11 := NB692_691.out; have hnc11 := NB691_692.out; obtain ⟨hcz12_0, hcz12_1, hcz12_2, hfz12_0, hfz12_1, hfz12_2⟩ := cz3 BK692.out))
  go_loopg [7, 16] k (fun kq v7 v16 w' => ∃ (x7_1 : Bool) (x16_1 : Int) (x693000_1 : Int) (x693001_1 : Int) (x693002_1 : Int), v7 = .bool x7_1 ∧ v16 = .int .i64 x16_1 ∧ Aside0 (impl_least.l0 kq a1 x7_1 l0 (l0.length : Int) x16_1 x693000_1 x693001_1 x693002_1 = some (r1, r2, r3, r4)) ∧ Aside0 (kq ≤ k) ∧ Aside0 (w'.heap[gb691]? = some (.cells #[.int .i64 0, .int .i64 0, .int .i64 0] 50 (0, 0))) ∧ Aside0 (w'.heap[gb692]? = some (.cells #[.int .i64 x693000_1, .int .i64 x693001_1, .int .i64 x693002_1] 50 (0, 0))) ∧ Aside0 (Below w.heap.size w w'))
  case atStart => exact ⟨(false), (0), (0), (0), (0), (by first | rfl | (simp; done) | (simp [*]; done)), (by first | rfl | (simp; done) | (simp [*]; done)), H', ⟨Nat.le_refl _⟩, ⟨by refine bk ?_; refine blk_far ?_ NB691_692.out _; refine bk ?_; refine blk_far ?_ NB691_692.out _; refine bk ?_; refine blk_far ?_ NB691_692.out _; refine bk ?_; exact BK691.out⟩, ⟨by refine bk ?_; refine blk_put (cs := #[.int .i64 0, .int .i64 0, .int .i64 0]) ?_ 2 _ rfl; refine bk ?_; refine blk_put (cs := #[.int .i64 0, .int .i64 0, .int .i64 0]) ?_ 1 _ rfl; refine bk ?_; refine blk_put (cs := #[.int .i64 0, .int .i64 0, .int .i64 0]) ?_ 0 _ rfl; refine bk ?_; exact BK692.out⟩, ⟨bl HB.out⟩⟩
  case round =>
   clear H'
   try clear c1
   try clear p2
   try clear c3
   try clear c3b0
   try clear c6
   try clear c8
   try clear c11
   try clear hcz12_0
   try clear hcz12_1
   try clear hcz12_2
   try clear hcz7_0
   try clear hcz7_1
   try clear hcz7_2
   try clear hcz8_0
   try clear hcz8_1
   try clear hcz8_2
   try clear hfz12_0
   try clear hfz12_1
   try clear hfz12_2
   try clear hfz7_0
   try clear hfz7_1
   try clear hfz7_2
   try clear hfz8_0
   try clear hfz8_1
   try clear hfz8_2
   obtain ⟨x7_1, x16_1, x693000_1, x693001_1, x693002_1, rfl, rfl, HA, HK1, BK691, BK692, HB⟩ := hrel
   cases gk with
   | zero => exact absurd HA.out (by simp [impl_least.l0])
   | succ k1 =>
    have H := HA.out
    clear HA
    simp only [impl_least.l0] at H
    by_cases c13 : x16_1 < (l0.length : Int)
    ·rw [if_pos c13] at H
     have c13b0 : decide (x16_1 < (l0.length : Int)) = true := decide_eq_true c13
     clear c13
     by_cases c14 : 0 ≤ x16_1
     ·rw [if_pos c14] at H
      have c14b0 : decide (0 ≤ x16_1) = true := decide_eq_true c14
      clear c14
      by_cases c15 : x16_1 < (l0.length : Int)
      ·rw [if_pos c15] at H
       have c15b0 : decide (x16_1 < (l0.length : Int)) = true := decide_eq_true c15
       clear c15
       by_cases c16 : ((rd_T50 l0 x16_1).f2) ≥ a1
       ·rw [if_pos c16] at H
        have c16b0 : decide (a1 ≤ ((rd_T50 l0 x16_1).f2)) = true := decide_eq_true c16
        clear c16
        by_cases c17 : x7_1 = true
        ·subst c17
         rw [if_pos rfl] at H
         by_cases c18 : ((rd_T50 l0 x16_1).f2) < x693002_1
         ·rw [if_pos c18] at H
          have c18b0 : decide (((rd_T50 l0 x16_1).f2) < x693002_1) = true := decide_eq_true c18
          clear c18
          have H' := Aside0.mk H
          clear H
          have p693 : 0 ≤ (x16_1 : Int) := of_decide_eq_true asm
          have q693 : x16_1 < (l0.length : Int) := of_decide_eq_true asm
          obtain ⟨ad693, e693, hx693_0, hx693_1, hx693_2⟩ := at_T50 HR0.out x16_1 p693 q693
          cases e693
          replace hx693_0 := (HB.out.cell (World.block_lt_of_cell? w _ hx693_0)).trans hx693_0
          replace hx693_1 := (HB.out.cell (World.block_lt_of_cell? w _ hx693_1)).trans hx693_1
          replace hx693_2 := (HB.out.cell (World.block_lt_of_cell? w _ hx693_2)).trans hx693_2
          replace p693 := eq_true p693
          replace q693 := eq_true q693
          go_wp2_with (first | ((with_reducible refine gate_dst (N := 9) rfl ?_); refine bx (cs := #[.int .i64 0, .int .i64 0, .int .i64 0]) (t := 50) fun gb694 hg w19 hbox hb => ?_; have BK694 := Aside0.mk (hbox); have GW694 := Aside0.mk (gs HB.out hg); have GE694 := Aside0.mk (gs HB.out hg); replace HB := Aside0.mk (below_step (bl HB.out) hb); have NB691_694 := Aside0.mk ((nl BK691.out hg)); have NB694_691 := Aside0.mk ((ng BK691.out hg)); replace BK691 := Aside0.mk (bb BK691.out hb); have NB692_694 := Aside0.mk ((nl BK692.out hg)); have NB694_692 := Aside0.mk ((ng BK692.out hg)); replace BK692 := Aside0.mk (bb BK692.out hb); clear hb hbox hg; have hnb20 := NB694_691.out; have hnc20 := NB691_694.out; have hnb21 := NB694_692.out; have hnc21 := NB692_694.out; obtain ⟨hcz22_0, hcz22_1, hcz22_2, hfz22_0, hfz22_1, hfz22_2⟩ := cz3 BK694.out; have hnb23 := NB692_691.out; have hnc23 := NB691_692.out; obtain ⟨hcz24_0, hcz24_1, hcz24_2, hfz24_0, hfz24_1, hfz24_2⟩ := cz3 BK692.out))
          go_roundg k1
          case measure => have := HK1.out; omega
          case rel => exact ⟨(true), (wrap64 (x16_1 + 1)), ((rd_T50 l0 x16_1).f0), ((rd_T50 l0 x16_1).f1), ((rd_T50 l0 x16_1).f2), (by first | rfl | (simp; done) | (simp [*]; done)), (by first | rfl | (simp; done) | (simp [*]; done)), H', ⟨by have := HK1.out; omega⟩, ⟨by refine bk ?_; refine blk_far ?_ NB691_692.out _; refine bk ?_; refine blk_far ?_ NB691_692.out _; refine bk ?_; refine blk_far ?_ NB691_692.out _; refine bk ?_; refine blk_far ?_ NB691_694.out _; refine bk ?_; refine blk_far ?_ NB691_694.out _; refine bk ?_; refine blk_far ?_ NB691_694.out _; refine bk ?_; exact BK691.out⟩, ⟨by refine bk ?_; refine blk_put (cs := #[.int .i64 ((rd_T50 l0 x16_1).f0), .int .i64 ((rd_T50 l0 x16_1).f1), .int .i64 x693002_1]) ?_ 2 _ rfl; refine bk ?_; refine blk_put (cs := #[.int .i64 ((rd_T50 l0 x16_1).f0), .int .i64 x693001_1, .int .i64 x693002_1]) ?_ 1 _ rfl; refine bk ?_; refine blk_put (cs := #[.int .i64 x693000_1, .int .i64 x693001_1, .int .i64 x693002_1]) ?_ 0 _ rfl; refine bk ?_; refine blk_far ?_ NB692_694.out _; refine bk ?_; refine blk_far ?_ NB692_694.out _; refine bk ?_; refine blk_far ?_ NB692_694.out _; refine bk ?_; exact BK692.out⟩, ⟨bl HB.out⟩⟩
         ·rw [if_neg c18] at H
          have c18b0 : decide (((rd_T50 l0 x16_1).f2) < x693002_1) = false := decide_eq_false c18
          clear c18
          have H' := Aside0.mk H
          clear H
          have p693 : 0 ≤ (x16_1 : Int) := of_decide_eq_true asm
          have q693 : x16_1 < (l0.length : Int) := of_decide_eq_true asm
          obtain ⟨ad693, e693, hx693_0, hx693_1, hx693_2⟩ := at_T50 HR0.out x16_1 p693 q693
          cases e693
          replace hx693_0 := (HB.out.cell (World.block_lt_of_cell? w _ hx693_0)).trans hx693_0
          replace hx693_1 := (HB.out.cell (World.block_lt_of_cell? w _ hx693_1)).trans hx693_1
          replace hx693_2 := (HB.out.cell (World.block_lt_of_cell? w _ hx693_2)).trans hx693_2
          replace p693 := eq_true p693
          replace q693 := eq_true q693
          go_wp2_with (first | ((with_reducible refine gate_dst (N := 9) rfl ?_); refine bx (cs := #[.int .i64 0, .int .i64 0, .int .i64 0]) (t := 50) fun gb694 hg w25 hbox hb => ?_; have BK694 := Aside0.mk (hbox); have GW694 := Aside0.mk (gs HB.out hg); have GE694 := Aside0.mk (gs HB.out hg); replace HB := Aside0.mk (below_step (bl HB.out) hb); have NB691_694 := Aside0.mk ((nl BK691.out hg)); have NB694_691 := Aside0.mk ((ng BK691.out hg)); replace BK691 := Aside0.mk (bb BK691.out hb); have NB692_694 := Aside0.mk ((nl BK692.out hg)); have NB694_692 := Aside0.mk ((ng BK692.out hg)); replace BK692 := Aside0.mk (bb BK692.out hb); clear hb hbox hg; have hnb26 := NB694_691.out; have hnc26 := NB691_694.out; have hnb27 := NB694_692.out; have hnc27 := NB692_694.out; obtain ⟨hcz28_0, hcz28_1, hcz28_2, hfz28_0, hfz28_1, hfz28_2⟩ := cz3 BK694.out; have hnb29 := NB692_691.out; have hnc29 := NB691_692.out; obtain ⟨hcz30_0, hcz30_1, hcz30_2, hfz30_0, hfz30_1, hfz30_2⟩ := cz3 BK692.out))
          go_roundg k1
          case measure => have := HK1.out; omega
          case rel => exact ⟨(true), (wrap64 (x16_1 + 1)), (x693000_1), (x693001_1), (x693002_1), (by first | rfl | (simp; done) | (simp [*]; done)), (by first | rfl | (simp; done) | (simp [*]; done)), H', ⟨by have := HK1.out; omega⟩, ⟨by refine bk ?_; refine blk_far ?_ NB691_694.out _; refine bk ?_; refine blk_far ?_ NB691_694.out _; refine bk ?_; refine blk_far ?_ NB691_694.out _; refine bk ?_; exact BK691.out⟩, ⟨by refine bk ?_; refine blk_far ?_ NB692_694.out _; refine bk ?_; refine blk_far ?_ NB692_694.out _; refine bk ?_; refine blk_far ?_ NB692_694.out _; refine bk ?_; exact BK692.out⟩, ⟨bl HB.out⟩⟩
        ·replace c17 := Bool.eq_false_iff.mpr c17
         subst c17
         rw [if_neg (show ¬ (false = true) by decide)] at H
         have H' := Aside0.mk H
         clear H
         have p693 : 0 ≤ (x16_1 : Int) := of_decide_eq_true asm
         have q693 : x16_1 < (l0.length : Int) := of_decide_eq_true asm
         obtain ⟨ad693, e693, hx693_0, hx693_1, hx693_2⟩ := at_T50 HR0.out x16_1 p693 q693
         cases e693
         replace hx693_0 := (HB.out.cell (World.block_lt_of_cell? w _ hx693_0)).trans hx693_0
         replace hx693_1 := (HB.out.cell (World.block_lt_of_cell? w _ hx693_1)).trans hx693_1
         replace hx693_2 := (HB.out.cell (World.block_lt_of_cell? w _ hx693_2)).trans hx693_2
         replace p693 := eq_true p693
         replace q693 := eq_true q693
         go_wp2_with (first | ((with_reducible refine gate_dst (N := 9) rfl ?_); refine bx (cs := #[.int .i64 0, .int .i64 0, .int .i64 0]) (t := 50) fun gb694 hg w31 hbox hb => ?_; have BK694 := Aside0.mk (hbox); have GW694 := Aside0.mk (gs HB.out hg); have GE694 := Aside0.mk (gs HB.out hg); replace HB := Aside0.mk (below_step (bl HB.out) hb); have NB691_694 := Aside0.mk ((nl BK691.out hg)); have NB694_691 := Aside0.mk ((ng BK691.out hg)); replace BK691 := Aside0.mk (bb BK691.out hb); have NB692_694 := Aside0.mk ((nl BK692.out hg)); have NB694_692 := Aside0.mk ((ng BK692.out hg)); replace BK692 := Aside0.mk (bb BK692.out hb); clear hb hbox hg; have hnb32 := NB694_691.out; have hnc32 := NB691_694.out; have hnb33 := NB694_692.out; have hnc33 := NB692_694.out; obtain ⟨hcz34_0, hcz34_1, hcz34_2, hfz34_0, hfz34_1, hfz34_2⟩ := cz3 BK694.out; have hnb35 := NB692_691.out; have hnc35 := NB691_692.out; obtain ⟨hcz36_0, hcz36_1, hcz36_2, hfz36_0, hfz36_1, hfz36_2⟩ := cz3 BK692.out))
         go_roundg k1
         case measure => have := HK1.out; omega
         case rel => exact ⟨(true), (wrap64 (x16_1 + 1)), ((rd_T50 l0 x16_1).f0), ((rd_T50 l0 x16_1).f1), ((rd_T50 l0 x16_1).f2), (by first | rfl | (simp; done) | (simp [*]; done)), (by first | rfl | (simp; done) | (simp [*]; done)), H', ⟨by have := HK1.out; omega⟩, ⟨by refine bk ?_; refine blk_far ?_ NB691_692.out _; refine bk ?_; refine blk_far ?_ NB691_692.out _; refine bk ?_; refine blk_far ?_ NB691_692.out _; refine bk ?_; refine blk_far ?_ NB691_694.out _; refine bk ?_; refine blk_far ?_ NB691_694.out _; refine bk ?_; refine blk_far ?_ NB691_694.out _; refine bk ?_; exact BK691.out⟩, ⟨by refine bk ?_; refine blk_put (cs := #[.int .i64 ((rd_T50 l0 x16_1).f0), .int .i64 ((rd_T50 l0 x16_1).f1), .int .i64 x693002_1]) ?_ 2 _ rfl; refine bk ?_; refine blk_put (cs := #[.int .i64 ((rd_T50 l0 x16_1).f0), .int .i64 x693001_1, .int .i64 x693002_1]) ?_ 1 _ rfl; refine bk ?_; refine blk_put (cs := #[.int .i64 x693000_1, .int .i64 x693001_1, .int .i64 x693002_1]) ?_ 0 _ rfl; refine bk ?_; refine blk_far ?_ NB692_694.out _; refine bk ?_; refine blk_far ?_ NB692_694.out _; refine bk ?_; refine blk_far ?_ NB692_694.out _; refine bk ?_; exact BK692.out⟩, ⟨bl HB.out⟩⟩
       ·rw [if_neg c16] at H
        have c16b0 : decide (a1 ≤ ((rd_T50 l0 x16_1).f2)) = false := decide_eq_false c16
        clear c16
        have H' := Aside0.mk H
        clear H
        have p693 : 0 ≤ (x16_1 : Int) := of_decide_eq_true asm
        have q693 : x16_1 < (l0.length : Int) := of_decide_eq_true asm
        obtain ⟨ad693, e693, hx693_0, hx693_1, hx693_2⟩ := at_T50 HR0.out x16_1 p693 q693
        cases e693
        replace hx693_0 := (HB.out.cell (World.block_lt_of_cell? w _ hx693_0)).trans hx693_0
        replace hx693_1 := (HB.out.cell (World.block_lt_of_cell? w _ hx693_1)).trans hx693_1
        replace hx693_2 := (HB.out.cell (World.block_lt_of_cell? w _ hx693_2)).trans hx693_2
        replace p693 := eq_true p693
        replace q693 := eq_true q693
        go_wp2_with (first | ((with_reducible refine gate_dst (N := 9) rfl ?_); refine bx (cs := #[.int .i64 0, .int .i64 0, .int .i64 0]) (t := 50) fun gb694 hg w37 hbox hb => ?_; have BK694 := Aside0.mk (hbox); have GW694 := Aside0.mk (gs HB.out hg); have GE694 := Aside0.mk (gs HB.out hg); replace HB := Aside0.mk (below_step (bl HB.out) hb); have NB691_694 := Aside0.mk ((nl BK691.out hg)); have NB694_691 := Aside0.mk ((ng BK691.out hg)); replace BK691 := Aside0.mk (bb BK691.out hb); have NB692_694 := Aside0.mk ((nl BK692.out hg)); have NB694_692 := Aside0.mk ((ng BK692.out hg)); replace BK692 := Aside0.mk (bb BK692.out hb); clear hb hbox hg; have hnb38 := NB694_691.out; have hnc38 := NB691_694.out; have hnb39 := NB694_692.out; have hnc39 := NB692_694.out; obtain ⟨hcz40_0, hcz40_1, hcz40_2, hfz40_0, hfz40_1, hfz40_2⟩ := cz3 BK694.out))
        go_roundg k1
        case measure => have := HK1.out; omega
        case rel => exact ⟨(x7_1), (wrap64 (x16_1 + 1)), (x693000_1), (x693001_1), (x693002_1), (by first | rfl | (simp; done) | (simp [*]; done)), (by first | rfl | (simp; done) | (simp [*]; done)), H', ⟨by have := HK1.out; omega⟩, ⟨by refine bk ?_; refine blk_far ?_ NB691_694.out _; refine bk ?_; refine blk_far ?_ NB691_694.out _; refine bk ?_; refine blk_far ?_ NB691_694.out _; refine bk ?_; exact BK691.out⟩, ⟨by refine bk ?_; refine blk_far ?_ NB692_694.out _; refine bk ?_; refine blk_far ?_ NB692_694.out _; refine bk ?_; refine blk_far ?_ NB692_694.out _; refine bk ?_; exact BK692.out⟩, ⟨bl HB.out⟩⟩
      ·rw [if_neg c15] at H
       exact absurd H (by simp)
     ·rw [if_neg c14] at H
      exact absurd H (by simp)
    ·rw [if_neg c13] at H
     have c13b0 : decide (x16_1 < (l0.length : Int)) = false := decide_eq_false c13
     clear c13
     simp only [Option.some.injEq, Prod.mk.injEq] at H
     obtain ⟨rfl, rfl, rfl, rfl⟩ := H
     have hnb41 := NB692_691.out
     have hnc41 := NB691_692.out
     obtain ⟨hcz42_0, hcz42_1, hcz42_2, hfz42_0, hfz42_1, hfz42_2⟩ := cz3 BK692.out
     obtain ⟨hcz43_0, hcz43_1, hcz43_2, hfz43_0, hfz43_1, hfz43_2⟩ := cz3 BK691.out
     go_wp2
     refine bodyPost_ret (results_ct rfl _ _ gb691 50 #[.int .i64 x693000_1, .int .i64 x693001_1, .int .i64 x693002_1] (0, 0) _ rfl (by refine bk ?_; refine blk_put (cs := #[.int .i64 x693000_1, .int .i64 x693001_1, .int .i64 0]) ?_ 2 _ rfl; refine bk ?_; refine blk_put (cs := #[.int .i64 x693000_1, .int .i64 0, .int .i64 0]) ?_ 1 _ rfl; refine bk ?_; refine blk_put (cs := #[.int .i64 0, .int .i64 0, .int .i64 0]) ?_ 0 _ rfl; refine bk ?_; exact BK691.out) Try.underlying50 rfl (by kernel_rfl)) rfl ?_
     exact ⟨by first | rfl | (simp [errW_none, errW_some] <;> rfl) | (simp [*, errW_none, errW_some] <;> rfl), bl HB.out⟩
end Go.Proofs.Ytbpjidekjogfeaa.A
