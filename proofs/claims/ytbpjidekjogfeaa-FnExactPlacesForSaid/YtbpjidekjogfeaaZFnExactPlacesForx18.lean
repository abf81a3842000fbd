/- Used by the law FnExactPlacesFor. -/
import Derived.Test.YtbpjidekjogfeaaZFnExactPlacesForx12
import Derived.Test.YtbpjidekjogfeaaZFnExactPlacesForx17
import Derived.Test.YtbpjidekjogfeaaZFnExactPlacesForh
namespace Go.Proofs.Ytbpjidekjogfeaa.A
open Go.RowKit Go.Proofs.YtbpjidekjogfeaaW.PrintWords Go.Proofs.YtbpjidekjogfeaaW.PrintLast Go.Proofs.YtbpjidekjogfeaaW.PrintMore
attribute [local go_sem] max2_int min2_int max_two min_two max_three min_three max_four min_four   
set_option linter.unusedVariables false
set_option linter.unusedSimpArgs false
mutual
def spec_l02Holds.l0 : Nat → List Int → List Int → List Int → Int → Option (Bool)
 | 0, _, _, _, _ => none
 | k + 1, x0, x1, x5, x6 => if x6 < (x0.length : Int) then (if 0 ≤ x6 then (if 0 < (x1.length : Int) then (if (rd x0 x6) < (rd x1 0) then (spec_l02Holds.j1 k x0 x1 x5 x6 true) else ((spec_l02Has.f k x5 (rd x0 x6)).bind fun t995 => (spec_l02Holds.j1 k x0 x1 x5 x6 t995))) else (none)) else (none)) else (some false)
def spec_l02Holds.j1 : Nat → List Int → List Int → List Int → Int → Bool → Option (Bool)
 | 0, _, _, _, _, _ => none
 | k + 1, x0, x1, x5, x6, x32 => if x32 = true then (spec_l02Holds.l0 k x0 x1 x5 (wrap64 (x6 + 1))) else (if 0 ≤ x6 then (if x6 < (x0.length : Int) then (if x5.length < 17592186044416 then (if 0 < (x1.length : Int) then ((spec_l02Less.f x0 x6 (rd x1 0)).bind fun t1001 => (if 1 ≤ (x1.length : Int) then ((spec_l02Holds.f k t1001 (x1.drop 1)).bind fun t1005 => (if t1005 = true then (some true) else (spec_l02Holds.l0 k x0 x1 (x5 ++ [rd x0 x6]) (wrap64 (x6 + 1))))) else (none))) else (none)) else (none)) else (none)) else (none))
def spec_l02Holds.f : Nat → List Int → List Int → Option (Bool)
 | 0, _, _ => none
 | k + 1, l0, l1 => if (l1.length : Int) = 0 then (some true) else (spec_l02Holds.l0 k l0 l1 (([] : List Int)) 0)
end
def spec_l02Holds.T7 : Bool × List (List Nat × List Nat) := (true, [([], []), ([], []), ([0, 1], [0, 1]), ([2], [2]), ([], []), ([4], [4]), ([5], [5]), ([3, 6], [3, 6]), ([7], [7]), ([8], [8]), ([8], [8]), ([8], [8]), ([10, 11, 8], [8, 10, 11]), ([12, 8], [8, 12]), ([9, 13, 8, 8], [8, 9, 13]), ([8, 14], [8, 14])])
def spec_l02Holds.B7 : List Nat := [0, 0, 3, 7, 0, 16, 48, 127, 255, 511, 511, 511, 3583, 7679, 16383, 32767]
theorem spec_l02Holds.tab7 : rtab .any (opsOf Try.f102 7) = spec_l02Holds.T7 := by kernel_rfl
theorem spec_l02Holds.bits7 : waitsOk spec_l02Holds.T7.2 spec_l02Holds.B7 = true := by kernel_rfl
def spec_l02Holds.T9 : Bool × List (List Nat × List Nat) := (true, [([], []), ([], []), ([], []), ([2], [2]), ([3], [3]), ([0, 1, 4], [0, 1, 4]), ([], []), ([6], [6]), ([5, 7, 5], [5, 7])])
def spec_l02Holds.B9 : List Nat := [0, 0, 0, 4, 12, 31, 0, 64, 255]
theorem spec_l02Holds.tab9 : rtab .any (opsOf Try.f102 9) = spec_l02Holds.T9 := by kernel_rfl
theorem spec_l02Holds.bits9 : waitsOk spec_l02Holds.T9.2 spec_l02Holds.B9 = true := by kernel_rfl
set_option maxHeartbeats 8000000 in
set_option maxRecDepth 100000 in
theorem spec_l02Holds.calls (k : Nat) : ∀ (A0 : Option Addr) (c0 : Nat) (l0 : List Int) (A1 : Option Addr) (c1 : Nat) (l1 : List Int) (r : Bool) (w : World) (hr0 : Kd.C (Kd.int .i64) w A0 l0.length l0) (hc0 : l0.length ≤ c0) (hr1 : Kd.C (Kd.int .i64) w A1 l1.length l1) (hc1 : l1.length ≤ c1) (h : spec_l02Holds.f k l0 l1 = some r),
  Calls Try.prog 102 #[.slice A0 l0.length c0, .slice A1 l1.length c1] w fun e w' => e = .returned (.bool r) ∧ Below w.heap.size w w' := by
 induction k using Nat.strongRecOn with
 | _ k ih =>
 intro A0 c0 l0 A1 c1 l1 r w hr0 hc0 hr1 hc1 h
 cases k with
 | zero => exact absurd h (by simp [spec_l02Holds.f])
 | succ k =>
 simp only [spec_l02Holds.f] at h
 have HR0 := Aside0.mk hr0
 have HC0 := Aside0.mk hc0
 clear hr0 hc0
 have HR1 := Aside0.mk hr1
 have HC1 := Aside0.mk hc1
 clear hr1 hc1
 have HB := Aside0.mk (Below.refl w.heap.size w)
 have H : (if (l1.length : Int) = 0 then (some true) else (spec_l02Holds.l0 k l0 l1 (([] : List Int)) 0)) = some r := h
 clear h
 by_cases c3 : (l1.length : Int) = 0
 ·rw [if_pos c3] at H
  have c3b0 : ((l1.length : Int) == 0) = true := beq_iff_eq.mpr c3
  have c3b1 : ((l1.length : Int) != 0) = false := bne_eq_false_iff_eq.mpr c3
  clear c3
  obtain rfl := Option.some.inj H
  go_enter Try.func102, Try.ntmps102
  go_wp2
  go_ret
  exact ⟨by first | rfl | (simp [errW_none, errW_some] <;> rfl) | (simp [*, errW_none, errW_some] <;> rfl), bl HB.out⟩
 ·rw [if_neg c3] at H
  have c3b0 : ((l1.length : Int) == 0) = false := beq_eq_false_iff_ne.mpr c3
  have c3b1 : ((l1.length : Int) != 0) = true := bne_iff_ne.mpr c3
  have c3b2 : ¬ (l1 = []) := fun h_ => c3 (by rw [h_]; rfl)
  obtain ⟨y989, hy989⟩ : ∃ y_ : List Int, y_ = (([] : List Int)) := ⟨_, rfl⟩
  replace H : (spec_l02Holds.l0 k l0 l1 y989 0) = some r := by first | (rw [hy989]; with_reducible exact H) | (have H2_ := (Option.bind_some _ _).symm.trans H; rw [hy989]; with_reducible exact H2_) | (have H2_ := (Option.bind_some _ _).symm.trans H; with_reducible exact H2_) | with_reducible exact H | (rw [hy989]; exact H) | exact H
  have Ny989 := Aside0.mk hy989
  clear hy989
  have H' := Aside0.mk H
  clear H
  go_enter Try.func102, Try.ntmps102
  go_wp2_with (first | ((with_reducible refine gate_dst (N := 10) rfl ?_); refine Kd.R_lit (Kd.int .i64) _ 3 ?hg (N := 10) ?hd (xs := ([] : List Int)) (inner := []) (ok := fun _ => True) (okp := fun _ => True) ?hr ?hp (fun _ hk => hk) trivial (Below.refl _ _) (Nat.le_refl _) (by simp) ?_; (case hd => rfl); (case hg => rfl); (case hr => first | (go_simp; done) | (go_simp; rfl)); (case hp => exact (Reps.none _ _)); intro v990 w4 ho5 hb hg_ hnew_; clear hg_ hnew_; (first | rw [← Ny989.out] at ho5 | (simp only [Int.reduceToNat] at ho5; rw [← Ny989.out] at ho5)); have HO991 := Aside0.mk (Kd.R_lower ho5 (below_size (bl HB.out))); replace HB := Aside0.mk (below_step (bl HB.out) hb); clear hb ho5))
  go_loopg [5, 6] k (fun kq v5 v6 w' => ∃ (x5_1 : List Int) (x6_1 : Int), v6 = .int .i64 x6_1 ∧ Aside0 (spec_l02Holds.l0 kq l0 l1 x5_1 x6_1 = some r) ∧ Aside0 (kq ≤ k) ∧ Aside0 (Kd.R (Kd.int .i64) 3 w' w.heap.size (fun _ => True) v5 x5_1) ∧ Aside0 (Below w.heap.size w w'))
  case atStart => exact ⟨(y989), (0), (by first | rfl | (simp; done) | (simp [*]; done)), H', ⟨Nat.le_refl _⟩, ⟨rk HO991.out⟩, ⟨bl HB.out⟩⟩
  case round =>
   clear H'
   try clear c1
   try clear p2
   try clear c3
   try clear c3b0
   try clear c3b1
   try clear c3b2
   obtain ⟨x5_1, x6_1, rfl, HA, HK1, HO_5, HB⟩ := hrel
   cases gk with
   | zero => exact absurd HA.out (by simp [spec_l02Holds.l0])
   | succ k1 =>
    have H := HA.out
    clear HA
    simp only [spec_l02Holds.l0] at H
    by_cases c6 : x6_1 < (l0.length : Int)
    ·rw [if_pos c6] at H
     have c6b0 : decide (x6_1 < (l0.length : Int)) = true := decide_eq_true c6
     clear c6
     have HC7 := Aside0.mk H
     clear H
     go_upto_region 7 with (fail)
     go_cut [32] (fun v32 wc => ∃ (kq : Nat) (x32_6 : Bool), v32 = .bool x32_6 ∧ Aside0 (spec_l02Holds.j1 kq l0 l1 x5_1 x6_1 x32_6 = some r) ∧ Aside0 (kq ≤ k1) ∧ Aside0 (Kd.R (Kd.int .i64) 3 wc w.heap.size (fun _ => True) u5 x5_1) ∧ Aside0 (Below w.heap.size w wc))
     case first =>
      have H := HC7.out
      clear HC7
      by_cases c8 : 0 ≤ x6_1
      ·rw [if_pos c8] at H
       have c8b0 : decide (0 ≤ x6_1) = true := decide_eq_true c8
       clear c8
       (first | rw [c8b0] | (simp only [i64_w, i32_w]; rw [c8b0]) | skip)
       by_cases c9 : 0 < (l1.length : Int)
       ·rw [if_pos c9] at H
        have c9b0 : decide (0 < (l1.length : Int)) = true := decide_eq_true c9
        have c9b1 : decide (0 < l1.length) = true := decide_eq_true (by omega)
        clear c9
        by_cases c10 : (rd l0 x6_1) < (rd l1 0)
        ·rw [if_pos c10] at H
         have c10b0 : decide ((rd l0 x6_1) < (rd l1 0)) = true := decide_eq_true c10
         clear c10
         have H' := Aside0.mk H
         clear H
         try go_wp2
         replace HO_5 := Aside0.mk (Kd.R_drew HO_5.out)
         replace HB := Aside0.mk (below_drew1 HB.out)
         have p992 : 0 ≤ (x6_1 : Int) := of_decide_eq_true asm
         have q992 : x6_1 < (l0.length : Int) := of_decide_eq_true asm
         obtain ⟨ad992, e992, hx992_0⟩ := Kd.at_int HR0.out x6_1 p992 q992
         have hw992_0 := hx992_0
         cases e992
         replace hx992_0 := (HB.out.cell (World.block_lt_of_cell? w _ hx992_0)).trans hx992_0
         replace p992 := eq_true p992
         replace q992 := eq_true q992
         have p993 : 0 ≤ (0 : Int) := (by omega)
         have q993 : 0 < (l1.length : Int) := of_decide_eq_true asm
         obtain ⟨ad993, e993, hx993_0⟩ := Kd.at_int HR1.out 0 p993 q993
         have hw993_0 := hx993_0
         (try rw [show ((0 : Int)).toNat = 0 from rfl] at hw993_0)
         (try rw [show 0 * 1 = 0 from rfl] at hw993_0)
         (try rw [Addr.add_zero'] at hw993_0)
         cases e993
         have qi993 : (0 < l1.length) = True := eq_true (by omega)
         (try rw [show ((0 : Int)).toNat = 0 from rfl] at hx993_0)
         (try rw [Addr.add_zero'] at hx993_0)
         replace hx993_0 := (HB.out.cell (World.block_lt_of_cell? w _ hx993_0)).trans hx993_0
         replace p993 := eq_true p993
         replace q993 := eq_true q993
         refine start_ (n := 16) (S := fun w' => w'.cell? (ad992.add (x6_1).toNat) = some (.int .i64 (rd l0 x6_1)) ∧ w'.cell? ad993 = some (.int .i64 (rd l1 0))) (ds := []) #[false, false, false, false, false, false, false, false, false, false, false, false, false, false, false, false] (by kernel_rfl) rfl rfl ⟨((HB.out.cell (World.block_lt_of_cell? w _ hw992_0)).trans hw992_0), ((HB.out.cell (World.block_lt_of_cell? w _ hw993_0)).trans hw993_0)⟩ (fun hHeld => ?_); refine with_tabW spec_l02Holds.tab7 spec_l02Holds.bits7 (fun HT_ HW_ => ?_)
         generalize wr.drew = w11 at HO_5 HB hx992_0 hx993_0 hHeld ⊢
         refine puA (i := 0) (N := some 17) HT_.out ?_
         refine puA (i := 1) (N := some 18) HT_.out ?_
         refine puA (i := 2) (N := some 19) HT_.out ?_
         refine puA (i := 4) (N := some 21) HT_.out ?_
         refine puA (i := 5) (N := some 22) HT_.out ?_
         refine tkA2 (i := 3) (N := some 20) HT_.out HW_.out hHeld ?_
         refine tkA2 (i := 6) (N := some 23) HT_.out HW_.out hHeld ?_
         refine puA (i := 7) (N := some 24) HT_.out ?_
         refine puA (i := 8) (N := some 25) HT_.out ?_
         refine puU (i := 9) (N := some 26) HT_.out ?_
         refine puU (i := 10) (N := some 27) HT_.out ?_
         refine puU (i := 11) (N := some 28) HT_.out ?_
         refine puU (i := 12) (N := some 29) HT_.out ?_
         refine puU (i := 13) (N := some 30) HT_.out ?_
         refine puU (i := 14) (N := some 31) HT_.out ?_
         refine puA (i := 15) (N := some 32) HT_.out ?_
         refine done_ (done_of HT_.out (by kernel_rfl)) ?_
         try go_wp2
         go_meet
         case rel => exact ⟨_, (true), (by first | rfl | (simp; done) | (simp [*]; done)), H', ⟨by have := HK1.out; first | omega | exact Nat.le_refl _⟩, ⟨rk HO_5.out⟩, ⟨bl HB.out⟩⟩
        ·rw [if_neg c10] at H
         have c10b0 : decide ((rd l0 x6_1) < (rd l1 0)) = false := decide_eq_false c10
         clear c10
         replace H := Option.bind_eq_some_iff.mp H
         obtain ⟨t995, A120, H⟩ := H
         try dsimp only at H
         have A12 := Aside0.mk A120
         clear A120
         have H' := Aside0.mk H
         clear H
         try go_wp2
         replace HO_5 := Aside0.mk (Kd.R_drew HO_5.out)
         replace HB := Aside0.mk (below_drew1 HB.out)
         have p992 : 0 ≤ (x6_1 : Int) := of_decide_eq_true asm
         have q992 : x6_1 < (l0.length : Int) := of_decide_eq_true asm
         obtain ⟨ad992, e992, hx992_0⟩ := Kd.at_int HR0.out x6_1 p992 q992
         have hw992_0 := hx992_0
         cases e992
         replace hx992_0 := (HB.out.cell (World.block_lt_of_cell? w _ hx992_0)).trans hx992_0
         replace p992 := eq_true p992
         replace q992 := eq_true q992
         have p993 : 0 ≤ (0 : Int) := (by omega)
         have q993 : 0 < (l1.length : Int) := of_decide_eq_true asm
         obtain ⟨ad993, e993, hx993_0⟩ := Kd.at_int HR1.out 0 p993 q993
         have hw993_0 := hx993_0
         (try rw [show ((0 : Int)).toNat = 0 from rfl] at hw993_0)
         (try rw [show 0 * 1 = 0 from rfl] at hw993_0)
         (try rw [Addr.add_zero'] at hw993_0)
         cases e993
         have qi993 : (0 < l1.length) = True := eq_true (by omega)
         (try rw [show ((0 : Int)).toNat = 0 from rfl] at hx993_0)
         (try rw [Addr.add_zero'] at hx993_0)
         replace hx993_0 := (HB.out.cell (World.block_lt_of_cell? w _ hx993_0)).trans hx993_0
         replace p993 := eq_true p993
         replace q993 := eq_true q993
         have p994 : 0 ≤ (x6_1 : Int) := of_decide_eq_true asm
         have q994 : x6_1 < (l0.length : Int) := of_decide_eq_true asm
         obtain ⟨ad994, e994, hx994_0⟩ := Kd.at_int HR0.out x6_1 p994 q994
         have hw994_0 := hx994_0
         obtain rfl : ad992 = ad994 := (by injection e994)
         replace hx994_0 := (HB.out.cell (World.block_lt_of_cell? w _ hx994_0)).trans hx994_0
         replace p994 := eq_true p994
         replace q994 := eq_true q994
         obtain ⟨Ao14, co14, eo14⟩ := Kd.R_slice HO_5.out
         (first | subst eo14 | (injection eo14 with f1_ f2_ f3_; have f4_ := f1_.symm; have f5_ := f3_.symm; clear f1_ f2_ f3_; subst f4_; subst f5_))
         refine start_ (n := 16) (S := fun w' => w'.cell? (ad992.add (x6_1).toNat) = some (.int .i64 (rd l0 x6_1)) ∧ w'.cell? ad993 = some (.int .i64 (rd l1 0)) ∧ w'.cell? (ad992.add (x6_1).toNat) = some (.int .i64 (rd l0 x6_1))) (ds := []) #[false, false, false, false, false, false, false, false, false, false, false, false, false, false, false, false] (by kernel_rfl) rfl rfl ⟨((HB.out.cell (World.block_lt_of_cell? w _ hw992_0)).trans hw992_0), ((HB.out.cell (World.block_lt_of_cell? w _ hw993_0)).trans hw993_0), ((HB.out.cell (World.block_lt_of_cell? w _ hw994_0)).trans hw994_0)⟩ (fun hHeld => ?_); refine with_tabW spec_l02Holds.tab7 spec_l02Holds.bits7 (fun HT_ HW_ => ?_)
         generalize wr.drew = w13 at HO_5 HB hx992_0 hx993_0 hx994_0 hHeld ⊢
         refine puA (i := 0) (N := some 17) HT_.out ?_
         refine puA (i := 1) (N := some 18) HT_.out ?_
         refine puA (i := 2) (N := some 19) HT_.out ?_
         refine puA (i := 4) (N := some 21) HT_.out ?_
         refine puA (i := 5) (N := some 22) HT_.out ?_
         refine tkA3 (i := 3) (N := some 20) HT_.out HW_.out hHeld ?_
         refine tkA3 (i := 6) (N := some 23) HT_.out HW_.out hHeld ?_
         refine puA (i := 7) (N := some 24) HT_.out ?_
         refine puA (i := 8) (N := some 25) HT_.out ?_
         refine puA (i := 9) (N := some 26) HT_.out ?_
         refine puA (i := 10) (N := some 27) HT_.out ?_
         refine puA (i := 11) (N := some 28) HT_.out ?_
         refine puA (i := 12) (N := some 29) HT_.out ?_
         refine tkA3 (i := 13) (N := some 30) HT_.out HW_.out hHeld ?_
         refine onA (i := 14) (N := some 31) HT_.out (fun K hK => ?_)
         refine goes_ Try.func93 (by kernel_rfl) rfl #[.slice Ao14 x5_1.length co14, .int .i64 (rd l0 x6_1)] (by rfl) rfl rfl mapd ?_
         with_reducible refine (spec_l02Has.calls k1 _ _ x5_1 (rd l0 x6_1) t995 _ ?side1 ?side2 A12.out).mono ?_
         (case side1 => exact cb ((Kd.R_reads' HO_5.out).2.2))
         (case side2 => exact (Kd.R_reads' HO_5.out).2.1)
         rintro e w' ⟨rfl, ⟨nd, rfl⟩⟩
         refine ⟨_, rfl, ?_⟩
         refine hK.out _ _ ⟨((HB.out.cell (World.block_lt_of_cell? w _ hw992_0)).trans hw992_0), ((HB.out.cell (World.block_lt_of_cell? w _ hw993_0)).trans hw993_0), ((HB.out.cell (World.block_lt_of_cell? w _ hw994_0)).trans hw994_0)⟩ (fun hHeld => ?_)
         clear hK K
         refine norm_ (a' := ?_) ?_ ?_
         rotate_left
         ·show Act.put _ (some 31) _ = _
          simp only [Act.put, List.setIfInBounds_toArray, List.set_cons_zero, List.set_cons_succ, i64_w, i32_w]
          rfl
         refine puA (i := 15) (N := some 32) HT_.out ?_
         refine done_ (done_of HT_.out (by kernel_rfl)) ?_
         try go_wp2
         go_meet
         case rel => exact ⟨_, (t995), (by first | rfl | (simp; done) | (simp [*]; done)), H', ⟨by have := HK1.out; first | omega | exact Nat.le_refl _⟩, ⟨rk HO_5.out⟩, ⟨bl HB.out⟩⟩
       ·rw [if_neg c9] at H
        exact absurd H (by simp)
      ·rw [if_neg c8] at H
       exact absurd H (by simp)
     case rest =>
      clear HC7
      try clear c1
      try clear p2
      try clear c3
      try clear c3b0
      try clear c3b1
      try clear c3b2
      try clear c6
      try clear c6b0
      try clear c8
      try clear c8b0
      try clear c9
      try clear c9b0
      try clear c9b1
      try clear p9
      try clear q9
      try clear hx9
      try clear qi9
      try clear c10
      try clear c10b0
      try clear hx992_0
      try clear hx993_0
      try clear hx994_0
      try clear p2
      try clear p992
      try clear p993
      try clear p994
      try clear q992
      try clear q993
      try clear q994
      obtain ⟨kq, x32_6, rfl, HA, HJ6, HO_5, HB⟩ := hcut
      cases kq with
      | zero => exact absurd HA.out (by simp [spec_l02Holds.j1])
      | succ kj6 =>
       have H := HA.out
       clear HA
       simp only [spec_l02Holds.j1] at H
       by_cases c15 : x32_6 = true
       ·subst c15
        rw [if_pos rfl] at H
        have H' := Aside0.mk H
        clear H
        go_wp2
        go_roundg kj6
        case measure => have := HK1.out; have := HJ6.out; omega
        case rel => exact ⟨(x5_1), (wrap64 (x6_1 + 1)), (by first | rfl | (simp; done) | (simp [*]; done)), H', ⟨by have := HK1.out; have := HJ6.out; omega⟩, ⟨rk HO_5.out⟩, ⟨bl HB.out⟩⟩
       ·replace c15 := Bool.eq_false_iff.mpr c15
        subst c15
        rw [if_neg (show ¬ (false = true) by decide)] at H
        by_cases c16 : 0 ≤ x6_1
        ·rw [if_pos c16] at H
         have c16b0 : decide (0 ≤ x6_1) = true := decide_eq_true c16
         clear c16
         by_cases c17 : x6_1 < (l0.length : Int)
         ·rw [if_pos c17] at H
          have c17b0 : decide (x6_1 < (l0.length : Int)) = true := decide_eq_true c17
          clear c17
          by_cases c18 : x5_1.length < 17592186044416
          ·rw [if_pos c18] at H
           have LMc18 := Aside0.mk c18
           clear c18
           obtain ⟨y997, hy997⟩ : ∃ y_ : List Int, y_ = (x5_1 ++ [rd l0 x6_1]) := ⟨_, rfl⟩
           replace H : (if 0 < (l1.length : Int) then ((spec_l02Less.f l0 x6_1 (rd l1 0)).bind fun t1001 => (if 1 ≤ (l1.length : Int) then ((spec_l02Holds.f kj6 t1001 (l1.drop 1)).bind fun t1005 => (if t1005 = true then (some true) else (spec_l02Holds.l0 kj6 l0 l1 y997 (wrap64 (x6_1 + 1))))) else (none))) else (none)) = some r := by first | (rw [hy997]; with_reducible exact H) | (have H2_ := (Option.bind_some _ _).symm.trans H; rw [hy997]; with_reducible exact H2_) | (have H2_ := (Option.bind_some _ _).symm.trans H; with_reducible exact H2_) | with_reducible exact H | (rw [hy997]; exact H) | exact H
           have Ny997 := Aside0.mk hy997
           clear hy997
           by_cases c19 : 0 < (l1.length : Int)
           ·rw [if_pos c19] at H
            have c19b0 : decide (0 < (l1.length : Int)) = true := decide_eq_true c19
            have c19b1 : decide (0 < l1.length) = true := decide_eq_true (by omega)
            clear c19
            replace H := Option.bind_eq_some_iff.mp H
            obtain ⟨t1001, A200, H⟩ := H
            try dsimp only at H
            have A20 := Aside0.mk A200
            clear A200
            by_cases c21 : 1 ≤ (l1.length : Int)
            ·rw [if_pos c21] at H
             have c21b0 := eq_true c21
             have c21b1 : decide (1 ≤ (l1.length : Int)) = true := decide_eq_true c21
             clear c21
             replace H := Option.bind_eq_some_iff.mp H
             obtain ⟨t1005, A220, H⟩ := H
             try dsimp only at H
             have A22 := Aside0.mk A220
             clear A220
             by_cases c23 : t1005 = true
             ·subst c23
              rw [if_pos rfl] at H
              obtain rfl := Option.some.inj H
              have p996 : 0 ≤ (x6_1 : Int) := of_decide_eq_true asm
              have q996 : x6_1 < (l0.length : Int) := of_decide_eq_true asm
              obtain ⟨ad996, e996, hx996_0⟩ := Kd.at_int HR0.out x6_1 p996 q996
              cases e996
              replace hx996_0 := (HB.out.cell (World.block_lt_of_cell? w _ hx996_0)).trans hx996_0
              replace p996 := eq_true p996
              replace q996 := eq_true q996
              try go_wp2_with (first | ((with_reducible refine gate_builtin (b := .append) (xs := #[.tmp 33, .tmp 38]) rfl ?_); at_builtin; refine Kd.R_append (Kd.int .i64) (w0 := w) w.heap.size rfl (.tmp 33) (.tmp 38) 38 3 (.int .i64 0) 8 rfl Try.underlying38 info3 rfl (by decide) (by omega) u5 x5_1 (rd l0 x6_1) [.int .i64 (rd l0 x6_1)] (fun _ => True) (fun _ => False) rfl rfl ?aP (fun _ hk => hk.elim) ?aF ?aO ?aB ?aS ?aL ?_; (case aP => exact rfl); (case aB => exact (bl HB.out)); (case aF => exact (fun _ _ => trivial)); (case aO => exact (rk HO_5.out)); (case aS => exact (below_size (bl HB.out))); (case aL => have := LMc18.out; omega); intro v998 w24 ho hb hg hat; rw [← Ny997.out] at ho; replace HB := Aside0.mk (hb); have HO999 := Aside0.mk (ho); clear HO_5; clear ho hb hg hat))
              replace HO999 := Aside0.mk (Kd.R_drew HO999.out)
              replace HB := Aside0.mk (below_drew1 HB.out)
              have p1000 : 0 ≤ (0 : Int) := (by omega)
              have q1000 : 0 < (l1.length : Int) := of_decide_eq_true asm
              obtain ⟨ad1000, e1000, hx1000_0⟩ := Kd.at_int HR1.out 0 p1000 q1000
              have hw1000_0 := hx1000_0
              (try rw [show ((0 : Int)).toNat = 0 from rfl] at hw1000_0)
              (try rw [show 0 * 1 = 0 from rfl] at hw1000_0)
              (try rw [Addr.add_zero'] at hw1000_0)
              cases e1000
              have qi1000 : (0 < l1.length) = True := eq_true (by omega)
              (try rw [show ((0 : Int)).toNat = 0 from rfl] at hx1000_0)
              (try rw [Addr.add_zero'] at hx1000_0)
              replace hx1000_0 := (HB.out.cell (World.block_lt_of_cell? w _ hx1000_0)).trans hx1000_0
              replace p1000 := eq_true p1000
              replace q1000 := eq_true q1000
              obtain ⟨i026, hi026, _, hsz26, _⟩ := info_parts info3
              obtain ⟨A26, hcut26, hA26, hC26⟩ := print_drop_of (P := Try.prog) (Value.int .i64) 0 38 3 .i64 Try.underlying38 hi026 hsz26 (some ad1000) c1 l1 1 (by omega) (of_decide_eq_true asm) HC1.out
              have HR1004 := Aside0.mk (Kd.C_of_reads (h1 := fun _ => rfl) (hA26 _ (Kd.reads_of_C HR1.out)))
              have HC1004 := Aside0.mk hC26
              clear hA26 hC26 hi026 hsz26
              refine start_ (n := 9) (S := fun w' => w'.cell? ad1000 = some (.int .i64 (rd l1 0))) (ds := []) #[false, false, false, false, false, false, false, false, false] (by kernel_rfl) rfl rfl (((HB.out.cell (World.block_lt_of_cell? w _ hw1000_0)).trans hw1000_0)) (fun hHeld => ?_); refine with_tabW spec_l02Holds.tab9 spec_l02Holds.bits9 (fun HT_ HW_ => ?_)
              generalize w24.drew = w25 at HO999 HB HR1004 hx1000_0 hHeld ⊢
              refine puA (i := 0) (N := some 40) HT_.out ?_
              refine puA (i := 1) (N := some 41) HT_.out ?_
              refine puA (i := 2) (N := some 42) HT_.out ?_
              refine puA (i := 3) (N := some 43) HT_.out ?_
              refine puA (i := 6) (N := some 46) HT_.out ?_
              refine puA (i := 7) (N := some 47) HT_.out ?_
              refine take_ (i := 4) (N := some 44) (v := ?_) (a' := ?_) #[true, true, true, true, true, false, true, true, false] rfl rfl (take_ofW HT_.out HW_.out (by kernel_rfl)) (fun _ _ _ h => h) (Or.inl ⟨by rfl, ?_⟩) hHeld ?_ ?_
              rotate_left
              ·intro w' s0
               go_simp
               with_reducible rfl
              rotate_left
              ·simp only [Act.put, List.setIfInBounds_toArray, List.set_cons_zero, List.set_cons_succ, i64_w, i32_w]
               rfl
              refine onA (i := 5) (N := some 45) HT_.out (fun K hK => ?_)
              refine goes_ Try.func104 (by kernel_rfl) rfl #[.slice (some ad996) l0.length c0, .int .i64 x6_1, .int .i64 (rd l1 0)] (by rfl) rfl rfl mapd ?_
              with_reducible refine (spec_l02Less.calls _ _ l0 x6_1 (rd l1 0) t1001 _ ?side1 ?side2 A20.out).mono ?_
              (case side1 => exact cb (Kd.C_below HR0.out HB.out))
              (case side2 => exact HC0.out)
              rintro e w27 ⟨v1002, rfl, ho0, hb⟩
              refine ⟨_, rfl, ?_⟩
              have HO1003 := Aside0.mk (Kd.R_lower (Kd.R_new' ho0 (Kd.R_lt (rk HO999.out))) (below_size (bl HB.out)))
              replace HO999 := Aside0.mk (Kd.R_elder' (rk HO999.out) (Kd.R_base ho0) hb)
              replace HB := Aside0.mk (below_step (bl HB.out) hb)
              (try clear hb)
              (try clear hb2)
              (try clear hk)
              (try clear hi)
              (try clear ho0)
              obtain ⟨Ao28, co28, eo28⟩ := Kd.R_slice HO1003.out
              (first | subst eo28 | (injection eo28 with f1_ f2_ f3_; have f4_ := f1_.symm; have f5_ := f3_.symm; clear f1_ f2_ f3_; subst f4_; subst f5_))
              refine hK.out _ _ (((HB.out.cell (World.block_lt_of_cell? w _ hw1000_0)).trans hw1000_0)) (fun hHeld => ?_)
              clear hK K
              refine norm_ (a' := ?_) ?_ ?_
              rotate_left
              ·show Act.put _ (some 45) _ = _
               simp only [Act.put, List.setIfInBounds_toArray, List.set_cons_zero, List.set_cons_succ, i64_w, i32_w]
               rfl
              refine onA (i := 8) (N := some 48) HT_.out (fun K hK => ?_)
              refine goes_ Try.func102 (by kernel_rfl) rfl #[.slice Ao28 t1001.length co28, .slice A26 (l1.drop 1).length (c1 - 1)] (by rfl) rfl rfl (by (try simp only [List.map_toArray, List.map_cons, List.map_nil]); first | done | (rw [show (l1.drop 1).length = (l1.length - 1) from List.length_drop] <;> rfl) | rfl | (simp only [List.length_drop, List.length_take]; rfl)) ?_
              with_reducible refine (ih kj6 (by have := HK1.out; have := HJ6.out; omega) _ _ t1001 _ _ (l1.drop 1) true _ ?side1 ?side2 ?side3 ?side4 A22.out).mono ?_
              (case side1 => exact cb ((Kd.R_reads' HO1003.out).2.2))
              (case side2 => exact (Kd.R_reads' HO1003.out).2.1)
              (case side3 => exact cb (Kd.C_below HR1004.out HB.out))
              (case side4 => exact HC1004.out)
              rintro e w29 ⟨rfl, hb⟩
              refine ⟨_, rfl, ?_⟩
              replace HO999 := Aside0.mk (Kd.R_below (rk HO999.out) hb)
              replace HO1003 := Aside0.mk (Kd.R_below (rk HO1003.out) hb)
              replace HB := Aside0.mk (below_step (bl HB.out) hb)
              (try clear hb)
              (try clear hb2)
              (try clear hk)
              (try clear hi)
              refine hK.out _ _ (((HB.out.cell (World.block_lt_of_cell? w _ hw1000_0)).trans hw1000_0)) (fun hHeld => ?_)
              clear hK K
              refine norm_ (a' := ?_) ?_ ?_
              rotate_left
              ·show Act.put _ (some 48) _ = _
               simp only [Act.put, List.setIfInBounds_toArray, List.set_cons_zero, List.set_cons_succ, i64_w, i32_w]
               rfl
              refine done_ (done_of HT_.out (by kernel_rfl)) ?_
              try go_wp2
              go_ret
              exact ⟨by first | rfl | (simp [errW_none, errW_some] <;> rfl) | (simp [*, errW_none, errW_some] <;> rfl), bl HB.out⟩
             ·replace c23 := Bool.eq_false_iff.mpr c23
              subst c23
              rw [if_neg (show ¬ (false = true) by decide)] at H
              have H' := Aside0.mk H
              clear H
              have p996 : 0 ≤ (x6_1 : Int) := of_decide_eq_true asm
              have q996 : x6_1 < (l0.length : Int) := of_decide_eq_true asm
              obtain ⟨ad996, e996, hx996_0⟩ := Kd.at_int HR0.out x6_1 p996 q996
              cases e996
              replace hx996_0 := (HB.out.cell (World.block_lt_of_cell? w _ hx996_0)).trans hx996_0
              replace p996 := eq_true p996
              replace q996 := eq_true q996
              try go_wp2_with (first | ((with_reducible refine gate_builtin (b := .append) (xs := #[.tmp 33, .tmp 38]) rfl ?_); at_builtin; refine Kd.R_append (Kd.int .i64) (w0 := w) w.heap.size rfl (.tmp 33) (.tmp 38) 38 3 (.int .i64 0) 8 rfl Try.underlying38 info3 rfl (by decide) (by omega) u5 x5_1 (rd l0 x6_1) [.int .i64 (rd l0 x6_1)] (fun _ => True) (fun _ => False) rfl rfl ?aP (fun _ hk => hk.elim) ?aF ?aO ?aB ?aS ?aL ?_; (case aP => exact rfl); (case aB => exact (bl HB.out)); (case aF => exact (fun _ _ => trivial)); (case aO => exact (rk HO_5.out)); (case aS => exact (below_size (bl HB.out))); (case aL => have := LMc18.out; omega); intro v998 w30 ho hb hg hat; rw [← Ny997.out] at ho; replace HB := Aside0.mk (hb); have HO999 := Aside0.mk (ho); clear HO_5; clear ho hb hg hat))
              replace HO999 := Aside0.mk (Kd.R_drew HO999.out)
              replace HB := Aside0.mk (below_drew1 HB.out)
              have p1000 : 0 ≤ (0 : Int) := (by omega)
              have q1000 : 0 < (l1.length : Int) := of_decide_eq_true asm
              obtain ⟨ad1000, e1000, hx1000_0⟩ := Kd.at_int HR1.out 0 p1000 q1000
              have hw1000_0 := hx1000_0
              (try rw [show ((0 : Int)).toNat = 0 from rfl] at hw1000_0)
              (try rw [show 0 * 1 = 0 from rfl] at hw1000_0)
              (try rw [Addr.add_zero'] at hw1000_0)
              cases e1000
              have qi1000 : (0 < l1.length) = True := eq_true (by omega)
              (try rw [show ((0 : Int)).toNat = 0 from rfl] at hx1000_0)
              (try rw [Addr.add_zero'] at hx1000_0)
              replace hx1000_0 := (HB.out.cell (World.block_lt_of_cell? w _ hx1000_0)).trans hx1000_0
              replace p1000 := eq_true p1000
              replace q1000 := eq_true q1000
              obtain ⟨i032, hi032, _, hsz32, _⟩ := info_parts info3
              obtain ⟨A32, hcut32, hA32, hC32⟩ := print_drop_of (P := Try.prog) (Value.int .i64) 0 38 3 .i64 Try.underlying38 hi032 hsz32 (some ad1000) c1 l1 1 (by omega) (of_decide_eq_true asm) HC1.out
              have HR1004 := Aside0.mk (Kd.C_of_reads (h1 := fun _ => rfl) (hA32 _ (Kd.reads_of_C HR1.out)))
              have HC1004 := Aside0.mk hC32
              clear hA32 hC32 hi032 hsz32
              refine start_ (n := 9) (S := fun w' => w'.cell? ad1000 = some (.int .i64 (rd l1 0))) (ds := []) #[false, false, false, false, false, false, false, false, false] (by kernel_rfl) rfl rfl (((HB.out.cell (World.block_lt_of_cell? w _ hw1000_0)).trans hw1000_0)) (fun hHeld => ?_); refine with_tabW spec_l02Holds.tab9 spec_l02Holds.bits9 (fun HT_ HW_ => ?_)
              generalize w30.drew = w31 at HO999 HB HR1004 hx1000_0 hHeld ⊢
              refine puA (i := 0) (N := some 40) HT_.out ?_
              refine puA (i := 1) (N := some 41) HT_.out ?_
              refine puA (i := 2) (N := some 42) HT_.out ?_
              refine puA (i := 3) (N := some 43) HT_.out ?_
              refine puA (i := 6) (N := some 46) HT_.out ?_
              refine puA (i := 7) (N := some 47) HT_.out ?_
              refine take_ (i := 4) (N := some 44) (v := ?_) (a' := ?_) #[true, true, true, true, true, false, true, true, false] rfl rfl (take_ofW HT_.out HW_.out (by kernel_rfl)) (fun _ _ _ h => h) (Or.inl ⟨by rfl, ?_⟩) hHeld ?_ ?_
              rotate_left
              ·intro w' s0
               go_simp
               with_reducible rfl
              rotate_left
              ·simp only [Act.put, List.setIfInBounds_toArray, List.set_cons_zero, List.set_cons_succ, i64_w, i32_w]
               rfl
              refine onA (i := 5) (N := some 45) HT_.out (fun K hK => ?_)
              refine goes_ Try.func104 (by kernel_rfl) rfl #[.slice (some ad996) l0.length c0, .int .i64 x6_1, .int .i64 (rd l1 0)] (by rfl) rfl rfl mapd ?_
              with_reducible refine (spec_l02Less.calls _ _ l0 x6_1 (rd l1 0) t1001 _ ?side1 ?side2 A20.out).mono ?_
              (case side1 => exact cb (Kd.C_below HR0.out HB.out))
              (case side2 => exact HC0.out)
              rintro e w33 ⟨v1002, rfl, ho0, hb⟩
              refine ⟨_, rfl, ?_⟩
              have HO1003 := Aside0.mk (Kd.R_lower (Kd.R_new' ho0 (Kd.R_lt (rk HO999.out))) (below_size (bl HB.out)))
              replace HO999 := Aside0.mk (Kd.R_elder' (rk HO999.out) (Kd.R_base ho0) hb)
              replace HB := Aside0.mk (below_step (bl HB.out) hb)
              (try clear hb)
              (try clear hb2)
              (try clear hk)
              (try clear hi)
              (try clear ho0)
              obtain ⟨Ao34, co34, eo34⟩ := Kd.R_slice HO1003.out
              (first | subst eo34 | (injection eo34 with f1_ f2_ f3_; have f4_ := f1_.symm; have f5_ := f3_.symm; clear f1_ f2_ f3_; subst f4_; subst f5_))
              refine hK.out _ _ (((HB.out.cell (World.block_lt_of_cell? w _ hw1000_0)).trans hw1000_0)) (fun hHeld => ?_)
              clear hK K
              refine norm_ (a' := ?_) ?_ ?_
              rotate_left
              ·show Act.put _ (some 45) _ = _
               simp only [Act.put, List.setIfInBounds_toArray, List.set_cons_zero, List.set_cons_succ, i64_w, i32_w]
               rfl
              refine onA (i := 8) (N := some 48) HT_.out (fun K hK => ?_)
              refine goes_ Try.func102 (by kernel_rfl) rfl #[.slice Ao34 t1001.length co34, .slice A32 (l1.drop 1).length (c1 - 1)] (by rfl) rfl rfl (by (try simp only [List.map_toArray, List.map_cons, List.map_nil]); first | done | (rw [show (l1.drop 1).length = (l1.length - 1) from List.length_drop] <;> rfl) | rfl | (simp only [List.length_drop, List.length_take]; rfl)) ?_
              with_reducible refine (ih kj6 (by have := HK1.out; have := HJ6.out; omega) _ _ t1001 _ _ (l1.drop 1) false _ ?side1 ?side2 ?side3 ?side4 A22.out).mono ?_
              (case side1 => exact cb ((Kd.R_reads' HO1003.out).2.2))
              (case side2 => exact (Kd.R_reads' HO1003.out).2.1)
              (case side3 => exact cb (Kd.C_below HR1004.out HB.out))
              (case side4 => exact HC1004.out)
              rintro e w35 ⟨rfl, hb⟩
              refine ⟨_, rfl, ?_⟩
              replace HO999 := Aside0.mk (Kd.R_below (rk HO999.out) hb)
              replace HO1003 := Aside0.mk (Kd.R_below (rk HO1003.out) hb)
              replace HB := Aside0.mk (below_step (bl HB.out) hb)
              (try clear hb)
              (try clear hb2)
              (try clear hk)
              (try clear hi)
              refine hK.out _ _ (((HB.out.cell (World.block_lt_of_cell? w _ hw1000_0)).trans hw1000_0)) (fun hHeld => ?_)
              clear hK K
              refine norm_ (a' := ?_) ?_ ?_
              rotate_left
              ·show Act.put _ (some 48) _ = _
               simp only [Act.put, List.setIfInBounds_toArray, List.set_cons_zero, List.set_cons_succ, i64_w, i32_w]
               rfl
              refine done_ (done_of HT_.out (by kernel_rfl)) ?_
              try go_wp2
              go_roundg kj6
              case measure => have := HK1.out; have := HJ6.out; omega
              case rel => exact ⟨(y997), (wrap64 (x6_1 + 1)), (by first | rfl | (simp; done) | (simp [*]; done)), H', ⟨by have := HK1.out; have := HJ6.out; omega⟩, ⟨by refine rk ?_; exact Kd.R_mono HO999.out (fun _ hk => trivial)⟩, ⟨bl HB.out⟩⟩
            ·rw [if_neg c21] at H
             exact absurd H (by simp)
           ·rw [if_neg c19] at H
            exact absurd H (by simp)
          ·rw [if_neg c18] at H
           exact absurd H (by simp)
         ·rw [if_neg c17] at H
          exact absurd H (by simp)
        ·rw [if_neg c16] at H
         exact absurd H (by simp)
    ·rw [if_neg c6] at H
     have c6b0 : decide (x6_1 < (l0.length : Int)) = false := decide_eq_false c6
     clear c6
     obtain rfl := Option.some.inj H
     go_wp2
     go_ret
     exact ⟨by first | rfl | (simp [errW_none, errW_some] <;> rfl) | (simp [*, errW_none, errW_some] <;> rfl), bl HB.out⟩
end Go.Proofs.Ytbpjidekjogfeaa.A

namespace Go.Proofs.Ytbpjidekjogfeaa.A
open Go.RowKit Go.Proofs.YtbpjidekjogfeaaW.PrintWords Go.Proofs.YtbpjidekjogfeaaW.PrintLast Go.Proofs.YtbpjidekjogfeaaW.PrintMore
attribute [local go_sem] max2_int min2_int max_two min_two max_three min_three max_four min_four   
set_option linter.unusedVariables false
set_option linter.unusedSimpArgs false
mutual
def spec_l02Down.l0 : Nat → List Int → List Int → Int → Option (List Int)
 | 0, _, _, _ => none
 | k + 1, x0, x3, x4 => if x4 < (x0.length : Int) then (if 0 ≤ x4 then (if x3.length < 17592186044416 then ((some (x3 ++ [rd x0 x4] : List Int)).bind fun y1010 => (spec_l02Down.l1 k x0 y1010 x4 (wrap64 ((y1010.length : Int) - 1)))) else (none)) else (none)) else (some x3)
def spec_l02Down.l1 : Nat → List Int → List Int → Int → Int → Option (List Int)
 | 0, _, _, _, _ => none
 | k + 1, x0, x3, x4, x5 => if x5 > 0 then (if 0 ≤ (wrap64 (x5 - 1)) then (if (wrap64 (x5 - 1)) < (x3.length : Int) then (if 0 ≤ x5 then (if x5 < (x3.length : Int) then (if (rd x3 (wrap64 (x5 - 1))) < (rd x3 x5) then (spec_l02Down.l1 k x0 ((x3.set (x5 : Int).toNat (rd x3 (wrap64 (x5 - 1)))).set ((wrap64 (x5 - 1)) : Int).toNat (rd x3 x5)) x4 (wrap64 (x5 - 1))) else (spec_l02Down.l0 k x0 x3 (wrap64 (x4 + 1)))) else (none)) else (none)) else (none)) else (none)) else (spec_l02Down.l0 k x0 x3 (wrap64 (x4 + 1)))
end
def spec_l02Down.f (k : Nat) (l0 : List Int) : Option (List Int) := spec_l02Down.l0 k l0 (([] : List Int)) 0
set_option maxHeartbeats 8000000 in
set_option maxRecDepth 100000 in
theorem spec_l02Down.calls (k : Nat) (A0 : Option Addr) (c0 : Nat) (l0 : List Int) (r : List Int) (w : World) (hr0 : Kd.C (Kd.int .i64) w A0 l0.length l0) (hc0 : l0.length ≤ c0) (h : spec_l02Down.f k l0 = some r) :
  Calls Try.prog 103 #[.slice A0 l0.length c0] w fun e w' => ∃ v0_ : Value, e = .returned (v0_) ∧ Kd.R (Kd.int .i64) 3 w' w.heap.size (fun _ => True) v0_ r ∧ Below w.heap.size w w' := by
 have HR0 := Aside0.mk hr0
 have HC0 := Aside0.mk hc0
 clear hr0 hc0
 have HB := Aside0.mk (Below.refl w.heap.size w)
 have H : (spec_l02Down.l0 k l0 (([] : List Int)) 0) = some r := h
 clear h
 obtain ⟨y1006, hy1006⟩ : ∃ y_ : List Int, y_ = (([] : List Int)) := ⟨_, rfl⟩
 replace H : (spec_l02Down.l0 k l0 y1006 0) = some r := by first | (rw [hy1006]; with_reducible exact H) | (have H2_ := (Option.bind_some _ _).symm.trans H; rw [hy1006]; with_reducible exact H2_) | (have H2_ := (Option.bind_some _ _).symm.trans H; with_reducible exact H2_) | with_reducible exact H | (rw [hy1006]; exact H) | exact H
 have Ny1006 := Aside0.mk hy1006
 clear hy1006
 have H' := Aside0.mk H
 clear H
 go_enter Try.func103, Try.ntmps103
 go_wp2_with (first | ((with_reducible refine gate_dst (N := 7) rfl ?_); refine Kd.R_lit (Kd.int .i64) _ 3 ?hg (N := 7) ?hd (xs := ([] : List Int)) (inner := []) (ok := fun _ => True) (okp := fun _ => True) ?hr ?hp (fun _ hk => hk) trivial (Below.refl _ _) (Nat.le_refl _) (by simp) ?_; (case hd => rfl); (case hg => rfl); (case hr => first | (go_simp; done) | (go_simp; rfl)); (case hp => exact (Reps.none _ _)); intro v1007 w2 ho3 hb hg_ hnew_; clear hg_ hnew_; (first | rw [← Ny1006.out] at ho3 | (simp only [Int.reduceToNat] at ho3; rw [← Ny1006.out] at ho3)); have HO1008 := Aside0.mk (Kd.R_lower ho3 (below_size (bl HB.out))); replace HB := Aside0.mk (below_step (bl HB.out) hb); clear hb ho3))
 repeat (go_quiet (first | ((with_reducible refine gate_dst (N := 7) rfl ?_); refine Kd.R_lit (Kd.int .i64) _ 3 ?hg (N := 7) ?hd (xs := ([] : List Int)) (inner := []) (ok := fun _ => True) (okp := fun _ => True) ?hr ?hp (fun _ hk => hk) trivial (Below.refl _ _) (Nat.le_refl _) (by simp) ?_; (case hd => rfl); (case hg => rfl); (case hr => first | (go_simp; done) | (go_simp; rfl)); (case hp => exact (Reps.none _ _)); intro v1007 w2 ho3 hb hg_ hnew_; clear hg_ hnew_; (first | rw [← Ny1006.out] at ho3 | (simp only [Int.reduceToNat] at ho3; rw [← Ny1006.out] at ho3)); have HO1008 := Aside0.mk (Kd.R_lower ho3 (below_size (bl HB.out))); replace HB := Aside0.mk (below_step (bl HB.out) hb); clear hb ho3)); try go_wp2_with (first | ((with_reducible refine gate_dst (N := 7) rfl ?_); refine Kd.R_lit (Kd.int .i64) _ 3 ?hg (N := 7) ?hd (xs := ([] : List Int)) (inner := []) (ok := fun _ => True) (okp := fun _ => True) ?hr ?hp (fun _ hk => hk) trivial (Below.refl _ _) (Nat.le_refl _) (by simp) ?_; (case hd => rfl); (case hg => rfl); (case hr => first | (go_simp; done) | (go_simp; rfl)); (case hp => exact (Reps.none _ _)); intro v1007 w2 ho3 hb hg_ hnew_; clear hg_ hnew_; (first | rw [← Ny1006.out] at ho3 | (simp only [Int.reduceToNat] at ho3; rw [← Ny1006.out] at ho3)); have HO1008 := Aside0.mk (Kd.R_lower ho3 (below_size (bl HB.out))); replace HB := Aside0.mk (below_step (bl HB.out) hb); clear hb ho3)))
 go_loopg [3, 4] k (fun kq v3 v4 w' => ∃ (x3_1 : List Int) (x4_1 : Int), v4 = .int .i64 x4_1 ∧ Aside0 (spec_l02Down.l0 kq l0 x3_1 x4_1 = some r) ∧ Aside0 (kq ≤ k) ∧ Aside0 (Kd.R (Kd.int .i64) 3 w' w.heap.size (fun _ => True) v3 x3_1) ∧ Aside0 (Below w.heap.size w w'))
 case atStart => exact ⟨(y1006), (0), (by first | rfl | (simp; done) | (simp [*]; done)), H', ⟨Nat.le_refl _⟩, ⟨rk HO1008.out⟩, ⟨bl HB.out⟩⟩
 case round =>
  clear H'
  try clear c1
  try clear p2
  obtain ⟨x3_1, x4_1, rfl, HA, HK1, HO_3, HB⟩ := hrel
  cases gk with
  | zero => exact absurd HA.out (by simp [spec_l02Down.l0])
  | succ k1 =>
   have H := HA.out
   clear HA
   simp only [spec_l02Down.l0] at H
   by_cases c4 : x4_1 < (l0.length : Int)
   ·rw [if_pos c4] at H
    have c4b0 : decide (x4_1 < (l0.length : Int)) = true := decide_eq_true c4
    clear c4
    by_cases c5 : 0 ≤ x4_1
    ·rw [if_pos c5] at H
     have c5b0 : decide (0 ≤ x4_1) = true := decide_eq_true c5
     clear c5
     by_cases c6 : x3_1.length < 17592186044416
     ·rw [if_pos c6] at H
      have LMc6 := Aside0.mk c6
      clear c6
      obtain ⟨y1010, hy1010⟩ : ∃ y_ : List Int, y_ = (x3_1 ++ [rd l0 x4_1]) := ⟨_, rfl⟩
      replace H : (spec_l02Down.l1 k1 l0 y1010 x4_1 (wrap64 ((y1010.length : Int) - 1))) = some r := by first | (rw [hy1010]; with_reducible exact H) | (have H2_ := (Option.bind_some _ _).symm.trans H; rw [hy1010]; with_reducible exact H2_) | (have H2_ := (Option.bind_some _ _).symm.trans H; with_reducible exact H2_) | with_reducible exact H | (rw [hy1010]; exact H) | exact H
      have Ny1010 := Aside0.mk hy1010
      clear hy1010
      have H' := Aside0.mk H
      clear H
      have p1009 : 0 ≤ (x4_1 : Int) := of_decide_eq_true asm
      have q1009 : x4_1 < (l0.length : Int) := of_decide_eq_true asm
      obtain ⟨ad1009, e1009, hx1009_0⟩ := Kd.at_int HR0.out x4_1 p1009 q1009
      cases e1009
      replace hx1009_0 := (HB.out.cell (World.block_lt_of_cell? w _ hx1009_0)).trans hx1009_0
      replace p1009 := eq_true p1009
      replace q1009 := eq_true q1009
      go_wp2_with (first | ((with_reducible refine gate_builtin (b := .append) (xs := #[.tmp 14, .tmp 19]) rfl ?_); at_builtin; refine Kd.R_append (Kd.int .i64) (w0 := w) w.heap.size rfl (.tmp 14) (.tmp 19) 38 3 (.int .i64 0) 8 rfl Try.underlying38 info3 rfl (by decide) (by omega) u3 x3_1 (rd l0 x4_1) [.int .i64 (rd l0 x4_1)] (fun _ => True) (fun _ => False) rfl rfl ?aP (fun _ hk => hk.elim) ?aF ?aO ?aB ?aS ?aL ?_; (case aP => exact rfl); (case aB => exact (bl HB.out)); (case aF => exact (fun _ _ => trivial)); (case aO => exact (rk HO_3.out)); (case aS => exact (below_size (bl HB.out))); (case aL => have := LMc6.out; omega); intro v1011 w7 ho hb hg hat; rw [← Ny1010.out] at ho; replace HB := Aside0.mk (hb); have HO1012 := Aside0.mk (ho); clear HO_3; clear ho hb hg hat; obtain ⟨Ao8, co8, eo8⟩ := Kd.R_slice HO1012.out; subst eo8))
      repeat (go_quiet (first | ((with_reducible refine gate_builtin (b := .append) (xs := #[.tmp 14, .tmp 19]) rfl ?_); at_builtin; refine Kd.R_append (Kd.int .i64) (w0 := w) w.heap.size rfl (.tmp 14) (.tmp 19) 38 3 (.int .i64 0) 8 rfl Try.underlying38 info3 rfl (by decide) (by omega) u3 x3_1 (rd l0 x4_1) [.int .i64 (rd l0 x4_1)] (fun _ => True) (fun _ => False) rfl rfl ?aP (fun _ hk => hk.elim) ?aF ?aO ?aB ?aS ?aL ?_; (case aP => exact rfl); (case aB => exact (bl HB.out)); (case aF => exact (fun _ _ => trivial)); (case aO => exact (rk HO_3.out)); (case aS => exact (below_size (bl HB.out))); (case aL => have := LMc6.out; omega); intro v1011 w7 ho hb hg hat; rw [← Ny1010.out] at ho; replace HB := Aside0.mk (hb); have HO1012 := Aside0.mk (ho); clear HO_3; clear ho hb hg hat; obtain ⟨Ao8, co8, eo8⟩ := Kd.R_slice HO1012.out; subst eo8)); try go_wp2_with (first | ((with_reducible refine gate_builtin (b := .append) (xs := #[.tmp 14, .tmp 19]) rfl ?_); at_builtin; refine Kd.R_append (Kd.int .i64) (w0 := w) w.heap.size rfl (.tmp 14) (.tmp 19) 38 3 (.int .i64 0) 8 rfl Try.underlying38 info3 rfl (by decide) (by omega) u3 x3_1 (rd l0 x4_1) [.int .i64 (rd l0 x4_1)] (fun _ => True) (fun _ => False) rfl rfl ?aP (fun _ hk => hk.elim) ?aF ?aO ?aB ?aS ?aL ?_; (case aP => exact rfl); (case aB => exact (bl HB.out)); (case aF => exact (fun _ _ => trivial)); (case aO => exact (rk HO_3.out)); (case aS => exact (below_size (bl HB.out))); (case aL => have := LMc6.out; omega); intro v1011 w7 ho hb hg hat; rw [← Ny1010.out] at ho; replace HB := Aside0.mk (hb); have HO1012 := Aside0.mk (ho); clear HO_3; clear ho hb hg hat; obtain ⟨Ao8, co8, eo8⟩ := Kd.R_slice HO1012.out; subst eo8)))
      go_loopg [5] k1 (fun kq v5 w' => ∃ (x3_2 : List Int) (x5_2 : Int), v5 = .int .i64 x5_2 ∧ Aside0 (spec_l02Down.l1 kq l0 x3_2 x4_1 x5_2 = some r) ∧ Aside0 (kq ≤ k1) ∧ Aside0 (Kd.R (Kd.int .i64) 3 w' w.heap.size (fun _ => True) (.slice Ao8 y1010.length co8) x3_2) ∧ Aside0 (Below w.heap.size w w'))
      case atStart => exact ⟨(y1010), (wrap64 ((y1010.length : Int) - 1)), (by first | rfl | (simp; done) | (simp [*]; done)), H', ⟨Nat.le_refl _⟩, ⟨rk HO1012.out⟩, ⟨bl HB.out⟩⟩
      case round =>
       clear H'
       try clear c1
       try clear p1
       try clear q1
       try clear hx1
       try clear p2
       try clear c4
       try clear c4b0
       try clear c5
       try clear c5b0
       try clear c6
       try clear p6
       try clear hx1009_0
       try clear p1009
       try clear p2
       try clear q1009
       obtain ⟨x3_2, x5_2, rfl, HA, HK2, HO_3, HB⟩ := hrel
       have hl3_2 := (Kd.R_reads' HO_3.out).1
       rw [hl3_2] at HO_3
       (try simp only [hl3_2])
       cases gk with
       | zero => exact absurd HA.out (by simp [spec_l02Down.l1])
       | succ k2 =>
        have H := HA.out
        clear HA
        simp only [spec_l02Down.l1] at H
        by_cases c9 : x5_2 > 0
        ·rw [if_pos c9] at H
         have c9b0 : decide (0 < x5_2) = true := decide_eq_true c9
         clear c9
         obtain ⟨ji10, hji10⟩ : ∃ j_ : Int, (wrap64 (x5_2 - 1)) = j_ := ⟨_, rfl⟩
         replace H : (if 0 ≤ (ji10) then (if (ji10) < (x3_2.length : Int) then (if 0 ≤ x5_2 then (if x5_2 < (x3_2.length : Int) then (if (rd x3_2 (ji10)) < (rd x3_2 x5_2) then (spec_l02Down.l1 k2 l0 ((x3_2.set (x5_2 : Int).toNat (rd x3_2 (ji10))).set ((ji10) : Int).toNat (rd x3_2 x5_2)) x4_1 ji10) else (spec_l02Down.l0 k2 l0 x3_2 (wrap64 (x4_1 + 1)))) else (none)) else (none)) else (none)) else (none)) = some r := by first | (rw [hji10] at H; exact H) | (simp only [hji10] at H ⊢; exact H)
         have hji10w : (IntKind.i64.wrap (x5_2 - 1)) = ji10 := (i64_w _).trans hji10
         by_cases c11 : 0 ≤ (ji10)
         ·rw [if_pos c11] at H
          have c11b0 : decide (0 ≤ (ji10)) = true := decide_eq_true c11
          clear c11
          by_cases c12 : (ji10) < (x3_2.length : Int)
          ·rw [if_pos c12] at H
           have c12b0 : decide ((ji10) < (x3_2.length : Int)) = true := decide_eq_true c12
           clear c12
           by_cases c13 : 0 ≤ x5_2
           ·rw [if_pos c13] at H
            have c13b0 : decide (0 ≤ x5_2) = true := decide_eq_true c13
            clear c13
            by_cases c14 : x5_2 < (x3_2.length : Int)
            ·rw [if_pos c14] at H
             have c14b0 : decide (x5_2 < (x3_2.length : Int)) = true := decide_eq_true c14
             clear c14
             by_cases c15 : (rd x3_2 (ji10)) < (rd x3_2 x5_2)
             ·rw [if_pos c15] at H
              have c15b0 : decide ((rd x3_2 (ji10)) < (rd x3_2 x5_2)) = true := decide_eq_true c15
              clear c15
              obtain ⟨y1017, hy1017⟩ : ∃ y_ : List Int, y_ = (x3_2.set (x5_2 : Int).toNat (rd x3_2 (ji10))) := ⟨_, rfl⟩
              replace H : (spec_l02Down.l1 k2 l0 (y1017.set ((ji10) : Int).toNat (rd x3_2 x5_2)) x4_1 ji10) = some r := by first | (rw [hy1017]; with_reducible exact H) | (have H2_ := (Option.bind_some _ _).symm.trans H; rw [hy1017]; with_reducible exact H2_) | (have H2_ := (Option.bind_some _ _).symm.trans H; with_reducible exact H2_) | with_reducible exact H | (rw [hy1017]; exact H) | exact H
              have Ny1017 := Aside0.mk hy1017
              clear hy1017
              obtain ⟨y1018, hy1018⟩ : ∃ y_ : List Int, y_ = (y1017.set ((ji10) : Int).toNat (rd x3_2 x5_2)) := ⟨_, rfl⟩
              replace H : (spec_l02Down.l1 k2 l0 y1018 x4_1 ji10) = some r := by first | (rw [hy1018]; with_reducible exact H) | (have H2_ := (Option.bind_some _ _).symm.trans H; rw [hy1018]; with_reducible exact H2_) | (have H2_ := (Option.bind_some _ _).symm.trans H; with_reducible exact H2_) | with_reducible exact H | (rw [hy1018]; exact H) | exact H
              have Ny1018 := Aside0.mk hy1018
              clear hy1018
              have H' := Aside0.mk H
              clear H
              have p1013 : 0 ≤ ((ji10) : Int) := of_decide_eq_true asm
              have q1013 : (ji10) < (x3_2.length : Int) := of_decide_eq_true asm
              obtain ⟨ad1013, e1013, hx1013_0⟩ := Kd.at_int (Kd.R_reads' HO_3.out).2.2 (ji10) p1013 q1013
              cases e1013
              replace p1013 := eq_true p1013
              replace q1013 := eq_true q1013
              have p1014 : 0 ≤ (x5_2 : Int) := of_decide_eq_true asm
              have q1014 : x5_2 < (x3_2.length : Int) := of_decide_eq_true asm
              obtain ⟨ad1014, e1014, hx1014_0⟩ := Kd.at_int (Kd.R_reads' HO_3.out).2.2 x5_2 p1014 q1014
              obtain rfl : ad1013 = ad1014 := (by injection e1014)
              replace p1014 := eq_true p1014
              replace q1014 := eq_true q1014
              have p1015 : 0 ≤ (x5_2 : Int) := of_decide_eq_true asm
              have q1015 : x5_2 < (x3_2.length : Int) := of_decide_eq_true asm
              obtain ⟨ad1015, e1015, hx1015_0⟩ := Kd.at_int (Kd.R_reads' HO_3.out).2.2 x5_2 p1015 q1015
              obtain rfl : ad1013 = ad1015 := (by injection e1015)
              replace p1015 := eq_true p1015
              replace q1015 := eq_true q1015
              have p1016 : 0 ≤ ((ji10) : Int) := of_decide_eq_true asm
              have q1016 : (ji10) < (x3_2.length : Int) := of_decide_eq_true asm
              obtain ⟨ad1016, e1016, hx1016_0⟩ := Kd.at_int (Kd.R_reads' HO_3.out).2.2 (ji10) p1016 q1016
              obtain rfl : ad1013 = ad1016 := (by injection e1016)
              replace p1016 := eq_true p1016
              replace q1016 := eq_true q1016
              have p16 : 0 ≤ (x5_2 : Int) := of_decide_eq_true asm
              have q16 : (x5_2 : Int) < ((x3_2.length : Int) : Int) := of_decide_eq_true asm
              obtain ⟨go16, co16, eo16, gb16, gl16, cl16, HG16⟩ := Kd.R_form HO_3.out (by omega)
              (first | cases eo16 | (injection eo16 with ea_ en_ ec_; (first | subst ea_ | (injection ea_ with ea_; subst ea_)); subst ec_; clear en_))
              have GB16 := Aside0.mk gb16
              have GG16 := Aside0.mk HG16
              clear gb16 gl16 HG16
              (first | simp only [add_plain] at hx1013_0 | skip)
              (first | simp only [add_plain] at hx1014_0 | skip)
              (first | simp only [add_plain] at hx1015_0 | skip)
              (first | simp only [add_plain] at hx1016_0 | skip)
              obtain ⟨hx16_0, hf16_0⟩ := Kd.R_celln 0 HO_3.out (x5_2 : Int) p16 q16
              replace p16 := eq_true p16
              replace q16 := eq_true q16
              have HP18 := Kd.R_putg HO_3.out (x5_2 : Int) (rd x3_2 (ji10))
              go_wp2_with (first | ((with_reducible refine gate_store (t := 3) (p := 51) rfl ?_); (try (rw [drewN_self wr]; generalize hq_ : World.drewN wr _ = wr; replace HO_3 := Aside0.mk (Kd.R_at hq_ HO_3.out); replace HB := Aside0.mk (below_at hq_ HB.out); clear hq_; (try (obtain ⟨hy18_, hz18_⟩ := Kd.R_celln 0 HO_3.out (x5_2 : Int) (of_decide_eq_true asm) (of_decide_eq_true asm))); (try (have HP18 := Kd.R_putg HO_3.out (x5_2 : Int) (rd x3_2 (ji10)))))); refine store_event (t := 3) (p := 51) (v := ?vo_w19) (w1 := (wr.setCell ⟨go16, (x5_2 : Int).toNat, none⟩ (.int .i64 (rd x3_2 (ji10))))) ?hg ?ho ?hn ?hr ?_; (case ho => rfl); (case hg => rfl); (case hn => rfl); (case hr => first | (go_simp; done) | (go_simp; rfl)); intro w19 hw; have hg : wr.grownBy w19 (some go16) := (by rw [hw]; exact HP18.2); have hp_ : Kd.R (Kd.int .i64) 3 w19 w.heap.size (fun _ => True) (.slice (some ⟨go16, 0, none⟩) x3_2.length co8) y1017 := (by rw [hw, Ny1017.out]; exact HP18.1); clear HP18; replace HO_3 := Aside0.mk (hp_); replace HB := Aside0.mk ((by rw [hw]; exact below_set (HB.out) GB16.out : Below w.heap.size w w19)); clear hg hw hp_; have p17 : 0 ≤ ((ji10) : Int) := of_decide_eq_true asm; have q17 : ((ji10) : Int) < ((x3_2.length : Int) : Int) := of_decide_eq_true asm; obtain ⟨hx17_0, hf17_0⟩ := Kd.R_celln 0 HO_3.out ((ji10) : Int) p17 q17; replace p17 := eq_true p17; replace q17 := eq_true q17; obtain ⟨hy20_, hz20_⟩ := Kd.R_celln 0 HO_3.out ((ji10) : Int) (of_decide_eq_true asm) (of_decide_eq_true asm); have HP20 := Kd.R_putg HO_3.out ((ji10) : Int) (rd x3_2 x5_2)) | ((with_reducible refine gate_store (t := 3) (p := 56) rfl ?_); (try (rw [drewN_self w19]; generalize hq_ : World.drewN w19 _ = w19; replace HO_3 := Aside0.mk (Kd.R_at hq_ HO_3.out); replace HB := Aside0.mk (below_at hq_ HB.out); clear hq_; (try (obtain ⟨hy20_, hz20_⟩ := Kd.R_celln 0 HO_3.out ((ji10) : Int) (of_decide_eq_true asm) (of_decide_eq_true asm))); (try (have HP20 := Kd.R_putg HO_3.out ((ji10) : Int) (rd x3_2 x5_2))))); refine store_event (t := 3) (p := 56) (v := ?vo_w21) (w1 := (w19.setCell ⟨go16, ((ji10) : Int).toNat, none⟩ (.int .i64 (rd x3_2 x5_2)))) ?hg ?ho ?hn ?hr ?_; (case ho => rfl); (case hg => rfl); (case hn => rfl); (case hr => first | (go_simp; done) | (go_simp; rfl)); intro w21 hw; have hg : w19.grownBy w21 (some go16) := (by rw [hw]; exact HP20.2); have hp_ : Kd.R (Kd.int .i64) 3 w21 w.heap.size (fun _ => True) (.slice (some ⟨go16, 0, none⟩) x3_2.length co8) y1018 := (by rw [hw, Ny1018.out]; exact HP20.1); clear HP20; replace HO_3 := Aside0.mk (hp_); replace HB := Aside0.mk ((by rw [hw]; exact below_set (HB.out) GB16.out : Below w.heap.size w w21)); clear hg hw hp_))
              repeat (go_quiet (first | ((with_reducible refine gate_store (t := 3) (p := 51) rfl ?_); (try (rw [drewN_self wr]; generalize hq_ : World.drewN wr _ = wr; replace HO_3 := Aside0.mk (Kd.R_at hq_ HO_3.out); replace HB := Aside0.mk (below_at hq_ HB.out); clear hq_; (try (obtain ⟨hy18_, hz18_⟩ := Kd.R_celln 0 HO_3.out (x5_2 : Int) (of_decide_eq_true asm) (of_decide_eq_true asm))); (try (have HP18 := Kd.R_putg HO_3.out (x5_2 : Int) (rd x3_2 (ji10)))))); refine store_event (t := 3) (p := 51) (v := ?vo_w19) (w1 := (wr.setCell ⟨go16, (x5_2 : Int).toNat, none⟩ (.int .i64 (rd x3_2 (ji10))))) ?hg ?ho ?hn ?hr ?_; (case ho => rfl); (case hg => rfl); (case hn => rfl); (case hr => first | (go_simp; done) | (go_simp; rfl)); intro w19 hw; have hg : wr.grownBy w19 (some go16) := (by rw [hw]; exact HP18.2); have hp_ : Kd.R (Kd.int .i64) 3 w19 w.heap.size (fun _ => True) (.slice (some ⟨go16, 0, none⟩) x3_2.length co8) y1017 := (by rw [hw, Ny1017.out]; exact HP18.1); clear HP18; replace HO_3 := Aside0.mk (hp_); replace HB := Aside0.mk ((by rw [hw]; exact below_set (HB.out) GB16.out : Below w.heap.size w w19)); clear hg hw hp_; have p17 : 0 ≤ ((ji10) : Int) := of_decide_eq_true asm; have q17 : ((ji10) : Int) < ((x3_2.length : Int) : Int) := of_decide_eq_true asm; obtain ⟨hx17_0, hf17_0⟩ := Kd.R_celln 0 HO_3.out ((ji10) : Int) p17 q17; replace p17 := eq_true p17; replace q17 := eq_true q17; obtain ⟨hy20_, hz20_⟩ := Kd.R_celln 0 HO_3.out ((ji10) : Int) (of_decide_eq_true asm) (of_decide_eq_true asm); have HP20 := Kd.R_putg HO_3.out ((ji10) : Int) (rd x3_2 x5_2)) | ((with_reducible refine gate_store (t := 3) (p := 56) rfl ?_); (try (rw [drewN_self w19]; generalize hq_ : World.drewN w19 _ = w19; replace HO_3 := Aside0.mk (Kd.R_at hq_ HO_3.out); replace HB := Aside0.mk (below_at hq_ HB.out); clear hq_; (try (obtain ⟨hy20_, hz20_⟩ := Kd.R_celln 0 HO_3.out ((ji10) : Int) (of_decide_eq_true asm) (of_decide_eq_true asm))); (try (have HP20 := Kd.R_putg HO_3.out ((ji10) : Int) (rd x3_2 x5_2))))); refine store_event (t := 3) (p := 56) (v := ?vo_w21) (w1 := (w19.setCell ⟨go16, ((ji10) : Int).toNat, none⟩ (.int .i64 (rd x3_2 x5_2)))) ?hg ?ho ?hn ?hr ?_; (case ho => rfl); (case hg => rfl); (case hn => rfl); (case hr => first | (go_simp; done) | (go_simp; rfl)); intro w21 hw; have hg : w19.grownBy w21 (some go16) := (by rw [hw]; exact HP20.2); have hp_ : Kd.R (Kd.int .i64) 3 w21 w.heap.size (fun _ => True) (.slice (some ⟨go16, 0, none⟩) x3_2.length co8) y1018 := (by rw [hw, Ny1018.out]; exact HP20.1); clear HP20; replace HO_3 := Aside0.mk (hp_); replace HB := Aside0.mk ((by rw [hw]; exact below_set (HB.out) GB16.out : Below w.heap.size w w21)); clear hg hw hp_)); try go_wp2_with (first | ((with_reducible refine gate_store (t := 3) (p := 51) rfl ?_); (try (rw [drewN_self wr]; generalize hq_ : World.drewN wr _ = wr; replace HO_3 := Aside0.mk (Kd.R_at hq_ HO_3.out); replace HB := Aside0.mk (below_at hq_ HB.out); clear hq_; (try (obtain ⟨hy18_, hz18_⟩ := Kd.R_celln 0 HO_3.out (x5_2 : Int) (of_decide_eq_true asm) (of_decide_eq_true asm))); (try (have HP18 := Kd.R_putg HO_3.out (x5_2 : Int) (rd x3_2 (ji10)))))); refine store_event (t := 3) (p := 51) (v := ?vo_w19) (w1 := (wr.setCell ⟨go16, (x5_2 : Int).toNat, none⟩ (.int .i64 (rd x3_2 (ji10))))) ?hg ?ho ?hn ?hr ?_; (case ho => rfl); (case hg => rfl); (case hn => rfl); (case hr => first | (go_simp; done) | (go_simp; rfl)); intro w19 hw; have hg : wr.grownBy w19 (some go16) := (by rw [hw]; exact HP18.2); have hp_ : Kd.R (Kd.int .i64) 3 w19 w.heap.size (fun _ => True) (.slice (some ⟨go16, 0, none⟩) x3_2.length co8) y1017 := (by rw [hw, Ny1017.out]; exact HP18.1); clear HP18; replace HO_3 := Aside0.mk (hp_); replace HB := Aside0.mk ((by rw [hw]; exact below_set (HB.out) GB16.out : Below w.heap.size w w19)); clear hg hw hp_; have p17 : 0 ≤ ((ji10) : Int) := of_decide_eq_true asm; have q17 : ((ji10) : Int) < ((x3_2.length : Int) : Int) := of_decide_eq_true asm; obtain ⟨hx17_0, hf17_0⟩ := Kd.R_celln 0 HO_3.out ((ji10) : Int) p17 q17; replace p17 := eq_true p17; replace q17 := eq_true q17; obtain ⟨hy20_, hz20_⟩ := Kd.R_celln 0 HO_3.out ((ji10) : Int) (of_decide_eq_true asm) (of_decide_eq_true asm); have HP20 := Kd.R_putg HO_3.out ((ji10) : Int) (rd x3_2 x5_2)) | ((with_reducible refine gate_store (t := 3) (p := 56) rfl ?_); (try (rw [drewN_self w19]; generalize hq_ : World.drewN w19 _ = w19; replace HO_3 := Aside0.mk (Kd.R_at hq_ HO_3.out); replace HB := Aside0.mk (below_at hq_ HB.out); clear hq_; (try (obtain ⟨hy20_, hz20_⟩ := Kd.R_celln 0 HO_3.out ((ji10) : Int) (of_decide_eq_true asm) (of_decide_eq_true asm))); (try (have HP20 := Kd.R_putg HO_3.out ((ji10) : Int) (rd x3_2 x5_2))))); refine store_event (t := 3) (p := 56) (v := ?vo_w21) (w1 := (w19.setCell ⟨go16, ((ji10) : Int).toNat, none⟩ (.int .i64 (rd x3_2 x5_2)))) ?hg ?ho ?hn ?hr ?_; (case ho => rfl); (case hg => rfl); (case hn => rfl); (case hr => first | (go_simp; done) | (go_simp; rfl)); intro w21 hw; have hg : w19.grownBy w21 (some go16) := (by rw [hw]; exact HP20.2); have hp_ : Kd.R (Kd.int .i64) 3 w21 w.heap.size (fun _ => True) (.slice (some ⟨go16, 0, none⟩) x3_2.length co8) y1018 := (by rw [hw, Ny1018.out]; exact HP20.1); clear HP20; replace HO_3 := Aside0.mk (hp_); replace HB := Aside0.mk ((by rw [hw]; exact below_set (HB.out) GB16.out : Below w.heap.size w w21)); clear hg hw hp_)))
              (try simp only [← hl3_2])
              go_roundg k2
              case measure => have := HK1.out; have := HK2.out; omega
              case rel => exact ⟨(y1018), (ji10), (by first | rfl | (simp; done) | (simp only [← hji10] <;> (first | rfl | simp)) | (simp [*]; done)), H', ⟨by have := HK1.out; have := HK2.out; omega⟩, ⟨by (try simp only [hl3_2]); refine rk ?_; exact HO_3.out⟩, ⟨bl HB.out⟩⟩
             ·rw [if_neg c15] at H
              have c15b0 : decide ((rd x3_2 (ji10)) < (rd x3_2 x5_2)) = false := decide_eq_false c15
              clear c15
              have H' := Aside0.mk H
              clear H
              have p1013 : 0 ≤ ((ji10) : Int) := of_decide_eq_true asm
              have q1013 : (ji10) < (x3_2.length : Int) := of_decide_eq_true asm
              obtain ⟨ad1013, e1013, hx1013_0⟩ := Kd.at_int (Kd.R_reads' HO_3.out).2.2 (ji10) p1013 q1013
              cases e1013
              replace p1013 := eq_true p1013
              replace q1013 := eq_true q1013
              have p1014 : 0 ≤ (x5_2 : Int) := of_decide_eq_true asm
              have q1014 : x5_2 < (x3_2.length : Int) := of_decide_eq_true asm
              obtain ⟨ad1014, e1014, hx1014_0⟩ := Kd.at_int (Kd.R_reads' HO_3.out).2.2 x5_2 p1014 q1014
              obtain rfl : ad1013 = ad1014 := (by injection e1014)
              replace p1014 := eq_true p1014
              replace q1014 := eq_true q1014
              go_wp2
              repeat (go_quiet (fail); try go_wp2)
              (try simp only [← hl3_2])
              go_roundg k2
              case measure => have := HK1.out; have := HK2.out; omega
              case rel => exact ⟨(x3_2), (wrap64 (x4_1 + 1)), (by first | rfl | (simp; done) | (simp [*]; done)), H', ⟨by have := HK1.out; have := HK2.out; omega⟩, ⟨by (try simp only [hl3_2]); refine rk ?_; exact HO_3.out⟩, ⟨bl HB.out⟩⟩
            ·rw [if_neg c14] at H
             exact absurd H (by simp)
           ·rw [if_neg c13] at H
            exact absurd H (by simp)
          ·rw [if_neg c12] at H
           exact absurd H (by simp)
         ·rw [if_neg c11] at H
          exact absurd H (by simp)
        ·rw [if_neg c9] at H
         have c9b0 : decide (0 < x5_2) = false := decide_eq_false c9
         clear c9
         have H' := Aside0.mk H
         clear H
         go_wp2
         repeat (go_quiet (fail); try go_wp2)
         (try simp only [← hl3_2])
         go_roundg k2
         case measure => have := HK1.out; have := HK2.out; omega
         case rel => exact ⟨(x3_2), (wrap64 (x4_1 + 1)), (by first | rfl | (simp; done) | (simp [*]; done)), H', ⟨by have := HK1.out; have := HK2.out; omega⟩, ⟨by (try simp only [hl3_2]); refine rk ?_; exact HO_3.out⟩, ⟨bl HB.out⟩⟩
     ·rw [if_neg c6] at H
      exact absurd H (by simp)
    ·rw [if_neg c5] at H
     exact absurd H (by simp)
   ·rw [if_neg c4] at H
    have c4b0 : decide (x4_1 < (l0.length : Int)) = false := decide_eq_false c4
    clear c4
    obtain rfl := Option.some.inj H
    go_wp2
    repeat (go_quiet (fail); try go_wp2)
    go_ret
    exact ⟨_, by first | rfl | (simp [errW_none, errW_some] <;> rfl) | (simp [*, errW_none, errW_some] <;> rfl), rk HO_3.out, bl HB.out⟩
end Go.Proofs.Ytbpjidekjogfeaa.A
