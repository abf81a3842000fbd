/- Used by the law FnExactPlacesFor. -/
import Derived.Test.YtbpjidekjogfeaaZFnExactPlacesForx12
import Derived.Test.YtbpjidekjogfeaaZFnExactPlacesForx13
import Derived.Test.YtbpjidekjogfeaaZFnExactPlacesForx14
import Derived.Test.YtbpjidekjogfeaaZFnExactPlacesForx17
import Derived.Test.YtbpjidekjogfeaaZFnExactPlacesForx18
import Derived.Test.YtbpjidekjogfeaaZFnExactPlacesForh
namespace Go.Proofs.Ytbpjidekjogfeaa.A
open Go.RowKit Go.Proofs.YtbpjidekjogfeaaW.PrintWords Go.Proofs.YtbpjidekjogfeaaW.PrintLast Go.Proofs.YtbpjidekjogfeaaW.PrintMore
attribute [local go_sem] max2_int min2_int max_two min_two max_three min_three max_four min_four   
set_option linter.unusedVariables false
set_option linter.unusedSimpArgs false
mutual
def spec_PlacesFor.j0 : Nat → List (S41) → List Int → Bool → Option (List Int × Bool)
 | 0, _, _, _ => none
 | k + 1, x0, x1, x21 => if x21 = true then (some (([] : List Int), false)) else ((spec_BankGaps.f k x0).bind fun t1024 => (spec_PlacesFor.l0 k x1 (([] : List Int)) 0 t1024 0))
def spec_PlacesFor.l0 : Nat → List Int → List Int → Int → List (S50) → Int → Option (List Int × Bool)
 | 0, _, _, _, _, _ => none
 | k + 1, x1, x6, x7, x8, x9 => if x9 < (x8.length : Int) then (if 0 ≤ x9 then (if x6.length < 17592186044416 then (spec_PlacesFor.l0 k x1 (x6 ++ [(rd_T50 x8 x9).f2]) (wrap64 (x7 + ((rd_T50 x8 x9).f2))) x8 (wrap64 (x9 + 1))) else (none)) else (none)) else (spec_PlacesFor.l1 k x1 x6 x7 0)
def spec_PlacesFor.l1 : Nat → List Int → List Int → Int → Int → Option (List Int × Bool)
 | 0, _, _, _, _ => none
 | k + 1, x1, x6, x7, x10 => if x10 < (x1.length : Int) then (if 0 ≤ x10 then (if (rd x1 x10) > x7 then (some (([] : List Int), false)) else (spec_PlacesFor.l1 k x1 x6 (wrap64 (x7 - (rd x1 x10))) (wrap64 (x10 + 1)))) else (none)) else ((spec_l02Down.f k x1).bind fun t1034 => ((spec_l02Holds.f k x6 t1034).bind fun t1037 => (if t1037 = true then (spec_PlacesFor.l2 k x1 x6 (([] : List Int)) 0) else (some (([] : List Int), false)))))
def spec_PlacesFor.l2 : Nat → List Int → List Int → List Int → Int → Option (List Int × Bool)
 | 0, _, _, _, _ => none
 | k + 1, x1, x6, x11, x12 => if x12 < (x1.length : Int) then (spec_PlacesFor.l3 k x1 x6 x11 x12 0) else (some (x11, true))
def spec_PlacesFor.l3 : Nat → List Int → List Int → List Int → Int → Int → Option (List Int × Bool)
 | 0, _, _, _, _, _ => none
 | k + 1, x1, x6, x11, x12, x13 => if 0 ≤ x13 then (if x13 < (x6.length : Int) then (if 0 ≤ x12 then (if x12 < (x1.length : Int) then (if (rd x6 x13) < (rd x1 x12) then (spec_PlacesFor.l3 k x1 x6 x11 x12 (wrap64 (x13 + 1))) else ((spec_l02Less.f x6 x13 (rd x1 x12)).bind fun t1044 => (if 0 ≤ (wrap64 (x12 + 1)) then (if (wrap64 (x12 + 1)) ≤ (x1.length : Int) then ((spec_l02Down.f k (x1.drop ((wrap64 (x12 + 1)) : Int).toNat)).bind fun t1048 => ((spec_l02Holds.f k t1044 t1048).bind fun t1051 => (if t1051 = true then ((spec_l02Less.f x6 x13 (rd x1 x12)).bind fun t1053 => (if x11.length < 17592186044416 then (spec_PlacesFor.l2 k x1 t1053 (x11 ++ [x13]) (wrap64 (x12 + 1))) else (none))) else (spec_PlacesFor.l3 k x1 x6 x11 x12 (wrap64 (x13 + 1)))))) else (none)) else (none)))) else (none)) else (none)) else (none)) else (none)
end
def spec_PlacesFor.f (k : Nat) (l0 : List (S41)) (l1 : List Int) : Option (List Int × Bool) := (spec_BankOk.f k l0).bind fun t1019 => (if t1019 = true then ((spec_l02Sizes.f k l1).bind fun t1020 => (spec_PlacesFor.j0 k l0 l1 (!t1020))) else (spec_PlacesFor.j0 k l0 l1 true))
def spec_PlacesFor.T24 : Bool × List (List Nat × List Nat) := (true, [([], []), ([], []), ([0, 1], [0, 1]), ([2], [2]), ([], []), ([], []), ([4, 5], [4, 5]), ([6], [6]), ([3, 7], [3, 7]), ([8], [8]), ([9], [9]), ([9], [9]), ([9], [9]), ([9], [9]), ([12, 13, 9], [9, 12, 13]), ([14, 9], [9, 14]), ([10, 11, 15, 9, 9], [9, 10, 11, 15]), ([9], [9]), ([9], [9]), ([18, 9], [9, 18]), ([17, 19, 9], [9, 17, 19]), ([20, 16, 9], [9, 20]), ([16, 21, 21, 9], [9, 16, 21]), ([22, 9], [9, 22]), ([9, 23], [9, 23])])
def spec_PlacesFor.B24 : List Nat := [0, 0, 3, 7, 0, 0, 48, 112, 255, 511, 1023, 1023, 1023, 1023, 13311, 29695, 65535, 1023, 1023, 263167, 918527, 2097151, 4194303, 8388607, 16777215]
theorem spec_PlacesFor.tab24 : rtab .any (opsOf Try.f52 24) = spec_PlacesFor.T24 := by kernel_rfl
theorem spec_PlacesFor.bits24 : waitsOk spec_PlacesFor.T24.2 spec_PlacesFor.B24 = true := by kernel_rfl
set_option maxHeartbeats 8000000 in
set_option maxRecDepth 100000 in
theorem spec_PlacesFor.calls (k : Nat) (A0 : Option Addr) (c0 : Nat) (l0 : List (S41)) (A1 : Option Addr) (c1 : Nat) (l1 : List Int) (r1 : List Int) (r2 : Bool) (w : World) (hr0 : Kd.C k41 w A0 l0.length l0) (hc0 : l0.length ≤ c0) (hr1 : Kd.C (Kd.int .i64) w A1 l1.length l1) (hc1 : l1.length ≤ c1) (h : spec_PlacesFor.f k l0 l1 = some (r1, r2)) :
  Calls Try.prog 52 #[.slice A0 l0.length c0, .slice A1 l1.length c1] w fun e w' => ∃ v0_ : Value, e = .returned (.tuple #[v0_, .bool r2]) ∧ Kd.R (Kd.int .i64) 3 w' w.heap.size (fun _ => True) v0_ r1 ∧ Below w.heap.size w w' := by
 have HR0 := Aside0.mk hr0
 have HC0 := Aside0.mk hc0
 clear hr0 hc0
 have HR1 := Aside0.mk hr1
 have HC1 := Aside0.mk hc1
 clear hr1 hc1
 have HB := Aside0.mk (Below.refl w.heap.size w)
 have H : ((spec_BankOk.f k l0).bind fun t1019 => (if t1019 = true then ((spec_l02Sizes.f k l1).bind fun t1020 => (spec_PlacesFor.j0 k l0 l1 (!t1020))) else (spec_PlacesFor.j0 k l0 l1 true))) = some (r1, r2) := h
 clear h
 have HC3 := Aside0.mk H
 clear H
 go_enter Try.func52, Try.ntmps52
 go_upto_region 1 with (fail)
 go_cut [21] (fun v21 wc => ∃ (kq : Nat) (x21_2 : Bool), v21 = .bool x21_2 ∧ Aside0 (spec_PlacesFor.j0 kq l0 l1 x21_2 = some (r1, r2)) ∧ Aside0 (kq ≤ k) ∧ Aside0 (Below w.heap.size w wc))
 case first =>
  have H := HC3.out
  clear HC3
  replace H := Option.bind_eq_some_iff.mp H
  obtain ⟨t1019, A40, H⟩ := H
  try dsimp only at H
  have A4 := Aside0.mk A40
  clear A40
  by_cases c5 : t1019 = true
  ·subst c5
   rw [if_pos rfl] at H
   replace H := Option.bind_eq_some_iff.mp H
   obtain ⟨t1020, A60, H⟩ := H
   try dsimp only at H
   have A6 := Aside0.mk A60
   clear A60
   have H' := Aside0.mk H
   clear H
   go_wp2_with (first | ((with_reducible refine gate_callee (f := 61) rfl ?_); refine goesL_ (some 15) rfl rfl Try.func61 (by kernel_rfl) rfl #[.slice A0 l0.length c0] rfl mapd ?_; (with_reducible refine (spec_BankOk.calls k _ _ l0 true _ ?side1 ?side2 A4.out).mono ?_); (case side1 => exact cb (Kd.C_below HR0.out HB.out)); (case side2 => exact HC0.out); rintro e w7 ⟨rfl, hb⟩; refine ⟨_, rfl, ?_⟩; replace HB := Aside0.mk (below_step (bl HB.out) hb); (try clear hb); (try clear hb2); (try clear hk); (try clear hi)) | (go_at_call 98; (with_reducible refine (spec_l02Sizes.calls k _ _ l1 t1020 _ ?side1 ?side2 A6.out).mono ?_); (case side1 => exact cb (Kd.C_below HR1.out HB.out)); (case side2 => exact HC1.out); rintro e w' ⟨rfl, ⟨nd, rfl⟩⟩))
   go_meet
   case rel => exact ⟨_, (!t1020), (by first | rfl | (simp; done) | (simp [*]; done)), H', ⟨by first | omega | exact Nat.le_refl _⟩, ⟨bl HB.out⟩⟩
  ·replace c5 := Bool.eq_false_iff.mpr c5
   subst c5
   rw [if_neg (show ¬ (false = true) by decide)] at H
   have H' := Aside0.mk H
   clear H
   go_wp2_with (first | ((with_reducible refine gate_callee (f := 61) rfl ?_); refine goesL_ (some 15) rfl rfl Try.func61 (by kernel_rfl) rfl #[.slice A0 l0.length c0] rfl mapd ?_; (with_reducible refine (spec_BankOk.calls k _ _ l0 false _ ?side1 ?side2 A4.out).mono ?_); (case side1 => exact cb (Kd.C_below HR0.out HB.out)); (case side2 => exact HC0.out); rintro e w8 ⟨rfl, hb⟩; refine ⟨_, rfl, ?_⟩; replace HB := Aside0.mk (below_step (bl HB.out) hb); (try clear hb); (try clear hb2); (try clear hk); (try clear hi)))
   go_meet
   case rel => exact ⟨_, (true), (by first | rfl | (simp; done) | (simp [*]; done)), H', ⟨by first | omega | exact Nat.le_refl _⟩, ⟨bl HB.out⟩⟩
 case rest =>
  clear HC3
  try clear c1
  try clear p2
  try clear c5
  try clear c6
  obtain ⟨kq, x21_2, rfl, HA, HJ2, HB⟩ := hcut
  cases kq with
  | zero => exact absurd HA.out (by simp [spec_PlacesFor.j0])
  | succ kj2 =>
   have H := HA.out
   clear HA
   simp only [spec_PlacesFor.j0] at H
   by_cases c9 : x21_2 = true
   ·subst c9
    rw [if_pos rfl] at H
    simp only [Option.some.injEq, Prod.mk.injEq] at H
    obtain ⟨rfl, rfl⟩ := H
    go_wp2
    go_ret2
    exact ⟨_, by first | rfl | (simp [errW_none, errW_some] <;> rfl) | (simp [*, errW_none, errW_some] <;> rfl), by first | exact Kd.R_nil _ _ _ _ _ | exact Kd.N_nil _ _ _ _ _ | exact Kd.V_nil _ _ _ _ _ | exact Kd.Q_nil _ _ _ _ _ | exact Kd.S_nil _ _ _ _ _, bl HB.out⟩
   ·replace c9 := Bool.eq_false_iff.mpr c9
    subst c9
    rw [if_neg (show ¬ (false = true) by decide)] at H
    obtain ⟨y1021, hy1021⟩ : ∃ y_ : List Int, y_ = (([] : List Int)) := ⟨_, rfl⟩
    replace H : ((spec_BankGaps.f kj2 l0).bind fun t1024 => (spec_PlacesFor.l0 kj2 l1 y1021 0 t1024 0)) = some (r1, r2) := by first | (rw [hy1021]; with_reducible exact H) | (have H2_ := (Option.bind_some _ _).symm.trans H; rw [hy1021]; with_reducible exact H2_) | (have H2_ := (Option.bind_some _ _).symm.trans H; with_reducible exact H2_) | with_reducible exact H | (rw [hy1021]; exact H) | exact H
    have Ny1021 := Aside0.mk hy1021
    clear hy1021
    replace H := Option.bind_eq_some_iff.mp H
    obtain ⟨t1024, A100, H⟩ := H
    try dsimp only at H
    have A10 := Aside0.mk A100
    clear A100
    have H' := Aside0.mk H
    clear H
    go_wp2_with (first | ((with_reducible refine gate_dst (N := 22) rfl ?_); refine Kd.R_lit (Kd.int .i64) _ 3 ?hg (N := 22) ?hd (xs := ([] : List Int)) (inner := []) (ok := fun _ => True) (okp := fun _ => True) ?hr ?hp (fun _ hk => hk) trivial (Below.refl _ _) (Nat.le_refl _) (by simp) ?_; (case hd => rfl); (case hg => rfl); (case hr => first | (go_simp; done) | (go_simp; rfl)); (case hp => exact (Reps.none _ _)); intro v1022 w11 ho12 hb hg_ hnew_; clear hg_ hnew_; (first | rw [← Ny1021.out] at ho12 | (simp only [Int.reduceToNat] at ho12; rw [← Ny1021.out] at ho12)); have HO1023 := Aside0.mk (Kd.R_lower ho12 (below_size (bl HB.out))); replace HB := Aside0.mk (below_step (bl HB.out) hb); clear hb ho12) | ((with_reducible refine gate_callee (f := 16) rfl ?_); refine goesL_ (some 24) rfl rfl Try.func16 (by kernel_rfl) rfl #[.slice A0 l0.length c0] rfl mapd ?_; (with_reducible refine (spec_BankGaps.calls kj2 _ _ l0 t1024 _ ?side1 ?side2 A10.out).mono ?_); (case side1 => exact cb (Kd.C_below HR0.out HB.out)); (case side2 => exact HC0.out); rintro e w13 ⟨v1025, rfl, ho0, hb⟩; refine ⟨_, rfl, ?_⟩; replace HO1023 := Aside0.mk (Kd.R_below (rk HO1023.out) hb); have HO1026 := Aside0.mk (Kd.R_lower ho0 (below_size (bl HB.out))); replace HB := Aside0.mk (below_step (bl HB.out) hb); (try clear hb); (try clear hb2); (try clear hk); (try clear hi); (try clear ho0)))
    go_loopg [6, 7, 9] kj2 (fun kq v6 v7 v9 w' => ∃ (x6_2 : List Int) (x7_2 : Int) (x9_2 : Int), v7 = .int .i64 x7_2 ∧ v9 = .int .i64 x9_2 ∧ Aside0 (spec_PlacesFor.l0 kq l1 x6_2 x7_2 t1024 x9_2 = some (r1, r2)) ∧ Aside0 (kq ≤ kj2) ∧ Aside0 (Kd.R (Kd.int .i64) 3 w' w.heap.size (fun _ => True) v6 x6_2) ∧ Aside0 (Kd.R k50 50 w' w.heap.size (fun _ => True) v1025 t1024) ∧ Aside0 (Below w.heap.size w w'))
    case atStart => exact ⟨(y1021), (0), (0), (by first | rfl | (simp; done) | (simp [*]; done)), (by first | rfl | (simp; done) | (simp [*]; done)), H', ⟨Nat.le_refl _⟩, ⟨rk HO1023.out⟩, ⟨rk HO1026.out⟩, ⟨bl HB.out⟩⟩
    case round =>
     clear H'
     try clear c1
     try clear p2
     try clear c5
     try clear c6
     try clear c9
     try clear p2
     obtain ⟨x6_2, x7_2, x9_2, rfl, rfl, HA, HK2, HO_6, HO_8, HB⟩ := hrel
     cases gk with
     | zero => exact absurd HA.out (by simp [spec_PlacesFor.l0])
     | succ k2 =>
      have H := HA.out
      clear HA
      simp only [spec_PlacesFor.l0] at H
      by_cases c14 : x9_2 < (t1024.length : Int)
      ·rw [if_pos c14] at H
       have c14b0 : decide (x9_2 < (t1024.length : Int)) = true := decide_eq_true c14
       clear c14
       by_cases c15 : 0 ≤ x9_2
       ·rw [if_pos c15] at H
        have c15b0 : decide (0 ≤ x9_2) = true := decide_eq_true c15
        clear c15
        by_cases c16 : x6_2.length < 17592186044416
        ·rw [if_pos c16] at H
         have LMc16 := Aside0.mk c16
         clear c16
         obtain ⟨y1028, hy1028⟩ : ∃ y_ : List Int, y_ = (x6_2 ++ [(rd_T50 t1024 x9_2).f2]) := ⟨_, rfl⟩
         replace H : (spec_PlacesFor.l0 k2 l1 y1028 (wrap64 (x7_2 + ((rd_T50 t1024 x9_2).f2))) t1024 (wrap64 (x9_2 + 1))) = some (r1, r2) := by first | (rw [hy1028]; with_reducible exact H) | (have H2_ := (Option.bind_some _ _).symm.trans H; rw [hy1028]; with_reducible exact H2_) | (have H2_ := (Option.bind_some _ _).symm.trans H; with_reducible exact H2_) | with_reducible exact H | (rw [hy1028]; exact H) | exact H
         have Ny1028 := Aside0.mk hy1028
         clear hy1028
         have H' := Aside0.mk H
         clear H
         obtain ⟨Ao17, co17, eo17⟩ := Kd.R_slice HO_8.out
         subst eo17
         have p1027 : 0 ≤ (x9_2 : Int) := of_decide_eq_true asm
         have q1027 : x9_2 < (t1024.length : Int) := of_decide_eq_true asm
         obtain ⟨ad1027, e1027, hx1027_0, hx1027_1, hx1027_2⟩ := at_T50 (Kd.R_reads' HO_8.out).2.2 x9_2 p1027 q1027
         cases e1027
         replace p1027 := eq_true p1027
         replace q1027 := eq_true q1027
         go_wp2_with (first | ((with_reducible refine gate_builtin (b := .append) (xs := #[.tmp 31, .tmp 37]) rfl ?_); at_builtin; refine Kd.R_append (Kd.int .i64) (w0 := w) w.heap.size rfl (.tmp 31) (.tmp 37) 38 3 (.int .i64 0) 8 rfl Try.underlying38 info3 rfl (by decide) (by omega) u6 x6_2 ((rd_T50 t1024 x9_2).f2) [.int .i64 ((rd_T50 t1024 x9_2).f2)] (fun _ => True) (fun _ => False) rfl rfl ?aP (fun _ hk => hk.elim) ?aF ?aO ?aB ?aS ?aL ?_; (case aP => exact rfl); (case aB => exact (bl HB.out)); (case aF => exact (fun _ _ => trivial)); (case aO => exact (rk HO_6.out)); (case aS => exact (below_size (bl HB.out))); (case aL => have := LMc16.out; omega); intro v1029 w18 ho hb hg hat; rw [← Ny1028.out] at ho; replace HO_8 := Aside0.mk (Kd.R_over' (rk HO_8.out) (Kd.R_typed (rk HO_6.out)) (by decide) hg); replace HB := Aside0.mk (hb); have HO1030 := Aside0.mk (ho); clear HO_6; clear ho hb hg hat; have p1031 : 0 ≤ (x9_2 : Int) := of_decide_eq_true asm; have q1031 : x9_2 < (t1024.length : Int) := of_decide_eq_true asm; obtain ⟨ad1031, e1031, hx1031_0, hx1031_1, hx1031_2⟩ := at_T50 (Kd.R_reads' HO_8.out).2.2 x9_2 p1031 q1031; obtain rfl : ad1027 = ad1031 := (by injection e1031); replace p1031 := eq_true p1031; replace q1031 := eq_true q1031))
         go_roundg k2
         case measure => have := HJ2.out; have := HK2.out; omega
         case rel => exact ⟨(y1028), (wrap64 (x7_2 + ((rd_T50 t1024 x9_2).f2))), (wrap64 (x9_2 + 1)), (by first | rfl | (simp; done) | (simp [*]; done)), (by first | rfl | (simp; done) | (simp [*]; done)), H', ⟨by have := HJ2.out; have := HK2.out; omega⟩, ⟨rk HO1030.out⟩, ⟨rk HO_8.out⟩, ⟨bl HB.out⟩⟩
        ·rw [if_neg c16] at H
         exact absurd H (by simp)
       ·rw [if_neg c15] at H
        exact absurd H (by simp)
      ·rw [if_neg c14] at H
       have c14b0 : decide (x9_2 < (t1024.length : Int)) = false := decide_eq_false c14
       clear c14
       have H' := Aside0.mk H
       clear H
       obtain ⟨Ao19, co19, eo19⟩ := Kd.R_slice HO_8.out
       subst eo19
       go_wp2
       go_loopg [7, 10] k2 (fun kq v7 v10 w' => ∃ (x7_3 : Int) (x10_3 : Int), v7 = .int .i64 x7_3 ∧ v10 = .int .i64 x10_3 ∧ Aside0 (spec_PlacesFor.l1 kq l1 x6_2 x7_3 x10_3 = some (r1, r2)) ∧ Aside0 (kq ≤ k2) ∧ Aside0 (Kd.R (Kd.int .i64) 3 w' w.heap.size (fun _ => True) u6 x6_2) ∧ Aside0 (Below w.heap.size w w'))
       case atStart => exact ⟨(x7_2), (0), (by first | rfl | (simp; done) | (simp [*]; done)), (by first | rfl | (simp; done) | (simp [*]; done)), H', ⟨Nat.le_refl _⟩, ⟨rk HO_6.out⟩, ⟨bl HB.out⟩⟩
       case round =>
        clear H'
        try clear c1
        try clear p1
        try clear q1
        try clear hx1
        try clear p2
        try clear c5
        try clear c6
        try clear p6
        try clear c9
        try clear p10
        try clear q10
        try clear hx10
        try clear c14
        try clear c14b0
        try clear c15
        try clear c15b0
        try clear c16
        try clear hx1027_0
        try clear hx1027_1
        try clear hx1027_2
        try clear hx1031_0
        try clear hx1031_1
        try clear hx1031_2
        try clear p1027
        try clear p1031
        try clear p2
        try clear q1027
        try clear q1031
        obtain ⟨x7_3, x10_3, rfl, rfl, HA, HK3, HO_6, HB⟩ := hrel
        cases gk with
        | zero => exact absurd HA.out (by simp [spec_PlacesFor.l1])
        | succ k3 =>
         have H := HA.out
         clear HA
         simp only [spec_PlacesFor.l1] at H
         by_cases c20 : x10_3 < (l1.length : Int)
         ·rw [if_pos c20] at H
          have c20b0 : decide (x10_3 < (l1.length : Int)) = true := decide_eq_true c20
          clear c20
          by_cases c21 : 0 ≤ x10_3
          ·rw [if_pos c21] at H
           have c21b0 : decide (0 ≤ x10_3) = true := decide_eq_true c21
           clear c21
           by_cases c22 : (rd l1 x10_3) > x7_3
           ·rw [if_pos c22] at H
            have c22b0 : decide (x7_3 < (rd l1 x10_3)) = true := decide_eq_true c22
            clear c22
            simp only [Option.some.injEq, Prod.mk.injEq] at H
            obtain ⟨rfl, rfl⟩ := H
            have p1032 : 0 ≤ (x10_3 : Int) := of_decide_eq_true asm
            have q1032 : x10_3 < (l1.length : Int) := of_decide_eq_true asm
            obtain ⟨ad1032, e1032, hx1032_0⟩ := Kd.at_int HR1.out x10_3 p1032 q1032
            cases e1032
            replace hx1032_0 := (HB.out.cell (World.block_lt_of_cell? w _ hx1032_0)).trans hx1032_0
            replace p1032 := eq_true p1032
            replace q1032 := eq_true q1032
            go_wp2
            go_ret2
            exact ⟨_, by first | rfl | (simp [errW_none, errW_some] <;> rfl) | (simp [*, errW_none, errW_some] <;> rfl), by first | exact Kd.R_nil _ _ _ _ _ | exact Kd.N_nil _ _ _ _ _ | exact Kd.V_nil _ _ _ _ _ | exact Kd.Q_nil _ _ _ _ _ | exact Kd.S_nil _ _ _ _ _, bl HB.out⟩
           ·rw [if_neg c22] at H
            have c22b0 : decide (x7_3 < (rd l1 x10_3)) = false := decide_eq_false c22
            clear c22
            have H' := Aside0.mk H
            clear H
            have p1032 : 0 ≤ (x10_3 : Int) := of_decide_eq_true asm
            have q1032 : x10_3 < (l1.length : Int) := of_decide_eq_true asm
            obtain ⟨ad1032, e1032, hx1032_0⟩ := Kd.at_int HR1.out x10_3 p1032 q1032
            cases e1032
            replace hx1032_0 := (HB.out.cell (World.block_lt_of_cell? w _ hx1032_0)).trans hx1032_0
            replace p1032 := eq_true p1032
            replace q1032 := eq_true q1032
            have p1033 : 0 ≤ (x10_3 : Int) := of_decide_eq_true asm
            have q1033 : x10_3 < (l1.length : Int) := of_decide_eq_true asm
            obtain ⟨ad1033, e1033, hx1033_0⟩ := Kd.at_int HR1.out x10_3 p1033 q1033
            obtain rfl : ad1032 = ad1033 := (by injection e1033)
            replace hx1033_0 := (HB.out.cell (World.block_lt_of_cell? w _ hx1033_0)).trans hx1033_0
            replace p1033 := eq_true p1033
            replace q1033 := eq_true q1033
            go_wp2
            go_roundg k3
            case measure => have := HJ2.out; have := HK2.out; have := HK3.out; omega
            case rel => exact ⟨(wrap64 (x7_3 - (rd l1 x10_3))), (wrap64 (x10_3 + 1)), (by first | rfl | (simp; done) | (simp [*]; done)), (by first | rfl | (simp; done) | (simp [*]; done)), H', ⟨by have := HJ2.out; have := HK2.out; have := HK3.out; omega⟩, ⟨rk HO_6.out⟩, ⟨bl HB.out⟩⟩
          ·rw [if_neg c21] at H
           exact absurd H (by simp)
         ·rw [if_neg c20] at H
          have c20b0 : decide (x10_3 < (l1.length : Int)) = false := decide_eq_false c20
          clear c20
          replace H := Option.bind_eq_some_iff.mp H
          obtain ⟨t1034, A230, H⟩ := H
          try dsimp only at H
          have A23 := Aside0.mk A230
          clear A230
          replace H := Option.bind_eq_some_iff.mp H
          obtain ⟨t1037, A240, H⟩ := H
          try dsimp only at H
          have A24 := Aside0.mk A240
          clear A240
          by_cases c25 : t1037 = true
          ·subst c25
           rw [if_pos rfl] at H
           obtain ⟨y1038, hy1038⟩ : ∃ y_ : List Int, y_ = (([] : List Int)) := ⟨_, rfl⟩
           replace H : (spec_PlacesFor.l2 k3 l1 x6_2 y1038 0) = some (r1, r2) := by first | (rw [hy1038]; with_reducible exact H) | (have H2_ := (Option.bind_some _ _).symm.trans H; rw [hy1038]; with_reducible exact H2_) | (have H2_ := (Option.bind_some _ _).symm.trans H; with_reducible exact H2_) | with_reducible exact H | (rw [hy1038]; exact H) | exact H
           have Ny1038 := Aside0.mk hy1038
           clear hy1038
           have H' := Aside0.mk H
           clear H
           go_wp2_with (first | ((with_reducible refine gate_callee (f := 103) rfl ?_); refine goesL_ (some 66) rfl rfl Try.func103 (by kernel_rfl) rfl #[.slice A1 l1.length c1] rfl mapd ?_; (with_reducible refine (spec_l02Down.calls k3 _ _ l1 t1034 _ ?side1 ?side2 A23.out).mono ?_); (case side1 => exact cb (Kd.C_below HR1.out HB.out)); (case side2 => exact HC1.out); rintro e w26 ⟨v1035, rfl, ho0, hb⟩; refine ⟨_, rfl, ?_⟩; have HO1036 := Aside0.mk (Kd.R_lower (Kd.R_new' ho0 (Kd.R_lt (rk HO_6.out))) (below_size (bl HB.out))); replace HO_6 := Aside0.mk (Kd.R_elder' (rk HO_6.out) (Kd.R_base ho0) hb); replace HB := Aside0.mk (below_step (bl HB.out) hb); (try clear hb); (try clear hb2); (try clear hk); (try clear hi); (try clear ho0); obtain ⟨Ao27, co27, eo27⟩ := Kd.R_slice HO_6.out; subst eo27; obtain ⟨Ao28, co28, eo28⟩ := Kd.R_slice HO1036.out; subst eo28) | ((with_reducible refine gate_callee (f := 102) rfl ?_); refine goesL_ (some 67) rfl rfl Try.func102 (by kernel_rfl) rfl #[.slice Ao27 x6_2.length co27, .slice Ao28 t1034.length co28] rfl mapd ?_; (with_reducible refine (spec_l02Holds.calls k3 _ _ x6_2 _ _ t1034 true _ ?side1 ?side2 ?side3 ?side4 A24.out).mono ?_); (case side1 => exact cb ((Kd.R_reads' HO_6.out).2.2)); (case side2 => exact (Kd.R_reads' HO_6.out).2.1); (case side3 => exact cb ((Kd.R_reads' HO1036.out).2.2)); (case side4 => exact (Kd.R_reads' HO1036.out).2.1); rintro e w29 ⟨rfl, hb⟩; refine ⟨_, rfl, ?_⟩; replace HO_6 := Aside0.mk (Kd.R_below (rk HO_6.out) hb); replace HO1036 := Aside0.mk (Kd.R_below (rk HO1036.out) hb); replace HB := Aside0.mk (below_step (bl HB.out) hb); (try clear hb); (try clear hb2); (try clear hk); (try clear hi)) | ((with_reducible refine gate_dst (N := 69) rfl ?_); refine Kd.R_lit (Kd.int .i64) _ 3 ?hg (N := 69) ?hd (xs := ([] : List Int)) (inner := []) (ok := fun _ => True) (okp := fun _ => True) ?hr ?hp (fun _ hk => hk) trivial (Below.refl _ _) (Nat.le_refl _) (by simp) ?_; (case hd => rfl); (case hg => rfl); (case hr => first | (go_simp; done) | (go_simp; rfl)); (case hp => exact (Reps.none _ _)); intro v1039 w30 ho31 hb hg_ hnew_; clear hg_ hnew_; (first | rw [← Ny1038.out] at ho31 | (simp only [Int.reduceToNat] at ho31; rw [← Ny1038.out] at ho31)); have HO1040 := Aside0.mk (Kd.R_lower (Kd.R_new' (Kd.R_new' ho31 (Kd.R_lt (rk HO_6.out))) (Kd.R_lt (rk HO1036.out))) (below_size (bl HB.out))); replace HO_6 := Aside0.mk (Kd.R_elder' (rk HO_6.out) (Kd.R_base ho31) hb); replace HO1036 := Aside0.mk (Kd.R_elder' (rk HO1036.out) (Kd.R_base ho31) hb); replace HB := Aside0.mk (below_step (bl HB.out) hb); clear hb ho31))
           go_loopg [6, 11, 12] k3 (fun kq v6 v11 v12 w' => ∃ (x6_4 : List Int) (x11_4 : List Int) (x12_4 : Int), v12 = .int .i64 x12_4 ∧ Aside0 (spec_PlacesFor.l2 kq l1 x6_4 x11_4 x12_4 = some (r1, r2)) ∧ Aside0 (kq ≤ k3) ∧ Aside0 (Kd.R (Kd.int .i64) 3 w' w.heap.size (fun k_ => some k_ ≠ (v11 : Value).ownBlock) v6 x6_4) ∧ Aside0 (Kd.R (Kd.int .i64) 3 w' w.heap.size (fun k_ => some k_ ≠ (v6 : Value).ownBlock) v11 x11_4) ∧ Aside0 (Below w.heap.size w w'))
           case atStart => exact ⟨(x6_2), (y1038), (0), (by first | rfl | (simp; done) | (simp [*]; done)), H', ⟨Nat.le_refl _⟩, ⟨by refine rk ?_; exact Kd.R_mono HO_6.out (fun _ hk => hk.2)⟩, ⟨by refine rk ?_; exact Kd.R_mono HO1040.out (fun _ hk => hk.1.2)⟩, ⟨bl HB.out⟩⟩
           case round =>
            clear H'
            try clear c1
            try clear p1
            try clear q1
            try clear hx1
            try clear c2
            try clear p2
            try clear c5
            try clear c6
            try clear p6
            try clear c9
            try clear c10
            try clear p10
            try clear q10
            try clear hx10
            try clear c14
            try clear c14b0
            try clear c15
            try clear c15b0
            try clear c16
            try clear c20
            try clear c20b0
            try clear c21
            try clear c21b0
            try clear c22
            try clear c22b0
            try clear c25
            try clear hx1027_0
            try clear hx1027_1
            try clear hx1027_2
            try clear hx1031_0
            try clear hx1031_1
            try clear hx1031_2
            try clear hx1032_0
            try clear hx1033_0
            try clear p1
            try clear p10
            try clear p1027
            try clear p1031
            try clear p1032
            try clear p1033
            try clear p2
            try clear p6
            try clear q1
            try clear q10
            try clear q1027
            try clear q1031
            try clear q1032
            try clear q1033
            obtain ⟨x6_4, x11_4, x12_4, rfl, HA, HK4, HO_6, HO_11, HB⟩ := hrel
            cases gk with
            | zero => exact absurd HA.out (by simp [spec_PlacesFor.l2])
            | succ k4 =>
             have H := HA.out
             clear HA
             simp only [spec_PlacesFor.l2] at H
             by_cases c32 : x12_4 < (l1.length : Int)
             ·rw [if_pos c32] at H
              have c32b0 : decide (x12_4 < (l1.length : Int)) = true := decide_eq_true c32
              clear c32
              have H' := Aside0.mk H
              clear H
              go_wp2
              go_loopg [13] k4 (fun kq v13 w' => ∃ (x13_5 : Int), v13 = .int .i64 x13_5 ∧ Aside0 (spec_PlacesFor.l3 kq l1 x6_4 x11_4 x12_4 x13_5 = some (r1, r2)) ∧ Aside0 (kq ≤ k4) ∧ Aside0 (Kd.R (Kd.int .i64) 3 w' w.heap.size (fun k_ => some k_ ≠ (u11 : Value).ownBlock) u6 x6_4) ∧ Aside0 (Kd.R (Kd.int .i64) 3 w' w.heap.size (fun k_ => some k_ ≠ (u6 : Value).ownBlock) u11 x11_4) ∧ Aside0 (Below w.heap.size w w'))
              case atStart => exact ⟨(0), (by first | rfl | (simp; done) | (simp [*]; done)), H', ⟨Nat.le_refl _⟩, ⟨rk HO_6.out⟩, ⟨rk HO_11.out⟩, ⟨bl HB.out⟩⟩
              case round =>
               clear H'
               try clear c1
               try clear p1
               try clear q1
               try clear hx1
               try clear c2
               try clear p2
               try clear c3
               try clear c5
               try clear c6
               try clear p6
               try clear c9
               try clear c10
               try clear p10
               try clear q10
               try clear hx10
               try clear c14
               try clear c14b0
               try clear c15
               try clear c15b0
               try clear c16
               try clear c20
               try clear c20b0
               try clear c21
               try clear c21b0
               try clear c22
               try clear c22b0
               try clear c25
               try clear c32
               try clear c32b0
               try clear hx1027_0
               try clear hx1027_1
               try clear hx1027_2
               try clear hx1031_0
               try clear hx1031_1
               try clear hx1031_2
               try clear hx1032_0
               try clear hx1033_0
               try clear p1
               try clear p10
               try clear p1027
               try clear p1031
               try clear p1032
               try clear p1033
               try clear p2
               try clear p6
               try clear q1
               try clear q10
               try clear q1027
               try clear q1031
               try clear q1032
               try clear q1033
               obtain ⟨x13_5, rfl, HA, HK5, HO_6, HO_11, HB⟩ := hrel
               cases gk with
               | zero => exact absurd HA.out (by simp [spec_PlacesFor.l3])
               | succ k5 =>
                have H := HA.out
                clear HA
                simp only [spec_PlacesFor.l3] at H
                by_cases c33 : 0 ≤ x13_5
                ·rw [if_pos c33] at H
                 have c33b0 : decide (0 ≤ x13_5) = true := decide_eq_true c33
                 clear c33
                 by_cases c34 : x13_5 < (x6_4.length : Int)
                 ·rw [if_pos c34] at H
                  have c34b0 : decide (x13_5 < (x6_4.length : Int)) = true := decide_eq_true c34
                  clear c34
                  by_cases c35 : 0 ≤ x12_4
                  ·rw [if_pos c35] at H
                   have c35b0 : decide (0 ≤ x12_4) = true := decide_eq_true c35
                   clear c35
                   by_cases c36 : x12_4 < (l1.length : Int)
                   ·rw [if_pos c36] at H
                    have c36b0 : decide (x12_4 < (l1.length : Int)) = true := decide_eq_true c36
                    clear c36
                    by_cases c37 : (rd x6_4 x13_5) < (rd l1 x12_4)
                    ·rw [if_pos c37] at H
                     have c37b0 : decide ((rd x6_4 x13_5) < (rd l1 x12_4)) = true := decide_eq_true c37
                     clear c37
                     have H' := Aside0.mk H
                     clear H
                     try go_wp2
                     replace HO_6 := Aside0.mk (Kd.R_drew HO_6.out)
                     replace HO_11 := Aside0.mk (Kd.R_drew HO_11.out)
                     replace HB := Aside0.mk (below_drew1 HB.out)
                     obtain ⟨Ao39, co39, eo39⟩ := Kd.R_slice HO_6.out
                     (first | subst eo39 | (injection eo39 with f1_ f2_ f3_; have f4_ := f1_.symm; have f5_ := f3_.symm; clear f1_ f2_ f3_; subst f4_; subst f5_))
                     have p1041 : 0 ≤ (x13_5 : Int) := of_decide_eq_true asm
                     have q1041 : x13_5 < (x6_4.length : Int) := of_decide_eq_true asm
                     obtain ⟨ad1041, e1041, hx1041_0⟩ := Kd.at_int (Kd.R_reads' HO_6.out).2.2 x13_5 p1041 q1041
                     cases e1041
                     replace p1041 := eq_true p1041
                     replace q1041 := eq_true q1041
                     have p1042 : 0 ≤ (x12_4 : Int) := of_decide_eq_true asm
                     have q1042 : x12_4 < (l1.length : Int) := of_decide_eq_true asm
                     obtain ⟨ad1042, e1042, hx1042_0⟩ := Kd.at_int HR1.out x12_4 p1042 q1042
                     have hw1042_0 := hx1042_0
                     cases e1042
                     replace hx1042_0 := (HB.out.cell (World.block_lt_of_cell? w _ hx1042_0)).trans hx1042_0
                     replace p1042 := eq_true p1042
                     replace q1042 := eq_true q1042
                     refine start_ (n := 25) (S := fun w' => w'.cell? (ad1041.add (x13_5).toNat) = some (.int .i64 (rd x6_4 x13_5)) ∧ w'.cell? (ad1042.add (x12_4).toNat) = some (.int .i64 (rd l1 x12_4))) (ds := []) #[false, false, false, false, false, false, false, false, false, false, false, false, false, false, false, false, false, false, false, false, false, false, false, false, false] (by kernel_rfl) rfl rfl ⟨hx1041_0, ((HB.out.cell (World.block_lt_of_cell? w _ hw1042_0)).trans hw1042_0)⟩ (fun hHeld => ?_); refine with_tabW spec_PlacesFor.tab24 spec_PlacesFor.bits24 (fun HT_ HW_ => ?_)
                     generalize wr.drew = w38 at HO_6 HO_11 HB hx1041_0 hx1042_0 hHeld ⊢
                     refine puA (i := 0) (N := some 76) HT_.out ?_
                     refine puA (i := 1) (N := some 77) HT_.out ?_
                     refine puA (i := 2) (N := some 78) HT_.out ?_
                     refine puA (i := 4) (N := some 80) HT_.out ?_
                     refine puA (i := 5) (N := some 81) HT_.out ?_
                     refine puA (i := 6) (N := some 82) HT_.out ?_
                     refine tkA2 (i := 3) (N := some 79) HT_.out HW_.out hHeld ?_
                     refine tkA2 (i := 7) (N := some 83) HT_.out HW_.out hHeld ?_
                     refine puA (i := 8) (N := some 84) HT_.out ?_
                     refine puA (i := 9) (N := some 85) HT_.out ?_
                     refine puU (i := 10) (N := some 86) HT_.out ?_
                     refine puU (i := 11) (N := some 87) HT_.out ?_
                     refine puU (i := 12) (N := some 88) HT_.out ?_
                     refine puU (i := 13) (N := some 89) HT_.out ?_
                     refine puU (i := 14) (N := some 90) HT_.out ?_
                     refine puU (i := 15) (N := some 91) HT_.out ?_
                     refine puU (i := 16) (N := some 92) HT_.out ?_
                     refine puU (i := 17) (N := some 93) HT_.out ?_
                     refine puU (i := 18) (N := some 94) HT_.out ?_
                     refine puU (i := 19) (N := some 95) HT_.out ?_
                     refine puU (i := 20) (N := some 96) HT_.out ?_
                     refine puU (i := 21) (N := some 97) HT_.out ?_
                     refine puU (i := 22) (N := some 98) HT_.out ?_
                     refine puU (i := 23) (N := some 99) HT_.out ?_
                     refine puA (i := 24) (N := some 100) HT_.out ?_
                     refine done_ (done_of HT_.out (by kernel_rfl)) ?_
                     try go_wp2
                     go_roundg k5
                     case measure => have := HJ2.out; have := HK2.out; have := HK3.out; have := HK4.out; have := HK5.out; omega
                     case rel => exact ⟨(wrap64 (x13_5 + 1)), (by first | rfl | (simp; done) | (simp [*]; done)), H', ⟨by have := HJ2.out; have := HK2.out; have := HK3.out; have := HK4.out; have := HK5.out; omega⟩, ⟨rk HO_6.out⟩, ⟨rk HO_11.out⟩, ⟨bl HB.out⟩⟩
                    ·rw [if_neg c37] at H
                     have c37b0 : decide ((rd x6_4 x13_5) < (rd l1 x12_4)) = false := decide_eq_false c37
                     clear c37
                     replace H := Option.bind_eq_some_iff.mp H
                     obtain ⟨t1044, A400, H⟩ := H
                     try dsimp only at H
                     have A40 := Aside0.mk A400
                     clear A400
                     obtain ⟨ji41, hji41⟩ : ∃ j_ : Int, (wrap64 (x12_4 + 1)) = j_ := ⟨_, rfl⟩
                     replace H : (if 0 ≤ (ji41) then (if (ji41) ≤ (l1.length : Int) then ((spec_l02Down.f k5 (l1.drop ((ji41) : Int).toNat)).bind fun t1048 => ((spec_l02Holds.f k5 t1044 t1048).bind fun t1051 => (if t1051 = true then ((spec_l02Less.f x6_4 x13_5 (rd l1 x12_4)).bind fun t1053 => (if x11_4.length < 17592186044416 then (spec_PlacesFor.l2 k5 l1 t1053 (x11_4 ++ [x13_5]) ji41) else (none))) else (spec_PlacesFor.l3 k5 l1 x6_4 x11_4 x12_4 (wrap64 (x13_5 + 1)))))) else (none)) else (none)) = some (r1, r2) := by first | (rw [hji41] at H; exact H) | (simp only [hji41] at H ⊢; exact H)
                     (try rw [hji41] at A40)
                     have hji41w : (IntKind.i64.wrap (x12_4 + 1)) = ji41 := (i64_w _).trans hji41
                     by_cases c42 : 0 ≤ (ji41)
                     ·rw [if_pos c42] at H
                      have c42b0 := eq_true c42
                      have c42b1 : decide (0 ≤ (ji41)) = true := decide_eq_true c42
                      clear c42
                      by_cases c43 : (ji41) ≤ (l1.length : Int)
                      ·rw [if_pos c43] at H
                       have c43b0 := eq_true c43
                       have c43b1 : decide ((ji41) ≤ (l1.length : Int)) = true := decide_eq_true c43
                       clear c43
                       replace H := Option.bind_eq_some_iff.mp H
                       obtain ⟨t1048, A440, H⟩ := H
                       try dsimp only at H
                       have A44 := Aside0.mk A440
                       clear A440
                       replace H := Option.bind_eq_some_iff.mp H
                       obtain ⟨t1051, A450, H⟩ := H
                       try dsimp only at H
                       have A45 := Aside0.mk A450
                       clear A450
                       by_cases c46 : t1051 = true
                       ·subst c46
                        rw [if_pos rfl] at H
                        replace H := Option.bind_eq_some_iff.mp H
                        obtain ⟨t1053, A470, H⟩ := H
                        try dsimp only at H
                        have A47 := Aside0.mk A470
                        clear A470
                        by_cases c48 : x11_4.length < 17592186044416
                        ·rw [if_pos c48] at H
                         have LMc48 := Aside0.mk c48
                         clear c48
                         obtain ⟨y1056, hy1056⟩ : ∃ y_ : List Int, y_ = (x11_4 ++ [x13_5]) := ⟨_, rfl⟩
                         replace H : (spec_PlacesFor.l2 k5 l1 t1053 y1056 ji41) = some (r1, r2) := by first | (rw [hy1056]; with_reducible exact H) | (have H2_ := (Option.bind_some _ _).symm.trans H; rw [hy1056]; with_reducible exact H2_) | (have H2_ := (Option.bind_some _ _).symm.trans H; with_reducible exact H2_) | with_reducible exact H | (rw [hy1056]; exact H) | exact H
                         have Ny1056 := Aside0.mk hy1056
                         clear hy1056
                         have H' := Aside0.mk H
                         clear H
                         try go_wp2
                         replace HO_6 := Aside0.mk (Kd.R_drew HO_6.out)
                         replace HO_11 := Aside0.mk (Kd.R_drew HO_11.out)
                         replace HB := Aside0.mk (below_drew1 HB.out)
                         obtain ⟨Ao50, co50, eo50⟩ := Kd.R_slice HO_6.out
                         (first | subst eo50 | (injection eo50 with f1_ f2_ f3_; have f4_ := f1_.symm; have f5_ := f3_.symm; clear f1_ f2_ f3_; subst f4_; subst f5_))
                         have p1041 : 0 ≤ (x13_5 : Int) := of_decide_eq_true asm
                         have q1041 : x13_5 < (x6_4.length : Int) := of_decide_eq_true asm
                         obtain ⟨ad1041, e1041, hx1041_0⟩ := Kd.at_int (Kd.R_reads' HO_6.out).2.2 x13_5 p1041 q1041
                         cases e1041
                         replace p1041 := eq_true p1041
                         replace q1041 := eq_true q1041
                         have p1042 : 0 ≤ (x12_4 : Int) := of_decide_eq_true asm
                         have q1042 : x12_4 < (l1.length : Int) := of_decide_eq_true asm
                         obtain ⟨ad1042, e1042, hx1042_0⟩ := Kd.at_int HR1.out x12_4 p1042 q1042
                         have hw1042_0 := hx1042_0
                         cases e1042
                         replace hx1042_0 := (HB.out.cell (World.block_lt_of_cell? w _ hx1042_0)).trans hx1042_0
                         replace p1042 := eq_true p1042
                         replace q1042 := eq_true q1042
                         have p1043 : 0 ≤ (x12_4 : Int) := of_decide_eq_true asm
                         have q1043 : x12_4 < (l1.length : Int) := of_decide_eq_true asm
                         obtain ⟨ad1043, e1043, hx1043_0⟩ := Kd.at_int HR1.out x12_4 p1043 q1043
                         have hw1043_0 := hx1043_0
                         obtain rfl : ad1042 = ad1043 := (by injection e1043)
                         replace hx1043_0 := (HB.out.cell (World.block_lt_of_cell? w _ hx1043_0)).trans hx1043_0
                         replace p1043 := eq_true p1043
                         replace q1043 := eq_true q1043
                         obtain ⟨i051, hi051, _, hsz51, _⟩ := info_parts info3
                         obtain ⟨A51, hcut51, hA51, hC51⟩ := print_drop_of (P := Try.prog) (Value.int .i64) 0 38 3 .i64 Try.underlying38 hi051 hsz51 (some ad1042) c1 l1 (ji41) (of_decide_eq_true asm) (of_decide_eq_true asm) HC1.out
                         have HR1047 := Aside0.mk (Kd.C_of_reads (h1 := fun _ => rfl) (hA51 _ (Kd.reads_of_C HR1.out)))
                         have HC1047 := Aside0.mk hC51
                         clear hA51 hC51 hi051 hsz51
                         refine start_ (n := 25) (S := fun w' => w'.cell? (ad1041.add (x13_5).toNat) = some (.int .i64 (rd x6_4 x13_5)) ∧ w'.cell? (ad1042.add (x12_4).toNat) = some (.int .i64 (rd l1 x12_4)) ∧ w'.cell? (ad1042.add (x12_4).toNat) = some (.int .i64 (rd l1 x12_4))) (ds := []) #[false, false, false, false, false, false, false, false, false, false, false, false, false, false, false, false, false, false, false, false, false, false, false, false, false] (by kernel_rfl) rfl rfl ⟨hx1041_0, ((HB.out.cell (World.block_lt_of_cell? w _ hw1042_0)).trans hw1042_0), ((HB.out.cell (World.block_lt_of_cell? w _ hw1043_0)).trans hw1043_0)⟩ (fun hHeld => ?_); refine with_tabW spec_PlacesFor.tab24 spec_PlacesFor.bits24 (fun HT_ HW_ => ?_)
                         generalize wr.drew = w49 at HO_6 HO_11 HB HR1047 hx1041_0 hx1042_0 hx1043_0 hHeld ⊢
                         refine puA (i := 0) (N := some 76) HT_.out ?_
                         refine puA (i := 1) (N := some 77) HT_.out ?_
                         refine puA (i := 2) (N := some 78) HT_.out ?_
                         refine puA (i := 4) (N := some 80) HT_.out ?_
                         refine puA (i := 5) (N := some 81) HT_.out ?_
                         refine puA (i := 6) (N := some 82) HT_.out ?_
                         refine tkA3 (i := 3) (N := some 79) HT_.out HW_.out hHeld ?_
                         refine tkA3 (i := 7) (N := some 83) HT_.out HW_.out hHeld ?_
                         refine puA (i := 8) (N := some 84) HT_.out ?_
                         refine puA (i := 9) (N := some 85) HT_.out ?_
                         refine puA (i := 10) (N := some 86) HT_.out ?_
                         refine puA (i := 11) (N := some 87) HT_.out ?_
                         refine puA (i := 12) (N := some 88) HT_.out ?_
                         refine puA (i := 13) (N := some 89) HT_.out ?_
                         refine puA (i := 14) (N := some 90) HT_.out ?_
                         refine puA (i := 17) (N := some 93) HT_.out ?_
                         refine puA (i := 18) (N := some 94) HT_.out ?_
                         refine puA (i := 19) (N := some 95) HT_.out ?_
                         refine puA (i := 20) (N := some 96) HT_.out ?_
                         refine tkA3 (i := 15) (N := some 91) HT_.out HW_.out hHeld ?_
                         refine onA (i := 16) (N := some 92) HT_.out (fun K hK => ?_)
                         refine goes_ Try.func104 (by kernel_rfl) rfl #[.slice (some ad1041) x6_4.length co50, .int .i64 x13_5, .int .i64 (rd l1 x12_4)] (by rfl) rfl rfl mapd ?_
                         with_reducible refine (spec_l02Less.calls _ _ x6_4 x13_5 (rd l1 x12_4) t1044 _ ?side1 ?side2 A40.out).mono ?_
                         (case side1 => exact cb ((Kd.R_reads' HO_6.out).2.2))
                         (case side2 => exact (Kd.R_reads' HO_6.out).2.1)
                         rintro e w52 ⟨v1045, rfl, ho0, hb⟩
                         have HS0_ := (hb.cell (World.block_lt_of_cell? _ _ (hHeld.1))).trans (hHeld.1)
                         refine ⟨_, rfl, ?_⟩
                         have HO1046 := Aside0.mk (Kd.R_lower (Kd.R_new' (Kd.R_new' ho0 (Kd.R_lt (rk HO_6.out))) (Kd.R_lt (rk HO_11.out))) (below_size (bl HB.out)))
                         replace HO_6 := Aside0.mk (Kd.R_elder' (rk HO_6.out) (Kd.R_base ho0) hb)
                         replace HO_11 := Aside0.mk (Kd.R_elder' (rk HO_11.out) (Kd.R_base ho0) hb)
                         replace HB := Aside0.mk (below_step (bl HB.out) hb)
                         (try clear hb)
                         (try clear hb2)
                         (try clear hk)
                         (try clear hi)
                         (try clear ho0)
                         refine hK.out _ _ ⟨HS0_, ((HB.out.cell (World.block_lt_of_cell? w _ hw1042_0)).trans hw1042_0), ((HB.out.cell (World.block_lt_of_cell? w _ hw1043_0)).trans hw1043_0)⟩ (fun hHeld => ?_)
                         clear hK K
                         refine norm_ (a' := ?_) ?_ ?_
                         rotate_left
                         ·show Act.put _ (some 92) _ = _
                          simp only [Act.put, List.setIfInBounds_toArray, List.set_cons_zero, List.set_cons_succ, i64_w, i32_w]
                          rfl
                         refine onA (i := 21) (N := some 97) HT_.out (fun K hK => ?_)
                         refine goes_ Try.func103 (by kernel_rfl) rfl #[.slice A51 (l1.drop ((ji41) : Int).toNat).length (c1 - (ji41).toNat)] (by rfl) rfl rfl (by (try simp only [List.map_toArray, List.map_cons, List.map_nil]); first | done | (rw [show (l1.drop ((ji41) : Int).toNat).length = (l1.length - (ji41).toNat) from List.length_drop] <;> rfl) | (simp only [hji41]; rfl) | rfl | (simp only [List.length_drop, List.length_take]; rfl)) ?_
                         with_reducible refine (spec_l02Down.calls k5 _ _ (l1.drop ((ji41) : Int).toNat) t1048 _ ?side1 ?side2 A44.out).mono ?_
                         (case side1 => exact cb (Kd.C_below HR1047.out HB.out))
                         (case side2 => exact HC1047.out)
                         rintro e w53 ⟨v1049, rfl, ho0, hb⟩
                         have HS0_ := (hb.cell (World.block_lt_of_cell? _ _ (hHeld.1))).trans (hHeld.1)
                         refine ⟨_, rfl, ?_⟩
                         have HO1050 := Aside0.mk (Kd.R_lower (Kd.R_new' (Kd.R_new' (Kd.R_new' ho0 (Kd.R_lt (rk HO_6.out))) (Kd.R_lt (rk HO_11.out))) (Kd.R_lt (rk HO1046.out))) (below_size (bl HB.out)))
                         replace HO_6 := Aside0.mk (Kd.R_elder' (rk HO_6.out) (Kd.R_base ho0) hb)
                         replace HO_11 := Aside0.mk (Kd.R_elder' (rk HO_11.out) (Kd.R_base ho0) hb)
                         replace HO1046 := Aside0.mk (Kd.R_elder' (rk HO1046.out) (Kd.R_base ho0) hb)
                         replace HB := Aside0.mk (below_step (bl HB.out) hb)
                         (try clear hb)
                         (try clear hb2)
                         (try clear hk)
                         (try clear hi)
                         (try clear ho0)
                         obtain ⟨Ao54, co54, eo54⟩ := Kd.R_slice HO1046.out
                         (first | subst eo54 | (injection eo54 with f1_ f2_ f3_; have f4_ := f1_.symm; have f5_ := f3_.symm; clear f1_ f2_ f3_; subst f4_; subst f5_))
                         obtain ⟨Ao55, co55, eo55⟩ := Kd.R_slice HO1050.out
                         (first | subst eo55 | (injection eo55 with f1_ f2_ f3_; have f4_ := f1_.symm; have f5_ := f3_.symm; clear f1_ f2_ f3_; subst f4_; subst f5_))
                         refine hK.out _ _ ⟨HS0_, ((HB.out.cell (World.block_lt_of_cell? w _ hw1042_0)).trans hw1042_0), ((HB.out.cell (World.block_lt_of_cell? w _ hw1043_0)).trans hw1043_0)⟩ (fun hHeld => ?_)
                         clear hK K
                         refine norm_ (a' := ?_) ?_ ?_
                         rotate_left
                         ·show Act.put _ (some 97) _ = _
                          simp only [Act.put, List.setIfInBounds_toArray, List.set_cons_zero, List.set_cons_succ, i64_w, i32_w]
                          rfl
                         refine onA (i := 22) (N := some 98) HT_.out (fun K hK => ?_)
                         refine goes_ Try.func102 (by kernel_rfl) rfl #[.slice Ao54 t1044.length co54, .slice Ao55 t1048.length co55] (by rfl) rfl rfl mapd ?_
                         with_reducible refine (spec_l02Holds.calls k5 _ _ t1044 _ _ t1048 true _ ?side1 ?side2 ?side3 ?side4 A45.out).mono ?_
                         (case side1 => exact cb ((Kd.R_reads' HO1046.out).2.2))
                         (case side2 => exact (Kd.R_reads' HO1046.out).2.1)
                         (case side3 => exact cb ((Kd.R_reads' HO1050.out).2.2))
                         (case side4 => exact (Kd.R_reads' HO1050.out).2.1)
                         rintro e w56 ⟨rfl, hb⟩
                         have HS0_ := (hb.cell (World.block_lt_of_cell? _ _ (hHeld.1))).trans (hHeld.1)
                         refine ⟨_, rfl, ?_⟩
                         replace HO_6 := Aside0.mk (Kd.R_below (rk HO_6.out) hb)
                         replace HO_11 := Aside0.mk (Kd.R_below (rk HO_11.out) hb)
                         replace HO1046 := Aside0.mk (Kd.R_below (rk HO1046.out) hb)
                         replace HO1050 := Aside0.mk (Kd.R_below (rk HO1050.out) hb)
                         replace HB := Aside0.mk (below_step (bl HB.out) hb)
                         (try clear hb)
                         (try clear hb2)
                         (try clear hk)
                         (try clear hi)
                         refine hK.out _ _ ⟨HS0_, ((HB.out.cell (World.block_lt_of_cell? w _ hw1042_0)).trans hw1042_0), ((HB.out.cell (World.block_lt_of_cell? w _ hw1043_0)).trans hw1043_0)⟩ (fun hHeld => ?_)
                         clear hK K
                         refine norm_ (a' := ?_) ?_ ?_
                         rotate_left
                         ·show Act.put _ (some 98) _ = _
                          simp only [Act.put, List.setIfInBounds_toArray, List.set_cons_zero, List.set_cons_succ, i64_w, i32_w]
                          rfl
                         refine puA (i := 23) (N := some 99) HT_.out ?_
                         refine puA (i := 24) (N := some 100) HT_.out ?_
                         refine done_ (done_of HT_.out (by kernel_rfl)) ?_
                         have p1052 : 0 ≤ (x12_4 : Int) := of_decide_eq_true asm
                         have q1052 : x12_4 < (l1.length : Int) := of_decide_eq_true asm
                         obtain ⟨ad1052, e1052, hx1052_0⟩ := Kd.at_int HR1.out x12_4 p1052 q1052
                         obtain rfl : ad1042 = ad1052 := (by injection e1052)
                         replace hx1052_0 := (HB.out.cell (World.block_lt_of_cell? w _ hx1052_0)).trans hx1052_0
                         replace p1052 := eq_true p1052
                         replace q1052 := eq_true q1052
                         try go_wp2_with (first | ((with_reducible refine gate_callee (f := 104) rfl ?_); refine goesL_ (some 109) rfl rfl Try.func104 (by kernel_rfl) rfl #[.slice (some ad1041) x6_4.length co50, .int .i64 x13_5, .int .i64 (rd l1 x12_4)] rfl mapd ?_; (with_reducible refine (spec_l02Less.calls _ _ x6_4 x13_5 (rd l1 x12_4) t1053 _ ?side1 ?side2 A47.out).mono ?_); (case side1 => exact cb ((Kd.R_reads' HO_6.out).2.2)); (case side2 => exact (Kd.R_reads' HO_6.out).2.1); rintro e w57 ⟨v1054, rfl, ho0, hb⟩; refine ⟨_, rfl, ?_⟩; have HO1055 := Aside0.mk (Kd.R_lower (Kd.R_new' (Kd.R_new' (Kd.R_new' (Kd.R_new' ho0 (Kd.R_lt (rk HO_6.out))) (Kd.R_lt (rk HO_11.out))) (Kd.R_lt (rk HO1046.out))) (Kd.R_lt (rk HO1050.out))) (below_size (bl HB.out))); replace HO_6 := Aside0.mk (Kd.R_elder' (rk HO_6.out) (Kd.R_base ho0) hb); replace HO_11 := Aside0.mk (Kd.R_elder' (rk HO_11.out) (Kd.R_base ho0) hb); replace HO1046 := Aside0.mk (Kd.R_elder' (rk HO1046.out) (Kd.R_base ho0) hb); replace HO1050 := Aside0.mk (Kd.R_elder' (rk HO1050.out) (Kd.R_base ho0) hb); replace HB := Aside0.mk (below_step (bl HB.out) hb); (try clear hb); (try clear hb2); (try clear hk); (try clear hi); (try clear ho0)) | ((with_reducible refine gate_builtin (b := .append) (xs := #[.tmp 110, .tmp 112]) rfl ?_); at_builtin; refine Kd.R_append (Kd.int .i64) (w0 := w) w.heap.size rfl (.tmp 110) (.tmp 112) 38 3 (.int .i64 0) 8 rfl Try.underlying38 info3 rfl (by decide) (by omega) u11 x11_4 x13_5 [.int .i64 x13_5] (fun k_ => some k_ ≠ (.slice (some ad1041) x6_4.length co50 : Value).ownBlock ∧ some k_ ≠ (.slice Ao54 t1044.length co54 : Value).ownBlock ∧ some k_ ≠ (.slice Ao55 t1048.length co55 : Value).ownBlock ∧ some k_ ≠ (v1054 : Value).ownBlock) (fun _ => False) rfl rfl ?aP (fun _ hk => hk.elim) ?aF ?aO ?aB ?aS ?aL ?_; (case aP => exact rfl); (case aB => exact (bl HB.out)); (case aF => exact (fun k_ hk => ⟨Kd.fresh' (Kd.R_lt (rk HO_6.out)) k_ hk, Kd.fresh' (Kd.R_lt (rk HO1046.out)) k_ hk, Kd.fresh' (Kd.R_lt (rk HO1050.out)) k_ hk, Kd.fresh' (Kd.R_lt (rk HO1055.out)) k_ hk⟩)); (case aO => exact (by refine rk ?_; exact Kd.R_mono HO_11.out (fun _ hk => ⟨hk.1.1.1, ⟨hk.1.1.2, ⟨hk.1.2, hk.2⟩⟩⟩))); (case aS => exact (below_size (bl HB.out))); (case aL => have := LMc48.out; omega); intro v1057 w58 ho hb hg hat; rw [← Ny1056.out] at ho; replace HO_6 := Aside0.mk (Kd.R_after (ok := (fun k_ => some k_ ≠ (.slice Ao54 t1044.length co54 : Value).ownBlock ∧ some k_ ≠ (.slice Ao55 t1048.length co55 : Value).ownBlock ∧ some k_ ≠ (v1054 : Value).ownBlock)) (by refine rk ?_; exact Kd.R_mono HO_6.out (fun _ hk => ⟨⟨hk.1.1.2, ⟨hk.1.2, hk.2⟩⟩, hk.1.1.1⟩)) hg hat); replace HO1046 := Aside0.mk (Kd.R_after (ok := (fun k_ => some k_ ≠ (.slice (some ad1041) x6_4.length co50 : Value).ownBlock ∧ some k_ ≠ (.slice Ao55 t1048.length co55 : Value).ownBlock ∧ some k_ ≠ (v1054 : Value).ownBlock)) (by refine rk ?_; exact Kd.R_mono HO1046.out (fun _ hk => ⟨⟨hk.1.1.1.2, ⟨hk.1.2, hk.2⟩⟩, hk.1.1.2⟩)) hg hat); replace HO1050 := Aside0.mk (Kd.R_after (ok := (fun k_ => some k_ ≠ (.slice (some ad1041) x6_4.length co50 : Value).ownBlock ∧ some k_ ≠ (.slice Ao54 t1044.length co54 : Value).ownBlock ∧ some k_ ≠ (v1054 : Value).ownBlock)) (by refine rk ?_; exact Kd.R_mono HO1050.out (fun _ hk => ⟨⟨hk.1.1.1.2, ⟨hk.1.2, hk.2⟩⟩, hk.1.1.2⟩)) hg hat); replace HO1055 := Aside0.mk (Kd.R_after (ok := (fun k_ => some k_ ≠ (.slice (some ad1041) x6_4.length co50 : Value).ownBlock ∧ some k_ ≠ (.slice Ao54 t1044.length co54 : Value).ownBlock ∧ some k_ ≠ (.slice Ao55 t1048.length co55 : Value).ownBlock)) (by refine rk ?_; exact Kd.R_mono HO1055.out (fun _ hk => ⟨⟨hk.1.1.1.2, ⟨hk.1.2, hk.2⟩⟩, hk.1.1.2⟩)) hg hat); replace HB := Aside0.mk (hb); have HO1058 := Aside0.mk (ho); clear HO_11; clear ho hb hg hat))
                         go_roundg k5
                         case measure => have := HJ2.out; have := HK2.out; have := HK3.out; have := HK4.out; have := HK5.out; omega
                         case rel => exact ⟨(t1053), (y1056), (ji41), (by first | rfl | (simp; done) | (simp only [← hji41] <;> (first | rfl | simp)) | (simp [*]; done)), H', ⟨by have := HJ2.out; have := HK2.out; have := HK3.out; have := HK4.out; have := HK5.out; omega⟩, ⟨by refine rk ?_; exact Kd.R_mono HO1055.out (fun _ hk => hk.2)⟩, ⟨by refine rk ?_; exact Kd.R_mono HO1058.out (fun _ hk => hk.2.2.2)⟩, ⟨bl HB.out⟩⟩
                        ·rw [if_neg c48] at H
                         exact absurd H (by simp)
                       ·replace c46 := Bool.eq_false_iff.mpr c46
                        subst c46
                        rw [if_neg (show ¬ (false = true) by decide)] at H
                        have H' := Aside0.mk H
                        clear H
                        try go_wp2
                        replace HO_6 := Aside0.mk (Kd.R_drew HO_6.out)
                        replace HO_11 := Aside0.mk (Kd.R_drew HO_11.out)
                        replace HB := Aside0.mk (below_drew1 HB.out)
                        obtain ⟨Ao60, co60, eo60⟩ := Kd.R_slice HO_6.out
                        (first | subst eo60 | (injection eo60 with f1_ f2_ f3_; have f4_ := f1_.symm; have f5_ := f3_.symm; clear f1_ f2_ f3_; subst f4_; subst f5_))
                        have p1041 : 0 ≤ (x13_5 : Int) := of_decide_eq_true asm
                        have q1041 : x13_5 < (x6_4.length : Int) := of_decide_eq_true asm
                        obtain ⟨ad1041, e1041, hx1041_0⟩ := Kd.at_int (Kd.R_reads' HO_6.out).2.2 x13_5 p1041 q1041
                        cases e1041
                        replace p1041 := eq_true p1041
                        replace q1041 := eq_true q1041
                        have p1042 : 0 ≤ (x12_4 : Int) := of_decide_eq_true asm
                        have q1042 : x12_4 < (l1.length : Int) := of_decide_eq_true asm
                        obtain ⟨ad1042, e1042, hx1042_0⟩ := Kd.at_int HR1.out x12_4 p1042 q1042
                        have hw1042_0 := hx1042_0
                        cases e1042
                        replace hx1042_0 := (HB.out.cell (World.block_lt_of_cell? w _ hx1042_0)).trans hx1042_0
                        replace p1042 := eq_true p1042
                        replace q1042 := eq_true q1042
                        have p1043 : 0 ≤ (x12_4 : Int) := of_decide_eq_true asm
                        have q1043 : x12_4 < (l1.length : Int) := of_decide_eq_true asm
                        obtain ⟨ad1043, e1043, hx1043_0⟩ := Kd.at_int HR1.out x12_4 p1043 q1043
                        have hw1043_0 := hx1043_0
                        obtain rfl : ad1042 = ad1043 := (by injection e1043)
                        replace hx1043_0 := (HB.out.cell (World.block_lt_of_cell? w _ hx1043_0)).trans hx1043_0
                        replace p1043 := eq_true p1043
                        replace q1043 := eq_true q1043
                        obtain ⟨i061, hi061, _, hsz61, _⟩ := info_parts info3
                        obtain ⟨A61, hcut61, hA61, hC61⟩ := print_drop_of (P := Try.prog) (Value.int .i64) 0 38 3 .i64 Try.underlying38 hi061 hsz61 (some ad1042) c1 l1 (ji41) (of_decide_eq_true asm) (of_decide_eq_true asm) HC1.out
                        have HR1047 := Aside0.mk (Kd.C_of_reads (h1 := fun _ => rfl) (hA61 _ (Kd.reads_of_C HR1.out)))
                        have HC1047 := Aside0.mk hC61
                        clear hA61 hC61 hi061 hsz61
                        refine start_ (n := 25) (S := fun w' => w'.cell? (ad1041.add (x13_5).toNat) = some (.int .i64 (rd x6_4 x13_5)) ∧ w'.cell? (ad1042.add (x12_4).toNat) = some (.int .i64 (rd l1 x12_4)) ∧ w'.cell? (ad1042.add (x12_4).toNat) = some (.int .i64 (rd l1 x12_4))) (ds := []) #[false, false, false, false, false, false, false, false, false, false, false, false, false, false, false, false, false, false, false, false, false, false, false, false, false] (by kernel_rfl) rfl rfl ⟨hx1041_0, ((HB.out.cell (World.block_lt_of_cell? w _ hw1042_0)).trans hw1042_0), ((HB.out.cell (World.block_lt_of_cell? w _ hw1043_0)).trans hw1043_0)⟩ (fun hHeld => ?_); refine with_tabW spec_PlacesFor.tab24 spec_PlacesFor.bits24 (fun HT_ HW_ => ?_)
                        generalize wr.drew = w59 at HO_6 HO_11 HB HR1047 hx1041_0 hx1042_0 hx1043_0 hHeld ⊢
                        refine puA (i := 0) (N := some 76) HT_.out ?_
                        refine puA (i := 1) (N := some 77) HT_.out ?_
                        refine puA (i := 2) (N := some 78) HT_.out ?_
                        refine puA (i := 4) (N := some 80) HT_.out ?_
                        refine puA (i := 5) (N := some 81) HT_.out ?_
                        refine puA (i := 6) (N := some 82) HT_.out ?_
                        refine tkA3 (i := 3) (N := some 79) HT_.out HW_.out hHeld ?_
                        refine tkA3 (i := 7) (N := some 83) HT_.out HW_.out hHeld ?_
                        refine puA (i := 8) (N := some 84) HT_.out ?_
                        refine puA (i := 9) (N := some 85) HT_.out ?_
                        refine puA (i := 10) (N := some 86) HT_.out ?_
                        refine puA (i := 11) (N := some 87) HT_.out ?_
                        refine puA (i := 12) (N := some 88) HT_.out ?_
                        refine puA (i := 13) (N := some 89) HT_.out ?_
                        refine puA (i := 14) (N := some 90) HT_.out ?_
                        refine puA (i := 17) (N := some 93) HT_.out ?_
                        refine puA (i := 18) (N := some 94) HT_.out ?_
                        refine puA (i := 19) (N := some 95) HT_.out ?_
                        refine puA (i := 20) (N := some 96) HT_.out ?_
                        refine tkA3 (i := 15) (N := some 91) HT_.out HW_.out hHeld ?_
                        refine onA (i := 16) (N := some 92) HT_.out (fun K hK => ?_)
                        refine goes_ Try.func104 (by kernel_rfl) rfl #[.slice (some ad1041) x6_4.length co60, .int .i64 x13_5, .int .i64 (rd l1 x12_4)] (by rfl) rfl rfl mapd ?_
                        with_reducible refine (spec_l02Less.calls _ _ x6_4 x13_5 (rd l1 x12_4) t1044 _ ?side1 ?side2 A40.out).mono ?_
                        (case side1 => exact cb ((Kd.R_reads' HO_6.out).2.2))
                        (case side2 => exact (Kd.R_reads' HO_6.out).2.1)
                        rintro e w62 ⟨v1045, rfl, ho0, hb⟩
                        have HS0_ := (hb.cell (World.block_lt_of_cell? _ _ (hHeld.1))).trans (hHeld.1)
                        refine ⟨_, rfl, ?_⟩
                        have HO1046 := Aside0.mk (Kd.R_lower (Kd.R_new' (Kd.R_new' ho0 (Kd.R_lt (rk HO_6.out))) (Kd.R_lt (rk HO_11.out))) (below_size (bl HB.out)))
                        replace HO_6 := Aside0.mk (Kd.R_elder' (rk HO_6.out) (Kd.R_base ho0) hb)
                        replace HO_11 := Aside0.mk (Kd.R_elder' (rk HO_11.out) (Kd.R_base ho0) hb)
                        replace HB := Aside0.mk (below_step (bl HB.out) hb)
                        (try clear hb)
                        (try clear hb2)
                        (try clear hk)
                        (try clear hi)
                        (try clear ho0)
                        refine hK.out _ _ ⟨HS0_, ((HB.out.cell (World.block_lt_of_cell? w _ hw1042_0)).trans hw1042_0), ((HB.out.cell (World.block_lt_of_cell? w _ hw1043_0)).trans hw1043_0)⟩ (fun hHeld => ?_)
                        clear hK K
                        refine norm_ (a' := ?_) ?_ ?_
                        rotate_left
                        ·show Act.put _ (some 92) _ = _
                         simp only [Act.put, List.setIfInBounds_toArray, List.set_cons_zero, List.set_cons_succ, i64_w, i32_w]
                         rfl
                        refine onA (i := 21) (N := some 97) HT_.out (fun K hK => ?_)
                        refine goes_ Try.func103 (by kernel_rfl) rfl #[.slice A61 (l1.drop ((ji41) : Int).toNat).length (c1 - (ji41).toNat)] (by rfl) rfl rfl (by (try simp only [List.map_toArray, List.map_cons, List.map_nil]); first | done | (rw [show (l1.drop ((ji41) : Int).toNat).length = (l1.length - (ji41).toNat) from List.length_drop] <;> rfl) | (simp only [hji41]; rfl) | rfl | (simp only [List.length_drop, List.length_take]; rfl)) ?_
                        with_reducible refine (spec_l02Down.calls k5 _ _ (l1.drop ((ji41) : Int).toNat) t1048 _ ?side1 ?side2 A44.out).mono ?_
                        (case side1 => exact cb (Kd.C_below HR1047.out HB.out))
                        (case side2 => exact HC1047.out)
                        rintro e w63 ⟨v1049, rfl, ho0, hb⟩
                        have HS0_ := (hb.cell (World.block_lt_of_cell? _ _ (hHeld.1))).trans (hHeld.1)
                        refine ⟨_, rfl, ?_⟩
                        have HO1050 := Aside0.mk (Kd.R_lower (Kd.R_new' (Kd.R_new' (Kd.R_new' ho0 (Kd.R_lt (rk HO_6.out))) (Kd.R_lt (rk HO_11.out))) (Kd.R_lt (rk HO1046.out))) (below_size (bl HB.out)))
                        replace HO_6 := Aside0.mk (Kd.R_elder' (rk HO_6.out) (Kd.R_base ho0) hb)
                        replace HO_11 := Aside0.mk (Kd.R_elder' (rk HO_11.out) (Kd.R_base ho0) hb)
                        replace HO1046 := Aside0.mk (Kd.R_elder' (rk HO1046.out) (Kd.R_base ho0) hb)
                        replace HB := Aside0.mk (below_step (bl HB.out) hb)
                        (try clear hb)
                        (try clear hb2)
                        (try clear hk)
                        (try clear hi)
                        (try clear ho0)
                        obtain ⟨Ao64, co64, eo64⟩ := Kd.R_slice HO1046.out
                        (first | subst eo64 | (injection eo64 with f1_ f2_ f3_; have f4_ := f1_.symm; have f5_ := f3_.symm; clear f1_ f2_ f3_; subst f4_; subst f5_))
                        obtain ⟨Ao65, co65, eo65⟩ := Kd.R_slice HO1050.out
                        (first | subst eo65 | (injection eo65 with f1_ f2_ f3_; have f4_ := f1_.symm; have f5_ := f3_.symm; clear f1_ f2_ f3_; subst f4_; subst f5_))
                        refine hK.out _ _ ⟨HS0_, ((HB.out.cell (World.block_lt_of_cell? w _ hw1042_0)).trans hw1042_0), ((HB.out.cell (World.block_lt_of_cell? w _ hw1043_0)).trans hw1043_0)⟩ (fun hHeld => ?_)
                        clear hK K
                        refine norm_ (a' := ?_) ?_ ?_
                        rotate_left
                        ·show Act.put _ (some 97) _ = _
                         simp only [Act.put, List.setIfInBounds_toArray, List.set_cons_zero, List.set_cons_succ, i64_w, i32_w]
                         rfl
                        refine onA (i := 22) (N := some 98) HT_.out (fun K hK => ?_)
                        refine goes_ Try.func102 (by kernel_rfl) rfl #[.slice Ao64 t1044.length co64, .slice Ao65 t1048.length co65] (by rfl) rfl rfl mapd ?_
                        with_reducible refine (spec_l02Holds.calls k5 _ _ t1044 _ _ t1048 false _ ?side1 ?side2 ?side3 ?side4 A45.out).mono ?_
                        (case side1 => exact cb ((Kd.R_reads' HO1046.out).2.2))
                        (case side2 => exact (Kd.R_reads' HO1046.out).2.1)
                        (case side3 => exact cb ((Kd.R_reads' HO1050.out).2.2))
                        (case side4 => exact (Kd.R_reads' HO1050.out).2.1)
                        rintro e w66 ⟨rfl, hb⟩
                        have HS0_ := (hb.cell (World.block_lt_of_cell? _ _ (hHeld.1))).trans (hHeld.1)
                        refine ⟨_, rfl, ?_⟩
                        replace HO_6 := Aside0.mk (Kd.R_below (rk HO_6.out) hb)
                        replace HO_11 := Aside0.mk (Kd.R_below (rk HO_11.out) hb)
                        replace HO1046 := Aside0.mk (Kd.R_below (rk HO1046.out) hb)
                        replace HO1050 := Aside0.mk (Kd.R_below (rk HO1050.out) hb)
                        replace HB := Aside0.mk (below_step (bl HB.out) hb)
                        (try clear hb)
                        (try clear hb2)
                        (try clear hk)
                        (try clear hi)
                        refine hK.out _ _ ⟨HS0_, ((HB.out.cell (World.block_lt_of_cell? w _ hw1042_0)).trans hw1042_0), ((HB.out.cell (World.block_lt_of_cell? w _ hw1043_0)).trans hw1043_0)⟩ (fun hHeld => ?_)
                        clear hK K
                        refine norm_ (a' := ?_) ?_ ?_
                        rotate_left
                        ·show Act.put _ (some 98) _ = _
                         simp only [Act.put, List.setIfInBounds_toArray, List.set_cons_zero, List.set_cons_succ, i64_w, i32_w]
                         rfl
                        refine puA (i := 23) (N := some 99) HT_.out ?_
                        refine puA (i := 24) (N := some 100) HT_.out ?_
                        refine done_ (done_of HT_.out (by kernel_rfl)) ?_
                        try go_wp2
                        go_roundg k5
                        case measure => have := HJ2.out; have := HK2.out; have := HK3.out; have := HK4.out; have := HK5.out; omega
                        case rel => exact ⟨(wrap64 (x13_5 + 1)), (by first | rfl | (simp; done) | (simp [*]; done)), H', ⟨by have := HJ2.out; have := HK2.out; have := HK3.out; have := HK4.out; have := HK5.out; omega⟩, ⟨by refine rk ?_; exact Kd.R_mono HO_6.out (fun _ hk => hk.1.1)⟩, ⟨by refine rk ?_; exact Kd.R_mono HO_11.out (fun _ hk => hk.1.1)⟩, ⟨bl HB.out⟩⟩
                      ·rw [if_neg c43] at H
                       exact absurd H (by simp)
                     ·rw [if_neg c42] at H
                      exact absurd H (by simp)
                   ·rw [if_neg c36] at H
                    exact absurd H (by simp)
                  ·rw [if_neg c35] at H
                   exact absurd H (by simp)
                 ·rw [if_neg c34] at H
                  exact absurd H (by simp)
                ·rw [if_neg c33] at H
                 exact absurd H (by simp)
             ·rw [if_neg c32] at H
              have c32b0 : decide (x12_4 < (l1.length : Int)) = false := decide_eq_false c32
              clear c32
              simp only [Option.some.injEq, Prod.mk.injEq] at H
              obtain ⟨rfl, rfl⟩ := H
              go_wp2
              go_ret2
              exact ⟨_, by first | rfl | (simp [errW_none, errW_some] <;> rfl) | (simp [*, errW_none, errW_some] <;> rfl), by refine rk ?_; exact Kd.R_mono HO_11.out (fun _ hk => trivial), bl HB.out⟩
          ·replace c25 := Bool.eq_false_iff.mpr c25
           subst c25
           rw [if_neg (show ¬ (false = true) by decide)] at H
           simp only [Option.some.injEq, Prod.mk.injEq] at H
           obtain ⟨rfl, rfl⟩ := H
           go_wp2_with (first | ((with_reducible refine gate_callee (f := 103) rfl ?_); refine goesL_ (some 66) rfl rfl Try.func103 (by kernel_rfl) rfl #[.slice A1 l1.length c1] rfl mapd ?_; (with_reducible refine (spec_l02Down.calls k3 _ _ l1 t1034 _ ?side1 ?side2 A23.out).mono ?_); (case side1 => exact cb (Kd.C_below HR1.out HB.out)); (case side2 => exact HC1.out); rintro e w67 ⟨v1035, rfl, ho0, hb⟩; refine ⟨_, rfl, ?_⟩; have HO1036 := Aside0.mk (Kd.R_lower (Kd.R_new' ho0 (Kd.R_lt (rk HO_6.out))) (below_size (bl HB.out))); replace HO_6 := Aside0.mk (Kd.R_elder' (rk HO_6.out) (Kd.R_base ho0) hb); replace HB := Aside0.mk (below_step (bl HB.out) hb); (try clear hb); (try clear hb2); (try clear hk); (try clear hi); (try clear ho0); obtain ⟨Ao68, co68, eo68⟩ := Kd.R_slice HO_6.out; subst eo68; obtain ⟨Ao69, co69, eo69⟩ := Kd.R_slice HO1036.out; subst eo69) | ((with_reducible refine gate_callee (f := 102) rfl ?_); refine goesL_ (some 67) rfl rfl Try.func102 (by kernel_rfl) rfl #[.slice Ao68 x6_2.length co68, .slice Ao69 t1034.length co69] rfl mapd ?_; (with_reducible refine (spec_l02Holds.calls k3 _ _ x6_2 _ _ t1034 false _ ?side1 ?side2 ?side3 ?side4 A24.out).mono ?_); (case side1 => exact cb ((Kd.R_reads' HO_6.out).2.2)); (case side2 => exact (Kd.R_reads' HO_6.out).2.1); (case side3 => exact cb ((Kd.R_reads' HO1036.out).2.2)); (case side4 => exact (Kd.R_reads' HO1036.out).2.1); rintro e w70 ⟨rfl, hb⟩; refine ⟨_, rfl, ?_⟩; replace HO_6 := Aside0.mk (Kd.R_below (rk HO_6.out) hb); replace HO1036 := Aside0.mk (Kd.R_below (rk HO1036.out) hb); replace HB := Aside0.mk (below_step (bl HB.out) hb); (try clear hb); (try clear hb2); (try clear hk); (try clear hi)))
           go_ret2
           exact ⟨_, by first | rfl | (simp [errW_none, errW_some] <;> rfl) | (simp [*, errW_none, errW_some] <;> rfl), by first | exact Kd.R_nil _ _ _ _ _ | exact Kd.N_nil _ _ _ _ _ | exact Kd.V_nil _ _ _ _ _ | exact Kd.Q_nil _ _ _ _ _ | exact Kd.S_nil _ _ _ _ _, bl HB.out⟩
end Go.Proofs.Ytbpjidekjogfeaa.A

namespace Go.Proofs.Ytbpjidekjogfeaa.A
open Go.RowKit Go.Proofs.YtbpjidekjogfeaaW.PrintWords Go.Proofs.YtbpjidekjogfeaaW.PrintLast Go.Proofs.YtbpjidekjogfeaaW.PrintMore
attribute [local go_sem] max2_int min2_int max_two min_two max_three min_three max_four min_four   
set_option linter.unusedVariables false
set_option linter.unusedSimpArgs false
def impl_sizesOk.l0 : Nat → List Int → List Int → Int → Int → Option (Bool)
 | 0, _, _, _, _ => none
 | k + 1, x0, x5, x6, x7 => if x7 < x6 then (if 0 ≤ x7 then (if x7 < (x5.length : Int) then (if (rd x5 x7) < 1 then (some false) else (impl_sizesOk.l0 k x0 x5 x6 (wrap64 (x7 + 1)))) else (none)) else (none)) else (some (decide ((x0.length : Int) ≤ 8)))
def impl_sizesOk.f (k : Nat) (l0 : List Int) : Option (Bool) := impl_sizesOk.l0 k l0 l0 (l0.length : Int) 0
set_option maxHeartbeats 8000000 in
set_option maxRecDepth 100000 in
theorem impl_sizesOk.calls (k : Nat) (A0 : Option Addr) (c0 : Nat) (l0 : List Int) (r : Bool) (w : World) (hr0 : Kd.C (Kd.int .i64) w A0 l0.length l0) (hc0 : l0.length ≤ c0) (h : impl_sizesOk.f k l0 = some r) :
  Calls Try.prog 100 #[.slice A0 l0.length c0] w fun e w' => e = .returned (.bool r) ∧ Drawn0 w w' := by
 have HR0 := Aside0.mk hr0
 have HC0 := Aside0.mk hc0
 clear hr0 hc0
 have H : (impl_sizesOk.l0 k l0 l0 (l0.length : Int) 0) = some r := h
 clear h
 have H' := Aside0.mk H
 clear H
 go_enter Try.func100, Try.ntmps100
 go_wp2
 go_loopg [7] k (fun kq v7 w' => ∃ (x7_1 : Int), v7 = .int .i64 x7_1 ∧ Aside0 (impl_sizesOk.l0 kq l0 l0 (l0.length : Int) x7_1 = some r) ∧ Aside0 (kq ≤ k) ∧ Drawn0 w w')
 case atStart => exact ⟨(0), (by first | rfl | (simp; done) | (simp [*]; done)), H', ⟨Nat.le_refl _⟩, by repeat (first | exact Drawn0.refl _ | apply Drawn0.step)⟩
 case round =>
  clear H'
  try clear c1
  obtain ⟨x7_1, rfl, HA, HK1, ⟨m1, rfl⟩⟩ := hrel
  cases gk with
  | zero => exact absurd HA.out (by simp [impl_sizesOk.l0])
  | succ k1 =>
   have H := HA.out
   clear HA
   simp only [impl_sizesOk.l0] at H
   by_cases c2 : x7_1 < (l0.length : Int)
   ·rw [if_pos c2] at H
    have c2b0 : decide (x7_1 < (l0.length : Int)) = true := decide_eq_true c2
    clear c2
    by_cases c3 : 0 ≤ x7_1
    ·rw [if_pos c3] at H
     have c3b0 : decide (0 ≤ x7_1) = true := decide_eq_true c3
     clear c3
     by_cases c4 : x7_1 < (l0.length : Int)
     ·rw [if_pos c4] at H
      have c4b0 : decide (x7_1 < (l0.length : Int)) = true := decide_eq_true c4
      clear c4
      by_cases c5 : (rd l0 x7_1) < 1
      ·rw [if_pos c5] at H
       have c5b0 : decide ((rd l0 x7_1) < 1) = true := decide_eq_true c5
       clear c5
       obtain rfl := Option.some.inj H
       have p1063 : 0 ≤ (x7_1 : Int) := of_decide_eq_true asm
       have q1063 : x7_1 < (l0.length : Int) := of_decide_eq_true asm
       obtain ⟨ad1063, e1063, hx1063_0⟩ := Kd.at_int HR0.out x7_1 p1063 q1063
       cases e1063
       replace p1063 := eq_true p1063
       replace q1063 := eq_true q1063
       go_wp2
       go_ret
       exact ⟨by first | rfl | (simp; done) | (simp [*]; done), by repeat (first | exact Drawn0.refl _ | apply Drawn0.step)⟩
      ·rw [if_neg c5] at H
       have c5b0 : decide ((rd l0 x7_1) < 1) = false := decide_eq_false c5
       clear c5
       have H' := Aside0.mk H
       clear H
       have p1063 : 0 ≤ (x7_1 : Int) := of_decide_eq_true asm
       have q1063 : x7_1 < (l0.length : Int) := of_decide_eq_true asm
       obtain ⟨ad1063, e1063, hx1063_0⟩ := Kd.at_int HR0.out x7_1 p1063 q1063
       cases e1063
       replace p1063 := eq_true p1063
       replace q1063 := eq_true q1063
       go_wp2
       go_roundg k1
       case measure => have := HK1.out; omega
       case rel => exact ⟨(wrap64 (x7_1 + 1)), (by first | rfl | (simp; done) | (simp [*]; done)), H', ⟨by have := HK1.out; omega⟩, by repeat (first | exact Drawn0.refl _ | apply Drawn0.step)⟩
     ·rw [if_neg c4] at H
      exact absurd H (by simp)
    ·rw [if_neg c3] at H
     exact absurd H (by simp)
   ·rw [if_neg c2] at H
    have c2b0 : decide (x7_1 < (l0.length : Int)) = false := decide_eq_false c2
    clear c2
    obtain rfl := Option.some.inj H
    go_wp2
    go_ret
    exact ⟨by first | rfl | (simp; done) | (simp [*]; done), by repeat (first | exact Drawn0.refl _ | apply Drawn0.step)⟩
end Go.Proofs.Ytbpjidekjogfeaa.A
