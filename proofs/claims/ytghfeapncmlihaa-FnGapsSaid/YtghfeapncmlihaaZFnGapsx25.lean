/- What the proof of the law FnGaps uses: lemmas, the Lean functions of the Go functions that it reaches, their contracts, and the pure statement's proof. -/
import Derived.Test.YtghfeapncmlihaaZFnGapsx16
import Derived.Test.YtghfeapncmlihaaZFnGapsx23
import Derived.Test.YtghfeapncmlihaaZFnGapsx24
import Derived.Test.YtghfeapncmlihaaZFnGapsh
namespace Go.Proofs.Ytghfeapncmlihaa.A
open Go.RowKit Go.Proofs.YtghfeapncmlihaaW.PrintWords Go.Proofs.YtghfeapncmlihaaW.PrintLast Go.Proofs.YtghfeapncmlihaaW.PrintMore
attribute [local go_sem] max2_int min2_int max_two min_two max_three min_three max_four min_four   
set_option linter.unusedVariables false
set_option linter.unusedSimpArgs false
def spec_l02AnyColumn.f (k : Nat) (s0_0 : List Int) (s0_1 : Int) (s0_2 : Int) : Option (Int × List Int × (List (S71)) × Int × Int) := (spec_l02Column.f k s0_0 s0_1 s0_2 1).bind fun bt1131 => ((spec_l01Below.f s0_0 bt1131.2.2.2.1 bt1131.2.2.2.2 (bt1131.2.2.1.length : Int)).bind fun bt1141 => ((spec_l01Below.f s0_0 bt1141.2.1 bt1141.2.2 14).bind fun bt1144 => (if bt1144.1 = 0 then ((spec_l01PickInt.f s0_0 bt1144.2.1 bt1144.2.2 (([0, 24, 25, wrap64 (bt1131.1 + 1)] : List Int))).bind fun bt1150 => (some (bt1150.1, bt1131.2.1, bt1131.2.2.1, bt1150.2.1, bt1150.2.2))) else (if bt1144.1 = 1 then ((spec_l01PickInt.f s0_0 bt1144.2.1 bt1144.2.2 (([(-1), 0, 1, 9223372036854775807] : List Int))).bind fun bt1156 => (if 0 ≤ bt1141.1 then (if bt1141.1 < (bt1131.2.2.1.length : Int) then (some (bt1131.1, bt1131.2.1, (bt1131.2.2.1.set (bt1141.1 : Int).toNat (⟨(rd_T71 bt1131.2.2.1 bt1141.1).f0, bt1156.1, (rd_T71 bt1131.2.2.1 bt1141.1).f2, (rd_T71 bt1131.2.2.1 bt1141.1).f3⟩ : S71)), bt1156.2.1, bt1156.2.2)) else (none)) else (none))) else (if bt1144.1 = 2 then ((spec_l01PickInt.f s0_0 bt1144.2.1 bt1144.2.2 (([(-1), 1, 999, 1000] : List Int))).bind fun bt1163 => (if 0 ≤ bt1141.1 then (if bt1141.1 < (bt1131.2.2.1.length : Int) then (some (bt1131.1, bt1131.2.1, (bt1131.2.2.1.set (bt1141.1 : Int).toNat (⟨(rd_T71 bt1131.2.2.1 bt1141.1).f0, (rd_T71 bt1131.2.2.1 bt1141.1).f1, bt1163.1, (rd_T71 bt1131.2.2.1 bt1141.1).f3⟩ : S71)), bt1163.2.1, bt1163.2.2)) else (none)) else (none))) else (if bt1144.1 = 3 then ((spec_l01Below.f s0_0 bt1144.2.1 bt1144.2.2 14).bind fun bt1167 => (if bt1131.2.1.length < 17592186044416 then (some (bt1131.1, (bt1131.2.1 ++ [bt1167.1]), bt1131.2.2.1, bt1167.2.1, bt1167.2.2)) else (none))) else (if bt1144.1 = 4 then (some (bt1131.1, bt1131.2.1, ([] : List (S71)), bt1144.2.1, bt1144.2.2)) else (some (bt1131.1, bt1131.2.1, bt1131.2.2.1, bt1144.2.1, bt1144.2.2)))))))))
def spec_l02AnyColumn.T7 : Bool × List (List Nat × List Nat) := (true, [([], []), ([0], [0]), ([], []), ([], []), ([], []), ([3, 4], [3, 4]), ([1, 2, 0, 1, 2, 3, 4, 5], [1, 2]), ([6, 0, 1, 2, 3, 4, 5], [6]), ([7, 5, 5, 0, 1, 2, 3, 4, 5], [5, 7])])
def spec_l02AnyColumn.B7 : List Nat := [0, 1, 0, 0, 0, 24, 63, 127, 255]
theorem spec_l02AnyColumn.tab7 : rtab .any (opsOf Try.f82 7) = spec_l02AnyColumn.T7 := by kernel_rfl
theorem spec_l02AnyColumn.bits7 : waitsOk spec_l02AnyColumn.T7.2 spec_l02AnyColumn.B7 = true := by kernel_rfl
def spec_l02AnyColumn.T9 : Bool × List (List Nat × List Nat) := (true, [([], []), ([0], [0]), ([], []), ([], []), ([], []), ([3, 4], [3, 4]), ([1, 2, 0, 1, 2, 3, 4, 5], [1, 2]), ([6, 0, 1, 2, 3, 4, 5], [6]), ([7, 5, 5, 0, 1, 2, 3, 4, 5], [5, 7])])
def spec_l02AnyColumn.B9 : List Nat := [0, 1, 0, 0, 0, 24, 63, 127, 255]
theorem spec_l02AnyColumn.tab9 : rtab .any (opsOf Try.f82 9) = spec_l02AnyColumn.T9 := by kernel_rfl
theorem spec_l02AnyColumn.bits9 : waitsOk spec_l02AnyColumn.T9.2 spec_l02AnyColumn.B9 = true := by kernel_rfl
def spec_l02AnyColumn.T11 : Bool × List (List Nat × List Nat) := (true, [([], []), ([0], [0]), ([], []), ([2], [2]), ([3], [3]), ([1, 4, 3], [1, 4]), ([0, 1, 2, 3, 4, 5], []), ([6, 5, 5, 0, 1, 2, 3, 4, 5], [5, 6])])
def spec_l02AnyColumn.B11 : List Nat := [0, 1, 0, 4, 12, 31, 63, 127]
theorem spec_l02AnyColumn.tab11 : rtab .any (opsOf Try.f82 11) = spec_l02AnyColumn.T11 := by kernel_rfl
theorem spec_l02AnyColumn.bits11 : waitsOk spec_l02AnyColumn.T11.2 spec_l02AnyColumn.B11 = true := by kernel_rfl
set_option maxHeartbeats 8000000 in
set_option maxRecDepth 100000 in
theorem spec_l02AnyColumn.calls (k : Nat) (g : Nat) (s0_0 : List Int) (s0_1 : Int) (s0_2 : Int) (r1 : Int) (r2 : List Int) (r3 : List (S71)) (r4 : Int) (r5 : Int) (w0 w : World) (hI : IsS104 w0 w g s0_0 s0_1 s0_2) (hB : Below w0.heap.size w0 w) (h : spec_l02AnyColumn.f k s0_0 s0_1 s0_2 = some (r1, r2, r3, r4, r5)) :
  Calls Try.prog 82 #[.pointer (some ⟨g, 0, none⟩)] w fun e w' => ∃ v1_ v2_ : Value, e = .returned (.agg #[.int .i64 r1, v1_, v2_]) ∧ Kd.R (Kd.int .i64) 3 w' w.heap.size (fun _ => True) v1_ r2 ∧ Kd.R k71 71 w' w.heap.size (fun _ => True) v2_ r3 ∧ IsS104 w0 w' g s0_0 r4 r5 ∧ Below w0.heap.size w0 w' ∧ KeepBut w w' g none := by
 have hu30 := Try.underlying30
 have HI0 := Aside0.mk hI
 have HK := Aside0.mk (KeepBut.refl w g none)
 have HL := Aside0.mk hB.size
 clear hI
 have HW0 := Aside0.mk hB.size
 have HB := Aside0.mk hB
 clear hB
 have H : ((spec_l02Column.f k s0_0 s0_1 s0_2 1).bind fun bt1131 => ((spec_l01Below.f s0_0 bt1131.2.2.2.1 bt1131.2.2.2.2 (bt1131.2.2.1.length : Int)).bind fun bt1141 => ((spec_l01Below.f s0_0 bt1141.2.1 bt1141.2.2 14).bind fun bt1144 => (if bt1144.1 = 0 then ((spec_l01PickInt.f s0_0 bt1144.2.1 bt1144.2.2 (([0, 24, 25, wrap64 (bt1131.1 + 1)] : List Int))).bind fun bt1150 => (some (bt1150.1, bt1131.2.1, bt1131.2.2.1, bt1150.2.1, bt1150.2.2))) else (if bt1144.1 = 1 then ((spec_l01PickInt.f s0_0 bt1144.2.1 bt1144.2.2 (([(-1), 0, 1, 9223372036854775807] : List Int))).bind fun bt1156 => (if 0 ≤ bt1141.1 then (if bt1141.1 < (bt1131.2.2.1.length : Int) then (some (bt1131.1, bt1131.2.1, (bt1131.2.2.1.set (bt1141.1 : Int).toNat (⟨(rd_T71 bt1131.2.2.1 bt1141.1).f0, bt1156.1, (rd_T71 bt1131.2.2.1 bt1141.1).f2, (rd_T71 bt1131.2.2.1 bt1141.1).f3⟩ : S71)), bt1156.2.1, bt1156.2.2)) else (none)) else (none))) else (if bt1144.1 = 2 then ((spec_l01PickInt.f s0_0 bt1144.2.1 bt1144.2.2 (([(-1), 1, 999, 1000] : List Int))).bind fun bt1163 => (if 0 ≤ bt1141.1 then (if bt1141.1 < (bt1131.2.2.1.length : Int) then (some (bt1131.1, bt1131.2.1, (bt1131.2.2.1.set (bt1141.1 : Int).toNat (⟨(rd_T71 bt1131.2.2.1 bt1141.1).f0, (rd_T71 bt1131.2.2.1 bt1141.1).f1, bt1163.1, (rd_T71 bt1131.2.2.1 bt1141.1).f3⟩ : S71)), bt1163.2.1, bt1163.2.2)) else (none)) else (none))) else (if bt1144.1 = 3 then ((spec_l01Below.f s0_0 bt1144.2.1 bt1144.2.2 14).bind fun bt1167 => (if bt1131.2.1.length < 17592186044416 then (some (bt1131.1, (bt1131.2.1 ++ [bt1167.1]), bt1131.2.2.1, bt1167.2.1, bt1167.2.2)) else (none))) else (if bt1144.1 = 4 then (some (bt1131.1, bt1131.2.1, ([] : List (S71)), bt1144.2.1, bt1144.2.2)) else (some (bt1131.1, bt1131.2.1, bt1131.2.2.1, bt1144.2.1, bt1144.2.2)))))))))) = some (r1, r2, r3, r4, r5) := h
 clear h
 replace H := Option.bind_eq_some_iff.mp H
 obtain ⟨⟨t1131, t1132, t1135, t1138, t1139⟩, A20, H⟩ := H
 try dsimp only at H
 have A2 := Aside0.mk A20
 clear A20
 replace H := Option.bind_eq_some_iff.mp H
 obtain ⟨⟨t1141, t1142, t1143⟩, A30, H⟩ := H
 try dsimp only at H
 have A3 := Aside0.mk A30
 clear A30
 replace H := Option.bind_eq_some_iff.mp H
 obtain ⟨⟨t1144, t1145, t1146⟩, A40, H⟩ := H
 try dsimp only at H
 have A4 := Aside0.mk A40
 clear A40
 by_cases c5 : t1144 = 0
 ·rw [if_pos c5] at H
  have c5b0 : (t1144 == 0) = true := beq_iff_eq.mpr c5
  have c5b1 : (t1144 != 0) = false := bne_eq_false_iff_eq.mpr c5
  clear c5
  obtain ⟨y1147, hy1147⟩ : ∃ y_ : List Int, y_ = (([0, 24, 25, wrap64 (t1131 + 1)] : List Int)) := ⟨_, rfl⟩
  replace H : ((spec_l01PickInt.f s0_0 t1145 t1146 y1147).bind fun bt1150 => (some (bt1150.1, t1132, t1135, bt1150.2.1, bt1150.2.2))) = some (r1, r2, r3, r4, r5) := by first | (rw [hy1147]; with_reducible exact H) | (have H2_ := (Option.bind_some _ _).symm.trans H; rw [hy1147]; with_reducible exact H2_) | (have H2_ := (Option.bind_some _ _).symm.trans H; with_reducible exact H2_) | with_reducible exact H | (rw [hy1147]; exact H) | exact H
  have Ny1147 := Aside0.mk hy1147
  clear hy1147
  replace H := Option.bind_eq_some_iff.mp H
  obtain ⟨⟨t1150, t1151, t1152⟩, A60, H⟩ := H
  try dsimp only at H
  have A6 := Aside0.mk A60
  clear A60
  simp only [Option.some.injEq, Prod.mk.injEq] at H
  obtain ⟨rfl, rfl, rfl, rfl, rfl⟩ := H
  go_enter Try.func82, Try.ntmps82
  go_wp2_with (first | ((with_reducible refine gate_dst (N := 2) rfl ?_); refine bx (cs := #[.int .i64 0, .slice none 0 0, .slice none 0 0]) (t := 30) fun gb1130 hg w7 hbox hb => ?_; replace HB := Aside0.mk (below_step (bl104 HB.out) hb); have BK1130 := Aside0.mk (hbox); have GW1130 := Aside0.mk ((ks HK.out hg)); have GE1130 := Aside0.mk ((Nat.le_trans HW0.out (ks HK.out hg) : w0.heap.size ≤ gb1130)); replace HK := Aside0.mk (KeepBut.trans (kp HK.out) (KeepBut.of_below hb g none) (.inl rfl)); have NB0_1130 := Aside0.mk ((by rw [hg]; exact Nat.ne_of_lt (IsS104.lt (show IsS104 w0 _ g s0_0 s0_1 s0_2 from is104 HI0.out)) : g ≠ gb1130)); have NB1130_0 := Aside0.mk ((by rw [hg]; exact Nat.ne_of_gt (IsS104.lt (show IsS104 w0 _ g s0_0 s0_1 s0_2 from is104 HI0.out)) : gb1130 ≠ g)); replace HI0 := Aside0.mk (IsS104.below (is104 HI0.out) hb); clear hb hbox hg) | ((with_reducible refine gate_callee (f := 96) rfl ?_); refine goesL_ (some 6) rfl rfl Try.func96 (by kernel_rfl) rfl #[.pointer (some ⟨g, 0, none⟩), .int .i64 1] rfl mapd ?_; (with_reducible refine (spec_l02Column.calls k g s0_0 s0_1 s0_2 1 t1131 t1132 t1135 t1138 t1139 w0 _ ?side1 ?side2 A2.out).mono ?_); (case side1 => exact is104 HI0.out); (case side2 => exact bl104 HB.out); rintro e w8 ⟨v1133, v1136, rfl, ho0, ho1, hi, hb, hk⟩; refine ⟨_, rfl, ?_⟩; replace BK1130 := Aside0.mk (KeepBut.blk hk (g' := gb1130) (o := .cells #[.int .i64 0, .slice none 0 0, .slice none 0 0] 30 (0, 0)) (bk BK1130.out) NB1130_0.out (by simp)); have HO1134 := Aside0.mk (Kd.R_lower ho0 (keep_size (w := w) (g := g) (row := none) (kp HK.out))); have HO1137 := Aside0.mk (Kd.R_lower ho1 (keep_size (w := w) (g := g) (row := none) (kp HK.out))); replace HK := Aside0.mk (KeepBut.trans (kp HK.out) hk (.inl rfl)); replace HB := Aside0.mk (hb); replace HI0 := Aside0.mk (hi); (try clear hb); (try clear hb2); (try clear hk); (try clear hi); (try clear ho0); (try clear ho1)) | ((with_reducible refine gate_dst (N := 3) rfl ?_); refine bx (cs := #[.int .i64 0, .slice none 0 0, .slice none 0 0]) (t := 30) fun gb1140 hg w9 hbox hb => ?_; replace HO1134 := Aside0.mk (Kd.R_below (rk HO1134.out) hb); replace HO1137 := Aside0.mk (Kd.R_below (rk HO1137.out) hb); replace HB := Aside0.mk (below_step (bl104 HB.out) hb); have BK1140 := Aside0.mk (hbox); have GW1140 := Aside0.mk ((ks HK.out hg)); have GE1140 := Aside0.mk ((Nat.le_trans HW0.out (ks HK.out hg) : w0.heap.size ≤ gb1140)); replace HK := Aside0.mk (KeepBut.trans (kp HK.out) (KeepBut.of_below hb g none) (.inl rfl)); have NB1130_1140 := Aside0.mk ((nl BK1130.out hg)); have NB1140_1130 := Aside0.mk ((ng BK1130.out hg)); replace BK1130 := Aside0.mk (bb BK1130.out hb); have NB0_1140 := Aside0.mk ((by rw [hg]; exact Nat.ne_of_lt (IsS104.lt (show IsS104 w0 _ g s0_0 t1138 t1139 from is104 HI0.out)) : g ≠ gb1140)); have NB1140_0 := Aside0.mk ((by rw [hg]; exact Nat.ne_of_gt (IsS104.lt (show IsS104 w0 _ g s0_0 t1138 t1139 from is104 HI0.out)) : gb1140 ≠ g)); replace HI0 := Aside0.mk (IsS104.below (is104 HI0.out) hb); clear hb hbox hg; have hnb10 := NB1140_1130.out; have hnc10 := NB1130_1140.out; have hnb11 := NB1140_0.out; have hnc11 := NB0_1140.out; obtain ⟨hcz12_0, hcz12_1, hcz12_2, hfz12_0, hfz12_1, hfz12_2⟩ := cz3 BK1140.out; obtain ⟨Ao13, co13, eo13⟩ := Kd.R_slice HO1134.out; subst eo13; obtain ⟨Ao14, co14, eo14⟩ := Kd.R_slice HO1137.out; subst eo14) | ((with_reducible refine gate_callee (f := 97) rfl ?_); refine goesL_ (some 11) rfl rfl Try.func97 (by kernel_rfl) rfl #[.pointer (some ⟨g, 0, none⟩), .int .i64 (t1135.length : Int)] rfl mapd ?_; (with_reducible refine (spec_l01Below.calls g s0_0 t1138 t1139 (t1135.length : Int) t1141 t1142 t1143 w0 _ ?side1 ?side2 A3.out).mono ?_); (case side1 => exact is104 HI0.out); (case side2 => exact bl104 HB.out); rintro e w15 ⟨rfl, hi, hb, hk⟩; refine ⟨_, rfl, ?_⟩; replace BK1130 := Aside0.mk (KeepBut.blk hk (g' := gb1130) (o := .cells #[.int .i64 0, .slice none 0 0, .slice none 0 0] 30 (0, 0)) (bf BK1130.out) NB1130_0.out (by simp)); replace HO1134 := Aside0.mk (Kd.R_mono (Kd.R_keep (IsS104.apart (show IsS104 w0 _ g s0_0 t1138 t1139 from is104 HI0.out) (by refine rk ?_; exact (Kd.R_mono (Kd.R_far (p := ⟨gb1140, 2, none⟩) (Kd.R_far (p := ⟨gb1140, 1, none⟩) (Kd.R_far (p := ⟨gb1140, 0, none⟩) (Kd.R_types HO1134.out BK1140.out (by decide)) (fun _ hk => hk.2) (.int .i64 t1131)) (fun _ hk => hk.2) (.slice Ao13 t1132.length co13)) (fun _ hk => hk.2) (.slice Ao14 t1135.length co14)) (fun _ h_ => h_.1))) (by decide)) hk (fun _ h => h.2)) (fun _ h => h.1)); replace HO1137 := Aside0.mk (Kd.R_mono (Kd.R_keep (IsS104.apart (show IsS104 w0 _ g s0_0 t1138 t1139 from is104 HI0.out) (by refine rk ?_; exact (Kd.R_mono (Kd.R_far (p := ⟨gb1140, 2, none⟩) (Kd.R_far (p := ⟨gb1140, 1, none⟩) (Kd.R_far (p := ⟨gb1140, 0, none⟩) (Kd.R_types HO1137.out BK1140.out (by decide)) (fun _ hk => hk.2) (.int .i64 t1131)) (fun _ hk => hk.2) (.slice Ao13 t1132.length co13)) (fun _ hk => hk.2) (.slice Ao14 t1135.length co14)) (fun _ h_ => h_.1))) (by decide)) hk (fun _ h => h.2)) (fun _ h => h.1)); replace BK1140 := Aside0.mk (KeepBut.blk hk (g' := gb1140) (o := .cells #[.int .i64 t1131, .slice Ao13 t1132.length co13, .slice Ao14 t1135.length co14] 30 (0, 0)) (by refine bk ?_; refine blk_put (cs := #[.int .i64 t1131, .slice Ao13 t1132.length co13, .slice none 0 0]) ?_ 2 _ rfl; refine bk ?_; refine blk_put (cs := #[.int .i64 t1131, .slice none 0 0, .slice none 0 0]) ?_ 1 _ rfl; refine bk ?_; refine blk_put (cs := #[.int .i64 0, .slice none 0 0, .slice none 0 0]) ?_ 0 _ rfl; refine bk ?_; exact BK1140.out) NB1140_0.out (by simp)); replace HK := Aside0.mk (KeepBut.trans (kp HK.out) hk (.inl rfl)); replace HB := Aside0.mk (hb); replace HI0 := Aside0.mk (hi); (try clear hb); (try clear hb2); (try clear hk); (try clear hi)) | ((with_reducible refine gate_callee (f := 97) rfl ?_); refine goesL_ (some 13) rfl rfl Try.func97 (by kernel_rfl) rfl #[.pointer (some ⟨g, 0, none⟩), .int .i64 14] rfl mapd ?_; (with_reducible refine (spec_l01Below.calls g s0_0 t1142 t1143 14 t1144 t1145 t1146 w0 _ ?side1 ?side2 A4.out).mono ?_); (case side1 => exact is104 HI0.out); (case side2 => exact bl104 HB.out); rintro e w16 ⟨rfl, hi, hb, hk⟩; refine ⟨_, rfl, ?_⟩; replace BK1130 := Aside0.mk (KeepBut.blk hk (g' := gb1130) (o := .cells #[.int .i64 0, .slice none 0 0, .slice none 0 0] 30 (0, 0)) (bk BK1130.out) NB1130_0.out (by simp)); replace HO1134 := Aside0.mk (Kd.R_mono (Kd.R_keep (IsS104.apart (show IsS104 w0 _ g s0_0 t1142 t1143 from is104 HI0.out) (rk HO1134.out) (by decide)) hk (fun _ h => h.2)) (fun _ h => h.1)); replace HO1137 := Aside0.mk (Kd.R_mono (Kd.R_keep (IsS104.apart (show IsS104 w0 _ g s0_0 t1142 t1143 from is104 HI0.out) (rk HO1137.out) (by decide)) hk (fun _ h => h.2)) (fun _ h => h.1)); replace BK1140 := Aside0.mk (KeepBut.blk hk (g' := gb1140) (o := .cells #[.int .i64 t1131, .slice Ao13 t1132.length co13, .slice Ao14 t1135.length co14] 30 (0, 0)) (bk BK1140.out) NB1140_0.out (by simp)); replace HK := Aside0.mk (KeepBut.trans (kp HK.out) hk (.inl rfl)); replace HB := Aside0.mk (hb); replace HI0 := Aside0.mk (hi); (try clear hb); (try clear hb2); (try clear hk); (try clear hi); obtain ⟨hcz17_0, hcz17_1, hcz17_2, hfz17_0, hfz17_1, hfz17_2⟩ := cz3 BK1140.out) | ((with_reducible refine gate_dst (N := 20) rfl ?_); refine Kd.R_lit (Kd.int .i64) _ 3 ?hg (N := 20) ?hd (xs := ([0, 24, 25, wrap64 (t1131 + 1)] : List Int)) (inner := [.int .i64 0, .int .i64 24, .int .i64 25, .int .i64 (wrap64 (t1131 + 1))]) (ok := fun _ => True) (okp := fun _ => True) ?hr ?hp (fun _ hk => hk) trivial (Below.refl _ _) (Nat.le_refl _) (by simp) ?_; (case hd => rfl); (case hg => rfl); (case hr => first | (go_simp; done) | (go_simp; rfl)); (case hp => exact (Reps.one (show Kd.M (Kd.int .i64) _ _ _ 0 [.int .i64 0] from rfl) (Reps.one (show Kd.M (Kd.int .i64) _ _ _ 24 [.int .i64 24] from rfl) (Reps.one (show Kd.M (Kd.int .i64) _ _ _ 25 [.int .i64 25] from rfl) (Reps.one (show Kd.M (Kd.int .i64) _ _ _ (wrap64 (t1131 + 1)) [.int .i64 (wrap64 (t1131 + 1))] from rfl) (Reps.none _ _)))))); intro v1148 w18 ho19 hb hg_ hnew_; clear hg_ hnew_; (first | rw [← Ny1147.out] at ho19 | (simp only [Int.reduceToNat] at ho19; rw [← Ny1147.out] at ho19)); replace HO1137 := Aside0.mk (Kd.R_below (rk HO1137.out) hb); have HO1149 := Aside0.mk (Kd.R_lower (Kd.R_new' ho19 (Kd.R_lt (rk HO1134.out))) (keep_size (w := w) (g := g) (row := none) (kp HK.out))); replace HO1134 := Aside0.mk (Kd.R_elder' (rk HO1134.out) (Kd.R_base ho19) hb); replace HI0 := Aside0.mk (IsS104.below (is104 HI0.out) hb); replace BK1130 := Aside0.mk (bb BK1130.out hb); replace BK1140 := Aside0.mk (bb BK1140.out hb); replace HK := Aside0.mk (KeepBut.trans (kp HK.out) (KeepBut.of_below hb g none) (.inl rfl)); replace HB := Aside0.mk (below_step (bl104 HB.out) hb); clear hb ho19; obtain ⟨Ao20, co20, eo20⟩ := Kd.R_slice HO1149.out; subst eo20) | ((with_reducible refine gate_callee (f := 98) rfl ?_); refine goesL_ (some 21) rfl rfl Try.func98 (by kernel_rfl) rfl #[.pointer (some ⟨g, 0, none⟩), .slice Ao20 y1147.length co20] rfl mapd ?_; (with_reducible refine (spec_l01PickInt.calls g s0_0 t1145 t1146 _ _ y1147 t1150 t1151 t1152 w0 _ ?side1 ?side2 ?side3 ?side4 ?side5 A6.out).mono ?_); (case side1 => exact is104 HI0.out); (case side2 => exact bl104 HB.out); (case side3 => exact cb ((Kd.R_reads' HO1149.out).2.2)); (case side4 => exact (Kd.R_reads' HO1149.out).2.1); (case side5 => exact far_slice (IsS104.own_ne HI0.out HO1149.out (by decide))); rintro e w21 ⟨rfl, hi, hb, hk⟩; refine ⟨_, rfl, ?_⟩; replace BK1130 := Aside0.mk (KeepBut.blk hk (g' := gb1130) (o := .cells #[.int .i64 0, .slice none 0 0, .slice none 0 0] 30 (0, 0)) (bk BK1130.out) NB1130_0.out (by simp)); replace HO1134 := Aside0.mk (Kd.R_mono (Kd.R_keep (IsS104.apart (show IsS104 w0 _ g s0_0 t1145 t1146 from is104 HI0.out) (rk HO1134.out) (by decide)) hk (fun _ h => h.2)) (fun _ h => h.1)); replace HO1137 := Aside0.mk (Kd.R_mono (Kd.R_keep (IsS104.apart (show IsS104 w0 _ g s0_0 t1145 t1146 from is104 HI0.out) (rk HO1137.out) (by decide)) hk (fun _ h => h.2)) (fun _ h => h.1)); replace BK1140 := Aside0.mk (KeepBut.blk hk (g' := gb1140) (o := .cells #[.int .i64 t1131, .slice Ao13 t1132.length co13, .slice Ao14 t1135.length co14] 30 (0, 0)) (bk BK1140.out) NB1140_0.out (by simp)); replace HO1149 := Aside0.mk (Kd.R_mono (Kd.R_keep (IsS104.apart (show IsS104 w0 _ g s0_0 t1145 t1146 from is104 HI0.out) (rk HO1149.out) (by decide)) hk (fun _ h => h.2)) (fun _ h => h.1)); replace HK := Aside0.mk (KeepBut.trans (kp HK.out) hk (.inl rfl)); replace HB := Aside0.mk (hb); replace HI0 := Aside0.mk (hi); (try clear hb); (try clear hb2); (try clear hk); (try clear hi); obtain ⟨hcz22_0, hcz22_1, hcz22_2, hfz22_0, hfz22_1, hfz22_2⟩ := cz3 BK1140.out; have hnb23 := NB1130_0.out; have hnc23 := NB0_1130.out; obtain ⟨hcz24_0, hcz24_1, hcz24_2, hfz24_0, hfz24_1, hfz24_2⟩ := cz3 BK1130.out))
  refine bodyPost_ret (results_cell_row rfl _ _ gb1130 30 #[.int .i64 t1150, .slice Ao13 t1132.length co13, .slice Ao14 t1135.length co14] (0, 0) _ rfl (by refine bk ?_; refine blk_put (cs := #[.int .i64 t1150, .slice Ao13 t1132.length co13, .slice none 0 0]) ?_ 2 _ rfl; refine bk ?_; refine blk_put (cs := #[.int .i64 t1150, .slice none 0 0, .slice none 0 0]) ?_ 1 _ rfl; refine bk ?_; refine blk_put (cs := #[.int .i64 0, .slice none 0 0, .slice none 0 0]) ?_ 0 _ rfl; refine bk ?_; refine blk_far ?_ NB1130_1140.out _; refine bk ?_; exact BK1130.out) Try.underlying30 rfl (by kernel_rfl)) rfl ?_
  exact ⟨_, _, by first | rfl | (simp [errW_none, errW_some] <;> rfl) | (simp [*, errW_none, errW_some] <;> rfl), by refine rk ?_; exact Kd.R_mono (Kd.R_far (p := ⟨gb1130, 2, none⟩) (Kd.R_far (p := ⟨gb1130, 1, none⟩) (Kd.R_far (p := ⟨gb1130, 0, none⟩) (Kd.R_far (p := ⟨gb1140, 0, none⟩) (Kd.R_types (Kd.R_types HO1134.out BK1140.out (by decide)) BK1130.out (by decide)) (fun _ hk => hk.1.2) (.int .i64 t1150)) (fun _ hk => hk.2) (.int .i64 t1150)) (fun _ hk => hk.2) (.slice Ao13 t1132.length co13)) (fun _ hk => hk.2) (.slice Ao14 t1135.length co14)) (fun _ hk => trivial), by refine rk ?_; exact Kd.R_mono (Kd.R_far (p := ⟨gb1130, 2, none⟩) (Kd.R_far (p := ⟨gb1130, 1, none⟩) (Kd.R_far (p := ⟨gb1130, 0, none⟩) (Kd.R_far (p := ⟨gb1140, 0, none⟩) (Kd.R_types (Kd.R_types HO1137.out BK1140.out (by decide)) BK1130.out (by decide)) (fun _ hk => hk.1.2) (.int .i64 t1150)) (fun _ hk => hk.2) (.int .i64 t1150)) (fun _ hk => hk.2) (.slice Ao13 t1132.length co13)) (fun _ hk => hk.2) (.slice Ao14 t1135.length co14)) (fun _ hk => trivial), is104 HI0.out, bl104 HB.out, kp HK.out⟩
 ·rw [if_neg c5] at H
  have c5b0 : (t1144 == 0) = false := beq_eq_false_iff_ne.mpr c5
  have c5b1 : (t1144 != 0) = true := bne_iff_ne.mpr c5
  by_cases c25 : t1144 = 1
  ·rw [if_pos c25] at H
   have c25b0 : (t1144 == 1) = true := beq_iff_eq.mpr c25
   have c25b1 : (t1144 != 1) = false := bne_eq_false_iff_eq.mpr c25
   clear c25
   obtain ⟨y1153, hy1153⟩ : ∃ y_ : List Int, y_ = (([(-1), 0, 1, 9223372036854775807] : List Int)) := ⟨_, rfl⟩
   replace H : ((spec_l01PickInt.f s0_0 t1145 t1146 y1153).bind fun bt1156 => (if 0 ≤ t1141 then (if t1141 < (t1135.length : Int) then (some (t1131, t1132, (t1135.set (t1141 : Int).toNat (⟨(rd_T71 t1135 t1141).f0, bt1156.1, (rd_T71 t1135 t1141).f2, (rd_T71 t1135 t1141).f3⟩ : S71)), bt1156.2.1, bt1156.2.2)) else (none)) else (none))) = some (r1, r2, r3, r4, r5) := by first | (rw [hy1153]; with_reducible exact H) | (have H2_ := (Option.bind_some _ _).symm.trans H; rw [hy1153]; with_reducible exact H2_) | (have H2_ := (Option.bind_some _ _).symm.trans H; with_reducible exact H2_) | with_reducible exact H | (rw [hy1153]; exact H) | exact H
   have Ny1153 := Aside0.mk hy1153
   clear hy1153
   replace H := Option.bind_eq_some_iff.mp H
   obtain ⟨⟨t1156, t1157, t1158⟩, A260, H⟩ := H
   try dsimp only at H
   have A26 := Aside0.mk A260
   clear A260
   by_cases c27 : 0 ≤ t1141
   ·rw [if_pos c27] at H
    have c27b0 : decide (0 ≤ t1141) = true := decide_eq_true c27
    clear c27
    by_cases c28 : t1141 < (t1135.length : Int)
    ·rw [if_pos c28] at H
     have c28b0 : decide (t1141 < (t1135.length : Int)) = true := decide_eq_true c28
     clear c28
     obtain ⟨y1159, hy1159⟩ : ∃ y_ : List (S71), y_ = (t1135.set (t1141 : Int).toNat (⟨(rd_T71 t1135 t1141).f0, t1156, (rd_T71 t1135 t1141).f2, (rd_T71 t1135 t1141).f3⟩ : S71)) := ⟨_, rfl⟩
     replace H : (some (t1131, t1132, y1159, t1157, t1158)) = some (r1, r2, r3, r4, r5) := by first | (rw [hy1159]; with_reducible exact H) | (have H2_ := (Option.bind_some _ _).symm.trans H; rw [hy1159]; with_reducible exact H2_) | (have H2_ := (Option.bind_some _ _).symm.trans H; with_reducible exact H2_) | with_reducible exact H | (rw [hy1159]; exact H) | exact H
     have Ny1159 := Aside0.mk hy1159
     clear hy1159
     simp only [Option.some.injEq, Prod.mk.injEq] at H
     obtain ⟨rfl, rfl, rfl, rfl, rfl⟩ := H
     go_enter Try.func82, Try.ntmps82
     try go_wp2_with (first | ((with_reducible refine gate_dst (N := 2) rfl ?_); refine bx (cs := #[.int .i64 0, .slice none 0 0, .slice none 0 0]) (t := 30) fun gb1130 hg w30 hbox hb => ?_; replace HB := Aside0.mk (below_step (bl104 HB.out) hb); have BK1130 := Aside0.mk (hbox); have GW1130 := Aside0.mk ((ks HK.out hg)); have GE1130 := Aside0.mk ((Nat.le_trans HW0.out (ks HK.out hg) : w0.heap.size ≤ gb1130)); replace HK := Aside0.mk (KeepBut.trans (kp HK.out) (KeepBut.of_below hb g none) (.inl rfl)); have NB0_1130 := Aside0.mk ((by rw [hg]; exact Nat.ne_of_lt (IsS104.lt (show IsS104 w0 _ g s0_0 s0_1 s0_2 from is104 HI0.out)) : g ≠ gb1130)); have NB1130_0 := Aside0.mk ((by rw [hg]; exact Nat.ne_of_gt (IsS104.lt (show IsS104 w0 _ g s0_0 s0_1 s0_2 from is104 HI0.out)) : gb1130 ≠ g)); replace HI0 := Aside0.mk (IsS104.below (is104 HI0.out) hb); clear hb hbox hg) | ((with_reducible refine gate_callee (f := 96) rfl ?_); refine goesL_ (some 6) rfl rfl Try.func96 (by kernel_rfl) rfl #[.pointer (some ⟨g, 0, none⟩), .int .i64 1] rfl mapd ?_; (with_reducible refine (spec_l02Column.calls k g s0_0 s0_1 s0_2 1 t1131 t1132 t1135 t1138 t1139 w0 _ ?side1 ?side2 A2.out).mono ?_); (case side1 => exact is104 HI0.out); (case side2 => exact bl104 HB.out); rintro e w31 ⟨v1133, v1136, rfl, ho0, ho1, hi, hb, hk⟩; refine ⟨_, rfl, ?_⟩; replace BK1130 := Aside0.mk (KeepBut.blk hk (g' := gb1130) (o := .cells #[.int .i64 0, .slice none 0 0, .slice none 0 0] 30 (0, 0)) (bk BK1130.out) NB1130_0.out (by simp)); have HO1134 := Aside0.mk (Kd.R_lower ho0 (keep_size (w := w) (g := g) (row := none) (kp HK.out))); have HO1137 := Aside0.mk (Kd.R_lower ho1 (keep_size (w := w) (g := g) (row := none) (kp HK.out))); replace HK := Aside0.mk (KeepBut.trans (kp HK.out) hk (.inl rfl)); replace HB := Aside0.mk (hb); replace HI0 := Aside0.mk (hi); (try clear hb); (try clear hb2); (try clear hk); (try clear hi); (try clear ho0); (try clear ho1)) | ((with_reducible refine gate_dst (N := 3) rfl ?_); refine bx (cs := #[.int .i64 0, .slice none 0 0, .slice none 0 0]) (t := 30) fun gb1140 hg w32 hbox hb => ?_; replace HO1134 := Aside0.mk (Kd.R_below (rk HO1134.out) hb); replace HO1137 := Aside0.mk (Kd.R_below (rk HO1137.out) hb); replace HB := Aside0.mk (below_step (bl104 HB.out) hb); have BK1140 := Aside0.mk (hbox); have GW1140 := Aside0.mk ((ks HK.out hg)); have GE1140 := Aside0.mk ((Nat.le_trans HW0.out (ks HK.out hg) : w0.heap.size ≤ gb1140)); replace HK := Aside0.mk (KeepBut.trans (kp HK.out) (KeepBut.of_below hb g none) (.inl rfl)); have NB1130_1140 := Aside0.mk ((nl BK1130.out hg)); have NB1140_1130 := Aside0.mk ((ng BK1130.out hg)); replace BK1130 := Aside0.mk (bb BK1130.out hb); have NB0_1140 := Aside0.mk ((by rw [hg]; exact Nat.ne_of_lt (IsS104.lt (show IsS104 w0 _ g s0_0 t1138 t1139 from is104 HI0.out)) : g ≠ gb1140)); have NB1140_0 := Aside0.mk ((by rw [hg]; exact Nat.ne_of_gt (IsS104.lt (show IsS104 w0 _ g s0_0 t1138 t1139 from is104 HI0.out)) : gb1140 ≠ g)); replace HI0 := Aside0.mk (IsS104.below (is104 HI0.out) hb); clear hb hbox hg; have hnb33 := NB1140_1130.out; have hnc33 := NB1130_1140.out; have hnb34 := NB1140_0.out; have hnc34 := NB0_1140.out; obtain ⟨hcz35_0, hcz35_1, hcz35_2, hfz35_0, hfz35_1, hfz35_2⟩ := cz3 BK1140.out; obtain ⟨Ao36, co36, eo36⟩ := Kd.R_slice HO1134.out; subst eo36; obtain ⟨Ao37, co37, eo37⟩ := Kd.R_slice HO1137.out; subst eo37) | ((with_reducible refine gate_callee (f := 97) rfl ?_); refine goesL_ (some 11) rfl rfl Try.func97 (by kernel_rfl) rfl #[.pointer (some ⟨g, 0, none⟩), .int .i64 (t1135.length : Int)] rfl mapd ?_; (with_reducible refine (spec_l01Below.calls g s0_0 t1138 t1139 (t1135.length : Int) t1141 t1142 t1143 w0 _ ?side1 ?side2 A3.out).mono ?_); (case side1 => exact is104 HI0.out); (case side2 => exact bl104 HB.out); rintro e w38 ⟨rfl, hi, hb, hk⟩; refine ⟨_, rfl, ?_⟩; replace BK1130 := Aside0.mk (KeepBut.blk hk (g' := gb1130) (o := .cells #[.int .i64 0, .slice none 0 0, .slice none 0 0] 30 (0, 0)) (bf BK1130.out) NB1130_0.out (by simp)); replace HO1134 := Aside0.mk (Kd.R_mono (Kd.R_keep (IsS104.apart (show IsS104 w0 _ g s0_0 t1138 t1139 from is104 HI0.out) (by refine rk ?_; exact (Kd.R_mono (Kd.R_far (p := ⟨gb1140, 2, none⟩) (Kd.R_far (p := ⟨gb1140, 1, none⟩) (Kd.R_far (p := ⟨gb1140, 0, none⟩) (Kd.R_types HO1134.out BK1140.out (by decide)) (fun _ hk => hk.2) (.int .i64 t1131)) (fun _ hk => hk.2) (.slice Ao36 t1132.length co36)) (fun _ hk => hk.2) (.slice Ao37 t1135.length co37)) (fun _ h_ => h_.1))) (by decide)) hk (fun _ h => h.2)) (fun _ h => h.1)); replace HO1137 := Aside0.mk (Kd.R_mono (Kd.R_keep (IsS104.apart (show IsS104 w0 _ g s0_0 t1138 t1139 from is104 HI0.out) (by refine rk ?_; exact (Kd.R_mono (Kd.R_far (p := ⟨gb1140, 2, none⟩) (Kd.R_far (p := ⟨gb1140, 1, none⟩) (Kd.R_far (p := ⟨gb1140, 0, none⟩) (Kd.R_types HO1137.out BK1140.out (by decide)) (fun _ hk => hk.2) (.int .i64 t1131)) (fun _ hk => hk.2) (.slice Ao36 t1132.length co36)) (fun _ hk => hk.2) (.slice Ao37 t1135.length co37)) (fun _ h_ => h_.1))) (by decide)) hk (fun _ h => h.2)) (fun _ h => h.1)); replace BK1140 := Aside0.mk (KeepBut.blk hk (g' := gb1140) (o := .cells #[.int .i64 t1131, .slice Ao36 t1132.length co36, .slice Ao37 t1135.length co37] 30 (0, 0)) (by refine bk ?_; refine blk_put (cs := #[.int .i64 t1131, .slice Ao36 t1132.length co36, .slice none 0 0]) ?_ 2 _ rfl; refine bk ?_; refine blk_put (cs := #[.int .i64 t1131, .slice none 0 0, .slice none 0 0]) ?_ 1 _ rfl; refine bk ?_; refine blk_put (cs := #[.int .i64 0, .slice none 0 0, .slice none 0 0]) ?_ 0 _ rfl; refine bk ?_; exact BK1140.out) NB1140_0.out (by simp)); replace HK := Aside0.mk (KeepBut.trans (kp HK.out) hk (.inl rfl)); replace HB := Aside0.mk (hb); replace HI0 := Aside0.mk (hi); (try clear hb); (try clear hb2); (try clear hk); (try clear hi)) | ((with_reducible refine gate_callee (f := 97) rfl ?_); refine goesL_ (some 13) rfl rfl Try.func97 (by kernel_rfl) rfl #[.pointer (some ⟨g, 0, none⟩), .int .i64 14] rfl mapd ?_; (with_reducible refine (spec_l01Below.calls g s0_0 t1142 t1143 14 t1144 t1145 t1146 w0 _ ?side1 ?side2 A4.out).mono ?_); (case side1 => exact is104 HI0.out); (case side2 => exact bl104 HB.out); rintro e w39 ⟨rfl, hi, hb, hk⟩; refine ⟨_, rfl, ?_⟩; replace BK1130 := Aside0.mk (KeepBut.blk hk (g' := gb1130) (o := .cells #[.int .i64 0, .slice none 0 0, .slice none 0 0] 30 (0, 0)) (bk BK1130.out) NB1130_0.out (by simp)); replace HO1134 := Aside0.mk (Kd.R_mono (Kd.R_keep (IsS104.apart (show IsS104 w0 _ g s0_0 t1142 t1143 from is104 HI0.out) (rk HO1134.out) (by decide)) hk (fun _ h => h.2)) (fun _ h => h.1)); replace HO1137 := Aside0.mk (Kd.R_mono (Kd.R_keep (IsS104.apart (show IsS104 w0 _ g s0_0 t1142 t1143 from is104 HI0.out) (rk HO1137.out) (by decide)) hk (fun _ h => h.2)) (fun _ h => h.1)); replace BK1140 := Aside0.mk (KeepBut.blk hk (g' := gb1140) (o := .cells #[.int .i64 t1131, .slice Ao36 t1132.length co36, .slice Ao37 t1135.length co37] 30 (0, 0)) (bk BK1140.out) NB1140_0.out (by simp)); replace HK := Aside0.mk (KeepBut.trans (kp HK.out) hk (.inl rfl)); replace HB := Aside0.mk (hb); replace HI0 := Aside0.mk (hi); (try clear hb); (try clear hb2); (try clear hk); (try clear hi)))
     replace HO1134 := Aside0.mk (Kd.R_drew HO1134.out)
     replace HO1137 := Aside0.mk (Kd.R_drew HO1137.out)
     replace BK1130 := Aside0.mk (blk_drew BK1130.out)
     replace BK1140 := Aside0.mk (blk_drew BK1140.out)
     replace HI0 := Aside0.mk (IsS104.drew HI0.out)
     replace HK := Aside0.mk (keep_drew HK.out)
     replace HB := Aside0.mk (below_drew1 HB.out)
     refine start_ (n := 9) (S := fun w' => w'.cell? ⟨gb1140, 0, none⟩ = some (.int .i64 t1131) ∧ w'.cell? ⟨gb1140, 1, none⟩ = some (.slice Ao36 t1132.length co36) ∧ w'.cell? ⟨gb1140, 2, none⟩ = some (.slice Ao37 t1135.length co37)) (ds := [8]) #[false, false, false, false, false, false, false, false, false] (by kernel_rfl) rfl rfl ⟨(blk_cell BK1140.out 0).trans rfl, (blk_cell BK1140.out 1).trans rfl, (blk_cell BK1140.out 2).trans rfl⟩ (fun hHeld => ?_); refine with_tabW spec_l02AnyColumn.tab7 spec_l02AnyColumn.bits7 (fun HT_ HW_ => ?_)
     generalize w39.drew = w40 at HO1134 HO1137 BK1130 BK1140 HI0 HK HB hHeld ⊢
     refine puA (i := 0) (N := some 25) HT_.out ?_
     refine puA (i := 2) (N := some 27) HT_.out ?_
     refine puA (i := 3) (N := some 28) HT_.out ?_
     refine tkA3 (i := 1) (N := some 26) HT_.out HW_.out hHeld ?_
     refine onA (i := 4) (N := some 29) HT_.out (fun K hK => ?_)
     refine Kd.R_lit_step (Kd.int .i64) _ 3 ?hg (N := 29) ?hd (xs := ([(-1), 0, 1, 9223372036854775807] : List Int)) (inner := [.int .i64 (-1), .int .i64 0, .int .i64 1, .int .i64 9223372036854775807]) (ok := fun _ => True) (okp := fun _ => True) ?hr ?hp (fun _ hk => hk) trivial (Below.refl _ _) (Nat.le_refl _) (by simp) ?_; (case hd => rfl); (case hg => rfl); (case hr => first | (go_simp; done) | (go_simp; rfl)); (case hp => exact (Reps.one (show Kd.M (Kd.int .i64) _ _ _ (-1) [.int .i64 (-1)] from rfl) (Reps.one (show Kd.M (Kd.int .i64) _ _ _ 0 [.int .i64 0] from rfl) (Reps.one (show Kd.M (Kd.int .i64) _ _ _ 1 [.int .i64 1] from rfl) (Reps.one (show Kd.M (Kd.int .i64) _ _ _ 9223372036854775807 [.int .i64 9223372036854775807] from rfl) (Reps.none _ _))))))
     intro v1154 w41 ho42 hb hg_ hnew_
     clear hg_ hnew_
     (first | rw [← Ny1153.out] at ho42 | (simp only [Int.reduceToNat] at ho42; rw [← Ny1153.out] at ho42))
     replace HO1137 := Aside0.mk (Kd.R_below (rk HO1137.out) hb)
     have HO1155 := Aside0.mk (Kd.R_lower (Kd.R_new' ho42 (Kd.R_lt (rk HO1134.out))) (keep_size (w := w) (g := g) (row := none) (kp HK.out)))
     replace HO1134 := Aside0.mk (Kd.R_elder' (rk HO1134.out) (Kd.R_base ho42) hb)
     replace HI0 := Aside0.mk (IsS104.below (is104 HI0.out) hb)
     replace BK1130 := Aside0.mk (bb BK1130.out hb)
     replace BK1140 := Aside0.mk (bb BK1140.out hb)
     replace HK := Aside0.mk (KeepBut.trans (kp HK.out) (KeepBut.of_below hb g none) (.inl rfl))
     replace HB := Aside0.mk (below_step (bl104 HB.out) hb)
     clear hb ho42
     obtain ⟨Ao43, co43, eo43⟩ := Kd.R_slice HO1155.out
     (first | subst eo43 | (injection eo43 with f1_ f2_ f3_; have f4_ := f1_.symm; have f5_ := f3_.symm; clear f1_ f2_ f3_; subst f4_; subst f5_))
     refine hK.out _ _ ⟨(blk_cell BK1140.out 0).trans rfl, (blk_cell BK1140.out 1).trans rfl, (blk_cell BK1140.out 2).trans rfl⟩ (fun hHeld => ?_)
     clear hK K
     refine norm_ (a' := ?_) ?_ ?_
     rotate_left
     ·show Act.put _ (some 29) _ = _
      simp only [Act.put, List.setIfInBounds_toArray, List.set_cons_zero, List.set_cons_succ, i64_w, i32_w]
      rfl
     refine onA (i := 5) (N := some 30) HT_.out (fun K hK => ?_)
     refine goes_ Try.func98 (by kernel_rfl) rfl #[.pointer (some ⟨g, 0, none⟩), .slice Ao43 y1153.length co43] (by rfl) rfl rfl mapd ?_
     with_reducible refine (spec_l01PickInt.calls g s0_0 t1145 t1146 _ _ y1153 t1156 t1157 t1158 w0 _ ?side1 ?side2 ?side3 ?side4 ?side5 A26.out).mono ?_
     (case side1 => exact is104 HI0.out)
     (case side2 => exact bl104 HB.out)
     (case side3 => exact cb ((Kd.R_reads' HO1155.out).2.2))
     (case side4 => exact (Kd.R_reads' HO1155.out).2.1)
     (case side5 => exact far_slice (IsS104.own_ne HI0.out HO1155.out (by decide)))
     rintro e w44 ⟨rfl, hi, hb, hk⟩
     refine ⟨_, rfl, ?_⟩
     replace BK1130 := Aside0.mk (KeepBut.blk hk (g' := gb1130) (o := .cells #[.int .i64 0, .slice none 0 0, .slice none 0 0] 30 (0, 0)) (bk BK1130.out) NB1130_0.out (by simp))
     replace HO1134 := Aside0.mk (Kd.R_mono (Kd.R_keep (IsS104.apart (show IsS104 w0 _ g s0_0 t1145 t1146 from is104 HI0.out) (rk HO1134.out) (by decide)) hk (fun _ h => h.2)) (fun _ h => h.1))
     replace HO1137 := Aside0.mk (Kd.R_mono (Kd.R_keep (IsS104.apart (show IsS104 w0 _ g s0_0 t1145 t1146 from is104 HI0.out) (rk HO1137.out) (by decide)) hk (fun _ h => h.2)) (fun _ h => h.1))
     replace BK1140 := Aside0.mk (KeepBut.blk hk (g' := gb1140) (o := .cells #[.int .i64 t1131, .slice Ao36 t1132.length co36, .slice Ao37 t1135.length co37] 30 (0, 0)) (bk BK1140.out) NB1140_0.out (by simp))
     replace HO1155 := Aside0.mk (Kd.R_mono (Kd.R_keep (IsS104.apart (show IsS104 w0 _ g s0_0 t1145 t1146 from is104 HI0.out) (rk HO1155.out) (by decide)) hk (fun _ h => h.2)) (fun _ h => h.1))
     replace HK := Aside0.mk (KeepBut.trans (kp HK.out) hk (.inl rfl))
     replace HB := Aside0.mk (hb)
     replace HI0 := Aside0.mk (hi)
     (try clear hb)
     (try clear hb2)
     (try clear hk)
     (try clear hi)
     have p29 : 0 ≤ (t1141 : Int) := of_decide_eq_true asm
     have q29 : (t1141 : Int) < ((t1135.length : Int) : Int) := of_decide_eq_true asm
     obtain ⟨go29, co29, eo29, gb29, gl29, cl29, HG29⟩ := Kd.R_form HO1137.out (by omega)
     (first | cases eo29 | (injection eo29 with ea_ en_ ec_; (first | subst ea_ | (injection ea_ with ea_; subst ea_)); subst ec_; clear en_))
     have GB29 := Aside0.mk gb29
     have GG29 := Aside0.mk HG29
     clear gb29 gl29 HG29
     obtain ⟨ce29, hcl29, hM29, hcc29, hfr29⟩ := Kd.R_elem HO1137.out z71 (t1141 : Int) p29 q29
     obtain rfl := k71_openM hM29
     have hx29_0 : World.cell? _ ⟨go29, (t1141 : Int).toNat * 4, none⟩ = some (.int .i64 ((rd_T71 t1135 t1141).f0)) := hcc29 0 _ rfl
     have hx29_1 : World.cell? _ ⟨go29, (t1141 : Int).toNat * 4 + 1, none⟩ = some (.int .i64 ((rd_T71 t1135 t1141).f1)) := hcc29 1 _ rfl
     have hx29_2 : World.cell? _ ⟨go29, (t1141 : Int).toNat * 4 + 2, none⟩ = some (.int .i64 ((rd_T71 t1135 t1141).f2)) := hcc29 2 _ rfl
     have hx29_3 : World.cell? _ ⟨go29, (t1141 : Int).toNat * 4 + 3, none⟩ = some (.bool ((rd_T71 t1135 t1141).f3)) := hcc29 3 _ rfl
     have hf29_0 : World.frozen? _ ⟨go29, (t1141 : Int).toNat * 4, none⟩ = false := hfr29 0
     have hf29_1 : World.frozen? _ ⟨go29, (t1141 : Int).toNat * 4 + 1, none⟩ = false := hfr29 1
     have hf29_2 : World.frozen? _ ⟨go29, (t1141 : Int).toNat * 4 + 2, none⟩ = false := hfr29 2
     have hf29_3 : World.frozen? _ ⟨go29, (t1141 : Int).toNat * 4 + 3, none⟩ = false := hfr29 3
     clear hcl29 hcc29 hfr29 hM29
     replace p29 := eq_true p29
     replace q29 := eq_true q29
     have HN0_go29 := Aside0.mk (show g ≠ go29 from by have h_ := IsS104.own_ne HI0.out HO1137.out (by decide); intro e_; exact h_ (by rw [e_]; rfl))
     obtain ⟨ce45, hcl45, hM45, hcc45, hfr45⟩ := Kd.R_elem HO1137.out z71 (t1141 : Int) (of_decide_eq_true asm) (by have h_ : (t1141 : Int) < ((t1135.length : Int) : Int) := of_decide_eq_true asm; first | exact h_ | (have e_ := (Kd.R_reads' HO1137.out).1; omega) | simpa using h_)
     obtain rfl := k71_openM hM45
     have HP45 := (Kd.R_seg HO1137.out (t1141 : Int) (of_decide_eq_true asm) (by have h_ : (t1141 : Int) < ((t1135.length : Int) : Int) := of_decide_eq_true asm; first | exact h_ | (have e_ := (Kd.R_reads' HO1137.out).1; omega) | simpa using h_) (seg := [.int .i64 t1156]) (j := 1) hcl45 hcc45 (show 2 ≤ 4 from by decide) (x' := (⟨(rd_T71 t1135 t1141).f0, t1156, (rd_T71 t1135 t1141).f2, (rd_T71 t1135 t1141).f3⟩ : S71)) (k71_mkM _ _ _ (⟨(rd_T71 t1135 t1141).f0, t1156, (rd_T71 t1135 t1141).f2, (rd_T71 t1135 t1141).f3⟩ : S71) ) (fun _ hk => hk)).1
     rw [← Ny1159.out] at HP45
     have HQ45 := Aside0.mk HP45
     clear hcl45 hcc45 hfr45 hM45 HP45
     refine hK.out _ _ ⟨(blk_cell BK1140.out 0).trans rfl, (blk_cell BK1140.out 1).trans rfl, (blk_cell BK1140.out 2).trans rfl⟩ (fun hHeld => ?_)
     clear hK K
     refine norm_ (a' := ?_) ?_ ?_
     rotate_left
     ·show Act.put _ (some 30) _ = _
      simp only [Act.put, List.setIfInBounds_toArray, List.set_cons_zero, List.set_cons_succ, i64_w, i32_w]
      rfl
     refine puA (i := 6) (N := some 31) HT_.out ?_
     refine puA (i := 7) (N := some 32) HT_.out ?_
     refine last_ (i := 8) (N := none) #[true, true, true, true, true, true, true, true, true] rfl rfl (one_of HT_.out (by kernel_rfl)) (by decide) (fun K hK => ?_)
     refine skip_ (w1 := ?_) (by rfl) rfl ?_ ?_
     rotate_left
     ·go_simp
      rfl
     refine hK.out _ _ ?_
     clear hK K
     refine done_ (done_of HT_.out (by kernel_rfl)) ?_
     have n0_ : Aside0 (Kd.R (Kd.int .i64) 3 (w44.setCell ⟨go29, (t1141 : Int).toNat * 4 + 1, none⟩ (.int .i64 t1156)) w.heap.size (fun k_ => some k_ ≠ (.slice Ao43 y1153.length co43 : Value).ownBlock) (.slice Ao36 t1132.length co36) t1132) := ⟨by refine rk ?_; exact Kd.R_mono (Kd.R_far (p := ⟨go29, (t1141 : Int).toNat * 4 + 1, none⟩) (Kd.R_types HO1134.out GG29.out (by decide)) (fun _ hk => hk.2) (.int .i64 t1156)) (fun _ hk => hk.1.2)⟩
     have n1_ : Aside0 (Kd.R k71 71 (w44.setCell ⟨go29, (t1141 : Int).toNat * 4 + 1, none⟩ (.int .i64 t1156)) w.heap.size (fun _ => True) (.slice (some ⟨go29, 0, none⟩) t1135.length co37) y1159) := ⟨rk HQ45.out⟩
     have n2_ : Aside0 (Kd.R (Kd.int .i64) 3 (w44.setCell ⟨go29, (t1141 : Int).toNat * 4 + 1, none⟩ (.int .i64 t1156)) w.heap.size (fun k_ => some k_ ≠ (.slice Ao36 t1132.length co36 : Value).ownBlock) (.slice Ao43 y1153.length co43) y1153) := ⟨by refine rk ?_; exact Kd.R_mono (Kd.R_far (p := ⟨go29, (t1141 : Int).toNat * 4 + 1, none⟩) (Kd.R_types HO1155.out GG29.out (by decide)) (fun _ hk => hk.2) (.int .i64 t1156)) (fun _ hk => hk.1.2)⟩
     have n3_ : Aside0 ((w44.setCell ⟨go29, (t1141 : Int).toNat * 4 + 1, none⟩ (.int .i64 t1156)).heap[gb1130]? = some (.cells #[.int .i64 0, .slice none 0 0, .slice none 0 0] 30 (0, 0))) := ⟨by refine bk ?_; refine blk_far ?_ (by have h_ := Kd.R_ne HO1137.out BK1130.out (by decide); intro e_; exact h_ (by rw [e_]; rfl)) _; refine bk ?_; exact BK1130.out⟩
     have n4_ : Aside0 ((w44.setCell ⟨go29, (t1141 : Int).toNat * 4 + 1, none⟩ (.int .i64 t1156)).heap[gb1140]? = some (.cells #[.int .i64 t1131, .slice Ao36 t1132.length co36, .slice (some ⟨go29, 0, none⟩) t1135.length co37] 30 (0, 0))) := ⟨by refine bk ?_; refine blk_far ?_ (by have h_ := Kd.R_ne HO1137.out BK1140.out (by decide); intro e_; exact h_ (by rw [e_]; rfl)) _; refine bk ?_; exact BK1140.out⟩
     have n5_ : Aside0 (IsS104 w0 (w44.setCell ⟨go29, (t1141 : Int).toNat * 4 + 1, none⟩ (.int .i64 t1156)) g s0_0 t1157 t1158) := ⟨by repeat (first | (with_reducible first | exact HI0.out | apply IsS104.alloc | apply IsS104.drewN | apply IsS104.drew | apply IsS104.set_1 | apply IsS104.set_2 | refine IsS104.far ?_ HN0_go29.out _ | refine IsS104.far ?_ NB0_1130.out _ | refine IsS104.far ?_ NB0_1140.out _) | exact HI0.out)⟩
     have n6_ : Aside0 (KeepBut w (w44.setCell ⟨go29, (t1141 : Int).toNat * 4 + 1, none⟩ (.int .i64 t1156)) g none) := ⟨by repeat (first | (with_reducible first | exact HK.out | apply KeepBut.set_ | apply keep_drewN | apply keep_drew | apply keep_alloc | refine keep_far ?_ GB29.out _ | refine keep_far ?_ GW1130.out _ | refine keep_far ?_ GW1140.out _) | exact HK.out)⟩
     have n7_ : Aside0 (Below w0.heap.size w0 (w44.setCell ⟨go29, (t1141 : Int).toNat * 4 + 1, none⟩ (.int .i64 t1156))) := ⟨by repeat (first | (with_reducible first | exact HB.out | apply below_alloc | apply pw_below_drewN | apply below_drew1 | refine below_set ?_ (Nat.le_trans HL.out GB29.out) | refine below_set ?_ (IsS104.ge HI0.out) | refine below_set ?_ GE1130.out | refine below_set ?_ GE1140.out) | exact HB.out)⟩
     (try clear HO1134)
     (try clear HO1137)
     (try clear HO1155)
     (try clear BK1130)
     (try clear BK1140)
     (try clear HI0)
     (try clear HK)
     (try clear HB)
     generalize (w44.setCell ⟨go29, (t1141 : Int).toNat * 4 + 1, none⟩ (.int .i64 t1156)) = w46 at n0_ n1_ n2_ n3_ n4_ n5_ n6_ n7_ ⊢
     have HO1134 := n0_
     have HO1137 := n1_
     have HO1155 := n2_
     have BK1130 := n3_
     have BK1140 := n4_
     have HI0 := n5_
     have HK := n6_
     have HB := n7_
     clear n0_ n1_ n2_ n3_ n4_ n5_ n6_ n7_
     obtain ⟨hcz47_0, hcz47_1, hcz47_2, hfz47_0, hfz47_1, hfz47_2⟩ := cz3 BK1140.out
     have hnb48 := NB1130_0.out
     have hnc48 := NB0_1130.out
     obtain ⟨hcz49_0, hcz49_1, hcz49_2, hfz49_0, hfz49_1, hfz49_2⟩ := cz3 BK1130.out
     try go_wp2
     refine bodyPost_ret (results_cell_row rfl _ _ gb1130 30 #[.int .i64 t1131, .slice Ao36 t1132.length co36, .slice (some ⟨go29, 0, none⟩) t1135.length co37] (0, 0) _ rfl (by refine bk ?_; refine blk_put (cs := #[.int .i64 t1131, .slice Ao36 t1132.length co36, .slice none 0 0]) ?_ 2 _ rfl; refine bk ?_; refine blk_put (cs := #[.int .i64 t1131, .slice none 0 0, .slice none 0 0]) ?_ 1 _ rfl; refine bk ?_; refine blk_put (cs := #[.int .i64 0, .slice none 0 0, .slice none 0 0]) ?_ 0 _ rfl; refine bk ?_; exact BK1130.out) Try.underlying30 rfl (by kernel_rfl)) rfl ?_
     exact ⟨_, _, by first | rfl | (simp [errW_none, errW_some] <;> rfl) | (simp [*, errW_none, errW_some] <;> rfl), by refine rk ?_; exact Kd.R_mono (Kd.R_far (p := ⟨gb1130, 2, none⟩) (Kd.R_far (p := ⟨gb1130, 1, none⟩) (Kd.R_far (p := ⟨gb1130, 0, none⟩) (Kd.R_types HO1134.out BK1130.out (by decide)) (fun _ hk => hk.2) (.int .i64 t1131)) (fun _ hk => hk.2) (.slice Ao36 t1132.length co36)) (fun _ hk => hk.2) (.slice (some ⟨go29, 0, none⟩) t1135.length co37)) (fun _ hk => trivial), by refine rk ?_; exact Kd.R_mono (Kd.R_far (p := ⟨gb1130, 2, none⟩) (Kd.R_far (p := ⟨gb1130, 1, none⟩) (Kd.R_far (p := ⟨gb1130, 0, none⟩) (Kd.R_types HO1137.out BK1130.out (by decide)) (fun _ hk => hk.2) (.int .i64 t1131)) (fun _ hk => hk.2) (.slice Ao36 t1132.length co36)) (fun _ hk => hk.2) (.slice (some ⟨go29, 0, none⟩) t1135.length co37)) (fun _ hk => trivial), is104 HI0.out, bl104 HB.out, kp HK.out⟩
    ·rw [if_neg c28] at H
     exact absurd H (by simp)
   ·rw [if_neg c27] at H
    exact absurd H (by simp)
  ·rw [if_neg c25] at H
   have c25b0 : (t1144 == 1) = false := beq_eq_false_iff_ne.mpr c25
   have c25b1 : (t1144 != 1) = true := bne_iff_ne.mpr c25
   by_cases c50 : t1144 = 2
   ·rw [if_pos c50] at H
    have c50b0 : (t1144 == 2) = true := beq_iff_eq.mpr c50
    have c50b1 : (t1144 != 2) = false := bne_eq_false_iff_eq.mpr c50
    clear c50
    obtain ⟨y1160, hy1160⟩ : ∃ y_ : List Int, y_ = (([(-1), 1, 999, 1000] : List Int)) := ⟨_, rfl⟩
    replace H : ((spec_l01PickInt.f s0_0 t1145 t1146 y1160).bind fun bt1163 => (if 0 ≤ t1141 then (if t1141 < (t1135.length : Int) then (some (t1131, t1132, (t1135.set (t1141 : Int).toNat (⟨(rd_T71 t1135 t1141).f0, (rd_T71 t1135 t1141).f1, bt1163.1, (rd_T71 t1135 t1141).f3⟩ : S71)), bt1163.2.1, bt1163.2.2)) else (none)) else (none))) = some (r1, r2, r3, r4, r5) := by first | (rw [hy1160]; with_reducible exact H) | (have H2_ := (Option.bind_some _ _).symm.trans H; rw [hy1160]; with_reducible exact H2_) | (have H2_ := (Option.bind_some _ _).symm.trans H; with_reducible exact H2_) | with_reducible exact H | (rw [hy1160]; exact H) | exact H
    have Ny1160 := Aside0.mk hy1160
    clear hy1160
    replace H := Option.bind_eq_some_iff.mp H
    obtain ⟨⟨t1163, t1164, t1165⟩, A510, H⟩ := H
    try dsimp only at H
    have A51 := Aside0.mk A510
    clear A510
    by_cases c52 : 0 ≤ t1141
    ·rw [if_pos c52] at H
     have c52b0 : decide (0 ≤ t1141) = true := decide_eq_true c52
     clear c52
     by_cases c53 : t1141 < (t1135.length : Int)
     ·rw [if_pos c53] at H
      have c53b0 : decide (t1141 < (t1135.length : Int)) = true := decide_eq_true c53
      clear c53
      obtain ⟨y1166, hy1166⟩ : ∃ y_ : List (S71), y_ = (t1135.set (t1141 : Int).toNat (⟨(rd_T71 t1135 t1141).f0, (rd_T71 t1135 t1141).f1, t1163, (rd_T71 t1135 t1141).f3⟩ : S71)) := ⟨_, rfl⟩
      replace H : (some (t1131, t1132, y1166, t1164, t1165)) = some (r1, r2, r3, r4, r5) := by first | (rw [hy1166]; with_reducible exact H) | (have H2_ := (Option.bind_some _ _).symm.trans H; rw [hy1166]; with_reducible exact H2_) | (have H2_ := (Option.bind_some _ _).symm.trans H; with_reducible exact H2_) | with_reducible exact H | (rw [hy1166]; exact H) | exact H
      have Ny1166 := Aside0.mk hy1166
      clear hy1166
      simp only [Option.some.injEq, Prod.mk.injEq] at H
      obtain ⟨rfl, rfl, rfl, rfl, rfl⟩ := H
      go_enter Try.func82, Try.ntmps82
      try go_wp2_with (first | ((with_reducible refine gate_dst (N := 2) rfl ?_); refine bx (cs := #[.int .i64 0, .slice none 0 0, .slice none 0 0]) (t := 30) fun gb1130 hg w55 hbox hb => ?_; replace HB := Aside0.mk (below_step (bl104 HB.out) hb); have BK1130 := Aside0.mk (hbox); have GW1130 := Aside0.mk ((ks HK.out hg)); have GE1130 := Aside0.mk ((Nat.le_trans HW0.out (ks HK.out hg) : w0.heap.size ≤ gb1130)); replace HK := Aside0.mk (KeepBut.trans (kp HK.out) (KeepBut.of_below hb g none) (.inl rfl)); have NB0_1130 := Aside0.mk ((by rw [hg]; exact Nat.ne_of_lt (IsS104.lt (show IsS104 w0 _ g s0_0 s0_1 s0_2 from is104 HI0.out)) : g ≠ gb1130)); have NB1130_0 := Aside0.mk ((by rw [hg]; exact Nat.ne_of_gt (IsS104.lt (show IsS104 w0 _ g s0_0 s0_1 s0_2 from is104 HI0.out)) : gb1130 ≠ g)); replace HI0 := Aside0.mk (IsS104.below (is104 HI0.out) hb); clear hb hbox hg) | ((with_reducible refine gate_callee (f := 96) rfl ?_); refine goesL_ (some 6) rfl rfl Try.func96 (by kernel_rfl) rfl #[.pointer (some ⟨g, 0, none⟩), .int .i64 1] rfl mapd ?_; (with_reducible refine (spec_l02Column.calls k g s0_0 s0_1 s0_2 1 t1131 t1132 t1135 t1138 t1139 w0 _ ?side1 ?side2 A2.out).mono ?_); (case side1 => exact is104 HI0.out); (case side2 => exact bl104 HB.out); rintro e w56 ⟨v1133, v1136, rfl, ho0, ho1, hi, hb, hk⟩; refine ⟨_, rfl, ?_⟩; replace BK1130 := Aside0.mk (KeepBut.blk hk (g' := gb1130) (o := .cells #[.int .i64 0, .slice none 0 0, .slice none 0 0] 30 (0, 0)) (bk BK1130.out) NB1130_0.out (by simp)); have HO1134 := Aside0.mk (Kd.R_lower ho0 (keep_size (w := w) (g := g) (row := none) (kp HK.out))); have HO1137 := Aside0.mk (Kd.R_lower ho1 (keep_size (w := w) (g := g) (row := none) (kp HK.out))); replace HK := Aside0.mk (KeepBut.trans (kp HK.out) hk (.inl rfl)); replace HB := Aside0.mk (hb); replace HI0 := Aside0.mk (hi); (try clear hb); (try clear hb2); (try clear hk); (try clear hi); (try clear ho0); (try clear ho1)) | ((with_reducible refine gate_dst (N := 3) rfl ?_); refine bx (cs := #[.int .i64 0, .slice none 0 0, .slice none 0 0]) (t := 30) fun gb1140 hg w57 hbox hb => ?_; replace HO1134 := Aside0.mk (Kd.R_below (rk HO1134.out) hb); replace HO1137 := Aside0.mk (Kd.R_below (rk HO1137.out) hb); replace HB := Aside0.mk (below_step (bl104 HB.out) hb); have BK1140 := Aside0.mk (hbox); have GW1140 := Aside0.mk ((ks HK.out hg)); have GE1140 := Aside0.mk ((Nat.le_trans HW0.out (ks HK.out hg) : w0.heap.size ≤ gb1140)); replace HK := Aside0.mk (KeepBut.trans (kp HK.out) (KeepBut.of_below hb g none) (.inl rfl)); have NB1130_1140 := Aside0.mk ((nl BK1130.out hg)); have NB1140_1130 := Aside0.mk ((ng BK1130.out hg)); replace BK1130 := Aside0.mk (bb BK1130.out hb); have NB0_1140 := Aside0.mk ((by rw [hg]; exact Nat.ne_of_lt (IsS104.lt (show IsS104 w0 _ g s0_0 t1138 t1139 from is104 HI0.out)) : g ≠ gb1140)); have NB1140_0 := Aside0.mk ((by rw [hg]; exact Nat.ne_of_gt (IsS104.lt (show IsS104 w0 _ g s0_0 t1138 t1139 from is104 HI0.out)) : gb1140 ≠ g)); replace HI0 := Aside0.mk (IsS104.below (is104 HI0.out) hb); clear hb hbox hg; have hnb58 := NB1140_1130.out; have hnc58 := NB1130_1140.out; have hnb59 := NB1140_0.out; have hnc59 := NB0_1140.out; obtain ⟨hcz60_0, hcz60_1, hcz60_2, hfz60_0, hfz60_1, hfz60_2⟩ := cz3 BK1140.out; obtain ⟨Ao61, co61, eo61⟩ := Kd.R_slice HO1134.out; subst eo61; obtain ⟨Ao62, co62, eo62⟩ := Kd.R_slice HO1137.out; subst eo62) | ((with_reducible refine gate_callee (f := 97) rfl ?_); refine goesL_ (some 11) rfl rfl Try.func97 (by kernel_rfl) rfl #[.pointer (some ⟨g, 0, none⟩), .int .i64 (t1135.length : Int)] rfl mapd ?_; (with_reducible refine (spec_l01Below.calls g s0_0 t1138 t1139 (t1135.length : Int) t1141 t1142 t1143 w0 _ ?side1 ?side2 A3.out).mono ?_); (case side1 => exact is104 HI0.out); (case side2 => exact bl104 HB.out); rintro e w63 ⟨rfl, hi, hb, hk⟩; refine ⟨_, rfl, ?_⟩; replace BK1130 := Aside0.mk (KeepBut.blk hk (g' := gb1130) (o := .cells #[.int .i64 0, .slice none 0 0, .slice none 0 0] 30 (0, 0)) (bf BK1130.out) NB1130_0.out (by simp)); replace HO1134 := Aside0.mk (Kd.R_mono (Kd.R_keep (IsS104.apart (show IsS104 w0 _ g s0_0 t1138 t1139 from is104 HI0.out) (by refine rk ?_; exact (Kd.R_mono (Kd.R_far (p := ⟨gb1140, 2, none⟩) (Kd.R_far (p := ⟨gb1140, 1, none⟩) (Kd.R_far (p := ⟨gb1140, 0, none⟩) (Kd.R_types HO1134.out BK1140.out (by decide)) (fun _ hk => hk.2) (.int .i64 t1131)) (fun _ hk => hk.2) (.slice Ao61 t1132.length co61)) (fun _ hk => hk.2) (.slice Ao62 t1135.length co62)) (fun _ h_ => h_.1))) (by decide)) hk (fun _ h => h.2)) (fun _ h => h.1)); replace HO1137 := Aside0.mk (Kd.R_mono (Kd.R_keep (IsS104.apart (show IsS104 w0 _ g s0_0 t1138 t1139 from is104 HI0.out) (by refine rk ?_; exact (Kd.R_mono (Kd.R_far (p := ⟨gb1140, 2, none⟩) (Kd.R_far (p := ⟨gb1140, 1, none⟩) (Kd.R_far (p := ⟨gb1140, 0, none⟩) (Kd.R_types HO1137.out BK1140.out (by decide)) (fun _ hk => hk.2) (.int .i64 t1131)) (fun _ hk => hk.2) (.slice Ao61 t1132.length co61)) (fun _ hk => hk.2) (.slice Ao62 t1135.length co62)) (fun _ h_ => h_.1))) (by decide)) hk (fun _ h => h.2)) (fun _ h => h.1)); replace BK1140 := Aside0.mk (KeepBut.blk hk (g' := gb1140) (o := .cells #[.int .i64 t1131, .slice Ao61 t1132.length co61, .slice Ao62 t1135.length co62] 30 (0, 0)) (by refine bk ?_; refine blk_put (cs := #[.int .i64 t1131, .slice Ao61 t1132.length co61, .slice none 0 0]) ?_ 2 _ rfl; refine bk ?_; refine blk_put (cs := #[.int .i64 t1131, .slice none 0 0, .slice none 0 0]) ?_ 1 _ rfl; refine bk ?_; refine blk_put (cs := #[.int .i64 0, .slice none 0 0, .slice none 0 0]) ?_ 0 _ rfl; refine bk ?_; exact BK1140.out) NB1140_0.out (by simp)); replace HK := Aside0.mk (KeepBut.trans (kp HK.out) hk (.inl rfl)); replace HB := Aside0.mk (hb); replace HI0 := Aside0.mk (hi); (try clear hb); (try clear hb2); (try clear hk); (try clear hi)) | ((with_reducible refine gate_callee (f := 97) rfl ?_); refine goesL_ (some 13) rfl rfl Try.func97 (by kernel_rfl) rfl #[.pointer (some ⟨g, 0, none⟩), .int .i64 14] rfl mapd ?_; (with_reducible refine (spec_l01Below.calls g s0_0 t1142 t1143 14 t1144 t1145 t1146 w0 _ ?side1 ?side2 A4.out).mono ?_); (case side1 => exact is104 HI0.out); (case side2 => exact bl104 HB.out); rintro e w64 ⟨rfl, hi, hb, hk⟩; refine ⟨_, rfl, ?_⟩; replace BK1130 := Aside0.mk (KeepBut.blk hk (g' := gb1130) (o := .cells #[.int .i64 0, .slice none 0 0, .slice none 0 0] 30 (0, 0)) (bk BK1130.out) NB1130_0.out (by simp)); replace HO1134 := Aside0.mk (Kd.R_mono (Kd.R_keep (IsS104.apart (show IsS104 w0 _ g s0_0 t1142 t1143 from is104 HI0.out) (rk HO1134.out) (by decide)) hk (fun _ h => h.2)) (fun _ h => h.1)); replace HO1137 := Aside0.mk (Kd.R_mono (Kd.R_keep (IsS104.apart (show IsS104 w0 _ g s0_0 t1142 t1143 from is104 HI0.out) (rk HO1137.out) (by decide)) hk (fun _ h => h.2)) (fun _ h => h.1)); replace BK1140 := Aside0.mk (KeepBut.blk hk (g' := gb1140) (o := .cells #[.int .i64 t1131, .slice Ao61 t1132.length co61, .slice Ao62 t1135.length co62] 30 (0, 0)) (bk BK1140.out) NB1140_0.out (by simp)); replace HK := Aside0.mk (KeepBut.trans (kp HK.out) hk (.inl rfl)); replace HB := Aside0.mk (hb); replace HI0 := Aside0.mk (hi); (try clear hb); (try clear hb2); (try clear hk); (try clear hi)))
      replace HO1134 := Aside0.mk (Kd.R_drew HO1134.out)
      replace HO1137 := Aside0.mk (Kd.R_drew HO1137.out)
      replace BK1130 := Aside0.mk (blk_drew BK1130.out)
      replace BK1140 := Aside0.mk (blk_drew BK1140.out)
      replace HI0 := Aside0.mk (IsS104.drew HI0.out)
      replace HK := Aside0.mk (keep_drew HK.out)
      replace HB := Aside0.mk (below_drew1 HB.out)
      refine start_ (n := 9) (S := fun w' => w'.cell? ⟨gb1140, 0, none⟩ = some (.int .i64 t1131) ∧ w'.cell? ⟨gb1140, 1, none⟩ = some (.slice Ao61 t1132.length co61) ∧ w'.cell? ⟨gb1140, 2, none⟩ = some (.slice Ao62 t1135.length co62)) (ds := [8]) #[false, false, false, false, false, false, false, false, false] (by kernel_rfl) rfl rfl ⟨(blk_cell BK1140.out 0).trans rfl, (blk_cell BK1140.out 1).trans rfl, (blk_cell BK1140.out 2).trans rfl⟩ (fun hHeld => ?_); refine with_tabW spec_l02AnyColumn.tab9 spec_l02AnyColumn.bits9 (fun HT_ HW_ => ?_)
      generalize w64.drew = w65 at HO1134 HO1137 BK1130 BK1140 HI0 HK HB hHeld ⊢
      refine puA (i := 0) (N := some 35) HT_.out ?_
      refine puA (i := 2) (N := some 37) HT_.out ?_
      refine puA (i := 3) (N := some 38) HT_.out ?_
      refine tkA3 (i := 1) (N := some 36) HT_.out HW_.out hHeld ?_
      refine onA (i := 4) (N := some 39) HT_.out (fun K hK => ?_)
      refine Kd.R_lit_step (Kd.int .i64) _ 3 ?hg (N := 39) ?hd (xs := ([(-1), 1, 999, 1000] : List Int)) (inner := [.int .i64 (-1), .int .i64 1, .int .i64 999, .int .i64 1000]) (ok := fun _ => True) (okp := fun _ => True) ?hr ?hp (fun _ hk => hk) trivial (Below.refl _ _) (Nat.le_refl _) (by simp) ?_; (case hd => rfl); (case hg => rfl); (case hr => first | (go_simp; done) | (go_simp; rfl)); (case hp => exact (Reps.one (show Kd.M (Kd.int .i64) _ _ _ (-1) [.int .i64 (-1)] from rfl) (Reps.one (show Kd.M (Kd.int .i64) _ _ _ 1 [.int .i64 1] from rfl) (Reps.one (show Kd.M (Kd.int .i64) _ _ _ 999 [.int .i64 999] from rfl) (Reps.one (show Kd.M (Kd.int .i64) _ _ _ 1000 [.int .i64 1000] from rfl) (Reps.none _ _))))))
      intro v1161 w66 ho67 hb hg_ hnew_
      clear hg_ hnew_
      (first | rw [← Ny1160.out] at ho67 | (simp only [Int.reduceToNat] at ho67; rw [← Ny1160.out] at ho67))
      replace HO1137 := Aside0.mk (Kd.R_below (rk HO1137.out) hb)
      have HO1162 := Aside0.mk (Kd.R_lower (Kd.R_new' ho67 (Kd.R_lt (rk HO1134.out))) (keep_size (w := w) (g := g) (row := none) (kp HK.out)))
      replace HO1134 := Aside0.mk (Kd.R_elder' (rk HO1134.out) (Kd.R_base ho67) hb)
      replace HI0 := Aside0.mk (IsS104.below (is104 HI0.out) hb)
      replace BK1130 := Aside0.mk (bb BK1130.out hb)
      replace BK1140 := Aside0.mk (bb BK1140.out hb)
      replace HK := Aside0.mk (KeepBut.trans (kp HK.out) (KeepBut.of_below hb g none) (.inl rfl))
      replace HB := Aside0.mk (below_step (bl104 HB.out) hb)
      clear hb ho67
      obtain ⟨Ao68, co68, eo68⟩ := Kd.R_slice HO1162.out
      (first | subst eo68 | (injection eo68 with f1_ f2_ f3_; have f4_ := f1_.symm; have f5_ := f3_.symm; clear f1_ f2_ f3_; subst f4_; subst f5_))
      refine hK.out _ _ ⟨(blk_cell BK1140.out 0).trans rfl, (blk_cell BK1140.out 1).trans rfl, (blk_cell BK1140.out 2).trans rfl⟩ (fun hHeld => ?_)
      clear hK K
      refine norm_ (a' := ?_) ?_ ?_
      rotate_left
      ·show Act.put _ (some 39) _ = _
       simp only [Act.put, List.setIfInBounds_toArray, List.set_cons_zero, List.set_cons_succ, i64_w, i32_w]
       rfl
      refine onA (i := 5) (N := some 40) HT_.out (fun K hK => ?_)
      refine goes_ Try.func98 (by kernel_rfl) rfl #[.pointer (some ⟨g, 0, none⟩), .slice Ao68 y1160.length co68] (by rfl) rfl rfl mapd ?_
      with_reducible refine (spec_l01PickInt.calls g s0_0 t1145 t1146 _ _ y1160 t1163 t1164 t1165 w0 _ ?side1 ?side2 ?side3 ?side4 ?side5 A51.out).mono ?_
      (case side1 => exact is104 HI0.out)
      (case side2 => exact bl104 HB.out)
      (case side3 => exact cb ((Kd.R_reads' HO1162.out).2.2))
      (case side4 => exact (Kd.R_reads' HO1162.out).2.1)
      (case side5 => exact far_slice (IsS104.own_ne HI0.out HO1162.out (by decide)))
      rintro e w69 ⟨rfl, hi, hb, hk⟩
      refine ⟨_, rfl, ?_⟩
      replace BK1130 := Aside0.mk (KeepBut.blk hk (g' := gb1130) (o := .cells #[.int .i64 0, .slice none 0 0, .slice none 0 0] 30 (0, 0)) (bk BK1130.out) NB1130_0.out (by simp))
      replace HO1134 := Aside0.mk (Kd.R_mono (Kd.R_keep (IsS104.apart (show IsS104 w0 _ g s0_0 t1145 t1146 from is104 HI0.out) (rk HO1134.out) (by decide)) hk (fun _ h => h.2)) (fun _ h => h.1))
      replace HO1137 := Aside0.mk (Kd.R_mono (Kd.R_keep (IsS104.apart (show IsS104 w0 _ g s0_0 t1145 t1146 from is104 HI0.out) (rk HO1137.out) (by decide)) hk (fun _ h => h.2)) (fun _ h => h.1))
      replace BK1140 := Aside0.mk (KeepBut.blk hk (g' := gb1140) (o := .cells #[.int .i64 t1131, .slice Ao61 t1132.length co61, .slice Ao62 t1135.length co62] 30 (0, 0)) (bk BK1140.out) NB1140_0.out (by simp))
      replace HO1162 := Aside0.mk (Kd.R_mono (Kd.R_keep (IsS104.apart (show IsS104 w0 _ g s0_0 t1145 t1146 from is104 HI0.out) (rk HO1162.out) (by decide)) hk (fun _ h => h.2)) (fun _ h => h.1))
      replace HK := Aside0.mk (KeepBut.trans (kp HK.out) hk (.inl rfl))
      replace HB := Aside0.mk (hb)
      replace HI0 := Aside0.mk (hi)
      (try clear hb)
      (try clear hb2)
      (try clear hk)
      (try clear hi)
      have p54 : 0 ≤ (t1141 : Int) := of_decide_eq_true asm
      have q54 : (t1141 : Int) < ((t1135.length : Int) : Int) := of_decide_eq_true asm
      obtain ⟨go54, co54, eo54, gb54, gl54, cl54, HG54⟩ := Kd.R_form HO1137.out (by omega)
      (first | cases eo54 | (injection eo54 with ea_ en_ ec_; (first | subst ea_ | (injection ea_ with ea_; subst ea_)); subst ec_; clear en_))
      have GB54 := Aside0.mk gb54
      have GG54 := Aside0.mk HG54
      clear gb54 gl54 HG54
      obtain ⟨ce54, hcl54, hM54, hcc54, hfr54⟩ := Kd.R_elem HO1137.out z71 (t1141 : Int) p54 q54
      obtain rfl := k71_openM hM54
      have hx54_0 : World.cell? _ ⟨go54, (t1141 : Int).toNat * 4, none⟩ = some (.int .i64 ((rd_T71 t1135 t1141).f0)) := hcc54 0 _ rfl
      have hx54_1 : World.cell? _ ⟨go54, (t1141 : Int).toNat * 4 + 1, none⟩ = some (.int .i64 ((rd_T71 t1135 t1141).f1)) := hcc54 1 _ rfl
      have hx54_2 : World.cell? _ ⟨go54, (t1141 : Int).toNat * 4 + 2, none⟩ = some (.int .i64 ((rd_T71 t1135 t1141).f2)) := hcc54 2 _ rfl
      have hx54_3 : World.cell? _ ⟨go54, (t1141 : Int).toNat * 4 + 3, none⟩ = some (.bool ((rd_T71 t1135 t1141).f3)) := hcc54 3 _ rfl
      have hf54_0 : World.frozen? _ ⟨go54, (t1141 : Int).toNat * 4, none⟩ = false := hfr54 0
      have hf54_1 : World.frozen? _ ⟨go54, (t1141 : Int).toNat * 4 + 1, none⟩ = false := hfr54 1
      have hf54_2 : World.frozen? _ ⟨go54, (t1141 : Int).toNat * 4 + 2, none⟩ = false := hfr54 2
      have hf54_3 : World.frozen? _ ⟨go54, (t1141 : Int).toNat * 4 + 3, none⟩ = false := hfr54 3
      clear hcl54 hcc54 hfr54 hM54
      replace p54 := eq_true p54
      replace q54 := eq_true q54
      have HN0_go54 := Aside0.mk (show g ≠ go54 from by have h_ := IsS104.own_ne HI0.out HO1137.out (by decide); intro e_; exact h_ (by rw [e_]; rfl))
      obtain ⟨ce70, hcl70, hM70, hcc70, hfr70⟩ := Kd.R_elem HO1137.out z71 (t1141 : Int) (of_decide_eq_true asm) (by have h_ : (t1141 : Int) < ((t1135.length : Int) : Int) := of_decide_eq_true asm; first | exact h_ | (have e_ := (Kd.R_reads' HO1137.out).1; omega) | simpa using h_)
      obtain rfl := k71_openM hM70
      have HP70 := (Kd.R_seg HO1137.out (t1141 : Int) (of_decide_eq_true asm) (by have h_ : (t1141 : Int) < ((t1135.length : Int) : Int) := of_decide_eq_true asm; first | exact h_ | (have e_ := (Kd.R_reads' HO1137.out).1; omega) | simpa using h_) (seg := [.int .i64 t1163]) (j := 2) hcl70 hcc70 (show 3 ≤ 4 from by decide) (x' := (⟨(rd_T71 t1135 t1141).f0, (rd_T71 t1135 t1141).f1, t1163, (rd_T71 t1135 t1141).f3⟩ : S71)) (k71_mkM _ _ _ (⟨(rd_T71 t1135 t1141).f0, (rd_T71 t1135 t1141).f1, t1163, (rd_T71 t1135 t1141).f3⟩ : S71) ) (fun _ hk => hk)).1
      rw [← Ny1166.out] at HP70
      have HQ70 := Aside0.mk HP70
      clear hcl70 hcc70 hfr70 hM70 HP70
      refine hK.out _ _ ⟨(blk_cell BK1140.out 0).trans rfl, (blk_cell BK1140.out 1).trans rfl, (blk_cell BK1140.out 2).trans rfl⟩ (fun hHeld => ?_)
      clear hK K
      refine norm_ (a' := ?_) ?_ ?_
      rotate_left
      ·show Act.put _ (some 40) _ = _
       simp only [Act.put, List.setIfInBounds_toArray, List.set_cons_zero, List.set_cons_succ, i64_w, i32_w]
       rfl
      refine puA (i := 6) (N := some 41) HT_.out ?_
      refine puA (i := 7) (N := some 42) HT_.out ?_
      refine last_ (i := 8) (N := none) #[true, true, true, true, true, true, true, true, true] rfl rfl (one_of HT_.out (by kernel_rfl)) (by decide) (fun K hK => ?_)
      refine skip_ (w1 := ?_) (by rfl) rfl ?_ ?_
      rotate_left
      ·go_simp
       rfl
      refine hK.out _ _ ?_
      clear hK K
      refine done_ (done_of HT_.out (by kernel_rfl)) ?_
      have n0_ : Aside0 (Kd.R (Kd.int .i64) 3 (w69.setCell ⟨go54, (t1141 : Int).toNat * 4 + 2, none⟩ (.int .i64 t1163)) w.heap.size (fun k_ => some k_ ≠ (.slice Ao68 y1160.length co68 : Value).ownBlock) (.slice Ao61 t1132.length co61) t1132) := ⟨by refine rk ?_; exact Kd.R_mono (Kd.R_far (p := ⟨go54, (t1141 : Int).toNat * 4 + 2, none⟩) (Kd.R_types HO1134.out GG54.out (by decide)) (fun _ hk => hk.2) (.int .i64 t1163)) (fun _ hk => hk.1.2)⟩
      have n1_ : Aside0 (Kd.R k71 71 (w69.setCell ⟨go54, (t1141 : Int).toNat * 4 + 2, none⟩ (.int .i64 t1163)) w.heap.size (fun _ => True) (.slice (some ⟨go54, 0, none⟩) t1135.length co62) y1166) := ⟨rk HQ70.out⟩
      have n2_ : Aside0 (Kd.R (Kd.int .i64) 3 (w69.setCell ⟨go54, (t1141 : Int).toNat * 4 + 2, none⟩ (.int .i64 t1163)) w.heap.size (fun k_ => some k_ ≠ (.slice Ao61 t1132.length co61 : Value).ownBlock) (.slice Ao68 y1160.length co68) y1160) := ⟨by refine rk ?_; exact Kd.R_mono (Kd.R_far (p := ⟨go54, (t1141 : Int).toNat * 4 + 2, none⟩) (Kd.R_types HO1162.out GG54.out (by decide)) (fun _ hk => hk.2) (.int .i64 t1163)) (fun _ hk => hk.1.2)⟩
      have n3_ : Aside0 ((w69.setCell ⟨go54, (t1141 : Int).toNat * 4 + 2, none⟩ (.int .i64 t1163)).heap[gb1130]? = some (.cells #[.int .i64 0, .slice none 0 0, .slice none 0 0] 30 (0, 0))) := ⟨by refine bk ?_; refine blk_far ?_ (by have h_ := Kd.R_ne HO1137.out BK1130.out (by decide); intro e_; exact h_ (by rw [e_]; rfl)) _; refine bk ?_; exact BK1130.out⟩
      have n4_ : Aside0 ((w69.setCell ⟨go54, (t1141 : Int).toNat * 4 + 2, none⟩ (.int .i64 t1163)).heap[gb1140]? = some (.cells #[.int .i64 t1131, .slice Ao61 t1132.length co61, .slice (some ⟨go54, 0, none⟩) t1135.length co62] 30 (0, 0))) := ⟨by refine bk ?_; refine blk_far ?_ (by have h_ := Kd.R_ne HO1137.out BK1140.out (by decide); intro e_; exact h_ (by rw [e_]; rfl)) _; refine bk ?_; exact BK1140.out⟩
      have n5_ : Aside0 (IsS104 w0 (w69.setCell ⟨go54, (t1141 : Int).toNat * 4 + 2, none⟩ (.int .i64 t1163)) g s0_0 t1164 t1165) := ⟨by repeat (first | (with_reducible first | exact HI0.out | apply IsS104.alloc | apply IsS104.drewN | apply IsS104.drew | apply IsS104.set_1 | apply IsS104.set_2 | refine IsS104.far ?_ HN0_go54.out _ | refine IsS104.far ?_ NB0_1130.out _ | refine IsS104.far ?_ NB0_1140.out _) | exact HI0.out)⟩
      have n6_ : Aside0 (KeepBut w (w69.setCell ⟨go54, (t1141 : Int).toNat * 4 + 2, none⟩ (.int .i64 t1163)) g none) := ⟨by repeat (first | (with_reducible first | exact HK.out | apply KeepBut.set_ | apply keep_drewN | apply keep_drew | apply keep_alloc | refine keep_far ?_ GB54.out _ | refine keep_far ?_ GW1130.out _ | refine keep_far ?_ GW1140.out _) | exact HK.out)⟩
      have n7_ : Aside0 (Below w0.heap.size w0 (w69.setCell ⟨go54, (t1141 : Int).toNat * 4 + 2, none⟩ (.int .i64 t1163))) := ⟨by repeat (first | (with_reducible first | exact HB.out | apply below_alloc | apply pw_below_drewN | apply below_drew1 | refine below_set ?_ (Nat.le_trans HL.out GB54.out) | refine below_set ?_ (IsS104.ge HI0.out) | refine below_set ?_ GE1130.out | refine below_set ?_ GE1140.out) | exact HB.out)⟩
      (try clear HO1134)
      (try clear HO1137)
      (try clear HO1162)
      (try clear BK1130)
      (try clear BK1140)
      (try clear HI0)
      (try clear HK)
      (try clear HB)
      generalize (w69.setCell ⟨go54, (t1141 : Int).toNat * 4 + 2, none⟩ (.int .i64 t1163)) = w71 at n0_ n1_ n2_ n3_ n4_ n5_ n6_ n7_ ⊢
      have HO1134 := n0_
      have HO1137 := n1_
      have HO1162 := n2_
      have BK1130 := n3_
      have BK1140 := n4_
      have HI0 := n5_
      have HK := n6_
      have HB := n7_
      clear n0_ n1_ n2_ n3_ n4_ n5_ n6_ n7_
      obtain ⟨hcz72_0, hcz72_1, hcz72_2, hfz72_0, hfz72_1, hfz72_2⟩ := cz3 BK1140.out
      have hnb73 := NB1130_0.out
      have hnc73 := NB0_1130.out
      obtain ⟨hcz74_0, hcz74_1, hcz74_2, hfz74_0, hfz74_1, hfz74_2⟩ := cz3 BK1130.out
      try go_wp2
      refine bodyPost_ret (results_cell_row rfl _ _ gb1130 30 #[.int .i64 t1131, .slice Ao61 t1132.length co61, .slice (some ⟨go54, 0, none⟩) t1135.length co62] (0, 0) _ rfl (by refine bk ?_; refine blk_put (cs := #[.int .i64 t1131, .slice Ao61 t1132.length co61, .slice none 0 0]) ?_ 2 _ rfl; refine bk ?_; refine blk_put (cs := #[.int .i64 t1131, .slice none 0 0, .slice none 0 0]) ?_ 1 _ rfl; refine bk ?_; refine blk_put (cs := #[.int .i64 0, .slice none 0 0, .slice none 0 0]) ?_ 0 _ rfl; refine bk ?_; exact BK1130.out) Try.underlying30 rfl (by kernel_rfl)) rfl ?_
      exact ⟨_, _, by first | rfl | (simp [errW_none, errW_some] <;> rfl) | (simp [*, errW_none, errW_some] <;> rfl), by refine rk ?_; exact Kd.R_mono (Kd.R_far (p := ⟨gb1130, 2, none⟩) (Kd.R_far (p := ⟨gb1130, 1, none⟩) (Kd.R_far (p := ⟨gb1130, 0, none⟩) (Kd.R_types HO1134.out BK1130.out (by decide)) (fun _ hk => hk.2) (.int .i64 t1131)) (fun _ hk => hk.2) (.slice Ao61 t1132.length co61)) (fun _ hk => hk.2) (.slice (some ⟨go54, 0, none⟩) t1135.length co62)) (fun _ hk => trivial), by refine rk ?_; exact Kd.R_mono (Kd.R_far (p := ⟨gb1130, 2, none⟩) (Kd.R_far (p := ⟨gb1130, 1, none⟩) (Kd.R_far (p := ⟨gb1130, 0, none⟩) (Kd.R_types HO1137.out BK1130.out (by decide)) (fun _ hk => hk.2) (.int .i64 t1131)) (fun _ hk => hk.2) (.slice Ao61 t1132.length co61)) (fun _ hk => hk.2) (.slice (some ⟨go54, 0, none⟩) t1135.length co62)) (fun _ hk => trivial), is104 HI0.out, bl104 HB.out, kp HK.out⟩
     ·rw [if_neg c53] at H
      exact absurd H (by simp)
    ·rw [if_neg c52] at H
     exact absurd H (by simp)
   ·rw [if_neg c50] at H
    have c50b0 : (t1144 == 2) = false := beq_eq_false_iff_ne.mpr c50
    have c50b1 : (t1144 != 2) = true := bne_iff_ne.mpr c50
    by_cases c75 : t1144 = 3
    ·rw [if_pos c75] at H
     have c75b0 : (t1144 == 3) = true := beq_iff_eq.mpr c75
     have c75b1 : (t1144 != 3) = false := bne_eq_false_iff_eq.mpr c75
     clear c75
     replace H := Option.bind_eq_some_iff.mp H
     obtain ⟨⟨t1167, t1168, t1169⟩, A760, H⟩ := H
     try dsimp only at H
     have A76 := Aside0.mk A760
     clear A760
     by_cases c77 : t1132.length < 17592186044416
     ·rw [if_pos c77] at H
      have LMc77 := Aside0.mk c77
      clear c77
      obtain ⟨y1170, hy1170⟩ : ∃ y_ : List Int, y_ = (t1132 ++ [t1167]) := ⟨_, rfl⟩
      replace H : (some (t1131, y1170, t1135, t1168, t1169)) = some (r1, r2, r3, r4, r5) := by first | (rw [hy1170]; with_reducible exact H) | (have H2_ := (Option.bind_some _ _).symm.trans H; rw [hy1170]; with_reducible exact H2_) | (have H2_ := (Option.bind_some _ _).symm.trans H; with_reducible exact H2_) | with_reducible exact H | (rw [hy1170]; exact H) | exact H
      have Ny1170 := Aside0.mk hy1170
      clear hy1170
      simp only [Option.some.injEq, Prod.mk.injEq] at H
      obtain ⟨rfl, rfl, rfl, rfl, rfl⟩ := H
      go_enter Try.func82, Try.ntmps82
      try go_wp2_with (first | ((with_reducible refine gate_dst (N := 2) rfl ?_); refine bx (cs := #[.int .i64 0, .slice none 0 0, .slice none 0 0]) (t := 30) fun gb1130 hg w78 hbox hb => ?_; replace HB := Aside0.mk (below_step (bl104 HB.out) hb); have BK1130 := Aside0.mk (hbox); have GW1130 := Aside0.mk ((ks HK.out hg)); have GE1130 := Aside0.mk ((Nat.le_trans HW0.out (ks HK.out hg) : w0.heap.size ≤ gb1130)); replace HK := Aside0.mk (KeepBut.trans (kp HK.out) (KeepBut.of_below hb g none) (.inl rfl)); have NB0_1130 := Aside0.mk ((by rw [hg]; exact Nat.ne_of_lt (IsS104.lt (show IsS104 w0 _ g s0_0 s0_1 s0_2 from is104 HI0.out)) : g ≠ gb1130)); have NB1130_0 := Aside0.mk ((by rw [hg]; exact Nat.ne_of_gt (IsS104.lt (show IsS104 w0 _ g s0_0 s0_1 s0_2 from is104 HI0.out)) : gb1130 ≠ g)); replace HI0 := Aside0.mk (IsS104.below (is104 HI0.out) hb); clear hb hbox hg) | ((with_reducible refine gate_callee (f := 96) rfl ?_); refine goesL_ (some 6) rfl rfl Try.func96 (by kernel_rfl) rfl #[.pointer (some ⟨g, 0, none⟩), .int .i64 1] rfl mapd ?_; (with_reducible refine (spec_l02Column.calls k g s0_0 s0_1 s0_2 1 t1131 t1132 t1135 t1138 t1139 w0 _ ?side1 ?side2 A2.out).mono ?_); (case side1 => exact is104 HI0.out); (case side2 => exact bl104 HB.out); rintro e w79 ⟨v1133, v1136, rfl, ho0, ho1, hi, hb, hk⟩; refine ⟨_, rfl, ?_⟩; replace BK1130 := Aside0.mk (KeepBut.blk hk (g' := gb1130) (o := .cells #[.int .i64 0, .slice none 0 0, .slice none 0 0] 30 (0, 0)) (bk BK1130.out) NB1130_0.out (by simp)); have HO1134 := Aside0.mk (Kd.R_lower ho0 (keep_size (w := w) (g := g) (row := none) (kp HK.out))); have HO1137 := Aside0.mk (Kd.R_lower ho1 (keep_size (w := w) (g := g) (row := none) (kp HK.out))); replace HK := Aside0.mk (KeepBut.trans (kp HK.out) hk (.inl rfl)); replace HB := Aside0.mk (hb); replace HI0 := Aside0.mk (hi); (try clear hb); (try clear hb2); (try clear hk); (try clear hi); (try clear ho0); (try clear ho1)) | ((with_reducible refine gate_dst (N := 3) rfl ?_); refine bx (cs := #[.int .i64 0, .slice none 0 0, .slice none 0 0]) (t := 30) fun gb1140 hg w80 hbox hb => ?_; replace HO1134 := Aside0.mk (Kd.R_below (rk HO1134.out) hb); replace HO1137 := Aside0.mk (Kd.R_below (rk HO1137.out) hb); replace HB := Aside0.mk (below_step (bl104 HB.out) hb); have BK1140 := Aside0.mk (hbox); have GW1140 := Aside0.mk ((ks HK.out hg)); have GE1140 := Aside0.mk ((Nat.le_trans HW0.out (ks HK.out hg) : w0.heap.size ≤ gb1140)); replace HK := Aside0.mk (KeepBut.trans (kp HK.out) (KeepBut.of_below hb g none) (.inl rfl)); have NB1130_1140 := Aside0.mk ((nl BK1130.out hg)); have NB1140_1130 := Aside0.mk ((ng BK1130.out hg)); replace BK1130 := Aside0.mk (bb BK1130.out hb); have NB0_1140 := Aside0.mk ((by rw [hg]; exact Nat.ne_of_lt (IsS104.lt (show IsS104 w0 _ g s0_0 t1138 t1139 from is104 HI0.out)) : g ≠ gb1140)); have NB1140_0 := Aside0.mk ((by rw [hg]; exact Nat.ne_of_gt (IsS104.lt (show IsS104 w0 _ g s0_0 t1138 t1139 from is104 HI0.out)) : gb1140 ≠ g)); replace HI0 := Aside0.mk (IsS104.below (is104 HI0.out) hb); clear hb hbox hg; have hnb81 := NB1140_1130.out; have hnc81 := NB1130_1140.out; have hnb82 := NB1140_0.out; have hnc82 := NB0_1140.out; obtain ⟨hcz83_0, hcz83_1, hcz83_2, hfz83_0, hfz83_1, hfz83_2⟩ := cz3 BK1140.out; obtain ⟨Ao84, co84, eo84⟩ := Kd.R_slice HO1134.out; subst eo84; obtain ⟨Ao85, co85, eo85⟩ := Kd.R_slice HO1137.out; subst eo85) | ((with_reducible refine gate_callee (f := 97) rfl ?_); refine goesL_ (some 11) rfl rfl Try.func97 (by kernel_rfl) rfl #[.pointer (some ⟨g, 0, none⟩), .int .i64 (t1135.length : Int)] rfl mapd ?_; (with_reducible refine (spec_l01Below.calls g s0_0 t1138 t1139 (t1135.length : Int) t1141 t1142 t1143 w0 _ ?side1 ?side2 A3.out).mono ?_); (case side1 => exact is104 HI0.out); (case side2 => exact bl104 HB.out); rintro e w86 ⟨rfl, hi, hb, hk⟩; refine ⟨_, rfl, ?_⟩; replace BK1130 := Aside0.mk (KeepBut.blk hk (g' := gb1130) (o := .cells #[.int .i64 0, .slice none 0 0, .slice none 0 0] 30 (0, 0)) (bf BK1130.out) NB1130_0.out (by simp)); replace HO1134 := Aside0.mk (Kd.R_mono (Kd.R_keep (IsS104.apart (show IsS104 w0 _ g s0_0 t1138 t1139 from is104 HI0.out) (by refine rk ?_; exact (Kd.R_mono (Kd.R_far (p := ⟨gb1140, 2, none⟩) (Kd.R_far (p := ⟨gb1140, 1, none⟩) (Kd.R_far (p := ⟨gb1140, 0, none⟩) (Kd.R_types HO1134.out BK1140.out (by decide)) (fun _ hk => hk.2) (.int .i64 t1131)) (fun _ hk => hk.2) (.slice Ao84 t1132.length co84)) (fun _ hk => hk.2) (.slice Ao85 t1135.length co85)) (fun _ h_ => h_.1))) (by decide)) hk (fun _ h => h.2)) (fun _ h => h.1)); replace HO1137 := Aside0.mk (Kd.R_mono (Kd.R_keep (IsS104.apart (show IsS104 w0 _ g s0_0 t1138 t1139 from is104 HI0.out) (by refine rk ?_; exact (Kd.R_mono (Kd.R_far (p := ⟨gb1140, 2, none⟩) (Kd.R_far (p := ⟨gb1140, 1, none⟩) (Kd.R_far (p := ⟨gb1140, 0, none⟩) (Kd.R_types HO1137.out BK1140.out (by decide)) (fun _ hk => hk.2) (.int .i64 t1131)) (fun _ hk => hk.2) (.slice Ao84 t1132.length co84)) (fun _ hk => hk.2) (.slice Ao85 t1135.length co85)) (fun _ h_ => h_.1))) (by decide)) hk (fun _ h => h.2)) (fun _ h => h.1)); replace BK1140 := Aside0.mk (KeepBut.blk hk (g' := gb1140) (o := .cells #[.int .i64 t1131, .slice Ao84 t1132.length co84, .slice Ao85 t1135.length co85] 30 (0, 0)) (by refine bk ?_; refine blk_put (cs := #[.int .i64 t1131, .slice Ao84 t1132.length co84, .slice none 0 0]) ?_ 2 _ rfl; refine bk ?_; refine blk_put (cs := #[.int .i64 t1131, .slice none 0 0, .slice none 0 0]) ?_ 1 _ rfl; refine bk ?_; refine blk_put (cs := #[.int .i64 0, .slice none 0 0, .slice none 0 0]) ?_ 0 _ rfl; refine bk ?_; exact BK1140.out) NB1140_0.out (by simp)); replace HK := Aside0.mk (KeepBut.trans (kp HK.out) hk (.inl rfl)); replace HB := Aside0.mk (hb); replace HI0 := Aside0.mk (hi); (try clear hb); (try clear hb2); (try clear hk); (try clear hi)) | ((with_reducible refine gate_callee (f := 97) rfl ?_); refine goesL_ (some 13) rfl rfl Try.func97 (by kernel_rfl) rfl #[.pointer (some ⟨g, 0, none⟩), .int .i64 14] rfl mapd ?_; (with_reducible refine (spec_l01Below.calls g s0_0 t1142 t1143 14 t1144 t1145 t1146 w0 _ ?side1 ?side2 A4.out).mono ?_); (case side1 => exact is104 HI0.out); (case side2 => exact bl104 HB.out); rintro e w87 ⟨rfl, hi, hb, hk⟩; refine ⟨_, rfl, ?_⟩; replace BK1130 := Aside0.mk (KeepBut.blk hk (g' := gb1130) (o := .cells #[.int .i64 0, .slice none 0 0, .slice none 0 0] 30 (0, 0)) (bk BK1130.out) NB1130_0.out (by simp)); replace HO1134 := Aside0.mk (Kd.R_mono (Kd.R_keep (IsS104.apart (show IsS104 w0 _ g s0_0 t1142 t1143 from is104 HI0.out) (rk HO1134.out) (by decide)) hk (fun _ h => h.2)) (fun _ h => h.1)); replace HO1137 := Aside0.mk (Kd.R_mono (Kd.R_keep (IsS104.apart (show IsS104 w0 _ g s0_0 t1142 t1143 from is104 HI0.out) (rk HO1137.out) (by decide)) hk (fun _ h => h.2)) (fun _ h => h.1)); replace BK1140 := Aside0.mk (KeepBut.blk hk (g' := gb1140) (o := .cells #[.int .i64 t1131, .slice Ao84 t1132.length co84, .slice Ao85 t1135.length co85] 30 (0, 0)) (bk BK1140.out) NB1140_0.out (by simp)); replace HK := Aside0.mk (KeepBut.trans (kp HK.out) hk (.inl rfl)); replace HB := Aside0.mk (hb); replace HI0 := Aside0.mk (hi); (try clear hb); (try clear hb2); (try clear hk); (try clear hi)))
      replace HO1134 := Aside0.mk (Kd.R_drew HO1134.out)
      replace HO1137 := Aside0.mk (Kd.R_drew HO1137.out)
      replace BK1130 := Aside0.mk (blk_drew BK1130.out)
      replace BK1140 := Aside0.mk (blk_drew BK1140.out)
      replace HI0 := Aside0.mk (IsS104.drew HI0.out)
      replace HK := Aside0.mk (keep_drew HK.out)
      replace HB := Aside0.mk (below_drew1 HB.out)
      refine start_ (n := 8) (S := fun w' => w'.cell? ⟨gb1140, 0, none⟩ = some (.int .i64 t1131) ∧ w'.cell? ⟨gb1140, 1, none⟩ = some (.slice Ao84 t1132.length co84) ∧ w'.cell? ⟨gb1140, 2, none⟩ = some (.slice Ao85 t1135.length co85)) (ds := [7]) #[false, false, false, false, false, false, false, false] (by kernel_rfl) rfl rfl ⟨(blk_cell BK1140.out 0).trans rfl, (blk_cell BK1140.out 1).trans rfl, (blk_cell BK1140.out 2).trans rfl⟩ (fun hHeld => ?_); refine with_tabW spec_l02AnyColumn.tab11 spec_l02AnyColumn.bits11 (fun HT_ HW_ => ?_)
      generalize w87.drew = w88 at HO1134 HO1137 BK1130 BK1140 HI0 HK HB hHeld ⊢
      refine puA (i := 0) (N := some 45) HT_.out ?_
      refine puA (i := 2) (N := some 47) HT_.out ?_
      refine tkA3 (i := 1) (N := some 46) HT_.out HW_.out hHeld ?_
      refine onA (i := 3) (N := some 48) HT_.out (fun K hK => ?_)
      refine goes_ Try.func97 (by kernel_rfl) rfl #[.pointer (some ⟨g, 0, none⟩), .int .i64 14] (by rfl) rfl rfl mapd ?_
      with_reducible refine (spec_l01Below.calls g s0_0 t1145 t1146 14 t1167 t1168 t1169 w0 _ ?side1 ?side2 A76.out).mono ?_
      (case side1 => exact is104 HI0.out)
      (case side2 => exact bl104 HB.out)
      rintro e w89 ⟨rfl, hi, hb, hk⟩
      refine ⟨_, rfl, ?_⟩
      replace BK1130 := Aside0.mk (KeepBut.blk hk (g' := gb1130) (o := .cells #[.int .i64 0, .slice none 0 0, .slice none 0 0] 30 (0, 0)) (bk BK1130.out) NB1130_0.out (by simp))
      replace HO1134 := Aside0.mk (Kd.R_mono (Kd.R_keep (IsS104.apart (show IsS104 w0 _ g s0_0 t1145 t1146 from is104 HI0.out) (rk HO1134.out) (by decide)) hk (fun _ h => h.2)) (fun _ h => h.1))
      replace HO1137 := Aside0.mk (Kd.R_mono (Kd.R_keep (IsS104.apart (show IsS104 w0 _ g s0_0 t1145 t1146 from is104 HI0.out) (rk HO1137.out) (by decide)) hk (fun _ h => h.2)) (fun _ h => h.1))
      replace BK1140 := Aside0.mk (KeepBut.blk hk (g' := gb1140) (o := .cells #[.int .i64 t1131, .slice Ao84 t1132.length co84, .slice Ao85 t1135.length co85] 30 (0, 0)) (bk BK1140.out) NB1140_0.out (by simp))
      replace HK := Aside0.mk (KeepBut.trans (kp HK.out) hk (.inl rfl))
      replace HB := Aside0.mk (hb)
      replace HI0 := Aside0.mk (hi)
      (try clear hb)
      (try clear hb2)
      (try clear hk)
      (try clear hi)
      refine hK.out _ _ ⟨(blk_cell BK1140.out 0).trans rfl, (blk_cell BK1140.out 1).trans rfl, (blk_cell BK1140.out 2).trans rfl⟩ (fun hHeld => ?_)
      clear hK K
      refine norm_ (a' := ?_) ?_ ?_
      rotate_left
      ·show Act.put _ (some 48) _ = _
       simp only [Act.put, List.setIfInBounds_toArray, List.set_cons_zero, List.set_cons_succ, i64_w, i32_w]
       rfl
      refine onA (i := 4) (N := some 49) HT_.out (fun K hK => ?_)
      refine value_ (w1 := ?_) (v := ?_) (by rfl) rfl ?_ ?_
      rotate_left 2
      ·go_simp
       constructor
       ·rfl
       ·rfl
      refine hK.out _ _ ⟨(blk_cell (blk_alloc BK1140.out _) 0).trans rfl, (blk_cell (blk_alloc BK1140.out _) 1).trans rfl, (blk_cell (blk_alloc BK1140.out _) 2).trans rfl⟩ (fun hHeld => ?_)
      clear hK K
      refine norm_ (a' := ?_) ?_ ?_
      rotate_left
      ·show Act.put _ (some 49) _ = _
       simp only [Act.put, List.setIfInBounds_toArray, List.set_cons_zero, List.set_cons_succ, i64_w, i32_w]
       rfl
      refine onA (i := 5) (N := some 50) HT_.out (fun K hK => ?_)
      refine Kd.R_append_step (Kd.int .i64) w.heap.size (by rfl) (.tmp 46) (.tmp 49) 22 3 (.int .i64 0) 8 rfl Try.underlying22 info3 rfl (by decide) (by omega) (.slice Ao84 t1132.length co84) t1132 t1167 [.int .i64 t1167] (fun _ => True) (fun _ => False) rfl rfl ?aP (fun _ hk => hk.elim) ?aF ?aO (Below.refl _ _) ?aS ?aL ?_
      (case aP => exact rfl)
      (case aF => exact (fun _ _ => trivial))
      (case aO => exact (rk HO1134.out))
      (case aS => exact (keep_size (w := w) (g := g) (row := none) (kp HK.out)))
      (case aL => have := LMc77.out; omega)
      intro v1171 w90 ho hb hg hat
      rw [← Ny1170.out] at ho
      replace HI0 := Aside0.mk (IsS104.grown (is104 HI0.out) hg (IsS104.own_ne HI0.out HO1134.out (by decide)))
      replace BK1130 := Aside0.mk (blk_grown (g := gb1130) (o := .cells #[.int .i64 0, .slice none 0 0, .slice none 0 0] 30 (0, 0)) (bk BK1130.out) hg (Kd.R_ne HO1134.out BK1130.out (by decide)))
      replace HO1137 := Aside0.mk (Kd.R_over' (rk HO1137.out) (Kd.R_typed (rk HO1134.out)) (by decide) hg)
      replace BK1140 := Aside0.mk (blk_grown (g := gb1140) (o := .cells #[.int .i64 t1131, .slice Ao84 t1132.length co84, .slice Ao85 t1135.length co85] 30 (0, 0)) (bk BK1140.out) hg (Kd.R_ne HO1134.out BK1140.out (by decide)))
      replace HB := Aside0.mk (below_weaken (bl104 HB.out) HL.out hb)
      replace HK := Aside0.mk (KeepBut.trans (kp HK.out) (KeepBut.of_grown hg g) (Kd.R_base2 HO1134.out))
      have HO1172 := Aside0.mk (ho)
      clear HO1134
      clear ho hb hg hat
      obtain ⟨Ao91, co91, eo91⟩ := Kd.R_slice HO1172.out
      (first | subst eo91 | (injection eo91 with f1_ f2_ f3_; have f4_ := f1_.symm; have f5_ := f3_.symm; clear f1_ f2_ f3_; subst f4_; subst f5_))
      refine hK.out _ _ ⟨(blk_cell BK1140.out 0).trans rfl, (blk_cell BK1140.out 1).trans rfl, (blk_cell BK1140.out 2).trans rfl⟩ (fun hHeld => ?_)
      clear hK K
      refine norm_ (a' := ?_) ?_ ?_
      rotate_left
      ·show Act.put _ (some 50) _ = _
       simp only [Act.put, List.setIfInBounds_toArray, List.set_cons_zero, List.set_cons_succ, i64_w, i32_w]
       rfl
      refine puA (i := 6) (N := some 51) HT_.out ?_
      refine last_ (i := 7) (N := none) #[true, true, true, true, true, true, true, true] rfl rfl (one_of HT_.out (by kernel_rfl)) (by decide) (fun K hK => ?_)
      have hs92 : w90.cell? ⟨gb1140, 1, none⟩ = some (.slice Ao84 t1132.length co84) := (blk_cell BK1140.out 1).trans rfl
      have hfs92 := blk_frozen BK1140.out 1
      have hns92_0 := NB1130_1140.out
      have hms92_0 := NB1140_1130.out
      refine skip_ (w1 := ?_) (by rfl) rfl ?_ ?_
      rotate_left
      ·go_simp
       rfl
      refine hK.out _ _ ?_
      clear hK K
      refine done_ (done_of HT_.out (by kernel_rfl)) ?_
      obtain ⟨hcz93_0, hcz93_1, hcz93_2, hfz93_0, hfz93_1, hfz93_2⟩ := cz3 BK1140.out
      have hnb94 := NB1130_0.out
      have hnc94 := NB0_1130.out
      obtain ⟨hcz95_0, hcz95_1, hcz95_2, hfz95_0, hfz95_1, hfz95_2⟩ := cz3 BK1130.out
      try go_wp2
      refine bodyPost_ret (results_cell_row rfl _ _ gb1130 30 #[.int .i64 t1131, .slice Ao91 y1170.length co91, .slice Ao85 t1135.length co85] (0, 0) _ rfl (by refine bk ?_; refine blk_put (cs := #[.int .i64 t1131, .slice Ao91 y1170.length co91, .slice none 0 0]) ?_ 2 _ rfl; refine bk ?_; refine blk_put (cs := #[.int .i64 t1131, .slice none 0 0, .slice none 0 0]) ?_ 1 _ rfl; refine bk ?_; refine blk_put (cs := #[.int .i64 0, .slice none 0 0, .slice none 0 0]) ?_ 0 _ rfl; refine bk ?_; refine blk_far ?_ NB1130_1140.out _; refine bk ?_; exact BK1130.out) Try.underlying30 rfl (by kernel_rfl)) rfl ?_
      exact ⟨_, _, by first | rfl | (simp [errW_none, errW_some] <;> rfl) | (simp [*, errW_none, errW_some] <;> rfl), by refine rk ?_; exact Kd.R_mono (Kd.R_far (p := ⟨gb1130, 2, none⟩) (Kd.R_far (p := ⟨gb1130, 1, none⟩) (Kd.R_far (p := ⟨gb1130, 0, none⟩) (Kd.R_far (p := ⟨gb1140, 1, none⟩) (Kd.R_types (Kd.R_types HO1172.out BK1140.out (by decide)) BK1130.out (by decide)) (fun _ hk => hk.1.2) (.slice Ao91 y1170.length co91)) (fun _ hk => hk.2) (.int .i64 t1131)) (fun _ hk => hk.2) (.slice Ao91 y1170.length co91)) (fun _ hk => hk.2) (.slice Ao85 t1135.length co85)) (fun _ hk => trivial), by refine rk ?_; exact Kd.R_mono (Kd.R_far (p := ⟨gb1130, 2, none⟩) (Kd.R_far (p := ⟨gb1130, 1, none⟩) (Kd.R_far (p := ⟨gb1130, 0, none⟩) (Kd.R_far (p := ⟨gb1140, 1, none⟩) (Kd.R_types (Kd.R_types HO1137.out BK1140.out (by decide)) BK1130.out (by decide)) (fun _ hk => hk.1.2) (.slice Ao91 y1170.length co91)) (fun _ hk => hk.2) (.int .i64 t1131)) (fun _ hk => hk.2) (.slice Ao91 y1170.length co91)) (fun _ hk => hk.2) (.slice Ao85 t1135.length co85)) (fun _ hk => trivial), is104 HI0.out, bl104 HB.out, kp HK.out⟩
     ·rw [if_neg c77] at H
      exact absurd H (by simp)
    ·rw [if_neg c75] at H
     have c75b0 : (t1144 == 3) = false := beq_eq_false_iff_ne.mpr c75
     have c75b1 : (t1144 != 3) = true := bne_iff_ne.mpr c75
     by_cases c96 : t1144 = 4
     ·rw [if_pos c96] at H
      have c96b0 : (t1144 == 4) = true := beq_iff_eq.mpr c96
      have c96b1 : (t1144 != 4) = false := bne_eq_false_iff_eq.mpr c96
      clear c96
      simp only [Option.some.injEq, Prod.mk.injEq] at H
      obtain ⟨rfl, rfl, rfl, rfl, rfl⟩ := H
      go_enter Try.func82, Try.ntmps82
      go_wp2_with (first | ((with_reducible refine gate_dst (N := 2) rfl ?_); refine bx (cs := #[.int .i64 0, .slice none 0 0, .slice none 0 0]) (t := 30) fun gb1130 hg w97 hbox hb => ?_; replace HB := Aside0.mk (below_step (bl104 HB.out) hb); have BK1130 := Aside0.mk (hbox); have GW1130 := Aside0.mk ((ks HK.out hg)); have GE1130 := Aside0.mk ((Nat.le_trans HW0.out (ks HK.out hg) : w0.heap.size ≤ gb1130)); replace HK := Aside0.mk (KeepBut.trans (kp HK.out) (KeepBut.of_below hb g none) (.inl rfl)); have NB0_1130 := Aside0.mk ((by rw [hg]; exact Nat.ne_of_lt (IsS104.lt (show IsS104 w0 _ g s0_0 s0_1 s0_2 from is104 HI0.out)) : g ≠ gb1130)); have NB1130_0 := Aside0.mk ((by rw [hg]; exact Nat.ne_of_gt (IsS104.lt (show IsS104 w0 _ g s0_0 s0_1 s0_2 from is104 HI0.out)) : gb1130 ≠ g)); replace HI0 := Aside0.mk (IsS104.below (is104 HI0.out) hb); clear hb hbox hg) | ((with_reducible refine gate_callee (f := 96) rfl ?_); refine goesL_ (some 6) rfl rfl Try.func96 (by kernel_rfl) rfl #[.pointer (some ⟨g, 0, none⟩), .int .i64 1] rfl mapd ?_; (with_reducible refine (spec_l02Column.calls k g s0_0 s0_1 s0_2 1 t1131 t1132 t1135 t1138 t1139 w0 _ ?side1 ?side2 A2.out).mono ?_); (case side1 => exact is104 HI0.out); (case side2 => exact bl104 HB.out); rintro e w98 ⟨v1133, v1136, rfl, ho0, ho1, hi, hb, hk⟩; refine ⟨_, rfl, ?_⟩; replace BK1130 := Aside0.mk (KeepBut.blk hk (g' := gb1130) (o := .cells #[.int .i64 0, .slice none 0 0, .slice none 0 0] 30 (0, 0)) (bk BK1130.out) NB1130_0.out (by simp)); have HO1134 := Aside0.mk (Kd.R_lower ho0 (keep_size (w := w) (g := g) (row := none) (kp HK.out))); have HO1137 := Aside0.mk (Kd.R_lower ho1 (keep_size (w := w) (g := g) (row := none) (kp HK.out))); replace HK := Aside0.mk (KeepBut.trans (kp HK.out) hk (.inl rfl)); replace HB := Aside0.mk (hb); replace HI0 := Aside0.mk (hi); (try clear hb); (try clear hb2); (try clear hk); (try clear hi); (try clear ho0); (try clear ho1)) | ((with_reducible refine gate_dst (N := 3) rfl ?_); refine bx (cs := #[.int .i64 0, .slice none 0 0, .slice none 0 0]) (t := 30) fun gb1140 hg w99 hbox hb => ?_; replace HO1134 := Aside0.mk (Kd.R_below (rk HO1134.out) hb); replace HO1137 := Aside0.mk (Kd.R_below (rk HO1137.out) hb); replace HB := Aside0.mk (below_step (bl104 HB.out) hb); have BK1140 := Aside0.mk (hbox); have GW1140 := Aside0.mk ((ks HK.out hg)); have GE1140 := Aside0.mk ((Nat.le_trans HW0.out (ks HK.out hg) : w0.heap.size ≤ gb1140)); replace HK := Aside0.mk (KeepBut.trans (kp HK.out) (KeepBut.of_below hb g none) (.inl rfl)); have NB1130_1140 := Aside0.mk ((nl BK1130.out hg)); have NB1140_1130 := Aside0.mk ((ng BK1130.out hg)); replace BK1130 := Aside0.mk (bb BK1130.out hb); have NB0_1140 := Aside0.mk ((by rw [hg]; exact Nat.ne_of_lt (IsS104.lt (show IsS104 w0 _ g s0_0 t1138 t1139 from is104 HI0.out)) : g ≠ gb1140)); have NB1140_0 := Aside0.mk ((by rw [hg]; exact Nat.ne_of_gt (IsS104.lt (show IsS104 w0 _ g s0_0 t1138 t1139 from is104 HI0.out)) : gb1140 ≠ g)); replace HI0 := Aside0.mk (IsS104.below (is104 HI0.out) hb); clear hb hbox hg; have hnb100 := NB1140_1130.out; have hnc100 := NB1130_1140.out; have hnb101 := NB1140_0.out; have hnc101 := NB0_1140.out; obtain ⟨hcz102_0, hcz102_1, hcz102_2, hfz102_0, hfz102_1, hfz102_2⟩ := cz3 BK1140.out; obtain ⟨Ao103, co103, eo103⟩ := Kd.R_slice HO1134.out; subst eo103; obtain ⟨Ao104, co104, eo104⟩ := Kd.R_slice HO1137.out; subst eo104) | ((with_reducible refine gate_callee (f := 97) rfl ?_); refine goesL_ (some 11) rfl rfl Try.func97 (by kernel_rfl) rfl #[.pointer (some ⟨g, 0, none⟩), .int .i64 (t1135.length : Int)] rfl mapd ?_; (with_reducible refine (spec_l01Below.calls g s0_0 t1138 t1139 (t1135.length : Int) t1141 t1142 t1143 w0 _ ?side1 ?side2 A3.out).mono ?_); (case side1 => exact is104 HI0.out); (case side2 => exact bl104 HB.out); rintro e w105 ⟨rfl, hi, hb, hk⟩; refine ⟨_, rfl, ?_⟩; replace BK1130 := Aside0.mk (KeepBut.blk hk (g' := gb1130) (o := .cells #[.int .i64 0, .slice none 0 0, .slice none 0 0] 30 (0, 0)) (bf BK1130.out) NB1130_0.out (by simp)); replace HO1134 := Aside0.mk (Kd.R_mono (Kd.R_keep (IsS104.apart (show IsS104 w0 _ g s0_0 t1138 t1139 from is104 HI0.out) (by refine rk ?_; exact (Kd.R_mono (Kd.R_far (p := ⟨gb1140, 2, none⟩) (Kd.R_far (p := ⟨gb1140, 1, none⟩) (Kd.R_far (p := ⟨gb1140, 0, none⟩) (Kd.R_types HO1134.out BK1140.out (by decide)) (fun _ hk => hk.2) (.int .i64 t1131)) (fun _ hk => hk.2) (.slice Ao103 t1132.length co103)) (fun _ hk => hk.2) (.slice Ao104 t1135.length co104)) (fun _ h_ => h_.1))) (by decide)) hk (fun _ h => h.2)) (fun _ h => h.1)); replace HO1137 := Aside0.mk (Kd.R_mono (Kd.R_keep (IsS104.apart (show IsS104 w0 _ g s0_0 t1138 t1139 from is104 HI0.out) (by refine rk ?_; exact (Kd.R_mono (Kd.R_far (p := ⟨gb1140, 2, none⟩) (Kd.R_far (p := ⟨gb1140, 1, none⟩) (Kd.R_far (p := ⟨gb1140, 0, none⟩) (Kd.R_types HO1137.out BK1140.out (by decide)) (fun _ hk => hk.2) (.int .i64 t1131)) (fun _ hk => hk.2) (.slice Ao103 t1132.length co103)) (fun _ hk => hk.2) (.slice Ao104 t1135.length co104)) (fun _ h_ => h_.1))) (by decide)) hk (fun _ h => h.2)) (fun _ h => h.1)); replace BK1140 := Aside0.mk (KeepBut.blk hk (g' := gb1140) (o := .cells #[.int .i64 t1131, .slice Ao103 t1132.length co103, .slice Ao104 t1135.length co104] 30 (0, 0)) (by refine bk ?_; refine blk_put (cs := #[.int .i64 t1131, .slice Ao103 t1132.length co103, .slice none 0 0]) ?_ 2 _ rfl; refine bk ?_; refine blk_put (cs := #[.int .i64 t1131, .slice none 0 0, .slice none 0 0]) ?_ 1 _ rfl; refine bk ?_; refine blk_put (cs := #[.int .i64 0, .slice none 0 0, .slice none 0 0]) ?_ 0 _ rfl; refine bk ?_; exact BK1140.out) NB1140_0.out (by simp)); replace HK := Aside0.mk (KeepBut.trans (kp HK.out) hk (.inl rfl)); replace HB := Aside0.mk (hb); replace HI0 := Aside0.mk (hi); (try clear hb); (try clear hb2); (try clear hk); (try clear hi)) | ((with_reducible refine gate_callee (f := 97) rfl ?_); refine goesL_ (some 13) rfl rfl Try.func97 (by kernel_rfl) rfl #[.pointer (some ⟨g, 0, none⟩), .int .i64 14] rfl mapd ?_; (with_reducible refine (spec_l01Below.calls g s0_0 t1142 t1143 14 t1144 t1145 t1146 w0 _ ?side1 ?side2 A4.out).mono ?_); (case side1 => exact is104 HI0.out); (case side2 => exact bl104 HB.out); rintro e w106 ⟨rfl, hi, hb, hk⟩; refine ⟨_, rfl, ?_⟩; replace BK1130 := Aside0.mk (KeepBut.blk hk (g' := gb1130) (o := .cells #[.int .i64 0, .slice none 0 0, .slice none 0 0] 30 (0, 0)) (bk BK1130.out) NB1130_0.out (by simp)); replace HO1134 := Aside0.mk (Kd.R_mono (Kd.R_keep (IsS104.apart (show IsS104 w0 _ g s0_0 t1142 t1143 from is104 HI0.out) (rk HO1134.out) (by decide)) hk (fun _ h => h.2)) (fun _ h => h.1)); replace HO1137 := Aside0.mk (Kd.R_mono (Kd.R_keep (IsS104.apart (show IsS104 w0 _ g s0_0 t1142 t1143 from is104 HI0.out) (rk HO1137.out) (by decide)) hk (fun _ h => h.2)) (fun _ h => h.1)); replace BK1140 := Aside0.mk (KeepBut.blk hk (g' := gb1140) (o := .cells #[.int .i64 t1131, .slice Ao103 t1132.length co103, .slice Ao104 t1135.length co104] 30 (0, 0)) (bk BK1140.out) NB1140_0.out (by simp)); replace HK := Aside0.mk (KeepBut.trans (kp HK.out) hk (.inl rfl)); replace HB := Aside0.mk (hb); replace HI0 := Aside0.mk (hi); (try clear hb); (try clear hb2); (try clear hk); (try clear hi); obtain ⟨hcz107_0, hcz107_1, hcz107_2, hfz107_0, hfz107_1, hfz107_2⟩ := cz3 BK1140.out; have hnb108 := NB1130_0.out; have hnc108 := NB0_1130.out; obtain ⟨hcz109_0, hcz109_1, hcz109_2, hfz109_0, hfz109_1, hfz109_2⟩ := cz3 BK1130.out))
      refine bodyPost_ret (results_cell_row rfl _ _ gb1130 30 #[.int .i64 t1131, .slice Ao103 t1132.length co103, .slice none 0 0] (0, 0) _ rfl (by refine bk ?_; refine blk_put (cs := #[.int .i64 t1131, .slice Ao103 t1132.length co103, .slice none 0 0]) ?_ 2 _ rfl; refine bk ?_; refine blk_put (cs := #[.int .i64 t1131, .slice none 0 0, .slice none 0 0]) ?_ 1 _ rfl; refine bk ?_; refine blk_put (cs := #[.int .i64 0, .slice none 0 0, .slice none 0 0]) ?_ 0 _ rfl; refine bk ?_; refine blk_far ?_ NB1130_1140.out _; refine bk ?_; exact BK1130.out) Try.underlying30 rfl (by kernel_rfl)) rfl ?_
      exact ⟨_, _, by first | rfl | (simp [errW_none, errW_some] <;> rfl) | (simp [*, errW_none, errW_some] <;> rfl), by refine rk ?_; exact Kd.R_mono (Kd.R_far (p := ⟨gb1130, 2, none⟩) (Kd.R_far (p := ⟨gb1130, 1, none⟩) (Kd.R_far (p := ⟨gb1130, 0, none⟩) (Kd.R_far (p := ⟨gb1140, 2, none⟩) (Kd.R_types (Kd.R_types HO1134.out BK1140.out (by decide)) BK1130.out (by decide)) (fun _ hk => hk.1.2) (.slice none 0 0)) (fun _ hk => hk.2) (.int .i64 t1131)) (fun _ hk => hk.2) (.slice Ao103 t1132.length co103)) (fun _ hk => hk.2) (.slice none 0 0)) (fun _ hk => trivial), by first | exact Kd.R_nil _ _ _ _ _ | exact Kd.N_nil _ _ _ _ _ | exact Kd.V_nil _ _ _ _ _ | exact Kd.Q_nil _ _ _ _ _ | exact Kd.S_nil _ _ _ _ _, is104 HI0.out, bl104 HB.out, kp HK.out⟩
     ·rw [if_neg c96] at H
      have c96b0 : (t1144 == 4) = false := beq_eq_false_iff_ne.mpr c96
      have c96b1 : (t1144 != 4) = true := bne_iff_ne.mpr c96
      simp only [Option.some.injEq, Prod.mk.injEq] at H
      obtain ⟨rfl, rfl, rfl, rfl, rfl⟩ := H
      go_enter Try.func82, Try.ntmps82
      go_wp2_with (first | ((with_reducible refine gate_dst (N := 2) rfl ?_); refine bx (cs := #[.int .i64 0, .slice none 0 0, .slice none 0 0]) (t := 30) fun gb1130 hg w110 hbox hb => ?_; replace HB := Aside0.mk (below_step (bl104 HB.out) hb); have BK1130 := Aside0.mk (hbox); have GW1130 := Aside0.mk ((ks HK.out hg)); have GE1130 := Aside0.mk ((Nat.le_trans HW0.out (ks HK.out hg) : w0.heap.size ≤ gb1130)); replace HK := Aside0.mk (KeepBut.trans (kp HK.out) (KeepBut.of_below hb g none) (.inl rfl)); have NB0_1130 := Aside0.mk ((by rw [hg]; exact Nat.ne_of_lt (IsS104.lt (show IsS104 w0 _ g s0_0 s0_1 s0_2 from is104 HI0.out)) : g ≠ gb1130)); have NB1130_0 := Aside0.mk ((by rw [hg]; exact Nat.ne_of_gt (IsS104.lt (show IsS104 w0 _ g s0_0 s0_1 s0_2 from is104 HI0.out)) : gb1130 ≠ g)); replace HI0 := Aside0.mk (IsS104.below (is104 HI0.out) hb); clear hb hbox hg) | ((with_reducible refine gate_callee (f := 96) rfl ?_); refine goesL_ (some 6) rfl rfl Try.func96 (by kernel_rfl) rfl #[.pointer (some ⟨g, 0, none⟩), .int .i64 1] rfl mapd ?_; (with_reducible refine (spec_l02Column.calls k g s0_0 s0_1 s0_2 1 t1131 t1132 t1135 t1138 t1139 w0 _ ?side1 ?side2 A2.out).mono ?_); (case side1 => exact is104 HI0.out); (case side2 => exact bl104 HB.out); rintro e w111 ⟨v1133, v1136, rfl, ho0, ho1, hi, hb, hk⟩; refine ⟨_, rfl, ?_⟩; replace BK1130 := Aside0.mk (KeepBut.blk hk (g' := gb1130) (o := .cells #[.int .i64 0, .slice none 0 0, .slice none 0 0] 30 (0, 0)) (bk BK1130.out) NB1130_0.out (by simp)); have HO1134 := Aside0.mk (Kd.R_lower ho0 (keep_size (w := w) (g := g) (row := none) (kp HK.out))); have HO1137 := Aside0.mk (Kd.R_lower ho1 (keep_size (w := w) (g := g) (row := none) (kp HK.out))); replace HK := Aside0.mk (KeepBut.trans (kp HK.out) hk (.inl rfl)); replace HB := Aside0.mk (hb); replace HI0 := Aside0.mk (hi); (try clear hb); (try clear hb2); (try clear hk); (try clear hi); (try clear ho0); (try clear ho1)) | ((with_reducible refine gate_dst (N := 3) rfl ?_); refine bx (cs := #[.int .i64 0, .slice none 0 0, .slice none 0 0]) (t := 30) fun gb1140 hg w112 hbox hb => ?_; replace HO1134 := Aside0.mk (Kd.R_below (rk HO1134.out) hb); replace HO1137 := Aside0.mk (Kd.R_below (rk HO1137.out) hb); replace HB := Aside0.mk (below_step (bl104 HB.out) hb); have BK1140 := Aside0.mk (hbox); have GW1140 := Aside0.mk ((ks HK.out hg)); have GE1140 := Aside0.mk ((Nat.le_trans HW0.out (ks HK.out hg) : w0.heap.size ≤ gb1140)); replace HK := Aside0.mk (KeepBut.trans (kp HK.out) (KeepBut.of_below hb g none) (.inl rfl)); have NB1130_1140 := Aside0.mk ((nl BK1130.out hg)); have NB1140_1130 := Aside0.mk ((ng BK1130.out hg)); replace BK1130 := Aside0.mk (bb BK1130.out hb); have NB0_1140 := Aside0.mk ((by rw [hg]; exact Nat.ne_of_lt (IsS104.lt (show IsS104 w0 _ g s0_0 t1138 t1139 from is104 HI0.out)) : g ≠ gb1140)); have NB1140_0 := Aside0.mk ((by rw [hg]; exact Nat.ne_of_gt (IsS104.lt (show IsS104 w0 _ g s0_0 t1138 t1139 from is104 HI0.out)) : gb1140 ≠ g)); replace HI0 := Aside0.mk (IsS104.below (is104 HI0.out) hb); clear hb hbox hg; have hnb113 := NB1140_1130.out; have hnc113 := NB1130_1140.out; have hnb114 := NB1140_0.out; have hnc114 := NB0_1140.out; obtain ⟨hcz115_0, hcz115_1, hcz115_2, hfz115_0, hfz115_1, hfz115_2⟩ := cz3 BK1140.out; obtain ⟨Ao116, co116, eo116⟩ := Kd.R_slice HO1134.out; subst eo116; obtain ⟨Ao117, co117, eo117⟩ := Kd.R_slice HO1137.out; subst eo117) | ((with_reducible refine gate_callee (f := 97) rfl ?_); refine goesL_ (some 11) rfl rfl Try.func97 (by kernel_rfl) rfl #[.pointer (some ⟨g, 0, none⟩), .int .i64 (t1135.length : Int)] rfl mapd ?_; (with_reducible refine (spec_l01Below.calls g s0_0 t1138 t1139 (t1135.length : Int) t1141 t1142 t1143 w0 _ ?side1 ?side2 A3.out).mono ?_); (case side1 => exact is104 HI0.out); (case side2 => exact bl104 HB.out); rintro e w118 ⟨rfl, hi, hb, hk⟩; refine ⟨_, rfl, ?_⟩; replace BK1130 := Aside0.mk (KeepBut.blk hk (g' := gb1130) (o := .cells #[.int .i64 0, .slice none 0 0, .slice none 0 0] 30 (0, 0)) (bf BK1130.out) NB1130_0.out (by simp)); replace HO1134 := Aside0.mk (Kd.R_mono (Kd.R_keep (IsS104.apart (show IsS104 w0 _ g s0_0 t1138 t1139 from is104 HI0.out) (by refine rk ?_; exact (Kd.R_mono (Kd.R_far (p := ⟨gb1140, 2, none⟩) (Kd.R_far (p := ⟨gb1140, 1, none⟩) (Kd.R_far (p := ⟨gb1140, 0, none⟩) (Kd.R_types HO1134.out BK1140.out (by decide)) (fun _ hk => hk.2) (.int .i64 t1131)) (fun _ hk => hk.2) (.slice Ao116 t1132.length co116)) (fun _ hk => hk.2) (.slice Ao117 t1135.length co117)) (fun _ h_ => h_.1))) (by decide)) hk (fun _ h => h.2)) (fun _ h => h.1)); replace HO1137 := Aside0.mk (Kd.R_mono (Kd.R_keep (IsS104.apart (show IsS104 w0 _ g s0_0 t1138 t1139 from is104 HI0.out) (by refine rk ?_; exact (Kd.R_mono (Kd.R_far (p := ⟨gb1140, 2, none⟩) (Kd.R_far (p := ⟨gb1140, 1, none⟩) (Kd.R_far (p := ⟨gb1140, 0, none⟩) (Kd.R_types HO1137.out BK1140.out (by decide)) (fun _ hk => hk.2) (.int .i64 t1131)) (fun _ hk => hk.2) (.slice Ao116 t1132.length co116)) (fun _ hk => hk.2) (.slice Ao117 t1135.length co117)) (fun _ h_ => h_.1))) (by decide)) hk (fun _ h => h.2)) (fun _ h => h.1)); replace BK1140 := Aside0.mk (KeepBut.blk hk (g' := gb1140) (o := .cells #[.int .i64 t1131, .slice Ao116 t1132.length co116, .slice Ao117 t1135.length co117] 30 (0, 0)) (by refine bk ?_; refine blk_put (cs := #[.int .i64 t1131, .slice Ao116 t1132.length co116, .slice none 0 0]) ?_ 2 _ rfl; refine bk ?_; refine blk_put (cs := #[.int .i64 t1131, .slice none 0 0, .slice none 0 0]) ?_ 1 _ rfl; refine bk ?_; refine blk_put (cs := #[.int .i64 0, .slice none 0 0, .slice none 0 0]) ?_ 0 _ rfl; refine bk ?_; exact BK1140.out) NB1140_0.out (by simp)); replace HK := Aside0.mk (KeepBut.trans (kp HK.out) hk (.inl rfl)); replace HB := Aside0.mk (hb); replace HI0 := Aside0.mk (hi); (try clear hb); (try clear hb2); (try clear hk); (try clear hi)) | ((with_reducible refine gate_callee (f := 97) rfl ?_); refine goesL_ (some 13) rfl rfl Try.func97 (by kernel_rfl) rfl #[.pointer (some ⟨g, 0, none⟩), .int .i64 14] rfl mapd ?_; (with_reducible refine (spec_l01Below.calls g s0_0 t1142 t1143 14 t1144 t1145 t1146 w0 _ ?side1 ?side2 A4.out).mono ?_); (case side1 => exact is104 HI0.out); (case side2 => exact bl104 HB.out); rintro e w119 ⟨rfl, hi, hb, hk⟩; refine ⟨_, rfl, ?_⟩; replace BK1130 := Aside0.mk (KeepBut.blk hk (g' := gb1130) (o := .cells #[.int .i64 0, .slice none 0 0, .slice none 0 0] 30 (0, 0)) (bk BK1130.out) NB1130_0.out (by simp)); replace HO1134 := Aside0.mk (Kd.R_mono (Kd.R_keep (IsS104.apart (show IsS104 w0 _ g s0_0 t1142 t1143 from is104 HI0.out) (rk HO1134.out) (by decide)) hk (fun _ h => h.2)) (fun _ h => h.1)); replace HO1137 := Aside0.mk (Kd.R_mono (Kd.R_keep (IsS104.apart (show IsS104 w0 _ g s0_0 t1142 t1143 from is104 HI0.out) (rk HO1137.out) (by decide)) hk (fun _ h => h.2)) (fun _ h => h.1)); replace BK1140 := Aside0.mk (KeepBut.blk hk (g' := gb1140) (o := .cells #[.int .i64 t1131, .slice Ao116 t1132.length co116, .slice Ao117 t1135.length co117] 30 (0, 0)) (bk BK1140.out) NB1140_0.out (by simp)); replace HK := Aside0.mk (KeepBut.trans (kp HK.out) hk (.inl rfl)); replace HB := Aside0.mk (hb); replace HI0 := Aside0.mk (hi); (try clear hb); (try clear hb2); (try clear hk); (try clear hi); obtain ⟨hcz120_0, hcz120_1, hcz120_2, hfz120_0, hfz120_1, hfz120_2⟩ := cz3 BK1140.out; have hnb121 := NB1130_0.out; have hnc121 := NB0_1130.out; obtain ⟨hcz122_0, hcz122_1, hcz122_2, hfz122_0, hfz122_1, hfz122_2⟩ := cz3 BK1130.out))
      refine bodyPost_ret (results_cell_row rfl _ _ gb1130 30 #[.int .i64 t1131, .slice Ao116 t1132.length co116, .slice Ao117 t1135.length co117] (0, 0) _ rfl (by refine bk ?_; refine blk_put (cs := #[.int .i64 t1131, .slice Ao116 t1132.length co116, .slice none 0 0]) ?_ 2 _ rfl; refine bk ?_; refine blk_put (cs := #[.int .i64 t1131, .slice none 0 0, .slice none 0 0]) ?_ 1 _ rfl; refine bk ?_; refine blk_put (cs := #[.int .i64 0, .slice none 0 0, .slice none 0 0]) ?_ 0 _ rfl; refine bk ?_; exact BK1130.out) Try.underlying30 rfl (by kernel_rfl)) rfl ?_
      exact ⟨_, _, by first | rfl | (simp [errW_none, errW_some] <;> rfl) | (simp [*, errW_none, errW_some] <;> rfl), by refine rk ?_; exact Kd.R_mono (Kd.R_far (p := ⟨gb1130, 2, none⟩) (Kd.R_far (p := ⟨gb1130, 1, none⟩) (Kd.R_far (p := ⟨gb1130, 0, none⟩) (Kd.R_types HO1134.out BK1130.out (by decide)) (fun _ hk => hk.2) (.int .i64 t1131)) (fun _ hk => hk.2) (.slice Ao116 t1132.length co116)) (fun _ hk => hk.2) (.slice Ao117 t1135.length co117)) (fun _ hk => trivial), by refine rk ?_; exact Kd.R_mono (Kd.R_far (p := ⟨gb1130, 2, none⟩) (Kd.R_far (p := ⟨gb1130, 1, none⟩) (Kd.R_far (p := ⟨gb1130, 0, none⟩) (Kd.R_types HO1137.out BK1130.out (by decide)) (fun _ hk => hk.2) (.int .i64 t1131)) (fun _ hk => hk.2) (.slice Ao116 t1132.length co116)) (fun _ hk => hk.2) (.slice Ao117 t1135.length co117)) (fun _ hk => trivial), is104 HI0.out, bl104 HB.out, kp HK.out⟩
end Go.Proofs.Ytghfeapncmlihaa.A
