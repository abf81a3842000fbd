/- Used by the law FnBoxes. -/
import Derived.Test.YtbpjidekjogfeaaZFnBoxesx16
import Derived.Test.YtbpjidekjogfeaaZFnBoxesx20
import Derived.Test.YtbpjidekjogfeaaZFnBoxesx23
import Derived.Test.YtbpjidekjogfeaaZFnBoxesh
namespace Go.Proofs.Ytbpjidekjogfeaa.A
open Go.RowKit Go.Proofs.YtbpjidekjogfeaaW.PrintWords Go.Proofs.YtbpjidekjogfeaaW.PrintLast Go.Proofs.YtbpjidekjogfeaaW.PrintMore
attribute [local go_sem] max2_int min2_int max_two min_two max_three min_three max_four min_four   
set_option linter.unusedVariables false
set_option linter.unusedSimpArgs false
def spec_l02AnyColumn.f (k : Nat) (s0_0 : List Int) (s0_1 : Int) (s0_2 : Int) : Option (Int × List Int × (List (S98)) × Int × Int) := (spec_l02Column.f k s0_0 s0_1 s0_2 1).bind fun bt625 => ((spec_l01Below.f s0_0 bt625.2.2.2.1 bt625.2.2.2.2 (bt625.2.2.1.length : Int)).bind fun bt635 => ((spec_l01Below.f s0_0 bt635.2.1 bt635.2.2 14).bind fun bt638 => (if bt638.1 = 0 then ((spec_l01PickInt.f s0_0 bt638.2.1 bt638.2.2 (([0, 24, 25, wrap64 (bt625.1 + 1)] : List Int))).bind fun bt644 => (some (bt644.1, bt625.2.1, bt625.2.2.1, bt644.2.1, bt644.2.2))) else (if bt638.1 = 1 then ((spec_l01PickInt.f s0_0 bt638.2.1 bt638.2.2 (([(-1), 0, 1, 9223372036854775807] : List Int))).bind fun bt650 => (if 0 ≤ bt635.1 then (if bt635.1 < (bt625.2.2.1.length : Int) then (some (bt625.1, bt625.2.1, (bt625.2.2.1.set (bt635.1 : Int).toNat (⟨(rd_T98 bt625.2.2.1 bt635.1).f0, bt650.1, (rd_T98 bt625.2.2.1 bt635.1).f2, (rd_T98 bt625.2.2.1 bt635.1).f3⟩ : S98)), bt650.2.1, bt650.2.2)) else (none)) else (none))) else (if bt638.1 = 2 then ((spec_l01PickInt.f s0_0 bt638.2.1 bt638.2.2 (([(-1), 1, 999, 1000] : List Int))).bind fun bt657 => (if 0 ≤ bt635.1 then (if bt635.1 < (bt625.2.2.1.length : Int) then (some (bt625.1, bt625.2.1, (bt625.2.2.1.set (bt635.1 : Int).toNat (⟨(rd_T98 bt625.2.2.1 bt635.1).f0, (rd_T98 bt625.2.2.1 bt635.1).f1, bt657.1, (rd_T98 bt625.2.2.1 bt635.1).f3⟩ : S98)), bt657.2.1, bt657.2.2)) else (none)) else (none))) else (if bt638.1 = 3 then ((spec_l01Below.f s0_0 bt638.2.1 bt638.2.2 14).bind fun bt661 => (if bt625.2.1.length < 17592186044416 then (some (bt625.1, (bt625.2.1 ++ [bt661.1]), bt625.2.2.1, bt661.2.1, bt661.2.2)) else (none))) else (if bt638.1 = 4 then (some (bt625.1, bt625.2.1, ([] : List (S98)), bt638.2.1, bt638.2.2)) else (some (bt625.1, bt625.2.1, bt625.2.2.1, bt638.2.1, bt638.2.2)))))))))
def spec_l02AnyColumn.T7 : Bool × List (List Nat × List Nat) := (true, [([], []), ([0], [0]), ([], []), ([], []), ([], []), ([3, 4], [3, 4]), ([1, 2, 0, 1, 2, 3, 4, 5], [1, 2]), ([6, 0, 1, 2, 3, 4, 5], [6]), ([7, 5, 5, 0, 1, 2, 3, 4, 5], [5, 7])])
def spec_l02AnyColumn.B7 : List Nat := [0, 1, 0, 0, 0, 24, 63, 127, 255]
theorem spec_l02AnyColumn.tab7 : rtab .any (opsOf Try.f76 7) = spec_l02AnyColumn.T7 := by kernel_rfl
theorem spec_l02AnyColumn.bits7 : waitsOk spec_l02AnyColumn.T7.2 spec_l02AnyColumn.B7 = true := by kernel_rfl
def spec_l02AnyColumn.T9 : Bool × List (List Nat × List Nat) := (true, [([], []), ([0], [0]), ([], []), ([], []), ([], []), ([3, 4], [3, 4]), ([1, 2, 0, 1, 2, 3, 4, 5], [1, 2]), ([6, 0, 1, 2, 3, 4, 5], [6]), ([7, 5, 5, 0, 1, 2, 3, 4, 5], [5, 7])])
def spec_l02AnyColumn.B9 : List Nat := [0, 1, 0, 0, 0, 24, 63, 127, 255]
theorem spec_l02AnyColumn.tab9 : rtab .any (opsOf Try.f76 9) = spec_l02AnyColumn.T9 := by kernel_rfl
theorem spec_l02AnyColumn.bits9 : waitsOk spec_l02AnyColumn.T9.2 spec_l02AnyColumn.B9 = true := by kernel_rfl
def spec_l02AnyColumn.T11 : Bool × List (List Nat × List Nat) := (true, [([], []), ([0], [0]), ([], []), ([2], [2]), ([3], [3]), ([1, 4, 3], [1, 4]), ([0, 1, 2, 3, 4, 5], []), ([6, 5, 5, 0, 1, 2, 3, 4, 5], [5, 6])])
def spec_l02AnyColumn.B11 : List Nat := [0, 1, 0, 4, 12, 31, 63, 127]
theorem spec_l02AnyColumn.tab11 : rtab .any (opsOf Try.f76 11) = spec_l02AnyColumn.T11 := by kernel_rfl
theorem spec_l02AnyColumn.bits11 : waitsOk spec_l02AnyColumn.T11.2 spec_l02AnyColumn.B11 = true := by kernel_rfl
set_option maxHeartbeats 8000000 in
set_option maxRecDepth 100000 in
theorem spec_l02AnyColumn.calls (k : Nat) (g : Nat) (s0_0 : List Int) (s0_1 : Int) (s0_2 : Int) (r1 : Int) (r2 : List Int) (r3 : List (S98)) (r4 : Int) (r5 : Int) (w0 w : World) (hI : IsS116 w0 w g s0_0 s0_1 s0_2) (hB : Below w0.heap.size w0 w) (h : spec_l02AnyColumn.f k s0_0 s0_1 s0_2 = some (r1, r2, r3, r4, r5)) :
  Calls Try.prog 76 #[.pointer (some ⟨g, 0, none⟩)] w fun e w' => ∃ v1_ v2_ : Value, e = .returned (.agg #[.int .i64 r1, v1_, v2_]) ∧ Kd.R (Kd.int .i64) 3 w' w.heap.size (fun _ => True) v1_ r2 ∧ Kd.R k98 98 w' w.heap.size (fun _ => True) v2_ r3 ∧ IsS116 w0 w' g s0_0 r4 r5 ∧ Below w0.heap.size w0 w' ∧ KeepBut w w' g none := by
 have hu41 := Try.underlying41
 have HI0 := Aside0.mk hI
 have HK := Aside0.mk (KeepBut.refl w g none)
 have HL := Aside0.mk hB.size
 clear hI
 have HW0 := Aside0.mk hB.size
 have HB := Aside0.mk hB
 clear hB
 have H : ((spec_l02Column.f k s0_0 s0_1 s0_2 1).bind fun bt625 => ((spec_l01Below.f s0_0 bt625.2.2.2.1 bt625.2.2.2.2 (bt625.2.2.1.length : Int)).bind fun bt635 => ((spec_l01Below.f s0_0 bt635.2.1 bt635.2.2 14).bind fun bt638 => (if bt638.1 = 0 then ((spec_l01PickInt.f s0_0 bt638.2.1 bt638.2.2 (([0, 24, 25, wrap64 (bt625.1 + 1)] : List Int))).bind fun bt644 => (some (bt644.1, bt625.2.1, bt625.2.2.1, bt644.2.1, bt644.2.2))) else (if bt638.1 = 1 then ((spec_l01PickInt.f s0_0 bt638.2.1 bt638.2.2 (([(-1), 0, 1, 9223372036854775807] : List Int))).bind fun bt650 => (if 0 ≤ bt635.1 then (if bt635.1 < (bt625.2.2.1.length : Int) then (some (bt625.1, bt625.2.1, (bt625.2.2.1.set (bt635.1 : Int).toNat (⟨(rd_T98 bt625.2.2.1 bt635.1).f0, bt650.1, (rd_T98 bt625.2.2.1 bt635.1).f2, (rd_T98 bt625.2.2.1 bt635.1).f3⟩ : S98)), bt650.2.1, bt650.2.2)) else (none)) else (none))) else (if bt638.1 = 2 then ((spec_l01PickInt.f s0_0 bt638.2.1 bt638.2.2 (([(-1), 1, 999, 1000] : List Int))).bind fun bt657 => (if 0 ≤ bt635.1 then (if bt635.1 < (bt625.2.2.1.length : Int) then (some (bt625.1, bt625.2.1, (bt625.2.2.1.set (bt635.1 : Int).toNat (⟨(rd_T98 bt625.2.2.1 bt635.1).f0, (rd_T98 bt625.2.2.1 bt635.1).f1, bt657.1, (rd_T98 bt625.2.2.1 bt635.1).f3⟩ : S98)), bt657.2.1, bt657.2.2)) else (none)) else (none))) else (if bt638.1 = 3 then ((spec_l01Below.f s0_0 bt638.2.1 bt638.2.2 14).bind fun bt661 => (if bt625.2.1.length < 17592186044416 then (some (bt625.1, (bt625.2.1 ++ [bt661.1]), bt625.2.2.1, bt661.2.1, bt661.2.2)) else (none))) else (if bt638.1 = 4 then (some (bt625.1, bt625.2.1, ([] : List (S98)), bt638.2.1, bt638.2.2)) else (some (bt625.1, bt625.2.1, bt625.2.2.1, bt638.2.1, bt638.2.2)))))))))) = some (r1, r2, r3, r4, r5) := h
 clear h
 replace H := Option.bind_eq_some_iff.mp H
 obtain ⟨⟨t625, t626, t629, t632, t633⟩, A20, H⟩ := H
 try dsimp only at H
 have A2 := Aside0.mk A20
 clear A20
 replace H := Option.bind_eq_some_iff.mp H
 obtain ⟨⟨t635, t636, t637⟩, A30, H⟩ := H
 try dsimp only at H
 have A3 := Aside0.mk A30
 clear A30
 replace H := Option.bind_eq_some_iff.mp H
 obtain ⟨⟨t638, t639, t640⟩, A40, H⟩ := H
 try dsimp only at H
 have A4 := Aside0.mk A40
 clear A40
 by_cases c5 : t638 = 0
 ·rw [if_pos c5] at H
  have c5b0 : (t638 == 0) = true := beq_iff_eq.mpr c5
  have c5b1 : (t638 != 0) = false := bne_eq_false_iff_eq.mpr c5
  clear c5
  obtain ⟨y641, hy641⟩ : ∃ y_ : List Int, y_ = (([0, 24, 25, wrap64 (t625 + 1)] : List Int)) := ⟨_, rfl⟩
  replace H : ((spec_l01PickInt.f s0_0 t639 t640 y641).bind fun bt644 => (some (bt644.1, t626, t629, bt644.2.1, bt644.2.2))) = some (r1, r2, r3, r4, r5) := by first | (rw [hy641]; with_reducible exact H) | (have H2_ := (Option.bind_some _ _).symm.trans H; rw [hy641]; with_reducible exact H2_) | (have H2_ := (Option.bind_some _ _).symm.trans H; with_reducible exact H2_) | with_reducible exact H | (rw [hy641]; exact H) | exact H
  have Ny641 := Aside0.mk hy641
  clear hy641
  replace H := Option.bind_eq_some_iff.mp H
  obtain ⟨⟨t644, t645, t646⟩, A60, H⟩ := H
  try dsimp only at H
  have A6 := Aside0.mk A60
  clear A60
  simp only [Option.some.injEq, Prod.mk.injEq] at H
  obtain ⟨rfl, rfl, rfl, rfl, rfl⟩ := H
  go_enter Try.func76, Try.ntmps76
  go_wp2_with (first | ((with_reducible refine gate_dst (N := 2) rfl ?_); refine bx (cs := #[.int .i64 0, .slice none 0 0, .slice none 0 0]) (t := 41) fun gb624 hg w7 hbox hb => ?_; replace HB := Aside0.mk (below_step (bl116 HB.out) hb); have BK624 := Aside0.mk (hbox); have GW624 := Aside0.mk ((ks HK.out hg)); have GE624 := Aside0.mk ((Nat.le_trans HW0.out (ks HK.out hg) : w0.heap.size ≤ gb624)); replace HK := Aside0.mk (KeepBut.trans (kp HK.out) (KeepBut.of_below hb g none) (.inl rfl)); have NB0_624 := Aside0.mk ((by rw [hg]; exact Nat.ne_of_lt (IsS116.lt (show IsS116 w0 _ g s0_0 s0_1 s0_2 from is116 HI0.out)) : g ≠ gb624)); have NB624_0 := Aside0.mk ((by rw [hg]; exact Nat.ne_of_gt (IsS116.lt (show IsS116 w0 _ g s0_0 s0_1 s0_2 from is116 HI0.out)) : gb624 ≠ g)); replace HI0 := Aside0.mk (IsS116.below (is116 HI0.out) hb); clear hb hbox hg) | ((with_reducible refine gate_callee (f := 112) rfl ?_); refine goesL_ (some 6) rfl rfl Try.func112 (by kernel_rfl) rfl #[.pointer (some ⟨g, 0, none⟩), .int .i64 1] rfl mapd ?_; (with_reducible refine (spec_l02Column.calls k g s0_0 s0_1 s0_2 1 t625 t626 t629 t632 t633 w0 _ ?side1 ?side2 A2.out).mono ?_); (case side1 => exact is116 HI0.out); (case side2 => exact bl116 HB.out); rintro e w8 ⟨v627, v630, rfl, ho0, ho1, hi, hb, hk⟩; refine ⟨_, rfl, ?_⟩; replace BK624 := Aside0.mk (KeepBut.blk hk (g' := gb624) (o := .cells #[.int .i64 0, .slice none 0 0, .slice none 0 0] 41 (0, 0)) (bk BK624.out) NB624_0.out (by simp)); have HO628 := Aside0.mk (Kd.R_lower ho0 (keep_size (w := w) (g := g) (row := none) (kp HK.out))); have HO631 := Aside0.mk (Kd.R_lower ho1 (keep_size (w := w) (g := g) (row := none) (kp HK.out))); replace HK := Aside0.mk (KeepBut.trans (kp HK.out) hk (.inl rfl)); replace HB := Aside0.mk (hb); replace HI0 := Aside0.mk (hi); (try clear hb); (try clear hb2); (try clear hk); (try clear hi); (try clear ho0); (try clear ho1)) | ((with_reducible refine gate_dst (N := 3) rfl ?_); refine bx (cs := #[.int .i64 0, .slice none 0 0, .slice none 0 0]) (t := 41) fun gb634 hg w9 hbox hb => ?_; replace HO628 := Aside0.mk (Kd.R_below (rk HO628.out) hb); replace HO631 := Aside0.mk (Kd.R_below (rk HO631.out) hb); replace HB := Aside0.mk (below_step (bl116 HB.out) hb); have BK634 := Aside0.mk (hbox); have GW634 := Aside0.mk ((ks HK.out hg)); have GE634 := Aside0.mk ((Nat.le_trans HW0.out (ks HK.out hg) : w0.heap.size ≤ gb634)); replace HK := Aside0.mk (KeepBut.trans (kp HK.out) (KeepBut.of_below hb g none) (.inl rfl)); have NB624_634 := Aside0.mk ((nl BK624.out hg)); have NB634_624 := Aside0.mk ((ng BK624.out hg)); replace BK624 := Aside0.mk (bb BK624.out hb); have NB0_634 := Aside0.mk ((by rw [hg]; exact Nat.ne_of_lt (IsS116.lt (show IsS116 w0 _ g s0_0 t632 t633 from is116 HI0.out)) : g ≠ gb634)); have NB634_0 := Aside0.mk ((by rw [hg]; exact Nat.ne_of_gt (IsS116.lt (show IsS116 w0 _ g s0_0 t632 t633 from is116 HI0.out)) : gb634 ≠ g)); replace HI0 := Aside0.mk (IsS116.below (is116 HI0.out) hb); clear hb hbox hg; have hnb10 := NB634_624.out; have hnc10 := NB624_634.out; have hnb11 := NB634_0.out; have hnc11 := NB0_634.out; obtain ⟨hcz12_0, hcz12_1, hcz12_2, hfz12_0, hfz12_1, hfz12_2⟩ := cz3 BK634.out; obtain ⟨Ao13, co13, eo13⟩ := Kd.R_slice HO628.out; subst eo13; obtain ⟨Ao14, co14, eo14⟩ := Kd.R_slice HO631.out; subst eo14) | ((with_reducible refine gate_callee (f := 78) rfl ?_); refine goesL_ (some 11) rfl rfl Try.func78 (by kernel_rfl) rfl #[.pointer (some ⟨g, 0, none⟩), .int .i64 (t629.length : Int)] rfl mapd ?_; (with_reducible refine (spec_l01Below.calls g s0_0 t632 t633 (t629.length : Int) t635 t636 t637 w0 _ ?side1 ?side2 A3.out).mono ?_); (case side1 => exact is116 HI0.out); (case side2 => exact bl116 HB.out); rintro e w15 ⟨rfl, hi, hb, hk⟩; refine ⟨_, rfl, ?_⟩; replace BK624 := Aside0.mk (KeepBut.blk hk (g' := gb624) (o := .cells #[.int .i64 0, .slice none 0 0, .slice none 0 0] 41 (0, 0)) (bf BK624.out) NB624_0.out (by simp)); replace HO628 := Aside0.mk (Kd.R_mono (Kd.R_keep (IsS116.apart (show IsS116 w0 _ g s0_0 t632 t633 from is116 HI0.out) (by refine rk ?_; exact (Kd.R_mono (Kd.R_far (p := ⟨gb634, 2, none⟩) (Kd.R_far (p := ⟨gb634, 1, none⟩) (Kd.R_far (p := ⟨gb634, 0, none⟩) (Kd.R_types HO628.out BK634.out (by decide)) (fun _ hk => hk.2) (.int .i64 t625)) (fun _ hk => hk.2) (.slice Ao13 t626.length co13)) (fun _ hk => hk.2) (.slice Ao14 t629.length co14)) (fun _ h_ => h_.1))) (by decide)) hk (fun _ h => h.2)) (fun _ h => h.1)); replace HO631 := Aside0.mk (Kd.R_mono (Kd.R_keep (IsS116.apart (show IsS116 w0 _ g s0_0 t632 t633 from is116 HI0.out) (by refine rk ?_; exact (Kd.R_mono (Kd.R_far (p := ⟨gb634, 2, none⟩) (Kd.R_far (p := ⟨gb634, 1, none⟩) (Kd.R_far (p := ⟨gb634, 0, none⟩) (Kd.R_types HO631.out BK634.out (by decide)) (fun _ hk => hk.2) (.int .i64 t625)) (fun _ hk => hk.2) (.slice Ao13 t626.length co13)) (fun _ hk => hk.2) (.slice Ao14 t629.length co14)) (fun _ h_ => h_.1))) (by decide)) hk (fun _ h => h.2)) (fun _ h => h.1)); replace BK634 := Aside0.mk (KeepBut.blk hk (g' := gb634) (o := .cells #[.int .i64 t625, .slice Ao13 t626.length co13, .slice Ao14 t629.length co14] 41 (0, 0)) (by refine bk ?_; refine blk_put (cs := #[.int .i64 t625, .slice Ao13 t626.length co13, .slice none 0 0]) ?_ 2 _ rfl; refine bk ?_; refine blk_put (cs := #[.int .i64 t625, .slice none 0 0, .slice none 0 0]) ?_ 1 _ rfl; refine bk ?_; refine blk_put (cs := #[.int .i64 0, .slice none 0 0, .slice none 0 0]) ?_ 0 _ rfl; refine bk ?_; exact BK634.out) NB634_0.out (by simp)); replace HK := Aside0.mk (KeepBut.trans (kp HK.out) hk (.inl rfl)); replace HB := Aside0.mk (hb); replace HI0 := Aside0.mk (hi); (try clear hb); (try clear hb2); (try clear hk); (try clear hi)) | ((with_reducible refine gate_callee (f := 78) rfl ?_); refine goesL_ (some 13) rfl rfl Try.func78 (by kernel_rfl) rfl #[.pointer (some ⟨g, 0, none⟩), .int .i64 14] rfl mapd ?_; (with_reducible refine (spec_l01Below.calls g s0_0 t636 t637 14 t638 t639 t640 w0 _ ?side1 ?side2 A4.out).mono ?_); (case side1 => exact is116 HI0.out); (case side2 => exact bl116 HB.out); rintro e w16 ⟨rfl, hi, hb, hk⟩; refine ⟨_, rfl, ?_⟩; replace BK624 := Aside0.mk (KeepBut.blk hk (g' := gb624) (o := .cells #[.int .i64 0, .slice none 0 0, .slice none 0 0] 41 (0, 0)) (bk BK624.out) NB624_0.out (by simp)); replace HO628 := Aside0.mk (Kd.R_mono (Kd.R_keep (IsS116.apart (show IsS116 w0 _ g s0_0 t636 t637 from is116 HI0.out) (rk HO628.out) (by decide)) hk (fun _ h => h.2)) (fun _ h => h.1)); replace HO631 := Aside0.mk (Kd.R_mono (Kd.R_keep (IsS116.apart (show IsS116 w0 _ g s0_0 t636 t637 from is116 HI0.out) (rk HO631.out) (by decide)) hk (fun _ h => h.2)) (fun _ h => h.1)); replace BK634 := Aside0.mk (KeepBut.blk hk (g' := gb634) (o := .cells #[.int .i64 t625, .slice Ao13 t626.length co13, .slice Ao14 t629.length co14] 41 (0, 0)) (bk BK634.out) NB634_0.out (by simp)); replace HK := Aside0.mk (KeepBut.trans (kp HK.out) hk (.inl rfl)); replace HB := Aside0.mk (hb); replace HI0 := Aside0.mk (hi); (try clear hb); (try clear hb2); (try clear hk); (try clear hi); obtain ⟨hcz17_0, hcz17_1, hcz17_2, hfz17_0, hfz17_1, hfz17_2⟩ := cz3 BK634.out) | ((with_reducible refine gate_dst (N := 20) rfl ?_); refine Kd.R_lit (Kd.int .i64) _ 3 ?hg (N := 20) ?hd (xs := ([0, 24, 25, wrap64 (t625 + 1)] : List Int)) (inner := [.int .i64 0, .int .i64 24, .int .i64 25, .int .i64 (wrap64 (t625 + 1))]) (ok := fun _ => True) (okp := fun _ => True) ?hr ?hp (fun _ hk => hk) trivial (Below.refl _ _) (Nat.le_refl _) (by simp) ?_; (case hd => rfl); (case hg => rfl); (case hr => first | (go_simp; done) | (go_simp; rfl)); (case hp => exact (Reps.one (show Kd.M (Kd.int .i64) _ _ _ 0 [.int .i64 0] from rfl) (Reps.one (show Kd.M (Kd.int .i64) _ _ _ 24 [.int .i64 24] from rfl) (Reps.one (show Kd.M (Kd.int .i64) _ _ _ 25 [.int .i64 25] from rfl) (Reps.one (show Kd.M (Kd.int .i64) _ _ _ (wrap64 (t625 + 1)) [.int .i64 (wrap64 (t625 + 1))] from rfl) (Reps.none _ _)))))); intro v642 w18 ho19 hb hg_ hnew_; clear hg_ hnew_; (first | rw [← Ny641.out] at ho19 | (simp only [Int.reduceToNat] at ho19; rw [← Ny641.out] at ho19)); replace HO631 := Aside0.mk (Kd.R_below (rk HO631.out) hb); have HO643 := Aside0.mk (Kd.R_lower (Kd.R_new' ho19 (Kd.R_lt (rk HO628.out))) (keep_size (w := w) (g := g) (row := none) (kp HK.out))); replace HO628 := Aside0.mk (Kd.R_elder' (rk HO628.out) (Kd.R_base ho19) hb); replace HI0 := Aside0.mk (IsS116.below (is116 HI0.out) hb); replace BK624 := Aside0.mk (bb BK624.out hb); replace BK634 := Aside0.mk (bb BK634.out hb); replace HK := Aside0.mk (KeepBut.trans (kp HK.out) (KeepBut.of_below hb g none) (.inl rfl)); replace HB := Aside0.mk (below_step (bl116 HB.out) hb); clear hb ho19; obtain ⟨Ao20, co20, eo20⟩ := Kd.R_slice HO643.out; subst eo20) | ((with_reducible refine gate_callee (f := 77) rfl ?_); refine goesL_ (some 21) rfl rfl Try.func77 (by kernel_rfl) rfl #[.pointer (some ⟨g, 0, none⟩), .slice Ao20 y641.length co20] rfl mapd ?_; (with_reducible refine (spec_l01PickInt.calls g s0_0 t639 t640 _ _ y641 t644 t645 t646 w0 _ ?side1 ?side2 ?side3 ?side4 ?side5 A6.out).mono ?_); (case side1 => exact is116 HI0.out); (case side2 => exact bl116 HB.out); (case side3 => exact cb ((Kd.R_reads' HO643.out).2.2)); (case side4 => exact (Kd.R_reads' HO643.out).2.1); (case side5 => exact far_slice (IsS116.own_ne HI0.out HO643.out (by decide))); rintro e w21 ⟨rfl, hi, hb, hk⟩; refine ⟨_, rfl, ?_⟩; replace BK624 := Aside0.mk (KeepBut.blk hk (g' := gb624) (o := .cells #[.int .i64 0, .slice none 0 0, .slice none 0 0] 41 (0, 0)) (bk BK624.out) NB624_0.out (by simp)); replace HO628 := Aside0.mk (Kd.R_mono (Kd.R_keep (IsS116.apart (show IsS116 w0 _ g s0_0 t639 t640 from is116 HI0.out) (rk HO628.out) (by decide)) hk (fun _ h => h.2)) (fun _ h => h.1)); replace HO631 := Aside0.mk (Kd.R_mono (Kd.R_keep (IsS116.apart (show IsS116 w0 _ g s0_0 t639 t640 from is116 HI0.out) (rk HO631.out) (by decide)) hk (fun _ h => h.2)) (fun _ h => h.1)); replace BK634 := Aside0.mk (KeepBut.blk hk (g' := gb634) (o := .cells #[.int .i64 t625, .slice Ao13 t626.length co13, .slice Ao14 t629.length co14] 41 (0, 0)) (bk BK634.out) NB634_0.out (by simp)); replace HO643 := Aside0.mk (Kd.R_mono (Kd.R_keep (IsS116.apart (show IsS116 w0 _ g s0_0 t639 t640 from is116 HI0.out) (rk HO643.out) (by decide)) hk (fun _ h => h.2)) (fun _ h => h.1)); replace HK := Aside0.mk (KeepBut.trans (kp HK.out) hk (.inl rfl)); replace HB := Aside0.mk (hb); replace HI0 := Aside0.mk (hi); (try clear hb); (try clear hb2); (try clear hk); (try clear hi); obtain ⟨hcz22_0, hcz22_1, hcz22_2, hfz22_0, hfz22_1, hfz22_2⟩ := cz3 BK634.out; have hnb23 := NB624_0.out; have hnc23 := NB0_624.out; obtain ⟨hcz24_0, hcz24_1, hcz24_2, hfz24_0, hfz24_1, hfz24_2⟩ := cz3 BK624.out))
  refine bodyPost_ret (results_cell_row rfl _ _ gb624 41 #[.int .i64 t644, .slice Ao13 t626.length co13, .slice Ao14 t629.length co14] (0, 0) _ rfl (by refine bk ?_; refine blk_put (cs := #[.int .i64 t644, .slice Ao13 t626.length co13, .slice none 0 0]) ?_ 2 _ rfl; refine bk ?_; refine blk_put (cs := #[.int .i64 t644, .slice none 0 0, .slice none 0 0]) ?_ 1 _ rfl; refine bk ?_; refine blk_put (cs := #[.int .i64 0, .slice none 0 0, .slice none 0 0]) ?_ 0 _ rfl; refine bk ?_; refine blk_far ?_ NB624_634.out _; refine bk ?_; exact BK624.out) Try.underlying41 rfl (by kernel_rfl)) rfl ?_
  exact ⟨_, _, by first | rfl | (simp [errW_none, errW_some] <;> rfl) | (simp [*, errW_none, errW_some] <;> rfl), by refine rk ?_; exact Kd.R_mono (Kd.R_far (p := ⟨gb624, 2, none⟩) (Kd.R_far (p := ⟨gb624, 1, none⟩) (Kd.R_far (p := ⟨gb624, 0, none⟩) (Kd.R_far (p := ⟨gb634, 0, none⟩) (Kd.R_types (Kd.R_types HO628.out BK634.out (by decide)) BK624.out (by decide)) (fun _ hk => hk.1.2) (.int .i64 t644)) (fun _ hk => hk.2) (.int .i64 t644)) (fun _ hk => hk.2) (.slice Ao13 t626.length co13)) (fun _ hk => hk.2) (.slice Ao14 t629.length co14)) (fun _ hk => trivial), by refine rk ?_; exact Kd.R_mono (Kd.R_far (p := ⟨gb624, 2, none⟩) (Kd.R_far (p := ⟨gb624, 1, none⟩) (Kd.R_far (p := ⟨gb624, 0, none⟩) (Kd.R_far (p := ⟨gb634, 0, none⟩) (Kd.R_types (Kd.R_types HO631.out BK634.out (by decide)) BK624.out (by decide)) (fun _ hk => hk.1.2) (.int .i64 t644)) (fun _ hk => hk.2) (.int .i64 t644)) (fun _ hk => hk.2) (.slice Ao13 t626.length co13)) (fun _ hk => hk.2) (.slice Ao14 t629.length co14)) (fun _ hk => trivial), is116 HI0.out, bl116 HB.out, kp HK.out⟩
 ·rw [if_neg c5] at H
  have c5b0 : (t638 == 0) = false := beq_eq_false_iff_ne.mpr c5
  have c5b1 : (t638 != 0) = true := bne_iff_ne.mpr c5
  by_cases c25 : t638 = 1
  ·rw [if_pos c25] at H
   have c25b0 : (t638 == 1) = true := beq_iff_eq.mpr c25
   have c25b1 : (t638 != 1) = false := bne_eq_false_iff_eq.mpr c25
   clear c25
   obtain ⟨y647, hy647⟩ : ∃ y_ : List Int, y_ = (([(-1), 0, 1, 9223372036854775807] : List Int)) := ⟨_, rfl⟩
   replace H : ((spec_l01PickInt.f s0_0 t639 t640 y647).bind fun bt650 => (if 0 ≤ t635 then (if t635 < (t629.length : Int) then (some (t625, t626, (t629.set (t635 : Int).toNat (⟨(rd_T98 t629 t635).f0, bt650.1, (rd_T98 t629 t635).f2, (rd_T98 t629 t635).f3⟩ : S98)), bt650.2.1, bt650.2.2)) else (none)) else (none))) = some (r1, r2, r3, r4, r5) := by first | (rw [hy647]; with_reducible exact H) | (have H2_ := (Option.bind_some _ _).symm.trans H; rw [hy647]; with_reducible exact H2_) | (have H2_ := (Option.bind_some _ _).symm.trans H; with_reducible exact H2_) | with_reducible exact H | (rw [hy647]; exact H) | exact H
   have Ny647 := Aside0.mk hy647
   clear hy647
   replace H := Option.bind_eq_some_iff.mp H
   obtain ⟨⟨t650, t651, t652⟩, A260, H⟩ := H
   try dsimp only at H
   have A26 := Aside0.mk A260
   clear A260
   by_cases c27 : 0 ≤ t635
   ·rw [if_pos c27] at H
    have c27b0 : decide (0 ≤ t635) = true := decide_eq_true c27
    clear c27
    by_cases c28 : t635 < (t629.length : Int)
    ·rw [if_pos c28] at H
     have c28b0 : decide (t635 < (t629.length : Int)) = true := decide_eq_true c28
     clear c28
     obtain ⟨y653, hy653⟩ : ∃ y_ : List (S98), y_ = (t629.set (t635 : Int).toNat (⟨(rd_T98 t629 t635).f0, t650, (rd_T98 t629 t635).f2, (rd_T98 t629 t635).f3⟩ : S98)) := ⟨_, rfl⟩
     replace H : (some (t625, t626, y653, t651, t652)) = some (r1, r2, r3, r4, r5) := by first | (rw [hy653]; with_reducible exact H) | (have H2_ := (Option.bind_some _ _).symm.trans H; rw [hy653]; with_reducible exact H2_) | (have H2_ := (Option.bind_some _ _).symm.trans H; with_reducible exact H2_) | with_reducible exact H | (rw [hy653]; exact H) | exact H
     have Ny653 := Aside0.mk hy653
     clear hy653
     simp only [Option.some.injEq, Prod.mk.injEq] at H
     obtain ⟨rfl, rfl, rfl, rfl, rfl⟩ := H
     go_enter Try.func76, Try.ntmps76
     try go_wp2_with (first | ((with_reducible refine gate_dst (N := 2) rfl ?_); refine bx (cs := #[.int .i64 0, .slice none 0 0, .slice none 0 0]) (t := 41) fun gb624 hg w30 hbox hb => ?_; replace HB := Aside0.mk (below_step (bl116 HB.out) hb); have BK624 := Aside0.mk (hbox); have GW624 := Aside0.mk ((ks HK.out hg)); have GE624 := Aside0.mk ((Nat.le_trans HW0.out (ks HK.out hg) : w0.heap.size ≤ gb624)); replace HK := Aside0.mk (KeepBut.trans (kp HK.out) (KeepBut.of_below hb g none) (.inl rfl)); have NB0_624 := Aside0.mk ((by rw [hg]; exact Nat.ne_of_lt (IsS116.lt (show IsS116 w0 _ g s0_0 s0_1 s0_2 from is116 HI0.out)) : g ≠ gb624)); have NB624_0 := Aside0.mk ((by rw [hg]; exact Nat.ne_of_gt (IsS116.lt (show IsS116 w0 _ g s0_0 s0_1 s0_2 from is116 HI0.out)) : gb624 ≠ g)); replace HI0 := Aside0.mk (IsS116.below (is116 HI0.out) hb); clear hb hbox hg) | ((with_reducible refine gate_callee (f := 112) rfl ?_); refine goesL_ (some 6) rfl rfl Try.func112 (by kernel_rfl) rfl #[.pointer (some ⟨g, 0, none⟩), .int .i64 1] rfl mapd ?_; (with_reducible refine (spec_l02Column.calls k g s0_0 s0_1 s0_2 1 t625 t626 t629 t632 t633 w0 _ ?side1 ?side2 A2.out).mono ?_); (case side1 => exact is116 HI0.out); (case side2 => exact bl116 HB.out); rintro e w31 ⟨v627, v630, rfl, ho0, ho1, hi, hb, hk⟩; refine ⟨_, rfl, ?_⟩; replace BK624 := Aside0.mk (KeepBut.blk hk (g' := gb624) (o := .cells #[.int .i64 0, .slice none 0 0, .slice none 0 0] 41 (0, 0)) (bk BK624.out) NB624_0.out (by simp)); have HO628 := Aside0.mk (Kd.R_lower ho0 (keep_size (w := w) (g := g) (row := none) (kp HK.out))); have HO631 := Aside0.mk (Kd.R_lower ho1 (keep_size (w := w) (g := g) (row := none) (kp HK.out))); replace HK := Aside0.mk (KeepBut.trans (kp HK.out) hk (.inl rfl)); replace HB := Aside0.mk (hb); replace HI0 := Aside0.mk (hi); (try clear hb); (try clear hb2); (try clear hk); (try clear hi); (try clear ho0); (try clear ho1)) | ((with_reducible refine gate_dst (N := 3) rfl ?_); refine bx (cs := #[.int .i64 0, .slice none 0 0, .slice none 0 0]) (t := 41) fun gb634 hg w32 hbox hb => ?_; replace HO628 := Aside0.mk (Kd.R_below (rk HO628.out) hb); replace HO631 := Aside0.mk (Kd.R_below (rk HO631.out) hb); replace HB := Aside0.mk (below_step (bl116 HB.out) hb); have BK634 := Aside0.mk (hbox); have GW634 := Aside0.mk ((ks HK.out hg)); have GE634 := Aside0.mk ((Nat.le_trans HW0.out (ks HK.out hg) : w0.heap.size ≤ gb634)); replace HK := Aside0.mk (KeepBut.trans (kp HK.out) (KeepBut.of_below hb g none) (.inl rfl)); have NB624_634 := Aside0.mk ((nl BK624.out hg)); have NB634_624 := Aside0.mk ((ng BK624.out hg)); replace BK624 := Aside0.mk (bb BK624.out hb); have NB0_634 := Aside0.mk ((by rw [hg]; exact Nat.ne_of_lt (IsS116.lt (show IsS116 w0 _ g s0_0 t632 t633 from is116 HI0.out)) : g ≠ gb634)); have NB634_0 := Aside0.mk ((by rw [hg]; exact Nat.ne_of_gt (IsS116.lt (show IsS116 w0 _ g s0_0 t632 t633 from is116 HI0.out)) : gb634 ≠ g)); replace HI0 := Aside0.mk (IsS116.below (is116 HI0.out) hb); clear hb hbox hg; have hnb33 := NB634_624.out; have hnc33 := NB624_634.out; have hnb34 := NB634_0.out; have hnc34 := NB0_634.out; obtain ⟨hcz35_0, hcz35_1, hcz35_2, hfz35_0, hfz35_1, hfz35_2⟩ := cz3 BK634.out; obtain ⟨Ao36, co36, eo36⟩ := Kd.R_slice HO628.out; subst eo36; obtain ⟨Ao37, co37, eo37⟩ := Kd.R_slice HO631.out; subst eo37) | ((with_reducible refine gate_callee (f := 78) rfl ?_); refine goesL_ (some 11) rfl rfl Try.func78 (by kernel_rfl) rfl #[.pointer (some ⟨g, 0, none⟩), .int .i64 (t629.length : Int)] rfl mapd ?_; (with_reducible refine (spec_l01Below.calls g s0_0 t632 t633 (t629.length : Int) t635 t636 t637 w0 _ ?side1 ?side2 A3.out).mono ?_); (case side1 => exact is116 HI0.out); (case side2 => exact bl116 HB.out); rintro e w38 ⟨rfl, hi, hb, hk⟩; refine ⟨_, rfl, ?_⟩; replace BK624 := Aside0.mk (KeepBut.blk hk (g' := gb624) (o := .cells #[.int .i64 0, .slice none 0 0, .slice none 0 0] 41 (0, 0)) (bf BK624.out) NB624_0.out (by simp)); replace HO628 := Aside0.mk (Kd.R_mono (Kd.R_keep (IsS116.apart (show IsS116 w0 _ g s0_0 t632 t633 from is116 HI0.out) (by refine rk ?_; exact (Kd.R_mono (Kd.R_far (p := ⟨gb634, 2, none⟩) (Kd.R_far (p := ⟨gb634, 1, none⟩) (Kd.R_far (p := ⟨gb634, 0, none⟩) (Kd.R_types HO628.out BK634.out (by decide)) (fun _ hk => hk.2) (.int .i64 t625)) (fun _ hk => hk.2) (.slice Ao36 t626.length co36)) (fun _ hk => hk.2) (.slice Ao37 t629.length co37)) (fun _ h_ => h_.1))) (by decide)) hk (fun _ h => h.2)) (fun _ h => h.1)); replace HO631 := Aside0.mk (Kd.R_mono (Kd.R_keep (IsS116.apart (show IsS116 w0 _ g s0_0 t632 t633 from is116 HI0.out) (by refine rk ?_; exact (Kd.R_mono (Kd.R_far (p := ⟨gb634, 2, none⟩) (Kd.R_far (p := ⟨gb634, 1, none⟩) (Kd.R_far (p := ⟨gb634, 0, none⟩) (Kd.R_types HO631.out BK634.out (by decide)) (fun _ hk => hk.2) (.int .i64 t625)) (fun _ hk => hk.2) (.slice Ao36 t626.length co36)) (fun _ hk => hk.2) (.slice Ao37 t629.length co37)) (fun _ h_ => h_.1))) (by decide)) hk (fun _ h => h.2)) (fun _ h => h.1)); replace BK634 := Aside0.mk (KeepBut.blk hk (g' := gb634) (o := .cells #[.int .i64 t625, .slice Ao36 t626.length co36, .slice Ao37 t629.length co37] 41 (0, 0)) (by refine bk ?_; refine blk_put (cs := #[.int .i64 t625, .slice Ao36 t626.length co36, .slice none 0 0]) ?_ 2 _ rfl; refine bk ?_; refine blk_put (cs := #[.int .i64 t625, .slice none 0 0, .slice none 0 0]) ?_ 1 _ rfl; refine bk ?_; refine blk_put (cs := #[.int .i64 0, .slice none 0 0, .slice none 0 0]) ?_ 0 _ rfl; refine bk ?_; exact BK634.out) NB634_0.out (by simp)); replace HK := Aside0.mk (KeepBut.trans (kp HK.out) hk (.inl rfl)); replace HB := Aside0.mk (hb); replace HI0 := Aside0.mk (hi); (try clear hb); (try clear hb2); (try clear hk); (try clear hi)) | ((with_reducible refine gate_callee (f := 78) rfl ?_); refine goesL_ (some 13) rfl rfl Try.func78 (by kernel_rfl) rfl #[.pointer (some ⟨g, 0, none⟩), .int .i64 14] rfl mapd ?_; (with_reducible refine (spec_l01Below.calls g s0_0 t636 t637 14 t638 t639 t640 w0 _ ?side1 ?side2 A4.out).mono ?_); (case side1 => exact is116 HI0.out); (case side2 => exact bl116 HB.out); rintro e w39 ⟨rfl, hi, hb, hk⟩; refine ⟨_, rfl, ?_⟩; replace BK624 := Aside0.mk (KeepBut.blk hk (g' := gb624) (o := .cells #[.int .i64 0, .slice none 0 0, .slice none 0 0] 41 (0, 0)) (bk BK624.out) NB624_0.out (by simp)); replace HO628 := Aside0.mk (Kd.R_mono (Kd.R_keep (IsS116.apart (show IsS116 w0 _ g s0_0 t636 t637 from is116 HI0.out) (rk HO628.out) (by decide)) hk (fun _ h => h.2)) (fun _ h => h.1)); replace HO631 := Aside0.mk (Kd.R_mono (Kd.R_keep (IsS116.apart (show IsS116 w0 _ g s0_0 t636 t637 from is116 HI0.out) (rk HO631.out) (by decide)) hk (fun _ h => h.2)) (fun _ h => h.1)); replace BK634 := Aside0.mk (KeepBut.blk hk (g' := gb634) (o := .cells #[.int .i64 t625, .slice Ao36 t626.length co36, .slice Ao37 t629.length co37] 41 (0, 0)) (bk BK634.out) NB634_0.out (by simp)); replace HK := Aside0.mk (KeepBut.trans (kp HK.out) hk (.inl rfl)); replace HB := Aside0.mk (hb); replace HI0 := Aside0.mk (hi); (try clear hb); (try clear hb2); (try clear hk); (try clear hi)))
     replace HO628 := Aside0.mk (Kd.R_drew HO628.out)
     replace HO631 := Aside0.mk (Kd.R_drew HO631.out)
     replace BK624 := Aside0.mk (blk_drew BK624.out)
     replace BK634 := Aside0.mk (blk_drew BK634.out)
     replace HI0 := Aside0.mk (IsS116.drew HI0.out)
     replace HK := Aside0.mk (keep_drew HK.out)
     replace HB := Aside0.mk (below_drew1 HB.out)
     refine start_ (n := 9) (S := fun w' => w'.cell? ⟨gb634, 0, none⟩ = some (.int .i64 t625) ∧ w'.cell? ⟨gb634, 1, none⟩ = some (.slice Ao36 t626.length co36) ∧ w'.cell? ⟨gb634, 2, none⟩ = some (.slice Ao37 t629.length co37)) (ds := [8]) #[false, false, false, false, false, false, false, false, false] (by kernel_rfl) rfl rfl ⟨(blk_cell BK634.out 0).trans rfl, (blk_cell BK634.out 1).trans rfl, (blk_cell BK634.out 2).trans rfl⟩ (fun hHeld => ?_); refine with_tabW spec_l02AnyColumn.tab7 spec_l02AnyColumn.bits7 (fun HT_ HW_ => ?_)
     generalize w39.drew = w40 at HO628 HO631 BK624 BK634 HI0 HK HB hHeld ⊢
     refine puA (i := 0) (N := some 25) HT_.out ?_
     refine puA (i := 2) (N := some 27) HT_.out ?_
     refine puA (i := 3) (N := some 28) HT_.out ?_
     refine tkA3 (i := 1) (N := some 26) HT_.out HW_.out hHeld ?_
     refine onA (i := 4) (N := some 29) HT_.out (fun K hK => ?_)
     refine Kd.R_lit_step (Kd.int .i64) _ 3 ?hg (N := 29) ?hd (xs := ([(-1), 0, 1, 9223372036854775807] : List Int)) (inner := [.int .i64 (-1), .int .i64 0, .int .i64 1, .int .i64 9223372036854775807]) (ok := fun _ => True) (okp := fun _ => True) ?hr ?hp (fun _ hk => hk) trivial (Below.refl _ _) (Nat.le_refl _) (by simp) ?_; (case hd => rfl); (case hg => rfl); (case hr => first | (go_simp; done) | (go_simp; rfl)); (case hp => exact (Reps.one (show Kd.M (Kd.int .i64) _ _ _ (-1) [.int .i64 (-1)] from rfl) (Reps.one (show Kd.M (Kd.int .i64) _ _ _ 0 [.int .i64 0] from rfl) (Reps.one (show Kd.M (Kd.int .i64) _ _ _ 1 [.int .i64 1] from rfl) (Reps.one (show Kd.M (Kd.int .i64) _ _ _ 9223372036854775807 [.int .i64 9223372036854775807] from rfl) (Reps.none _ _))))))
     intro v648 w41 ho42 hb hg_ hnew_
     clear hg_ hnew_
     (first | rw [← Ny647.out] at ho42 | (simp only [Int.reduceToNat] at ho42; rw [← Ny647.out] at ho42))
     replace HO631 := Aside0.mk (Kd.R_below (rk HO631.out) hb)
     have HO649 := Aside0.mk (Kd.R_lower (Kd.R_new' ho42 (Kd.R_lt (rk HO628.out))) (keep_size (w := w) (g := g) (row := none) (kp HK.out)))
     replace HO628 := Aside0.mk (Kd.R_elder' (rk HO628.out) (Kd.R_base ho42) hb)
     replace HI0 := Aside0.mk (IsS116.below (is116 HI0.out) hb)
     replace BK624 := Aside0.mk (bb BK624.out hb)
     replace BK634 := Aside0.mk (bb BK634.out hb)
     replace HK := Aside0.mk (KeepBut.trans (kp HK.out) (KeepBut.of_below hb g none) (.inl rfl))
     replace HB := Aside0.mk (below_step (bl116 HB.out) hb)
     clear hb ho42
     obtain ⟨Ao43, co43, eo43⟩ := Kd.R_slice HO649.out
     (first | subst eo43 | (injection eo43 with f1_ f2_ f3_; have f4_ := f1_.symm; have f5_ := f3_.symm; clear f1_ f2_ f3_; subst f4_; subst f5_))
     refine hK.out _ _ ⟨(blk_cell BK634.out 0).trans rfl, (blk_cell BK634.out 1).trans rfl, (blk_cell BK634.out 2).trans rfl⟩ (fun hHeld => ?_)
     clear hK K
     refine norm_ (a' := ?_) ?_ ?_
     rotate_left
     ·show Act.put _ (some 29) _ = _
      simp only [Act.put, List.setIfInBounds_toArray, List.set_cons_zero, List.set_cons_succ, i64_w, i32_w]
      rfl
     refine onA (i := 5) (N := some 30) HT_.out (fun K hK => ?_)
     refine goes_ Try.func77 (by kernel_rfl) rfl #[.pointer (some ⟨g, 0, none⟩), .slice Ao43 y647.length co43] (by rfl) rfl rfl mapd ?_
     with_reducible refine (spec_l01PickInt.calls g s0_0 t639 t640 _ _ y647 t650 t651 t652 w0 _ ?side1 ?side2 ?side3 ?side4 ?side5 A26.out).mono ?_
     (case side1 => exact is116 HI0.out)
     (case side2 => exact bl116 HB.out)
     (case side3 => exact cb ((Kd.R_reads' HO649.out).2.2))
     (case side4 => exact (Kd.R_reads' HO649.out).2.1)
     (case side5 => exact far_slice (IsS116.own_ne HI0.out HO649.out (by decide)))
     rintro e w44 ⟨rfl, hi, hb, hk⟩
     refine ⟨_, rfl, ?_⟩
     replace BK624 := Aside0.mk (KeepBut.blk hk (g' := gb624) (o := .cells #[.int .i64 0, .slice none 0 0, .slice none 0 0] 41 (0, 0)) (bk BK624.out) NB624_0.out (by simp))
     replace HO628 := Aside0.mk (Kd.R_mono (Kd.R_keep (IsS116.apart (show IsS116 w0 _ g s0_0 t639 t640 from is116 HI0.out) (rk HO628.out) (by decide)) hk (fun _ h => h.2)) (fun _ h => h.1))
     replace HO631 := Aside0.mk (Kd.R_mono (Kd.R_keep (IsS116.apart (show IsS116 w0 _ g s0_0 t639 t640 from is116 HI0.out) (rk HO631.out) (by decide)) hk (fun _ h => h.2)) (fun _ h => h.1))
     replace BK634 := Aside0.mk (KeepBut.blk hk (g' := gb634) (o := .cells #[.int .i64 t625, .slice Ao36 t626.length co36, .slice Ao37 t629.length co37] 41 (0, 0)) (bk BK634.out) NB634_0.out (by simp))
     replace HO649 := Aside0.mk (Kd.R_mono (Kd.R_keep (IsS116.apart (show IsS116 w0 _ g s0_0 t639 t640 from is116 HI0.out) (rk HO649.out) (by decide)) hk (fun _ h => h.2)) (fun _ h => h.1))
     replace HK := Aside0.mk (KeepBut.trans (kp HK.out) hk (.inl rfl))
     replace HB := Aside0.mk (hb)
     replace HI0 := Aside0.mk (hi)
     (try clear hb)
     (try clear hb2)
     (try clear hk)
     (try clear hi)
     have p29 : 0 ≤ (t635 : Int) := of_decide_eq_true asm
     have q29 : (t635 : Int) < ((t629.length : Int) : Int) := of_decide_eq_true asm
     obtain ⟨go29, co29, eo29, gb29, gl29, cl29, HG29⟩ := Kd.R_form HO631.out (by omega)
     (first | cases eo29 | (injection eo29 with ea_ en_ ec_; (first | subst ea_ | (injection ea_ with ea_; subst ea_)); subst ec_; clear en_))
     have GB29 := Aside0.mk gb29
     have GG29 := Aside0.mk HG29
     clear gb29 gl29 HG29
     obtain ⟨ce29, hcl29, hM29, hcc29, hfr29⟩ := Kd.R_elem HO631.out z98 (t635 : Int) p29 q29
     obtain rfl := k98_openM hM29
     have hx29_0 : World.cell? _ ⟨go29, (t635 : Int).toNat * 4, none⟩ = some (.int .i64 ((rd_T98 t629 t635).f0)) := hcc29 0 _ rfl
     have hx29_1 : World.cell? _ ⟨go29, (t635 : Int).toNat * 4 + 1, none⟩ = some (.int .i64 ((rd_T98 t629 t635).f1)) := hcc29 1 _ rfl
     have hx29_2 : World.cell? _ ⟨go29, (t635 : Int).toNat * 4 + 2, none⟩ = some (.int .i64 ((rd_T98 t629 t635).f2)) := hcc29 2 _ rfl
     have hx29_3 : World.cell? _ ⟨go29, (t635 : Int).toNat * 4 + 3, none⟩ = some (.bool ((rd_T98 t629 t635).f3)) := hcc29 3 _ rfl
     have hf29_0 : World.frozen? _ ⟨go29, (t635 : Int).toNat * 4, none⟩ = false := hfr29 0
     have hf29_1 : World.frozen? _ ⟨go29, (t635 : Int).toNat * 4 + 1, none⟩ = false := hfr29 1
     have hf29_2 : World.frozen? _ ⟨go29, (t635 : Int).toNat * 4 + 2, none⟩ = false := hfr29 2
     have hf29_3 : World.frozen? _ ⟨go29, (t635 : Int).toNat * 4 + 3, none⟩ = false := hfr29 3
     clear hcl29 hcc29 hfr29 hM29
     replace p29 := eq_true p29
     replace q29 := eq_true q29
     have HN0_go29 := Aside0.mk (show g ≠ go29 from by have h_ := IsS116.own_ne HI0.out HO631.out (by decide); intro e_; exact h_ (by rw [e_]; rfl))
     obtain ⟨ce45, hcl45, hM45, hcc45, hfr45⟩ := Kd.R_elem HO631.out z98 (t635 : Int) (of_decide_eq_true asm) (by have h_ : (t635 : Int) < ((t629.length : Int) : Int) := of_decide_eq_true asm; first | exact h_ | (have e_ := (Kd.R_reads' HO631.out).1; omega) | simpa using h_)
     obtain rfl := k98_openM hM45
     have HP45 := (Kd.R_seg HO631.out (t635 : Int) (of_decide_eq_true asm) (by have h_ : (t635 : Int) < ((t629.length : Int) : Int) := of_decide_eq_true asm; first | exact h_ | (have e_ := (Kd.R_reads' HO631.out).1; omega) | simpa using h_) (seg := [.int .i64 t650]) (j := 1) hcl45 hcc45 (show 2 ≤ 4 from by decide) (x' := (⟨(rd_T98 t629 t635).f0, t650, (rd_T98 t629 t635).f2, (rd_T98 t629 t635).f3⟩ : S98)) (k98_mkM _ _ _ (⟨(rd_T98 t629 t635).f0, t650, (rd_T98 t629 t635).f2, (rd_T98 t629 t635).f3⟩ : S98) ) (fun _ hk => hk)).1
     rw [← Ny653.out] at HP45
     have HQ45 := Aside0.mk HP45
     clear hcl45 hcc45 hfr45 hM45 HP45
     refine hK.out _ _ ⟨(blk_cell BK634.out 0).trans rfl, (blk_cell BK634.out 1).trans rfl, (blk_cell BK634.out 2).trans rfl⟩ (fun hHeld => ?_)
     clear hK K
     refine norm_ (a' := ?_) ?_ ?_
     rotate_left
     ·show Act.put _ (some 30) _ = _
      simp only [Act.put, List.setIfInBounds_toArray, List.set_cons_zero, List.set_cons_succ, i64_w, i32_w]
      rfl
     refine puA (i := 6) (N := some 31) HT_.out ?_
     refine puA (i := 7) (N := some 32) HT_.out ?_
     refine last_ (i := 8) (N := none) #[true, true, true, true, true, true, true, true, true] rfl rfl (one_of HT_.out (by kernel_rfl)) (by decide) (fun K hK => ?_)
     refine skip_ (w1 := ?_) (by rfl) rfl ?_ ?_
     rotate_left
     ·go_simp
      rfl
     refine hK.out _ _ ?_
     clear hK K
     refine done_ (done_of HT_.out (by kernel_rfl)) ?_
     have n0_ : Aside0 (Kd.R (Kd.int .i64) 3 (w44.setCell ⟨go29, (t635 : Int).toNat * 4 + 1, none⟩ (.int .i64 t650)) w.heap.size (fun k_ => some k_ ≠ (.slice Ao43 y647.length co43 : Value).ownBlock) (.slice Ao36 t626.length co36) t626) := ⟨by refine rk ?_; exact Kd.R_mono (Kd.R_far (p := ⟨go29, (t635 : Int).toNat * 4 + 1, none⟩) (Kd.R_types HO628.out GG29.out (by decide)) (fun _ hk => hk.2) (.int .i64 t650)) (fun _ hk => hk.1.2)⟩
     have n1_ : Aside0 (Kd.R k98 98 (w44.setCell ⟨go29, (t635 : Int).toNat * 4 + 1, none⟩ (.int .i64 t650)) w.heap.size (fun _ => True) (.slice (some ⟨go29, 0, none⟩) t629.length co37) y653) := ⟨rk HQ45.out⟩
     have n2_ : Aside0 (Kd.R (Kd.int .i64) 3 (w44.setCell ⟨go29, (t635 : Int).toNat * 4 + 1, none⟩ (.int .i64 t650)) w.heap.size (fun k_ => some k_ ≠ (.slice Ao36 t626.length co36 : Value).ownBlock) (.slice Ao43 y647.length co43) y647) := ⟨by refine rk ?_; exact Kd.R_mono (Kd.R_far (p := ⟨go29, (t635 : Int).toNat * 4 + 1, none⟩) (Kd.R_types HO649.out GG29.out (by decide)) (fun _ hk => hk.2) (.int .i64 t650)) (fun _ hk => hk.1.2)⟩
     have n3_ : Aside0 ((w44.setCell ⟨go29, (t635 : Int).toNat * 4 + 1, none⟩ (.int .i64 t650)).heap[gb624]? = some (.cells #[.int .i64 0, .slice none 0 0, .slice none 0 0] 41 (0, 0))) := ⟨by refine bk ?_; refine blk_far ?_ (by have h_ := Kd.R_ne HO631.out BK624.out (by decide); intro e_; exact h_ (by rw [e_]; rfl)) _; refine bk ?_; exact BK624.out⟩
     have n4_ : Aside0 ((w44.setCell ⟨go29, (t635 : Int).toNat * 4 + 1, none⟩ (.int .i64 t650)).heap[gb634]? = some (.cells #[.int .i64 t625, .slice Ao36 t626.length co36, .slice (some ⟨go29, 0, none⟩) t629.length co37] 41 (0, 0))) := ⟨by refine bk ?_; refine blk_far ?_ (by have h_ := Kd.R_ne HO631.out BK634.out (by decide); intro e_; exact h_ (by rw [e_]; rfl)) _; refine bk ?_; exact BK634.out⟩
     have n5_ : Aside0 (IsS116 w0 (w44.setCell ⟨go29, (t635 : Int).toNat * 4 + 1, none⟩ (.int .i64 t650)) g s0_0 t651 t652) := ⟨by repeat (first | (with_reducible first | exact HI0.out | apply IsS116.alloc | apply IsS116.drewN | apply IsS116.drew | apply IsS116.set_1 | apply IsS116.set_2 | refine IsS116.far ?_ HN0_go29.out _ | refine IsS116.far ?_ NB0_624.out _ | refine IsS116.far ?_ NB0_634.out _) | exact HI0.out)⟩
     have n6_ : Aside0 (KeepBut w (w44.setCell ⟨go29, (t635 : Int).toNat * 4 + 1, none⟩ (.int .i64 t650)) g none) := ⟨by repeat (first | (with_reducible first | exact HK.out | apply KeepBut.set_ | apply keep_drewN | apply keep_drew | apply keep_alloc | refine keep_far ?_ GB29.out _ | refine keep_far ?_ GW624.out _ | refine keep_far ?_ GW634.out _) | exact HK.out)⟩
     have n7_ : Aside0 (Below w0.heap.size w0 (w44.setCell ⟨go29, (t635 : Int).toNat * 4 + 1, none⟩ (.int .i64 t650))) := ⟨by repeat (first | (with_reducible first | exact HB.out | apply below_alloc | apply pw_below_drewN | apply below_drew1 | refine below_set ?_ (Nat.le_trans HL.out GB29.out) | refine below_set ?_ (IsS116.ge HI0.out) | refine below_set ?_ GE624.out | refine below_set ?_ GE634.out) | exact HB.out)⟩
     (try clear HO628)
     (try clear HO631)
     (try clear HO649)
     (try clear BK624)
     (try clear BK634)
     (try clear HI0)
     (try clear HK)
     (try clear HB)
     generalize (w44.setCell ⟨go29, (t635 : Int).toNat * 4 + 1, none⟩ (.int .i64 t650)) = w46 at n0_ n1_ n2_ n3_ n4_ n5_ n6_ n7_ ⊢
     have HO628 := n0_
     have HO631 := n1_
     have HO649 := n2_
     have BK624 := n3_
     have BK634 := n4_
     have HI0 := n5_
     have HK := n6_
     have HB := n7_
     clear n0_ n1_ n2_ n3_ n4_ n5_ n6_ n7_
     obtain ⟨hcz47_0, hcz47_1, hcz47_2, hfz47_0, hfz47_1, hfz47_2⟩ := cz3 BK634.out
     have hnb48 := NB624_0.out
     have hnc48 := NB0_624.out
     obtain ⟨hcz49_0, hcz49_1, hcz49_2, hfz49_0, hfz49_1, hfz49_2⟩ := cz3 BK624.out
     try go_wp2
     refine bodyPost_ret (results_cell_row rfl _ _ gb624 41 #[.int .i64 t625, .slice Ao36 t626.length co36, .slice (some ⟨go29, 0, none⟩) t629.length co37] (0, 0) _ rfl (by refine bk ?_; refine blk_put (cs := #[.int .i64 t625, .slice Ao36 t626.length co36, .slice none 0 0]) ?_ 2 _ rfl; refine bk ?_; refine blk_put (cs := #[.int .i64 t625, .slice none 0 0, .slice none 0 0]) ?_ 1 _ rfl; refine bk ?_; refine blk_put (cs := #[.int .i64 0, .slice none 0 0, .slice none 0 0]) ?_ 0 _ rfl; refine bk ?_; exact BK624.out) Try.underlying41 rfl (by kernel_rfl)) rfl ?_
     exact ⟨_, _, by first | rfl | (simp [errW_none, errW_some] <;> rfl) | (simp [*, errW_none, errW_some] <;> rfl), by refine rk ?_; exact Kd.R_mono (Kd.R_far (p := ⟨gb624, 2, none⟩) (Kd.R_far (p := ⟨gb624, 1, none⟩) (Kd.R_far (p := ⟨gb624, 0, none⟩) (Kd.R_types HO628.out BK624.out (by decide)) (fun _ hk => hk.2) (.int .i64 t625)) (fun _ hk => hk.2) (.slice Ao36 t626.length co36)) (fun _ hk => hk.2) (.slice (some ⟨go29, 0, none⟩) t629.length co37)) (fun _ hk => trivial), by refine rk ?_; exact Kd.R_mono (Kd.R_far (p := ⟨gb624, 2, none⟩) (Kd.R_far (p := ⟨gb624, 1, none⟩) (Kd.R_far (p := ⟨gb624, 0, none⟩) (Kd.R_types HO631.out BK624.out (by decide)) (fun _ hk => hk.2) (.int .i64 t625)) (fun _ hk => hk.2) (.slice Ao36 t626.length co36)) (fun _ hk => hk.2) (.slice (some ⟨go29, 0, none⟩) t629.length co37)) (fun _ hk => trivial), is116 HI0.out, bl116 HB.out, kp HK.out⟩
    ·rw [if_neg c28] at H
     exact absurd H (by simp)
   ·rw [if_neg c27] at H
    exact absurd H (by simp)
  ·rw [if_neg c25] at H
   have c25b0 : (t638 == 1) = false := beq_eq_false_iff_ne.mpr c25
   have c25b1 : (t638 != 1) = true := bne_iff_ne.mpr c25
   by_cases c50 : t638 = 2
   ·rw [if_pos c50] at H
    have c50b0 : (t638 == 2) = true := beq_iff_eq.mpr c50
    have c50b1 : (t638 != 2) = false := bne_eq_false_iff_eq.mpr c50
    clear c50
    obtain ⟨y654, hy654⟩ : ∃ y_ : List Int, y_ = (([(-1), 1, 999, 1000] : List Int)) := ⟨_, rfl⟩
    replace H : ((spec_l01PickInt.f s0_0 t639 t640 y654).bind fun bt657 => (if 0 ≤ t635 then (if t635 < (t629.length : Int) then (some (t625, t626, (t629.set (t635 : Int).toNat (⟨(rd_T98 t629 t635).f0, (rd_T98 t629 t635).f1, bt657.1, (rd_T98 t629 t635).f3⟩ : S98)), bt657.2.1, bt657.2.2)) else (none)) else (none))) = some (r1, r2, r3, r4, r5) := by first | (rw [hy654]; with_reducible exact H) | (have H2_ := (Option.bind_some _ _).symm.trans H; rw [hy654]; with_reducible exact H2_) | (have H2_ := (Option.bind_some _ _).symm.trans H; with_reducible exact H2_) | with_reducible exact H | (rw [hy654]; exact H) | exact H
    have Ny654 := Aside0.mk hy654
    clear hy654
    replace H := Option.bind_eq_some_iff.mp H
    obtain ⟨⟨t657, t658, t659⟩, A510, H⟩ := H
    try dsimp only at H
    have A51 := Aside0.mk A510
    clear A510
    by_cases c52 : 0 ≤ t635
    ·rw [if_pos c52] at H
     have c52b0 : decide (0 ≤ t635) = true := decide_eq_true c52
     clear c52
     by_cases c53 : t635 < (t629.length : Int)
     ·rw [if_pos c53] at H
      have c53b0 : decide (t635 < (t629.length : Int)) = true := decide_eq_true c53
      clear c53
      obtain ⟨y660, hy660⟩ : ∃ y_ : List (S98), y_ = (t629.set (t635 : Int).toNat (⟨(rd_T98 t629 t635).f0, (rd_T98 t629 t635).f1, t657, (rd_T98 t629 t635).f3⟩ : S98)) := ⟨_, rfl⟩
      replace H : (some (t625, t626, y660, t658, t659)) = some (r1, r2, r3, r4, r5) := by first | (rw [hy660]; with_reducible exact H) | (have H2_ := (Option.bind_some _ _).symm.trans H; rw [hy660]; with_reducible exact H2_) | (have H2_ := (Option.bind_some _ _).symm.trans H; with_reducible exact H2_) | with_reducible exact H | (rw [hy660]; exact H) | exact H
      have Ny660 := Aside0.mk hy660
      clear hy660
      simp only [Option.some.injEq, Prod.mk.injEq] at H
      obtain ⟨rfl, rfl, rfl, rfl, rfl⟩ := H
      go_enter Try.func76, Try.ntmps76
      try go_wp2_with (first | ((with_reducible refine gate_dst (N := 2) rfl ?_); refine bx (cs := #[.int .i64 0, .slice none 0 0, .slice none 0 0]) (t := 41) fun gb624 hg w55 hbox hb => ?_; replace HB := Aside0.mk (below_step (bl116 HB.out) hb); have BK624 := Aside0.mk (hbox); have GW624 := Aside0.mk ((ks HK.out hg)); have GE624 := Aside0.mk ((Nat.le_trans HW0.out (ks HK.out hg) : w0.heap.size ≤ gb624)); replace HK := Aside0.mk (KeepBut.trans (kp HK.out) (KeepBut.of_below hb g none) (.inl rfl)); have NB0_624 := Aside0.mk ((by rw [hg]; exact Nat.ne_of_lt (IsS116.lt (show IsS116 w0 _ g s0_0 s0_1 s0_2 from is116 HI0.out)) : g ≠ gb624)); have NB624_0 := Aside0.mk ((by rw [hg]; exact Nat.ne_of_gt (IsS116.lt (show IsS116 w0 _ g s0_0 s0_1 s0_2 from is116 HI0.out)) : gb624 ≠ g)); replace HI0 := Aside0.mk (IsS116.below (is116 HI0.out) hb); clear hb hbox hg) | ((with_reducible refine gate_callee (f := 112) rfl ?_); refine goesL_ (some 6) rfl rfl Try.func112 (by kernel_rfl) rfl #[.pointer (some ⟨g, 0, none⟩), .int .i64 1] rfl mapd ?_; (with_reducible refine (spec_l02Column.calls k g s0_0 s0_1 s0_2 1 t625 t626 t629 t632 t633 w0 _ ?side1 ?side2 A2.out).mono ?_); (case side1 => exact is116 HI0.out); (case side2 => exact bl116 HB.out); rintro e w56 ⟨v627, v630, rfl, ho0, ho1, hi, hb, hk⟩; refine ⟨_, rfl, ?_⟩; replace BK624 := Aside0.mk (KeepBut.blk hk (g' := gb624) (o := .cells #[.int .i64 0, .slice none 0 0, .slice none 0 0] 41 (0, 0)) (bk BK624.out) NB624_0.out (by simp)); have HO628 := Aside0.mk (Kd.R_lower ho0 (keep_size (w := w) (g := g) (row := none) (kp HK.out))); have HO631 := Aside0.mk (Kd.R_lower ho1 (keep_size (w := w) (g := g) (row := none) (kp HK.out))); replace HK := Aside0.mk (KeepBut.trans (kp HK.out) hk (.inl rfl)); replace HB := Aside0.mk (hb); replace HI0 := Aside0.mk (hi); (try clear hb); (try clear hb2); (try clear hk); (try clear hi); (try clear ho0); (try clear ho1)) | ((with_reducible refine gate_dst (N := 3) rfl ?_); refine bx (cs := #[.int .i64 0, .slice none 0 0, .slice none 0 0]) (t := 41) fun gb634 hg w57 hbox hb => ?_; replace HO628 := Aside0.mk (Kd.R_below (rk HO628.out) hb); replace HO631 := Aside0.mk (Kd.R_below (rk HO631.out) hb); replace HB := Aside0.mk (below_step (bl116 HB.out) hb); have BK634 := Aside0.mk (hbox); have GW634 := Aside0.mk ((ks HK.out hg)); have GE634 := Aside0.mk ((Nat.le_trans HW0.out (ks HK.out hg) : w0.heap.size ≤ gb634)); replace HK := Aside0.mk (KeepBut.trans (kp HK.out) (KeepBut.of_below hb g none) (.inl rfl)); have NB624_634 := Aside0.mk ((nl BK624.out hg)); have NB634_624 := Aside0.mk ((ng BK624.out hg)); replace BK624 := Aside0.mk (bb BK624.out hb); have NB0_634 := Aside0.mk ((by rw [hg]; exact Nat.ne_of_lt (IsS116.lt (show IsS116 w0 _ g s0_0 t632 t633 from is116 HI0.out)) : g ≠ gb634)); have NB634_0 := Aside0.mk ((by rw [hg]; exact Nat.ne_of_gt (IsS116.lt (show IsS116 w0 _ g s0_0 t632 t633 from is116 HI0.out)) : gb634 ≠ g)); replace HI0 := Aside0.mk (IsS116.below (is116 HI0.out) hb); clear hb hbox hg; have hnb58 := NB634_624.out; have hnc58 := NB624_634.out; have hnb59 := NB634_0.out; have hnc59 := NB0_634.out; obtain ⟨hcz60_0, hcz60_1, hcz60_2, hfz60_0, hfz60_1, hfz60_2⟩ := cz3 BK634.out; obtain ⟨Ao61, co61, eo61⟩ := Kd.R_slice HO628.out; subst eo61; obtain ⟨Ao62, co62, eo62⟩ := Kd.R_slice HO631.out; subst eo62) | ((with_reducible refine gate_callee (f := 78) rfl ?_); refine goesL_ (some 11) rfl rfl Try.func78 (by kernel_rfl) rfl #[.pointer (some ⟨g, 0, none⟩), .int .i64 (t629.length : Int)] rfl mapd ?_; (with_reducible refine (spec_l01Below.calls g s0_0 t632 t633 (t629.length : Int) t635 t636 t637 w0 _ ?side1 ?side2 A3.out).mono ?_); (case side1 => exact is116 HI0.out); (case side2 => exact bl116 HB.out); rintro e w63 ⟨rfl, hi, hb, hk⟩; refine ⟨_, rfl, ?_⟩; replace BK624 := Aside0.mk (KeepBut.blk hk (g' := gb624) (o := .cells #[.int .i64 0, .slice none 0 0, .slice none 0 0] 41 (0, 0)) (bf BK624.out) NB624_0.out (by simp)); replace HO628 := Aside0.mk (Kd.R_mono (Kd.R_keep (IsS116.apart (show IsS116 w0 _ g s0_0 t632 t633 from is116 HI0.out) (by refine rk ?_; exact (Kd.R_mono (Kd.R_far (p := ⟨gb634, 2, none⟩) (Kd.R_far (p := ⟨gb634, 1, none⟩) (Kd.R_far (p := ⟨gb634, 0, none⟩) (Kd.R_types HO628.out BK634.out (by decide)) (fun _ hk => hk.2) (.int .i64 t625)) (fun _ hk => hk.2) (.slice Ao61 t626.length co61)) (fun _ hk => hk.2) (.slice Ao62 t629.length co62)) (fun _ h_ => h_.1))) (by decide)) hk (fun _ h => h.2)) (fun _ h => h.1)); replace HO631 := Aside0.mk (Kd.R_mono (Kd.R_keep (IsS116.apart (show IsS116 w0 _ g s0_0 t632 t633 from is116 HI0.out) (by refine rk ?_; exact (Kd.R_mono (Kd.R_far (p := ⟨gb634, 2, none⟩) (Kd.R_far (p := ⟨gb634, 1, none⟩) (Kd.R_far (p := ⟨gb634, 0, none⟩) (Kd.R_types HO631.out BK634.out (by decide)) (fun _ hk => hk.2) (.int .i64 t625)) (fun _ hk => hk.2) (.slice Ao61 t626.length co61)) (fun _ hk => hk.2) (.slice Ao62 t629.length co62)) (fun _ h_ => h_.1))) (by decide)) hk (fun _ h => h.2)) (fun _ h => h.1)); replace BK634 := Aside0.mk (KeepBut.blk hk (g' := gb634) (o := .cells #[.int .i64 t625, .slice Ao61 t626.length co61, .slice Ao62 t629.length co62] 41 (0, 0)) (by refine bk ?_; refine blk_put (cs := #[.int .i64 t625, .slice Ao61 t626.length co61, .slice none 0 0]) ?_ 2 _ rfl; refine bk ?_; refine blk_put (cs := #[.int .i64 t625, .slice none 0 0, .slice none 0 0]) ?_ 1 _ rfl; refine bk ?_; refine blk_put (cs := #[.int .i64 0, .slice none 0 0, .slice none 0 0]) ?_ 0 _ rfl; refine bk ?_; exact BK634.out) NB634_0.out (by simp)); replace HK := Aside0.mk (KeepBut.trans (kp HK.out) hk (.inl rfl)); replace HB := Aside0.mk (hb); replace HI0 := Aside0.mk (hi); (try clear hb); (try clear hb2); (try clear hk); (try clear hi)) | ((with_reducible refine gate_callee (f := 78) rfl ?_); refine goesL_ (some 13) rfl rfl Try.func78 (by kernel_rfl) rfl #[.pointer (some ⟨g, 0, none⟩), .int .i64 14] rfl mapd ?_; (with_reducible refine (spec_l01Below.calls g s0_0 t636 t637 14 t638 t639 t640 w0 _ ?side1 ?side2 A4.out).mono ?_); (case side1 => exact is116 HI0.out); (case side2 => exact bl116 HB.out); rintro e w64 ⟨rfl, hi, hb, hk⟩; refine ⟨_, rfl, ?_⟩; replace BK624 := Aside0.mk (KeepBut.blk hk (g' := gb624) (o := .cells #[.int .i64 0, .slice none 0 0, .slice none 0 0] 41 (0, 0)) (bk BK624.out) NB624_0.out (by simp)); replace HO628 := Aside0.mk (Kd.R_mono (Kd.R_keep (IsS116.apart (show IsS116 w0 _ g s0_0 t636 t637 from is116 HI0.out) (rk HO628.out) (by decide)) hk (fun _ h => h.2)) (fun _ h => h.1)); replace HO631 := Aside0.mk (Kd.R_mono (Kd.R_keep (IsS116.apart (show IsS116 w0 _ g s0_0 t636 t637 from is116 HI0.out) (rk HO631.out) (by decide)) hk (fun _ h => h.2)) (fun _ h => h.1)); replace BK634 := Aside0.mk (KeepBut.blk hk (g' := gb634) (o := .cells #[.int .i64 t625, .slice Ao61 t626.length co61, .slice Ao62 t629.length co62] 41 (0, 0)) (bk BK634.out) NB634_0.out (by simp)); replace HK := Aside0.mk (KeepBut.trans (kp HK.out) hk (.inl rfl)); replace HB := Aside0.mk (hb); replace HI0 := Aside0.mk (hi); (try clear hb); (try clear hb2); (try clear hk); (try clear hi)))
      replace HO628 := Aside0.mk (Kd.R_drew HO628.out)
      replace HO631 := Aside0.mk (Kd.R_drew HO631.out)
      replace BK624 := Aside0.mk (blk_drew BK624.out)
      replace BK634 := Aside0.mk (blk_drew BK634.out)
      replace HI0 := Aside0.mk (IsS116.drew HI0.out)
      replace HK := Aside0.mk (keep_drew HK.out)
      replace HB := Aside0.mk (below_drew1 HB.out)
      refine start_ (n := 9) (S := fun w' => w'.cell? ⟨gb634, 0, none⟩ = some (.int .i64 t625) ∧ w'.cell? ⟨gb634, 1, none⟩ = some (.slice Ao61 t626.length co61) ∧ w'.cell? ⟨gb634, 2, none⟩ = some (.slice Ao62 t629.length co62)) (ds := [8]) #[false, false, false, false, false, false, false, false, false] (by kernel_rfl) rfl rfl ⟨(blk_cell BK634.out 0).trans rfl, (blk_cell BK634.out 1).trans rfl, (blk_cell BK634.out 2).trans rfl⟩ (fun hHeld => ?_); refine with_tabW spec_l02AnyColumn.tab9 spec_l02AnyColumn.bits9 (fun HT_ HW_ => ?_)
      generalize w64.drew = w65 at HO628 HO631 BK624 BK634 HI0 HK HB hHeld ⊢
      refine puA (i := 0) (N := some 35) HT_.out ?_
      refine puA (i := 2) (N := some 37) HT_.out ?_
      refine puA (i := 3) (N := some 38) HT_.out ?_
      refine tkA3 (i := 1) (N := some 36) HT_.out HW_.out hHeld ?_
      refine onA (i := 4) (N := some 39) HT_.out (fun K hK => ?_)
      refine Kd.R_lit_step (Kd.int .i64) _ 3 ?hg (N := 39) ?hd (xs := ([(-1), 1, 999, 1000] : List Int)) (inner := [.int .i64 (-1), .int .i64 1, .int .i64 999, .int .i64 1000]) (ok := fun _ => True) (okp := fun _ => True) ?hr ?hp (fun _ hk => hk) trivial (Below.refl _ _) (Nat.le_refl _) (by simp) ?_; (case hd => rfl); (case hg => rfl); (case hr => first | (go_simp; done) | (go_simp; rfl)); (case hp => exact (Reps.one (show Kd.M (Kd.int .i64) _ _ _ (-1) [.int .i64 (-1)] from rfl) (Reps.one (show Kd.M (Kd.int .i64) _ _ _ 1 [.int .i64 1] from rfl) (Reps.one (show Kd.M (Kd.int .i64) _ _ _ 999 [.int .i64 999] from rfl) (Reps.one (show Kd.M (Kd.int .i64) _ _ _ 1000 [.int .i64 1000] from rfl) (Reps.none _ _))))))
      intro v655 w66 ho67 hb hg_ hnew_
      clear hg_ hnew_
      (first | rw [← Ny654.out] at ho67 | (simp only [Int.reduceToNat] at ho67; rw [← Ny654.out] at ho67))
      replace HO631 := Aside0.mk (Kd.R_below (rk HO631.out) hb)
      have HO656 := Aside0.mk (Kd.R_lower (Kd.R_new' ho67 (Kd.R_lt (rk HO628.out))) (keep_size (w := w) (g := g) (row := none) (kp HK.out)))
      replace HO628 := Aside0.mk (Kd.R_elder' (rk HO628.out) (Kd.R_base ho67) hb)
      replace HI0 := Aside0.mk (IsS116.below (is116 HI0.out) hb)
      replace BK624 := Aside0.mk (bb BK624.out hb)
      replace BK634 := Aside0.mk (bb BK634.out hb)
      replace HK := Aside0.mk (KeepBut.trans (kp HK.out) (KeepBut.of_below hb g none) (.inl rfl))
      replace HB := Aside0.mk (below_step (bl116 HB.out) hb)
      clear hb ho67
      obtain ⟨Ao68, co68, eo68⟩ := Kd.R_slice HO656.out
      (first | subst eo68 | (injection eo68 with f1_ f2_ f3_; have f4_ := f1_.symm; have f5_ := f3_.symm; clear f1_ f2_ f3_; subst f4_; subst f5_))
      refine hK.out _ _ ⟨(blk_cell BK634.out 0).trans rfl, (blk_cell BK634.out 1).trans rfl, (blk_cell BK634.out 2).trans rfl⟩ (fun hHeld => ?_)
      clear hK K
      refine norm_ (a' := ?_) ?_ ?_
      rotate_left
      ·show Act.put _ (some 39) _ = _
       simp only [Act.put, List.setIfInBounds_toArray, List.set_cons_zero, List.set_cons_succ, i64_w, i32_w]
       rfl
      refine onA (i := 5) (N := some 40) HT_.out (fun K hK => ?_)
      refine goes_ Try.func77 (by kernel_rfl) rfl #[.pointer (some ⟨g, 0, none⟩), .slice Ao68 y654.length co68] (by rfl) rfl rfl mapd ?_
      with_reducible refine (spec_l01PickInt.calls g s0_0 t639 t640 _ _ y654 t657 t658 t659 w0 _ ?side1 ?side2 ?side3 ?side4 ?side5 A51.out).mono ?_
      (case side1 => exact is116 HI0.out)
      (case side2 => exact bl116 HB.out)
      (case side3 => exact cb ((Kd.R_reads' HO656.out).2.2))
      (case side4 => exact (Kd.R_reads' HO656.out).2.1)
      (case side5 => exact far_slice (IsS116.own_ne HI0.out HO656.out (by decide)))
      rintro e w69 ⟨rfl, hi, hb, hk⟩
      refine ⟨_, rfl, ?_⟩
      replace BK624 := Aside0.mk (KeepBut.blk hk (g' := gb624) (o := .cells #[.int .i64 0, .slice none 0 0, .slice none 0 0] 41 (0, 0)) (bk BK624.out) NB624_0.out (by simp))
      replace HO628 := Aside0.mk (Kd.R_mono (Kd.R_keep (IsS116.apart (show IsS116 w0 _ g s0_0 t639 t640 from is116 HI0.out) (rk HO628.out) (by decide)) hk (fun _ h => h.2)) (fun _ h => h.1))
      replace HO631 := Aside0.mk (Kd.R_mono (Kd.R_keep (IsS116.apart (show IsS116 w0 _ g s0_0 t639 t640 from is116 HI0.out) (rk HO631.out) (by decide)) hk (fun _ h => h.2)) (fun _ h => h.1))
      replace BK634 := Aside0.mk (KeepBut.blk hk (g' := gb634) (o := .cells #[.int .i64 t625, .slice Ao61 t626.length co61, .slice Ao62 t629.length co62] 41 (0, 0)) (bk BK634.out) NB634_0.out (by simp))
      replace HO656 := Aside0.mk (Kd.R_mono (Kd.R_keep (IsS116.apart (show IsS116 w0 _ g s0_0 t639 t640 from is116 HI0.out) (rk HO656.out) (by decide)) hk (fun _ h => h.2)) (fun _ h => h.1))
      replace HK := Aside0.mk (KeepBut.trans (kp HK.out) hk (.inl rfl))
      replace HB := Aside0.mk (hb)
      replace HI0 := Aside0.mk (hi)
      (try clear hb)
      (try clear hb2)
      (try clear hk)
      (try clear hi)
      have p54 : 0 ≤ (t635 : Int) := of_decide_eq_true asm
      have q54 : (t635 : Int) < ((t629.length : Int) : Int) := of_decide_eq_true asm
      obtain ⟨go54, co54, eo54, gb54, gl54, cl54, HG54⟩ := Kd.R_form HO631.out (by omega)
      (first | cases eo54 | (injection eo54 with ea_ en_ ec_; (first | subst ea_ | (injection ea_ with ea_; subst ea_)); subst ec_; clear en_))
      have GB54 := Aside0.mk gb54
      have GG54 := Aside0.mk HG54
      clear gb54 gl54 HG54
      obtain ⟨ce54, hcl54, hM54, hcc54, hfr54⟩ := Kd.R_elem HO631.out z98 (t635 : Int) p54 q54
      obtain rfl := k98_openM hM54
      have hx54_0 : World.cell? _ ⟨go54, (t635 : Int).toNat * 4, none⟩ = some (.int .i64 ((rd_T98 t629 t635).f0)) := hcc54 0 _ rfl
      have hx54_1 : World.cell? _ ⟨go54, (t635 : Int).toNat * 4 + 1, none⟩ = some (.int .i64 ((rd_T98 t629 t635).f1)) := hcc54 1 _ rfl
      have hx54_2 : World.cell? _ ⟨go54, (t635 : Int).toNat * 4 + 2, none⟩ = some (.int .i64 ((rd_T98 t629 t635).f2)) := hcc54 2 _ rfl
      have hx54_3 : World.cell? _ ⟨go54, (t635 : Int).toNat * 4 + 3, none⟩ = some (.bool ((rd_T98 t629 t635).f3)) := hcc54 3 _ rfl
      have hf54_0 : World.frozen? _ ⟨go54, (t635 : Int).toNat * 4, none⟩ = false := hfr54 0
      have hf54_1 : World.frozen? _ ⟨go54, (t635 : Int).toNat * 4 + 1, none⟩ = false := hfr54 1
      have hf54_2 : World.frozen? _ ⟨go54, (t635 : Int).toNat * 4 + 2, none⟩ = false := hfr54 2
      have hf54_3 : World.frozen? _ ⟨go54, (t635 : Int).toNat * 4 + 3, none⟩ = false := hfr54 3
      clear hcl54 hcc54 hfr54 hM54
      replace p54 := eq_true p54
      replace q54 := eq_true q54
      have HN0_go54 := Aside0.mk (show g ≠ go54 from by have h_ := IsS116.own_ne HI0.out HO631.out (by decide); intro e_; exact h_ (by rw [e_]; rfl))
      obtain ⟨ce70, hcl70, hM70, hcc70, hfr70⟩ := Kd.R_elem HO631.out z98 (t635 : Int) (of_decide_eq_true asm) (by have h_ : (t635 : Int) < ((t629.length : Int) : Int) := of_decide_eq_true asm; first | exact h_ | (have e_ := (Kd.R_reads' HO631.out).1; omega) | simpa using h_)
      obtain rfl := k98_openM hM70
      have HP70 := (Kd.R_seg HO631.out (t635 : Int) (of_decide_eq_true asm) (by have h_ : (t635 : Int) < ((t629.length : Int) : Int) := of_decide_eq_true asm; first | exact h_ | (have e_ := (Kd.R_reads' HO631.out).1; omega) | simpa using h_) (seg := [.int .i64 t657]) (j := 2) hcl70 hcc70 (show 3 ≤ 4 from by decide) (x' := (⟨(rd_T98 t629 t635).f0, (rd_T98 t629 t635).f1, t657, (rd_T98 t629 t635).f3⟩ : S98)) (k98_mkM _ _ _ (⟨(rd_T98 t629 t635).f0, (rd_T98 t629 t635).f1, t657, (rd_T98 t629 t635).f3⟩ : S98) ) (fun _ hk => hk)).1
      rw [← Ny660.out] at HP70
      have HQ70 := Aside0.mk HP70
      clear hcl70 hcc70 hfr70 hM70 HP70
      refine hK.out _ _ ⟨(blk_cell BK634.out 0).trans rfl, (blk_cell BK634.out 1).trans rfl, (blk_cell BK634.out 2).trans rfl⟩ (fun hHeld => ?_)
      clear hK K
      refine norm_ (a' := ?_) ?_ ?_
      rotate_left
      ·show Act.put _ (some 40) _ = _
       simp only [Act.put, List.setIfInBounds_toArray, List.set_cons_zero, List.set_cons_succ, i64_w, i32_w]
       rfl
      refine puA (i := 6) (N := some 41) HT_.out ?_
      refine puA (i := 7) (N := some 42) HT_.out ?_
      refine last_ (i := 8) (N := none) #[true, true, true, true, true, true, true, true, true] rfl rfl (one_of HT_.out (by kernel_rfl)) (by decide) (fun K hK => ?_)
      refine skip_ (w1 := ?_) (by rfl) rfl ?_ ?_
      rotate_left
      ·go_simp
       rfl
      refine hK.out _ _ ?_
      clear hK K
      refine done_ (done_of HT_.out (by kernel_rfl)) ?_
      have n0_ : Aside0 (Kd.R (Kd.int .i64) 3 (w69.setCell ⟨go54, (t635 : Int).toNat * 4 + 2, none⟩ (.int .i64 t657)) w.heap.size (fun k_ => some k_ ≠ (.slice Ao68 y654.length co68 : Value).ownBlock) (.slice Ao61 t626.length co61) t626) := ⟨by refine rk ?_; exact Kd.R_mono (Kd.R_far (p := ⟨go54, (t635 : Int).toNat * 4 + 2, none⟩) (Kd.R_types HO628.out GG54.out (by decide)) (fun _ hk => hk.2) (.int .i64 t657)) (fun _ hk => hk.1.2)⟩
      have n1_ : Aside0 (Kd.R k98 98 (w69.setCell ⟨go54, (t635 : Int).toNat * 4 + 2, none⟩ (.int .i64 t657)) w.heap.size (fun _ => True) (.slice (some ⟨go54, 0, none⟩) t629.length co62) y660) := ⟨rk HQ70.out⟩
      have n2_ : Aside0 (Kd.R (Kd.int .i64) 3 (w69.setCell ⟨go54, (t635 : Int).toNat * 4 + 2, none⟩ (.int .i64 t657)) w.heap.size (fun k_ => some k_ ≠ (.slice Ao61 t626.length co61 : Value).ownBlock) (.slice Ao68 y654.length co68) y654) := ⟨by refine rk ?_; exact Kd.R_mono (Kd.R_far (p := ⟨go54, (t635 : Int).toNat * 4 + 2, none⟩) (Kd.R_types HO656.out GG54.out (by decide)) (fun _ hk => hk.2) (.int .i64 t657)) (fun _ hk => hk.1.2)⟩
      have n3_ : Aside0 ((w69.setCell ⟨go54, (t635 : Int).toNat * 4 + 2, none⟩ (.int .i64 t657)).heap[gb624]? = some (.cells #[.int .i64 0, .slice none 0 0, .slice none 0 0] 41 (0, 0))) := ⟨by refine bk ?_; refine blk_far ?_ (by have h_ := Kd.R_ne HO631.out BK624.out (by decide); intro e_; exact h_ (by rw [e_]; rfl)) _; refine bk ?_; exact BK624.out⟩
      have n4_ : Aside0 ((w69.setCell ⟨go54, (t635 : Int).toNat * 4 + 2, none⟩ (.int .i64 t657)).heap[gb634]? = some (.cells #[.int .i64 t625, .slice Ao61 t626.length co61, .slice (some ⟨go54, 0, none⟩) t629.length co62] 41 (0, 0))) := ⟨by refine bk ?_; refine blk_far ?_ (by have h_ := Kd.R_ne HO631.out BK634.out (by decide); intro e_; exact h_ (by rw [e_]; rfl)) _; refine bk ?_; exact BK634.out⟩
      have n5_ : Aside0 (IsS116 w0 (w69.setCell ⟨go54, (t635 : Int).toNat * 4 + 2, none⟩ (.int .i64 t657)) g s0_0 t658 t659) := ⟨by repeat (first | (with_reducible first | exact HI0.out | apply IsS116.alloc | apply IsS116.drewN | apply IsS116.drew | apply IsS116.set_1 | apply IsS116.set_2 | refine IsS116.far ?_ HN0_go54.out _ | refine IsS116.far ?_ NB0_624.out _ | refine IsS116.far ?_ NB0_634.out _) | exact HI0.out)⟩
      have n6_ : Aside0 (KeepBut w (w69.setCell ⟨go54, (t635 : Int).toNat * 4 + 2, none⟩ (.int .i64 t657)) g none) := ⟨by repeat (first | (with_reducible first | exact HK.out | apply KeepBut.set_ | apply keep_drewN | apply keep_drew | apply keep_alloc | refine keep_far ?_ GB54.out _ | refine keep_far ?_ GW624.out _ | refine keep_far ?_ GW634.out _) | exact HK.out)⟩
      have n7_ : Aside0 (Below w0.heap.size w0 (w69.setCell ⟨go54, (t635 : Int).toNat * 4 + 2, none⟩ (.int .i64 t657))) := ⟨by repeat (first | (with_reducible first | exact HB.out | apply below_alloc | apply pw_below_drewN | apply below_drew1 | refine below_set ?_ (Nat.le_trans HL.out GB54.out) | refine below_set ?_ (IsS116.ge HI0.out) | refine below_set ?_ GE624.out | refine below_set ?_ GE634.out) | exact HB.out)⟩
      (try clear HO628)
      (try clear HO631)
      (try clear HO656)
      (try clear BK624)
      (try clear BK634)
      (try clear HI0)
      (try clear HK)
      (try clear HB)
      generalize (w69.setCell ⟨go54, (t635 : Int).toNat * 4 + 2, none⟩ (.int .i64 t657)) = w71 at n0_ n1_ n2_ n3_ n4_ n5_ n6_ n7_ ⊢
      have HO628 := n0_
      have HO631 := n1_
      have HO656 := n2_
      have BK624 := n3_
      have BK634 := n4_
      have HI0 := n5_
      have HK := n6_
      have HB := n7_
      clear n0_ n1_ n2_ n3_ n4_ n5_ n6_ n7_
      obtain ⟨hcz72_0, hcz72_1, hcz72_2, hfz72_0, hfz72_1, hfz72_2⟩ := cz3 BK634.out
      have hnb73 := NB624_0.out
      have hnc73 := NB0_624.out
      obtain ⟨hcz74_0, hcz74_1, hcz74_2, hfz74_0, hfz74_1, hfz74_2⟩ := cz3 BK624.out
      try go_wp2
      refine bodyPost_ret (results_cell_row rfl _ _ gb624 41 #[.int .i64 t625, .slice Ao61 t626.length co61, .slice (some ⟨go54, 0, none⟩) t629.length co62] (0, 0) _ rfl (by refine bk ?_; refine blk_put (cs := #[.int .i64 t625, .slice Ao61 t626.length co61, .slice none 0 0]) ?_ 2 _ rfl; refine bk ?_; refine blk_put (cs := #[.int .i64 t625, .slice none 0 0, .slice none 0 0]) ?_ 1 _ rfl; refine bk ?_; refine blk_put (cs := #[.int .i64 0, .slice none 0 0, .slice none 0 0]) ?_ 0 _ rfl; refine bk ?_; exact BK624.out) Try.underlying41 rfl (by kernel_rfl)) rfl ?_
      exact ⟨_, _, by first | rfl | (simp [errW_none, errW_some] <;> rfl) | (simp [*, errW_none, errW_some] <;> rfl), by refine rk ?_; exact Kd.R_mono (Kd.R_far (p := ⟨gb624, 2, none⟩) (Kd.R_far (p := ⟨gb624, 1, none⟩) (Kd.R_far (p := ⟨gb624, 0, none⟩) (Kd.R_types HO628.out BK624.out (by decide)) (fun _ hk => hk.2) (.int .i64 t625)) (fun _ hk => hk.2) (.slice Ao61 t626.length co61)) (fun _ hk => hk.2) (.slice (some ⟨go54, 0, none⟩) t629.length co62)) (fun _ hk => trivial), by refine rk ?_; exact Kd.R_mono (Kd.R_far (p := ⟨gb624, 2, none⟩) (Kd.R_far (p := ⟨gb624, 1, none⟩) (Kd.R_far (p := ⟨gb624, 0, none⟩) (Kd.R_types HO631.out BK624.out (by decide)) (fun _ hk => hk.2) (.int .i64 t625)) (fun _ hk => hk.2) (.slice Ao61 t626.length co61)) (fun _ hk => hk.2) (.slice (some ⟨go54, 0, none⟩) t629.length co62)) (fun _ hk => trivial), is116 HI0.out, bl116 HB.out, kp HK.out⟩
     ·rw [if_neg c53] at H
      exact absurd H (by simp)
    ·rw [if_neg c52] at H
     exact absurd H (by simp)
   ·rw [if_neg c50] at H
    have c50b0 : (t638 == 2) = false := beq_eq_false_iff_ne.mpr c50
    have c50b1 : (t638 != 2) = true := bne_iff_ne.mpr c50
    by_cases c75 : t638 = 3
    ·rw [if_pos c75] at H
     have c75b0 : (t638 == 3) = true := beq_iff_eq.mpr c75
     have c75b1 : (t638 != 3) = false := bne_eq_false_iff_eq.mpr c75
     clear c75
     replace H := Option.bind_eq_some_iff.mp H
     obtain ⟨⟨t661, t662, t663⟩, A760, H⟩ := H
     try dsimp only at H
     have A76 := Aside0.mk A760
     clear A760
     by_cases c77 : t626.length < 17592186044416
     ·rw [if_pos c77] at H
      have LMc77 := Aside0.mk c77
      clear c77
      obtain ⟨y664, hy664⟩ : ∃ y_ : List Int, y_ = (t626 ++ [t661]) := ⟨_, rfl⟩
      replace H : (some (t625, y664, t629, t662, t663)) = some (r1, r2, r3, r4, r5) := by first | (rw [hy664]; with_reducible exact H) | (have H2_ := (Option.bind_some _ _).symm.trans H; rw [hy664]; with_reducible exact H2_) | (have H2_ := (Option.bind_some _ _).symm.trans H; with_reducible exact H2_) | with_reducible exact H | (rw [hy664]; exact H) | exact H
      have Ny664 := Aside0.mk hy664
      clear hy664
      simp only [Option.some.injEq, Prod.mk.injEq] at H
      obtain ⟨rfl, rfl, rfl, rfl, rfl⟩ := H
      go_enter Try.func76, Try.ntmps76
      try go_wp2_with (first | ((with_reducible refine gate_dst (N := 2) rfl ?_); refine bx (cs := #[.int .i64 0, .slice none 0 0, .slice none 0 0]) (t := 41) fun gb624 hg w78 hbox hb => ?_; replace HB := Aside0.mk (below_step (bl116 HB.out) hb); have BK624 := Aside0.mk (hbox); have GW624 := Aside0.mk ((ks HK.out hg)); have GE624 := Aside0.mk ((Nat.le_trans HW0.out (ks HK.out hg) : w0.heap.size ≤ gb624)); replace HK := Aside0.mk (KeepBut.trans (kp HK.out) (KeepBut.of_below hb g none) (.inl rfl)); have NB0_624 := Aside0.mk ((by rw [hg]; exact Nat.ne_of_lt (IsS116.lt (show IsS116 w0 _ g s0_0 s0_1 s0_2 from is116 HI0.out)) : g ≠ gb624)); have NB624_0 := Aside0.mk ((by rw [hg]; exact Nat.ne_of_gt (IsS116.lt (show IsS116 w0 _ g s0_0 s0_1 s0_2 from is116 HI0.out)) : gb624 ≠ g)); replace HI0 := Aside0.mk (IsS116.below (is116 HI0.out) hb); clear hb hbox hg) | ((with_reducible refine gate_callee (f := 112) rfl ?_); refine goesL_ (some 6) rfl rfl Try.func112 (by kernel_rfl) rfl #[.pointer (some ⟨g, 0, none⟩), .int .i64 1] rfl mapd ?_; (with_reducible refine (spec_l02Column.calls k g s0_0 s0_1 s0_2 1 t625 t626 t629 t632 t633 w0 _ ?side1 ?side2 A2.out).mono ?_); (case side1 => exact is116 HI0.out); (case side2 => exact bl116 HB.out); rintro e w79 ⟨v627, v630, rfl, ho0, ho1, hi, hb, hk⟩; refine ⟨_, rfl, ?_⟩; replace BK624 := Aside0.mk (KeepBut.blk hk (g' := gb624) (o := .cells #[.int .i64 0, .slice none 0 0, .slice none 0 0] 41 (0, 0)) (bk BK624.out) NB624_0.out (by simp)); have HO628 := Aside0.mk (Kd.R_lower ho0 (keep_size (w := w) (g := g) (row := none) (kp HK.out))); have HO631 := Aside0.mk (Kd.R_lower ho1 (keep_size (w := w) (g := g) (row := none) (kp HK.out))); replace HK := Aside0.mk (KeepBut.trans (kp HK.out) hk (.inl rfl)); replace HB := Aside0.mk (hb); replace HI0 := Aside0.mk (hi); (try clear hb); (try clear hb2); (try clear hk); (try clear hi); (try clear ho0); (try clear ho1)) | ((with_reducible refine gate_dst (N := 3) rfl ?_); refine bx (cs := #[.int .i64 0, .slice none 0 0, .slice none 0 0]) (t := 41) fun gb634 hg w80 hbox hb => ?_; replace HO628 := Aside0.mk (Kd.R_below (rk HO628.out) hb); replace HO631 := Aside0.mk (Kd.R_below (rk HO631.out) hb); replace HB := Aside0.mk (below_step (bl116 HB.out) hb); have BK634 := Aside0.mk (hbox); have GW634 := Aside0.mk ((ks HK.out hg)); have GE634 := Aside0.mk ((Nat.le_trans HW0.out (ks HK.out hg) : w0.heap.size ≤ gb634)); replace HK := Aside0.mk (KeepBut.trans (kp HK.out) (KeepBut.of_below hb g none) (.inl rfl)); have NB624_634 := Aside0.mk ((nl BK624.out hg)); have NB634_624 := Aside0.mk ((ng BK624.out hg)); replace BK624 := Aside0.mk (bb BK624.out hb); have NB0_634 := Aside0.mk ((by rw [hg]; exact Nat.ne_of_lt (IsS116.lt (show IsS116 w0 _ g s0_0 t632 t633 from is116 HI0.out)) : g ≠ gb634)); have NB634_0 := Aside0.mk ((by rw [hg]; exact Nat.ne_of_gt (IsS116.lt (show IsS116 w0 _ g s0_0 t632 t633 from is116 HI0.out)) : gb634 ≠ g)); replace HI0 := Aside0.mk (IsS116.below (is116 HI0.out) hb); clear hb hbox hg; have hnb81 := NB634_624.out; have hnc81 := NB624_634.out; have hnb82 := NB634_0.out; have hnc82 := NB0_634.out; obtain ⟨hcz83_0, hcz83_1, hcz83_2, hfz83_0, hfz83_1, hfz83_2⟩ := cz3 BK634.out; obtain ⟨Ao84, co84, eo84⟩ := Kd.R_slice HO628.out; subst eo84; obtain ⟨Ao85, co85, eo85⟩ := Kd.R_slice HO631.out; subst eo85) | ((with_reducible refine gate_callee (f := 78) rfl ?_); refine goesL_ (some 11) rfl rfl Try.func78 (by kernel_rfl) rfl #[.pointer (some ⟨g, 0, none⟩), .int .i64 (t629.length : Int)] rfl mapd ?_; (with_reducible refine (spec_l01Below.calls g s0_0 t632 t633 (t629.length : Int) t635 t636 t637 w0 _ ?side1 ?side2 A3.out).mono ?_); (case side1 => exact is116 HI0.out); (case side2 => exact bl116 HB.out); rintro e w86 ⟨rfl, hi, hb, hk⟩; refine ⟨_, rfl, ?_⟩; replace BK624 := Aside0.mk (KeepBut.blk hk (g' := gb624) (o := .cells #[.int .i64 0, .slice none 0 0, .slice none 0 0] 41 (0, 0)) (bf BK624.out) NB624_0.out (by simp)); replace HO628 := Aside0.mk (Kd.R_mono (Kd.R_keep (IsS116.apart (show IsS116 w0 _ g s0_0 t632 t633 from is116 HI0.out) (by refine rk ?_; exact (Kd.R_mono (Kd.R_far (p := ⟨gb634, 2, none⟩) (Kd.R_far (p := ⟨gb634, 1, none⟩) (Kd.R_far (p := ⟨gb634, 0, none⟩) (Kd.R_types HO628.out BK634.out (by decide)) (fun _ hk => hk.2) (.int .i64 t625)) (fun _ hk => hk.2) (.slice Ao84 t626.length co84)) (fun _ hk => hk.2) (.slice Ao85 t629.length co85)) (fun _ h_ => h_.1))) (by decide)) hk (fun _ h => h.2)) (fun _ h => h.1)); replace HO631 := Aside0.mk (Kd.R_mono (Kd.R_keep (IsS116.apart (show IsS116 w0 _ g s0_0 t632 t633 from is116 HI0.out) (by refine rk ?_; exact (Kd.R_mono (Kd.R_far (p := ⟨gb634, 2, none⟩) (Kd.R_far (p := ⟨gb634, 1, none⟩) (Kd.R_far (p := ⟨gb634, 0, none⟩) (Kd.R_types HO631.out BK634.out (by decide)) (fun _ hk => hk.2) (.int .i64 t625)) (fun _ hk => hk.2) (.slice Ao84 t626.length co84)) (fun _ hk => hk.2) (.slice Ao85 t629.length co85)) (fun _ h_ => h_.1))) (by decide)) hk (fun _ h => h.2)) (fun _ h => h.1)); replace BK634 := Aside0.mk (KeepBut.blk hk (g' := gb634) (o := .cells #[.int .i64 t625, .slice Ao84 t626.length co84, .slice Ao85 t629.length co85] 41 (0, 0)) (by refine bk ?_; refine blk_put (cs := #[.int .i64 t625, .slice Ao84 t626.length co84, .slice none 0 0]) ?_ 2 _ rfl; refine bk ?_; refine blk_put (cs := #[.int .i64 t625, .slice none 0 0, .slice none 0 0]) ?_ 1 _ rfl; refine bk ?_; refine blk_put (cs := #[.int .i64 0, .slice none 0 0, .slice none 0 0]) ?_ 0 _ rfl; refine bk ?_; exact BK634.out) NB634_0.out (by simp)); replace HK := Aside0.mk (KeepBut.trans (kp HK.out) hk (.inl rfl)); replace HB := Aside0.mk (hb); replace HI0 := Aside0.mk (hi); (try clear hb); (try clear hb2); (try clear hk); (try clear hi)) | ((with_reducible refine gate_callee (f := 78) rfl ?_); refine goesL_ (some 13) rfl rfl Try.func78 (by kernel_rfl) rfl #[.pointer (some ⟨g, 0, none⟩), .int .i64 14] rfl mapd ?_; (with_reducible refine (spec_l01Below.calls g s0_0 t636 t637 14 t638 t639 t640 w0 _ ?side1 ?side2 A4.out).mono ?_); (case side1 => exact is116 HI0.out); (case side2 => exact bl116 HB.out); rintro e w87 ⟨rfl, hi, hb, hk⟩; refine ⟨_, rfl, ?_⟩; replace BK624 := Aside0.mk (KeepBut.blk hk (g' := gb624) (o := .cells #[.int .i64 0, .slice none 0 0, .slice none 0 0] 41 (0, 0)) (bk BK624.out) NB624_0.out (by simp)); replace HO628 := Aside0.mk (Kd.R_mono (Kd.R_keep (IsS116.apart (show IsS116 w0 _ g s0_0 t636 t637 from is116 HI0.out) (rk HO628.out) (by decide)) hk (fun _ h => h.2)) (fun _ h => h.1)); replace HO631 := Aside0.mk (Kd.R_mono (Kd.R_keep (IsS116.apart (show IsS116 w0 _ g s0_0 t636 t637 from is116 HI0.out) (rk HO631.out) (by decide)) hk (fun _ h => h.2)) (fun _ h => h.1)); replace BK634 := Aside0.mk (KeepBut.blk hk (g' := gb634) (o := .cells #[.int .i64 t625, .slice Ao84 t626.length co84, .slice Ao85 t629.length co85] 41 (0, 0)) (bk BK634.out) NB634_0.out (by simp)); replace HK := Aside0.mk (KeepBut.trans (kp HK.out) hk (.inl rfl)); replace HB := Aside0.mk (hb); replace HI0 := Aside0.mk (hi); (try clear hb); (try clear hb2); (try clear hk); (try clear hi)))
      replace HO628 := Aside0.mk (Kd.R_drew HO628.out)
      replace HO631 := Aside0.mk (Kd.R_drew HO631.out)
      replace BK624 := Aside0.mk (blk_drew BK624.out)
      replace BK634 := Aside0.mk (blk_drew BK634.out)
      replace HI0 := Aside0.mk (IsS116.drew HI0.out)
      replace HK := Aside0.mk (keep_drew HK.out)
      replace HB := Aside0.mk (below_drew1 HB.out)
      refine start_ (n := 8) (S := fun w' => w'.cell? ⟨gb634, 0, none⟩ = some (.int .i64 t625) ∧ w'.cell? ⟨gb634, 1, none⟩ = some (.slice Ao84 t626.length co84) ∧ w'.cell? ⟨gb634, 2, none⟩ = some (.slice Ao85 t629.length co85)) (ds := [7]) #[false, false, false, false, false, false, false, false] (by kernel_rfl) rfl rfl ⟨(blk_cell BK634.out 0).trans rfl, (blk_cell BK634.out 1).trans rfl, (blk_cell BK634.out 2).trans rfl⟩ (fun hHeld => ?_); refine with_tabW spec_l02AnyColumn.tab11 spec_l02AnyColumn.bits11 (fun HT_ HW_ => ?_)
      generalize w87.drew = w88 at HO628 HO631 BK624 BK634 HI0 HK HB hHeld ⊢
      refine puA (i := 0) (N := some 45) HT_.out ?_
      refine puA (i := 2) (N := some 47) HT_.out ?_
      refine tkA3 (i := 1) (N := some 46) HT_.out HW_.out hHeld ?_
      refine onA (i := 3) (N := some 48) HT_.out (fun K hK => ?_)
      refine goes_ Try.func78 (by kernel_rfl) rfl #[.pointer (some ⟨g, 0, none⟩), .int .i64 14] (by rfl) rfl rfl mapd ?_
      with_reducible refine (spec_l01Below.calls g s0_0 t639 t640 14 t661 t662 t663 w0 _ ?side1 ?side2 A76.out).mono ?_
      (case side1 => exact is116 HI0.out)
      (case side2 => exact bl116 HB.out)
      rintro e w89 ⟨rfl, hi, hb, hk⟩
      refine ⟨_, rfl, ?_⟩
      replace BK624 := Aside0.mk (KeepBut.blk hk (g' := gb624) (o := .cells #[.int .i64 0, .slice none 0 0, .slice none 0 0] 41 (0, 0)) (bk BK624.out) NB624_0.out (by simp))
      replace HO628 := Aside0.mk (Kd.R_mono (Kd.R_keep (IsS116.apart (show IsS116 w0 _ g s0_0 t639 t640 from is116 HI0.out) (rk HO628.out) (by decide)) hk (fun _ h => h.2)) (fun _ h => h.1))
      replace HO631 := Aside0.mk (Kd.R_mono (Kd.R_keep (IsS116.apart (show IsS116 w0 _ g s0_0 t639 t640 from is116 HI0.out) (rk HO631.out) (by decide)) hk (fun _ h => h.2)) (fun _ h => h.1))
      replace BK634 := Aside0.mk (KeepBut.blk hk (g' := gb634) (o := .cells #[.int .i64 t625, .slice Ao84 t626.length co84, .slice Ao85 t629.length co85] 41 (0, 0)) (bk BK634.out) NB634_0.out (by simp))
      replace HK := Aside0.mk (KeepBut.trans (kp HK.out) hk (.inl rfl))
      replace HB := Aside0.mk (hb)
      replace HI0 := Aside0.mk (hi)
      (try clear hb)
      (try clear hb2)
      (try clear hk)
      (try clear hi)
      refine hK.out _ _ ⟨(blk_cell BK634.out 0).trans rfl, (blk_cell BK634.out 1).trans rfl, (blk_cell BK634.out 2).trans rfl⟩ (fun hHeld => ?_)
      clear hK K
      refine norm_ (a' := ?_) ?_ ?_
      rotate_left
      ·show Act.put _ (some 48) _ = _
       simp only [Act.put, List.setIfInBounds_toArray, List.set_cons_zero, List.set_cons_succ, i64_w, i32_w]
       rfl
      refine onA (i := 4) (N := some 49) HT_.out (fun K hK => ?_)
      refine value_ (w1 := ?_) (v := ?_) (by rfl) rfl ?_ ?_
      rotate_left 2
      ·go_simp
       constructor
       ·rfl
       ·rfl
      refine hK.out _ _ ⟨(blk_cell (blk_alloc BK634.out _) 0).trans rfl, (blk_cell (blk_alloc BK634.out _) 1).trans rfl, (blk_cell (blk_alloc BK634.out _) 2).trans rfl⟩ (fun hHeld => ?_)
      clear hK K
      refine norm_ (a' := ?_) ?_ ?_
      rotate_left
      ·show Act.put _ (some 49) _ = _
       simp only [Act.put, List.setIfInBounds_toArray, List.set_cons_zero, List.set_cons_succ, i64_w, i32_w]
       rfl
      refine onA (i := 5) (N := some 50) HT_.out (fun K hK => ?_)
      refine Kd.R_append_step (Kd.int .i64) w.heap.size (by rfl) (.tmp 46) (.tmp 49) 38 3 (.int .i64 0) 8 rfl Try.underlying38 info3 rfl (by decide) (by omega) (.slice Ao84 t626.length co84) t626 t661 [.int .i64 t661] (fun _ => True) (fun _ => False) rfl rfl ?aP (fun _ hk => hk.elim) ?aF ?aO (Below.refl _ _) ?aS ?aL ?_
      (case aP => exact rfl)
      (case aF => exact (fun _ _ => trivial))
      (case aO => exact (rk HO628.out))
      (case aS => exact (keep_size (w := w) (g := g) (row := none) (kp HK.out)))
      (case aL => have := LMc77.out; omega)
      intro v665 w90 ho hb hg hat
      rw [← Ny664.out] at ho
      replace HI0 := Aside0.mk (IsS116.grown (is116 HI0.out) hg (IsS116.own_ne HI0.out HO628.out (by decide)))
      replace BK624 := Aside0.mk (blk_grown (g := gb624) (o := .cells #[.int .i64 0, .slice none 0 0, .slice none 0 0] 41 (0, 0)) (bk BK624.out) hg (Kd.R_ne HO628.out BK624.out (by decide)))
      replace HO631 := Aside0.mk (Kd.R_over' (rk HO631.out) (Kd.R_typed (rk HO628.out)) (by decide) hg)
      replace BK634 := Aside0.mk (blk_grown (g := gb634) (o := .cells #[.int .i64 t625, .slice Ao84 t626.length co84, .slice Ao85 t629.length co85] 41 (0, 0)) (bk BK634.out) hg (Kd.R_ne HO628.out BK634.out (by decide)))
      replace HB := Aside0.mk (below_weaken (bl116 HB.out) HL.out hb)
      replace HK := Aside0.mk (KeepBut.trans (kp HK.out) (KeepBut.of_grown hg g) (Kd.R_base2 HO628.out))
      have HO666 := Aside0.mk (ho)
      clear HO628
      clear ho hb hg hat
      obtain ⟨Ao91, co91, eo91⟩ := Kd.R_slice HO666.out
      (first | subst eo91 | (injection eo91 with f1_ f2_ f3_; have f4_ := f1_.symm; have f5_ := f3_.symm; clear f1_ f2_ f3_; subst f4_; subst f5_))
      refine hK.out _ _ ⟨(blk_cell BK634.out 0).trans rfl, (blk_cell BK634.out 1).trans rfl, (blk_cell BK634.out 2).trans rfl⟩ (fun hHeld => ?_)
      clear hK K
      refine norm_ (a' := ?_) ?_ ?_
      rotate_left
      ·show Act.put _ (some 50) _ = _
       simp only [Act.put, List.setIfInBounds_toArray, List.set_cons_zero, List.set_cons_succ, i64_w, i32_w]
       rfl
      refine puA (i := 6) (N := some 51) HT_.out ?_
      refine last_ (i := 7) (N := none) #[true, true, true, true, true, true, true, true] rfl rfl (one_of HT_.out (by kernel_rfl)) (by decide) (fun K hK => ?_)
      have hs92 : w90.cell? ⟨gb634, 1, none⟩ = some (.slice Ao84 t626.length co84) := (blk_cell BK634.out 1).trans rfl
      have hfs92 := blk_frozen BK634.out 1
      have hns92_0 := NB624_634.out
      have hms92_0 := NB634_624.out
      refine skip_ (w1 := ?_) (by rfl) rfl ?_ ?_
      rotate_left
      ·go_simp
       rfl
      refine hK.out _ _ ?_
      clear hK K
      refine done_ (done_of HT_.out (by kernel_rfl)) ?_
      obtain ⟨hcz93_0, hcz93_1, hcz93_2, hfz93_0, hfz93_1, hfz93_2⟩ := cz3 BK634.out
      have hnb94 := NB624_0.out
      have hnc94 := NB0_624.out
      obtain ⟨hcz95_0, hcz95_1, hcz95_2, hfz95_0, hfz95_1, hfz95_2⟩ := cz3 BK624.out
      try go_wp2
      refine bodyPost_ret (results_cell_row rfl _ _ gb624 41 #[.int .i64 t625, .slice Ao91 y664.length co91, .slice Ao85 t629.length co85] (0, 0) _ rfl (by refine bk ?_; refine blk_put (cs := #[.int .i64 t625, .slice Ao91 y664.length co91, .slice none 0 0]) ?_ 2 _ rfl; refine bk ?_; refine blk_put (cs := #[.int .i64 t625, .slice none 0 0, .slice none 0 0]) ?_ 1 _ rfl; refine bk ?_; refine blk_put (cs := #[.int .i64 0, .slice none 0 0, .slice none 0 0]) ?_ 0 _ rfl; refine bk ?_; refine blk_far ?_ NB624_634.out _; refine bk ?_; exact BK624.out) Try.underlying41 rfl (by kernel_rfl)) rfl ?_
      exact ⟨_, _, by first | rfl | (simp [errW_none, errW_some] <;> rfl) | (simp [*, errW_none, errW_some] <;> rfl), by refine rk ?_; exact Kd.R_mono (Kd.R_far (p := ⟨gb624, 2, none⟩) (Kd.R_far (p := ⟨gb624, 1, none⟩) (Kd.R_far (p := ⟨gb624, 0, none⟩) (Kd.R_far (p := ⟨gb634, 1, none⟩) (Kd.R_types (Kd.R_types HO666.out BK634.out (by decide)) BK624.out (by decide)) (fun _ hk => hk.1.2) (.slice Ao91 y664.length co91)) (fun _ hk => hk.2) (.int .i64 t625)) (fun _ hk => hk.2) (.slice Ao91 y664.length co91)) (fun _ hk => hk.2) (.slice Ao85 t629.length co85)) (fun _ hk => trivial), by refine rk ?_; exact Kd.R_mono (Kd.R_far (p := ⟨gb624, 2, none⟩) (Kd.R_far (p := ⟨gb624, 1, none⟩) (Kd.R_far (p := ⟨gb624, 0, none⟩) (Kd.R_far (p := ⟨gb634, 1, none⟩) (Kd.R_types (Kd.R_types HO631.out BK634.out (by decide)) BK624.out (by decide)) (fun _ hk => hk.1.2) (.slice Ao91 y664.length co91)) (fun _ hk => hk.2) (.int .i64 t625)) (fun _ hk => hk.2) (.slice Ao91 y664.length co91)) (fun _ hk => hk.2) (.slice Ao85 t629.length co85)) (fun _ hk => trivial), is116 HI0.out, bl116 HB.out, kp HK.out⟩
     ·rw [if_neg c77] at H
      exact absurd H (by simp)
    ·rw [if_neg c75] at H
     have c75b0 : (t638 == 3) = false := beq_eq_false_iff_ne.mpr c75
     have c75b1 : (t638 != 3) = true := bne_iff_ne.mpr c75
     by_cases c96 : t638 = 4
     ·rw [if_pos c96] at H
      have c96b0 : (t638 == 4) = true := beq_iff_eq.mpr c96
      have c96b1 : (t638 != 4) = false := bne_eq_false_iff_eq.mpr c96
      clear c96
      simp only [Option.some.injEq, Prod.mk.injEq] at H
      obtain ⟨rfl, rfl, rfl, rfl, rfl⟩ := H
      go_enter Try.func76, Try.ntmps76
      go_wp2_with (first | ((with_reducible refine gate_dst (N := 2) rfl ?_); refine bx (cs := #[.int .i64 0, .slice none 0 0, .slice none 0 0]) (t := 41) fun gb624 hg w97 hbox hb => ?_; replace HB := Aside0.mk (below_step (bl116 HB.out) hb); have BK624 := Aside0.mk (hbox); have GW624 := Aside0.mk ((ks HK.out hg)); have GE624 := Aside0.mk ((Nat.le_trans HW0.out (ks HK.out hg) : w0.heap.size ≤ gb624)); replace HK := Aside0.mk (KeepBut.trans (kp HK.out) (KeepBut.of_below hb g none) (.inl rfl)); have NB0_624 := Aside0.mk ((by rw [hg]; exact Nat.ne_of_lt (IsS116.lt (show IsS116 w0 _ g s0_0 s0_1 s0_2 from is116 HI0.out)) : g ≠ gb624)); have NB624_0 := Aside0.mk ((by rw [hg]; exact Nat.ne_of_gt (IsS116.lt (show IsS116 w0 _ g s0_0 s0_1 s0_2 from is116 HI0.out)) : gb624 ≠ g)); replace HI0 := Aside0.mk (IsS116.below (is116 HI0.out) hb); clear hb hbox hg) | ((with_reducible refine gate_callee (f := 112) rfl ?_); refine goesL_ (some 6) rfl rfl Try.func112 (by kernel_rfl) rfl #[.pointer (some ⟨g, 0, none⟩), .int .i64 1] rfl mapd ?_; (with_reducible refine (spec_l02Column.calls k g s0_0 s0_1 s0_2 1 t625 t626 t629 t632 t633 w0 _ ?side1 ?side2 A2.out).mono ?_); (case side1 => exact is116 HI0.out); (case side2 => exact bl116 HB.out); rintro e w98 ⟨v627, v630, rfl, ho0, ho1, hi, hb, hk⟩; refine ⟨_, rfl, ?_⟩; replace BK624 := Aside0.mk (KeepBut.blk hk (g' := gb624) (o := .cells #[.int .i64 0, .slice none 0 0, .slice none 0 0] 41 (0, 0)) (bk BK624.out) NB624_0.out (by simp)); have HO628 := Aside0.mk (Kd.R_lower ho0 (keep_size (w := w) (g := g) (row := none) (kp HK.out))); have HO631 := Aside0.mk (Kd.R_lower ho1 (keep_size (w := w) (g := g) (row := none) (kp HK.out))); replace HK := Aside0.mk (KeepBut.trans (kp HK.out) hk (.inl rfl)); replace HB := Aside0.mk (hb); replace HI0 := Aside0.mk (hi); (try clear hb); (try clear hb2); (try clear hk); (try clear hi); (try clear ho0); (try clear ho1)) | ((with_reducible refine gate_dst (N := 3) rfl ?_); refine bx (cs := #[.int .i64 0, .slice none 0 0, .slice none 0 0]) (t := 41) fun gb634 hg w99 hbox hb => ?_; replace HO628 := Aside0.mk (Kd.R_below (rk HO628.out) hb); replace HO631 := Aside0.mk (Kd.R_below (rk HO631.out) hb); replace HB := Aside0.mk (below_step (bl116 HB.out) hb); have BK634 := Aside0.mk (hbox); have GW634 := Aside0.mk ((ks HK.out hg)); have GE634 := Aside0.mk ((Nat.le_trans HW0.out (ks HK.out hg) : w0.heap.size ≤ gb634)); replace HK := Aside0.mk (KeepBut.trans (kp HK.out) (KeepBut.of_below hb g none) (.inl rfl)); have NB624_634 := Aside0.mk ((nl BK624.out hg)); have NB634_624 := Aside0.mk ((ng BK624.out hg)); replace BK624 := Aside0.mk (bb BK624.out hb); have NB0_634 := Aside0.mk ((by rw [hg]; exact Nat.ne_of_lt (IsS116.lt (show IsS116 w0 _ g s0_0 t632 t633 from is116 HI0.out)) : g ≠ gb634)); have NB634_0 := Aside0.mk ((by rw [hg]; exact Nat.ne_of_gt (IsS116.lt (show IsS116 w0 _ g s0_0 t632 t633 from is116 HI0.out)) : gb634 ≠ g)); replace HI0 := Aside0.mk (IsS116.below (is116 HI0.out) hb); clear hb hbox hg; have hnb100 := NB634_624.out; have hnc100 := NB624_634.out; have hnb101 := NB634_0.out; have hnc101 := NB0_634.out; obtain ⟨hcz102_0, hcz102_1, hcz102_2, hfz102_0, hfz102_1, hfz102_2⟩ := cz3 BK634.out; obtain ⟨Ao103, co103, eo103⟩ := Kd.R_slice HO628.out; subst eo103; obtain ⟨Ao104, co104, eo104⟩ := Kd.R_slice HO631.out; subst eo104) | ((with_reducible refine gate_callee (f := 78) rfl ?_); refine goesL_ (some 11) rfl rfl Try.func78 (by kernel_rfl) rfl #[.pointer (some ⟨g, 0, none⟩), .int .i64 (t629.length : Int)] rfl mapd ?_; (with_reducible refine (spec_l01Below.calls g s0_0 t632 t633 (t629.length : Int) t635 t636 t637 w0 _ ?side1 ?side2 A3.out).mono ?_); (case side1 => exact is116 HI0.out); (case side2 => exact bl116 HB.out); rintro e w105 ⟨rfl, hi, hb, hk⟩; refine ⟨_, rfl, ?_⟩; replace BK624 := Aside0.mk (KeepBut.blk hk (g' := gb624) (o := .cells #[.int .i64 0, .slice none 0 0, .slice none 0 0] 41 (0, 0)) (bf BK624.out) NB624_0.out (by simp)); replace HO628 := Aside0.mk (Kd.R_mono (Kd.R_keep (IsS116.apart (show IsS116 w0 _ g s0_0 t632 t633 from is116 HI0.out) (by refine rk ?_; exact (Kd.R_mono (Kd.R_far (p := ⟨gb634, 2, none⟩) (Kd.R_far (p := ⟨gb634, 1, none⟩) (Kd.R_far (p := ⟨gb634, 0, none⟩) (Kd.R_types HO628.out BK634.out (by decide)) (fun _ hk => hk.2) (.int .i64 t625)) (fun _ hk => hk.2) (.slice Ao103 t626.length co103)) (fun _ hk => hk.2) (.slice Ao104 t629.length co104)) (fun _ h_ => h_.1))) (by decide)) hk (fun _ h => h.2)) (fun _ h => h.1)); replace HO631 := Aside0.mk (Kd.R_mono (Kd.R_keep (IsS116.apart (show IsS116 w0 _ g s0_0 t632 t633 from is116 HI0.out) (by refine rk ?_; exact (Kd.R_mono (Kd.R_far (p := ⟨gb634, 2, none⟩) (Kd.R_far (p := ⟨gb634, 1, none⟩) (Kd.R_far (p := ⟨gb634, 0, none⟩) (Kd.R_types HO631.out BK634.out (by decide)) (fun _ hk => hk.2) (.int .i64 t625)) (fun _ hk => hk.2) (.slice Ao103 t626.length co103)) (fun _ hk => hk.2) (.slice Ao104 t629.length co104)) (fun _ h_ => h_.1))) (by decide)) hk (fun _ h => h.2)) (fun _ h => h.1)); replace BK634 := Aside0.mk (KeepBut.blk hk (g' := gb634) (o := .cells #[.int .i64 t625, .slice Ao103 t626.length co103, .slice Ao104 t629.length co104] 41 (0, 0)) (by refine bk ?_; refine blk_put (cs := #[.int .i64 t625, .slice Ao103 t626.length co103, .slice none 0 0]) ?_ 2 _ rfl; refine bk ?_; refine blk_put (cs := #[.int .i64 t625, .slice none 0 0, .slice none 0 0]) ?_ 1 _ rfl; refine bk ?_; refine blk_put (cs := #[.int .i64 0, .slice none 0 0, .slice none 0 0]) ?_ 0 _ rfl; refine bk ?_; exact BK634.out) NB634_0.out (by simp)); replace HK := Aside0.mk (KeepBut.trans (kp HK.out) hk (.inl rfl)); replace HB := Aside0.mk (hb); replace HI0 := Aside0.mk (hi); (try clear hb); (try clear hb2); (try clear hk); (try clear hi)) | ((with_reducible refine gate_callee (f := 78) rfl ?_); refine goesL_ (some 13) rfl rfl Try.func78 (by kernel_rfl) rfl #[.pointer (some ⟨g, 0, none⟩), .int .i64 14] rfl mapd ?_; (with_reducible refine (spec_l01Below.calls g s0_0 t636 t637 14 t638 t639 t640 w0 _ ?side1 ?side2 A4.out).mono ?_); (case side1 => exact is116 HI0.out); (case side2 => exact bl116 HB.out); rintro e w106 ⟨rfl, hi, hb, hk⟩; refine ⟨_, rfl, ?_⟩; replace BK624 := Aside0.mk (KeepBut.blk hk (g' := gb624) (o := .cells #[.int .i64 0, .slice none 0 0, .slice none 0 0] 41 (0, 0)) (bk BK624.out) NB624_0.out (by simp)); replace HO628 := Aside0.mk (Kd.R_mono (Kd.R_keep (IsS116.apart (show IsS116 w0 _ g s0_0 t636 t637 from is116 HI0.out) (rk HO628.out) (by decide)) hk (fun _ h => h.2)) (fun _ h => h.1)); replace HO631 := Aside0.mk (Kd.R_mono (Kd.R_keep (IsS116.apart (show IsS116 w0 _ g s0_0 t636 t637 from is116 HI0.out) (rk HO631.out) (by decide)) hk (fun _ h => h.2)) (fun _ h => h.1)); replace BK634 := Aside0.mk (KeepBut.blk hk (g' := gb634) (o := .cells #[.int .i64 t625, .slice Ao103 t626.length co103, .slice Ao104 t629.length co104] 41 (0, 0)) (bk BK634.out) NB634_0.out (by simp)); replace HK := Aside0.mk (KeepBut.trans (kp HK.out) hk (.inl rfl)); replace HB := Aside0.mk (hb); replace HI0 := Aside0.mk (hi); (try clear hb); (try clear hb2); (try clear hk); (try clear hi); obtain ⟨hcz107_0, hcz107_1, hcz107_2, hfz107_0, hfz107_1, hfz107_2⟩ := cz3 BK634.out; have hnb108 := NB624_0.out; have hnc108 := NB0_624.out; obtain ⟨hcz109_0, hcz109_1, hcz109_2, hfz109_0, hfz109_1, hfz109_2⟩ := cz3 BK624.out))
      refine bodyPost_ret (results_cell_row rfl _ _ gb624 41 #[.int .i64 t625, .slice Ao103 t626.length co103, .slice none 0 0] (0, 0) _ rfl (by refine bk ?_; refine blk_put (cs := #[.int .i64 t625, .slice Ao103 t626.length co103, .slice none 0 0]) ?_ 2 _ rfl; refine bk ?_; refine blk_put (cs := #[.int .i64 t625, .slice none 0 0, .slice none 0 0]) ?_ 1 _ rfl; refine bk ?_; refine blk_put (cs := #[.int .i64 0, .slice none 0 0, .slice none 0 0]) ?_ 0 _ rfl; refine bk ?_; refine blk_far ?_ NB624_634.out _; refine bk ?_; exact BK624.out) Try.underlying41 rfl (by kernel_rfl)) rfl ?_
      exact ⟨_, _, by first | rfl | (simp [errW_none, errW_some] <;> rfl) | (simp [*, errW_none, errW_some] <;> rfl), by refine rk ?_; exact Kd.R_mono (Kd.R_far (p := ⟨gb624, 2, none⟩) (Kd.R_far (p := ⟨gb624, 1, none⟩) (Kd.R_far (p := ⟨gb624, 0, none⟩) (Kd.R_far (p := ⟨gb634, 2, none⟩) (Kd.R_types (Kd.R_types HO628.out BK634.out (by decide)) BK624.out (by decide)) (fun _ hk => hk.1.2) (.slice none 0 0)) (fun _ hk => hk.2) (.int .i64 t625)) (fun _ hk => hk.2) (.slice Ao103 t626.length co103)) (fun _ hk => hk.2) (.slice none 0 0)) (fun _ hk => trivial), by first | exact Kd.R_nil _ _ _ _ _ | exact Kd.N_nil _ _ _ _ _ | exact Kd.V_nil _ _ _ _ _ | exact Kd.Q_nil _ _ _ _ _ | exact Kd.S_nil _ _ _ _ _, is116 HI0.out, bl116 HB.out, kp HK.out⟩
     ·rw [if_neg c96] at H
      have c96b0 : (t638 == 4) = false := beq_eq_false_iff_ne.mpr c96
      have c96b1 : (t638 != 4) = true := bne_iff_ne.mpr c96
      simp only [Option.some.injEq, Prod.mk.injEq] at H
      obtain ⟨rfl, rfl, rfl, rfl, rfl⟩ := H
      go_enter Try.func76, Try.ntmps76
      go_wp2_with (first | ((with_reducible refine gate_dst (N := 2) rfl ?_); refine bx (cs := #[.int .i64 0, .slice none 0 0, .slice none 0 0]) (t := 41) fun gb624 hg w110 hbox hb => ?_; replace HB := Aside0.mk (below_step (bl116 HB.out) hb); have BK624 := Aside0.mk (hbox); have GW624 := Aside0.mk ((ks HK.out hg)); have GE624 := Aside0.mk ((Nat.le_trans HW0.out (ks HK.out hg) : w0.heap.size ≤ gb624)); replace HK := Aside0.mk (KeepBut.trans (kp HK.out) (KeepBut.of_below hb g none) (.inl rfl)); have NB0_624 := Aside0.mk ((by rw [hg]; exact Nat.ne_of_lt (IsS116.lt (show IsS116 w0 _ g s0_0 s0_1 s0_2 from is116 HI0.out)) : g ≠ gb624)); have NB624_0 := Aside0.mk ((by rw [hg]; exact Nat.ne_of_gt (IsS116.lt (show IsS116 w0 _ g s0_0 s0_1 s0_2 from is116 HI0.out)) : gb624 ≠ g)); replace HI0 := Aside0.mk (IsS116.below (is116 HI0.out) hb); clear hb hbox hg) | ((with_reducible refine gate_callee (f := 112) rfl ?_); refine goesL_ (some 6) rfl rfl Try.func112 (by kernel_rfl) rfl #[.pointer (some ⟨g, 0, none⟩), .int .i64 1] rfl mapd ?_; (with_reducible refine (spec_l02Column.calls k g s0_0 s0_1 s0_2 1 t625 t626 t629 t632 t633 w0 _ ?side1 ?side2 A2.out).mono ?_); (case side1 => exact is116 HI0.out); (case side2 => exact bl116 HB.out); rintro e w111 ⟨v627, v630, rfl, ho0, ho1, hi, hb, hk⟩; refine ⟨_, rfl, ?_⟩; replace BK624 := Aside0.mk (KeepBut.blk hk (g' := gb624) (o := .cells #[.int .i64 0, .slice none 0 0, .slice none 0 0] 41 (0, 0)) (bk BK624.out) NB624_0.out (by simp)); have HO628 := Aside0.mk (Kd.R_lower ho0 (keep_size (w := w) (g := g) (row := none) (kp HK.out))); have HO631 := Aside0.mk (Kd.R_lower ho1 (keep_size (w := w) (g := g) (row := none) (kp HK.out))); replace HK := Aside0.mk (KeepBut.trans (kp HK.out) hk (.inl rfl)); replace HB := Aside0.mk (hb); replace HI0 := Aside0.mk (hi); (try clear hb); (try clear hb2); (try clear hk); (try clear hi); (try clear ho0); (try clear ho1)) | ((with_reducible refine gate_dst (N := 3) rfl ?_); refine bx (cs := #[.int .i64 0, .slice none 0 0, .slice none 0 0]) (t := 41) fun gb634 hg w112 hbox hb => ?_; replace HO628 := Aside0.mk (Kd.R_below (rk HO628.out) hb); replace HO631 := Aside0.mk (Kd.R_below (rk HO631.out) hb); replace HB := Aside0.mk (below_step (bl116 HB.out) hb); have BK634 := Aside0.mk (hbox); have GW634 := Aside0.mk ((ks HK.out hg)); have GE634 := Aside0.mk ((Nat.le_trans HW0.out (ks HK.out hg) : w0.heap.size ≤ gb634)); replace HK := Aside0.mk (KeepBut.trans (kp HK.out) (KeepBut.of_below hb g none) (.inl rfl)); have NB624_634 := Aside0.mk ((nl BK624.out hg)); have NB634_624 := Aside0.mk ((ng BK624.out hg)); replace BK624 := Aside0.mk (bb BK624.out hb); have NB0_634 := Aside0.mk ((by rw [hg]; exact Nat.ne_of_lt (IsS116.lt (show IsS116 w0 _ g s0_0 t632 t633 from is116 HI0.out)) : g ≠ gb634)); have NB634_0 := Aside0.mk ((by rw [hg]; exact Nat.ne_of_gt (IsS116.lt (show IsS116 w0 _ g s0_0 t632 t633 from is116 HI0.out)) : gb634 ≠ g)); replace HI0 := Aside0.mk (IsS116.below (is116 HI0.out) hb); clear hb hbox hg; have hnb113 := NB634_624.out; have hnc113 := NB624_634.out; have hnb114 := NB634_0.out; have hnc114 := NB0_634.out; obtain ⟨hcz115_0, hcz115_1, hcz115_2, hfz115_0, hfz115_1, hfz115_2⟩ := cz3 BK634.out; obtain ⟨Ao116, co116, eo116⟩ := Kd.R_slice HO628.out; subst eo116; obtain ⟨Ao117, co117, eo117⟩ := Kd.R_slice HO631.out; subst eo117) | ((with_reducible refine gate_callee (f := 78) rfl ?_); refine goesL_ (some 11) rfl rfl Try.func78 (by kernel_rfl) rfl #[.pointer (some ⟨g, 0, none⟩), .int .i64 (t629.length : Int)] rfl mapd ?_; (with_reducible refine (spec_l01Below.calls g s0_0 t632 t633 (t629.length : Int) t635 t636 t637 w0 _ ?side1 ?side2 A3.out).mono ?_); (case side1 => exact is116 HI0.out); (case side2 => exact bl116 HB.out); rintro e w118 ⟨rfl, hi, hb, hk⟩; refine ⟨_, rfl, ?_⟩; replace BK624 := Aside0.mk (KeepBut.blk hk (g' := gb624) (o := .cells #[.int .i64 0, .slice none 0 0, .slice none 0 0] 41 (0, 0)) (bf BK624.out) NB624_0.out (by simp)); replace HO628 := Aside0.mk (Kd.R_mono (Kd.R_keep (IsS116.apart (show IsS116 w0 _ g s0_0 t632 t633 from is116 HI0.out) (by refine rk ?_; exact (Kd.R_mono (Kd.R_far (p := ⟨gb634, 2, none⟩) (Kd.R_far (p := ⟨gb634, 1, none⟩) (Kd.R_far (p := ⟨gb634, 0, none⟩) (Kd.R_types HO628.out BK634.out (by decide)) (fun _ hk => hk.2) (.int .i64 t625)) (fun _ hk => hk.2) (.slice Ao116 t626.length co116)) (fun _ hk => hk.2) (.slice Ao117 t629.length co117)) (fun _ h_ => h_.1))) (by decide)) hk (fun _ h => h.2)) (fun _ h => h.1)); replace HO631 := Aside0.mk (Kd.R_mono (Kd.R_keep (IsS116.apart (show IsS116 w0 _ g s0_0 t632 t633 from is116 HI0.out) (by refine rk ?_; exact (Kd.R_mono (Kd.R_far (p := ⟨gb634, 2, none⟩) (Kd.R_far (p := ⟨gb634, 1, none⟩) (Kd.R_far (p := ⟨gb634, 0, none⟩) (Kd.R_types HO631.out BK634.out (by decide)) (fun _ hk => hk.2) (.int .i64 t625)) (fun _ hk => hk.2) (.slice Ao116 t626.length co116)) (fun _ hk => hk.2) (.slice Ao117 t629.length co117)) (fun _ h_ => h_.1))) (by decide)) hk (fun _ h => h.2)) (fun _ h => h.1)); replace BK634 := Aside0.mk (KeepBut.blk hk (g' := gb634) (o := .cells #[.int .i64 t625, .slice Ao116 t626.length co116, .slice Ao117 t629.length co117] 41 (0, 0)) (by refine bk ?_; refine blk_put (cs := #[.int .i64 t625, .slice Ao116 t626.length co116, .slice none 0 0]) ?_ 2 _ rfl; refine bk ?_; refine blk_put (cs := #[.int .i64 t625, .slice none 0 0, .slice none 0 0]) ?_ 1 _ rfl; refine bk ?_; refine blk_put (cs := #[.int .i64 0, .slice none 0 0, .slice none 0 0]) ?_ 0 _ rfl; refine bk ?_; exact BK634.out) NB634_0.out (by simp)); replace HK := Aside0.mk (KeepBut.trans (kp HK.out) hk (.inl rfl)); replace HB := Aside0.mk (hb); replace HI0 := Aside0.mk (hi); (try clear hb); (try clear hb2); (try clear hk); (try clear hi)) | ((with_reducible refine gate_callee (f := 78) rfl ?_); refine goesL_ (some 13) rfl rfl Try.func78 (by kernel_rfl) rfl #[.pointer (some ⟨g, 0, none⟩), .int .i64 14] rfl mapd ?_; (with_reducible refine (spec_l01Below.calls g s0_0 t636 t637 14 t638 t639 t640 w0 _ ?side1 ?side2 A4.out).mono ?_); (case side1 => exact is116 HI0.out); (case side2 => exact bl116 HB.out); rintro e w119 ⟨rfl, hi, hb, hk⟩; refine ⟨_, rfl, ?_⟩; replace BK624 := Aside0.mk (KeepBut.blk hk (g' := gb624) (o := .cells #[.int .i64 0, .slice none 0 0, .slice none 0 0] 41 (0, 0)) (bk BK624.out) NB624_0.out (by simp)); replace HO628 := Aside0.mk (Kd.R_mono (Kd.R_keep (IsS116.apart (show IsS116 w0 _ g s0_0 t636 t637 from is116 HI0.out) (rk HO628.out) (by decide)) hk (fun _ h => h.2)) (fun _ h => h.1)); replace HO631 := Aside0.mk (Kd.R_mono (Kd.R_keep (IsS116.apart (show IsS116 w0 _ g s0_0 t636 t637 from is116 HI0.out) (rk HO631.out) (by decide)) hk (fun _ h => h.2)) (fun _ h => h.1)); replace BK634 := Aside0.mk (KeepBut.blk hk (g' := gb634) (o := .cells #[.int .i64 t625, .slice Ao116 t626.length co116, .slice Ao117 t629.length co117] 41 (0, 0)) (bk BK634.out) NB634_0.out (by simp)); replace HK := Aside0.mk (KeepBut.trans (kp HK.out) hk (.inl rfl)); replace HB := Aside0.mk (hb); replace HI0 := Aside0.mk (hi); (try clear hb); (try clear hb2); (try clear hk); (try clear hi); obtain ⟨hcz120_0, hcz120_1, hcz120_2, hfz120_0, hfz120_1, hfz120_2⟩ := cz3 BK634.out; have hnb121 := NB624_0.out; have hnc121 := NB0_624.out; obtain ⟨hcz122_0, hcz122_1, hcz122_2, hfz122_0, hfz122_1, hfz122_2⟩ := cz3 BK624.out))
      refine bodyPost_ret (results_cell_row rfl _ _ gb624 41 #[.int .i64 t625, .slice Ao116 t626.length co116, .slice Ao117 t629.length co117] (0, 0) _ rfl (by refine bk ?_; refine blk_put (cs := #[.int .i64 t625, .slice Ao116 t626.length co116, .slice none 0 0]) ?_ 2 _ rfl; refine bk ?_; refine blk_put (cs := #[.int .i64 t625, .slice none 0 0, .slice none 0 0]) ?_ 1 _ rfl; refine bk ?_; refine blk_put (cs := #[.int .i64 0, .slice none 0 0, .slice none 0 0]) ?_ 0 _ rfl; refine bk ?_; exact BK624.out) Try.underlying41 rfl (by kernel_rfl)) rfl ?_
      exact ⟨_, _, by first | rfl | (simp [errW_none, errW_some] <;> rfl) | (simp [*, errW_none, errW_some] <;> rfl), by refine rk ?_; exact Kd.R_mono (Kd.R_far (p := ⟨gb624, 2, none⟩) (Kd.R_far (p := ⟨gb624, 1, none⟩) (Kd.R_far (p := ⟨gb624, 0, none⟩) (Kd.R_types HO628.out BK624.out (by decide)) (fun _ hk => hk.2) (.int .i64 t625)) (fun _ hk => hk.2) (.slice Ao116 t626.length co116)) (fun _ hk => hk.2) (.slice Ao117 t629.length co117)) (fun _ hk => trivial), by refine rk ?_; exact Kd.R_mono (Kd.R_far (p := ⟨gb624, 2, none⟩) (Kd.R_far (p := ⟨gb624, 1, none⟩) (Kd.R_far (p := ⟨gb624, 0, none⟩) (Kd.R_types HO631.out BK624.out (by decide)) (fun _ hk => hk.2) (.int .i64 t625)) (fun _ hk => hk.2) (.slice Ao116 t626.length co116)) (fun _ hk => hk.2) (.slice Ao117 t629.length co117)) (fun _ hk => trivial), is116 HI0.out, bl116 HB.out, kp HK.out⟩
end Go.Proofs.Ytbpjidekjogfeaa.A
