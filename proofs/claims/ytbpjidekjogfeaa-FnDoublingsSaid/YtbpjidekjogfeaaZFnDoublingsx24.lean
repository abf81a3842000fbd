/- Used by the law FnDoublings. -/
import Derived.Test.YtbpjidekjogfeaaZFnDoublingsx16
import Derived.Test.YtbpjidekjogfeaaZFnDoublingsx19
import Derived.Test.YtbpjidekjogfeaaZFnDoublingsx20
import Derived.Test.YtbpjidekjogfeaaZFnDoublingsx22
import Derived.Test.YtbpjidekjogfeaaZFnDoublingsx23
import Derived.Test.YtbpjidekjogfeaaZFnDoublingsx18
import Derived.Test.YtbpjidekjogfeaaZFnDoublingsx21
import Derived.Test.YtbpjidekjogfeaaZFnDoublingsh
namespace Go.Proofs.Ytbpjidekjogfeaa.A
open Go.RowKit Go.Proofs.YtbpjidekjogfeaaW.PrintWords Go.Proofs.YtbpjidekjogfeaaW.PrintLast Go.Proofs.YtbpjidekjogfeaaW.PrintMore
attribute [local go_sem] max2_int min2_int max_two min_two max_three min_three max_four min_four   
set_option linter.unusedVariables false
set_option linter.unusedSimpArgs false
mutual
def spec_l02Column.j0 : Nat → Int → Int → List Int → List Int → Int → Int → Option (Int × List Int × (List (S98)) × Int × Int)
 | 0, _, _, _, _, _, _ => none
 | k + 1, x1, x5, x6, x1000, x1001, x1002 => (spec_NewColumn.f k x5 x6).bind fun bt572 => ((spec_l01Below.f x1000 x1001 x1002 7).bind fun bt581 => (spec_l02Column.l0 k x1 x5 bt581.1 x1000 bt581.2.1 bt581.2.2 bt572.1 bt572.2.1 bt572.2.2.1))
def spec_l02Column.l0 : Nat → Int → Int → Int → List Int → Int → Int → Int → List Int → List (S98) → Option (Int × List Int × (List (S98)) × Int × Int)
 | 0, _, _, _, _, _, _, _, _, _ => none
 | k + 1, x1, x5, x9, x1000, x1001, x1002, x581000, x581001, x581002 => if x9 > 0 then ((spec_l01Below.f x1000 x1001 x1002 6).bind fun bt584 => ((spec_l01Below.f x1000 bt584.2.1 bt584.2.2 6).bind fun bt587 => (if bt587.1 = 0 then (spec_l02Column.j2 k x1 x5 x9 (wrap64 (x1 + bt584.1)) bt587.1 (bt587.1 == 0) x1000 bt587.2.1 bt587.2.2 x581000 x581001 x581002) else (spec_l02Column.j2 k x1 x5 x9 (wrap64 (x1 + bt584.1)) bt587.1 (bt587.1 == 1) x1000 bt587.2.1 bt587.2.2 x581000 x581001 x581002)))) else (some (x581000, x581001, x581002, x1001, x1002))
def spec_l02Column.j2 : Nat → Int → Int → Int → Int → Int → Bool → List Int → Int → Int → Int → List Int → List (S98) → Option (Int × List Int × (List (S98)) × Int × Int)
 | 0, _, _, _, _, _, _, _, _, _, _, _, _ => none
 | k + 1, x1, x5, x9, x10, x42, x53, x1000, x1001, x1002, x581000, x581001, x581002 => if x53 = true then ((spec_TakeOut.f k x581000 x581001 x581002 x10).bind fun bt590 => (spec_l02Column.l0 k x1 x5 (wrap64 (x9 - 1)) x1000 x1001 x1002 bt590.1 bt590.2.1 bt590.2.2.1)) else (if x42 = 2 then ((spec_l01Below.f x1000 x1001 x1002 x5).bind fun bt598 => ((spec_l01Once.f x1000 bt598.2.1 bt598.2.2 3).bind fun bt601 => ((spec_SetJam.f k x581000 x581001 x581002 bt598.1 bt601.1).bind fun bt604 => (spec_l02Column.l0 k x1 x5 (wrap64 (x9 - 1)) x1000 bt601.2.1 bt601.2.2 bt604.1 bt604.2.1 bt604.2.2.1)))) else ((spec_l01Below.f x1000 x1001 x1002 4).bind fun bt612 => ((spec_PutIn.f k x581000 x581001 x581002 x10 (wrap64 (1 + bt612.1))).bind fun bt615 => (spec_l02Column.l0 k x1 x5 (wrap64 (x9 - 1)) x1000 bt612.2.1 bt612.2.2 bt615.1 bt615.2.1 bt615.2.2.1))))
end
def spec_l02Column.f (k : Nat) (s0_0 : List Int) (s0_1 : Int) (s0_2 : Int) (a1 : Int) : Option (Int × List Int × (List (S98)) × Int × Int) := (spec_l01Below.f s0_0 s0_1 s0_2 9).bind fun bt557 => ((some (([] : List Int) : List Int)).bind fun y560 => ((spec_l01Once.f s0_0 bt557.2.1 bt557.2.2 2).bind fun bt563 => (if bt563.1 = true then ((spec_l01Below.f s0_0 bt563.2.1 bt563.2.2 (wrap64 ((wrap64 (4 + bt557.1)) - 2))).bind fun bt566 => (if y560.length < 17592186044416 then (spec_l02Column.j0 k a1 (wrap64 (4 + bt557.1)) (y560 ++ [wrap64 (1 + bt566.1)]) s0_0 bt566.2.1 bt566.2.2) else (none))) else (spec_l02Column.j0 k a1 (wrap64 (4 + bt557.1)) y560 s0_0 bt563.2.1 bt563.2.2))))
def spec_l02Column.T11 : Bool × List (List Nat × List Nat) := (true, [([], []), ([], []), ([], []), ([2], [2]), ([3], [3]), ([0, 1, 4, 3], [0, 1, 4]), ([5], [5]), ([6], [6]), ([6], [6]), ([6], [6]), ([7, 5, 0, 1, 2, 3, 4, 5, 6, 7], [7])])
def spec_l02Column.B11 : List Nat := [0, 0, 0, 4, 12, 31, 63, 127, 127, 127, 255]
theorem spec_l02Column.tab11 : rtab .any (opsOf Try.f112 11) = spec_l02Column.T11 := by kernel_rfl
theorem spec_l02Column.bits11 : waitsOk spec_l02Column.T11.2 spec_l02Column.B11 = true := by kernel_rfl
def spec_l02Column.T16 : Bool × List (List Nat × List Nat) := (true, [([], []), ([], []), ([], []), ([1, 2], [1, 2]), ([], []), ([4, 3], [4]), ([0, 3, 5, 5], [0, 3, 5]), ([6], [6]), ([7], [7]), ([7], [7]), ([8, 6, 0, 1, 2, 3, 4, 5, 6, 7, 8], [8])])
def spec_l02Column.B16 : List Nat := [0, 0, 0, 6, 0, 30, 63, 127, 255, 255, 511]
theorem spec_l02Column.tab16 : rtab .any (opsOf Try.f112 16) = spec_l02Column.T16 := by kernel_rfl
theorem spec_l02Column.bits16 : waitsOk spec_l02Column.T16.2 spec_l02Column.B16 = true := by kernel_rfl
set_option maxHeartbeats 8000000 in
set_option maxRecDepth 100000 in
theorem spec_l02Column.calls (k : Nat) (g : Nat) (s0_0 : List Int) (s0_1 : Int) (s0_2 : Int) (a1 : Int) (r1 : Int) (r2 : List Int) (r3 : List (S98)) (r4 : Int) (r5 : Int) (w0 w : World) (hI : IsS116 w0 w g s0_0 s0_1 s0_2) (hB : Below w0.heap.size w0 w) (h : spec_l02Column.f k s0_0 s0_1 s0_2 a1 = some (r1, r2, r3, r4, r5)) :
  Calls Try.prog 112 #[.pointer (some ⟨g, 0, none⟩), .int .i64 a1] w fun e w' => ∃ v1_ v2_ : Value, e = .returned (.agg #[.int .i64 r1, v1_, v2_]) ∧ Kd.R (Kd.int .i64) 3 w' w.heap.size (fun _ => True) v1_ r2 ∧ Kd.R k98 98 w' w.heap.size (fun _ => True) v2_ r3 ∧ IsS116 w0 w' g s0_0 r4 r5 ∧ Below w0.heap.size w0 w' ∧ KeepBut w w' g none := by
 have hu41 := Try.underlying41
 have HI0 := Aside0.mk hI
 have HK := Aside0.mk (KeepBut.refl w g none)
 have HL := Aside0.mk hB.size
 clear hI
 have HW0 := Aside0.mk hB.size
 have HB := Aside0.mk hB
 clear hB
 have H : ((spec_l01Below.f s0_0 s0_1 s0_2 9).bind fun bt557 => ((some (([] : List Int) : List Int)).bind fun y560 => ((spec_l01Once.f s0_0 bt557.2.1 bt557.2.2 2).bind fun bt563 => (if bt563.1 = true then ((spec_l01Below.f s0_0 bt563.2.1 bt563.2.2 (wrap64 ((wrap64 (4 + bt557.1)) - 2))).bind fun bt566 => (if y560.length < 17592186044416 then (spec_l02Column.j0 k a1 (wrap64 (4 + bt557.1)) (y560 ++ [wrap64 (1 + bt566.1)]) s0_0 bt566.2.1 bt566.2.2) else (none))) else (spec_l02Column.j0 k a1 (wrap64 (4 + bt557.1)) y560 s0_0 bt563.2.1 bt563.2.2))))) = some (r1, r2, r3, r4, r5) := h
 clear h
 replace H := Option.bind_eq_some_iff.mp H
 obtain ⟨⟨t557, t558, t559⟩, A30, H⟩ := H
 try dsimp only at H
 have A3 := Aside0.mk A30
 clear A30
 obtain ⟨y560, hy560⟩ : ∃ y_ : List Int, y_ = (([] : List Int)) := ⟨_, rfl⟩
 replace H : ((spec_l01Once.f s0_0 t558 t559 2).bind fun bt563 => (if bt563.1 = true then ((spec_l01Below.f s0_0 bt563.2.1 bt563.2.2 (wrap64 ((wrap64 (4 + t557)) - 2))).bind fun bt566 => (if y560.length < 17592186044416 then (spec_l02Column.j0 k a1 (wrap64 (4 + t557)) (y560 ++ [wrap64 (1 + bt566.1)]) s0_0 bt566.2.1 bt566.2.2) else (none))) else (spec_l02Column.j0 k a1 (wrap64 (4 + t557)) y560 s0_0 bt563.2.1 bt563.2.2))) = some (r1, r2, r3, r4, r5) := by first | (rw [hy560]; with_reducible exact H) | (have H2_ := (Option.bind_some _ _).symm.trans H; rw [hy560]; with_reducible exact H2_) | (have H2_ := (Option.bind_some _ _).symm.trans H; with_reducible exact H2_) | with_reducible exact H | (rw [hy560]; exact H) | exact H
 have Ny560 := Aside0.mk hy560
 clear hy560
 replace H := Option.bind_eq_some_iff.mp H
 obtain ⟨⟨t563, t564, t565⟩, A40, H⟩ := H
 try dsimp only at H
 have A4 := Aside0.mk A40
 clear A40
 have HC5 := Aside0.mk H
 clear H
 go_enter Try.func112, Try.ntmps112
 go_upto_if 16 with (first | ((with_reducible refine gate_dst (N := 4) rfl ?_); refine bx (cs := #[.int .i64 0, .slice none 0 0, .slice none 0 0]) (t := 41) fun gb556 hg w6 hbox hb => ?_; replace HB := Aside0.mk (below_step (bl116 HB.out) hb); have BK556 := Aside0.mk (hbox); have GW556 := Aside0.mk ((ks HK.out hg)); have GE556 := Aside0.mk ((Nat.le_trans HW0.out (ks HK.out hg) : w0.heap.size ≤ gb556)); replace HK := Aside0.mk (KeepBut.trans (kp HK.out) (KeepBut.of_below hb g none) (.inl rfl)); have NB0_556 := Aside0.mk ((by rw [hg]; exact Nat.ne_of_lt (IsS116.lt (show IsS116 w0 _ g s0_0 s0_1 s0_2 from is116 HI0.out)) : g ≠ gb556)); have NB556_0 := Aside0.mk ((by rw [hg]; exact Nat.ne_of_gt (IsS116.lt (show IsS116 w0 _ g s0_0 s0_1 s0_2 from is116 HI0.out)) : gb556 ≠ g)); replace HI0 := Aside0.mk (IsS116.below (is116 HI0.out) hb); clear hb hbox hg) | ((with_reducible refine gate_callee (f := 78) rfl ?_); refine goesL_ (some 12) rfl rfl Try.func78 (by kernel_rfl) rfl #[.pointer (some ⟨g, 0, none⟩), .int .i64 9] rfl mapd ?_; (with_reducible refine (spec_l01Below.calls g s0_0 s0_1 s0_2 9 t557 t558 t559 w0 _ ?side1 ?side2 A3.out).mono ?_); (case side1 => exact is116 HI0.out); (case side2 => exact bl116 HB.out); rintro e w7 ⟨rfl, hi, hb, hk⟩; refine ⟨_, rfl, ?_⟩; replace BK556 := Aside0.mk (KeepBut.blk hk (g' := gb556) (o := .cells #[.int .i64 0, .slice none 0 0, .slice none 0 0] 41 (0, 0)) (bk BK556.out) NB556_0.out (by simp)); replace HK := Aside0.mk (KeepBut.trans (kp HK.out) hk (.inl rfl)); replace HB := Aside0.mk (hb); replace HI0 := Aside0.mk (hi); (try clear hb); (try clear hb2); (try clear hk); (try clear hi)) | ((with_reducible refine gate_dst (N := 14) rfl ?_); refine Kd.R_lit (Kd.int .i64) _ 3 ?hg (N := 14) ?hd (xs := ([] : List Int)) (inner := []) (ok := fun _ => True) (okp := fun _ => True) ?hr ?hp (fun _ hk => hk) trivial (Below.refl _ _) (Nat.le_refl _) (by simp) ?_; (case hd => rfl); (case hg => rfl); (case hr => first | (go_simp; done) | (go_simp; rfl)); (case hp => exact (Reps.none _ _)); intro v561 w8 ho9 hb hg_ hnew_; clear hg_ hnew_; (first | rw [← Ny560.out] at ho9 | (simp only [Int.reduceToNat] at ho9; rw [← Ny560.out] at ho9)); have HO562 := Aside0.mk (Kd.R_lower ho9 (keep_size (w := w) (g := g) (row := none) (kp HK.out))); replace HI0 := Aside0.mk (IsS116.below (is116 HI0.out) hb); replace BK556 := Aside0.mk (bb BK556.out hb); replace HK := Aside0.mk (KeepBut.trans (kp HK.out) (KeepBut.of_below hb g none) (.inl rfl)); replace HB := Aside0.mk (below_step (bl116 HB.out) hb); clear hb ho9) | ((with_reducible refine gate_callee (f := 123) rfl ?_); refine goesL_ (some 16) rfl rfl Try.func123 (by kernel_rfl) rfl #[.pointer (some ⟨g, 0, none⟩), .int .i64 2] rfl mapd ?_; (with_reducible refine (spec_l01Once.calls g s0_0 t558 t559 2 t563 t564 t565 w0 _ ?side1 ?side2 A4.out).mono ?_); (case side1 => exact is116 HI0.out); (case side2 => exact bl116 HB.out); rintro e w10 ⟨rfl, hi, hb, hk⟩; refine ⟨_, rfl, ?_⟩; replace BK556 := Aside0.mk (KeepBut.blk hk (g' := gb556) (o := .cells #[.int .i64 0, .slice none 0 0, .slice none 0 0] 41 (0, 0)) (bk BK556.out) NB556_0.out (by simp)); replace HO562 := Aside0.mk (Kd.R_mono (Kd.R_keep (IsS116.apart (show IsS116 w0 _ g s0_0 t558 t559 from is116 HI0.out) (rk HO562.out) (by decide)) hk (fun _ h => h.2)) (fun _ h => h.1)); replace HK := Aside0.mk (KeepBut.trans (kp HK.out) hk (.inl rfl)); replace HB := Aside0.mk (hb); replace HI0 := Aside0.mk (hi); (try clear hb); (try clear hb2); (try clear hk); (try clear hi)))
 (try simp only [Act.put, List.setIfInBounds_toArray, List.set_cons_zero, List.set_cons_succ])
 go_cut [6] (fun v6 wc => ∃ (kq : Nat) (x6_4 : List Int) (x1001_4 : Int) (x1002_4 : Int), Aside0 (spec_l02Column.j0 kq a1 (wrap64 (4 + t557)) x6_4 s0_0 x1001_4 x1002_4 = some (r1, r2, r3, r4, r5)) ∧ Aside0 (kq ≤ k) ∧ Aside0 (Kd.R (Kd.int .i64) 3 wc w.heap.size (fun _ => True) v6 x6_4) ∧ Aside0 (wc.heap[gb556]? = some (.cells #[.int .i64 0, (.slice none 0 0), (.slice none 0 0)] 41 (0, 0))) ∧ Aside0 (IsS116 w0 wc g s0_0 x1001_4 x1002_4) ∧ Aside0 (KeepBut w wc g none) ∧ Aside0 (Below w0.heap.size w0 wc))
 case first =>
  have H := HC5.out
  clear HC5
  by_cases c11 : t563 = true
  ·subst c11
   rw [if_pos rfl] at H
   replace H := Option.bind_eq_some_iff.mp H
   obtain ⟨⟨t566, t567, t568⟩, A120, H⟩ := H
   try dsimp only at H
   have A12 := Aside0.mk A120
   clear A120
   by_cases c13 : y560.length < 17592186044416
   ·rw [if_pos c13] at H
    have LMc13 := Aside0.mk c13
    clear c13
    obtain ⟨y569, hy569⟩ : ∃ y_ : List Int, y_ = (y560 ++ [wrap64 (1 + t566)]) := ⟨_, rfl⟩
    replace H : (spec_l02Column.j0 k a1 (wrap64 (4 + t557)) y569 s0_0 t567 t568) = some (r1, r2, r3, r4, r5) := by first | (rw [hy569]; with_reducible exact H) | (have H2_ := (Option.bind_some _ _).symm.trans H; rw [hy569]; with_reducible exact H2_) | (have H2_ := (Option.bind_some _ _).symm.trans H; with_reducible exact H2_) | with_reducible exact H | (rw [hy569]; exact H) | exact H
    have Ny569 := Aside0.mk hy569
    clear hy569
    have H' := Aside0.mk H
    clear H
    go_wp2_with (first | ((with_reducible refine gate_callee (f := 78) rfl ?_); refine goesL_ (some 21) rfl rfl Try.func78 (by kernel_rfl) rfl #[.pointer (some ⟨g, 0, none⟩), .int .i64 (wrap64 ((wrap64 (4 + t557)) - 2))] rfl mapd ?_; (with_reducible refine (spec_l01Below.calls g s0_0 t564 t565 (wrap64 ((wrap64 (4 + t557)) - 2)) t566 t567 t568 w0 _ ?side1 ?side2 A12.out).mono ?_); (case side1 => exact is116 HI0.out); (case side2 => exact bl116 HB.out); rintro e w14 ⟨rfl, hi, hb, hk⟩; refine ⟨_, rfl, ?_⟩; replace BK556 := Aside0.mk (KeepBut.blk hk (g' := gb556) (o := .cells #[.int .i64 0, .slice none 0 0, .slice none 0 0] 41 (0, 0)) (bk BK556.out) NB556_0.out (by simp)); replace HO562 := Aside0.mk (Kd.R_mono (Kd.R_keep (IsS116.apart (show IsS116 w0 _ g s0_0 t564 t565 from is116 HI0.out) (rk HO562.out) (by decide)) hk (fun _ h => h.2)) (fun _ h => h.1)); replace HK := Aside0.mk (KeepBut.trans (kp HK.out) hk (.inl rfl)); replace HB := Aside0.mk (hb); replace HI0 := Aside0.mk (hi); (try clear hb); (try clear hb2); (try clear hk); (try clear hi)) | ((with_reducible refine gate_builtin (b := .append) (xs := #[.tmp 17, .tmp 23]) rfl ?_); at_builtin; refine Kd.R_append (Kd.int .i64) w.heap.size rfl (.tmp 17) (.tmp 23) 38 3 (.int .i64 0) 8 rfl Try.underlying38 info3 rfl (by decide) (by omega) v561 y560 (wrap64 (1 + t566)) [.int .i64 (wrap64 (1 + t566))] (fun _ => True) (fun _ => False) rfl rfl ?aP (fun _ hk => hk.elim) ?aF ?aO (Below.refl _ _) ?aS ?aL ?_; (case aP => exact rfl); (case aF => exact (fun _ _ => trivial)); (case aO => exact (rk HO562.out)); (case aS => exact (keep_size (w := w) (g := g) (row := none) (kp HK.out))); (case aL => have := LMc13.out; omega); intro v570 w15 ho hb hg hat; rw [← Ny569.out] at ho; replace HI0 := Aside0.mk (IsS116.grown (is116 HI0.out) hg (IsS116.own_ne HI0.out HO562.out (by decide))); replace BK556 := Aside0.mk (blk_grown (g := gb556) (o := .cells #[.int .i64 0, .slice none 0 0, .slice none 0 0] 41 (0, 0)) (bk BK556.out) hg (Kd.R_ne HO562.out BK556.out (by decide))); replace HB := Aside0.mk (below_weaken (bl116 HB.out) HL.out hb); replace HK := Aside0.mk (KeepBut.trans (kp HK.out) (KeepBut.of_grown hg g) (Kd.R_base2 HO562.out)); have HO571 := Aside0.mk (ho); clear HO562; clear ho hb hg hat))
    go_meet
    case rel => exact ⟨_, (y569), (t567), (t568), H', ⟨by first | omega | exact Nat.le_refl _⟩, ⟨rk HO571.out⟩, ⟨by refine bk ?_; exact BK556.out⟩, ⟨is116 HI0.out⟩, ⟨kp HK.out⟩, ⟨bl116 HB.out⟩⟩
   ·rw [if_neg c13] at H
    exact absurd H (by simp)
  ·replace c11 := Bool.eq_false_iff.mpr c11
   subst c11
   rw [if_neg (show ¬ (false = true) by decide)] at H
   have H' := Aside0.mk H
   clear H
   go_wp2
   go_meet
   case rel => exact ⟨_, (y560), (t564), (t565), H', ⟨by first | omega | exact Nat.le_refl _⟩, ⟨rk HO562.out⟩, ⟨by refine bk ?_; exact BK556.out⟩, ⟨is116 HI0.out⟩, ⟨kp HK.out⟩, ⟨bl116 HB.out⟩⟩
 case rest =>
  clear HC5
  try clear c1
  try clear p2
  try clear p6
  try clear c7
  try clear c11
  try clear c12
  try clear c13
  obtain ⟨kq, x6_4, x1001_4, x1002_4, HA, HJ4, HO_6, BK556, HI0, HK, HB⟩ := hcut
  cases kq with
  | zero => exact absurd HA.out (by simp [spec_l02Column.j0])
  | succ kj4 =>
   have H := HA.out
   clear HA
   simp only [spec_l02Column.j0] at H
   replace H := Option.bind_eq_some_iff.mp H
   obtain ⟨⟨t572, t573, t576, t579⟩, A160, H⟩ := H
   try dsimp only at H
   have A16 := Aside0.mk A160
   clear A160
   replace H := Option.bind_eq_some_iff.mp H
   obtain ⟨⟨t581, t582, t583⟩, A170, H⟩ := H
   try dsimp only at H
   have A17 := Aside0.mk A170
   clear A170
   have H' := Aside0.mk H
   clear H
   obtain ⟨Ao18, co18, eo18⟩ := Kd.R_slice HO_6.out
   subst eo18
   go_wp2_with (first | ((with_reducible refine gate_callee (f := 122) rfl ?_); refine goesL_ (some 28) rfl rfl Try.func122 (by kernel_rfl) rfl #[.int .i64 (wrap64 (4 + t557)), .slice Ao18 x6_4.length co18] rfl mapd ?_; (with_reducible refine (spec_NewColumn.calls kj4 (wrap64 (4 + t557)) _ _ x6_4 t572 t573 t576 t579 _ ?side1 ?side2 A16.out).mono ?_); (case side1 => exact cb ((Kd.R_reads' HO_6.out).2.2)); (case side2 => exact (Kd.R_reads' HO_6.out).2.1); rintro e w19 ⟨v574, v577, rfl, ho0, ho1, hb⟩; refine ⟨_, rfl, ?_⟩; have HO575 := Aside0.mk (Kd.R_lower (Kd.R_new' ho0 (Kd.R_lt (rk HO_6.out))) (keep_size (w := w) (g := g) (row := none) (kp HK.out))); replace HO_6 := Aside0.mk (Kd.R_elder' (rk HO_6.out) (Kd.R_base ho0) hb); have HO578 := Aside0.mk (Kd.R_lower ho1 (keep_size (w := w) (g := g) (row := none) (kp HK.out))); replace BK556 := Aside0.mk (bb BK556.out hb); replace HI0 := Aside0.mk (IsS116.below (is116 HI0.out) hb); replace HK := Aside0.mk (KeepBut.trans (kp HK.out) (KeepBut.of_below hb g none) (.inl rfl)); replace HB := Aside0.mk (below_step (bl116 HB.out) hb); (try clear hb); (try clear hb2); (try clear hk); (try clear hi); (try clear ho0); (try clear ho1)) | ((with_reducible refine gate_dst (N := 7) rfl ?_); refine bx (cs := #[.int .i64 0, .slice none 0 0, .slice none 0 0]) (t := 41) fun gb580 hg w20 hbox hb => ?_; replace HO_6 := Aside0.mk (Kd.R_below (rk HO_6.out) hb); replace HO575 := Aside0.mk (Kd.R_below (rk HO575.out) hb); replace HO578 := Aside0.mk (Kd.R_below (rk HO578.out) hb); replace HB := Aside0.mk (below_step (bl116 HB.out) hb); have BK580 := Aside0.mk (hbox); have GW580 := Aside0.mk ((ks HK.out hg)); have GE580 := Aside0.mk ((Nat.le_trans HW0.out (ks HK.out hg) : w0.heap.size ≤ gb580)); replace HK := Aside0.mk (KeepBut.trans (kp HK.out) (KeepBut.of_below hb g none) (.inl rfl)); have NB556_580 := Aside0.mk ((nl BK556.out hg)); have NB580_556 := Aside0.mk ((ng BK556.out hg)); replace BK556 := Aside0.mk (bb BK556.out hb); have NB0_580 := Aside0.mk ((by rw [hg]; exact Nat.ne_of_lt (IsS116.lt (show IsS116 w0 _ g s0_0 x1001_4 x1002_4 from is116 HI0.out)) : g ≠ gb580)); have NB580_0 := Aside0.mk ((by rw [hg]; exact Nat.ne_of_gt (IsS116.lt (show IsS116 w0 _ g s0_0 x1001_4 x1002_4 from is116 HI0.out)) : gb580 ≠ g)); replace HI0 := Aside0.mk (IsS116.below (is116 HI0.out) hb); clear hb hbox hg; have hnb21 := NB580_556.out; have hnc21 := NB556_580.out; have hnb22 := NB580_0.out; have hnc22 := NB0_580.out; obtain ⟨hcz23_0, hcz23_1, hcz23_2, hfz23_0, hfz23_1, hfz23_2⟩ := cz3 BK580.out; obtain ⟨Ao24, co24, eo24⟩ := Kd.R_slice HO575.out; subst eo24; obtain ⟨Ao25, co25, eo25⟩ := Kd.R_slice HO578.out; subst eo25) | ((with_reducible refine gate_callee (f := 78) rfl ?_); refine goesL_ (some 32) rfl rfl Try.func78 (by kernel_rfl) rfl #[.pointer (some ⟨g, 0, none⟩), .int .i64 7] rfl mapd ?_; (with_reducible refine (spec_l01Below.calls g s0_0 x1001_4 x1002_4 7 t581 t582 t583 w0 _ ?side1 ?side2 A17.out).mono ?_); (case side1 => exact is116 HI0.out); (case side2 => exact bl116 HB.out); rintro e w26 ⟨rfl, hi, hb, hk⟩; refine ⟨_, rfl, ?_⟩; replace HO_6 := Aside0.mk (Kd.R_mono (Kd.R_keep (IsS116.apart (show IsS116 w0 _ g s0_0 x1001_4 x1002_4 from is116 HI0.out) (by refine rk ?_; exact (Kd.R_mono (Kd.R_far (p := ⟨gb580, 2, none⟩) (Kd.R_far (p := ⟨gb580, 1, none⟩) (Kd.R_far (p := ⟨gb580, 0, none⟩) (Kd.R_types HO_6.out BK580.out (by decide)) (fun _ hk => hk.2) (.int .i64 t572)) (fun _ hk => hk.2) (.slice Ao24 t573.length co24)) (fun _ hk => hk.2) (.slice Ao25 t576.length co25)) (fun _ h_ => h_.1))) (by decide)) hk (fun _ h => h.2)) (fun _ h => h.1)); replace BK556 := Aside0.mk (KeepBut.blk hk (g' := gb556) (o := .cells #[.int .i64 0, .slice none 0 0, .slice none 0 0] 41 (0, 0)) (bf BK556.out) NB556_0.out (by simp)); replace HO575 := Aside0.mk (Kd.R_mono (Kd.R_keep (IsS116.apart (show IsS116 w0 _ g s0_0 x1001_4 x1002_4 from is116 HI0.out) (by refine rk ?_; exact (Kd.R_mono (Kd.R_far (p := ⟨gb580, 2, none⟩) (Kd.R_far (p := ⟨gb580, 1, none⟩) (Kd.R_far (p := ⟨gb580, 0, none⟩) (Kd.R_types HO575.out BK580.out (by decide)) (fun _ hk => hk.2) (.int .i64 t572)) (fun _ hk => hk.2) (.slice Ao24 t573.length co24)) (fun _ hk => hk.2) (.slice Ao25 t576.length co25)) (fun _ h_ => h_.1))) (by decide)) hk (fun _ h => h.2)) (fun _ h => h.1)); replace HO578 := Aside0.mk (Kd.R_mono (Kd.R_keep (IsS116.apart (show IsS116 w0 _ g s0_0 x1001_4 x1002_4 from is116 HI0.out) (by refine rk ?_; exact (Kd.R_mono (Kd.R_far (p := ⟨gb580, 2, none⟩) (Kd.R_far (p := ⟨gb580, 1, none⟩) (Kd.R_far (p := ⟨gb580, 0, none⟩) (Kd.R_types HO578.out BK580.out (by decide)) (fun _ hk => hk.2) (.int .i64 t572)) (fun _ hk => hk.2) (.slice Ao24 t573.length co24)) (fun _ hk => hk.2) (.slice Ao25 t576.length co25)) (fun _ h_ => h_.1))) (by decide)) hk (fun _ h => h.2)) (fun _ h => h.1)); replace BK580 := Aside0.mk (KeepBut.blk hk (g' := gb580) (o := .cells #[.int .i64 t572, .slice Ao24 t573.length co24, .slice Ao25 t576.length co25] 41 (0, 0)) (by refine bk ?_; refine blk_put (cs := #[.int .i64 t572, .slice Ao24 t573.length co24, .slice none 0 0]) ?_ 2 _ rfl; refine bk ?_; refine blk_put (cs := #[.int .i64 t572, .slice none 0 0, .slice none 0 0]) ?_ 1 _ rfl; refine bk ?_; refine blk_put (cs := #[.int .i64 0, .slice none 0 0, .slice none 0 0]) ?_ 0 _ rfl; refine bk ?_; exact BK580.out) NB580_0.out (by simp)); replace HK := Aside0.mk (KeepBut.trans (kp HK.out) hk (.inl rfl)); replace HB := Aside0.mk (hb); replace HI0 := Aside0.mk (hi); (try clear hb); (try clear hb2); (try clear hk); (try clear hi)))
   go_loopg [9] kj4 (fun kq v9 w' => ∃ (x9_2 : Int) (x1001_2 : Int) (x1002_2 : Int) (x581000_2 : Int) (x581001_2 : List Int) (x581002_2 : List (S98)) (u581001 : Value) (u581002 : Value), v9 = .int .i64 x9_2 ∧ Aside0 (spec_l02Column.l0 kq a1 (wrap64 (4 + t557)) x9_2 s0_0 x1001_2 x1002_2 x581000_2 x581001_2 x581002_2 = some (r1, r2, r3, r4, r5)) ∧ Aside0 (kq ≤ kj4) ∧ Aside0 (Kd.R (Kd.int .i64) 3 w' w.heap.size (fun _ => True) u581001 x581001_2) ∧ Aside0 (Kd.R k98 98 w' w.heap.size (fun _ => True) u581002 x581002_2) ∧ Aside0 (w'.heap[gb556]? = some (.cells #[.int .i64 0, (.slice none 0 0), (.slice none 0 0)] 41 (0, 0))) ∧ Aside0 (w'.heap[gb580]? = some (.cells #[.int .i64 x581000_2, u581001, u581002] 41 (0, 0))) ∧ Aside0 (IsS116 w0 w' g s0_0 x1001_2 x1002_2) ∧ Aside0 (KeepBut w w' g none) ∧ Aside0 (Below w0.heap.size w0 w'))
   case atStart => exact ⟨(t581), (t582), (t583), (t572), (t573), (t576), (.slice Ao24 t573.length co24), (.slice Ao25 t576.length co25), (by first | rfl | (simp; done) | (simp [*]; done)), H', ⟨Nat.le_refl _⟩, ⟨by refine rk ?_; exact Kd.R_mono HO575.out (fun _ hk => trivial)⟩, ⟨rk HO578.out⟩, ⟨by refine bk ?_; exact BK556.out⟩, ⟨by refine bk ?_; exact BK580.out⟩, ⟨is116 HI0.out⟩, ⟨kp HK.out⟩, ⟨bl116 HB.out⟩⟩
   case round =>
    clear H'
    try clear c1
    try clear c2
    try clear p2
    try clear p6
    try clear c7
    try clear c11
    try clear c12
    try clear c13
    try clear c21
    try clear c22
    try clear hcz23_0
    try clear hcz23_1
    try clear hcz23_2
    try clear hfz23_0
    try clear hfz23_1
    try clear hfz23_2
    try clear p2
    try clear p6
    obtain ⟨x9_2, x1001_2, x1002_2, x581000_2, x581001_2, x581002_2, u581001, u581002, rfl, HA, HK2, HO_581001, HO_581002, BK556, BK580, HI0, HK, HB⟩ := hrel
    cases gk with
    | zero => exact absurd HA.out (by simp [spec_l02Column.l0])
    | succ k2 =>
     have H := HA.out
     clear HA
     simp only [spec_l02Column.l0] at H
     by_cases c27 : x9_2 > 0
     ·rw [if_pos c27] at H
      have c27b0 : decide (0 < x9_2) = true := decide_eq_true c27
      clear c27
      replace H := Option.bind_eq_some_iff.mp H
      obtain ⟨⟨t584, t585, t586⟩, A280, H⟩ := H
      try dsimp only at H
      have A28 := Aside0.mk A280
      clear A280
      replace H := Option.bind_eq_some_iff.mp H
      obtain ⟨⟨t587, t588, t589⟩, A290, H⟩ := H
      try dsimp only at H
      have A29 := Aside0.mk A290
      clear A290
      have HC30 := Aside0.mk H
      clear H
      go_upto_if 53 with (first | ((with_reducible refine gate_callee (f := 78) rfl ?_); refine goesL_ (some 39) rfl rfl Try.func78 (by kernel_rfl) rfl #[.pointer (some ⟨g, 0, none⟩), .int .i64 6] rfl mapd ?_; (with_reducible refine (spec_l01Below.calls g s0_0 x1001_2 x1002_2 6 t584 t585 t586 w0 _ ?side1 ?side2 A28.out).mono ?_); (case side1 => exact is116 HI0.out); (case side2 => exact bl116 HB.out); rintro e w31 ⟨rfl, hi, hb, hk⟩; refine ⟨_, rfl, ?_⟩; replace HO_581001 := Aside0.mk (Kd.R_mono (Kd.R_keep (IsS116.apart (show IsS116 w0 _ g s0_0 x1001_2 x1002_2 from is116 HI0.out) (rk HO_581001.out) (by decide)) hk (fun _ h => h.2)) (fun _ h => h.1)); replace HO_581002 := Aside0.mk (Kd.R_mono (Kd.R_keep (IsS116.apart (show IsS116 w0 _ g s0_0 x1001_2 x1002_2 from is116 HI0.out) (rk HO_581002.out) (by decide)) hk (fun _ h => h.2)) (fun _ h => h.1)); replace BK556 := Aside0.mk (KeepBut.blk hk (g' := gb556) (o := .cells #[.int .i64 0, .slice none 0 0, .slice none 0 0] 41 (0, 0)) (bk BK556.out) NB556_0.out (by simp)); replace BK580 := Aside0.mk (KeepBut.blk hk (g' := gb580) (o := .cells #[.int .i64 x581000_2, u581001, u581002] 41 (0, 0)) (bk BK580.out) NB580_0.out (by simp)); replace HK := Aside0.mk (KeepBut.trans (kp HK.out) hk (.inl rfl)); replace HB := Aside0.mk (hb); replace HI0 := Aside0.mk (hi); (try clear hb); (try clear hb2); (try clear hk); (try clear hi)) | ((with_reducible refine gate_callee (f := 78) rfl ?_); refine goesL_ (some 42) rfl rfl Try.func78 (by kernel_rfl) rfl #[.pointer (some ⟨g, 0, none⟩), .int .i64 6] rfl mapd ?_; (with_reducible refine (spec_l01Below.calls g s0_0 t585 t586 6 t587 t588 t589 w0 _ ?side1 ?side2 A29.out).mono ?_); (case side1 => exact is116 HI0.out); (case side2 => exact bl116 HB.out); rintro e w32 ⟨rfl, hi, hb, hk⟩; refine ⟨_, rfl, ?_⟩; replace HO_581001 := Aside0.mk (Kd.R_mono (Kd.R_keep (IsS116.apart (show IsS116 w0 _ g s0_0 t585 t586 from is116 HI0.out) (rk HO_581001.out) (by decide)) hk (fun _ h => h.2)) (fun _ h => h.1)); replace HO_581002 := Aside0.mk (Kd.R_mono (Kd.R_keep (IsS116.apart (show IsS116 w0 _ g s0_0 t585 t586 from is116 HI0.out) (rk HO_581002.out) (by decide)) hk (fun _ h => h.2)) (fun _ h => h.1)); replace BK556 := Aside0.mk (KeepBut.blk hk (g' := gb556) (o := .cells #[.int .i64 0, .slice none 0 0, .slice none 0 0] 41 (0, 0)) (bk BK556.out) NB556_0.out (by simp)); replace BK580 := Aside0.mk (KeepBut.blk hk (g' := gb580) (o := .cells #[.int .i64 x581000_2, u581001, u581002] 41 (0, 0)) (bk BK580.out) NB580_0.out (by simp)); replace HK := Aside0.mk (KeepBut.trans (kp HK.out) hk (.inl rfl)); replace HB := Aside0.mk (hb); replace HI0 := Aside0.mk (hi); (try clear hb); (try clear hb2); (try clear hk); (try clear hi)))
      (try simp only [Act.put, List.setIfInBounds_toArray, List.set_cons_zero, List.set_cons_succ])
      go_cut [53] (fun v53 wc => ∃ (kq : Nat) (x53_29 : Bool), v53 = .bool x53_29 ∧ Aside0 (spec_l02Column.j2 kq a1 (wrap64 (4 + t557)) x9_2 (wrap64 (a1 + t584)) t587 x53_29 s0_0 t588 t589 x581000_2 x581001_2 x581002_2 = some (r1, r2, r3, r4, r5)) ∧ Aside0 (kq ≤ k2) ∧ Aside0 (Kd.R (Kd.int .i64) 3 wc w.heap.size (fun _ => True) u581001 x581001_2) ∧ Aside0 (Kd.R k98 98 wc w.heap.size (fun _ => True) u581002 x581002_2) ∧ Aside0 (wc.heap[gb556]? = some (.cells #[.int .i64 0, (.slice none 0 0), (.slice none 0 0)] 41 (0, 0))) ∧ Aside0 (wc.heap[gb580]? = some (.cells #[.int .i64 x581000_2, u581001, u581002] 41 (0, 0))) ∧ Aside0 (IsS116 w0 wc g s0_0 t588 t589) ∧ Aside0 (KeepBut w wc g none) ∧ Aside0 (Below w0.heap.size w0 wc))
      case first =>
       have H := HC30.out
       clear HC30
       by_cases c33 : t587 = 0
       ·rw [if_pos c33] at H
        have c33b0 : (t587 == 0) = true := beq_iff_eq.mpr c33
        have c33b1 : (t587 != 0) = false := bne_eq_false_iff_eq.mpr c33
        clear c33
        (first | rw [c33b0] | (simp only [i64_w, i32_w]; rw [c33b0]) | skip)
        have H' := Aside0.mk H
        clear H
        go_wp2
        go_meet
        case rel => exact ⟨_, ((t587 == 0)), (by first | rfl | (simp; done) | (simp [*]; done)), H', ⟨by have := HJ4.out; have := HK2.out; first | omega | exact Nat.le_refl _⟩, ⟨rk HO_581001.out⟩, ⟨rk HO_581002.out⟩, ⟨by refine bk ?_; exact BK556.out⟩, ⟨by refine bk ?_; exact BK580.out⟩, ⟨is116 HI0.out⟩, ⟨kp HK.out⟩, ⟨bl116 HB.out⟩⟩
       ·rw [if_neg c33] at H
        have c33b0 : (t587 == 0) = false := beq_eq_false_iff_ne.mpr c33
        have c33b1 : (t587 != 0) = true := bne_iff_ne.mpr c33
        (first | rw [c33b0] | (simp only [i64_w, i32_w]; rw [c33b0]) | skip)
        have H' := Aside0.mk H
        clear H
        go_wp2
        go_meet
        case rel => exact ⟨_, ((t587 == 1)), (by first | rfl | (simp; done) | (simp [*]; done)), H', ⟨by have := HJ4.out; have := HK2.out; first | omega | exact Nat.le_refl _⟩, ⟨rk HO_581001.out⟩, ⟨rk HO_581002.out⟩, ⟨by refine bk ?_; exact BK556.out⟩, ⟨by refine bk ?_; exact BK580.out⟩, ⟨is116 HI0.out⟩, ⟨kp HK.out⟩, ⟨bl116 HB.out⟩⟩
      case rest =>
       clear HC30
       try clear c1
       try clear c2
       try clear p2
       try clear c3
       try clear p6
       try clear c7
       try clear c11
       try clear c12
       try clear c13
       try clear c21
       try clear c22
       try clear c27
       try clear c27b0
       try clear c33
       try clear c33b0
       try clear c33b1
       try clear hcz23_0
       try clear hcz23_1
       try clear hcz23_2
       try clear hfz23_0
       try clear hfz23_1
       try clear hfz23_2
       try clear p2
       try clear p6
       obtain ⟨kq, x53_29, rfl, HA, HJ29, HO_581001, HO_581002, BK556, BK580, HI0, HK, HB⟩ := hcut
       cases kq with
       | zero => exact absurd HA.out (by simp [spec_l02Column.j2])
       | succ kj29 =>
        have H := HA.out
        clear HA
        simp only [spec_l02Column.j2] at H
        by_cases c34 : x53_29 = true
        ·subst c34
         rw [if_pos rfl] at H
         replace H := Option.bind_eq_some_iff.mp H
         obtain ⟨⟨t590, t591, t594, t597⟩, A350, H⟩ := H
         try dsimp only at H
         have A35 := Aside0.mk A350
         clear A350
         have H' := Aside0.mk H
         clear H
         have hnb36 := NB580_556.out
         have hnc36 := NB556_580.out
         have hnb37 := NB580_0.out
         have hnc37 := NB0_580.out
         obtain ⟨hcz38_0, hcz38_1, hcz38_2, hfz38_0, hfz38_1, hfz38_2⟩ := cz3 BK580.out
         obtain ⟨Ao39, co39, eo39⟩ := Kd.R_slice HO_581001.out
         subst eo39
         obtain ⟨Ao40, co40, eo40⟩ := Kd.R_slice HO_581002.out
         subst eo40
         go_wp2_with (first | ((with_reducible refine gate_callee (f := 71) rfl ?_); refine goesL_ (some 59) rfl rfl Try.func71 (by kernel_rfl) rfl #[.agg #[.int .i64 x581000_2, .slice Ao39 x581001_2.length co39, .slice Ao40 x581002_2.length co40], .int .i64 (wrap64 (a1 + t584))] rfl mapd ?_; (with_reducible refine (spec_TakeOut.calls kj29 x581000_2 _ _ x581001_2 _ _ x581002_2 (wrap64 (a1 + t584)) t590 t591 t594 t597 _ ?side1 ?side2 ?side3 ?side4 A35.out).mono ?_); (case side1 => exact cb ((Kd.R_reads' HO_581001.out).2.2)); (case side2 => exact (Kd.R_reads' HO_581001.out).2.1); (case side3 => exact cb ((Kd.R_reads' HO_581002.out).2.2)); (case side4 => exact (Kd.R_reads' HO_581002.out).2.1); rintro e w41 ⟨v592, v595, rfl, ho0, ho1, hb⟩; refine ⟨_, rfl, ?_⟩; have HO593 := Aside0.mk (Kd.R_lower (Kd.R_new' ho0 (Kd.R_lt (rk HO_581001.out))) (keep_size (w := w) (g := g) (row := none) (kp HK.out))); replace HO_581001 := Aside0.mk (Kd.R_elder' (rk HO_581001.out) (Kd.R_base ho0) hb); have HO596 := Aside0.mk (Kd.R_lower (Kd.R_new' ho1 (Kd.R_lt (rk HO_581002.out))) (keep_size (w := w) (g := g) (row := none) (kp HK.out))); replace HO_581002 := Aside0.mk (Kd.R_elder' (rk HO_581002.out) (Kd.R_base ho1) hb); replace BK556 := Aside0.mk (bb BK556.out hb); replace BK580 := Aside0.mk (bb BK580.out hb); replace HI0 := Aside0.mk (IsS116.below (is116 HI0.out) hb); replace HK := Aside0.mk (KeepBut.trans (kp HK.out) (KeepBut.of_below hb g none) (.inl rfl)); replace HB := Aside0.mk (below_step (bl116 HB.out) hb); (try clear hb); (try clear hb2); (try clear hk); (try clear hi); (try clear ho0); (try clear ho1); obtain ⟨hcz42_0, hcz42_1, hcz42_2, hfz42_0, hfz42_1, hfz42_2⟩ := cz3 BK580.out; obtain ⟨Ao43, co43, eo43⟩ := Kd.R_slice HO593.out; subst eo43; obtain ⟨Ao44, co44, eo44⟩ := Kd.R_slice HO596.out; subst eo44))
         go_roundg kj29
         case measure => have := HJ4.out; have := HK2.out; have := HJ29.out; omega
         case rel => exact ⟨(wrap64 (x9_2 - 1)), (t588), (t589), (t590), (t591), (t594), (.slice Ao43 t591.length co43), (.slice Ao44 t594.length co44), (by first | rfl | (simp; done) | (simp [*]; done)), H', ⟨by have := HJ4.out; have := HK2.out; have := HJ29.out; omega⟩, ⟨by refine rk ?_; exact Kd.R_mono (Kd.R_far (p := ⟨gb580, 2, none⟩) (Kd.R_far (p := ⟨gb580, 1, none⟩) (Kd.R_far (p := ⟨gb580, 0, none⟩) (Kd.R_types HO593.out BK580.out (by decide)) (fun _ hk => hk.2) (.int .i64 t590)) (fun _ hk => hk.2) (.slice Ao43 t591.length co43)) (fun _ hk => hk.2) (.slice Ao44 t594.length co44)) (fun _ hk => trivial)⟩, ⟨by refine rk ?_; exact Kd.R_mono (Kd.R_far (p := ⟨gb580, 2, none⟩) (Kd.R_far (p := ⟨gb580, 1, none⟩) (Kd.R_far (p := ⟨gb580, 0, none⟩) (Kd.R_types HO596.out BK580.out (by decide)) (fun _ hk => hk.2) (.int .i64 t590)) (fun _ hk => hk.2) (.slice Ao43 t591.length co43)) (fun _ hk => hk.2) (.slice Ao44 t594.length co44)) (fun _ hk => trivial)⟩, ⟨by refine bk ?_; refine blk_far ?_ NB556_580.out _; refine bk ?_; refine blk_far ?_ NB556_580.out _; refine bk ?_; refine blk_far ?_ NB556_580.out _; refine bk ?_; exact BK556.out⟩, ⟨by refine bk ?_; refine blk_put (cs := #[.int .i64 t590, .slice Ao43 t591.length co43, .slice Ao40 x581002_2.length co40]) ?_ 2 _ rfl; refine bk ?_; refine blk_put (cs := #[.int .i64 t590, .slice Ao39 x581001_2.length co39, .slice Ao40 x581002_2.length co40]) ?_ 1 _ rfl; refine bk ?_; refine blk_put (cs := #[.int .i64 x581000_2, .slice Ao39 x581001_2.length co39, .slice Ao40 x581002_2.length co40]) ?_ 0 _ rfl; refine bk ?_; exact BK580.out⟩, ⟨is116 HI0.out⟩, ⟨kp HK.out⟩, ⟨bl116 HB.out⟩⟩
        ·replace c34 := Bool.eq_false_iff.mpr c34
         subst c34
         rw [if_neg (show ¬ (false = true) by decide)] at H
         by_cases c45 : t587 = 2
         ·rw [if_pos c45] at H
          have c45b0 : (t587 == 2) = true := beq_iff_eq.mpr c45
          have c45b1 : (t587 != 2) = false := bne_eq_false_iff_eq.mpr c45
          clear c45
          replace H := Option.bind_eq_some_iff.mp H
          obtain ⟨⟨t598, t599, t600⟩, A460, H⟩ := H
          try dsimp only at H
          have A46 := Aside0.mk A460
          clear A460
          replace H := Option.bind_eq_some_iff.mp H
          obtain ⟨⟨t601, t602, t603⟩, A470, H⟩ := H
          try dsimp only at H
          have A47 := Aside0.mk A470
          clear A470
          replace H := Option.bind_eq_some_iff.mp H
          obtain ⟨⟨t604, t605, t608, t611⟩, A480, H⟩ := H
          try dsimp only at H
          have A48 := Aside0.mk A480
          clear A480
          have H' := Aside0.mk H
          clear H
          try go_wp2
          replace HO_581001 := Aside0.mk (Kd.R_drew HO_581001.out)
          replace HO_581002 := Aside0.mk (Kd.R_drew HO_581002.out)
          replace BK556 := Aside0.mk (blk_drew BK556.out)
          replace BK580 := Aside0.mk (blk_drew BK580.out)
          replace HI0 := Aside0.mk (IsS116.drew HI0.out)
          replace HK := Aside0.mk (keep_drew HK.out)
          replace HB := Aside0.mk (below_drew1 HB.out)
          refine start_ (n := 11) (S := fun w' => w'.cell? ⟨gb580, 0, none⟩ = some (.int .i64 x581000_2) ∧ w'.cell? ⟨gb580, 1, none⟩ = some (u581001) ∧ w'.cell? ⟨gb580, 2, none⟩ = some (u581002)) (ds := [10]) #[false, false, false, false, false, false, false, false, false, false, false] (by kernel_rfl) rfl rfl ⟨(blk_cell BK580.out 0).trans rfl, (blk_cell BK580.out 1).trans rfl, (blk_cell BK580.out 2).trans rfl⟩ (fun hHeld => ?_); refine with_tabW spec_l02Column.tab16 spec_l02Column.bits16 (fun HT_ HW_ => ?_)
          generalize wc.drew = w49 at HO_581001 HO_581002 BK556 BK580 HI0 HK HB hHeld ⊢
          refine puA (i := 1) (N := some 66) HT_.out ?_
          refine puA (i := 2) (N := some 67) HT_.out ?_
          refine puA (i := 4) (N := some 69) HT_.out ?_
          refine tkA3 (i := 0) (N := some 65) HT_.out HW_.out hHeld ?_
          refine onA (i := 3) (N := some 68) HT_.out (fun K hK => ?_)
          refine goes_ Try.func78 (by kernel_rfl) rfl #[.pointer (some ⟨g, 0, none⟩), .int .i64 (wrap64 (4 + t557))] (by rfl) rfl rfl mapd ?_
          with_reducible refine (spec_l01Below.calls g s0_0 t588 t589 (wrap64 (4 + t557)) t598 t599 t600 w0 _ ?side1 ?side2 A46.out).mono ?_
          (case side1 => exact is116 HI0.out)
          (case side2 => exact bl116 HB.out)
          rintro e w50 ⟨rfl, hi, hb, hk⟩
          refine ⟨_, rfl, ?_⟩
          replace HO_581001 := Aside0.mk (Kd.R_mono (Kd.R_keep (IsS116.apart (show IsS116 w0 _ g s0_0 t588 t589 from is116 HI0.out) (rk HO_581001.out) (by decide)) hk (fun _ h => h.2)) (fun _ h => h.1))
          replace HO_581002 := Aside0.mk (Kd.R_mono (Kd.R_keep (IsS116.apart (show IsS116 w0 _ g s0_0 t588 t589 from is116 HI0.out) (rk HO_581002.out) (by decide)) hk (fun _ h => h.2)) (fun _ h => h.1))
          replace BK556 := Aside0.mk (KeepBut.blk hk (g' := gb556) (o := .cells #[.int .i64 0, .slice none 0 0, .slice none 0 0] 41 (0, 0)) (bk BK556.out) NB556_0.out (by simp))
          replace BK580 := Aside0.mk (KeepBut.blk hk (g' := gb580) (o := .cells #[.int .i64 x581000_2, u581001, u581002] 41 (0, 0)) (bk BK580.out) NB580_0.out (by simp))
          replace HK := Aside0.mk (KeepBut.trans (kp HK.out) hk (.inl rfl))
          replace HB := Aside0.mk (hb)
          replace HI0 := Aside0.mk (hi)
          (try clear hb)
          (try clear hb2)
          (try clear hk)
          (try clear hi)
          refine hK.out _ _ ⟨(blk_cell BK580.out 0).trans rfl, (blk_cell BK580.out 1).trans rfl, (blk_cell BK580.out 2).trans rfl⟩ (fun hHeld => ?_)
          clear hK K
          refine norm_ (a' := ?_) ?_ ?_
          rotate_left
          ·show Act.put _ (some 68) _ = _
           simp only [Act.put, List.setIfInBounds_toArray, List.set_cons_zero, List.set_cons_succ, i64_w, i32_w]
           rfl
          refine onA (i := 5) (N := some 70) HT_.out (fun K hK => ?_)
          refine goes_ Try.func123 (by kernel_rfl) rfl #[.pointer (some ⟨g, 0, none⟩), .int .i64 3] (by rfl) rfl rfl mapd ?_
          with_reducible refine (spec_l01Once.calls g s0_0 t599 t600 3 t601 t602 t603 w0 _ ?side1 ?side2 A47.out).mono ?_
          (case side1 => exact is116 HI0.out)
          (case side2 => exact bl116 HB.out)
          rintro e w51 ⟨rfl, hi, hb, hk⟩
          refine ⟨_, rfl, ?_⟩
          replace HO_581001 := Aside0.mk (Kd.R_mono (Kd.R_keep (IsS116.apart (show IsS116 w0 _ g s0_0 t599 t600 from is116 HI0.out) (rk HO_581001.out) (by decide)) hk (fun _ h => h.2)) (fun _ h => h.1))
          replace HO_581002 := Aside0.mk (Kd.R_mono (Kd.R_keep (IsS116.apart (show IsS116 w0 _ g s0_0 t599 t600 from is116 HI0.out) (rk HO_581002.out) (by decide)) hk (fun _ h => h.2)) (fun _ h => h.1))
          replace BK556 := Aside0.mk (KeepBut.blk hk (g' := gb556) (o := .cells #[.int .i64 0, .slice none 0 0, .slice none 0 0] 41 (0, 0)) (bk BK556.out) NB556_0.out (by simp))
          replace BK580 := Aside0.mk (KeepBut.blk hk (g' := gb580) (o := .cells #[.int .i64 x581000_2, u581001, u581002] 41 (0, 0)) (bk BK580.out) NB580_0.out (by simp))
          replace HK := Aside0.mk (KeepBut.trans (kp HK.out) hk (.inl rfl))
          replace HB := Aside0.mk (hb)
          replace HI0 := Aside0.mk (hi)
          (try clear hb)
          (try clear hb2)
          (try clear hk)
          (try clear hi)
          obtain ⟨Ao52, co52, eo52⟩ := Kd.R_slice HO_581001.out
          (first | subst eo52 | (injection eo52 with f1_ f2_ f3_; have f4_ := f1_.symm; have f5_ := f3_.symm; clear f1_ f2_ f3_; subst f4_; subst f5_))
          obtain ⟨Ao53, co53, eo53⟩ := Kd.R_slice HO_581002.out
          (first | subst eo53 | (injection eo53 with f1_ f2_ f3_; have f4_ := f1_.symm; have f5_ := f3_.symm; clear f1_ f2_ f3_; subst f4_; subst f5_))
          refine hK.out _ _ ⟨(blk_cell BK580.out 0).trans rfl, (blk_cell BK580.out 1).trans rfl, (blk_cell BK580.out 2).trans rfl⟩ (fun hHeld => ?_)
          clear hK K
          refine norm_ (a' := ?_) ?_ ?_
          rotate_left
          ·show Act.put _ (some 70) _ = _
           simp only [Act.put, List.setIfInBounds_toArray, List.set_cons_zero, List.set_cons_succ, i64_w, i32_w]
           rfl
          refine onA (i := 6) (N := some 71) HT_.out (fun K hK => ?_)
          refine goes_ Try.func125 (by kernel_rfl) rfl #[.agg #[.int .i64 x581000_2, .slice Ao52 x581001_2.length co52, .slice Ao53 x581002_2.length co53], .int .i64 t598, .bool t601] (by rfl) rfl rfl mapd ?_
          with_reducible refine (spec_SetJam.calls kj29 x581000_2 _ _ x581001_2 _ _ x581002_2 t598 t601 t604 t605 t608 t611 _ ?side1 ?side2 ?side3 ?side4 A48.out).mono ?_
          (case side1 => exact cb ((Kd.R_reads' HO_581001.out).2.2))
          (case side2 => exact (Kd.R_reads' HO_581001.out).2.1)
          (case side3 => exact cb ((Kd.R_reads' HO_581002.out).2.2))
          (case side4 => exact (Kd.R_reads' HO_581002.out).2.1)
          rintro e w54 ⟨v606, v609, rfl, ho0, ho1, hb⟩
          refine ⟨_, rfl, ?_⟩
          have HO607 := Aside0.mk (Kd.R_lower (Kd.R_new' ho0 (Kd.R_lt (rk HO_581001.out))) (keep_size (w := w) (g := g) (row := none) (kp HK.out)))
          replace HO_581001 := Aside0.mk (Kd.R_elder' (rk HO_581001.out) (Kd.R_base ho0) hb)
          have HO610 := Aside0.mk (Kd.R_lower (Kd.R_new' ho1 (Kd.R_lt (rk HO_581002.out))) (keep_size (w := w) (g := g) (row := none) (kp HK.out)))
          replace HO_581002 := Aside0.mk (Kd.R_elder' (rk HO_581002.out) (Kd.R_base ho1) hb)
          replace BK556 := Aside0.mk (bb BK556.out hb)
          replace BK580 := Aside0.mk (bb BK580.out hb)
          replace HI0 := Aside0.mk (IsS116.below (is116 HI0.out) hb)
          replace HK := Aside0.mk (KeepBut.trans (kp HK.out) (KeepBut.of_below hb g none) (.inl rfl))
          replace HB := Aside0.mk (below_step (bl116 HB.out) hb)
          (try clear hb)
          (try clear hb2)
          (try clear hk)
          (try clear hi)
          (try clear ho0)
          (try clear ho1)
          obtain ⟨Ao56, co56, eo56⟩ := Kd.R_slice HO607.out
          (first | subst eo56 | (injection eo56 with f1_ f2_ f3_; have f4_ := f1_.symm; have f5_ := f3_.symm; clear f1_ f2_ f3_; subst f4_; subst f5_))
          obtain ⟨Ao58, co58, eo58⟩ := Kd.R_slice HO610.out
          (first | subst eo58 | (injection eo58 with f1_ f2_ f3_; have f4_ := f1_.symm; have f5_ := f3_.symm; clear f1_ f2_ f3_; subst f4_; subst f5_))
          refine hK.out _ _ ⟨(blk_cell BK580.out 0).trans rfl, (blk_cell BK580.out 1).trans rfl, (blk_cell BK580.out 2).trans rfl⟩ (fun hHeld => ?_)
          clear hK K
          refine norm_ (a' := ?_) ?_ ?_
          rotate_left
          ·show Act.put _ (some 71) _ = _
           simp only [Act.put, List.setIfInBounds_toArray, List.set_cons_zero, List.set_cons_succ, i64_w, i32_w]
           rfl
          refine puA (i := 7) (N := some 64) HT_.out ?_
          refine puA (i := 8) (N := some 72) HT_.out ?_
          refine puA (i := 9) (N := some 73) HT_.out ?_
          refine last_ (i := 10) (N := none) #[true, true, true, true, true, true, true, true, true, true, true] rfl rfl (one_of HT_.out (by kernel_rfl)) (by decide) (fun K hK => ?_)
          have hs55 : w54.cell? ⟨gb580, 0, none⟩ = some (.int .i64 x581000_2) := (blk_cell BK580.out 0).trans rfl
          have hfs55 := blk_frozen BK580.out 0
          have hns55_0 := NB556_580.out
          have hms55_0 := NB580_556.out
          have hs57 : w54.cell? ⟨gb580, 1, none⟩ = some (.slice Ao52 x581001_2.length co52) := (blk_cell BK580.out 1).trans rfl
          have hfs57 := blk_frozen BK580.out 1
          have hns57_0 := NB556_580.out
          have hms57_0 := NB580_556.out
          have hs59 : w54.cell? ⟨gb580, 2, none⟩ = some (.slice Ao53 x581002_2.length co53) := (blk_cell BK580.out 2).trans rfl
          have hfs59 := blk_frozen BK580.out 2
          have hns59_0 := NB556_580.out
          have hms59_0 := NB580_556.out
          refine skip_ (w1 := ?_) (by rfl) rfl ?_ ?_
          rotate_left
          ·go_simp
           rfl
          refine hK.out _ _ ?_
          clear hK K
          refine done_ (done_of HT_.out (by kernel_rfl)) ?_
          try go_wp2
          go_roundg kj29
          case measure => have := HJ4.out; have := HK2.out; have := HJ29.out; omega
          case rel => exact ⟨(wrap64 (x9_2 - 1)), (t602), (t603), (t604), (t605), (t608), (.slice Ao56 t605.length co56), (.slice Ao58 t608.length co58), (by first | rfl | (simp; done) | (simp [*]; done)), H', ⟨by have := HJ4.out; have := HK2.out; have := HJ29.out; omega⟩, ⟨by refine rk ?_; exact Kd.R_mono (Kd.R_far (p := ⟨gb580, 2, none⟩) (Kd.R_far (p := ⟨gb580, 1, none⟩) (Kd.R_far (p := ⟨gb580, 0, none⟩) (Kd.R_types HO607.out BK580.out (by decide)) (fun _ hk => hk.2) (.int .i64 t604)) (fun _ hk => hk.2) (.slice Ao56 t605.length co56)) (fun _ hk => hk.2) (.slice Ao58 t608.length co58)) (fun _ hk => trivial)⟩, ⟨by refine rk ?_; exact Kd.R_mono (Kd.R_far (p := ⟨gb580, 2, none⟩) (Kd.R_far (p := ⟨gb580, 1, none⟩) (Kd.R_far (p := ⟨gb580, 0, none⟩) (Kd.R_types HO610.out BK580.out (by decide)) (fun _ hk => hk.2) (.int .i64 t604)) (fun _ hk => hk.2) (.slice Ao56 t605.length co56)) (fun _ hk => hk.2) (.slice Ao58 t608.length co58)) (fun _ hk => trivial)⟩, ⟨by refine bk ?_; refine blk_far ?_ NB556_580.out _; refine bk ?_; refine blk_far ?_ NB556_580.out _; refine bk ?_; refine blk_far ?_ NB556_580.out _; refine bk ?_; exact BK556.out⟩, ⟨by refine bk ?_; refine blk_put (cs := #[.int .i64 t604, .slice Ao56 t605.length co56, .slice Ao53 x581002_2.length co53]) ?_ 2 _ rfl; refine bk ?_; refine blk_put (cs := #[.int .i64 t604, .slice Ao52 x581001_2.length co52, .slice Ao53 x581002_2.length co53]) ?_ 1 _ rfl; refine bk ?_; refine blk_put (cs := #[.int .i64 x581000_2, .slice Ao52 x581001_2.length co52, .slice Ao53 x581002_2.length co53]) ?_ 0 _ rfl; refine bk ?_; exact BK580.out⟩, ⟨is116 HI0.out⟩, ⟨kp HK.out⟩, ⟨bl116 HB.out⟩⟩
         ·rw [if_neg c45] at H
          have c45b0 : (t587 == 2) = false := beq_eq_false_iff_ne.mpr c45
          have c45b1 : (t587 != 2) = true := bne_iff_ne.mpr c45
          replace H := Option.bind_eq_some_iff.mp H
          obtain ⟨⟨t612, t613, t614⟩, A600, H⟩ := H
          try dsimp only at H
          have A60 := Aside0.mk A600
          clear A600
          replace H := Option.bind_eq_some_iff.mp H
          obtain ⟨⟨t615, t616, t619, t622, t623⟩, A610, H⟩ := H
          try dsimp only at H
          have A61 := Aside0.mk A610
          clear A610
          have H' := Aside0.mk H
          clear H
          try go_wp2
          replace HO_581001 := Aside0.mk (Kd.R_drew HO_581001.out)
          replace HO_581002 := Aside0.mk (Kd.R_drew HO_581002.out)
          replace BK556 := Aside0.mk (blk_drew BK556.out)
          replace BK580 := Aside0.mk (blk_drew BK580.out)
          replace HI0 := Aside0.mk (IsS116.drew HI0.out)
          replace HK := Aside0.mk (keep_drew HK.out)
          replace HB := Aside0.mk (below_drew1 HB.out)
          refine start_ (n := 11) (S := fun w' => w'.cell? ⟨gb580, 0, none⟩ = some (.int .i64 x581000_2) ∧ w'.cell? ⟨gb580, 1, none⟩ = some (u581001) ∧ w'.cell? ⟨gb580, 2, none⟩ = some (u581002)) (ds := [10]) #[false, false, false, false, false, false, false, false, false, false, false] (by kernel_rfl) rfl rfl ⟨(blk_cell BK580.out 0).trans rfl, (blk_cell BK580.out 1).trans rfl, (blk_cell BK580.out 2).trans rfl⟩ (fun hHeld => ?_); refine with_tabW spec_l02Column.tab11 spec_l02Column.bits11 (fun HT_ HW_ => ?_)
          generalize wc.drew = w62 at HO_581001 HO_581002 BK556 BK580 HI0 HK HB hHeld ⊢
          refine puA (i := 1) (N := some 45) HT_.out ?_
          refine puA (i := 2) (N := some 46) HT_.out ?_
          refine tkA3 (i := 0) (N := some 44) HT_.out HW_.out hHeld ?_
          refine onA (i := 3) (N := some 47) HT_.out (fun K hK => ?_)
          refine goes_ Try.func78 (by kernel_rfl) rfl #[.pointer (some ⟨g, 0, none⟩), .int .i64 4] (by rfl) rfl rfl mapd ?_
          with_reducible refine (spec_l01Below.calls g s0_0 t588 t589 4 t612 t613 t614 w0 _ ?side1 ?side2 A60.out).mono ?_
          (case side1 => exact is116 HI0.out)
          (case side2 => exact bl116 HB.out)
          rintro e w63 ⟨rfl, hi, hb, hk⟩
          refine ⟨_, rfl, ?_⟩
          replace HO_581001 := Aside0.mk (Kd.R_mono (Kd.R_keep (IsS116.apart (show IsS116 w0 _ g s0_0 t588 t589 from is116 HI0.out) (rk HO_581001.out) (by decide)) hk (fun _ h => h.2)) (fun _ h => h.1))
          replace HO_581002 := Aside0.mk (Kd.R_mono (Kd.R_keep (IsS116.apart (show IsS116 w0 _ g s0_0 t588 t589 from is116 HI0.out) (rk HO_581002.out) (by decide)) hk (fun _ h => h.2)) (fun _ h => h.1))
          replace BK556 := Aside0.mk (KeepBut.blk hk (g' := gb556) (o := .cells #[.int .i64 0, .slice none 0 0, .slice none 0 0] 41 (0, 0)) (bk BK556.out) NB556_0.out (by simp))
          replace BK580 := Aside0.mk (KeepBut.blk hk (g' := gb580) (o := .cells #[.int .i64 x581000_2, u581001, u581002] 41 (0, 0)) (bk BK580.out) NB580_0.out (by simp))
          replace HK := Aside0.mk (KeepBut.trans (kp HK.out) hk (.inl rfl))
          replace HB := Aside0.mk (hb)
          replace HI0 := Aside0.mk (hi)
          (try clear hb)
          (try clear hb2)
          (try clear hk)
          (try clear hi)
          obtain ⟨Ao64, co64, eo64⟩ := Kd.R_slice HO_581001.out
          (first | subst eo64 | (injection eo64 with f1_ f2_ f3_; have f4_ := f1_.symm; have f5_ := f3_.symm; clear f1_ f2_ f3_; subst f4_; subst f5_))
          obtain ⟨Ao65, co65, eo65⟩ := Kd.R_slice HO_581002.out
          (first | subst eo65 | (injection eo65 with f1_ f2_ f3_; have f4_ := f1_.symm; have f5_ := f3_.symm; clear f1_ f2_ f3_; subst f4_; subst f5_))
          refine hK.out _ _ ⟨(blk_cell BK580.out 0).trans rfl, (blk_cell BK580.out 1).trans rfl, (blk_cell BK580.out 2).trans rfl⟩ (fun hHeld => ?_)
          clear hK K
          refine norm_ (a' := ?_) ?_ ?_
          rotate_left
          ·show Act.put _ (some 47) _ = _
           simp only [Act.put, List.setIfInBounds_toArray, List.set_cons_zero, List.set_cons_succ, i64_w, i32_w]
           rfl
          refine puA (i := 4) (N := some 48) HT_.out ?_
          refine onA (i := 5) (N := some 49) HT_.out (fun K hK => ?_)
          refine goes_ Try.func30 (by kernel_rfl) rfl #[.agg #[.int .i64 x581000_2, .slice Ao64 x581001_2.length co64, .slice Ao65 x581002_2.length co65], .int .i64 (wrap64 (a1 + t584)), .int .i64 (wrap64 (1 + t612))] (by rfl) rfl rfl mapd ?_
          with_reducible refine (spec_PutIn.calls kj29 x581000_2 _ _ x581001_2 _ _ x581002_2 (wrap64 (a1 + t584)) (wrap64 (1 + t612)) t615 t616 t619 t622 t623 _ ?side1 ?side2 ?side3 ?side4 A61.out).mono ?_
          (case side1 => exact cb ((Kd.R_reads' HO_581001.out).2.2))
          (case side2 => exact (Kd.R_reads' HO_581001.out).2.1)
          (case side3 => exact cb ((Kd.R_reads' HO_581002.out).2.2))
          (case side4 => exact (Kd.R_reads' HO_581002.out).2.1)
          rintro e w66 ⟨v617, v620, rfl, ho0, ho1, hb⟩
          refine ⟨_, rfl, ?_⟩
          have HO618 := Aside0.mk (Kd.R_lower (Kd.R_new' ho0 (Kd.R_lt (rk HO_581001.out))) (keep_size (w := w) (g := g) (row := none) (kp HK.out)))
          replace HO_581001 := Aside0.mk (Kd.R_elder' (rk HO_581001.out) (Kd.R_base ho0) hb)
          have HO621 := Aside0.mk (Kd.R_lower (Kd.R_new' ho1 (Kd.R_lt (rk HO_581002.out))) (keep_size (w := w) (g := g) (row := none) (kp HK.out)))
          replace HO_581002 := Aside0.mk (Kd.R_elder' (rk HO_581002.out) (Kd.R_base ho1) hb)
          replace BK556 := Aside0.mk (bb BK556.out hb)
          replace BK580 := Aside0.mk (bb BK580.out hb)
          replace HI0 := Aside0.mk (IsS116.below (is116 HI0.out) hb)
          replace HK := Aside0.mk (KeepBut.trans (kp HK.out) (KeepBut.of_below hb g none) (.inl rfl))
          replace HB := Aside0.mk (below_step (bl116 HB.out) hb)
          (try clear hb)
          (try clear hb2)
          (try clear hk)
          (try clear hi)
          (try clear ho0)
          (try clear ho1)
          obtain ⟨Ao68, co68, eo68⟩ := Kd.R_slice HO618.out
          (first | subst eo68 | (injection eo68 with f1_ f2_ f3_; have f4_ := f1_.symm; have f5_ := f3_.symm; clear f1_ f2_ f3_; subst f4_; subst f5_))
          obtain ⟨Ao70, co70, eo70⟩ := Kd.R_slice HO621.out
          (first | subst eo70 | (injection eo70 with f1_ f2_ f3_; have f4_ := f1_.symm; have f5_ := f3_.symm; clear f1_ f2_ f3_; subst f4_; subst f5_))
          refine hK.out _ _ ⟨(blk_cell BK580.out 0).trans rfl, (blk_cell BK580.out 1).trans rfl, (blk_cell BK580.out 2).trans rfl⟩ (fun hHeld => ?_)
          clear hK K
          refine norm_ (a' := ?_) ?_ ?_
          rotate_left
          ·show Act.put _ (some 49) _ = _
           simp only [Act.put, List.setIfInBounds_toArray, List.set_cons_zero, List.set_cons_succ, i64_w, i32_w]
           rfl
          refine puA (i := 6) (N := some 43) HT_.out ?_
          refine puA (i := 7) (N := some 50) HT_.out ?_
          refine puA (i := 8) (N := some 51) HT_.out ?_
          refine puA (i := 9) (N := some 52) HT_.out ?_
          refine last_ (i := 10) (N := none) #[true, true, true, true, true, true, true, true, true, true, true] rfl rfl (one_of HT_.out (by kernel_rfl)) (by decide) (fun K hK => ?_)
          have hs67 : w66.cell? ⟨gb580, 0, none⟩ = some (.int .i64 x581000_2) := (blk_cell BK580.out 0).trans rfl
          have hfs67 := blk_frozen BK580.out 0
          have hns67_0 := NB556_580.out
          have hms67_0 := NB580_556.out
          have hs69 : w66.cell? ⟨gb580, 1, none⟩ = some (.slice Ao64 x581001_2.length co64) := (blk_cell BK580.out 1).trans rfl
          have hfs69 := blk_frozen BK580.out 1
          have hns69_0 := NB556_580.out
          have hms69_0 := NB580_556.out
          have hs71 : w66.cell? ⟨gb580, 2, none⟩ = some (.slice Ao65 x581002_2.length co65) := (blk_cell BK580.out 2).trans rfl
          have hfs71 := blk_frozen BK580.out 2
          have hns71_0 := NB556_580.out
          have hms71_0 := NB580_556.out
          refine skip_ (w1 := ?_) (by rfl) rfl ?_ ?_
          rotate_left
          ·go_simp
           rfl
          refine hK.out _ _ ?_
          clear hK K
          refine done_ (done_of HT_.out (by kernel_rfl)) ?_
          try go_wp2
          go_roundg kj29
          case measure => have := HJ4.out; have := HK2.out; have := HJ29.out; omega
          case rel => exact ⟨(wrap64 (x9_2 - 1)), (t613), (t614), (t615), (t616), (t619), (.slice Ao68 t616.length co68), (.slice Ao70 t619.length co70), (by first | rfl | (simp; done) | (simp [*]; done)), H', ⟨by have := HJ4.out; have := HK2.out; have := HJ29.out; omega⟩, ⟨by refine rk ?_; exact Kd.R_mono (Kd.R_far (p := ⟨gb580, 2, none⟩) (Kd.R_far (p := ⟨gb580, 1, none⟩) (Kd.R_far (p := ⟨gb580, 0, none⟩) (Kd.R_types HO618.out BK580.out (by decide)) (fun _ hk => hk.2) (.int .i64 t615)) (fun _ hk => hk.2) (.slice Ao68 t616.length co68)) (fun _ hk => hk.2) (.slice Ao70 t619.length co70)) (fun _ hk => trivial)⟩, ⟨by refine rk ?_; exact Kd.R_mono (Kd.R_far (p := ⟨gb580, 2, none⟩) (Kd.R_far (p := ⟨gb580, 1, none⟩) (Kd.R_far (p := ⟨gb580, 0, none⟩) (Kd.R_types HO621.out BK580.out (by decide)) (fun _ hk => hk.2) (.int .i64 t615)) (fun _ hk => hk.2) (.slice Ao68 t616.length co68)) (fun _ hk => hk.2) (.slice Ao70 t619.length co70)) (fun _ hk => trivial)⟩, ⟨by refine bk ?_; refine blk_far ?_ NB556_580.out _; refine bk ?_; refine blk_far ?_ NB556_580.out _; refine bk ?_; refine blk_far ?_ NB556_580.out _; refine bk ?_; exact BK556.out⟩, ⟨by refine bk ?_; refine blk_put (cs := #[.int .i64 t615, .slice Ao68 t616.length co68, .slice Ao65 x581002_2.length co65]) ?_ 2 _ rfl; refine bk ?_; refine blk_put (cs := #[.int .i64 t615, .slice Ao64 x581001_2.length co64, .slice Ao65 x581002_2.length co65]) ?_ 1 _ rfl; refine bk ?_; refine blk_put (cs := #[.int .i64 x581000_2, .slice Ao64 x581001_2.length co64, .slice Ao65 x581002_2.length co65]) ?_ 0 _ rfl; refine bk ?_; exact BK580.out⟩, ⟨is116 HI0.out⟩, ⟨kp HK.out⟩, ⟨bl116 HB.out⟩⟩
     ·rw [if_neg c27] at H
      have c27b0 : decide (0 < x9_2) = false := decide_eq_false c27
      clear c27
      simp only [Option.some.injEq, Prod.mk.injEq] at H
      obtain ⟨rfl, rfl, rfl, rfl, rfl⟩ := H
      have hnb72 := NB580_556.out
      have hnc72 := NB556_580.out
      have hnb73 := NB580_0.out
      have hnc73 := NB0_580.out
      obtain ⟨hcz74_0, hcz74_1, hcz74_2, hfz74_0, hfz74_1, hfz74_2⟩ := cz3 BK580.out
      have hnb75 := NB556_0.out
      have hnc75 := NB0_556.out
      obtain ⟨hcz76_0, hcz76_1, hcz76_2, hfz76_0, hfz76_1, hfz76_2⟩ := cz3 BK556.out
      obtain ⟨Ao77, co77, eo77⟩ := Kd.R_slice HO_581001.out
      subst eo77
      obtain ⟨Ao78, co78, eo78⟩ := Kd.R_slice HO_581002.out
      subst eo78
      go_wp2
      refine bodyPost_ret (results_cell_row rfl _ _ gb556 41 #[.int .i64 x581000_2, .slice Ao77 x581001_2.length co77, .slice Ao78 x581002_2.length co78] (0, 0) _ rfl (by refine bk ?_; refine blk_put (cs := #[.int .i64 x581000_2, .slice Ao77 x581001_2.length co77, .slice none 0 0]) ?_ 2 _ rfl; refine bk ?_; refine blk_put (cs := #[.int .i64 x581000_2, .slice none 0 0, .slice none 0 0]) ?_ 1 _ rfl; refine bk ?_; refine blk_put (cs := #[.int .i64 0, .slice none 0 0, .slice none 0 0]) ?_ 0 _ rfl; refine bk ?_; exact BK556.out) Try.underlying41 rfl (by kernel_rfl)) rfl ?_
      exact ⟨_, _, by first | rfl | (simp [errW_none, errW_some] <;> rfl) | (simp [*, errW_none, errW_some] <;> rfl), by refine rk ?_; exact Kd.R_mono (Kd.R_far (p := ⟨gb556, 2, none⟩) (Kd.R_far (p := ⟨gb556, 1, none⟩) (Kd.R_far (p := ⟨gb556, 0, none⟩) (Kd.R_types HO_581001.out BK556.out (by decide)) (fun _ hk => hk.2) (.int .i64 x581000_2)) (fun _ hk => hk.2) (.slice Ao77 x581001_2.length co77)) (fun _ hk => hk.2) (.slice Ao78 x581002_2.length co78)) (fun _ hk => trivial), by refine rk ?_; exact Kd.R_mono (Kd.R_far (p := ⟨gb556, 2, none⟩) (Kd.R_far (p := ⟨gb556, 1, none⟩) (Kd.R_far (p := ⟨gb556, 0, none⟩) (Kd.R_types HO_581002.out BK556.out (by decide)) (fun _ hk => hk.2) (.int .i64 x581000_2)) (fun _ hk => hk.2) (.slice Ao77 x581001_2.length co77)) (fun _ hk => hk.2) (.slice Ao78 x581002_2.length co78)) (fun _ hk => trivial), is116 HI0.out, bl116 HB.out, kp HK.out⟩
end Go.Proofs.Ytbpjidekjogfeaa.A

namespace Go.Proofs.Ytbpjidekjogfeaa.A
open Go.RowKit Go.Proofs.YtbpjidekjogfeaaW.PrintWords Go.Proofs.YtbpjidekjogfeaaW.PrintLast Go.Proofs.YtbpjidekjogfeaaW.PrintMore
attribute [local go_sem] max2_int min2_int max_two min_two max_three min_three max_four min_four   
set_option linter.unusedVariables false
set_option linter.unusedSimpArgs false
def impl_least.l0 : Nat → Int → Bool → List (S50) → Int → Int → Int → Int → Int → Option (Int × Int × Int × Bool)
 | 0, _, _, _, _, _, _, _, _ => none
 | k + 1, x1, x7, x14, x15, x16, x693000, x693001, x693002 => if x16 < x15 then (if 0 ≤ x16 then (if x16 < (x14.length : Int) then (if ((rd_T50 x14 x16).f2) ≥ x1 then (if x7 = true then (if ((rd_T50 x14 x16).f2) < x693002 then (impl_least.l0 k x1 true x14 x15 (wrap64 (x16 + 1)) ((rd_T50 x14 x16).f0) ((rd_T50 x14 x16).f1) ((rd_T50 x14 x16).f2)) else (impl_least.l0 k x1 x7 x14 x15 (wrap64 (x16 + 1)) x693000 x693001 x693002)) else (impl_least.l0 k x1 true x14 x15 (wrap64 (x16 + 1)) ((rd_T50 x14 x16).f0) ((rd_T50 x14 x16).f1) ((rd_T50 x14 x16).f2))) else (impl_least.l0 k x1 x7 x14 x15 (wrap64 (x16 + 1)) x693000 x693001 x693002)) else (none)) else (none)) else (some (x693000, x693001, x693002, x7))
def impl_least.f (k : Nat) (l0 : List (S50)) (a1 : Int) : Option (Int × Int × Int × Bool) := if a1 < 1 then (some (0, 0, 0, false)) else (impl_least.l0 k a1 false l0 (l0.length : Int) 0 0 0 0)
set_option maxHeartbeats 8000000 in
set_option maxRecDepth 100000 in
theorem impl_least.calls (k : Nat) (A0 : Option Addr) (c0 : Nat) (l0 : List (S50)) (a1 : Int) (r1 : Int) (r2 : Int) (r3 : Int) (r4 : Bool) (w : World) (hr0 : Kd.C k50 w A0 l0.length l0) (hc0 : l0.length ≤ c0) (h : impl_least.f k l0 a1 = some (r1, r2, r3, r4)) :
  Calls Try.prog 89 #[.slice A0 l0.length c0, .int .i64 a1] w fun e w' => e = .returned (.tuple #[.agg #[.int .i64 r1, .int .i64 r2, .int .i64 r3], .bool r4]) ∧ Below w.heap.size w w' := by
 have hu50 := Try.underlying50
 have HR0 := Aside0.mk hr0
 have HC0 := Aside0.mk hc0
 clear hr0 hc0
 have HB := Aside0.mk (Below.refl w.heap.size w)
 have H : (if a1 < 1 then (some (0, 0, 0, false)) else (impl_least.l0 k a1 false l0 (l0.length : Int) 0 0 0 0)) = some (r1, r2, r3, r4) := h
 clear h
 by_cases c3 : a1 < 1
 ·rw [if_pos c3] at H
  have c3b0 : decide (a1 < 1) = true := decide_eq_true c3
  clear c3
  simp only [Option.some.injEq, Prod.mk.injEq] at H
  obtain ⟨rfl, rfl, rfl, rfl⟩ := H
  go_enter Try.func89, Try.ntmps89
  go_wp2_with (first | ((with_reducible refine gate_dst (N := 4) rfl ?_); refine bx (cs := #[.int .i64 0, .int .i64 0, .int .i64 0]) (t := 50) fun gb691 hg w4 hbox hb => ?_; have BK691 := Aside0.mk (hbox); have GW691 := Aside0.mk (gs HB.out hg); have GE691 := Aside0.mk (gs HB.out hg); replace HB := Aside0.mk (below_step (bl HB.out) hb); clear hb hbox hg) | ((with_reducible refine gate_dst (N := 6) rfl ?_); refine bx (cs := #[.int .i64 0, .int .i64 0, .int .i64 0]) (t := 50) fun gb692 hg w5 hbox hb => ?_; have BK692 := Aside0.mk (hbox); have GW692 := Aside0.mk (gs HB.out hg); have GE692 := Aside0.mk (gs HB.out hg); replace HB := Aside0.mk (below_step (bl HB.out) hb); have NB691_692 := Aside0.mk ((nl BK691.out hg)); have NB692_691 := Aside0.mk ((ng BK691.out hg)); replace BK691 := Aside0.mk (bb BK691.out hb); clear hb hbox hg; have hnb6 := NB692_691.out; have hnc6 := NB691_692.out; obtain ⟨hcz7_0, hcz7_1, hcz7_2, hfz7_0, hfz7_1, hfz7_2⟩ := cz3 BK692.out; obtain ⟨hcz8_0, hcz8_1, hcz8_2, hfz8_0, hfz8_1, hfz8_2⟩ := cz3 BK691.out))
  refine bodyPost_ret (results_ct rfl _ _ gb691 50 #[.int .i64 0, .int .i64 0, .int .i64 0] (0, 0) _ rfl (by refine bk ?_; refine blk_put (cs := #[.int .i64 0, .int .i64 0, .int .i64 0]) ?_ 2 _ rfl; refine bk ?_; refine blk_put (cs := #[.int .i64 0, .int .i64 0, .int .i64 0]) ?_ 1 _ rfl; refine bk ?_; refine blk_put (cs := #[.int .i64 0, .int .i64 0, .int .i64 0]) ?_ 0 _ rfl; refine bk ?_; refine blk_far ?_ NB691_692.out _; refine bk ?_; refine blk_far ?_ NB691_692.out _; refine bk ?_; refine blk_far ?_ NB691_692.out _; refine bk ?_; exact BK691.out) Try.underlying50 rfl (by kernel_rfl)) rfl ?_
  exact ⟨by first | rfl | (simp [errW_none, errW_some] <;> rfl) | (simp [*, errW_none, errW_some] <;> rfl), bl HB.out⟩
 ·rw [if_neg c3] at H
  have c3b0 : decide (a1 < 1) = false := decide_eq_false c3
  clear c3
  have H' := Aside0.mk H
  clear H
  go_enter Try.func89, Try.ntmps89
  go_wp2_with (first | ((with_reducible refine gate_dst (N := 4) rfl ?_); refine bx (cs := #[.int .i64 0, .int .i64 0, .int .i64 0]) (t := 50) fun gb691 hg w9 hbox hb => ?_; have BK691 := Aside0.mk (hbox); have GW691 := Aside0.mk (gs HB.out hg); have GE691 := Aside0.mk (gs HB.out hg); replace HB := Aside0.mk (below_step (bl HB.out) hb); clear hb hbox hg) | ((with_reducible refine gate_dst (N := 6) rfl ?_); refine bx (cs := #[.int .i64 0, .int .i64 0, .int .i64 0]) (t := 50) fun gb692 hg w10 hbox hb => ?_; have BK692 := Aside0.mk (hbox); have GW692 := Aside0.mk (gs HB.out hg); have GE692 := Aside0.mk (gs HB.out hg); replace HB := Aside0.mk (below_step (bl HB.out) hb); have NB691_692 := Aside0.mk ((nl BK691.out hg)); have NB692_691 := Aside0.mk ((ng BK691.out hg)); replace BK691 := Aside0.mk (bb BK691.out hb); clear hb hbox hg; have hnb11 := NB692_691.out; have hnc11 := NB691_692.out; obtain ⟨hcz12_0, hcz12_1, hcz12_2, hfz12_0, hfz12_1, hfz12_2⟩ := cz3 BK692.out))
  go_loopg [7, 16] k (fun kq v7 v16 w' => ∃ (x7_1 : Bool) (x16_1 : Int) (x693000_1 : Int) (x693001_1 : Int) (x693002_1 : Int), v7 = .bool x7_1 ∧ v16 = .int .i64 x16_1 ∧ Aside0 (impl_least.l0 kq a1 x7_1 l0 (l0.length : Int) x16_1 x693000_1 x693001_1 x693002_1 = some (r1, r2, r3, r4)) ∧ Aside0 (kq ≤ k) ∧ Aside0 (w'.heap[gb691]? = some (.cells #[.int .i64 0, .int .i64 0, .int .i64 0] 50 (0, 0))) ∧ Aside0 (w'.heap[gb692]? = some (.cells #[.int .i64 x693000_1, .int .i64 x693001_1, .int .i64 x693002_1] 50 (0, 0))) ∧ Aside0 (Below w.heap.size w w'))
  case atStart => exact ⟨(false), (0), (0), (0), (0), (by first | rfl | (simp; done) | (simp [*]; done)), (by first | rfl | (simp; done) | (simp [*]; done)), H', ⟨Nat.le_refl _⟩, ⟨by refine bk ?_; refine blk_far ?_ NB691_692.out _; refine bk ?_; refine blk_far ?_ NB691_692.out _; refine bk ?_; refine blk_far ?_ NB691_692.out _; refine bk ?_; exact BK691.out⟩, ⟨by refine bk ?_; refine blk_put (cs := #[.int .i64 0, .int .i64 0, .int .i64 0]) ?_ 2 _ rfl; refine bk ?_; refine blk_put (cs := #[.int .i64 0, .int .i64 0, .int .i64 0]) ?_ 1 _ rfl; refine bk ?_; refine blk_put (cs := #[.int .i64 0, .int .i64 0, .int .i64 0]) ?_ 0 _ rfl; refine bk ?_; exact BK692.out⟩, ⟨bl HB.out⟩⟩
  case round =>
   clear H'
   try clear c1
   try clear p2
   try clear c3
   try clear c3b0
   try clear c6
   try clear c8
   try clear c11
   try clear hcz12_0
   try clear hcz12_1
   try clear hcz12_2
   try clear hcz7_0
   try clear hcz7_1
   try clear hcz7_2
   try clear hcz8_0
   try clear hcz8_1
   try clear hcz8_2
   try clear hfz12_0
   try clear hfz12_1
   try clear hfz12_2
   try clear hfz7_0
   try clear hfz7_1
   try clear hfz7_2
   try clear hfz8_0
   try clear hfz8_1
   try clear hfz8_2
   obtain ⟨x7_1, x16_1, x693000_1, x693001_1, x693002_1, rfl, rfl, HA, HK1, BK691, BK692, HB⟩ := hrel
   cases gk with
   | zero => exact absurd HA.out (by simp [impl_least.l0])
   | succ k1 =>
    have H := HA.out
    clear HA
    simp only [impl_least.l0] at H
    by_cases c13 : x16_1 < (l0.length : Int)
    ·rw [if_pos c13] at H
     have c13b0 : decide (x16_1 < (l0.length : Int)) = true := decide_eq_true c13
     clear c13
     by_cases c14 : 0 ≤ x16_1
     ·rw [if_pos c14] at H
      have c14b0 : decide (0 ≤ x16_1) = true := decide_eq_true c14
      clear c14
      by_cases c15 : x16_1 < (l0.length : Int)
      ·rw [if_pos c15] at H
       have c15b0 : decide (x16_1 < (l0.length : Int)) = true := decide_eq_true c15
       clear c15
       by_cases c16 : ((rd_T50 l0 x16_1).f2) ≥ a1
       ·rw [if_pos c16] at H
        have c16b0 : decide (a1 ≤ ((rd_T50 l0 x16_1).f2)) = true := decide_eq_true c16
        clear c16
        by_cases c17 : x7_1 = true
        ·subst c17
         rw [if_pos rfl] at H
         by_cases c18 : ((rd_T50 l0 x16_1).f2) < x693002_1
         ·rw [if_pos c18] at H
          have c18b0 : decide (((rd_T50 l0 x16_1).f2) < x693002_1) = true := decide_eq_true c18
          clear c18
          have H' := Aside0.mk H
          clear H
          have p693 : 0 ≤ (x16_1 : Int) := of_decide_eq_true asm
          have q693 : x16_1 < (l0.length : Int) := of_decide_eq_true asm
          obtain ⟨ad693, e693, hx693_0, hx693_1, hx693_2⟩ := at_T50 HR0.out x16_1 p693 q693
          cases e693
          replace hx693_0 := (HB.out.cell (World.block_lt_of_cell? w _ hx693_0)).trans hx693_0
          replace hx693_1 := (HB.out.cell (World.block_lt_of_cell? w _ hx693_1)).trans hx693_1
          replace hx693_2 := (HB.out.cell (World.block_lt_of_cell? w _ hx693_2)).trans hx693_2
          replace p693 := eq_true p693
          replace q693 := eq_true q693
          go_wp2_with (first | ((with_reducible refine gate_dst (N := 9) rfl ?_); refine bx (cs := #[.int .i64 0, .int .i64 0, .int .i64 0]) (t := 50) fun gb694 hg w19 hbox hb => ?_; have BK694 := Aside0.mk (hbox); have GW694 := Aside0.mk (gs HB.out hg); have GE694 := Aside0.mk (gs HB.out hg); replace HB := Aside0.mk (below_step (bl HB.out) hb); have NB691_694 := Aside0.mk ((nl BK691.out hg)); have NB694_691 := Aside0.mk ((ng BK691.out hg)); replace BK691 := Aside0.mk (bb BK691.out hb); have NB692_694 := Aside0.mk ((nl BK692.out hg)); have NB694_692 := Aside0.mk ((ng BK692.out hg)); replace BK692 := Aside0.mk (bb BK692.out hb); clear hb hbox hg; have hnb20 := NB694_691.out; have hnc20 := NB691_694.out; have hnb21 := NB694_692.out; have hnc21 := NB692_694.out; obtain ⟨hcz22_0, hcz22_1, hcz22_2, hfz22_0, hfz22_1, hfz22_2⟩ := cz3 BK694.out; have hnb23 := NB692_691.out; have hnc23 := NB691_692.out; obtain ⟨hcz24_0, hcz24_1, hcz24_2, hfz24_0, hfz24_1, hfz24_2⟩ := cz3 BK692.out))
          go_roundg k1
          case measure => have := HK1.out; omega
          case rel => exact ⟨(true), (wrap64 (x16_1 + 1)), ((rd_T50 l0 x16_1).f0), ((rd_T50 l0 x16_1).f1), ((rd_T50 l0 x16_1).f2), (by first | rfl | (simp; done) | (simp [*]; done)), (by first | rfl | (simp; done) | (simp [*]; done)), H', ⟨by have := HK1.out; omega⟩, ⟨by refine bk ?_; refine blk_far ?_ NB691_692.out _; refine bk ?_; refine blk_far ?_ NB691_692.out _; refine bk ?_; refine blk_far ?_ NB691_692.out _; refine bk ?_; refine blk_far ?_ NB691_694.out _; refine bk ?_; refine blk_far ?_ NB691_694.out _; refine bk ?_; refine blk_far ?_ NB691_694.out _; refine bk ?_; exact BK691.out⟩, ⟨by refine bk ?_; refine blk_put (cs := #[.int .i64 ((rd_T50 l0 x16_1).f0), .int .i64 ((rd_T50 l0 x16_1).f1), .int .i64 x693002_1]) ?_ 2 _ rfl; refine bk ?_; refine blk_put (cs := #[.int .i64 ((rd_T50 l0 x16_1).f0), .int .i64 x693001_1, .int .i64 x693002_1]) ?_ 1 _ rfl; refine bk ?_; refine blk_put (cs := #[.int .i64 x693000_1, .int .i64 x693001_1, .int .i64 x693002_1]) ?_ 0 _ rfl; refine bk ?_; refine blk_far ?_ NB692_694.out _; refine bk ?_; refine blk_far ?_ NB692_694.out _; refine bk ?_; refine blk_far ?_ NB692_694.out _; refine bk ?_; exact BK692.out⟩, ⟨bl HB.out⟩⟩
         ·rw [if_neg c18] at H
          have c18b0 : decide (((rd_T50 l0 x16_1).f2) < x693002_1) = false := decide_eq_false c18
          clear c18
          have H' := Aside0.mk H
          clear H
          have p693 : 0 ≤ (x16_1 : Int) := of_decide_eq_true asm
          have q693 : x16_1 < (l0.length : Int) := of_decide_eq_true asm
          obtain ⟨ad693, e693, hx693_0, hx693_1, hx693_2⟩ := at_T50 HR0.out x16_1 p693 q693
          cases e693
          replace hx693_0 := (HB.out.cell (World.block_lt_of_cell? w _ hx693_0)).trans hx693_0
          replace hx693_1 := (HB.out.cell (World.block_lt_of_cell? w _ hx693_1)).trans hx693_1
          replace hx693_2 := (HB.out.cell (World.block_lt_of_cell? w _ hx693_2)).trans hx693_2
          replace p693 := eq_true p693
          replace q693 := eq_true q693
          go_wp2_with (first | ((with_reducible refine gate_dst (N := 9) rfl ?_); refine bx (cs := #[.int .i64 0, .int .i64 0, .int .i64 0]) (t := 50) fun gb694 hg w25 hbox hb => ?_; have BK694 := Aside0.mk (hbox); have GW694 := Aside0.mk (gs HB.out hg); have GE694 := Aside0.mk (gs HB.out hg); replace HB := Aside0.mk (below_step (bl HB.out) hb); have NB691_694 := Aside0.mk ((nl BK691.out hg)); have NB694_691 := Aside0.mk ((ng BK691.out hg)); replace BK691 := Aside0.mk (bb BK691.out hb); have NB692_694 := Aside0.mk ((nl BK692.out hg)); have NB694_692 := Aside0.mk ((ng BK692.out hg)); replace BK692 := Aside0.mk (bb BK692.out hb); clear hb hbox hg; have hnb26 := NB694_691.out; have hnc26 := NB691_694.out; have hnb27 := NB694_692.out; have hnc27 := NB692_694.out; obtain ⟨hcz28_0, hcz28_1, hcz28_2, hfz28_0, hfz28_1, hfz28_2⟩ := cz3 BK694.out; have hnb29 := NB692_691.out; have hnc29 := NB691_692.out; obtain ⟨hcz30_0, hcz30_1, hcz30_2, hfz30_0, hfz30_1, hfz30_2⟩ := cz3 BK692.out))
          go_roundg k1
          case measure => have := HK1.out; omega
          case rel => exact ⟨(true), (wrap64 (x16_1 + 1)), (x693000_1), (x693001_1), (x693002_1), (by first | rfl | (simp; done) | (simp [*]; done)), (by first | rfl | (simp; done) | (simp [*]; done)), H', ⟨by have := HK1.out; omega⟩, ⟨by refine bk ?_; refine blk_far ?_ NB691_694.out _; refine bk ?_; refine blk_far ?_ NB691_694.out _; refine bk ?_; refine blk_far ?_ NB691_694.out _; refine bk ?_; exact BK691.out⟩, ⟨by refine bk ?_; refine blk_far ?_ NB692_694.out _; refine bk ?_; refine blk_far ?_ NB692_694.out _; refine bk ?_; refine blk_far ?_ NB692_694.out _; refine bk ?_; exact BK692.out⟩, ⟨bl HB.out⟩⟩
        ·replace c17 := Bool.eq_false_iff.mpr c17
         subst c17
         rw [if_neg (show ¬ (false = true) by decide)] at H
         have H' := Aside0.mk H
         clear H
         have p693 : 0 ≤ (x16_1 : Int) := of_decide_eq_true asm
         have q693 : x16_1 < (l0.length : Int) := of_decide_eq_true asm
         obtain ⟨ad693, e693, hx693_0, hx693_1, hx693_2⟩ := at_T50 HR0.out x16_1 p693 q693
         cases e693
         replace hx693_0 := (HB.out.cell (World.block_lt_of_cell? w _ hx693_0)).trans hx693_0
         replace hx693_1 := (HB.out.cell (World.block_lt_of_cell? w _ hx693_1)).trans hx693_1
         replace hx693_2 := (HB.out.cell (World.block_lt_of_cell? w _ hx693_2)).trans hx693_2
         replace p693 := eq_true p693
         replace q693 := eq_true q693
         go_wp2_with (first | ((with_reducible refine gate_dst (N := 9) rfl ?_); refine bx (cs := #[.int .i64 0, .int .i64 0, .int .i64 0]) (t := 50) fun gb694 hg w31 hbox hb => ?_; have BK694 := Aside0.mk (hbox); have GW694 := Aside0.mk (gs HB.out hg); have GE694 := Aside0.mk (gs HB.out hg); replace HB := Aside0.mk (below_step (bl HB.out) hb); have NB691_694 := Aside0.mk ((nl BK691.out hg)); have NB694_691 := Aside0.mk ((ng BK691.out hg)); replace BK691 := Aside0.mk (bb BK691.out hb); have NB692_694 := Aside0.mk ((nl BK692.out hg)); have NB694_692 := Aside0.mk ((ng BK692.out hg)); replace BK692 := Aside0.mk (bb BK692.out hb); clear hb hbox hg; have hnb32 := NB694_691.out; have hnc32 := NB691_694.out; have hnb33 := NB694_692.out; have hnc33 := NB692_694.out; obtain ⟨hcz34_0, hcz34_1, hcz34_2, hfz34_0, hfz34_1, hfz34_2⟩ := cz3 BK694.out; have hnb35 := NB692_691.out; have hnc35 := NB691_692.out; obtain ⟨hcz36_0, hcz36_1, hcz36_2, hfz36_0, hfz36_1, hfz36_2⟩ := cz3 BK692.out))
         go_roundg k1
         case measure => have := HK1.out; omega
         case rel => exact ⟨(true), (wrap64 (x16_1 + 1)), ((rd_T50 l0 x16_1).f0), ((rd_T50 l0 x16_1).f1), ((rd_T50 l0 x16_1).f2), (by first | rfl | (simp; done) | (simp [*]; done)), (by first | rfl | (simp; done) | (simp [*]; done)), H', ⟨by have := HK1.out; omega⟩, ⟨by refine bk ?_; refine blk_far ?_ NB691_692.out _; refine bk ?_; refine blk_far ?_ NB691_692.out _; refine bk ?_; refine blk_far ?_ NB691_692.out _; refine bk ?_; refine blk_far ?_ NB691_694.out _; refine bk ?_; refine blk_far ?_ NB691_694.out _; refine bk ?_; refine blk_far ?_ NB691_694.out _; refine bk ?_; exact BK691.out⟩, ⟨by refine bk ?_; refine blk_put (cs := #[.int .i64 ((rd_T50 l0 x16_1).f0), .int .i64 ((rd_T50 l0 x16_1).f1), .int .i64 x693002_1]) ?_ 2 _ rfl; refine bk ?_; refine blk_put (cs := #[.int .i64 ((rd_T50 l0 x16_1).f0), .int .i64 x693001_1, .int .i64 x693002_1]) ?_ 1 _ rfl; refine bk ?_; refine blk_put (cs := #[.int .i64 x693000_1, .int .i64 x693001_1, .int .i64 x693002_1]) ?_ 0 _ rfl; refine bk ?_; refine blk_far ?_ NB692_694.out _; refine bk ?_; refine blk_far ?_ NB692_694.out _; refine bk ?_; refine blk_far ?_ NB692_694.out _; refine bk ?_; exact BK692.out⟩, ⟨bl HB.out⟩⟩
       ·rw [if_neg c16] at H
        have c16b0 : decide (a1 ≤ ((rd_T50 l0 x16_1).f2)) = false := decide_eq_false c16
        clear c16
        have H' := Aside0.mk H
        clear H
        have p693 : 0 ≤ (x16_1 : Int) := of_decide_eq_true asm
        have q693 : x16_1 < (l0.length : Int) := of_decide_eq_true asm
        obtain ⟨ad693, e693, hx693_0, hx693_1, hx693_2⟩ := at_T50 HR0.out x16_1 p693 q693
        cases e693
        replace hx693_0 := (HB.out.cell (World.block_lt_of_cell? w _ hx693_0)).trans hx693_0
        replace hx693_1 := (HB.out.cell (World.block_lt_of_cell? w _ hx693_1)).trans hx693_1
        replace hx693_2 := (HB.out.cell (World.block_lt_of_cell? w _ hx693_2)).trans hx693_2
        replace p693 := eq_true p693
        replace q693 := eq_true q693
        go_wp2_with (first | ((with_reducible refine gate_dst (N := 9) rfl ?_); refine bx (cs := #[.int .i64 0, .int .i64 0, .int .i64 0]) (t := 50) fun gb694 hg w37 hbox hb => ?_; have BK694 := Aside0.mk (hbox); have GW694 := Aside0.mk (gs HB.out hg); have GE694 := Aside0.mk (gs HB.out hg); replace HB := Aside0.mk (below_step (bl HB.out) hb); have NB691_694 := Aside0.mk ((nl BK691.out hg)); have NB694_691 := Aside0.mk ((ng BK691.out hg)); replace BK691 := Aside0.mk (bb BK691.out hb); have NB692_694 := Aside0.mk ((nl BK692.out hg)); have NB694_692 := Aside0.mk ((ng BK692.out hg)); replace BK692 := Aside0.mk (bb BK692.out hb); clear hb hbox hg; have hnb38 := NB694_691.out; have hnc38 := NB691_694.out; have hnb39 := NB694_692.out; have hnc39 := NB692_694.out; obtain ⟨hcz40_0, hcz40_1, hcz40_2, hfz40_0, hfz40_1, hfz40_2⟩ := cz3 BK694.out))
        go_roundg k1
        case measure => have := HK1.out; omega
        case rel => exact ⟨(x7_1), (wrap64 (x16_1 + 1)), (x693000_1), (x693001_1), (x693002_1), (by first | rfl | (simp; done) | (simp [*]; done)), (by first | rfl | (simp; done) | (simp [*]; done)), H', ⟨by have := HK1.out; omega⟩, ⟨by refine bk ?_; refine blk_far ?_ NB691_694.out _; refine bk ?_; refine blk_far ?_ NB691_694.out _; refine bk ?_; refine blk_far ?_ NB691_694.out _; refine bk ?_; exact BK691.out⟩, ⟨by refine bk ?_; refine blk_far ?_ NB692_694.out _; refine bk ?_; refine blk_far ?_ NB692_694.out _; refine bk ?_; refine blk_far ?_ NB692_694.out _; refine bk ?_; exact BK692.out⟩, ⟨bl HB.out⟩⟩
      ·rw [if_neg c15] at H
       exact absurd H (by simp)
     ·rw [if_neg c14] at H
      exact absurd H (by simp)
    ·rw [if_neg c13] at H
     have c13b0 : decide (x16_1 < (l0.length : Int)) = false := decide_eq_false c13
     clear c13
     simp only [Option.some.injEq, Prod.mk.injEq] at H
     obtain ⟨rfl, rfl, rfl, rfl⟩ := H
     have hnb41 := NB692_691.out
     have hnc41 := NB691_692.out
     obtain ⟨hcz42_0, hcz42_1, hcz42_2, hfz42_0, hfz42_1, hfz42_2⟩ := cz3 BK692.out
     obtain ⟨hcz43_0, hcz43_1, hcz43_2, hfz43_0, hfz43_1, hfz43_2⟩ := cz3 BK691.out
     go_wp2
     refine bodyPost_ret (results_ct rfl _ _ gb691 50 #[.int .i64 x693000_1, .int .i64 x693001_1, .int .i64 x693002_1] (0, 0) _ rfl (by refine bk ?_; refine blk_put (cs := #[.int .i64 x693000_1, .int .i64 x693001_1, .int .i64 0]) ?_ 2 _ rfl; refine bk ?_; refine blk_put (cs := #[.int .i64 x693000_1, .int .i64 0, .int .i64 0]) ?_ 1 _ rfl; refine bk ?_; refine blk_put (cs := #[.int .i64 0, .int .i64 0, .int .i64 0]) ?_ 0 _ rfl; refine bk ?_; exact BK691.out) Try.underlying50 rfl (by kernel_rfl)) rfl ?_
     exact ⟨by first | rfl | (simp [errW_none, errW_some] <;> rfl) | (simp [*, errW_none, errW_some] <;> rfl), bl HB.out⟩
end Go.Proofs.Ytbpjidekjogfeaa.A

namespace Go.Proofs.Ytbpjidekjogfeaa.A
open Go.RowKit Go.Proofs.YtbpjidekjogfeaaW.PrintWords Go.Proofs.YtbpjidekjogfeaaW.PrintLast Go.Proofs.YtbpjidekjogfeaaW.PrintMore
attribute [local go_sem] max2_int min2_int max_two min_two max_three min_three max_four min_four   
set_option linter.unusedVariables false
set_option linter.unusedSimpArgs false
def impl_Box_128.f (a0 : Int) : Option ((List (S98))) := if 0 ≤ a0 ∧ a0 ≤ 4398046511103 then some [] else none
set_option maxHeartbeats 8000000 in
set_option maxRecDepth 100000 in
theorem impl_Box_128.calls (a0 : Int) (r : List (S98)) (w : World) (h : impl_Box_128.f a0 = some r) :
  Calls Try.prog 128 #[.slice none 0 0, .int .i64 a0] w fun e w' => ∃ v0_ : Value, e = .returned (v0_) ∧ Kd.R k98 98 w' w.heap.size (fun _ => True) v0_ r ∧ Below w.heap.size w w' := by
 obtain ⟨h0, h1⟩ : 0 ≤ a0 ∧ a0 ≤ 4398046511103 := by
  by_cases hc : 0 ≤ a0 ∧ a0 ≤ 4398046511103
  ·exact hc
  ·simp only [impl_Box_128.f] at h; rw [if_neg hc] at h; cases h
 obtain rfl : r = [] := by
  simp only [impl_Box_128.f] at h; rw [if_pos ⟨h0, h1⟩] at h; exact (Option.some.inj h).symm
 clear h
 by_cases hp : 0 < a0
 ·have c0 : decide (a0 < 0) = false := decide_eq_false (by omega)
  have c1 : decide (0 < a0) = true := decide_eq_true hp
  have HL := Aside0.mk h1
  have HZ := Aside0.mk h0
  clear hp
  obtain ⟨i010, hi010, _, _, _⟩ := info_parts info98
  go_enter Try.func128, Try.ntmps128
  go_wp2_with (first | (at_builtin; refine Kd.R_append_zeros k98 (w0 := w) w.heap.size rfl (.tmp 20) (.tmp 21) 39 3 98 (.agg #[(.int .i64 0), (.int .i64 0), (.int .i64 0), (.bool false)]) 32 rfl Try.underlying39 Try.underlying3 info98 rfl (by decide) (by omega) (.slice none 0 0) ([] : List S98) z98 (a0 : Int) (fun _ => True) rfl rfl (k98_mkM _ _ _ z98) ?aF ?aO HZ.out ?aB ?aS ?aL ?_; (case aB => exact Below.refl _ _); (case aF => exact (fun _ _ => trivial)); (case aO => exact ((Kd.R_nil _ _ _ _ (fun _ => True)))); (case aS => exact Nat.le_refl _); (case aL => have := HL.out; simp; omega); intro v886 w9 ho hb hg hat; clear hg hat; obtain ⟨Ao11, co11, eo11⟩ := Kd.R_slice ho; subst eo11; have hcut10 := cut_to (P := Try.prog) 39 98 .i64 Try.underlying39 hi010 Ao11 _ co11 0 (by omega) (by omega) (Kd.R_reads' ho).2.1; have HO := Aside0.mk (Kd.R_take (m := 0) ho (Nat.zero_le _)); have HB := Aside0.mk hb; clear ho hb))
  go_ret
  exact ⟨_, rfl, HO.out, HB.out⟩
 ·obtain rfl : a0 = 0 := by omega
  clear hp h0 h1
  go_enter Try.func128, Try.ntmps128
  go_wp2
  go_ret
  exact ⟨_, rfl, Kd.R_nil _ _ _ _ _, Below.refl _ _⟩
mutual
def impl_Box_126.l0 : Nat → List (List (S98)) → Int → List (List (S98)) → Int → Int → Option ((List (S98)))
 | 0, _, _, _, _, _ => none
 | k + 1, x0, x3, x9, x10, x11 => if x11 < x10 then (if 0 ≤ x11 then (if x11 < (x9.length : Int) then (if (wrap64 (x3 + ((rd_L8 x9 x11).length : Int))) < 0 then (none) else (impl_Box_126.l0 k x0 (wrap64 (x3 + ((rd_L8 x9 x11).length : Int))) x9 x10 (wrap64 (x11 + 1)))) else (none)) else (none)) else ((impl_Box_128.f x3).bind fun t715 => (impl_Box_126.l1 k t715 x0 (x0.length : Int) 0))
def impl_Box_126.l1 : Nat → List (S98) → List (List (S98)) → Int → Int → Option ((List (S98)))
 | 0, _, _, _, _ => none
 | k + 1, x6, x25, x26, x27 => if x27 < x26 then (if 0 ≤ x27 then (if x27 < (x25.length : Int) then (if x6.length + (rd_L8 x25 x27).length < 4398046511104 then (impl_Box_126.l1 k (x6 ++ (rd_L8 x25 x27)) x25 x26 (wrap64 (x27 + 1))) else (none)) else (none)) else (none)) else (some x6)
end
def impl_Box_126.f (k : Nat) (l0 : List (List (S98))) : Option ((List (S98))) := impl_Box_126.l0 k l0 0 l0 (l0.length : Int) 0
set_option maxHeartbeats 8000000 in
set_option maxRecDepth 100000 in
theorem impl_Box_126.calls (k : Nat) (A0 : Option Addr) (c0 : Nat) (l0 : List (List (S98))) (r : List (S98)) (w : World) (hr0 : Kd.C (Kd.slice 98 k98) w A0 l0.length l0) (hc0 : l0.length ≤ c0) (h : impl_Box_126.f k l0 = some r) :
  Calls Try.prog 126 #[.slice A0 l0.length c0] w fun e w' => ∃ v0_ : Value, e = .returned (v0_) ∧ Kd.R k98 98 w' w.heap.size (fun _ => True) v0_ r ∧ Below w.heap.size w w' := by
 have HR0 := Aside0.mk hr0
 have HC0 := Aside0.mk hc0
 clear hr0 hc0
 have HB := Aside0.mk (Below.refl w.heap.size w)
 have H : (impl_Box_126.l0 k l0 0 l0 (l0.length : Int) 0) = some r := h
 clear h
 have H' := Aside0.mk H
 clear H
 go_enter Try.func126, Try.ntmps126
 go_wp2
 go_loopg [3, 11] k (fun kq v3 v11 w' => ∃ (x3_1 : Int) (x11_1 : Int), v3 = .int .i64 x3_1 ∧ v11 = .int .i64 x11_1 ∧ Aside0 (impl_Box_126.l0 kq l0 x3_1 l0 (l0.length : Int) x11_1 = some r) ∧ Aside0 (kq ≤ k) ∧ Aside0 (Below w.heap.size w w'))
 case atStart => exact ⟨(0), (0), (by first | rfl | (simp; done) | (simp [*]; done)), (by first | rfl | (simp; done) | (simp [*]; done)), H', ⟨Nat.le_refl _⟩, ⟨bl HB.out⟩⟩
 case round =>
  clear H'
  try clear c1
  obtain ⟨x3_1, x11_1, rfl, rfl, HA, HK1, HB⟩ := hrel
  cases gk with
  | zero => exact absurd HA.out (by simp [impl_Box_126.l0])
  | succ k1 =>
   have H := HA.out
   clear HA
   simp only [impl_Box_126.l0] at H
   by_cases c2 : x11_1 < (l0.length : Int)
   ·rw [if_pos c2] at H
    have c2b0 : decide (x11_1 < (l0.length : Int)) = true := decide_eq_true c2
    clear c2
    by_cases c3 : 0 ≤ x11_1
    ·rw [if_pos c3] at H
     have c3b0 : decide (0 ≤ x11_1) = true := decide_eq_true c3
     clear c3
     by_cases c4 : x11_1 < (l0.length : Int)
     ·rw [if_pos c4] at H
      have c4b0 : decide (x11_1 < (l0.length : Int)) = true := decide_eq_true c4
      clear c4
      by_cases c5 : (wrap64 (x3_1 + ((rd_L8 l0 x11_1).length : Int))) < 0
      ·rw [if_pos c5] at H
       exact absurd H (by simp)
      ·rw [if_neg c5] at H
       have c5b0 : decide ((wrap64 (x3_1 + ((rd_L8 l0 x11_1).length : Int))) < 0) = false := decide_eq_false c5
       clear c5
       have H' := Aside0.mk H
       clear H
       have p714 : 0 ≤ (x11_1 : Int) := of_decide_eq_true asm
       have q714 : x11_1 < (l0.length : Int) := of_decide_eq_true asm
       obtain ⟨ad714, A714_0, c714_0, e714, hx714_0, hl714_0, hi714_0⟩ := at_L8 HR0.out x11_1 p714 q714
       cases e714
       replace hx714_0 := (HB.out.cell (World.block_lt_of_cell? w _ hx714_0)).trans hx714_0
       have HR714_0 := Aside0.mk hi714_0
       have HC714_0 := Aside0.mk hl714_0
       clear hi714_0 hl714_0
       replace p714 := eq_true p714
       replace q714 := eq_true q714
       go_wp2
       go_roundg k1
       case measure => have := HK1.out; omega
       case rel => exact ⟨(wrap64 (x3_1 + ((rd_L8 l0 x11_1).length : Int))), (wrap64 (x11_1 + 1)), (by first | rfl | (simp; done) | (simp [*]; done)), (by first | rfl | (simp; done) | (simp [*]; done)), H', ⟨by have := HK1.out; omega⟩, ⟨bl HB.out⟩⟩
     ·rw [if_neg c4] at H
      exact absurd H (by simp)
    ·rw [if_neg c3] at H
     exact absurd H (by simp)
   ·rw [if_neg c2] at H
    have c2b0 : decide (x11_1 < (l0.length : Int)) = false := decide_eq_false c2
    clear c2
    replace H := Option.bind_eq_some_iff.mp H
    obtain ⟨t715, A60, H⟩ := H
    try dsimp only at H
    have A6 := Aside0.mk A60
    clear A60
    have H' := Aside0.mk H
    clear H
    go_wp2_with (first | ((with_reducible refine gate_callee (f := 128) rfl ?_); refine goesL_ (some 24) rfl rfl Try.func128 (by kernel_rfl) rfl #[.slice none 0 0, .int .i64 x3_1] rfl mapd ?_; (with_reducible refine (impl_Box_128.calls x3_1 t715 _ A6.out).mono ?_); rintro e w7 ⟨v716, rfl, ho0, hb⟩; refine ⟨_, rfl, ?_⟩; have HO717 := Aside0.mk (Kd.R_lower ho0 (below_size (bl HB.out))); replace HB := Aside0.mk (below_step (bl HB.out) hb); (try clear hb); (try clear hb2); (try clear hk); (try clear hi); (try clear ho0)))
    go_loopg [6, 27] k1 (fun kq v6 v27 w' => ∃ (x6_2 : List (S98)) (x27_2 : Int), v27 = .int .i64 x27_2 ∧ Aside0 (impl_Box_126.l1 kq x6_2 l0 (l0.length : Int) x27_2 = some r) ∧ Aside0 (kq ≤ k1) ∧ Aside0 (Kd.R k98 98 w' w.heap.size (fun _ => True) v6 x6_2) ∧ Aside0 (Below w.heap.size w w'))
    case atStart => exact ⟨(t715), (0), (by first | rfl | (simp; done) | (simp [*]; done)), H', ⟨Nat.le_refl _⟩, ⟨rk HO717.out⟩, ⟨bl HB.out⟩⟩
    case round =>
     clear H'
     try clear c1
     try clear c2
     try clear c2b0
     try clear p2
     try clear c3
     try clear c3b0
     try clear c4
     try clear c4b0
     try clear c5
     try clear c5b0
     try clear p6
     try clear c7
     try clear p7
     try clear q7
     try clear hx7
     try clear hx714_0
     try clear p714
     try clear q714
     obtain ⟨x6_2, x27_2, rfl, HA, HK2, HO_6, HB⟩ := hrel
     cases gk with
     | zero => exact absurd HA.out (by simp [impl_Box_126.l1])
     | succ k2 =>
      have H := HA.out
      clear HA
      simp only [impl_Box_126.l1] at H
      by_cases c8 : x27_2 < (l0.length : Int)
      ·rw [if_pos c8] at H
       have c8b0 : decide (x27_2 < (l0.length : Int)) = true := decide_eq_true c8
       clear c8
       by_cases c9 : 0 ≤ x27_2
       ·rw [if_pos c9] at H
        have c9b0 : decide (0 ≤ x27_2) = true := decide_eq_true c9
        clear c9
        by_cases c10 : x27_2 < (l0.length : Int)
        ·rw [if_pos c10] at H
         have c10b0 : decide (x27_2 < (l0.length : Int)) = true := decide_eq_true c10
         clear c10
         by_cases c11 : x6_2.length + (rd_L8 l0 x27_2).length < 4398046511104
         ·rw [if_pos c11] at H
          have LMc11 := Aside0.mk c11
          clear c11
          obtain ⟨y719, hy719⟩ : ∃ y_ : List (S98), y_ = (x6_2 ++ (rd_L8 l0 x27_2)) := ⟨_, rfl⟩
          replace H : (impl_Box_126.l1 k2 y719 l0 (l0.length : Int) (wrap64 (x27_2 + 1))) = some r := by first | (rw [hy719]; with_reducible exact H) | (have H2_ := (Option.bind_some _ _).symm.trans H; rw [hy719]; with_reducible exact H2_) | (have H2_ := (Option.bind_some _ _).symm.trans H; with_reducible exact H2_) | with_reducible exact H | (rw [hy719]; exact H) | exact H
          have Ny719 := Aside0.mk hy719
          clear hy719
          have H' := Aside0.mk H
          clear H
          have p718 : 0 ≤ (x27_2 : Int) := of_decide_eq_true asm
          have q718 : x27_2 < (l0.length : Int) := of_decide_eq_true asm
          obtain ⟨ad718, A718_0, c718_0, e718, hx718_0, hl718_0, hi718_0⟩ := at_L8 HR0.out x27_2 p718 q718
          cases e718
          replace hx718_0 := (HB.out.cell (World.block_lt_of_cell? w _ hx718_0)).trans hx718_0
          have HR718_0 := Aside0.mk hi718_0
          have HC718_0 := Aside0.mk hl718_0
          clear hi718_0 hl718_0
          replace p718 := eq_true p718
          replace q718 := eq_true q718
          go_wp2_with (first | ((with_reducible refine gate_builtin (b := .append) (xs := #[.tmp 31, .tmp 32]) rfl ?_); at_builtin; refine Kd.R_append_rows k98 (w0 := w) w.heap.size rfl (.tmp 31) (.tmp 32) 39 98 (.agg #[(.int .i64 0), (.int .i64 0), (.int .i64 0), (.bool false)]) 32 rfl Try.underlying39 info98 rfl (by decide) (by omega) u6 x6_2 (rd_L8 l0 x27_2) _ _ _ (fun _ => True) (fun _ => False) rfl rfl ?aO ?aR (fun _ _ h => h) (fun _ h => h.elim) ?aF ?aB ?aS ?aL ?_; (case aR => exact cb (Kd.C_below HR718_0.out HB.out)); (case aB => exact (bl HB.out)); (case aF => exact (fun _ _ => trivial)); (case aO => exact (rk HO_6.out)); (case aS => exact (below_size (bl HB.out))); (case aL => have := LMc11.out; omega); intro v720 w12 ho hb hg hat; rw [← Ny719.out] at ho; replace HB := Aside0.mk (hb); have HO721 := Aside0.mk (ho); clear HO_6; clear ho hb hg hat))
          go_roundg k2
          case measure => have := HK1.out; have := HK2.out; omega
          case rel => exact ⟨(y719), (wrap64 (x27_2 + 1)), (by first | rfl | (simp; done) | (simp [*]; done)), H', ⟨by have := HK1.out; have := HK2.out; omega⟩, ⟨rk HO721.out⟩, ⟨bl HB.out⟩⟩
         ·rw [if_neg c11] at H
          exact absurd H (by simp)
        ·rw [if_neg c10] at H
         exact absurd H (by simp)
       ·rw [if_neg c9] at H
        exact absurd H (by simp)
      ·rw [if_neg c8] at H
       have c8b0 : decide (x27_2 < (l0.length : Int)) = false := decide_eq_false c8
       clear c8
       obtain rfl := Option.some.inj H
       go_wp2
       go_ret
       exact ⟨_, by first | rfl | (simp [errW_none, errW_some] <;> rfl) | (simp [*, errW_none, errW_some] <;> rfl), rk HO_6.out, bl HB.out⟩
end Go.Proofs.Ytbpjidekjogfeaa.A
