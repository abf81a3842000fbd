/- Used by the law FnBoxes. -/
import Derived.Test.YtbpjidekjogfeaaZFnBoxesx16
import Derived.Test.YtbpjidekjogfeaaZFnBoxesx18
import Derived.Test.YtbpjidekjogfeaaZFnBoxesx22
import Derived.Test.YtbpjidekjogfeaaZFnBoxesx20
import Derived.Test.YtbpjidekjogfeaaZFnBoxesx24
import Derived.Test.YtbpjidekjogfeaaZFnBoxesh
namespace Go.Proofs.Ytbpjidekjogfeaa.A
open Go.RowKit Go.Proofs.YtbpjidekjogfeaaW.PrintWords Go.Proofs.YtbpjidekjogfeaaW.PrintLast Go.Proofs.YtbpjidekjogfeaaW.PrintMore
attribute [local go_sem] max2_int min2_int max_two min_two max_three min_three max_four min_four   
set_option linter.unusedVariables false
set_option linter.unusedSimpArgs false
def spec_DrawPutIn.f (k : Nat) (l0 : List Int) : Option (Int × List Int × (List (S98)) × Int × Int) := (spec_l01New.f k l0).bind fun bt668 => ((spec_l02AnyColumn.f k bt668.1 bt668.2.1 bt668.2.2).bind fun bt672 => ((spec_l01PickInt.f bt668.1 bt672.2.2.2.1 bt672.2.2.2.2 (([1, 2, 3, 7, 8, 999, 1000, 0, (-1)] : List Int))).bind fun bt685 => ((spec_l01Below.f bt668.1 bt685.2.1 bt685.2.2 6).bind fun bt688 => (some (bt672.1, bt672.2.1, bt672.2.2.1, bt685.1, bt688.1)))))
set_option maxHeartbeats 8000000 in
set_option maxRecDepth 100000 in
theorem spec_DrawPutIn.calls (k : Nat) (A0 : Option Addr) (c0 : Nat) (l0 : List Int) (r1 : Int) (r2 : List Int) (r3 : List (S98)) (r4 : Int) (r5 : Int) (w : World) (hr0 : Kd.C (Kd.int .u8) w A0 l0.length l0) (hc0 : l0.length ≤ c0) (h : spec_DrawPutIn.f k l0 = some (r1, r2, r3, r4, r5)) :
  Calls Try.prog 28 #[.slice A0 l0.length c0] w fun e w' => ∃ v1_ v2_ : Value, e = .returned (.tuple #[.agg #[.int .i64 r1, v1_, v2_], .int .i64 r4, .int .i64 r5]) ∧ Kd.R (Kd.int .i64) 3 w' w.heap.size (fun _ => True) v1_ r2 ∧ Kd.R k98 98 w' w.heap.size (fun _ => True) v2_ r3 ∧ Below w.heap.size w w' := by
 have hu41 := Try.underlying41
 have HR0 := Aside0.mk hr0
 have HC0 := Aside0.mk hc0
 clear hr0 hc0
 have HB := Aside0.mk (Below.refl w.heap.size w)
 have H : ((spec_l01New.f k l0).bind fun bt668 => ((spec_l02AnyColumn.f k bt668.1 bt668.2.1 bt668.2.2).bind fun bt672 => ((spec_l01PickInt.f bt668.1 bt672.2.2.2.1 bt672.2.2.2.2 (([1, 2, 3, 7, 8, 999, 1000, 0, (-1)] : List Int))).bind fun bt685 => ((spec_l01Below.f bt668.1 bt685.2.1 bt685.2.2 6).bind fun bt688 => (some (bt672.1, bt672.2.1, bt672.2.2.1, bt685.1, bt688.1)))))) = some (r1, r2, r3, r4, r5) := h
 clear h
 replace H := Option.bind_eq_some_iff.mp H
 obtain ⟨⟨t668, t669, t670⟩, A20, H⟩ := H
 try dsimp only at H
 have A2 := Aside0.mk A20
 clear A20
 replace H := Option.bind_eq_some_iff.mp H
 obtain ⟨⟨t672, t673, t676, t679, t680⟩, A30, H⟩ := H
 try dsimp only at H
 have A3 := Aside0.mk A30
 clear A30
 obtain ⟨y682, hy682⟩ : ∃ y_ : List Int, y_ = (([1, 2, 3, 7, 8, 999, 1000, 0, (-1)] : List Int)) := ⟨_, rfl⟩
 replace H : ((spec_l01PickInt.f t668 t679 t680 y682).bind fun bt685 => ((spec_l01Below.f t668 bt685.2.1 bt685.2.2 6).bind fun bt688 => (some (t672, t673, t676, bt685.1, bt688.1)))) = some (r1, r2, r3, r4, r5) := by first | (rw [hy682]; with_reducible exact H) | (have H2_ := (Option.bind_some _ _).symm.trans H; rw [hy682]; with_reducible exact H2_) | (have H2_ := (Option.bind_some _ _).symm.trans H; with_reducible exact H2_) | with_reducible exact H | (rw [hy682]; exact H) | exact H
 have Ny682 := Aside0.mk hy682
 clear hy682
 replace H := Option.bind_eq_some_iff.mp H
 obtain ⟨⟨t685, t686, t687⟩, A40, H⟩ := H
 try dsimp only at H
 have A4 := Aside0.mk A40
 clear A40
 replace H := Option.bind_eq_some_iff.mp H
 obtain ⟨⟨t688, t689, t690⟩, A50, H⟩ := H
 try dsimp only at H
 have A5 := Aside0.mk A50
 clear A50
 simp only [Option.some.injEq, Prod.mk.injEq] at H
 obtain ⟨rfl, rfl, rfl, rfl, rfl⟩ := H
 go_enter Try.func28, Try.ntmps28
 try go_wp2_with (first | ((with_reducible refine gate_dst (N := 2) rfl ?_); refine bx (cs := #[.int .i64 0, .slice none 0 0, .slice none 0 0]) (t := 41) fun gb667 hg w6 hbox hb => ?_; have BK667 := Aside0.mk (hbox); have GW667 := Aside0.mk (gs HB.out hg); have GE667 := Aside0.mk (gs HB.out hg); replace HB := Aside0.mk (below_step (bl HB.out) hb); clear hb hbox hg) | ((with_reducible refine gate_callee (f := 75) rfl ?_); refine goesL_ (some 9) rfl rfl Try.func75 (by kernel_rfl) rfl #[.slice A0 l0.length c0] rfl mapd ?_; (with_reducible refine (spec_l01New.calls k _ _ l0 t668 t669 t670 w _ ?side1 ?side2 ?side3 A2.out).mono ?_); (case side1 => repeat (first | (with_reducible first | exact HB.out | apply below_alloc | apply pw_below_drewN | apply below_drew1 | refine below_set ?_ GE667.out) | exact HB.out)); (case side2 => exact HR0.out); (case side3 => exact HC0.out); rintro e w7 ⟨g671, rfl, hi, hb, hb2⟩; refine ⟨_, rfl, ?_⟩; replace HB := Aside0.mk (hb); have HI671 := Aside0.mk (hi); have NB671_667 := Aside0.mk (IsS116.ne_blk hi (bb BK667.out hb2) (by decide)); have NB667_671 := Aside0.mk (Ne.symm (IsS116.ne_blk hi (bb BK667.out hb2) (by decide))); replace BK667 := Aside0.mk (bb BK667.out hb2); (try clear hb); (try clear hb2); (try clear hk); (try clear hi)) | ((with_reducible refine gate_callee (f := 76) rfl ?_); refine goesL_ (some 11) rfl rfl Try.func76 (by kernel_rfl) rfl #[.pointer (some ⟨g671, 0, none⟩)] rfl mapd ?_; (with_reducible refine (spec_l02AnyColumn.calls k g671 t668 t669 t670 t672 t673 t676 t679 t680 w _ ?side1 ?side2 A3.out).mono ?_); (case side1 => exact is116 HI671.out); (case side2 => exact bl116 HB.out); rintro e w8 ⟨v674, v677, rfl, ho0, ho1, hi, hb, hk⟩; refine ⟨_, rfl, ?_⟩; replace BK667 := Aside0.mk (KeepBut.blk hk (g' := gb667) (o := .cells #[.int .i64 0, .slice none 0 0, .slice none 0 0] 41 (0, 0)) (bk BK667.out) NB667_671.out (by simp)); have HO675 := Aside0.mk (Kd.R_lower ho0 (below_size (bl116 HB.out))); have HO678 := Aside0.mk (Kd.R_lower ho1 (below_size (bl116 HB.out))); replace HB := Aside0.mk (hb); replace HI671 := Aside0.mk (hi); (try clear hb); (try clear hb2); (try clear hk); (try clear hi); (try clear ho0); (try clear ho1)) | ((with_reducible refine gate_dst (N := 6) rfl ?_); refine bx (cs := #[.int .i64 0, .slice none 0 0, .slice none 0 0]) (t := 41) fun gb681 hg w9 hbox hb => ?_; replace HO675 := Aside0.mk (Kd.R_below (rk HO675.out) hb); replace HO678 := Aside0.mk (Kd.R_below (rk HO678.out) hb); have BK681 := Aside0.mk (hbox); have GW681 := Aside0.mk ((by rw [hg]; exact (below_size (bl116 HB.out)) : w.heap.size ≤ gb681)); have GE681 := Aside0.mk ((by rw [hg]; exact (below_size (bl116 HB.out)) : w.heap.size ≤ gb681)); replace HB := Aside0.mk (below_step (bl116 HB.out) hb); have NB667_681 := Aside0.mk ((nl BK667.out hg)); have NB681_667 := Aside0.mk ((ng BK667.out hg)); replace BK667 := Aside0.mk (bb BK667.out hb); have NB671_681 := Aside0.mk ((by rw [hg]; exact Nat.ne_of_lt (IsS116.lt (show IsS116 w _ g671 t668 t679 t680 from is116 HI671.out)) : g671 ≠ gb681)); have NB681_671 := Aside0.mk ((by rw [hg]; exact Nat.ne_of_gt (IsS116.lt (show IsS116 w _ g671 t668 t679 t680 from is116 HI671.out)) : gb681 ≠ g671)); replace HI671 := Aside0.mk (IsS116.below (is116 HI671.out) hb); clear hb hbox hg; have hnb10 := NB681_667.out; have hnc10 := NB667_681.out; have hnb11 := NB681_671.out; have hnc11 := NB671_681.out; obtain ⟨hcz12_0, hcz12_1, hcz12_2, hfz12_0, hfz12_1, hfz12_2⟩ := cz3 BK681.out; obtain ⟨Ao13, co13, eo13⟩ := Kd.R_slice HO675.out; subst eo13; obtain ⟨Ao14, co14, eo14⟩ := Kd.R_slice HO678.out; subst eo14) | ((with_reducible refine gate_dst (N := 13) rfl ?_); refine Kd.R_lit (Kd.int .i64) _ 3 ?hg (N := 13) ?hd (xs := ([1, 2, 3, 7, 8, 999, 1000, 0, (-1)] : List Int)) (inner := [.int .i64 1, .int .i64 2, .int .i64 3, .int .i64 7, .int .i64 8, .int .i64 999, .int .i64 1000, .int .i64 0, .int .i64 (-1)]) (ok := fun _ => True) (okp := fun _ => True) ?hr ?hp (fun _ hk => hk) trivial (Below.refl _ _) (Nat.le_refl _) (by simp) ?_; (case hd => rfl); (case hg => rfl); (case hr => first | (go_simp; done) | (go_simp; rfl)); (case hp => exact (Reps.one (show Kd.M (Kd.int .i64) _ _ _ 1 [.int .i64 1] from rfl) (Reps.one (show Kd.M (Kd.int .i64) _ _ _ 2 [.int .i64 2] from rfl) (Reps.one (show Kd.M (Kd.int .i64) _ _ _ 3 [.int .i64 3] from rfl) (Reps.one (show Kd.M (Kd.int .i64) _ _ _ 7 [.int .i64 7] from rfl) (Reps.one (show Kd.M (Kd.int .i64) _ _ _ 8 [.int .i64 8] from rfl) (Reps.one (show Kd.M (Kd.int .i64) _ _ _ 999 [.int .i64 999] from rfl) (Reps.one (show Kd.M (Kd.int .i64) _ _ _ 1000 [.int .i64 1000] from rfl) (Reps.one (show Kd.M (Kd.int .i64) _ _ _ 0 [.int .i64 0] from rfl) (Reps.one (show Kd.M (Kd.int .i64) _ _ _ (-1) [.int .i64 (-1)] from rfl) (Reps.none _ _))))))))))); intro v683 w15 ho16 hb hg_ hnew_; clear hg_ hnew_; (first | rw [← Ny682.out] at ho16 | (simp only [Int.reduceToNat] at ho16; rw [← Ny682.out] at ho16)); replace HO678 := Aside0.mk (Kd.R_below (by refine rk ?_; exact (Kd.R_mono (Kd.R_far (p := ⟨gb681, 2, none⟩) (Kd.R_far (p := ⟨gb681, 1, none⟩) (Kd.R_far (p := ⟨gb681, 0, none⟩) (Kd.R_types HO678.out BK681.out (by decide)) (fun _ hk => hk.2) (.int .i64 t672)) (fun _ hk => hk.2) (.slice Ao13 t673.length co13)) (fun _ hk => hk.2) (.slice Ao14 t676.length co14)) (fun _ h_ => h_.1))) hb); have HO684 := Aside0.mk (Kd.R_lower (Kd.R_new' ho16 (Kd.R_lt (by refine rk ?_; exact (Kd.R_mono (Kd.R_far (p := ⟨gb681, 2, none⟩) (Kd.R_far (p := ⟨gb681, 1, none⟩) (Kd.R_far (p := ⟨gb681, 0, none⟩) (Kd.R_types HO675.out BK681.out (by decide)) (fun _ hk => hk.2) (.int .i64 t672)) (fun _ hk => hk.2) (.slice Ao13 t673.length co13)) (fun _ hk => hk.2) (.slice Ao14 t676.length co14)) (fun _ h_ => h_.1))))) (below_size (bl116 HB.out))); replace HO675 := Aside0.mk (Kd.R_elder' (by refine rk ?_; exact (Kd.R_mono (Kd.R_far (p := ⟨gb681, 2, none⟩) (Kd.R_far (p := ⟨gb681, 1, none⟩) (Kd.R_far (p := ⟨gb681, 0, none⟩) (Kd.R_types HO675.out BK681.out (by decide)) (fun _ hk => hk.2) (.int .i64 t672)) (fun _ hk => hk.2) (.slice Ao13 t673.length co13)) (fun _ hk => hk.2) (.slice Ao14 t676.length co14)) (fun _ h_ => h_.1))) (Kd.R_base ho16) hb); replace BK667 := Aside0.mk (blk_below (g := gb667) (o := .cells #[.int .i64 0, .slice none 0 0, .slice none 0 0] 41 (0, 0)) (bf BK667.out) hb); replace HI671 := Aside0.mk (IsS116.below (show IsS116 w (((w9.setCell ⟨gb681, 0, none⟩ (.int .i64 t672)).setCell ⟨gb681, 1, none⟩ (.slice Ao13 t673.length co13)).setCell ⟨gb681, 2, none⟩ (.slice Ao14 t676.length co14)) g671 t668 t679 t680 from is116 HI671.out) hb); replace BK681 := Aside0.mk (blk_below (g := gb681) (o := .cells #[.int .i64 t672, .slice Ao13 t673.length co13, .slice Ao14 t676.length co14] 41 (0, 0)) (by refine bk ?_; refine blk_put (cs := #[.int .i64 t672, .slice Ao13 t673.length co13, .slice none 0 0]) ?_ 2 _ rfl; refine bk ?_; refine blk_put (cs := #[.int .i64 t672, .slice none 0 0, .slice none 0 0]) ?_ 1 _ rfl; refine bk ?_; refine blk_put (cs := #[.int .i64 0, .slice none 0 0, .slice none 0 0]) ?_ 0 _ rfl; refine bk ?_; exact BK681.out) hb); replace HB := Aside0.mk (below_step (bl116 HB.out) hb); clear hb ho16; obtain ⟨Ao17, co17, eo17⟩ := Kd.R_slice HO684.out; subst eo17) | ((with_reducible refine gate_callee (f := 77) rfl ?_); refine goesL_ (some 14) rfl rfl Try.func77 (by kernel_rfl) rfl #[.pointer (some ⟨g671, 0, none⟩), .slice Ao17 y682.length co17] rfl mapd ?_; (with_reducible refine (spec_l01PickInt.calls g671 t668 t679 t680 _ _ y682 t685 t686 t687 w _ ?side1 ?side2 ?side3 ?side4 ?side5 A4.out).mono ?_); (case side1 => exact is116 HI671.out); (case side2 => exact bl116 HB.out); (case side3 => exact cb ((Kd.R_reads' HO684.out).2.2)); (case side4 => exact (Kd.R_reads' HO684.out).2.1); (case side5 => exact far_slice (IsS116.own_ne HI671.out HO684.out (by decide))); rintro e w18 ⟨rfl, hi, hb, hk⟩; refine ⟨_, rfl, ?_⟩; replace BK667 := Aside0.mk (KeepBut.blk hk (g' := gb667) (o := .cells #[.int .i64 0, .slice none 0 0, .slice none 0 0] 41 (0, 0)) (bk BK667.out) NB667_671.out (by simp)); replace HO675 := Aside0.mk (Kd.R_mono (Kd.R_keep (IsS116.apart (show IsS116 w _ g671 t668 t679 t680 from is116 HI671.out) (rk HO675.out) (by decide)) hk (fun _ h => h.2)) (fun _ h => h.1)); replace HO678 := Aside0.mk (Kd.R_mono (Kd.R_keep (IsS116.apart (show IsS116 w _ g671 t668 t679 t680 from is116 HI671.out) (rk HO678.out) (by decide)) hk (fun _ h => h.2)) (fun _ h => h.1)); replace BK681 := Aside0.mk (KeepBut.blk hk (g' := gb681) (o := .cells #[.int .i64 t672, .slice Ao13 t673.length co13, .slice Ao14 t676.length co14] 41 (0, 0)) (bk BK681.out) NB681_671.out (by simp)); replace HO684 := Aside0.mk (Kd.R_mono (Kd.R_keep (IsS116.apart (show IsS116 w _ g671 t668 t679 t680 from is116 HI671.out) (rk HO684.out) (by decide)) hk (fun _ h => h.2)) (fun _ h => h.1)); replace HB := Aside0.mk (hb); replace HI671 := Aside0.mk (hi); (try clear hb); (try clear hb2); (try clear hk); (try clear hi)))
 replace HO675 := Aside0.mk (Kd.R_drew HO675.out)
 replace HO678 := Aside0.mk (Kd.R_drew HO678.out)
 replace HO684 := Aside0.mk (Kd.R_drew HO684.out)
 replace BK667 := Aside0.mk (blk_drew BK667.out)
 replace BK681 := Aside0.mk (blk_drew BK681.out)
 replace HI671 := Aside0.mk (IsS116.drew HI671.out)
 replace HB := Aside0.mk (below_drew1 HB.out)
 refine start_ (n := 7) (S := fun w' => w'.cell? ⟨gb681, 0, none⟩ = some (.int .i64 t672) ∧ w'.cell? ⟨gb681, 1, none⟩ = some (.slice Ao13 t673.length co13) ∧ w'.cell? ⟨gb681, 2, none⟩ = some (.slice Ao14 t676.length co14)) (ds := []) #[false, false, false, false, false, false, false] (by kernel_rfl) rfl rfl ⟨(blk_cell BK681.out 0).trans rfl, (blk_cell BK681.out 1).trans rfl, (blk_cell BK681.out 2).trans rfl⟩ (fun hHeld => ?_)
 generalize w18.drew = w19 at HO675 HO678 HO684 BK667 BK681 HI671 HB hHeld ⊢
 refine pure_ (i := 1) (N := some 16) (v := ?_) (a' := ?_) #[false, true, false, false, false, false, false] rfl rfl (by kernel_rfl) (fun _ _ _ h => h) (Or.inl ⟨by rfl, ?_⟩) ?_ ?_
 rotate_left
 ·intro w'
  go_simp
  with_reducible rfl
 rotate_left
 ·simp only [Act.put, List.setIfInBounds_toArray, List.set_cons_zero, List.set_cons_succ, i64_w, i32_w]
  rfl
 refine pure_ (i := 2) (N := some 17) (v := ?_) (a' := ?_) #[false, true, true, false, false, false, false] rfl rfl (by kernel_rfl) (fun _ _ _ h => h) (Or.inl ⟨by rfl, ?_⟩) ?_ ?_
 rotate_left
 ·intro w'
  go_simp
  with_reducible rfl
 rotate_left
 ·simp only [Act.put, List.setIfInBounds_toArray, List.set_cons_zero, List.set_cons_succ, i64_w, i32_w]
  rfl
 refine take_ (i := 0) (N := some 15) (v := ?_) (a' := ?_) #[true, true, true, false, false, false, false] rfl rfl (by kernel_rfl) (fun _ _ _ h => h) (Or.inl ⟨by rfl, ?_⟩) hHeld ?_ ?_
 rotate_left
 ·rintro w' ⟨s0, s1, s2⟩
  go_simp
  with_reducible rfl
 rotate_left
 ·simp only [Act.put, List.setIfInBounds_toArray, List.set_cons_zero, List.set_cons_succ, i64_w, i32_w]
  rfl
 refine one_ (i := 3) (N := some 18) #[true, true, true, true, false, false, false] rfl rfl (by kernel_rfl) (by decide) (fun K hK => ?_)
 refine goes_ Try.func78 (by kernel_rfl) rfl #[.pointer (some ⟨g671, 0, none⟩), .int .i64 6] (by rfl) rfl rfl mapd ?_
 with_reducible refine (spec_l01Below.calls g671 t668 t686 t687 6 t688 t689 t690 w _ ?side1 ?side2 A5.out).mono ?_
 (case side1 => exact is116 HI671.out)
 (case side2 => exact bl116 HB.out)
 rintro e w20 ⟨rfl, hi, hb, hk⟩
 refine ⟨_, rfl, ?_⟩
 replace BK667 := Aside0.mk (KeepBut.blk hk (g' := gb667) (o := .cells #[.int .i64 0, .slice none 0 0, .slice none 0 0] 41 (0, 0)) (bk BK667.out) NB667_671.out (by simp))
 replace HO675 := Aside0.mk (Kd.R_mono (Kd.R_keep (IsS116.apart (show IsS116 w _ g671 t668 t686 t687 from is116 HI671.out) (rk HO675.out) (by decide)) hk (fun _ h => h.2)) (fun _ h => h.1))
 replace HO678 := Aside0.mk (Kd.R_mono (Kd.R_keep (IsS116.apart (show IsS116 w _ g671 t668 t686 t687 from is116 HI671.out) (rk HO678.out) (by decide)) hk (fun _ h => h.2)) (fun _ h => h.1))
 replace BK681 := Aside0.mk (KeepBut.blk hk (g' := gb681) (o := .cells #[.int .i64 t672, .slice Ao13 t673.length co13, .slice Ao14 t676.length co14] 41 (0, 0)) (bk BK681.out) NB681_671.out (by simp))
 replace HO684 := Aside0.mk (Kd.R_mono (Kd.R_keep (IsS116.apart (show IsS116 w _ g671 t668 t686 t687 from is116 HI671.out) (rk HO684.out) (by decide)) hk (fun _ h => h.2)) (fun _ h => h.1))
 replace HB := Aside0.mk (hb)
 replace HI671 := Aside0.mk (hi)
 (try clear hb)
 (try clear hb2)
 (try clear hk)
 (try clear hi)
 refine hK.out _ _ ⟨(blk_cell BK681.out 0).trans rfl, (blk_cell BK681.out 1).trans rfl, (blk_cell BK681.out 2).trans rfl⟩ (fun hHeld => ?_)
 clear hK K
 refine norm_ (a' := ?_) ?_ ?_
 rotate_left
 ·show Act.put _ (some 18) _ = _
  simp only [Act.put, List.setIfInBounds_toArray, List.set_cons_zero, List.set_cons_succ, i64_w, i32_w]
  rfl
 refine one_ (i := 4) (N := none) #[true, true, true, true, true, false, false] rfl rfl (by kernel_rfl) (by decide) (fun K hK => ?_)
 have hs21 : w20.cell? ⟨gb667, 0, none⟩ = some (.int .i64 0) := (blk_cell BK667.out 0).trans rfl
 have hfs21 := blk_frozen BK667.out 0
 have hns21_1 := NB681_667.out
 have hms21_1 := NB667_681.out
 have hs22 : w20.cell? ⟨gb667, 1, none⟩ = some (.slice none 0 0) := (blk_cell BK667.out 1).trans rfl
 have hfs22 := blk_frozen BK667.out 1
 have hns22_1 := NB681_667.out
 have hms22_1 := NB667_681.out
 have hs23 : w20.cell? ⟨gb667, 2, none⟩ = some (.slice none 0 0) := (blk_cell BK667.out 2).trans rfl
 have hfs23 := blk_frozen BK667.out 2
 have hns23_1 := NB681_667.out
 have hms23_1 := NB667_681.out
 refine skip_ (w1 := ?_) (by rfl) rfl ?_ ?_
 rotate_left
 ·go_simp
  rfl
 refine hK.out _ _ ⟨((cell_far (p := ⟨gb667, _, none⟩) NB681_667.out _).trans (((cell_far (p := ⟨gb667, _, none⟩) NB681_667.out _).trans (((cell_far (p := ⟨gb667, _, none⟩) NB681_667.out _).trans (hHeld.1)))))), ((cell_far (p := ⟨gb667, _, none⟩) NB681_667.out _).trans (((cell_far (p := ⟨gb667, _, none⟩) NB681_667.out _).trans (((cell_far (p := ⟨gb667, _, none⟩) NB681_667.out _).trans (hHeld.2.1)))))), ((cell_far (p := ⟨gb667, _, none⟩) NB681_667.out _).trans (((cell_far (p := ⟨gb667, _, none⟩) NB681_667.out _).trans (((cell_far (p := ⟨gb667, _, none⟩) NB681_667.out _).trans (hHeld.2.2))))))⟩ (fun hHeld => ?_)
 clear hK K
 refine pure_ (i := 5) (N := some 3) (v := ?_) (a' := ?_) #[true, true, true, true, true, true, false] rfl rfl (by kernel_rfl) (fun _ _ _ h => h) (Or.inl ⟨by rfl, ?_⟩) ?_ ?_
 rotate_left
 ·intro w'
  go_simp
  with_reducible rfl
 rotate_left
 ·simp only [Act.put, List.setIfInBounds_toArray, List.set_cons_zero, List.set_cons_succ, i64_w, i32_w]
  rfl
 refine pure_ (i := 6) (N := some 4) (v := ?_) (a' := ?_) #[true, true, true, true, true, true, true] rfl rfl (by kernel_rfl) (fun _ _ _ h => h) (Or.inl ⟨by rfl, ?_⟩) ?_ ?_
 rotate_left
 ·intro w'
  go_simp
  with_reducible rfl
 rotate_left
 ·simp only [Act.put, List.setIfInBounds_toArray, List.set_cons_zero, List.set_cons_succ, i64_w, i32_w]
  rfl
 refine done_ (by kernel_rfl) ?_
 try go_wp2
 refine bodyPost_ret (results_ctt rfl _ _ gb667 41 #[.int .i64 t672, .slice Ao13 t673.length co13, .slice Ao14 t676.length co14] (0, 0) _ rfl (by refine bk ?_; refine blk_put (cs := #[.int .i64 t672, .slice Ao13 t673.length co13, .slice none 0 0]) ?_ 2 _ rfl; refine bk ?_; refine blk_put (cs := #[.int .i64 t672, .slice none 0 0, .slice none 0 0]) ?_ 1 _ rfl; refine bk ?_; refine blk_put (cs := #[.int .i64 0, .slice none 0 0, .slice none 0 0]) ?_ 0 _ rfl; refine bk ?_; exact BK667.out) Try.underlying41 rfl (by kernel_rfl)) rfl ?_
 exact ⟨_, _, by first | rfl | (simp [errW_none, errW_some] <;> rfl) | (simp [*, errW_none, errW_some] <;> rfl), by refine rk ?_; exact Kd.R_mono (Kd.R_far (p := ⟨gb667, 2, none⟩) (Kd.R_far (p := ⟨gb667, 1, none⟩) (Kd.R_far (p := ⟨gb667, 0, none⟩) (Kd.R_types HO675.out BK667.out (by decide)) (fun _ hk => hk.2) (.int .i64 t672)) (fun _ hk => hk.2) (.slice Ao13 t673.length co13)) (fun _ hk => hk.2) (.slice Ao14 t676.length co14)) (fun _ hk => trivial), by refine rk ?_; exact Kd.R_mono (Kd.R_far (p := ⟨gb667, 2, none⟩) (Kd.R_far (p := ⟨gb667, 1, none⟩) (Kd.R_far (p := ⟨gb667, 0, none⟩) (Kd.R_types HO678.out BK667.out (by decide)) (fun _ hk => hk.2) (.int .i64 t672)) (fun _ hk => hk.2) (.slice Ao13 t673.length co13)) (fun _ hk => hk.2) (.slice Ao14 t676.length co14)) (fun _ hk => trivial), bl116 HB.out⟩
def impl_least.l0 : Nat → Int → Bool → List (S50) → Int → Int → Int → Int → Int → Option (Int × Int × Int × Bool)
 | 0, _, _, _, _, _, _, _, _ => none
 | k + 1, x1, x7, x14, x15, x16, x693000, x693001, x693002 => if x16 < x15 then (if 0 ≤ x16 then (if x16 < (x14.length : Int) then (if ((rd_T50 x14 x16).f2) ≥ x1 then (if x7 = true then (if ((rd_T50 x14 x16).f2) < x693002 then (impl_least.l0 k x1 true x14 x15 (wrap64 (x16 + 1)) ((rd_T50 x14 x16).f0) ((rd_T50 x14 x16).f1) ((rd_T50 x14 x16).f2)) else (impl_least.l0 k x1 x7 x14 x15 (wrap64 (x16 + 1)) x693000 x693001 x693002)) else (impl_least.l0 k x1 true x14 x15 (wrap64 (x16 + 1)) ((rd_T50 x14 x16).f0) ((rd_T50 x14 x16).f1) ((rd_T50 x14 x16).f2))) else (impl_least.l0 k x1 x7 x14 x15 (wrap64 (x16 + 1)) x693000 x693001 x693002)) else (none)) else (none)) else (some (x693000, x693001, x693002, x7))
def impl_least.f (k : Nat) (l0 : List (S50)) (a1 : Int) : Option (Int × Int × Int × Bool) := if a1 < 1 then (some (0, 0, 0, false)) else (impl_least.l0 k a1 false l0 (l0.length : Int) 0 0 0 0)
set_option maxHeartbeats 8000000 in
set_option maxRecDepth 100000 in
theorem impl_least.calls (k : Nat) (A0 : Option Addr) (c0 : Nat) (l0 : List (S50)) (a1 : Int) (r1 : Int) (r2 : Int) (r3 : Int) (r4 : Bool) (w : World) (hr0 : Kd.C k50 w A0 l0.length l0) (hc0 : l0.length ≤ c0) (h : impl_least.f k l0 a1 = some (r1, r2, r3, r4)) :
  Calls Try.prog 89 #[.slice A0 l0.length c0, .int .i64 a1] w fun e w' => e = .returned (.tuple #[.agg #[.int .i64 r1, .int .i64 r2, .int .i64 r3], .bool r4]) ∧ Below w.heap.size w w' := by
 have hu50 := Try.underlying50
 have HR0 := Aside0.mk hr0
 have HC0 := Aside0.mk hc0
 clear hr0 hc0
 have HB := Aside0.mk (Below.refl w.heap.size w)
 have H : (if a1 < 1 then (some (0, 0, 0, false)) else (impl_least.l0 k a1 false l0 (l0.length : Int) 0 0 0 0)) = some (r1, r2, r3, r4) := h
 clear h
 by_cases c3 : a1 < 1
 ·rw [if_pos c3] at H
  have c3b0 : decide (a1 < 1) = true := decide_eq_true c3
  clear c3
  simp only [Option.some.injEq, Prod.mk.injEq] at H
  obtain ⟨rfl, rfl, rfl, rfl⟩ := H
  go_enter Try.func89, Try.ntmps89
  go_wp2_with (first | ((with_reducible refine gate_dst (N := 4) rfl ?_); refine bx (cs := #[.int .i64 0, .int .i64 0, .int .i64 0]) (t := 50) fun gb691 hg w4 hbox hb => ?_; have BK691 := Aside0.mk (hbox); have GW691 := Aside0.mk (gs HB.out hg); have GE691 := Aside0.mk (gs HB.out hg); replace HB := Aside0.mk (below_step (bl HB.out) hb); clear hb hbox hg) | ((with_reducible refine gate_dst (N := 6) rfl ?_); refine bx (cs := #[.int .i64 0, .int .i64 0, .int .i64 0]) (t := 50) fun gb692 hg w5 hbox hb => ?_; have BK692 := Aside0.mk (hbox); have GW692 := Aside0.mk (gs HB.out hg); have GE692 := Aside0.mk (gs HB.out hg); replace HB := Aside0.mk (below_step (bl HB.out) hb); have NB691_692 := Aside0.mk ((nl BK691.out hg)); have NB692_691 := Aside0.mk ((ng BK691.out hg)); replace BK691 := Aside0.mk (bb BK691.out hb); clear hb hbox hg; have hnb6 := NB692_691.out; have hnc6 := NB691_692.out; obtain ⟨hcz7_0, hcz7_1, hcz7_2, hfz7_0, hfz7_1, hfz7_2⟩ := cz3 BK692.out; obtain ⟨hcz8_0, hcz8_1, hcz8_2, hfz8_0, hfz8_1, hfz8_2⟩ := cz3 BK691.out))
  refine bodyPost_ret (results_ct rfl _ _ gb691 50 #[.int .i64 0, .int .i64 0, .int .i64 0] (0, 0) _ rfl (by refine bk ?_; refine blk_put (cs := #[.int .i64 0, .int .i64 0, .int .i64 0]) ?_ 2 _ rfl; refine bk ?_; refine blk_put (cs := #[.int .i64 0, .int .i64 0, .int .i64 0]) ?_ 1 _ rfl; refine bk ?_; refine blk_put (cs := #[.int .i64 0, .int .i64 0, .int .i64 0]) ?_ 0 _ rfl; refine bk ?_; refine blk_far ?_ NB691_692.out _; refine bk ?_; refine blk_far ?_ NB691_692.out _; refine bk ?_; refine blk_far ?_ NB691_692.out _; refine bk ?_; exact BK691.out) Try.underlying50 rfl (by kernel_rfl)) rfl ?_
  exact ⟨by first | rfl | (simp [errW_none, errW_some] <;> rfl) | (simp [*, errW_none, errW_some] <;> rfl), bl HB.out⟩
 ·rw [if_neg c3] at H
  have c3b0 : decide (a1 < 1) = false := decide_eq_false c3
  clear c3
  have H' := Aside0.mk H
  clear H
  go_enter Try.func89, Try.ntmps89
  go_wp2_with (first | ((with_reducible refine gate_dst (N := 4) rfl ?_); refine bx (cs := #[.int .i64 0, .int .i64 0, .int .i64 0]) (t := 50) fun gb691 hg w9 hbox hb => ?_; have BK691 := Aside0.mk (hbox); have GW691 := Aside0.mk (gs HB.out hg); have GE691 := Aside0.mk (gs HB.out hg); replace HB := Aside0.mk (below_step (bl HB.out) hb); clear hb hbox hg) | ((with_reducible refine gate_dst (N := 6) rfl ?_); refine bx (cs := #[.int .i64 0, .int .i64 0, .int .i64 0]) (t := 50) fun gb692 hg w10 hbox hb => ?_; have BK692 := Aside0.mk (hbox); have GW692 := Aside0.mk (gs HB.out hg); have GE692 := Aside0.mk (gs HB.out hg); replace HB := Aside0.mk (below_step (bl HB.out) hb); have NB691_692 := Aside0.mk ((nl BK691.out hg)); have NB692_691 := Aside0.mk ((ng BK691.out hg)); replace BK691 := Aside0.mk (bb BK691.out hb); clear hb hbox hg; have hnb11 := NB692_691.out; have hnc11 := NB691_692.out; obtain ⟨hcz12_0, hcz12_1, hcz12_2, hfz12_0, hfz12_1, hfz12_2⟩ := cz3 BK692.out))
  go_loopg [7, 16] k (fun kq v7 v16 w' => ∃ (x7_1 : Bool) (x16_1 : Int) (x693000_1 : Int) (x693001_1 : Int) (x693002_1 : Int), v7 = .bool x7_1 ∧ v16 = .int .i64 x16_1 ∧ Aside0 (impl_least.l0 kq a1 x7_1 l0 (l0.length : Int) x16_1 x693000_1 x693001_1 x693002_1 = some (r1, r2, r3, r4)) ∧ Aside0 (kq ≤ k) ∧ Aside0 (w'.heap[gb691]? = some (.cells #[.int .i64 0, .int .i64 0, .int .i64 0] 50 (0, 0))) ∧ Aside0 (w'.heap[gb692]? = some (.cells #[.int .i64 x693000_1, .int .i64 x693001_1, .int .i64 x693002_1] 50 (0, 0))) ∧ Aside0 (Below w.heap.size w w'))
  case atStart => exact ⟨(false), (0), (0), (0), (0), (by first | rfl | (simp; done) | (simp [*]; done)), (by first | rfl | (simp; done) | (simp [*]; done)), H', ⟨Nat.le_refl _⟩, ⟨by refine bk ?_; refine blk_far ?_ NB691_692.out _; refine bk ?_; refine blk_far ?_ NB691_692.out _; refine bk ?_; refine blk_far ?_ NB691_692.out _; refine bk ?_; exact BK691.out⟩, ⟨by refine bk ?_; refine blk_put (cs := #[.int .i64 0, .int .i64 0, .int .i64 0]) ?_ 2 _ rfl; refine bk ?_; refine blk_put (cs := #[.int .i64 0, .int .i64 0, .int .i64 0]) ?_ 1 _ rfl; refine bk ?_; refine blk_put (cs := #[.int .i64 0, .int .i64 0, .int .i64 0]) ?_ 0 _ rfl; refine bk ?_; exact BK692.out⟩, ⟨bl HB.out⟩⟩
  case round =>
   clear H'
   try clear c1
   try clear p2
   try clear c3
   try clear c3b0
   try clear c6
   try clear c8
   try clear c11
   try clear hcz12_0
   try clear hcz12_1
   try clear hcz12_2
   try clear hcz7_0
   try clear hcz7_1
   try clear hcz7_2
   try clear hcz8_0
   try clear hcz8_1
   try clear hcz8_2
   try clear hfz12_0
   try clear hfz12_1
   try clear hfz12_2
   try clear hfz7_0
   try clear hfz7_1
   try clear hfz7_2
   try clear hfz8_0
   try clear hfz8_1
   try clear hfz8_2
   obtain ⟨x7_1, x16_1, x693000_1, x693001_1, x693002_1, rfl, rfl, HA, HK1, BK691, BK692, HB⟩ := hrel
   cases gk with
   | zero => exact absurd HA.out (by simp [impl_least.l0])
   | succ k1 =>
    have H := HA.out
    clear HA
    simp only [impl_least.l0] at H
    by_cases c13 : x16_1 < (l0.length : Int)
    ·rw [if_pos c13] at H
     have c13b0 : decide (x16_1 < (l0.length : Int)) = true := decide_eq_true c13
     clear c13
     by_cases c14 : 0 ≤ x16_1
     ·rw [if_pos c14] at H
      have c14b0 : decide (0 ≤ x16_1) = true := decide_eq_true c14
      clear c14
      by_cases c15 : x16_1 < (l0.length : Int)
      ·rw [if_pos c15] at H
       have c15b0 : decide (x16_1 < (l0.length : Int)) = true := decide_eq_true c15
       clear c15
       by_cases c16 : ((rd_T50 l0 x16_1).f2) ≥ a1
       ·rw [if_pos c16] at H
        have c16b0 : decide (a1 ≤ ((rd_T50 l0 x16_1).f2)) = true := decide_eq_true c16
        clear c16
        by_cases c17 : x7_1 = true
        ·subst c17
         rw [if_pos rfl] at H
         by_cases c18 : ((rd_T50 l0 x16_1).f2) < x693002_1
         ·rw [if_pos c18] at H
          have c18b0 : decide (((rd_T50 l0 x16_1).f2) < x693002_1) = true := decide_eq_true c18
          clear c18
          have H' := Aside0.mk H
          clear H
          have p693 : 0 ≤ (x16_1 : Int) := of_decide_eq_true asm
          have q693 : x16_1 < (l0.length : Int) := of_decide_eq_true asm
          obtain ⟨ad693, e693, hx693_0, hx693_1, hx693_2⟩ := at_T50 HR0.out x16_1 p693 q693
          cases e693
          replace hx693_0 := (HB.out.cell (World.block_lt_of_cell? w _ hx693_0)).trans hx693_0
          replace hx693_1 := (HB.out.cell (World.block_lt_of_cell? w _ hx693_1)).trans hx693_1
          replace hx693_2 := (HB.out.cell (World.block_lt_of_cell? w _ hx693_2)).trans hx693_2
          replace p693 := eq_true p693
          replace q693 := eq_true q693
          go_wp2_with (first | ((with_reducible refine gate_dst (N := 9) rfl ?_); refine bx (cs := #[.int .i64 0, .int .i64 0, .int .i64 0]) (t := 50) fun gb694 hg w19 hbox hb => ?_; have BK694 := Aside0.mk (hbox); have GW694 := Aside0.mk (gs HB.out hg); have GE694 := Aside0.mk (gs HB.out hg); replace HB := Aside0.mk (below_step (bl HB.out) hb); have NB691_694 := Aside0.mk ((nl BK691.out hg)); have NB694_691 := Aside0.mk ((ng BK691.out hg)); replace BK691 := Aside0.mk (bb BK691.out hb); have NB692_694 := Aside0.mk ((nl BK692.out hg)); have NB694_692 := Aside0.mk ((ng BK692.out hg)); replace BK692 := Aside0.mk (bb BK692.out hb); clear hb hbox hg; have hnb20 := NB694_691.out; have hnc20 := NB691_694.out; have hnb21 := NB694_692.out; have hnc21 := NB692_694.out; obtain ⟨hcz22_0, hcz22_1, hcz22_2, hfz22_0, hfz22_1, hfz22_2⟩ := cz3 BK694.out; have hnb23 := NB692_691.out; have hnc23 := NB691_692.out; obtain ⟨hcz24_0, hcz24_1, hcz24_2, hfz24_0, hfz24_1, hfz24_2⟩ := cz3 BK692.out))
          go_roundg k1
          case measure => have := HK1.out; omega
          case rel => exact ⟨(true), (wrap64 (x16_1 + 1)), ((rd_T50 l0 x16_1).f0), ((rd_T50 l0 x16_1).f1), ((rd_T50 l0 x16_1).f2), (by first | rfl | (simp; done) | (simp [*]; done)), (by first | rfl | (simp; done) | (simp [*]; done)), H', ⟨by have := HK1.out; omega⟩, ⟨by refine bk ?_; refine blk_far ?_ NB691_692.out _; refine bk ?_; refine blk_far ?_ NB691_692.out _; refine bk ?_; refine blk_far ?_ NB691_692.out _; refine bk ?_; refine blk_far ?_ NB691_694.out _; refine bk ?_; refine blk_far ?_ NB691_694.out _; refine bk ?_; refine blk_far ?_ NB691_694.out _; refine bk ?_; exact BK691.out⟩, ⟨by refine bk ?_; refine blk_put (cs := #[.int .i64 ((rd_T50 l0 x16_1).f0), .int .i64 ((rd_T50 l0 x16_1).f1), .int .i64 x693002_1]) ?_ 2 _ rfl; refine bk ?_; refine blk_put (cs := #[.int .i64 ((rd_T50 l0 x16_1).f0), .int .i64 x693001_1, .int .i64 x693002_1]) ?_ 1 _ rfl; refine bk ?_; refine blk_put (cs := #[.int .i64 x693000_1, .int .i64 x693001_1, .int .i64 x693002_1]) ?_ 0 _ rfl; refine bk ?_; refine blk_far ?_ NB692_694.out _; refine bk ?_; refine blk_far ?_ NB692_694.out _; refine bk ?_; refine blk_far ?_ NB692_694.out _; refine bk ?_; exact BK692.out⟩, ⟨bl HB.out⟩⟩
         ·rw [if_neg c18] at H
          have c18b0 : decide (((rd_T50 l0 x16_1).f2) < x693002_1) = false := decide_eq_false c18
          clear c18
          have H' := Aside0.mk H
          clear H
          have p693 : 0 ≤ (x16_1 : Int) := of_decide_eq_true asm
          have q693 : x16_1 < (l0.length : Int) := of_decide_eq_true asm
          obtain ⟨ad693, e693, hx693_0, hx693_1, hx693_2⟩ := at_T50 HR0.out x16_1 p693 q693
          cases e693
          replace hx693_0 := (HB.out.cell (World.block_lt_of_cell? w _ hx693_0)).trans hx693_0
          replace hx693_1 := (HB.out.cell (World.block_lt_of_cell? w _ hx693_1)).trans hx693_1
          replace hx693_2 := (HB.out.cell (World.block_lt_of_cell? w _ hx693_2)).trans hx693_2
          replace p693 := eq_true p693
          replace q693 := eq_true q693
          go_wp2_with (first | ((with_reducible refine gate_dst (N := 9) rfl ?_); refine bx (cs := #[.int .i64 0, .int .i64 0, .int .i64 0]) (t := 50) fun gb694 hg w25 hbox hb => ?_; have BK694 := Aside0.mk (hbox); have GW694 := Aside0.mk (gs HB.out hg); have GE694 := Aside0.mk (gs HB.out hg); replace HB := Aside0.mk (below_step (bl HB.out) hb); have NB691_694 := Aside0.mk ((nl BK691.out hg)); have NB694_691 := Aside0.mk ((ng BK691.out hg)); replace BK691 := Aside0.mk (bb BK691.out hb); have NB692_694 := Aside0.mk ((nl BK692.out hg)); have NB694_692 := Aside0.mk ((ng BK692.out hg)); replace BK692 := Aside0.mk (bb BK692.out hb); clear hb hbox hg; have hnb26 := NB694_691.out; have hnc26 := NB691_694.out; have hnb27 := NB694_692.out; have hnc27 := NB692_694.out; obtain ⟨hcz28_0, hcz28_1, hcz28_2, hfz28_0, hfz28_1, hfz28_2⟩ := cz3 BK694.out; have hnb29 := NB692_691.out; have hnc29 := NB691_692.out; obtain ⟨hcz30_0, hcz30_1, hcz30_2, hfz30_0, hfz30_1, hfz30_2⟩ := cz3 BK692.out))
          go_roundg k1
          case measure => have := HK1.out; omega
          case rel => exact ⟨(true), (wrap64 (x16_1 + 1)), (x693000_1), (x693001_1), (x693002_1), (by first | rfl | (simp; done) | (simp [*]; done)), (by first | rfl | (simp; done) | (simp [*]; done)), H', ⟨by have := HK1.out; omega⟩, ⟨by refine bk ?_; refine blk_far ?_ NB691_694.out _; refine bk ?_; refine blk_far ?_ NB691_694.out _; refine bk ?_; refine blk_far ?_ NB691_694.out _; refine bk ?_; exact BK691.out⟩, ⟨by refine bk ?_; refine blk_far ?_ NB692_694.out _; refine bk ?_; refine blk_far ?_ NB692_694.out _; refine bk ?_; refine blk_far ?_ NB692_694.out _; refine bk ?_; exact BK692.out⟩, ⟨bl HB.out⟩⟩
        ·replace c17 := Bool.eq_false_iff.mpr c17
         subst c17
         rw [if_neg (show ¬ (false = true) by decide)] at H
         have H' := Aside0.mk H
         clear H
         have p693 : 0 ≤ (x16_1 : Int) := of_decide_eq_true asm
         have q693 : x16_1 < (l0.length : Int) := of_decide_eq_true asm
         obtain ⟨ad693, e693, hx693_0, hx693_1, hx693_2⟩ := at_T50 HR0.out x16_1 p693 q693
         cases e693
         replace hx693_0 := (HB.out.cell (World.block_lt_of_cell? w _ hx693_0)).trans hx693_0
         replace hx693_1 := (HB.out.cell (World.block_lt_of_cell? w _ hx693_1)).trans hx693_1
         replace hx693_2 := (HB.out.cell (World.block_lt_of_cell? w _ hx693_2)).trans hx693_2
         replace p693 := eq_true p693
         replace q693 := eq_true q693
         go_wp2_with (first | ((with_reducible refine gate_dst (N := 9) rfl ?_); refine bx (cs := #[.int .i64 0, .int .i64 0, .int .i64 0]) (t := 50) fun gb694 hg w31 hbox hb => ?_; have BK694 := Aside0.mk (hbox); have GW694 := Aside0.mk (gs HB.out hg); have GE694 := Aside0.mk (gs HB.out hg); replace HB := Aside0.mk (below_step (bl HB.out) hb); have NB691_694 := Aside0.mk ((nl BK691.out hg)); have NB694_691 := Aside0.mk ((ng BK691.out hg)); replace BK691 := Aside0.mk (bb BK691.out hb); have NB692_694 := Aside0.mk ((nl BK692.out hg)); have NB694_692 := Aside0.mk ((ng BK692.out hg)); replace BK692 := Aside0.mk (bb BK692.out hb); clear hb hbox hg; have hnb32 := NB694_691.out; have hnc32 := NB691_694.out; have hnb33 := NB694_692.out; have hnc33 := NB692_694.out; obtain ⟨hcz34_0, hcz34_1, hcz34_2, hfz34_0, hfz34_1, hfz34_2⟩ := cz3 BK694.out; have hnb35 := NB692_691.out; have hnc35 := NB691_692.out; obtain ⟨hcz36_0, hcz36_1, hcz36_2, hfz36_0, hfz36_1, hfz36_2⟩ := cz3 BK692.out))
         go_roundg k1
         case measure => have := HK1.out; omega
         case rel => exact ⟨(true), (wrap64 (x16_1 + 1)), ((rd_T50 l0 x16_1).f0), ((rd_T50 l0 x16_1).f1), ((rd_T50 l0 x16_1).f2), (by first | rfl | (simp; done) | (simp [*]; done)), (by first | rfl | (simp; done) | (simp [*]; done)), H', ⟨by have := HK1.out; omega⟩, ⟨by refine bk ?_; refine blk_far ?_ NB691_692.out _; refine bk ?_; refine blk_far ?_ NB691_692.out _; refine bk ?_; refine blk_far ?_ NB691_692.out _; refine bk ?_; refine blk_far ?_ NB691_694.out _; refine bk ?_; refine blk_far ?_ NB691_694.out _; refine bk ?_; refine blk_far ?_ NB691_694.out _; refine bk ?_; exact BK691.out⟩, ⟨by refine bk ?_; refine blk_put (cs := #[.int .i64 ((rd_T50 l0 x16_1).f0), .int .i64 ((rd_T50 l0 x16_1).f1), .int .i64 x693002_1]) ?_ 2 _ rfl; refine bk ?_; refine blk_put (cs := #[.int .i64 ((rd_T50 l0 x16_1).f0), .int .i64 x693001_1, .int .i64 x693002_1]) ?_ 1 _ rfl; refine bk ?_; refine blk_put (cs := #[.int .i64 x693000_1, .int .i64 x693001_1, .int .i64 x693002_1]) ?_ 0 _ rfl; refine bk ?_; refine blk_far ?_ NB692_694.out _; refine bk ?_; refine blk_far ?_ NB692_694.out _; refine bk ?_; refine blk_far ?_ NB692_694.out _; refine bk ?_; exact BK692.out⟩, ⟨bl HB.out⟩⟩
       ·rw [if_neg c16] at H
        have c16b0 : decide (a1 ≤ ((rd_T50 l0 x16_1).f2)) = false := decide_eq_false c16
        clear c16
        have H' := Aside0.mk H
        clear H
        have p693 : 0 ≤ (x16_1 : Int) := of_decide_eq_true asm
        have q693 : x16_1 < (l0.length : Int) := of_decide_eq_true asm
        obtain ⟨ad693, e693, hx693_0, hx693_1, hx693_2⟩ := at_T50 HR0.out x16_1 p693 q693
        cases e693
        replace hx693_0 := (HB.out.cell (World.block_lt_of_cell? w _ hx693_0)).trans hx693_0
        replace hx693_1 := (HB.out.cell (World.block_lt_of_cell? w _ hx693_1)).trans hx693_1
        replace hx693_2 := (HB.out.cell (World.block_lt_of_cell? w _ hx693_2)).trans hx693_2
        replace p693 := eq_true p693
        replace q693 := eq_true q693
        go_wp2_with (first | ((with_reducible refine gate_dst (N := 9) rfl ?_); refine bx (cs := #[.int .i64 0, .int .i64 0, .int .i64 0]) (t := 50) fun gb694 hg w37 hbox hb => ?_; have BK694 := Aside0.mk (hbox); have GW694 := Aside0.mk (gs HB.out hg); have GE694 := Aside0.mk (gs HB.out hg); replace HB := Aside0.mk (below_step (bl HB.out) hb); have NB691_694 := Aside0.mk ((nl BK691.out hg)); have NB694_691 := Aside0.mk ((ng BK691.out hg)); replace BK691 := Aside0.mk (bb BK691.out hb); have NB692_694 := Aside0.mk ((nl BK692.out hg)); have NB694_692 := Aside0.mk ((ng BK692.out hg)); replace BK692 := Aside0.mk (bb BK692.out hb); clear hb hbox hg; have hnb38 := NB694_691.out; have hnc38 := NB691_694.out; have hnb39 := NB694_692.out; have hnc39 := NB692_694.out; obtain ⟨hcz40_0, hcz40_1, hcz40_2, hfz40_0, hfz40_1, hfz40_2⟩ := cz3 BK694.out))
        go_roundg k1
        case measure => have := HK1.out; omega
        case rel => exact ⟨(x7_1), (wrap64 (x16_1 + 1)), (x693000_1), (x693001_1), (x693002_1), (by first | rfl | (simp; done) | (simp [*]; done)), (by first | rfl | (simp; done) | (simp [*]; done)), H', ⟨by have := HK1.out; omega⟩, ⟨by refine bk ?_; refine blk_far ?_ NB691_694.out _; refine bk ?_; refine blk_far ?_ NB691_694.out _; refine bk ?_; refine blk_far ?_ NB691_694.out _; refine bk ?_; exact BK691.out⟩, ⟨by refine bk ?_; refine blk_far ?_ NB692_694.out _; refine bk ?_; refine blk_far ?_ NB692_694.out _; refine bk ?_; refine blk_far ?_ NB692_694.out _; refine bk ?_; exact BK692.out⟩, ⟨bl HB.out⟩⟩
      ·rw [if_neg c15] at H
       exact absurd H (by simp)
     ·rw [if_neg c14] at H
      exact absurd H (by simp)
    ·rw [if_neg c13] at H
     have c13b0 : decide (x16_1 < (l0.length : Int)) = false := decide_eq_false c13
     clear c13
     simp only [Option.some.injEq, Prod.mk.injEq] at H
     obtain ⟨rfl, rfl, rfl, rfl⟩ := H
     have hnb41 := NB692_691.out
     have hnc41 := NB691_692.out
     obtain ⟨hcz42_0, hcz42_1, hcz42_2, hfz42_0, hfz42_1, hfz42_2⟩ := cz3 BK692.out
     obtain ⟨hcz43_0, hcz43_1, hcz43_2, hfz43_0, hfz43_1, hfz43_2⟩ := cz3 BK691.out
     go_wp2
     refine bodyPost_ret (results_ct rfl _ _ gb691 50 #[.int .i64 x693000_1, .int .i64 x693001_1, .int .i64 x693002_1] (0, 0) _ rfl (by refine bk ?_; refine blk_put (cs := #[.int .i64 x693000_1, .int .i64 x693001_1, .int .i64 0]) ?_ 2 _ rfl; refine bk ?_; refine blk_put (cs := #[.int .i64 x693000_1, .int .i64 0, .int .i64 0]) ?_ 1 _ rfl; refine bk ?_; refine blk_put (cs := #[.int .i64 0, .int .i64 0, .int .i64 0]) ?_ 0 _ rfl; refine bk ?_; exact BK691.out) Try.underlying50 rfl (by kernel_rfl)) rfl ?_
     exact ⟨by first | rfl | (simp [errW_none, errW_some] <;> rfl) | (simp [*, errW_none, errW_some] <;> rfl), bl HB.out⟩
def impl_GapsOf.l0 : Nat → List (S50) → List (S113) → Int → Int → Option ((List (S50)))
 | 0, _, _, _, _ => none
 | k + 1, x3, x10, x11, x12 => if x12 < x11 then (if 0 ≤ x12 then (if x12 < (x10.length : Int) then (if x3.length < 5864062014805 then (impl_GapsOf.l0 k (x3 ++ [(⟨(rd_T113 x10 x12).f0.f0, (rd_T113 x10 x12).f0.f1, (rd_T113 x10 x12).f0.f2⟩ : S50)]) x10 x11 (wrap64 (x12 + 1))) else (none)) else (none)) else (none)) else (some x3)
def impl_GapsOf.f (k : Nat) (a0_0 : Int) (l0_1 : List Int) (l0_2 : List (S98)) : Option ((List (S50))) := (impl_ColumnOk.f a0_0 l0_1 l0_2).bind fun t696 => (if t696 = true then ((impl_runsOf.f k a0_0 l0_1 l0_2).bind fun t697 => (impl_GapsOf.l0 k ([] : List (S50)) t697 (t697.length : Int) 0)) else (some ([] : List (S50))))
set_option maxHeartbeats 8000000 in
set_option maxRecDepth 100000 in
theorem impl_GapsOf.calls (k : Nat) (a0_0 : Int) (A0_1 : Option Addr) (c0_1 : Nat) (l0_1 : List Int) (A0_2 : Option Addr) (c0_2 : Nat) (l0_2 : List (S98)) (r : List (S50)) (w : World) (hr0_1 : Kd.C (Kd.int .i64) w A0_1 l0_1.length l0_1) (hc0_1 : l0_1.length ≤ c0_1) (hr0_2 : Kd.C k98 w A0_2 l0_2.length l0_2) (hc0_2 : l0_2.length ≤ c0_2) (h : impl_GapsOf.f k a0_0 l0_1 l0_2 = some r) :
  Calls Try.prog 90 #[.agg #[.int .i64 a0_0, .slice A0_1 l0_1.length c0_1, .slice A0_2 l0_2.length c0_2]] w fun e w' => ∃ v0_ : Value, e = .returned (v0_) ∧ Kd.R k50 50 w' w.heap.size (fun _ => True) v0_ r ∧ Below w.heap.size w w' := by
 have hu41 := Try.underlying41
 have hu113 := Try.underlying113
 have hu50 := Try.underlying50
 have HR0_1 := Aside0.mk hr0_1
 have HC0_1 := Aside0.mk hc0_1
 clear hr0_1 hc0_1
 have HR0_2 := Aside0.mk hr0_2
 have HC0_2 := Aside0.mk hc0_2
 clear hr0_2 hc0_2
 have HB := Aside0.mk (Below.refl w.heap.size w)
 have H : ((impl_ColumnOk.f a0_0 l0_1 l0_2).bind fun t696 => (if t696 = true then ((impl_runsOf.f k a0_0 l0_1 l0_2).bind fun t697 => (impl_GapsOf.l0 k ([] : List (S50)) t697 (t697.length : Int) 0)) else (some ([] : List (S50))))) = some r := h
 clear h
 replace H := Option.bind_eq_some_iff.mp H
 obtain ⟨t696, A20, H⟩ := H
 try dsimp only at H
 have A2 := Aside0.mk A20
 clear A20
 by_cases c3 : t696 = true
 ·subst c3
  rw [if_pos rfl] at H
  replace H := Option.bind_eq_some_iff.mp H
  obtain ⟨t697, A40, H⟩ := H
  try dsimp only at H
  have A4 := Aside0.mk A40
  clear A40
  have H' := Aside0.mk H
  clear H
  go_enter Try.func90, Try.ntmps90
  go_wp2_with (first | ((with_reducible refine gate_dst (N := 1) rfl ?_); refine bx (cs := #[.int .i64 a0_0, .slice A0_1 l0_1.length c0_1, .slice A0_2 l0_2.length c0_2]) (t := 41) fun gb695 hg w5 hbox hb => ?_; have BK695 := Aside0.mk (hbox); have GW695 := Aside0.mk (gs HB.out hg); have GE695 := Aside0.mk (gs HB.out hg); replace HB := Aside0.mk (below_step (bl HB.out) hb); clear hb hbox hg; obtain ⟨hcz6_0, hcz6_1, hcz6_2, hfz6_0, hfz6_1, hfz6_2⟩ := cz3 BK695.out) | ((with_reducible refine gate_callee (f := 34) rfl ?_); refine goesL_ (some 7) rfl rfl Try.func34 (by kernel_rfl) rfl #[.agg #[.int .i64 a0_0, .slice A0_1 l0_1.length c0_1, .slice A0_2 l0_2.length c0_2]] rfl mapd ?_; (with_reducible refine (impl_ColumnOk.calls a0_0 _ _ l0_1 _ _ l0_2 true _ ?side1 ?side2 ?side3 ?side4 A2.out).mono ?_); (case side1 => exact cb (Kd.C_below HR0_1.out HB.out)); (case side2 => exact HC0_1.out); (case side3 => exact cb (Kd.C_below HR0_2.out HB.out)); (case side4 => exact HC0_2.out); rintro e w7 ⟨rfl, hb⟩; refine ⟨_, rfl, ?_⟩; replace BK695 := Aside0.mk (bb BK695.out hb); replace HB := Aside0.mk (below_step (bl HB.out) hb); (try clear hb); (try clear hb2); (try clear hk); (try clear hi); obtain ⟨hcz8_0, hcz8_1, hcz8_2, hfz8_0, hfz8_1, hfz8_2⟩ := cz3 BK695.out) | ((with_reducible refine gate_callee (f := 109) rfl ?_); refine goesL_ (some 10) rfl rfl Try.func109 (by kernel_rfl) rfl #[.agg #[.int .i64 a0_0, .slice A0_1 l0_1.length c0_1, .slice A0_2 l0_2.length c0_2]] rfl mapd ?_; (with_reducible refine (impl_runsOf.calls k a0_0 _ _ l0_1 _ _ l0_2 t697 _ ?side1 ?side2 ?side3 ?side4 A4.out).mono ?_); (case side1 => exact cb (Kd.C_below HR0_1.out HB.out)); (case side2 => exact HC0_1.out); (case side3 => exact cb (Kd.C_below HR0_2.out HB.out)); (case side4 => exact HC0_2.out); rintro e w9 ⟨v698, rfl, ho0, hb⟩; refine ⟨_, rfl, ?_⟩; have HO699 := Aside0.mk (Kd.R_lower ho0 (below_size (bl HB.out))); replace BK695 := Aside0.mk (bb BK695.out hb); replace HB := Aside0.mk (below_step (bl HB.out) hb); (try clear hb); (try clear hb2); (try clear hk); (try clear hi); (try clear ho0); obtain ⟨Ao10, co10, eo10⟩ := Kd.R_slice HO699.out; subst eo10))
  go_loopg [3, 12] k (fun kq v3 v12 w' => ∃ (x3_1 : List (S50)) (x12_1 : Int), v12 = .int .i64 x12_1 ∧ Aside0 (impl_GapsOf.l0 kq x3_1 t697 (t697.length : Int) x12_1 = some r) ∧ Aside0 (kq ≤ k) ∧ Aside0 (Kd.R k50 50 w' w.heap.size (fun _ => True) v3 x3_1) ∧ Aside0 (Kd.R k113 113 w' w.heap.size (fun _ => True) (.slice Ao10 t697.length co10) t697) ∧ Aside0 (w'.heap[gb695]? = some (.cells #[.int .i64 a0_0, (.slice A0_1 l0_1.length c0_1), (.slice A0_2 l0_2.length c0_2)] 41 (0, 0))) ∧ Aside0 (Below w.heap.size w w'))
  case atStart => exact ⟨(([] : List (S50))), (0), (by first | rfl | (simp; done) | (simp [*]; done)), H', ⟨Nat.le_refl _⟩, ⟨by first | exact Kd.R_nil _ _ _ _ _ | exact Kd.N_nil _ _ _ _ _ | exact Kd.V_nil _ _ _ _ _ | exact Kd.Q_nil _ _ _ _ _ | exact Kd.S_nil _ _ _ _ _⟩, ⟨rk HO699.out⟩, ⟨by refine bk ?_; exact BK695.out⟩, ⟨bl HB.out⟩⟩
  case round =>
   clear H'
   try clear c1
   try clear p2
   try clear c3
   try clear c9
   try clear c10
   try clear hcz6_0
   try clear hcz6_1
   try clear hcz6_2
   try clear hcz8_0
   try clear hcz8_1
   try clear hcz8_2
   try clear hfz6_0
   try clear hfz6_1
   try clear hfz6_2
   try clear hfz8_0
   try clear hfz8_1
   try clear hfz8_2
   obtain ⟨x3_1, x12_1, rfl, HA, HK1, HO_3, HO_10, BK695, HB⟩ := hrel
   cases gk with
   | zero => exact absurd HA.out (by simp [impl_GapsOf.l0])
   | succ k1 =>
    have H := HA.out
    clear HA
    simp only [impl_GapsOf.l0] at H
    by_cases c11 : x12_1 < (t697.length : Int)
    ·rw [if_pos c11] at H
     have c11b0 : decide (x12_1 < (t697.length : Int)) = true := decide_eq_true c11
     clear c11
     by_cases c12 : 0 ≤ x12_1
     ·rw [if_pos c12] at H
      have c12b0 : decide (0 ≤ x12_1) = true := decide_eq_true c12
      clear c12
      by_cases c13 : x12_1 < (t697.length : Int)
      ·rw [if_pos c13] at H
       have c13b0 : decide (x12_1 < (t697.length : Int)) = true := decide_eq_true c13
       clear c13
       by_cases c14 : x3_1.length < 5864062014805
       ·rw [if_pos c14] at H
        have LMc14 := Aside0.mk c14
        clear c14
        obtain ⟨y702, hy702⟩ : ∃ y_ : List (S50), y_ = (x3_1 ++ [(⟨(rd_T113 t697 x12_1).f0.f0, (rd_T113 t697 x12_1).f0.f1, (rd_T113 t697 x12_1).f0.f2⟩ : S50)]) := ⟨_, rfl⟩
        replace H : (impl_GapsOf.l0 k1 y702 t697 (t697.length : Int) (wrap64 (x12_1 + 1))) = some r := by first | (rw [hy702]; with_reducible exact H) | (have H2_ := (Option.bind_some _ _).symm.trans H; rw [hy702]; with_reducible exact H2_) | (have H2_ := (Option.bind_some _ _).symm.trans H; with_reducible exact H2_) | with_reducible exact H | (rw [hy702]; exact H) | exact H
        have Ny702 := Aside0.mk hy702
        clear hy702
        have H' := Aside0.mk H
        clear H
        have p700 : 0 ≤ (x12_1 : Int) := of_decide_eq_true asm
        have q700 : x12_1 < (t697.length : Int) := of_decide_eq_true asm
        obtain ⟨ad700, e700, hx700_0, hx700_1, hx700_2, hx700_3, hx700_4⟩ := at_T113 (Kd.R_reads' HO_10.out).2.2 x12_1 p700 q700
        cases e700
        replace p700 := eq_true p700
        replace q700 := eq_true q700
        go_wp2_with (first | ((with_reducible refine gate_dst (N := 5) rfl ?_); refine bx (cs := #[.int .i64 0, .int .i64 0, .int .i64 0, .int .i64 0, .int .i64 0]) (t := 113) fun gb701 hg w15 hbox hb => ?_; replace HO_3 := Aside0.mk (Kd.R_below (rk HO_3.out) hb); replace HO_10 := Aside0.mk (Kd.R_below (Kd.R_elderB (rk HO_10.out) gb701 (Nat.le_of_eq hg.symm)) hb); have BK701 := Aside0.mk (hbox); have GW701 := Aside0.mk (gs HB.out hg); have GE701 := Aside0.mk (gs HB.out hg); replace HB := Aside0.mk (below_step (bl HB.out) hb); have NB695_701 := Aside0.mk ((nl BK695.out hg)); have NB701_695 := Aside0.mk ((ng BK695.out hg)); replace BK695 := Aside0.mk (bb BK695.out hb); clear hb hbox hg; have hnb16 := NB701_695.out; have hnc16 := NB695_701.out; obtain ⟨hcz17_0, hcz17_1, hcz17_2, hcz17_3, hcz17_4, hfz17_0, hfz17_1, hfz17_2, hfz17_3, hfz17_4⟩ := cz5 BK701.out) | ((with_reducible refine gate_builtin (b := .append) (xs := #[.tmp 16, .tmp 19]) rfl ?_); at_builtin; refine Kd.R_append k50 (w0 := w) w.heap.size rfl (.tmp 16) (.tmp 19) 24 50 (.agg #[(.int .i64 0), (.int .i64 0), (.int .i64 0)]) 24 rfl Try.underlying24 info50 rfl (by decide) (by omega) u3 x3_1 (⟨(rd_T113 t697 x12_1).f0.f0, (rd_T113 t697 x12_1).f0.f1, (rd_T113 t697 x12_1).f0.f2⟩ : S50) [.int .i64 ((rd_T113 t697 x12_1).f0.f0), .int .i64 ((rd_T113 t697 x12_1).f0.f1), .int .i64 ((rd_T113 t697 x12_1).f0.f2)] (fun _ => True) (fun _ => False) rfl (by first | (go_simp; done) | (go_simp; rfl)) ?aP (fun _ hk => hk.elim) ?aF ?aO ?aB ?aS ?aL ?_; (case aP => exact k50_mkM _ _ _ (⟨(rd_T113 t697 x12_1).f0.f0, (rd_T113 t697 x12_1).f0.f1, (rd_T113 t697 x12_1).f0.f2⟩ : S50)); (case aB => exact (bl HB.out)); (case aF => exact (fun _ _ => trivial)); (case aO => exact (by refine rk ?_; exact Kd.R_mono (Kd.R_far (p := ⟨gb701, 4, none⟩) (Kd.R_far (p := ⟨gb701, 3, none⟩) (Kd.R_far (p := ⟨gb701, 2, none⟩) (Kd.R_far (p := ⟨gb701, 1, none⟩) (Kd.R_far (p := ⟨gb701, 0, none⟩) (Kd.R_types HO_3.out BK701.out (by decide)) (fun _ hk => hk.2) (.int .i64 ((rd_T113 t697 x12_1).f0.f0))) (fun _ hk => hk.2) (.int .i64 ((rd_T113 t697 x12_1).f0.f1))) (fun _ hk => hk.2) (.int .i64 ((rd_T113 t697 x12_1).f0.f2))) (fun _ hk => hk.2) (.int .i64 ((rd_T113 t697 x12_1).f1))) (fun _ hk => hk.2) (.int .i64 ((rd_T113 t697 x12_1).f2))) (fun _ hk => trivial))); (case aS => exact (below_size (bl HB.out))); (case aL => have := LMc14.out; omega); intro v703 w18 ho hb hg hat; rw [← Ny702.out] at ho; replace HO_10 := Aside0.mk (Kd.R_over' (by refine rk ?_; exact (Kd.R_mono (Kd.R_far (p := ⟨gb701, 4, none⟩) (Kd.R_far (p := ⟨gb701, 3, none⟩) (Kd.R_far (p := ⟨gb701, 2, none⟩) (Kd.R_far (p := ⟨gb701, 1, none⟩) (Kd.R_far (p := ⟨gb701, 0, none⟩) (Kd.R_mono HO_10.out (fun k_ hk => (⟨hk, hk.2⟩ : _ ∧ k_ ≠ gb701))) (fun _ hk => hk.2) (.int .i64 ((rd_T113 t697 x12_1).f0.f0))) (fun _ hk => hk.2) (.int .i64 ((rd_T113 t697 x12_1).f0.f1))) (fun _ hk => hk.2) (.int .i64 ((rd_T113 t697 x12_1).f0.f2))) (fun _ hk => hk.2) (.int .i64 ((rd_T113 t697 x12_1).f1))) (fun _ hk => hk.2) (.int .i64 ((rd_T113 t697 x12_1).f2))) (fun _ h_ => h_.1))) (Kd.R_typed (by refine rk ?_; exact (Kd.R_mono (Kd.R_far (p := ⟨gb701, 4, none⟩) (Kd.R_far (p := ⟨gb701, 3, none⟩) (Kd.R_far (p := ⟨gb701, 2, none⟩) (Kd.R_far (p := ⟨gb701, 1, none⟩) (Kd.R_far (p := ⟨gb701, 0, none⟩) (Kd.R_types HO_3.out BK701.out (by decide)) (fun _ hk => hk.2) (.int .i64 ((rd_T113 t697 x12_1).f0.f0))) (fun _ hk => hk.2) (.int .i64 ((rd_T113 t697 x12_1).f0.f1))) (fun _ hk => hk.2) (.int .i64 ((rd_T113 t697 x12_1).f0.f2))) (fun _ hk => hk.2) (.int .i64 ((rd_T113 t697 x12_1).f1))) (fun _ hk => hk.2) (.int .i64 ((rd_T113 t697 x12_1).f2))) (fun _ h_ => h_.1)))) (by decide) hg); replace BK695 := Aside0.mk (blk_grown (g := gb695) (o := .cells #[.int .i64 a0_0, .slice A0_1 l0_1.length c0_1, .slice A0_2 l0_2.length c0_2] 41 (0, 0)) (bf BK695.out) hg (Kd.R_ne HO_3.out BK695.out (by decide))); replace BK701 := Aside0.mk (blk_grown (g := gb701) (o := .cells #[.int .i64 ((rd_T113 t697 x12_1).f0.f0), .int .i64 ((rd_T113 t697 x12_1).f0.f1), .int .i64 ((rd_T113 t697 x12_1).f0.f2), .int .i64 ((rd_T113 t697 x12_1).f1), .int .i64 ((rd_T113 t697 x12_1).f2)] 113 (0, 0)) (by refine bk ?_; refine blk_put (cs := #[.int .i64 ((rd_T113 t697 x12_1).f0.f0), .int .i64 ((rd_T113 t697 x12_1).f0.f1), .int .i64 ((rd_T113 t697 x12_1).f0.f2), .int .i64 ((rd_T113 t697 x12_1).f1), .int .i64 0]) ?_ 4 _ rfl; refine bk ?_; refine blk_put (cs := #[.int .i64 ((rd_T113 t697 x12_1).f0.f0), .int .i64 ((rd_T113 t697 x12_1).f0.f1), .int .i64 ((rd_T113 t697 x12_1).f0.f2), .int .i64 0, .int .i64 0]) ?_ 3 _ rfl; refine bk ?_; refine blk_put (cs := #[.int .i64 ((rd_T113 t697 x12_1).f0.f0), .int .i64 ((rd_T113 t697 x12_1).f0.f1), .int .i64 0, .int .i64 0, .int .i64 0]) ?_ 2 _ rfl; refine bk ?_; refine blk_put (cs := #[.int .i64 ((rd_T113 t697 x12_1).f0.f0), .int .i64 0, .int .i64 0, .int .i64 0, .int .i64 0]) ?_ 1 _ rfl; refine bk ?_; refine blk_put (cs := #[.int .i64 0, .int .i64 0, .int .i64 0, .int .i64 0, .int .i64 0]) ?_ 0 _ rfl; refine bk ?_; exact BK701.out) hg (Kd.R_ne HO_3.out BK701.out (by decide))); replace HB := Aside0.mk (hb); have HO704 := Aside0.mk (ho); clear HO_3; clear ho hb hg hat))
        go_roundg k1
        case measure => have := HK1.out; omega
        case rel => exact ⟨(y702), (wrap64 (x12_1 + 1)), (by first | rfl | (simp; done) | (simp [*]; done)), H', ⟨by have := HK1.out; omega⟩, ⟨rk HO704.out⟩, ⟨by refine rk ?_; exact Kd.R_mono HO_10.out (fun _ hk => trivial)⟩, ⟨by refine bk ?_; exact BK695.out⟩, ⟨bl HB.out⟩⟩
       ·rw [if_neg c14] at H
        exact absurd H (by simp)
      ·rw [if_neg c13] at H
       exact absurd H (by simp)
     ·rw [if_neg c12] at H
      exact absurd H (by simp)
    ·rw [if_neg c11] at H
     have c11b0 : decide (x12_1 < (t697.length : Int)) = false := decide_eq_false c11
     clear c11
     obtain rfl := Option.some.inj H
     go_wp2
     go_ret
     exact ⟨_, by first | rfl | (simp [errW_none, errW_some] <;> rfl) | (simp [*, errW_none, errW_some] <;> rfl), rk HO_3.out, bl HB.out⟩
 ·replace c3 := Bool.eq_false_iff.mpr c3
  subst c3
  rw [if_neg (show ¬ (false = true) by decide)] at H
  obtain rfl := Option.some.inj H
  go_enter Try.func90, Try.ntmps90
  go_wp2_with (first | ((with_reducible refine gate_dst (N := 1) rfl ?_); refine bx (cs := #[.int .i64 a0_0, .slice A0_1 l0_1.length c0_1, .slice A0_2 l0_2.length c0_2]) (t := 41) fun gb695 hg w19 hbox hb => ?_; have BK695 := Aside0.mk (hbox); have GW695 := Aside0.mk (gs HB.out hg); have GE695 := Aside0.mk (gs HB.out hg); replace HB := Aside0.mk (below_step (bl HB.out) hb); clear hb hbox hg; obtain ⟨hcz20_0, hcz20_1, hcz20_2, hfz20_0, hfz20_1, hfz20_2⟩ := cz3 BK695.out) | ((with_reducible refine gate_callee (f := 34) rfl ?_); refine goesL_ (some 7) rfl rfl Try.func34 (by kernel_rfl) rfl #[.agg #[.int .i64 a0_0, .slice A0_1 l0_1.length c0_1, .slice A0_2 l0_2.length c0_2]] rfl mapd ?_; (with_reducible refine (impl_ColumnOk.calls a0_0 _ _ l0_1 _ _ l0_2 false _ ?side1 ?side2 ?side3 ?side4 A2.out).mono ?_); (case side1 => exact cb (Kd.C_below HR0_1.out HB.out)); (case side2 => exact HC0_1.out); (case side3 => exact cb (Kd.C_below HR0_2.out HB.out)); (case side4 => exact HC0_2.out); rintro e w21 ⟨rfl, hb⟩; refine ⟨_, rfl, ?_⟩; replace BK695 := Aside0.mk (bb BK695.out hb); replace HB := Aside0.mk (below_step (bl HB.out) hb); (try clear hb); (try clear hb2); (try clear hk); (try clear hi)))
  go_ret
  exact ⟨_, by first | rfl | (simp [errW_none, errW_some] <;> rfl) | (simp [*, errW_none, errW_some] <;> rfl), by first | exact Kd.R_nil _ _ _ _ _ | exact Kd.N_nil _ _ _ _ _ | exact Kd.V_nil _ _ _ _ _ | exact Kd.Q_nil _ _ _ _ _ | exact Kd.S_nil _ _ _ _ _, bl HB.out⟩
end Go.Proofs.Ytbpjidekjogfeaa.A

namespace Go.Proofs.Ytbpjidekjogfeaa.A
open Go.RowKit Go.Proofs.YtbpjidekjogfeaaW.PrintWords Go.Proofs.YtbpjidekjogfeaaW.PrintLast Go.Proofs.YtbpjidekjogfeaaW.PrintMore
attribute [local go_sem] max2_int min2_int max_two min_two max_three min_three max_four min_four   
set_option linter.unusedVariables false
set_option linter.unusedSimpArgs false
def impl_FitOf.f (k : Nat) (a0_0 : Int) (l0_1 : List Int) (l0_2 : List (S98)) (a1 : Int) : Option (Int × Int × Int × Bool) := (impl_GapsOf.f k a0_0 l0_1 l0_2).bind fun t707 => ((impl_least.f k t707 a1).bind fun bt710 => (some (bt710.1, bt710.2.1, bt710.2.2.1, bt710.2.2.2)))
set_option maxHeartbeats 8000000 in
set_option maxRecDepth 100000 in
theorem impl_FitOf.calls (k : Nat) (a0_0 : Int) (A0_1 : Option Addr) (c0_1 : Nat) (l0_1 : List Int) (A0_2 : Option Addr) (c0_2 : Nat) (l0_2 : List (S98)) (a1 : Int) (r1 : Int) (r2 : Int) (r3 : Int) (r4 : Bool) (w : World) (hr0_1 : Kd.C (Kd.int .i64) w A0_1 l0_1.length l0_1) (hc0_1 : l0_1.length ≤ c0_1) (hr0_2 : Kd.C k98 w A0_2 l0_2.length l0_2) (hc0_2 : l0_2.length ≤ c0_2) (h : impl_FitOf.f k a0_0 l0_1 l0_2 a1 = some (r1, r2, r3, r4)) :
  Calls Try.prog 33 #[.agg #[.int .i64 a0_0, .slice A0_1 l0_1.length c0_1, .slice A0_2 l0_2.length c0_2], .int .i64 a1] w fun e w' => e = .returned (.tuple #[.agg #[.int .i64 r1, .int .i64 r2, .int .i64 r3], .bool r4]) ∧ Below w.heap.size w w' := by
 have hu41 := Try.underlying41
 have hu50 := Try.underlying50
 have HR0_1 := Aside0.mk hr0_1
 have HC0_1 := Aside0.mk hc0_1
 clear hr0_1 hc0_1
 have HR0_2 := Aside0.mk hr0_2
 have HC0_2 := Aside0.mk hc0_2
 clear hr0_2 hc0_2
 have HB := Aside0.mk (Below.refl w.heap.size w)
 have H : ((impl_GapsOf.f k a0_0 l0_1 l0_2).bind fun t707 => ((impl_least.f k t707 a1).bind fun bt710 => (some (bt710.1, bt710.2.1, bt710.2.2.1, bt710.2.2.2)))) = some (r1, r2, r3, r4) := h
 clear h
 replace H := Option.bind_eq_some_iff.mp H
 obtain ⟨t707, A30, H⟩ := H
 try dsimp only at H
 have A3 := Aside0.mk A30
 clear A30
 replace H := Option.bind_eq_some_iff.mp H
 obtain ⟨⟨t710, t711, t712, t713⟩, A40, H⟩ := H
 try dsimp only at H
 have A4 := Aside0.mk A40
 clear A40
 simp only [Option.some.injEq, Prod.mk.injEq] at H
 obtain ⟨rfl, rfl, rfl, rfl⟩ := H
 go_enter Try.func33, Try.ntmps33
 go_wp2_with (first | ((with_reducible refine gate_dst (N := 2) rfl ?_); refine bx (cs := #[.int .i64 a0_0, .slice A0_1 l0_1.length c0_1, .slice A0_2 l0_2.length c0_2]) (t := 41) fun gb705 hg w5 hbox hb => ?_; have BK705 := Aside0.mk (hbox); have GW705 := Aside0.mk (gs HB.out hg); have GE705 := Aside0.mk (gs HB.out hg); replace HB := Aside0.mk (below_step (bl HB.out) hb); clear hb hbox hg) | ((with_reducible refine gate_dst (N := 4) rfl ?_); refine bx (cs := #[.int .i64 0, .int .i64 0, .int .i64 0]) (t := 50) fun gb706 hg w6 hbox hb => ?_; have BK706 := Aside0.mk (hbox); have GW706 := Aside0.mk (gs HB.out hg); have GE706 := Aside0.mk (gs HB.out hg); replace HB := Aside0.mk (below_step (bl HB.out) hb); have NB705_706 := Aside0.mk ((nl BK705.out hg)); have NB706_705 := Aside0.mk ((ng BK705.out hg)); replace BK705 := Aside0.mk (bb BK705.out hb); clear hb hbox hg; have hnb7 := NB705_706.out; have hnc7 := NB706_705.out; obtain ⟨hcz8_0, hcz8_1, hcz8_2, hfz8_0, hfz8_1, hfz8_2⟩ := cz3 BK705.out) | ((with_reducible refine gate_callee (f := 90) rfl ?_); refine goesL_ (some 7) rfl rfl Try.func90 (by kernel_rfl) rfl #[.agg #[.int .i64 a0_0, .slice A0_1 l0_1.length c0_1, .slice A0_2 l0_2.length c0_2]] rfl mapd ?_; (with_reducible refine (impl_GapsOf.calls k a0_0 _ _ l0_1 _ _ l0_2 t707 _ ?side1 ?side2 ?side3 ?side4 A3.out).mono ?_); (case side1 => exact cb (Kd.C_below HR0_1.out HB.out)); (case side2 => exact HC0_1.out); (case side3 => exact cb (Kd.C_below HR0_2.out HB.out)); (case side4 => exact HC0_2.out); rintro e w9 ⟨v708, rfl, ho0, hb⟩; refine ⟨_, rfl, ?_⟩; have HO709 := Aside0.mk (Kd.R_lower (Kd.R_newB ho0 (g := gb706) (o := .cells #[.int .i64 0, .int .i64 0, .int .i64 0] 50 (0, 0)) (bk BK706.out)) (below_size (bl HB.out))); replace BK705 := Aside0.mk (bb BK705.out hb); replace BK706 := Aside0.mk (bb BK706.out hb); replace HB := Aside0.mk (below_step (bl HB.out) hb); (try clear hb); (try clear hb2); (try clear hk); (try clear hi); (try clear ho0); obtain ⟨Ao10, co10, eo10⟩ := Kd.R_slice HO709.out; subst eo10) | ((with_reducible refine gate_callee (f := 89) rfl ?_); refine goesL_ (some 9) rfl rfl Try.func89 (by kernel_rfl) rfl #[.slice Ao10 t707.length co10, .int .i64 a1] rfl mapd ?_; (with_reducible refine (impl_least.calls k _ _ t707 a1 t710 t711 t712 t713 _ ?side1 ?side2 A4.out).mono ?_); (case side1 => exact cb ((Kd.R_reads' HO709.out).2.2)); (case side2 => exact (Kd.R_reads' HO709.out).2.1); rintro e w11 ⟨rfl, hb⟩; refine ⟨_, rfl, ?_⟩; replace HO709 := Aside0.mk (Kd.R_below (rk HO709.out) hb); replace BK705 := Aside0.mk (bb BK705.out hb); replace BK706 := Aside0.mk (bb BK706.out hb); replace HB := Aside0.mk (below_step (bl HB.out) hb); (try clear hb); (try clear hb2); (try clear hk); (try clear hi); obtain ⟨hcz12_0, hcz12_1, hcz12_2, hfz12_0, hfz12_1, hfz12_2⟩ := cz3 BK706.out))
 refine bodyPost_ret (results_ct rfl _ _ gb706 50 #[.int .i64 t710, .int .i64 t711, .int .i64 t712] (0, 0) _ rfl (by refine bk ?_; refine blk_put (cs := #[.int .i64 t710, .int .i64 t711, .int .i64 0]) ?_ 2 _ rfl; refine bk ?_; refine blk_put (cs := #[.int .i64 t710, .int .i64 0, .int .i64 0]) ?_ 1 _ rfl; refine bk ?_; refine blk_put (cs := #[.int .i64 0, .int .i64 0, .int .i64 0]) ?_ 0 _ rfl; refine bk ?_; exact BK706.out) Try.underlying50 rfl (by kernel_rfl)) rfl ?_
 exact ⟨by first | rfl | (simp [errW_none, errW_some] <;> rfl) | (simp [*, errW_none, errW_some] <;> rfl), bl HB.out⟩
def impl_Box_128.f (a0 : Int) : Option ((List (S98))) := if 0 ≤ a0 ∧ a0 ≤ 4398046511103 then some [] else none
set_option maxHeartbeats 8000000 in
set_option maxRecDepth 100000 in
theorem impl_Box_128.calls (a0 : Int) (r : List (S98)) (w : World) (h : impl_Box_128.f a0 = some r) :
  Calls Try.prog 128 #[.slice none 0 0, .int .i64 a0] w fun e w' => ∃ v0_ : Value, e = .returned (v0_) ∧ Kd.R k98 98 w' w.heap.size (fun _ => True) v0_ r ∧ Below w.heap.size w w' := by
 obtain ⟨h0, h1⟩ : 0 ≤ a0 ∧ a0 ≤ 4398046511103 := by
  by_cases hc : 0 ≤ a0 ∧ a0 ≤ 4398046511103
  ·exact hc
  ·simp only [impl_Box_128.f] at h; rw [if_neg hc] at h; cases h
 obtain rfl : r = [] := by
  simp only [impl_Box_128.f] at h; rw [if_pos ⟨h0, h1⟩] at h; exact (Option.some.inj h).symm
 clear h
 by_cases hp : 0 < a0
 ·have c0 : decide (a0 < 0) = false := decide_eq_false (by omega)
  have c1 : decide (0 < a0) = true := decide_eq_true hp
  have HL := Aside0.mk h1
  have HZ := Aside0.mk h0
  clear hp
  obtain ⟨i010, hi010, _, _, _⟩ := info_parts info98
  go_enter Try.func128, Try.ntmps128
  go_wp2_with (first | (at_builtin; refine Kd.R_append_zeros k98 (w0 := w) w.heap.size rfl (.tmp 20) (.tmp 21) 39 3 98 (.agg #[(.int .i64 0), (.int .i64 0), (.int .i64 0), (.bool false)]) 32 rfl Try.underlying39 Try.underlying3 info98 rfl (by decide) (by omega) (.slice none 0 0) ([] : List S98) z98 (a0 : Int) (fun _ => True) rfl rfl (k98_mkM _ _ _ z98) ?aF ?aO HZ.out ?aB ?aS ?aL ?_; (case aB => exact Below.refl _ _); (case aF => exact (fun _ _ => trivial)); (case aO => exact ((Kd.R_nil _ _ _ _ (fun _ => True)))); (case aS => exact Nat.le_refl _); (case aL => have := HL.out; simp; omega); intro v886 w9 ho hb hg hat; clear hg hat; obtain ⟨Ao11, co11, eo11⟩ := Kd.R_slice ho; subst eo11; have hcut10 := cut_to (P := Try.prog) 39 98 .i64 Try.underlying39 hi010 Ao11 _ co11 0 (by omega) (by omega) (Kd.R_reads' ho).2.1; have HO := Aside0.mk (Kd.R_take (m := 0) ho (Nat.zero_le _)); have HB := Aside0.mk hb; clear ho hb))
  go_ret
  exact ⟨_, rfl, HO.out, HB.out⟩
 ·obtain rfl : a0 = 0 := by omega
  clear hp h0 h1
  go_enter Try.func128, Try.ntmps128
  go_wp2
  go_ret
  exact ⟨_, rfl, Kd.R_nil _ _ _ _ _, Below.refl _ _⟩
mutual
def impl_Box_126.l0 : Nat → List (List (S98)) → Int → List (List (S98)) → Int → Int → Option ((List (S98)))
 | 0, _, _, _, _, _ => none
 | k + 1, x0, x3, x9, x10, x11 => if x11 < x10 then (if 0 ≤ x11 then (if x11 < (x9.length : Int) then (if (wrap64 (x3 + ((rd_L8 x9 x11).length : Int))) < 0 then (none) else (impl_Box_126.l0 k x0 (wrap64 (x3 + ((rd_L8 x9 x11).length : Int))) x9 x10 (wrap64 (x11 + 1)))) else (none)) else (none)) else ((impl_Box_128.f x3).bind fun t715 => (impl_Box_126.l1 k t715 x0 (x0.length : Int) 0))
def impl_Box_126.l1 : Nat → List (S98) → List (List (S98)) → Int → Int → Option ((List (S98)))
 | 0, _, _, _, _ => none
 | k + 1, x6, x25, x26, x27 => if x27 < x26 then (if 0 ≤ x27 then (if x27 < (x25.length : Int) then (if x6.length + (rd_L8 x25 x27).length < 4398046511104 then (impl_Box_126.l1 k (x6 ++ (rd_L8 x25 x27)) x25 x26 (wrap64 (x27 + 1))) else (none)) else (none)) else (none)) else (some x6)
end
def impl_Box_126.f (k : Nat) (l0 : List (List (S98))) : Option ((List (S98))) := impl_Box_126.l0 k l0 0 l0 (l0.length : Int) 0
set_option maxHeartbeats 8000000 in
set_option maxRecDepth 100000 in
theorem impl_Box_126.calls (k : Nat) (A0 : Option Addr) (c0 : Nat) (l0 : List (List (S98))) (r : List (S98)) (w : World) (hr0 : Kd.C (Kd.slice 98 k98) w A0 l0.length l0) (hc0 : l0.length ≤ c0) (h : impl_Box_126.f k l0 = some r) :
  Calls Try.prog 126 #[.slice A0 l0.length c0] w fun e w' => ∃ v0_ : Value, e = .returned (v0_) ∧ Kd.R k98 98 w' w.heap.size (fun _ => True) v0_ r ∧ Below w.heap.size w w' := by
 have HR0 := Aside0.mk hr0
 have HC0 := Aside0.mk hc0
 clear hr0 hc0
 have HB := Aside0.mk (Below.refl w.heap.size w)
 have H : (impl_Box_126.l0 k l0 0 l0 (l0.length : Int) 0) = some r := h
 clear h
 have H' := Aside0.mk H
 clear H
 go_enter Try.func126, Try.ntmps126
 go_wp2
 go_loopg [3, 11] k (fun kq v3 v11 w' => ∃ (x3_1 : Int) (x11_1 : Int), v3 = .int .i64 x3_1 ∧ v11 = .int .i64 x11_1 ∧ Aside0 (impl_Box_126.l0 kq l0 x3_1 l0 (l0.length : Int) x11_1 = some r) ∧ Aside0 (kq ≤ k) ∧ Aside0 (Below w.heap.size w w'))
 case atStart => exact ⟨(0), (0), (by first | rfl | (simp; done) | (simp [*]; done)), (by first | rfl | (simp; done) | (simp [*]; done)), H', ⟨Nat.le_refl _⟩, ⟨bl HB.out⟩⟩
 case round =>
  clear H'
  try clear c1
  obtain ⟨x3_1, x11_1, rfl, rfl, HA, HK1, HB⟩ := hrel
  cases gk with
  | zero => exact absurd HA.out (by simp [impl_Box_126.l0])
  | succ k1 =>
   have H := HA.out
   clear HA
   simp only [impl_Box_126.l0] at H
   by_cases c2 : x11_1 < (l0.length : Int)
   ·rw [if_pos c2] at H
    have c2b0 : decide (x11_1 < (l0.length : Int)) = true := decide_eq_true c2
    clear c2
    by_cases c3 : 0 ≤ x11_1
    ·rw [if_pos c3] at H
     have c3b0 : decide (0 ≤ x11_1) = true := decide_eq_true c3
     clear c3
     by_cases c4 : x11_1 < (l0.length : Int)
     ·rw [if_pos c4] at H
      have c4b0 : decide (x11_1 < (l0.length : Int)) = true := decide_eq_true c4
      clear c4
      by_cases c5 : (wrap64 (x3_1 + ((rd_L8 l0 x11_1).length : Int))) < 0
      ·rw [if_pos c5] at H
       exact absurd H (by simp)
      ·rw [if_neg c5] at H
       have c5b0 : decide ((wrap64 (x3_1 + ((rd_L8 l0 x11_1).length : Int))) < 0) = false := decide_eq_false c5
       clear c5
       have H' := Aside0.mk H
       clear H
       have p714 : 0 ≤ (x11_1 : Int) := of_decide_eq_true asm
       have q714 : x11_1 < (l0.length : Int) := of_decide_eq_true asm
       obtain ⟨ad714, A714_0, c714_0, e714, hx714_0, hl714_0, hi714_0⟩ := at_L8 HR0.out x11_1 p714 q714
       cases e714
       replace hx714_0 := (HB.out.cell (World.block_lt_of_cell? w _ hx714_0)).trans hx714_0
       have HR714_0 := Aside0.mk hi714_0
       have HC714_0 := Aside0.mk hl714_0
       clear hi714_0 hl714_0
       replace p714 := eq_true p714
       replace q714 := eq_true q714
       go_wp2
       go_roundg k1
       case measure => have := HK1.out; omega
       case rel => exact ⟨(wrap64 (x3_1 + ((rd_L8 l0 x11_1).length : Int))), (wrap64 (x11_1 + 1)), (by first | rfl | (simp; done) | (simp [*]; done)), (by first | rfl | (simp; done) | (simp [*]; done)), H', ⟨by have := HK1.out; omega⟩, ⟨bl HB.out⟩⟩
     ·rw [if_neg c4] at H
      exact absurd H (by simp)
    ·rw [if_neg c3] at H
     exact absurd H (by simp)
   ·rw [if_neg c2] at H
    have c2b0 : decide (x11_1 < (l0.length : Int)) = false := decide_eq_false c2
    clear c2
    replace H := Option.bind_eq_some_iff.mp H
    obtain ⟨t715, A60, H⟩ := H
    try dsimp only at H
    have A6 := Aside0.mk A60
    clear A60
    have H' := Aside0.mk H
    clear H
    go_wp2_with (first | ((with_reducible refine gate_callee (f := 128) rfl ?_); refine goesL_ (some 24) rfl rfl Try.func128 (by kernel_rfl) rfl #[.slice none 0 0, .int .i64 x3_1] rfl mapd ?_; (with_reducible refine (impl_Box_128.calls x3_1 t715 _ A6.out).mono ?_); rintro e w7 ⟨v716, rfl, ho0, hb⟩; refine ⟨_, rfl, ?_⟩; have HO717 := Aside0.mk (Kd.R_lower ho0 (below_size (bl HB.out))); replace HB := Aside0.mk (below_step (bl HB.out) hb); (try clear hb); (try clear hb2); (try clear hk); (try clear hi); (try clear ho0)))
    go_loopg [6, 27] k1 (fun kq v6 v27 w' => ∃ (x6_2 : List (S98)) (x27_2 : Int), v27 = .int .i64 x27_2 ∧ Aside0 (impl_Box_126.l1 kq x6_2 l0 (l0.length : Int) x27_2 = some r) ∧ Aside0 (kq ≤ k1) ∧ Aside0 (Kd.R k98 98 w' w.heap.size (fun _ => True) v6 x6_2) ∧ Aside0 (Below w.heap.size w w'))
    case atStart => exact ⟨(t715), (0), (by first | rfl | (simp; done) | (simp [*]; done)), H', ⟨Nat.le_refl _⟩, ⟨rk HO717.out⟩, ⟨bl HB.out⟩⟩
    case round =>
     clear H'
     try clear c1
     try clear c2
     try clear c2b0
     try clear p2
     try clear c3
     try clear c3b0
     try clear c4
     try clear c4b0
     try clear c5
     try clear c5b0
     try clear p6
     try clear c7
     try clear p7
     try clear q7
     try clear hx7
     try clear hx714_0
     try clear p714
     try clear q714
     obtain ⟨x6_2, x27_2, rfl, HA, HK2, HO_6, HB⟩ := hrel
     cases gk with
     | zero => exact absurd HA.out (by simp [impl_Box_126.l1])
     | succ k2 =>
      have H := HA.out
      clear HA
      simp only [impl_Box_126.l1] at H
      by_cases c8 : x27_2 < (l0.length : Int)
      ·rw [if_pos c8] at H
       have c8b0 : decide (x27_2 < (l0.length : Int)) = true := decide_eq_true c8
       clear c8
       by_cases c9 : 0 ≤ x27_2
       ·rw [if_pos c9] at H
        have c9b0 : decide (0 ≤ x27_2) = true := decide_eq_true c9
        clear c9
        by_cases c10 : x27_2 < (l0.length : Int)
        ·rw [if_pos c10] at H
         have c10b0 : decide (x27_2 < (l0.length : Int)) = true := decide_eq_true c10
         clear c10
         by_cases c11 : x6_2.length + (rd_L8 l0 x27_2).length < 4398046511104
         ·rw [if_pos c11] at H
          have LMc11 := Aside0.mk c11
          clear c11
          obtain ⟨y719, hy719⟩ : ∃ y_ : List (S98), y_ = (x6_2 ++ (rd_L8 l0 x27_2)) := ⟨_, rfl⟩
          replace H : (impl_Box_126.l1 k2 y719 l0 (l0.length : Int) (wrap64 (x27_2 + 1))) = some r := by first | (rw [hy719]; with_reducible exact H) | (have H2_ := (Option.bind_some _ _).symm.trans H; rw [hy719]; with_reducible exact H2_) | (have H2_ := (Option.bind_some _ _).symm.trans H; with_reducible exact H2_) | with_reducible exact H | (rw [hy719]; exact H) | exact H
          have Ny719 := Aside0.mk hy719
          clear hy719
          have H' := Aside0.mk H
          clear H
          have p718 : 0 ≤ (x27_2 : Int) := of_decide_eq_true asm
          have q718 : x27_2 < (l0.length : Int) := of_decide_eq_true asm
          obtain ⟨ad718, A718_0, c718_0, e718, hx718_0, hl718_0, hi718_0⟩ := at_L8 HR0.out x27_2 p718 q718
          cases e718
          replace hx718_0 := (HB.out.cell (World.block_lt_of_cell? w _ hx718_0)).trans hx718_0
          have HR718_0 := Aside0.mk hi718_0
          have HC718_0 := Aside0.mk hl718_0
          clear hi718_0 hl718_0
          replace p718 := eq_true p718
          replace q718 := eq_true q718
          go_wp2_with (first | ((with_reducible refine gate_builtin (b := .append) (xs := #[.tmp 31, .tmp 32]) rfl ?_); at_builtin; refine Kd.R_append_rows k98 (w0 := w) w.heap.size rfl (.tmp 31) (.tmp 32) 39 98 (.agg #[(.int .i64 0), (.int .i64 0), (.int .i64 0), (.bool false)]) 32 rfl Try.underlying39 info98 rfl (by decide) (by omega) u6 x6_2 (rd_L8 l0 x27_2) _ _ _ (fun _ => True) (fun _ => False) rfl rfl ?aO ?aR (fun _ _ h => h) (fun _ h => h.elim) ?aF ?aB ?aS ?aL ?_; (case aR => exact cb (Kd.C_below HR718_0.out HB.out)); (case aB => exact (bl HB.out)); (case aF => exact (fun _ _ => trivial)); (case aO => exact (rk HO_6.out)); (case aS => exact (below_size (bl HB.out))); (case aL => have := LMc11.out; omega); intro v720 w12 ho hb hg hat; rw [← Ny719.out] at ho; replace HB := Aside0.mk (hb); have HO721 := Aside0.mk (ho); clear HO_6; clear ho hb hg hat))
          go_roundg k2
          case measure => have := HK1.out; have := HK2.out; omega
          case rel => exact ⟨(y719), (wrap64 (x27_2 + 1)), (by first | rfl | (simp; done) | (simp [*]; done)), H', ⟨by have := HK1.out; have := HK2.out; omega⟩, ⟨rk HO721.out⟩, ⟨bl HB.out⟩⟩
         ·rw [if_neg c11] at H
          exact absurd H (by simp)
        ·rw [if_neg c10] at H
         exact absurd H (by simp)
       ·rw [if_neg c9] at H
        exact absurd H (by simp)
      ·rw [if_neg c8] at H
       have c8b0 : decide (x27_2 < (l0.length : Int)) = false := decide_eq_false c8
       clear c8
       obtain rfl := Option.some.inj H
       go_wp2
       go_ret
       exact ⟨_, by first | rfl | (simp [errW_none, errW_some] <;> rfl) | (simp [*, errW_none, errW_some] <;> rfl), rk HO_6.out, bl HB.out⟩
end Go.Proofs.Ytbpjidekjogfeaa.A
