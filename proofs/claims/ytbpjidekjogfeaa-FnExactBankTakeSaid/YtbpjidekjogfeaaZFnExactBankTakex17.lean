/- Used by the law FnExactBankTake. -/
import Derived.Test.YtbpjidekjogfeaaZFnExactBankTakex11
import Derived.Test.YtbpjidekjogfeaaZFnExactBankTakex13
import Derived.Test.YtbpjidekjogfeaaZFnExactBankTakex16
import Derived.Test.YtbpjidekjogfeaaZFnExactBankTakeh
namespace Go.Proofs.Ytbpjidekjogfeaa.A
open Go.RowKit Go.Proofs.YtbpjidekjogfeaaW.PrintWords Go.Proofs.YtbpjidekjogfeaaW.PrintLast Go.Proofs.YtbpjidekjogfeaaW.PrintMore
attribute [local go_sem] max2_int min2_int max_two min_two max_three min_three max_four min_four   
set_option linter.unusedVariables false
set_option linter.unusedSimpArgs false
def slices_Clone_int_int.f (l0 : List Int) : Option (List Int) := (some (([] : List Int) : List Int)).bind fun y362 => (if y362.length + l0.length < 17592186044416 then (some (y362 ++ l0)) else (none))
set_option maxHeartbeats 8000000 in
set_option maxRecDepth 100000 in
theorem slices_Clone_int_int.calls (A0 : Option Addr) (c0 : Nat) (l0 : List Int) (r : List Int) (w : World) (hr0 : Kd.C (Kd.int .i64) w A0 l0.length l0) (hc0 : l0.length ≤ c0) (h : slices_Clone_int_int.f l0 = some r) :
  Calls Try.prog 116 #[.slice A0 l0.length c0] w fun e w' => ∃ v0_ : Value, e = .returned (v0_) ∧ Kd.R (Kd.int .i64) 3 w' w.heap.size (fun _ => True) v0_ r ∧ Below w.heap.size w w' := by
 have heq_ := fun W => Go.Lib.run_eql_slice_nil (P := Try.prog) W 38 3 A0 l0.length c0 0 0 Try.underlying38
 by_cases hA_ : A0.isNone = true
 ·obtain rfl : A0 = none := by simpa using hA_
  obtain rfl : l0 = [] := by
   rcases l0 with _ | ⟨x, xs⟩
   ·rfl
   ·obtain ⟨ad, e, _⟩ := hr0.2.2 (by simp)
    cases e
  obtain rfl : r = [] := by
   have h2 := h
   simp [slices_Clone_int_int.f] at h2
   first | exact h2 | exact h2.symm
  clear hA_ h hr0 heq_
  have heq_ := fun W => Go.Lib.run_eql_slice_nil (P := Try.prog) W 38 3 none 0 c0 0 0 Try.underlying38
  show Calls _ _ #[.slice none 0 c0] w _
  go_enter Try.func116, Try.ntmps116
  go_wp2
  go_ret
  exact ⟨_, rfl, Kd.R_nil _ _ _ _ _, Below.refl _ _⟩
 replace hA_ : A0.isNone = false := Bool.eq_false_iff.mpr hA_
 have HR0 := Aside0.mk hr0
 have HC0 := Aside0.mk hc0
 clear hr0 hc0
 have HB := Aside0.mk (Below.refl w.heap.size w)
 have H : ((some (([] : List Int) : List Int)).bind fun y362 => (if y362.length + l0.length < 17592186044416 then (some (y362 ++ l0)) else (none))) = some r := h
 clear h
 obtain ⟨y362, hy362⟩ : ∃ y_ : List Int, y_ = (([] : List Int)) := ⟨_, rfl⟩
 replace H : (if y362.length + l0.length < 17592186044416 then (some (y362 ++ l0)) else (none)) = some r := by first | (rw [hy362]; with_reducible exact H) | (have H2_ := (Option.bind_some _ _).symm.trans H; rw [hy362]; with_reducible exact H2_) | (have H2_ := (Option.bind_some _ _).symm.trans H; with_reducible exact H2_) | with_reducible exact H | (rw [hy362]; exact H) | exact H
 have Ny362 := Aside0.mk hy362
 clear hy362
 by_cases c2 : y362.length + l0.length < 17592186044416
 ·rw [if_pos c2] at H
  have LMc2 := Aside0.mk c2
  clear c2
  obtain ⟨y365, hy365⟩ : ∃ y_ : List Int, y_ = (y362 ++ l0) := ⟨_, rfl⟩
  replace H : (some y365) = some r := by first | (rw [hy365]; with_reducible exact H) | (have H2_ := (Option.bind_some _ _).symm.trans H; rw [hy365]; with_reducible exact H2_) | (have H2_ := (Option.bind_some _ _).symm.trans H; with_reducible exact H2_) | with_reducible exact H | (rw [hy365]; exact H) | exact H
  have Ny365 := Aside0.mk hy365
  clear hy365
  obtain rfl := Option.some.inj H
  go_enter Try.func116, Try.ntmps116
  go_wp2_with (first | ((with_reducible refine gate_dst (N := 5) rfl ?_); refine Kd.R_lit (Kd.int .i64) _ 3 ?hg (N := 5) ?hd (xs := ([] : List Int)) (inner := []) (ok := fun _ => True) (okp := fun _ => True) ?hr ?hp (fun _ hk => hk) trivial (Below.refl _ _) (Nat.le_refl _) (by simp) ?_; (case hd => rfl); (case hg => rfl); (case hr => first | (go_simp; done) | (go_simp; rfl)); (case hp => exact (Reps.none _ _)); intro v363 w3 ho4 hb hg_ hnew_; clear hg_ hnew_; (first | rw [← Ny362.out] at ho4 | (simp only [Int.reduceToNat] at ho4; rw [← Ny362.out] at ho4)); have HO364 := Aside0.mk (Kd.R_lower ho4 (below_size (bl HB.out))); replace HB := Aside0.mk (below_step (bl HB.out) hb); clear hb ho4) | ((with_reducible refine gate_builtin (b := .append) (xs := #[.tmp 5, .tmp 6]) rfl ?_); at_builtin; refine Kd.R_append_rows (Kd.int .i64) (w0 := w) w.heap.size rfl (.tmp 5) (.tmp 6) 38 3 (.int .i64 0) 8 rfl Try.underlying38 info3 rfl (by decide) (by omega) v363 y362 l0 _ _ _ (fun _ => True) (fun _ => False) rfl rfl ?aO ?aR (fun _ _ h => h) (fun _ h => h.elim) ?aF ?aB ?aS ?aL ?_; (case aR => exact cb (Kd.C_below HR0.out HB.out)); (case aB => exact (bl HB.out)); (case aF => exact (fun _ _ => trivial)); (case aO => exact (rk HO364.out)); (case aS => exact (below_size (bl HB.out))); (case aL => have := LMc2.out; omega); intro v366 w5 ho hb hg hat; rw [← Ny365.out] at ho; replace HB := Aside0.mk (hb); have HO367 := Aside0.mk (ho); clear HO364; clear ho hb hg hat))
  go_ret
  exact ⟨_, by first | rfl | (simp [errW_none, errW_some] <;> rfl) | (simp [*, errW_none, errW_some] <;> rfl), rk HO367.out, bl HB.out⟩
 ·rw [if_neg c2] at H
  exact absurd H (by simp)
def impl_Box_117.f (l0 : List (S98)) : Option ((List (S98))) := (some (([] : List (S98)) : List (S98))).bind fun y368 => (if y368.length + l0.length < 4398046511104 then (some (y368 ++ l0)) else (none))
set_option maxHeartbeats 8000000 in
set_option maxRecDepth 100000 in
theorem impl_Box_117.calls (A0 : Option Addr) (c0 : Nat) (l0 : List (S98)) (r : List (S98)) (w : World) (hr0 : Kd.C k98 w A0 l0.length l0) (hc0 : l0.length ≤ c0) (h : impl_Box_117.f l0 = some r) :
  Calls Try.prog 117 #[.slice A0 l0.length c0] w fun e w' => ∃ v0_ : Value, e = .returned (v0_) ∧ Kd.R k98 98 w' w.heap.size (fun _ => True) v0_ r ∧ Below w.heap.size w w' := by
 have heq_ := fun W => Go.Lib.run_eql_slice_nil (P := Try.prog) W 39 98 A0 l0.length c0 0 0 Try.underlying39
 by_cases hA_ : A0.isNone = true
 ·obtain rfl : A0 = none := by simpa using hA_
  obtain rfl : l0 = [] := by
   rcases l0 with _ | ⟨x, xs⟩
   ·rfl
   ·obtain ⟨ad, e, _⟩ := hr0.2.2 (by simp)
    cases e
  obtain rfl : r = [] := by
   have h2 := h
   simp [impl_Box_117.f] at h2
   first | exact h2 | exact h2.symm
  clear hA_ h hr0 heq_
  have heq_ := fun W => Go.Lib.run_eql_slice_nil (P := Try.prog) W 39 98 none 0 c0 0 0 Try.underlying39
  show Calls _ _ #[.slice none 0 c0] w _
  go_enter Try.func117, Try.ntmps117
  go_wp2
  go_ret
  exact ⟨_, rfl, Kd.R_nil _ _ _ _ _, Below.refl _ _⟩
 replace hA_ : A0.isNone = false := Bool.eq_false_iff.mpr hA_
 have HR0 := Aside0.mk hr0
 have HC0 := Aside0.mk hc0
 clear hr0 hc0
 have HB := Aside0.mk (Below.refl w.heap.size w)
 have H : ((some (([] : List (S98)) : List (S98))).bind fun y368 => (if y368.length + l0.length < 4398046511104 then (some (y368 ++ l0)) else (none))) = some r := h
 clear h
 obtain ⟨y368, hy368⟩ : ∃ y_ : List (S98), y_ = (([] : List (S98))) := ⟨_, rfl⟩
 replace H : (if y368.length + l0.length < 4398046511104 then (some (y368 ++ l0)) else (none)) = some r := by first | (rw [hy368]; with_reducible exact H) | (have H2_ := (Option.bind_some _ _).symm.trans H; rw [hy368]; with_reducible exact H2_) | (have H2_ := (Option.bind_some _ _).symm.trans H; with_reducible exact H2_) | with_reducible exact H | (rw [hy368]; exact H) | exact H
 have Ny368 := Aside0.mk hy368
 clear hy368
 by_cases c2 : y368.length + l0.length < 4398046511104
 ·rw [if_pos c2] at H
  have LMc2 := Aside0.mk c2
  clear c2
  obtain ⟨y371, hy371⟩ : ∃ y_ : List (S98), y_ = (y368 ++ l0) := ⟨_, rfl⟩
  replace H : (some y371) = some r := by first | (rw [hy371]; with_reducible exact H) | (have H2_ := (Option.bind_some _ _).symm.trans H; rw [hy371]; with_reducible exact H2_) | (have H2_ := (Option.bind_some _ _).symm.trans H; with_reducible exact H2_) | with_reducible exact H | (rw [hy371]; exact H) | exact H
  have Ny371 := Aside0.mk hy371
  clear hy371
  obtain rfl := Option.some.inj H
  go_enter Try.func117, Try.ntmps117
  go_wp2_with (first | ((with_reducible refine gate_dst (N := 5) rfl ?_); refine Kd.R_lit k98 _ 98 ?hg (N := 5) ?hd (xs := ([] : List (S98))) (inner := []) (ok := fun _ => True) (okp := fun _ => True) ?hr ?hp (fun _ hk => hk) trivial (Below.refl _ _) (Nat.le_refl _) (by simp) ?_; (case hd => rfl); (case hg => rfl); (case hr => first | (go_simp; done) | (go_simp; rfl)); (case hp => exact (Reps.none _ _)); intro v369 w3 ho4 hb hg_ hnew_; clear hg_ hnew_; (first | rw [← Ny368.out] at ho4 | (simp only [Int.reduceToNat] at ho4; rw [← Ny368.out] at ho4)); have HO370 := Aside0.mk (Kd.R_lower ho4 (below_size (bl HB.out))); replace HB := Aside0.mk (below_step (bl HB.out) hb); clear hb ho4) | ((with_reducible refine gate_builtin (b := .append) (xs := #[.tmp 5, .tmp 6]) rfl ?_); at_builtin; refine Kd.R_append_rows k98 (w0 := w) w.heap.size rfl (.tmp 5) (.tmp 6) 39 98 (.agg #[(.int .i64 0), (.int .i64 0), (.int .i64 0), (.bool false)]) 32 rfl Try.underlying39 info98 rfl (by decide) (by omega) v369 y368 l0 _ _ _ (fun _ => True) (fun _ => False) rfl rfl ?aO ?aR (fun _ _ h => h) (fun _ h => h.elim) ?aF ?aB ?aS ?aL ?_; (case aR => exact cb (Kd.C_below HR0.out HB.out)); (case aB => exact (bl HB.out)); (case aF => exact (fun _ _ => trivial)); (case aO => exact (rk HO370.out)); (case aS => exact (below_size (bl HB.out))); (case aL => have := LMc2.out; omega); intro v372 w5 ho hb hg hat; rw [← Ny371.out] at ho; replace HB := Aside0.mk (hb); have HO373 := Aside0.mk (ho); clear HO370; clear ho hb hg hat))
  go_ret
  exact ⟨_, by first | rfl | (simp [errW_none, errW_some] <;> rfl) | (simp [*, errW_none, errW_some] <;> rfl), rk HO373.out, bl HB.out⟩
 ·rw [if_neg c2] at H
  exact absurd H (by simp)
def impl_copyColumn.f (a0_0 : Int) (l0_1 : List Int) (l0_2 : List (S98)) : Option (Int × List Int × (List (S98))) := (slices_Clone_int_int.f l0_1).bind fun t376 => ((impl_Box_117.f l0_2).bind fun t379 => (some (a0_0, t376, t379)))
def impl_copyColumn.T1 : Bool × List (List Nat × List Nat) := (true, [([], []), ([0], [0]), ([1], [1]), ([], []), ([3], [3]), ([4, 2], [4]), ([0, 1, 2, 3, 4], []), ([6, 2, 5, 0, 1, 2, 3, 4], [2, 6]), ([0, 1, 2, 3, 4, 5, 6, 7], []), ([8, 5, 7, 0, 1, 2, 3, 4, 5, 6, 7], [5, 8])])
def impl_copyColumn.B1 : List Nat := [0, 1, 3, 0, 8, 31, 31, 127, 255, 511]
theorem impl_copyColumn.tab1 : rtab .any (opsOf Try.f81 1) = impl_copyColumn.T1 := by kernel_rfl
theorem impl_copyColumn.bits1 : waitsOk impl_copyColumn.T1.2 impl_copyColumn.B1 = true := by kernel_rfl
set_option maxHeartbeats 8000000 in
set_option maxRecDepth 100000 in
theorem impl_copyColumn.calls (a0_0 : Int) (A0_1 : Option Addr) (c0_1 : Nat) (l0_1 : List Int) (A0_2 : Option Addr) (c0_2 : Nat) (l0_2 : List (S98)) (r1 : Int) (r2 : List Int) (r3 : List (S98)) (w : World) (hr0_1 : Kd.C (Kd.int .i64) w A0_1 l0_1.length l0_1) (hc0_1 : l0_1.length ≤ c0_1) (hr0_2 : Kd.C k98 w A0_2 l0_2.length l0_2) (hc0_2 : l0_2.length ≤ c0_2) (h : impl_copyColumn.f a0_0 l0_1 l0_2 = some (r1, r2, r3)) :
  Calls Try.prog 81 #[.agg #[.int .i64 a0_0, .slice A0_1 l0_1.length c0_1, .slice A0_2 l0_2.length c0_2]] w fun e w' => ∃ v1_ v2_ : Value, e = .returned (.agg #[.int .i64 r1, v1_, v2_]) ∧ Kd.R (Kd.int .i64) 3 w' w.heap.size (fun _ => True) v1_ r2 ∧ Kd.R k98 98 w' w.heap.size (fun _ => True) v2_ r3 ∧ Below w.heap.size w w' := by
 have hu41 := Try.underlying41
 have HR0_1 := Aside0.mk hr0_1
 have HC0_1 := Aside0.mk hc0_1
 clear hr0_1 hc0_1
 have HR0_2 := Aside0.mk hr0_2
 have HC0_2 := Aside0.mk hc0_2
 clear hr0_2 hc0_2
 have HB := Aside0.mk (Below.refl w.heap.size w)
 have H : ((slices_Clone_int_int.f l0_1).bind fun t376 => ((impl_Box_117.f l0_2).bind fun t379 => (some (a0_0, t376, t379)))) = some (r1, r2, r3) := h
 clear h
 replace H := Option.bind_eq_some_iff.mp H
 obtain ⟨t376, A20, H⟩ := H
 try dsimp only at H
 have A2 := Aside0.mk A20
 clear A20
 replace H := Option.bind_eq_some_iff.mp H
 obtain ⟨t379, A30, H⟩ := H
 try dsimp only at H
 have A3 := Aside0.mk A30
 clear A30
 simp only [Option.some.injEq, Prod.mk.injEq] at H
 obtain ⟨rfl, rfl, rfl⟩ := H
 go_enter Try.func81, Try.ntmps81
 try go_wp2_with (first | ((with_reducible refine gate_dst (N := 1) rfl ?_); refine bx (cs := #[.int .i64 a0_0, .slice A0_1 l0_1.length c0_1, .slice A0_2 l0_2.length c0_2]) (t := 41) fun gb374 hg w4 hbox hb => ?_; have BK374 := Aside0.mk (hbox); have GW374 := Aside0.mk (gs HB.out hg); have GE374 := Aside0.mk (gs HB.out hg); replace HB := Aside0.mk (below_step (bl HB.out) hb); clear hb hbox hg) | ((with_reducible refine gate_dst (N := 2) rfl ?_); refine bx (cs := #[.int .i64 0, .slice none 0 0, .slice none 0 0]) (t := 41) fun gb375 hg w5 hbox hb => ?_; have BK375 := Aside0.mk (hbox); have GW375 := Aside0.mk (gs HB.out hg); have GE375 := Aside0.mk (gs HB.out hg); replace HB := Aside0.mk (below_step (bl HB.out) hb); have NB374_375 := Aside0.mk ((nl BK374.out hg)); have NB375_374 := Aside0.mk ((ng BK374.out hg)); replace BK374 := Aside0.mk (bb BK374.out hb); clear hb hbox hg))
 replace BK374 := Aside0.mk (blk_drew BK374.out)
 replace BK375 := Aside0.mk (blk_drew BK375.out)
 replace HB := Aside0.mk (below_drew1 HB.out)
 refine start_ (n := 10) (S := fun w' => w'.cell? ⟨gb374, 0, none⟩ = some (.int .i64 a0_0) ∧ w'.cell? ⟨gb374, 1, none⟩ = some (.slice A0_1 l0_1.length c0_1) ∧ w'.cell? ⟨gb374, 2, none⟩ = some (.slice A0_2 l0_2.length c0_2)) (ds := [7, 9]) #[false, false, false, false, false, false, false, false, false, false] (by kernel_rfl) rfl rfl ⟨(blk_cell BK374.out 0).trans rfl, (blk_cell BK374.out 1).trans rfl, (blk_cell BK374.out 2).trans rfl⟩ (fun hHeld => ?_); refine with_tabW impl_copyColumn.tab1 impl_copyColumn.bits1 (fun HT_ HW_ => ?_)
 generalize w5.drew = w6 at BK374 BK375 HB hHeld ⊢
 refine puA (i := 0) (N := some 3) HT_.out ?_
 refine puA (i := 3) (N := some 6) HT_.out ?_
 refine tkA3 (i := 1) (N := some 4) HT_.out HW_.out hHeld ?_
 refine tkA3 (i := 4) (N := some 7) HT_.out HW_.out hHeld ?_
 refine onA (i := 2) (N := some 5) HT_.out (fun K hK => ?_)
 refine goes_ Try.func116 (by kernel_rfl) rfl #[.slice A0_1 l0_1.length c0_1] (by rfl) rfl rfl mapd ?_
 with_reducible refine (slices_Clone_int_int.calls _ _ l0_1 t376 _ ?side1 ?side2 A2.out).mono ?_
 (case side1 => exact cb (Kd.C_below HR0_1.out HB.out))
 (case side2 => exact HC0_1.out)
 rintro e w7 ⟨v377, rfl, ho0, hb⟩
 refine ⟨_, rfl, ?_⟩
 have HO378 := Aside0.mk (Kd.R_lower ho0 (below_size (bl HB.out)))
 replace BK374 := Aside0.mk (bb BK374.out hb)
 replace BK375 := Aside0.mk (bb BK375.out hb)
 replace HB := Aside0.mk (below_step (bl HB.out) hb)
 (try clear hb)
 (try clear hb2)
 (try clear hk)
 (try clear hi)
 (try clear ho0)
 refine hK.out _ _ ⟨(blk_cell BK374.out 0).trans rfl, (blk_cell BK374.out 1).trans rfl, (blk_cell BK374.out 2).trans rfl⟩ (fun hHeld => ?_)
 clear hK K
 refine norm_ (a' := ?_) ?_ ?_
 rotate_left
 ·show Act.put _ (some 5) _ = _
  simp only [Act.put, List.setIfInBounds_toArray, List.set_cons_zero, List.set_cons_succ, i64_w, i32_w]
  rfl
 refine puA (i := 6) (N := some 9) HT_.out ?_
 refine onA (i := 5) (N := some 8) HT_.out (fun K hK => ?_)
 refine goes_ Try.func117 (by kernel_rfl) rfl #[.slice A0_2 l0_2.length c0_2] (by rfl) rfl rfl mapd ?_
 with_reducible refine (impl_Box_117.calls _ _ l0_2 t379 _ ?side1 ?side2 A3.out).mono ?_
 (case side1 => exact cb (Kd.C_below HR0_2.out HB.out))
 (case side2 => exact HC0_2.out)
 rintro e w8 ⟨v380, rfl, ho0, hb⟩
 refine ⟨_, rfl, ?_⟩
 replace HO378 := Aside0.mk (Kd.R_below (rk HO378.out) hb)
 have HO381 := Aside0.mk (Kd.R_lower ho0 (below_size (bl HB.out)))
 replace BK374 := Aside0.mk (bb BK374.out hb)
 replace BK375 := Aside0.mk (bb BK375.out hb)
 replace HB := Aside0.mk (below_step (bl HB.out) hb)
 (try clear hb)
 (try clear hb2)
 (try clear hk)
 (try clear hi)
 (try clear ho0)
 obtain ⟨Ao9, co9, eo9⟩ := Kd.R_slice HO378.out
 (first | subst eo9 | (injection eo9 with f1_ f2_ f3_; have f4_ := f1_.symm; have f5_ := f3_.symm; clear f1_ f2_ f3_; subst f4_; subst f5_))
 obtain ⟨Ao11, co11, eo11⟩ := Kd.R_slice HO381.out
 (first | subst eo11 | (injection eo11 with f1_ f2_ f3_; have f4_ := f1_.symm; have f5_ := f3_.symm; clear f1_ f2_ f3_; subst f4_; subst f5_))
 refine hK.out _ _ ⟨(blk_cell BK374.out 0).trans rfl, (blk_cell BK374.out 1).trans rfl, (blk_cell BK374.out 2).trans rfl⟩ (fun hHeld => ?_)
 clear hK K
 refine norm_ (a' := ?_) ?_ ?_
 rotate_left
 ·show Act.put _ (some 8) _ = _
  simp only [Act.put, List.setIfInBounds_toArray, List.set_cons_zero, List.set_cons_succ, i64_w, i32_w]
  rfl
 refine last_ (i := 7) (N := none) #[true, true, true, true, true, true, true, true, false, false] rfl rfl (one_of HT_.out (by kernel_rfl)) (by decide) (fun K hK => ?_)
 have hs10 : w8.cell? ⟨gb374, 1, none⟩ = some (.slice A0_1 l0_1.length c0_1) := (blk_cell BK374.out 1).trans rfl
 have hfs10 := blk_frozen BK374.out 1
 have hns10_1 := NB375_374.out
 have hms10_1 := NB374_375.out
 refine skip_ (w1 := ?_) (by rfl) rfl ?_ ?_
 rotate_left
 ·go_simp
  rfl
 refine hK.out _ _ ?_
 clear hK K
 refine puA (i := 8) (N := some 10) HT_.out ?_
 refine last_ (i := 9) (N := none) #[true, true, true, true, true, true, true, true, true, true] rfl rfl (one_of HT_.out (by kernel_rfl)) (by decide) (fun K hK => ?_)
 have hs12 : w8.cell? ⟨gb374, 2, none⟩ = some (.slice A0_2 l0_2.length c0_2) := (blk_cell BK374.out 2).trans rfl
 have hfs12 := blk_frozen BK374.out 2
 have hns12_1 := NB375_374.out
 have hms12_1 := NB374_375.out
 refine skip_ (w1 := ?_) (by rfl) rfl ?_ ?_
 rotate_left
 ·go_simp
  rfl
 refine hK.out _ _ ?_
 clear hK K
 refine done_ (done_of HT_.out (by kernel_rfl)) ?_
 have hnb13 := NB374_375.out
 have hnc13 := NB375_374.out
 obtain ⟨hcz14_0, hcz14_1, hcz14_2, hfz14_0, hfz14_1, hfz14_2⟩ := cz3 BK374.out
 obtain ⟨hcz15_0, hcz15_1, hcz15_2, hfz15_0, hfz15_1, hfz15_2⟩ := cz3 BK375.out
 try go_wp2
 refine bodyPost_ret (results_cell_row rfl _ _ gb375 41 #[.int .i64 a0_0, .slice Ao9 t376.length co9, .slice Ao11 t379.length co11] (0, 0) _ rfl (by refine bk ?_; refine blk_put (cs := #[.int .i64 a0_0, .slice Ao9 t376.length co9, .slice none 0 0]) ?_ 2 _ rfl; refine bk ?_; refine blk_put (cs := #[.int .i64 a0_0, .slice none 0 0, .slice none 0 0]) ?_ 1 _ rfl; refine bk ?_; refine blk_put (cs := #[.int .i64 0, .slice none 0 0, .slice none 0 0]) ?_ 0 _ rfl; refine bk ?_; refine blk_far ?_ NB375_374.out _; refine bk ?_; refine blk_far ?_ NB375_374.out _; refine bk ?_; exact BK375.out) Try.underlying41 rfl (by kernel_rfl)) rfl ?_
 exact ⟨_, _, by first | rfl | (simp [errW_none, errW_some] <;> rfl) | (simp [*, errW_none, errW_some] <;> rfl), by refine rk ?_; exact Kd.R_mono (Kd.R_far (p := ⟨gb375, 2, none⟩) (Kd.R_far (p := ⟨gb375, 1, none⟩) (Kd.R_far (p := ⟨gb375, 0, none⟩) (Kd.R_far (p := ⟨gb374, 2, none⟩) (Kd.R_far (p := ⟨gb374, 1, none⟩) (Kd.R_types (Kd.R_types HO378.out BK374.out (by decide)) BK375.out (by decide)) (fun _ hk => hk.1.2) (.slice Ao9 t376.length co9)) (fun _ hk => hk.1.2) (.slice Ao11 t379.length co11)) (fun _ hk => hk.2) (.int .i64 a0_0)) (fun _ hk => hk.2) (.slice Ao9 t376.length co9)) (fun _ hk => hk.2) (.slice Ao11 t379.length co11)) (fun _ hk => trivial), by refine rk ?_; exact Kd.R_mono (Kd.R_far (p := ⟨gb375, 2, none⟩) (Kd.R_far (p := ⟨gb375, 1, none⟩) (Kd.R_far (p := ⟨gb375, 0, none⟩) (Kd.R_far (p := ⟨gb374, 2, none⟩) (Kd.R_far (p := ⟨gb374, 1, none⟩) (Kd.R_types (Kd.R_types HO381.out BK374.out (by decide)) BK375.out (by decide)) (fun _ hk => hk.1.2) (.slice Ao9 t376.length co9)) (fun _ hk => hk.1.2) (.slice Ao11 t379.length co11)) (fun _ hk => hk.2) (.int .i64 a0_0)) (fun _ hk => hk.2) (.slice Ao9 t376.length co9)) (fun _ hk => hk.2) (.slice Ao11 t379.length co11)) (fun _ hk => trivial), bl HB.out⟩
def impl_TakeOut.f (a0_0 : Int) (l0_1 : List Int) (l0_2 : List (S98)) (a1 : Int) : Option (Int × List Int × (List (S98)) × Bool) := (impl_copyColumn.f a0_0 l0_1 l0_2).bind fun bt384 => ((impl_boxAt.f a0_0 l0_1 l0_2 a1).bind fun t392 => ((impl_ColumnOk.f a0_0 l0_1 l0_2).bind fun t393 => (if t393 = true then (if a1 < 1 then (some (bt384.1, bt384.2.1, bt384.2.2, false)) else (if t392 < 0 then (some (bt384.1, bt384.2.1, bt384.2.2, false)) else (if 0 ≤ t392 then (if t392 < (l0_2.length : Int) then (if (rd_T98 l0_2 t392).f3 = true then (some (bt384.1, bt384.2.1, bt384.2.2, false)) else (if t392 < (bt384.2.2.length : Int) then (some (bt384.1, bt384.2.1, (bt384.2.2.set (t392 : Int).toNat (⟨(rd_T98 bt384.2.2 t392).f0, (rd_T98 bt384.2.2 t392).f1, 0, (rd_T98 bt384.2.2 t392).f3⟩ : S98)), true)) else (none))) else (none)) else (none)))) else (some (bt384.1, bt384.2.1, bt384.2.2, false)))))
set_option maxHeartbeats 8000000 in
set_option maxRecDepth 100000 in
theorem impl_TakeOut.calls (a0_0 : Int) (A0_1 : Option Addr) (c0_1 : Nat) (l0_1 : List Int) (A0_2 : Option Addr) (c0_2 : Nat) (l0_2 : List (S98)) (a1 : Int) (r1 : Int) (r2 : List Int) (r3 : List (S98)) (r4 : Bool) (w : World) (hr0_1 : Kd.C (Kd.int .i64) w A0_1 l0_1.length l0_1) (hc0_1 : l0_1.length ≤ c0_1) (hr0_2 : Kd.C k98 w A0_2 l0_2.length l0_2) (hc0_2 : l0_2.length ≤ c0_2) (h : impl_TakeOut.f a0_0 l0_1 l0_2 a1 = some (r1, r2, r3, r4)) :
  Calls Try.prog 32 #[.agg #[.int .i64 a0_0, .slice A0_1 l0_1.length c0_1, .slice A0_2 l0_2.length c0_2], .int .i64 a1] w fun e w' => ∃ v1_ v2_ : Value, e = .returned (.tuple #[.agg #[.int .i64 r1, v1_, v2_], .bool r4]) ∧ Kd.R (Kd.int .i64) 3 w' w.heap.size (fun _ => True) v1_ r2 ∧ Kd.R k98 98 w' w.heap.size (fun _ => True) v2_ r3 ∧ Below w.heap.size w w' := by
 have hu41 := Try.underlying41
 have HR0_1 := Aside0.mk hr0_1
 have HC0_1 := Aside0.mk hc0_1
 clear hr0_1 hc0_1
 have HR0_2 := Aside0.mk hr0_2
 have HC0_2 := Aside0.mk hc0_2
 clear hr0_2 hc0_2
 have HB := Aside0.mk (Below.refl w.heap.size w)
 have H : ((impl_copyColumn.f a0_0 l0_1 l0_2).bind fun bt384 => ((impl_boxAt.f a0_0 l0_1 l0_2 a1).bind fun t392 => ((impl_ColumnOk.f a0_0 l0_1 l0_2).bind fun t393 => (if t393 = true then (if a1 < 1 then (some (bt384.1, bt384.2.1, bt384.2.2, false)) else (if t392 < 0 then (some (bt384.1, bt384.2.1, bt384.2.2, false)) else (if 0 ≤ t392 then (if t392 < (l0_2.length : Int) then (if (rd_T98 l0_2 t392).f3 = true then (some (bt384.1, bt384.2.1, bt384.2.2, false)) else (if t392 < (bt384.2.2.length : Int) then (some (bt384.1, bt384.2.1, (bt384.2.2.set (t392 : Int).toNat (⟨(rd_T98 bt384.2.2 t392).f0, (rd_T98 bt384.2.2 t392).f1, 0, (rd_T98 bt384.2.2 t392).f3⟩ : S98)), true)) else (none))) else (none)) else (none)))) else (some (bt384.1, bt384.2.1, bt384.2.2, false)))))) = some (r1, r2, r3, r4) := h
 clear h
 replace H := Option.bind_eq_some_iff.mp H
 obtain ⟨⟨t384, t385, t388⟩, A30, H⟩ := H
 try dsimp only at H
 have A3 := Aside0.mk A30
 clear A30
 replace H := Option.bind_eq_some_iff.mp H
 obtain ⟨t392, A40, H⟩ := H
 try dsimp only at H
 have A4 := Aside0.mk A40
 clear A40
 replace H := Option.bind_eq_some_iff.mp H
 obtain ⟨t393, A50, H⟩ := H
 try dsimp only at H
 have A5 := Aside0.mk A50
 clear A50
 by_cases c6 : t393 = true
 focus
  subst c6
  rw [if_pos rfl] at H
  by_cases c7 : a1 < 1
  focus
   rw [if_pos c7] at H
   have c7b0 : decide (a1 < 1) = true := decide_eq_true c7
   clear c7
   simp only [Option.some.injEq, Prod.mk.injEq] at H
   obtain ⟨rfl, rfl, rfl, rfl⟩ := H
  rotate_left
  focus
   rw [if_neg c7] at H
   have c7b0 : decide (a1 < 1) = false := decide_eq_false c7
   clear c7
   by_cases c25 : t392 < 0
   focus
    rw [if_pos c25] at H
    have c25b0 : decide (t392 < 0) = true := decide_eq_true c25
    clear c25
    simp only [Option.some.injEq, Prod.mk.injEq] at H
    obtain ⟨rfl, rfl, rfl, rfl⟩ := H
   rotate_left
   focus
    rw [if_neg c25] at H
    have c25b0 : decide (t392 < 0) = false := decide_eq_false c25
    clear c25
    by_cases c43 : 0 ≤ t392
    focus
     rw [if_pos c43] at H
     have c43b0 : decide (0 ≤ t392) = true := decide_eq_true c43
     clear c43
     by_cases c44 : t392 < (l0_2.length : Int)
     focus
      rw [if_pos c44] at H
      have c44b0 : decide (t392 < (l0_2.length : Int)) = true := decide_eq_true c44
      clear c44
      obtain ⟨bq45, hbq45⟩ : ∃ b_ : Bool, b_ = ((rd_T98 l0_2 t392).f3) := ⟨_, rfl⟩
      replace H : (if bq45 = true then (some (t384, t385, t388, false)) else (if t392 < (t388.length : Int) then (some (t384, t385, (t388.set (t392 : Int).toNat (⟨(rd_T98 t388 t392).f0, (rd_T98 t388 t392).f1, 0, (rd_T98 t388 t392).f3⟩ : S98)), true)) else (none))) = some (r1, r2, r3, r4) := by rw [← hbq45] at H; exact H
      have Nbq45 := Aside0.mk hbq45
      clear hbq45
      by_cases c46 : bq45 = true
      focus
       subst c46
       rw [if_pos rfl] at H
       simp only [Option.some.injEq, Prod.mk.injEq] at H
       obtain ⟨rfl, rfl, rfl, rfl⟩ := H
      rotate_left
      focus
       replace c46 := Bool.eq_false_iff.mpr c46
       subst c46
       rw [if_neg (show ¬ (false = true) by decide)] at H
       by_cases c65 : t392 < (t388.length : Int)
       focus
        rw [if_pos c65] at H
        have c65b0 : decide (t392 < (t388.length : Int)) = true := decide_eq_true c65
        clear c65
        obtain ⟨y395, hy395⟩ : ∃ y_ : List (S98), y_ = (t388.set (t392 : Int).toNat (⟨(rd_T98 t388 t392).f0, (rd_T98 t388 t392).f1, 0, (rd_T98 t388 t392).f3⟩ : S98)) := ⟨_, rfl⟩
        replace H : (some (t384, t385, y395, true)) = some (r1, r2, r3, r4) := by first | (rw [hy395]; with_reducible exact H) | (have H2_ := (Option.bind_some _ _).symm.trans H; rw [hy395]; with_reducible exact H2_) | (have H2_ := (Option.bind_some _ _).symm.trans H; with_reducible exact H2_) | with_reducible exact H | (rw [hy395]; exact H) | exact H
        have Ny395 := Aside0.mk hy395
        clear hy395
        simp only [Option.some.injEq, Prod.mk.injEq] at H
        obtain ⟨rfl, rfl, rfl, rfl⟩ := H
       rotate_left
       ·rw [if_neg c65] at H
        exact absurd H (by simp)
      rotate_left
     rotate_left 2
     ·rw [if_neg c44] at H
      exact absurd H (by simp)
    rotate_left 2
    ·rw [if_neg c43] at H
     exact absurd H (by simp)
   rotate_left 2
  rotate_left 3
 rotate_left 4
 focus
  replace c6 := Bool.eq_false_iff.mpr c6
  subst c6
  rw [if_neg (show ¬ (false = true) by decide)] at H
  simp only [Option.some.injEq, Prod.mk.injEq] at H
  obtain ⟨rfl, rfl, rfl, rfl⟩ := H
 rotate_left
 all_goals go_enter Try.func32, Try.ntmps32
 all_goals go_wp2_with (first | ((with_reducible refine gate_dst (N := 2) rfl ?_); refine bx (cs := #[.int .i64 a0_0, .slice A0_1 l0_1.length c0_1, .slice A0_2 l0_2.length c0_2]) (t := 41) fun gb382 hg w8 hbox hb => ?_; have BK382 := Aside0.mk (hbox); have GW382 := Aside0.mk (gs HB.out hg); have GE382 := Aside0.mk (gs HB.out hg); replace HB := Aside0.mk (below_step (bl HB.out) hb); clear hb hbox hg) | ((with_reducible refine gate_dst (N := 4) rfl ?_); refine bx (cs := #[.int .i64 0, .slice none 0 0, .slice none 0 0]) (t := 41) fun gb383 hg w9 hbox hb => ?_; have BK383 := Aside0.mk (hbox); have GW383 := Aside0.mk (gs HB.out hg); have GE383 := Aside0.mk (gs HB.out hg); replace HB := Aside0.mk (below_step (bl HB.out) hb); have NB382_383 := Aside0.mk ((nl BK382.out hg)); have NB383_382 := Aside0.mk ((ng BK382.out hg)); replace BK382 := Aside0.mk (bb BK382.out hb); clear hb hbox hg; have hnb10 := NB382_383.out; have hnc10 := NB383_382.out; obtain ⟨hcz11_0, hcz11_1, hcz11_2, hfz11_0, hfz11_1, hfz11_2⟩ := cz3 BK382.out) | ((with_reducible refine gate_callee (f := 81) rfl ?_); refine goesL_ (some 9) rfl rfl Try.func81 (by kernel_rfl) rfl #[.agg #[.int .i64 a0_0, .slice A0_1 l0_1.length c0_1, .slice A0_2 l0_2.length c0_2]] rfl mapd ?_; (with_reducible refine (impl_copyColumn.calls a0_0 _ _ l0_1 _ _ l0_2 t384 t385 t388 _ ?side1 ?side2 ?side3 ?side4 A3.out).mono ?_); (case side1 => exact cb (Kd.C_below HR0_1.out HB.out)); (case side2 => exact HC0_1.out); (case side3 => exact cb (Kd.C_below HR0_2.out HB.out)); (case side4 => exact HC0_2.out); rintro e w12 ⟨v386, v389, rfl, ho0, ho1, hb⟩; refine ⟨_, rfl, ?_⟩; have HO387 := Aside0.mk (Kd.R_lower ho0 (below_size (bl HB.out))); have HO390 := Aside0.mk (Kd.R_lower ho1 (below_size (bl HB.out))); replace BK382 := Aside0.mk (bb BK382.out hb); replace BK383 := Aside0.mk (bb BK383.out hb); replace HB := Aside0.mk (below_step (bl HB.out) hb); (try clear hb); (try clear hb2); (try clear hk); (try clear hi); (try clear ho0); (try clear ho1)) | ((with_reducible refine gate_dst (N := 6) rfl ?_); refine bx (cs := #[.int .i64 0, .slice none 0 0, .slice none 0 0]) (t := 41) fun gb391 hg w13 hbox hb => ?_; replace HO387 := Aside0.mk (Kd.R_below (rk HO387.out) hb); replace HO390 := Aside0.mk (Kd.R_below (rk HO390.out) hb); have BK391 := Aside0.mk (hbox); have GW391 := Aside0.mk (gs HB.out hg); have GE391 := Aside0.mk (gs HB.out hg); replace HB := Aside0.mk (below_step (bl HB.out) hb); have NB382_391 := Aside0.mk ((nl BK382.out hg)); have NB391_382 := Aside0.mk ((ng BK382.out hg)); replace BK382 := Aside0.mk (bb BK382.out hb); have NB383_391 := Aside0.mk ((nl BK383.out hg)); have NB391_383 := Aside0.mk ((ng BK383.out hg)); replace BK383 := Aside0.mk (bb BK383.out hb); clear hb hbox hg; have hnb14 := NB391_382.out; have hnc14 := NB382_391.out; have hnb15 := NB391_383.out; have hnc15 := NB383_391.out; obtain ⟨hcz16_0, hcz16_1, hcz16_2, hfz16_0, hfz16_1, hfz16_2⟩ := cz3 BK391.out; obtain ⟨Ao17, co17, eo17⟩ := Kd.R_slice HO387.out; subst eo17; obtain ⟨Ao18, co18, eo18⟩ := Kd.R_slice HO390.out; subst eo18; obtain ⟨hcz19_0, hcz19_1, hcz19_2, hfz19_0, hfz19_1, hfz19_2⟩ := cz3 BK382.out) | ((with_reducible refine gate_callee (f := 80) rfl ?_); refine goesL_ (some 12) rfl rfl Try.func80 (by kernel_rfl) rfl #[.agg #[.int .i64 a0_0, .slice A0_1 l0_1.length c0_1, .slice A0_2 l0_2.length c0_2], .int .i64 a1] rfl mapd ?_; (with_reducible refine (impl_boxAt.calls a0_0 _ _ l0_1 _ _ l0_2 a1 t392 _ ?side1 ?side2 ?side3 ?side4 A4.out).mono ?_); (case side1 => exact Kd.C_below HR0_1.out (bl HB.out)); (case side2 => exact HC0_1.out); (case side3 => exact Kd.C_below HR0_2.out (bl HB.out)); (case side4 => exact HC0_2.out); rintro e w20 ⟨rfl, hb⟩; refine ⟨_, rfl, ?_⟩; replace HO387 := Aside0.mk (Kd.R_below (by refine rk ?_; exact (Kd.R_mono (Kd.R_far (p := ⟨gb391, 2, none⟩) (Kd.R_far (p := ⟨gb391, 1, none⟩) (Kd.R_far (p := ⟨gb391, 0, none⟩) (Kd.R_types HO387.out BK391.out (by decide)) (fun _ hk => hk.2) (.int .i64 t384)) (fun _ hk => hk.2) (.slice Ao17 t385.length co17)) (fun _ hk => hk.2) (.slice Ao18 t388.length co18)) (fun _ h_ => h_.1))) hb); replace HO390 := Aside0.mk (Kd.R_below (by refine rk ?_; exact (Kd.R_mono (Kd.R_far (p := ⟨gb391, 2, none⟩) (Kd.R_far (p := ⟨gb391, 1, none⟩) (Kd.R_far (p := ⟨gb391, 0, none⟩) (Kd.R_types HO390.out BK391.out (by decide)) (fun _ hk => hk.2) (.int .i64 t384)) (fun _ hk => hk.2) (.slice Ao17 t385.length co17)) (fun _ hk => hk.2) (.slice Ao18 t388.length co18)) (fun _ h_ => h_.1))) hb); replace BK382 := Aside0.mk (blk_below (g := gb382) (o := .cells #[.int .i64 a0_0, .slice A0_1 l0_1.length c0_1, .slice A0_2 l0_2.length c0_2] 41 (0, 0)) (bf BK382.out) hb); replace BK383 := Aside0.mk (blk_below (g := gb383) (o := .cells #[.int .i64 0, .slice none 0 0, .slice none 0 0] 41 (0, 0)) (bf BK383.out) hb); replace BK391 := Aside0.mk (blk_below (g := gb391) (o := .cells #[.int .i64 t384, .slice Ao17 t385.length co17, .slice Ao18 t388.length co18] 41 (0, 0)) (by refine bk ?_; refine blk_put (cs := #[.int .i64 t384, .slice Ao17 t385.length co17, .slice none 0 0]) ?_ 2 _ rfl; refine bk ?_; refine blk_put (cs := #[.int .i64 t384, .slice none 0 0, .slice none 0 0]) ?_ 1 _ rfl; refine bk ?_; refine blk_put (cs := #[.int .i64 0, .slice none 0 0, .slice none 0 0]) ?_ 0 _ rfl; refine bk ?_; exact BK391.out) hb); replace HB := Aside0.mk (below_step (bl HB.out) hb); (try clear hb); (try clear hb2); (try clear hk); (try clear hi); obtain ⟨hcz21_0, hcz21_1, hcz21_2, hfz21_0, hfz21_1, hfz21_2⟩ := cz3 BK382.out) | ((with_reducible refine gate_callee (f := 34) rfl ?_); refine goesL_ (some 14) rfl rfl Try.func34 (by kernel_rfl) rfl #[.agg #[.int .i64 a0_0, .slice A0_1 l0_1.length c0_1, .slice A0_2 l0_2.length c0_2]] rfl mapd ?_; (with_reducible refine (impl_ColumnOk.calls a0_0 _ _ l0_1 _ _ l0_2 false _ ?side1 ?side2 ?side3 ?side4 A5.out).mono ?_); (case side1 => exact cb (Kd.C_below HR0_1.out HB.out)); (case side2 => exact HC0_1.out); (case side3 => exact cb (Kd.C_below HR0_2.out HB.out)); (case side4 => exact HC0_2.out); rintro e w102 ⟨rfl, hb⟩; refine ⟨_, rfl, ?_⟩; replace HO387 := Aside0.mk (Kd.R_below (rk HO387.out) hb); replace HO390 := Aside0.mk (Kd.R_below (rk HO390.out) hb); replace BK382 := Aside0.mk (bb BK382.out hb); replace BK383 := Aside0.mk (bb BK383.out hb); replace BK391 := Aside0.mk (bb BK391.out hb); replace HB := Aside0.mk (below_step (bl HB.out) hb); (try clear hb); (try clear hb2); (try clear hk); (try clear hi); obtain ⟨hcz103_0, hcz103_1, hcz103_2, hfz103_0, hfz103_1, hfz103_2⟩ := cz3 BK391.out; obtain ⟨hcz104_0, hcz104_1, hcz104_2, hfz104_0, hfz104_1, hfz104_2⟩ := cz3 BK383.out) | ((with_reducible refine gate_callee (f := 34) rfl ?_); refine goesL_ (some 14) rfl rfl Try.func34 (by kernel_rfl) rfl #[.agg #[.int .i64 a0_0, .slice A0_1 l0_1.length c0_1, .slice A0_2 l0_2.length c0_2]] rfl mapd ?_; (with_reducible refine (impl_ColumnOk.calls a0_0 _ _ l0_1 _ _ l0_2 true _ ?side1 ?side2 ?side3 ?side4 A5.out).mono ?_); (case side1 => exact cb (Kd.C_below HR0_1.out HB.out)); (case side2 => exact HC0_1.out); (case side3 => exact cb (Kd.C_below HR0_2.out HB.out)); (case side4 => exact HC0_2.out); rintro e w81 ⟨rfl, hb⟩; refine ⟨_, rfl, ?_⟩; replace HO387 := Aside0.mk (Kd.R_below (rk HO387.out) hb); replace HO390 := Aside0.mk (Kd.R_below (rk HO390.out) hb); replace BK382 := Aside0.mk (bb BK382.out hb); replace BK383 := Aside0.mk (bb BK383.out hb); replace BK391 := Aside0.mk (bb BK391.out hb); replace HB := Aside0.mk (below_step (bl HB.out) hb); (try clear hb); (try clear hb2); (try clear hk); (try clear hi); obtain ⟨hcz82_0, hcz82_1, hcz82_2, hfz82_0, hfz82_1, hfz82_2⟩ := cz3 BK382.out; have p394 : 0 ≤ (t392 : Int) := of_decide_eq_true asm; have q394 : t392 < (l0_2.length : Int) := of_decide_eq_true asm; obtain ⟨ad394, e394, hx394_0, hx394_1, hx394_2, hx394_3⟩ := at_T98 HR0_2.out t392 p394 q394; (try rw [← Nbq45.out] at hx394_3); cases e394; replace hx394_0 := (HB.out.cell (World.block_lt_of_cell? w _ hx394_0)).trans hx394_0; replace hx394_1 := (HB.out.cell (World.block_lt_of_cell? w _ hx394_1)).trans hx394_1; replace hx394_2 := (HB.out.cell (World.block_lt_of_cell? w _ hx394_2)).trans hx394_2; replace hx394_3 := (HB.out.cell (World.block_lt_of_cell? w _ hx394_3)).trans hx394_3; replace p394 := eq_true p394; replace q394 := eq_true q394; obtain ⟨hcz83_0, hcz83_1, hcz83_2, hfz83_0, hfz83_1, hfz83_2⟩ := cz3 BK391.out; have p66 : 0 ≤ (t392 : Int) := of_decide_eq_true asm; have q66 : (t392 : Int) < ((t388.length : Int) : Int) := of_decide_eq_true asm; obtain ⟨go66, co66, eo66, gb66, gl66, cl66, HG66⟩ := Kd.R_form HO390.out (by omega); (first | cases eo66 | (injection eo66 with ea_ en_ ec_; (first | subst ea_ | (injection ea_ with ea_; subst ea_)); subst ec_; clear en_)); have GB66 := Aside0.mk gb66; have GG66 := Aside0.mk HG66; clear gb66 gl66 HG66; obtain ⟨ce66, hcl66, hM66, hcc66, hfr66⟩ := Kd.R_elem HO390.out z98 (t392 : Int) p66 q66; obtain rfl := k98_openM hM66; have hx66_0 : w81.cell? ⟨go66, (t392 : Int).toNat * 4, none⟩ = some (.int .i64 ((rd_T98 t388 t392).f0)) := hcc66 0 _ rfl; have hx66_1 : w81.cell? ⟨go66, (t392 : Int).toNat * 4 + 1, none⟩ = some (.int .i64 ((rd_T98 t388 t392).f1)) := hcc66 1 _ rfl; have hx66_2 : w81.cell? ⟨go66, (t392 : Int).toNat * 4 + 2, none⟩ = some (.int .i64 ((rd_T98 t388 t392).f2)) := hcc66 2 _ rfl; have hx66_3 : w81.cell? ⟨go66, (t392 : Int).toNat * 4 + 3, none⟩ = some (.bool ((rd_T98 t388 t392).f3)) := hcc66 3 _ rfl; have hf66_0 : w81.frozen? ⟨go66, (t392 : Int).toNat * 4, none⟩ = false := hfr66 0; have hf66_1 : w81.frozen? ⟨go66, (t392 : Int).toNat * 4 + 1, none⟩ = false := hfr66 1; have hf66_2 : w81.frozen? ⟨go66, (t392 : Int).toNat * 4 + 2, none⟩ = false := hfr66 2; have hf66_3 : w81.frozen? ⟨go66, (t392 : Int).toNat * 4 + 3, none⟩ = false := hfr66 3; clear hcl66 hcc66 hfr66 hM66; replace p66 := eq_true p66; replace q66 := eq_true q66; have HX84 := Aside0.mk (show Kd.R k98 98 w81 w.heap.size (fun _ => True) (.slice (some ⟨go66, 0, none⟩) t388.length co18) t388 from (rk HO390.out)); obtain ⟨ce84, hcl84, hM84, hcc84, hfr84⟩ := Kd.R_elem HX84.out z98 (t392 : Int) (of_decide_eq_true asm) (by have h_ : (t392 : Int) < ((t388.length : Int) : Int) := of_decide_eq_true asm; first | exact h_ | (have e_ := (Kd.R_reads' HO390.out).1; omega) | simpa using h_); obtain rfl := k98_openM hM84; have HP84 := Kd.R_seg HX84.out (t392 : Int) (of_decide_eq_true asm) (by have h_ : (t392 : Int) < ((t388.length : Int) : Int) := of_decide_eq_true asm; first | exact h_ | (have e_ := (Kd.R_reads' HO390.out).1; omega) | simpa using h_) (seg := [.int .i64 0]) (j := 2) hcl84 hcc84 (show 3 ≤ 4 from by decide) (x' := (⟨(rd_T98 t388 t392).f0, (rd_T98 t388 t392).f1, 0, (rd_T98 t388 t392).f3⟩ : S98)) (k98_mkM _ _ _ (⟨(rd_T98 t388 t392).f0, (rd_T98 t388 t392).f1, 0, (rd_T98 t388 t392).f3⟩ : S98) ) (fun _ hk => hk); have hx84_2 := hcc84 2 _ rfl; (try simp only [show (k98).sz = 4 from rfl, Nat.mul_one, Nat.add_zero] at hx84_2); have hf84_2 := hfr84 2; (try simp only [show (k98).sz = 4 from rfl, Nat.mul_one, Nat.add_zero] at hf84_2); clear hcl84 hcc84 hfr84 hM84) | ((with_reducible refine gate_store (t := 3) (p := 37) rfl ?_); refine store_event (t := 3) (p := 37) (v := ?vo_w85) (w1 := (w81.setCell ⟨go66, (t392 : Int).toNat * 4 + 2, none⟩ (.int .i64 0))) ?hg ?ho ?hn ?hr ?_; (case ho => rfl); (case hg => rfl); (case hn => rfl); (case hr => first | (go_simp; done) | (go_simp; rfl)); intro w85 hw; have hg : w81.grownBy w85 (some go66) := (by rw [hw]; exact HP84.2); have hp_ : Kd.R k98 98 w85 w.heap.size (fun _ => True) (.slice (some ⟨go66, 0, none⟩) t388.length co18) y395 := (by rw [hw, Ny395.out]; exact HP84.1); clear HP84; replace BK382 := Aside0.mk (blk_grown (g := gb382) (o := .cells #[.int .i64 a0_0, .slice A0_1 l0_1.length c0_1, .slice (some ad394) l0_2.length c0_2] 41 (0, 0)) (bk BK382.out) hg (Kd.R_ne HO390.out BK382.out (by decide))); replace BK383 := Aside0.mk (blk_grown (g := gb383) (o := .cells #[.int .i64 0, .slice none 0 0, .slice none 0 0] 41 (0, 0)) (bk BK383.out) hg (Kd.R_ne HO390.out BK383.out (by decide))); replace HO387 := Aside0.mk (Kd.R_over' (v := (.slice (some ⟨go66, 0, none⟩) t388.length co18)) (rk HO387.out) (Kd.R_typed HO390.out) (by decide) hg); replace BK391 := Aside0.mk (blk_grown (g := gb391) (o := .cells #[.int .i64 t384, .slice Ao17 t385.length co17, .slice (some ⟨go66, 0, none⟩) t388.length co18] 41 (0, 0)) (bk BK391.out) hg (Kd.R_ne HO390.out BK391.out (by decide))); replace HO390 := Aside0.mk (hp_); replace HB := Aside0.mk ((by rw [hw]; exact below_set (HB.out) GB66.out : Below w.heap.size w w85)); clear hg hw hp_; obtain ⟨hcz86_0, hcz86_1, hcz86_2, hfz86_0, hfz86_1, hfz86_2⟩ := cz3 BK391.out; obtain ⟨hcz87_0, hcz87_1, hcz87_2, hfz87_0, hfz87_1, hfz87_2⟩ := cz3 BK383.out) | ((with_reducible refine gate_callee (f := 34) rfl ?_); refine goesL_ (some 14) rfl rfl Try.func34 (by kernel_rfl) rfl #[.agg #[.int .i64 a0_0, .slice A0_1 l0_1.length c0_1, .slice A0_2 l0_2.length c0_2]] rfl mapd ?_; (with_reducible refine (impl_ColumnOk.calls a0_0 _ _ l0_1 _ _ l0_2 true _ ?side1 ?side2 ?side3 ?side4 A5.out).mono ?_); (case side1 => exact cb (Kd.C_below HR0_1.out HB.out)); (case side2 => exact HC0_1.out); (case side3 => exact cb (Kd.C_below HR0_2.out HB.out)); (case side4 => exact HC0_2.out); rintro e w61 ⟨rfl, hb⟩; refine ⟨_, rfl, ?_⟩; replace HO387 := Aside0.mk (Kd.R_below (rk HO387.out) hb); replace HO390 := Aside0.mk (Kd.R_below (rk HO390.out) hb); replace BK382 := Aside0.mk (bb BK382.out hb); replace BK383 := Aside0.mk (bb BK383.out hb); replace BK391 := Aside0.mk (bb BK391.out hb); replace HB := Aside0.mk (below_step (bl HB.out) hb); (try clear hb); (try clear hb2); (try clear hk); (try clear hi); obtain ⟨hcz62_0, hcz62_1, hcz62_2, hfz62_0, hfz62_1, hfz62_2⟩ := cz3 BK382.out; have p394 : 0 ≤ (t392 : Int) := of_decide_eq_true asm; have q394 : t392 < (l0_2.length : Int) := of_decide_eq_true asm; obtain ⟨ad394, e394, hx394_0, hx394_1, hx394_2, hx394_3⟩ := at_T98 HR0_2.out t392 p394 q394; (try rw [← Nbq45.out] at hx394_3); cases e394; replace hx394_0 := (HB.out.cell (World.block_lt_of_cell? w _ hx394_0)).trans hx394_0; replace hx394_1 := (HB.out.cell (World.block_lt_of_cell? w _ hx394_1)).trans hx394_1; replace hx394_2 := (HB.out.cell (World.block_lt_of_cell? w _ hx394_2)).trans hx394_2; replace hx394_3 := (HB.out.cell (World.block_lt_of_cell? w _ hx394_3)).trans hx394_3; replace p394 := eq_true p394; replace q394 := eq_true q394; obtain ⟨hcz63_0, hcz63_1, hcz63_2, hfz63_0, hfz63_1, hfz63_2⟩ := cz3 BK391.out; obtain ⟨hcz64_0, hcz64_1, hcz64_2, hfz64_0, hfz64_1, hfz64_2⟩ := cz3 BK383.out) | ((with_reducible refine gate_callee (f := 34) rfl ?_); refine goesL_ (some 14) rfl rfl Try.func34 (by kernel_rfl) rfl #[.agg #[.int .i64 a0_0, .slice A0_1 l0_1.length c0_1, .slice A0_2 l0_2.length c0_2]] rfl mapd ?_; (with_reducible refine (impl_ColumnOk.calls a0_0 _ _ l0_1 _ _ l0_2 true _ ?side1 ?side2 ?side3 ?side4 A5.out).mono ?_); (case side1 => exact cb (Kd.C_below HR0_1.out HB.out)); (case side2 => exact HC0_1.out); (case side3 => exact cb (Kd.C_below HR0_2.out HB.out)); (case side4 => exact HC0_2.out); rintro e w22 ⟨rfl, hb⟩; refine ⟨_, rfl, ?_⟩; replace HO387 := Aside0.mk (Kd.R_below (rk HO387.out) hb); replace HO390 := Aside0.mk (Kd.R_below (rk HO390.out) hb); replace BK382 := Aside0.mk (bb BK382.out hb); replace BK383 := Aside0.mk (bb BK383.out hb); replace BK391 := Aside0.mk (bb BK391.out hb); replace HB := Aside0.mk (below_step (bl HB.out) hb); (try clear hb); (try clear hb2); (try clear hk); (try clear hi); obtain ⟨hcz23_0, hcz23_1, hcz23_2, hfz23_0, hfz23_1, hfz23_2⟩ := cz3 BK391.out; obtain ⟨hcz24_0, hcz24_1, hcz24_2, hfz24_0, hfz24_1, hfz24_2⟩ := cz3 BK383.out))
 ·refine bodyPost_ret (results_ct rfl _ _ gb383 41 #[.int .i64 t384, .slice Ao17 t385.length co17, .slice Ao18 t388.length co18] (0, 0) _ rfl (by refine bk ?_; refine blk_put (cs := #[.int .i64 t384, .slice Ao17 t385.length co17, .slice none 0 0]) ?_ 2 _ rfl; refine bk ?_; refine blk_put (cs := #[.int .i64 t384, .slice none 0 0, .slice none 0 0]) ?_ 1 _ rfl; refine bk ?_; refine blk_put (cs := #[.int .i64 0, .slice none 0 0, .slice none 0 0]) ?_ 0 _ rfl; refine bk ?_; exact BK383.out) Try.underlying41 rfl (by kernel_rfl)) rfl ?_
  exact ⟨_, _, by first | rfl | (simp [errW_none, errW_some] <;> rfl) | (simp [*, errW_none, errW_some] <;> rfl), by refine rk ?_; exact Kd.R_mono (Kd.R_far (p := ⟨gb383, 2, none⟩) (Kd.R_far (p := ⟨gb383, 1, none⟩) (Kd.R_far (p := ⟨gb383, 0, none⟩) (Kd.R_types HO387.out BK383.out (by decide)) (fun _ hk => hk.2) (.int .i64 t384)) (fun _ hk => hk.2) (.slice Ao17 t385.length co17)) (fun _ hk => hk.2) (.slice Ao18 t388.length co18)) (fun _ hk => trivial), by refine rk ?_; exact Kd.R_mono (Kd.R_far (p := ⟨gb383, 2, none⟩) (Kd.R_far (p := ⟨gb383, 1, none⟩) (Kd.R_far (p := ⟨gb383, 0, none⟩) (Kd.R_types HO390.out BK383.out (by decide)) (fun _ hk => hk.2) (.int .i64 t384)) (fun _ hk => hk.2) (.slice Ao17 t385.length co17)) (fun _ hk => hk.2) (.slice Ao18 t388.length co18)) (fun _ hk => trivial), bl HB.out⟩
 ·refine bodyPost_ret (results_ct rfl _ _ gb383 41 #[.int .i64 t384, .slice Ao17 t385.length co17, .slice Ao18 t388.length co18] (0, 0) _ rfl (by refine bk ?_; refine blk_put (cs := #[.int .i64 t384, .slice Ao17 t385.length co17, .slice none 0 0]) ?_ 2 _ rfl; refine bk ?_; refine blk_put (cs := #[.int .i64 t384, .slice none 0 0, .slice none 0 0]) ?_ 1 _ rfl; refine bk ?_; refine blk_put (cs := #[.int .i64 0, .slice none 0 0, .slice none 0 0]) ?_ 0 _ rfl; refine bk ?_; exact BK383.out) Try.underlying41 rfl (by kernel_rfl)) rfl ?_
  exact ⟨_, _, by first | rfl | (simp [errW_none, errW_some] <;> rfl) | (simp [*, errW_none, errW_some] <;> rfl), by refine rk ?_; exact Kd.R_mono (Kd.R_far (p := ⟨gb383, 2, none⟩) (Kd.R_far (p := ⟨gb383, 1, none⟩) (Kd.R_far (p := ⟨gb383, 0, none⟩) (Kd.R_types HO387.out BK383.out (by decide)) (fun _ hk => hk.2) (.int .i64 t384)) (fun _ hk => hk.2) (.slice Ao17 t385.length co17)) (fun _ hk => hk.2) (.slice Ao18 t388.length co18)) (fun _ hk => trivial), by refine rk ?_; exact Kd.R_mono (Kd.R_far (p := ⟨gb383, 2, none⟩) (Kd.R_far (p := ⟨gb383, 1, none⟩) (Kd.R_far (p := ⟨gb383, 0, none⟩) (Kd.R_types HO390.out BK383.out (by decide)) (fun _ hk => hk.2) (.int .i64 t384)) (fun _ hk => hk.2) (.slice Ao17 t385.length co17)) (fun _ hk => hk.2) (.slice Ao18 t388.length co18)) (fun _ hk => trivial), bl HB.out⟩
 ·refine bodyPost_ret (results_ct rfl _ _ gb383 41 #[.int .i64 t384, .slice Ao17 t385.length co17, .slice Ao18 t388.length co18] (0, 0) _ rfl (by refine bk ?_; refine blk_put (cs := #[.int .i64 t384, .slice Ao17 t385.length co17, .slice none 0 0]) ?_ 2 _ rfl; refine bk ?_; refine blk_put (cs := #[.int .i64 t384, .slice none 0 0, .slice none 0 0]) ?_ 1 _ rfl; refine bk ?_; refine blk_put (cs := #[.int .i64 0, .slice none 0 0, .slice none 0 0]) ?_ 0 _ rfl; refine bk ?_; exact BK383.out) Try.underlying41 rfl (by kernel_rfl)) rfl ?_
  exact ⟨_, _, by first | rfl | (simp [errW_none, errW_some] <;> rfl) | (simp [*, errW_none, errW_some] <;> rfl), by refine rk ?_; exact Kd.R_mono (Kd.R_far (p := ⟨gb383, 2, none⟩) (Kd.R_far (p := ⟨gb383, 1, none⟩) (Kd.R_far (p := ⟨gb383, 0, none⟩) (Kd.R_types HO387.out BK383.out (by decide)) (fun _ hk => hk.2) (.int .i64 t384)) (fun _ hk => hk.2) (.slice Ao17 t385.length co17)) (fun _ hk => hk.2) (.slice Ao18 t388.length co18)) (fun _ hk => trivial), by refine rk ?_; exact Kd.R_mono (Kd.R_far (p := ⟨gb383, 2, none⟩) (Kd.R_far (p := ⟨gb383, 1, none⟩) (Kd.R_far (p := ⟨gb383, 0, none⟩) (Kd.R_types HO390.out BK383.out (by decide)) (fun _ hk => hk.2) (.int .i64 t384)) (fun _ hk => hk.2) (.slice Ao17 t385.length co17)) (fun _ hk => hk.2) (.slice Ao18 t388.length co18)) (fun _ hk => trivial), bl HB.out⟩
 ·refine bodyPost_ret (results_ct rfl _ _ gb383 41 #[.int .i64 t384, .slice Ao17 t385.length co17, .slice (some ⟨go66, 0, none⟩) t388.length co18] (0, 0) _ rfl (by refine bk ?_; refine blk_put (cs := #[.int .i64 t384, .slice Ao17 t385.length co17, .slice none 0 0]) ?_ 2 _ rfl; refine bk ?_; refine blk_put (cs := #[.int .i64 t384, .slice none 0 0, .slice none 0 0]) ?_ 1 _ rfl; refine bk ?_; refine blk_put (cs := #[.int .i64 0, .slice none 0 0, .slice none 0 0]) ?_ 0 _ rfl; refine bk ?_; exact BK383.out) Try.underlying41 rfl (by kernel_rfl)) rfl ?_
  exact ⟨_, _, by first | rfl | (simp [errW_none, errW_some] <;> rfl) | (simp [*, errW_none, errW_some] <;> rfl), by refine rk ?_; exact Kd.R_mono (Kd.R_far (p := ⟨gb383, 2, none⟩) (Kd.R_far (p := ⟨gb383, 1, none⟩) (Kd.R_far (p := ⟨gb383, 0, none⟩) (Kd.R_types HO387.out BK383.out (by decide)) (fun _ hk => hk.2) (.int .i64 t384)) (fun _ hk => hk.2) (.slice Ao17 t385.length co17)) (fun _ hk => hk.2) (.slice (some ⟨go66, 0, none⟩) t388.length co18)) (fun _ hk => trivial), by refine rk ?_; exact Kd.R_mono (Kd.R_far (p := ⟨gb383, 2, none⟩) (Kd.R_far (p := ⟨gb383, 1, none⟩) (Kd.R_far (p := ⟨gb383, 0, none⟩) (Kd.R_types HO390.out BK383.out (by decide)) (fun _ hk => hk.2) (.int .i64 t384)) (fun _ hk => hk.2) (.slice Ao17 t385.length co17)) (fun _ hk => hk.2) (.slice (some ⟨go66, 0, none⟩) t388.length co18)) (fun _ hk => trivial), bl HB.out⟩
 ·refine bodyPost_ret (results_ct rfl _ _ gb383 41 #[.int .i64 t384, .slice Ao17 t385.length co17, .slice Ao18 t388.length co18] (0, 0) _ rfl (by refine bk ?_; refine blk_put (cs := #[.int .i64 t384, .slice Ao17 t385.length co17, .slice none 0 0]) ?_ 2 _ rfl; refine bk ?_; refine blk_put (cs := #[.int .i64 t384, .slice none 0 0, .slice none 0 0]) ?_ 1 _ rfl; refine bk ?_; refine blk_put (cs := #[.int .i64 0, .slice none 0 0, .slice none 0 0]) ?_ 0 _ rfl; refine bk ?_; exact BK383.out) Try.underlying41 rfl (by kernel_rfl)) rfl ?_
  exact ⟨_, _, by first | rfl | (simp [errW_none, errW_some] <;> rfl) | (simp [*, errW_none, errW_some] <;> rfl), by refine rk ?_; exact Kd.R_mono (Kd.R_far (p := ⟨gb383, 2, none⟩) (Kd.R_far (p := ⟨gb383, 1, none⟩) (Kd.R_far (p := ⟨gb383, 0, none⟩) (Kd.R_types HO387.out BK383.out (by decide)) (fun _ hk => hk.2) (.int .i64 t384)) (fun _ hk => hk.2) (.slice Ao17 t385.length co17)) (fun _ hk => hk.2) (.slice Ao18 t388.length co18)) (fun _ hk => trivial), by refine rk ?_; exact Kd.R_mono (Kd.R_far (p := ⟨gb383, 2, none⟩) (Kd.R_far (p := ⟨gb383, 1, none⟩) (Kd.R_far (p := ⟨gb383, 0, none⟩) (Kd.R_types HO390.out BK383.out (by decide)) (fun _ hk => hk.2) (.int .i64 t384)) (fun _ hk => hk.2) (.slice Ao17 t385.length co17)) (fun _ hk => hk.2) (.slice Ao18 t388.length co18)) (fun _ hk => trivial), bl HB.out⟩

def impl_copyBank.l0 : Nat → List (S41) → List (S41) → Int → Int → Option ((List (S41)))
 | 0, _, _, _, _ => none
 | k + 1, x3, x6, x7, x8 => if x8 < x7 then (if 0 ≤ x8 then (if x8 < (x6.length : Int) then ((impl_copyColumn.f ((rd_T41 x6 x8).f0) ((rd_T41 x6 x8).f1) ((rd_T41 x6 x8).f2)).bind fun bt398 => (if x3.length < 2513169434916 then (impl_copyBank.l0 k (x3 ++ [(⟨bt398.1, bt398.2.1, bt398.2.2⟩ : S41)]) x6 x7 (wrap64 (x8 + 1))) else (none))) else (none)) else (none)) else (some x3)
def impl_copyBank.f (k : Nat) (l0 : List (S41)) : Option ((List (S41))) := impl_copyBank.l0 k ([] : List (S41)) l0 (l0.length : Int) 0
set_option maxHeartbeats 8000000 in
set_option maxRecDepth 100000 in
theorem impl_copyBank.calls (k : Nat) (A0 : Option Addr) (c0 : Nat) (l0 : List (S41)) (r : List (S41)) (w : World) (hr0 : Kd.C k41 w A0 l0.length l0) (hc0 : l0.length ≤ c0) (h : impl_copyBank.f k l0 = some r) :
  Calls Try.prog 72 #[.slice A0 l0.length c0] w fun e w' => ∃ v0_ : Value, e = .returned (v0_) ∧ Kd.S k41 41 w' w.heap.size (fun _ => True) v0_ r ∧ Below w.heap.size w w' := by
 have hu41 := Try.underlying41
 have HR0 := Aside0.mk hr0
 have HC0 := Aside0.mk hc0
 clear hr0 hc0
 have HB := Aside0.mk (Below.refl w.heap.size w)
 have H : (impl_copyBank.l0 k ([] : List (S41)) l0 (l0.length : Int) 0) = some r := h
 clear h
 have H' := Aside0.mk H
 clear H
 go_enter Try.func72, Try.ntmps72
 go_wp2
 go_loopg [3, 8] k (fun kq v3 v8 w' => ∃ (x3_1 : List (S41)) (x8_1 : Int), v8 = .int .i64 x8_1 ∧ Aside0 (impl_copyBank.l0 kq x3_1 l0 (l0.length : Int) x8_1 = some r) ∧ Aside0 (kq ≤ k) ∧ Aside0 (Kd.S k41 41 w' w.heap.size (fun _ => True) v3 x3_1) ∧ Aside0 (Below w.heap.size w w'))
 case atStart => exact ⟨(([] : List (S41))), (0), (by first | rfl | (simp; done) | (simp [*]; done)), H', ⟨Nat.le_refl _⟩, ⟨by first | exact Kd.S_nil _ _ _ _ _ | exact Kd.N_nil _ _ _ _ _ | exact Kd.V_nil _ _ _ _ _ | exact Kd.Q_nil _ _ _ _ _ | exact Kd.R_nil _ _ _ _ _⟩, ⟨bl HB.out⟩⟩
 case round =>
  clear H'
  obtain ⟨x3_1, x8_1, rfl, HA, HK1, HO_3, HB⟩ := hrel
  cases gk with
  | zero => exact absurd HA.out (by simp [impl_copyBank.l0])
  | succ k1 =>
   have H := HA.out
   clear HA
   simp only [impl_copyBank.l0] at H
   by_cases c2 : x8_1 < (l0.length : Int)
   ·rw [if_pos c2] at H
    have c2b0 : decide (x8_1 < (l0.length : Int)) = true := decide_eq_true c2
    clear c2
    by_cases c3 : 0 ≤ x8_1
    ·rw [if_pos c3] at H
     have c3b0 : decide (0 ≤ x8_1) = true := decide_eq_true c3
     clear c3
     by_cases c4 : x8_1 < (l0.length : Int)
     ·rw [if_pos c4] at H
      have c4b0 : decide (x8_1 < (l0.length : Int)) = true := decide_eq_true c4
      clear c4
      replace H := Option.bind_eq_some_iff.mp H
      obtain ⟨⟨t398, t399, t402⟩, A50, H⟩ := H
      try dsimp only at H
      have A5 := Aside0.mk A50
      clear A50
      by_cases c6 : x3_1.length < 2513169434916
      ·rw [if_pos c6] at H
       have LMc6 := Aside0.mk c6
       clear c6
       obtain ⟨y405, hy405⟩ : ∃ y_ : List (S41), y_ = (x3_1 ++ [(⟨t398, t399, t402⟩ : S41)]) := ⟨_, rfl⟩
       replace H : (impl_copyBank.l0 k1 y405 l0 (l0.length : Int) (wrap64 (x8_1 + 1))) = some r := by first | (rw [hy405]; with_reducible exact H) | (have H2_ := (Option.bind_some _ _).symm.trans H; rw [hy405]; with_reducible exact H2_) | (have H2_ := (Option.bind_some _ _).symm.trans H; with_reducible exact H2_) | with_reducible exact H | (rw [hy405]; exact H) | exact H
       have Ny405 := Aside0.mk hy405
       clear hy405
       have H' := Aside0.mk H
       clear H
       have p396 : 0 ≤ (x8_1 : Int) := of_decide_eq_true asm
       have q396 : x8_1 < (l0.length : Int) := of_decide_eq_true asm
       obtain ⟨ad396, A396_1, c396_1, A396_2, c396_2, e396, hx396_0, hx396_1, hx396_2, hl396_1, hi396_1, hl396_2, hi396_2⟩ := at_T41 HR0.out x8_1 p396 q396
       cases e396
       replace hx396_0 := (HB.out.cell (World.block_lt_of_cell? w _ hx396_0)).trans hx396_0
       replace hx396_1 := (HB.out.cell (World.block_lt_of_cell? w _ hx396_1)).trans hx396_1
       replace hx396_2 := (HB.out.cell (World.block_lt_of_cell? w _ hx396_2)).trans hx396_2
       have HR396_1 := Aside0.mk hi396_1
       have HC396_1 := Aside0.mk hl396_1
       clear hi396_1 hl396_1
       have HR396_2 := Aside0.mk hi396_2
       have HC396_2 := Aside0.mk hl396_2
       clear hi396_2 hl396_2
       replace p396 := eq_true p396
       replace q396 := eq_true q396
       go_wp2_with (first | ((with_reducible refine gate_dst (N := 5) rfl ?_); refine bx (cs := #[.int .i64 0, .slice none 0 0, .slice none 0 0]) (t := 41) fun gb397 hg w7 hbox hb => ?_; replace HO_3 := Aside0.mk (Kd.S_below (Kd.S_elderB (by (with_reducible repeat (first | apply Kd.S_alloc | apply Kd.S_drewN | apply Kd.S_drew)); exact HO_3.out) gb397 (Nat.le_of_eq hg.symm)) hb); have BK397 := Aside0.mk (hbox); have GW397 := Aside0.mk (gs HB.out hg); have GE397 := Aside0.mk (gs HB.out hg); replace HB := Aside0.mk (below_step (bl HB.out) hb); clear hb hbox hg; obtain ⟨hcz8_0, hcz8_1, hcz8_2, hfz8_0, hfz8_1, hfz8_2⟩ := cz3 BK397.out) | ((with_reducible refine gate_callee (f := 81) rfl ?_); refine goesL_ (some 14) rfl rfl Try.func81 (by kernel_rfl) rfl #[.agg #[.int .i64 ((rd_T41 l0 x8_1).f0), .slice A396_1 ((rd_T41 l0 x8_1).f1).length c396_1, .slice A396_2 ((rd_T41 l0 x8_1).f2).length c396_2]] rfl mapd ?_; (with_reducible refine (impl_copyColumn.calls ((rd_T41 l0 x8_1).f0) _ _ ((rd_T41 l0 x8_1).f1) _ _ ((rd_T41 l0 x8_1).f2) t398 t399 t402 _ ?side1 ?side2 ?side3 ?side4 A5.out).mono ?_); (case side1 => exact Kd.C_below HR396_1.out (bl HB.out)); (case side2 => exact HC396_1.out); (case side3 => exact Kd.C_below HR396_2.out (bl HB.out)); (case side4 => exact HC396_2.out); rintro e w9 ⟨v400, v403, rfl, ho0, ho1, hb⟩; refine ⟨_, rfl, ?_⟩; replace HO_3 := Aside0.mk (Kd.S_mono (Kd.S_told (Kd.S_told (Kd.S_old (by (with_reducible repeat (first | apply Kd.S_alloc | apply Kd.S_drewN | apply Kd.S_drew)); exact (Kd.S_mono (Kd.S_far (p := ⟨gb397, 2, none⟩) (Kd.S_far (p := ⟨gb397, 1, none⟩) (Kd.S_far (p := ⟨gb397, 0, none⟩) (Kd.S_mono HO_3.out (fun k_ hk => (⟨hk, hk.2⟩ : _ ∧ k_ ≠ gb397))) (fun _ hk => hk.2) (.int .i64 ((rd_T41 l0 x8_1).f0))) (fun _ hk => hk.2) (.slice A396_1 ((rd_T41 l0 x8_1).f1).length c396_1)) (fun _ hk => hk.2) (.slice A396_2 ((rd_T41 l0 x8_1).f2).length c396_2)) (fun _ h_ => h_.1))) hb) (Kd.R_base ho0)) (Kd.R_base ho1)) (fun _ h_ => h_.1)); have HO401 := Aside0.mk (Kd.R_lower ho0 (below_size (bl HB.out))); have HO404 := Aside0.mk (Kd.R_lower ho1 (below_size (bl HB.out))); replace BK397 := Aside0.mk (blk_below (g := gb397) (o := .cells #[.int .i64 ((rd_T41 l0 x8_1).f0), .slice A396_1 ((rd_T41 l0 x8_1).f1).length c396_1, .slice A396_2 ((rd_T41 l0 x8_1).f2).length c396_2] 41 (0, 0)) (by refine bk ?_; refine blk_put (cs := #[.int .i64 ((rd_T41 l0 x8_1).f0), .slice A396_1 ((rd_T41 l0 x8_1).f1).length c396_1, .slice none 0 0]) ?_ 2 _ rfl; refine bk ?_; refine blk_put (cs := #[.int .i64 ((rd_T41 l0 x8_1).f0), .slice none 0 0, .slice none 0 0]) ?_ 1 _ rfl; refine bk ?_; refine blk_put (cs := #[.int .i64 0, .slice none 0 0, .slice none 0 0]) ?_ 0 _ rfl; refine bk ?_; exact BK397.out) hb); replace HB := Aside0.mk (below_step (bl HB.out) hb); (try clear hb); (try clear hb2); (try clear hk); (try clear hi); (try clear ho0); (try clear ho1); obtain ⟨Ao11, co11, eo11⟩ := Kd.R_slice HO401.out; subst eo11; obtain ⟨Ao12, co12, eo12⟩ := Kd.R_slice HO404.out; subst eo12) | ((with_reducible refine gate_builtin (b := .append) (xs := #[.tmp 12, .tmp 15]) rfl ?_); at_builtin; refine Kd.S_append k41 (w0 := w) w.heap.size rfl (.tmp 12) (.tmp 15) 26 41 (.agg #[(.int .i64 0), (.slice none 0 0), (.slice none 0 0)]) 56 rfl Try.underlying26 info41 rfl (by decide) (by omega) u3 x3_1 (⟨t398, t399, t402⟩ : S41) [.int .i64 t398, .slice Ao11 t399.length co11, .slice Ao12 t402.length co12] (fun k_ => k_ ≠ gb397) (fun k_ => some k_ = (.slice Ao11 t399.length co11 : Value).ownBlock ∨ some k_ = (.slice Ao12 t402.length co12 : Value).ownBlock) rfl rfl ?aP (fun k_ hk_ => hk_.elim (fun h_ => ((Kd.R_mono (ok' := fun k_ => ((fun k_ => k_ ≠ gb397)) k_ ∧ some k_ ≠ (u3 : Value).ownBlock) (Kd.R_types (Kd.R_apart' (HO401.out) (Kd.S_typed HO_3.out) (by decide)) BK397.out (by decide)) (fun k_ hk => ⟨hk.2, hk.1.2⟩))).1 k_ h_.symm) (fun h_ => ((Kd.R_mono (ok' := fun k_ => ((fun k_ => k_ ≠ gb397)) k_ ∧ some k_ ≠ (u3 : Value).ownBlock) (Kd.R_types (Kd.R_apart' (HO404.out) (Kd.S_typed HO_3.out) (by decide)) BK397.out (by decide)) (fun k_ hk => ⟨hk.2, hk.1.2⟩))).1 k_ h_.symm)) ?aF ?aO ?aB ?aS ?aL ?_; (case aP => exact k41_mkM _ _ _ (⟨t398, t399, t402⟩ : S41) (Kd.R_mono (Kd.R_tight rfl (Kd.R_mono (ok' := fun k_ => ((fun k_ => k_ ≠ gb397)) k_ ∧ some k_ ≠ (u3 : Value).ownBlock) (Kd.R_types (Kd.R_apart' (HO401.out) (Kd.S_typed HO_3.out) (by decide)) BK397.out (by decide)) (fun k_ hk => ⟨hk.2, hk.1.2⟩))) (fun _ h_ => Or.inl h_)) (Kd.R_mono (Kd.R_tight rfl (Kd.R_mono (ok' := fun k_ => ((fun k_ => k_ ≠ gb397)) k_ ∧ some k_ ≠ (u3 : Value).ownBlock) (Kd.R_types (Kd.R_apart' (HO404.out) (Kd.S_typed HO_3.out) (by decide)) BK397.out (by decide)) (fun k_ hk => ⟨hk.2, hk.1.2⟩))) (fun _ h_ => Or.inr (h_)))); (case aB => exact (bl HB.out)); (case aF => exact (fun k_ hk => Kd.freshB (g := gb397) (o := .cells #[.int .i64 ((rd_T41 l0 x8_1).f0), .slice A396_1 ((rd_T41 l0 x8_1).f1).length c396_1, .slice A396_2 ((rd_T41 l0 x8_1).f2).length c396_2] 41 (0, 0)) (bk BK397.out) k_ hk)); (case aO => exact (by (with_reducible repeat (first | apply Kd.S_alloc | apply Kd.S_drewN | apply Kd.S_drew)); exact Kd.S_mono HO_3.out (fun k_ hk => ⟨hk.1.1.2, fun e_ => e_.elim (fun h_ => hk.1.2 h_) (fun h_ => hk.2 h_)⟩))); (case aS => exact (below_size (bl HB.out))); (case aL => have := LMc6.out; omega); intro v406 w10 ho hb hg hat; rw [← Ny405.out] at ho; replace BK397 := Aside0.mk (blk_grown (g := gb397) (o := .cells #[.int .i64 ((rd_T41 l0 x8_1).f0), .slice A396_1 ((rd_T41 l0 x8_1).f1).length c396_1, .slice A396_2 ((rd_T41 l0 x8_1).f2).length c396_2] 41 (0, 0)) (bk BK397.out) hg (Kd.S_away HO_3.out (fun _ hk => hk.1.1.2))); replace HB := Aside0.mk (hb); have HO407 := Aside0.mk (ho); clear HO_3 HO401 HO404; clear ho hb hg hat))
       go_roundg k1
       case measure => have := HK1.out; omega
       case rel => exact ⟨(y405), (wrap64 (x8_1 + 1)), (by first | rfl | (simp; done) | (simp [*]; done)), H', ⟨by have := HK1.out; omega⟩, ⟨by (with_reducible repeat (first | apply Kd.S_alloc | apply Kd.S_drewN | apply Kd.S_drew)); exact Kd.S_mono HO407.out (fun _ hk => trivial)⟩, ⟨bl HB.out⟩⟩
      ·rw [if_neg c6] at H
       exact absurd H (by simp)
     ·rw [if_neg c4] at H
      exact absurd H (by simp)
    ·rw [if_neg c3] at H
     exact absurd H (by simp)
   ·rw [if_neg c2] at H
    have c2b0 : decide (x8_1 < (l0.length : Int)) = false := decide_eq_false c2
    clear c2
    obtain rfl := Option.some.inj H
    go_wp2
    go_ret
    exact ⟨_, by first | rfl | (simp [errW_none, errW_some] <;> rfl) | (simp [*, errW_none, errW_some] <;> rfl), by (with_reducible repeat (first | apply Kd.S_alloc | apply Kd.S_drewN | apply Kd.S_drew)); exact HO_3.out, bl HB.out⟩
end Go.Proofs.Ytbpjidekjogfeaa.A

namespace Go.Proofs.Ytbpjidekjogfeaa.A
open Go.RowKit Go.Proofs.YtbpjidekjogfeaaW.PrintWords Go.Proofs.YtbpjidekjogfeaaW.PrintLast Go.Proofs.YtbpjidekjogfeaaW.PrintMore
attribute [local go_sem] max2_int min2_int max_two min_two max_three min_three max_four min_four   
set_option linter.unusedVariables false
set_option linter.unusedSimpArgs false
def idxC : List S41 → Int → Int → Int
 | [], _, _ => -1
 | c :: cs, p, i => if 0 ≤ idxP c.f2 p 0 then i else idxC cs p (i + 1)
set_option maxHeartbeats 8000000 in
set_option maxRecDepth 100000 in
theorem columnOf_has (h0 : Int) (A1 : Option Addr) (c1 : Nat) (fx : List Int) (A2 : Option Addr) (c2 : Nat) (bx : List S98) (g : Nat) (p : Int) (w : World) (hr1 : Kd.C (Kd.int .i64) w A1 fx.length fx) (hc1 : fx.length ≤ c1)
  (hr2 : Kd.C k98 w A2 bx.length bx) (hc2 : bx.length ≤ c2) (hc : w.cell? ⟨g, 0, none⟩ = some (.int .i64 p)) :
  Calls Try.prog 111 #[.agg #[.int .i64 h0, .slice A1 fx.length c1, .slice A2 bx.length c2], .pointer (some ⟨g, 0, none⟩)] w fun e w' => e = .returned (.bool (decide (0 ≤ idxP bx p 0))) ∧ Below w.heap.size w w' := by
 have hg : g < w.heap.size := World.block_lt_of_cell? w _ hc
 have hc' := fun o => (World.cell?_alloc_lt w o ⟨g, 0, none⟩ hg).trans hc
 have huC := Try.underlying41
 have HR1 := Aside0.mk hr1
 have HR2 := Aside0.mk hr2
 have HC1 := Aside0.mk hc1
 have HC2 := Aside0.mk hc2
 clear hr1 hr2 hc1 hc2
 go_enter Try.func111, Try.ntmps111
 go_wp2_with (go_at_call 80; refine (impl_boxAt.calls h0 _ _ fx _ _ bx p (idxP bx p 0) _ (Kd.C_alloc HR1.out _) HC1.out (Kd.C_alloc HR2.out _) HC2.out rfl).mono ?_; rintro e w' ⟨rfl, hb1⟩)
 go_ret
 exact ⟨rfl, below_step (below_alloc (Below.refl _ _) _) hb1⟩
set_option maxHeartbeats 8000000 in
set_option maxRecDepth 100000 in
theorem columnOf_index (A : Option Addr) (c : Nat) (l : List S41) (g : Nat) (p : Int) (w : World) (hr : Kd.C k41 w A l.length l) (hcell : w.cell? ⟨g, 0, none⟩ = some (.int .i64 p)) :
  Calls Try.prog 110 #[.slice A l.length c, .func (.func 111) #[] #[.pointer (some ⟨g, 0, none⟩)]] w fun e w' => e = .returned (.int .i64 (idxC l p 0)) ∧ Below w.heap.size w w' := by
 have hL : l.length ≤ 9223372036854775807 := hr.2.1
 have huC := Try.underlying41
 have HR := Aside0.mk hr
 clear hr
 have HL := Aside0.mk hL
 clear hL
 go_enter Try.func110, Try.ntmps110
 go_wp2
 go_loopw [8] (fun v8 wr => ∃ i : Int, v8 = .int .i64 i ∧ Aside0 (0 ≤ i ∧ i ≤ l.length) ∧ Aside0 (idxC l p 0 = idxC (l.drop i.toNat) p i) ∧ Aside0 (Below w.heap.size w wr)) (fun v8 _ => l.length - (intOf v8).toNat)
 case atStart => exact ⟨0, rfl, ⟨by omega⟩, ⟨rfl⟩, ⟨Below.refl _ _⟩⟩
 case round =>
  obtain ⟨i, rfl, hk, hi, HB⟩ := hrel
  have hcw := (HB.out.cell (World.block_lt_of_cell? w _ hcell)).trans hcell
  by_cases hlt : i < (l.length : Int)
  ·obtain ⟨ad, A1, c1, A2, c2, e1, h0, h1, h2, hl1, hi1, hl2, hi2⟩ := at_T41 HR.out i hk.out.1 hlt
   subst e1
   replace h0 := (HB.out.cell (World.block_lt_of_cell? w _ h0)).trans h0
   replace h1 := (HB.out.cell (World.block_lt_of_cell? w _ h1)).trans h1
   replace h2 := (HB.out.cell (World.block_lt_of_cell? w _ h2)).trans h2
   have HR1 := Aside0.mk (Kd.C_below hi1 HB.out)
   have HR2 := Aside0.mk (Kd.C_below hi2 HB.out)
   have HC1 := Aside0.mk hl1
   have HC2 := Aside0.mk hl2
   clear hi1 hi2 hl1 hl2
   have q0 := eq_true hk.out.1
   have q1 := eq_true hlt
   have hltb : decide (i < (l.length : Int)) = true := decide_eq_true hlt
   have hdrop : Aside0 (l.drop i.toNat = rd_T41 l i :: l.drop (i.toNat + 1)) := ⟨by
    have hn : i.toNat < l.length := by have := hk.out.1; omega
    rw [List.drop_eq_getElem_cons hn]
    unfold rd_T41
    rw [getD_at_ _ hn]⟩
   have hwr : Aside0 (wrap64 (i + 1) = i + 1) := ⟨by have := hk.out; have := HL.out; unfold wrap64; omega⟩
   have hlt2 := Aside0.mk hlt
   clear hlt
   by_cases hb : 0 ≤ idxP (rd_T41 l i).f2 p 0
   ·have hbb : decide (0 ≤ idxP (rd_T41 l i).f2 p 0) = true := decide_eq_true hb
    have hres : Aside0 (idxC l p 0 = i) := ⟨by rw [hi.out, hdrop.out]; simp only [idxC]; rw [if_pos hb]⟩
    clear hb hi hdrop
    go_wp2_with (go_at_call 111; refine (columnOf_has _ _ _ _ _ _ _ g p _ HR1.out HC1.out HR2.out HC2.out hcw).mono ?_; rintro e w' ⟨rfl, hb1⟩)
    go_ret
    exact ⟨by rw [hres.out]; rfl, below_step HB.out hb1⟩
   ·have hbb : decide (0 ≤ idxP (rd_T41 l i).f2 p 0) = false := decide_eq_false hb
    have hres : Aside0 (idxC l p 0 = idxC (l.drop (i + 1).toNat) p (i + 1)) := ⟨by
     rw [hi.out, hdrop.out]; simp only [idxC]; rw [if_neg hb]
     congr 2
     have := hk.out.1
     omega⟩
    clear hb hi hdrop
    go_wp2_with (go_at_call 111; refine (columnOf_has _ _ _ _ _ _ _ g p _ HR1.out HC1.out HR2.out HC2.out hcw).mono ?_; rintro e w' ⟨rfl, hb1⟩)
    go_roundw
    case rel => exact ⟨i + 1, by rw [hwr.out], ⟨by have := hk.out; have := hlt2.out; omega⟩, hres, ⟨below_step HB.out hb1⟩⟩
    case measure =>
     have := hk.out; have := hlt2.out
     rw [hwr.out]
     simp [intOf]
     omega
  ·have hltb : decide (i < (l.length : Int)) = false := decide_eq_false hlt
   have hres : Aside0 (idxC l p 0 = -1) := ⟨by
    have := hk.out
    rw [hi.out, List.drop_eq_nil_of_le (by omega)]; rfl⟩
   clear hlt hi
   go_wp2
   go_ret
   exact ⟨by rw [hres.out]; rfl, HB.out⟩
theorem cell_new1 (w : World) (v : Value) (t : TypeId) : (w.alloc (.cells #[v] t)).cell? ⟨w.heap.size, 0, none⟩ = some v :=
 blk_cell (MapKept.heap_alloc w (.cells #[v] t)).1 0
def impl_columnOf.f (l0 : List (S41)) (a1 : Int) : Option (Int) := some (idxC l0 a1 0)
set_option maxHeartbeats 8000000 in
set_option maxRecDepth 100000 in
theorem impl_columnOf.calls (A0 : Option Addr) (c0 : Nat) (l0 : List (S41)) (a1 : Int) (r : Int) (w : World) (hr0 : Kd.C k41 w A0 l0.length l0) (hc0 : l0.length ≤ c0) (h : impl_columnOf.f l0 a1 = some r) :
  Calls Try.prog 73 #[.slice A0 l0.length c0, .int .i64 a1] w fun e w' => e = .returned (.int .i64 r) ∧ Below w.heap.size w w' := by
 obtain rfl := Option.some.inj h
 have HR := Aside0.mk hr0
 clear h hr0 hc0
 go_enter Try.func73, Try.ntmps73
 go_wp2_with (go_at_call 110; refine (columnOf_index _ _ l0 w.heap.size a1 _ (Kd.C_alloc HR.out _) (cell_new1 w _ _)).mono ?_; rintro e w' ⟨rfl, hb1⟩)
 go_ret
 exact ⟨rfl, below_step (below_alloc (Below.refl _ _) _) hb1⟩
def impl_BankTake.f (k : Nat) (l0 : List (S41)) (a1 : Int) : Option ((List (S41)) × Bool) := (impl_copyBank.f k l0).bind fun t408 => ((impl_columnOf.f l0 a1).bind fun t411 => ((impl_BankOk.f l0).bind fun t412 => (if t412 = true then (if t411 < 0 then (some (t408, false)) else (if 0 ≤ t411 then (if t411 < (l0.length : Int) then ((impl_TakeOut.f ((rd_T41 l0 t411).f0) ((rd_T41 l0 t411).f1) ((rd_T41 l0 t411).f2) a1).bind fun bt414 => (if t411 < (t408.length : Int) then (some ((t408.set (t411 : Int).toNat (⟨bt414.1, bt414.2.1, bt414.2.2.1⟩ : S41)), bt414.2.2.2)) else (none))) else (none)) else (none))) else (some (t408, false)))))
set_option maxHeartbeats 8000000 in
set_option maxRecDepth 100000 in
theorem impl_BankTake.calls (k : Nat) (A0 : Option Addr) (c0 : Nat) (l0 : List (S41)) (a1 : Int) (r1 : List (S41)) (r2 : Bool) (w : World) (hr0 : Kd.C k41 w A0 l0.length l0) (hc0 : l0.length ≤ c0) (h : impl_BankTake.f k l0 a1 = some (r1, r2)) :
  Calls Try.prog 25 #[.slice A0 l0.length c0, .int .i64 a1] w fun e w' => ∃ v0_ : Value, e = .returned (.tuple #[v0_, .bool r2]) ∧ Kd.S k41 41 w' w.heap.size (fun _ => True) v0_ r1 ∧ Below w.heap.size w w' := by
 have hu41 := Try.underlying41
 have HR0 := Aside0.mk hr0
 have HC0 := Aside0.mk hc0
 clear hr0 hc0
 have HB := Aside0.mk (Below.refl w.heap.size w)
 have H : ((impl_copyBank.f k l0).bind fun t408 => ((impl_columnOf.f l0 a1).bind fun t411 => ((impl_BankOk.f l0).bind fun t412 => (if t412 = true then (if t411 < 0 then (some (t408, false)) else (if 0 ≤ t411 then (if t411 < (l0.length : Int) then ((impl_TakeOut.f ((rd_T41 l0 t411).f0) ((rd_T41 l0 t411).f1) ((rd_T41 l0 t411).f2) a1).bind fun bt414 => (if t411 < (t408.length : Int) then (some ((t408.set (t411 : Int).toNat (⟨bt414.1, bt414.2.1, bt414.2.2.1⟩ : S41)), bt414.2.2.2)) else (none))) else (none)) else (none))) else (some (t408, false)))))) = some (r1, r2) := h
 clear h
 replace H := Option.bind_eq_some_iff.mp H
 obtain ⟨t408, A30, H⟩ := H
 try dsimp only at H
 have A3 := Aside0.mk A30
 clear A30
 replace H := Option.bind_eq_some_iff.mp H
 obtain ⟨t411, A40, H⟩ := H
 try dsimp only at H
 have A4 := Aside0.mk A40
 clear A40
 replace H := Option.bind_eq_some_iff.mp H
 obtain ⟨t412, A50, H⟩ := H
 try dsimp only at H
 have A5 := Aside0.mk A50
 clear A50
 by_cases c6 : t412 = true
 focus
  subst c6
  rw [if_pos rfl] at H
  by_cases c7 : t411 < 0
  focus
   rw [if_pos c7] at H
   have c7b0 : decide (t411 < 0) = true := decide_eq_true c7
   clear c7
   simp only [Option.some.injEq, Prod.mk.injEq] at H
   obtain ⟨rfl, rfl⟩ := H
  rotate_left
  focus
   rw [if_neg c7] at H
   have c7b0 : decide (t411 < 0) = false := decide_eq_false c7
   clear c7
   by_cases c11 : 0 ≤ t411
   focus
    rw [if_pos c11] at H
    have c11b0 : decide (0 ≤ t411) = true := decide_eq_true c11
    clear c11
    by_cases c12 : t411 < (l0.length : Int)
    focus
     rw [if_pos c12] at H
     have c12b0 : decide (t411 < (l0.length : Int)) = true := decide_eq_true c12
     clear c12
     replace H := Option.bind_eq_some_iff.mp H
     obtain ⟨⟨t414, t415, t418, t421⟩, A130, H⟩ := H
     try dsimp only at H
     have A13 := Aside0.mk A130
     clear A130
     by_cases c14 : t411 < (t408.length : Int)
     focus
      rw [if_pos c14] at H
      have c14b0 : decide (t411 < (t408.length : Int)) = true := decide_eq_true c14
      clear c14
      obtain ⟨y423, hy423⟩ : ∃ y_ : List (S41), y_ = (t408.set (t411 : Int).toNat (⟨t414, t415, t418⟩ : S41)) := ⟨_, rfl⟩
      replace H : (some (y423, t421)) = some (r1, r2) := by first | (rw [hy423]; with_reducible exact H) | (have H2_ := (Option.bind_some _ _).symm.trans H; rw [hy423]; with_reducible exact H2_) | (have H2_ := (Option.bind_some _ _).symm.trans H; with_reducible exact H2_) | with_reducible exact H | (rw [hy423]; exact H) | exact H
      have Ny423 := Aside0.mk hy423
      clear hy423
      simp only [Option.some.injEq, Prod.mk.injEq] at H
      obtain ⟨rfl, rfl⟩ := H
     rotate_left
     ·rw [if_neg c14] at H
      exact absurd H (by simp)
    rotate_left
    ·rw [if_neg c12] at H
     exact absurd H (by simp)
   rotate_left
   ·rw [if_neg c11] at H
    exact absurd H (by simp)
  rotate_left
 rotate_left 2
 focus
  replace c6 := Bool.eq_false_iff.mpr c6
  subst c6
  rw [if_neg (show ¬ (false = true) by decide)] at H
  simp only [Option.some.injEq, Prod.mk.injEq] at H
  obtain ⟨rfl, rfl⟩ := H
 rotate_left
 all_goals go_enter Try.func25, Try.ntmps25
 all_goals go_wp2_with (first | ((with_reducible refine gate_callee (f := 72) rfl ?_); refine goesL_ (some 11) rfl rfl Try.func72 (by kernel_rfl) rfl #[.slice A0 l0.length c0] rfl mapd ?_; (with_reducible refine (impl_copyBank.calls k _ _ l0 t408 _ ?side1 ?side2 A3.out).mono ?_); (case side1 => repeat (first | exact HR0.out | (with_reducible refine Kd.C_alloc ?_ _) | (with_reducible refine Kd.C_drewN ?_ _) | (with_reducible refine Kd.C_drew ?_))); (case side2 => exact HC0.out); rintro e w8 ⟨v409, rfl, ho0, hb⟩; refine ⟨_, rfl, ?_⟩; have HO410 := Aside0.mk (Kd.S_lower ho0 (below_size (bl HB.out))); replace HB := Aside0.mk (below_step (bl HB.out) hb); (try clear hb); (try clear hb2); (try clear hk); (try clear hi); (try clear ho0)) | ((with_reducible refine gate_callee (f := 73) rfl ?_); refine goesL_ (some 14) rfl rfl Try.func73 (by kernel_rfl) rfl #[.slice A0 l0.length c0, .int .i64 a1] rfl mapd ?_; (with_reducible refine (impl_columnOf.calls _ _ l0 a1 t411 _ ?side1 ?side2 A4.out).mono ?_); (case side1 => exact cb (Kd.C_below HR0.out HB.out)); (case side2 => exact HC0.out); rintro e w9 ⟨rfl, hb⟩; refine ⟨_, rfl, ?_⟩; replace HO410 := Aside0.mk (Kd.S_below (by (with_reducible repeat (first | apply Kd.S_alloc | apply Kd.S_drewN | apply Kd.S_drew)); exact HO410.out) hb); replace HB := Aside0.mk (below_step (bl HB.out) hb); (try clear hb); (try clear hb2); (try clear hk); (try clear hi)) | ((with_reducible refine gate_callee (f := 51) rfl ?_); refine goesL_ (some 16) rfl rfl Try.func51 (by kernel_rfl) rfl #[.slice A0 l0.length c0] rfl mapd ?_; (with_reducible refine (impl_BankOk.calls _ _ l0 false _ ?side1 ?side2 A5.out).mono ?_); (case side1 => exact cb (Kd.C_below HR0.out HB.out)); (case side2 => exact HC0.out); rintro e w30 ⟨rfl, hb⟩; refine ⟨_, rfl, ?_⟩; replace HO410 := Aside0.mk (Kd.S_below (by (with_reducible repeat (first | apply Kd.S_alloc | apply Kd.S_drewN | apply Kd.S_drew)); exact HO410.out) hb); replace HB := Aside0.mk (below_step (bl HB.out) hb); (try clear hb); (try clear hb2); (try clear hk); (try clear hi)) | ((with_reducible refine gate_callee (f := 51) rfl ?_); refine goesL_ (some 16) rfl rfl Try.func51 (by kernel_rfl) rfl #[.slice A0 l0.length c0] rfl mapd ?_; (with_reducible refine (impl_BankOk.calls _ _ l0 true _ ?side1 ?side2 A5.out).mono ?_); (case side1 => exact cb (Kd.C_below HR0.out HB.out)); (case side2 => exact HC0.out); rintro e w18 ⟨rfl, hb⟩; refine ⟨_, rfl, ?_⟩; replace HO410 := Aside0.mk (Kd.S_below (by (with_reducible repeat (first | apply Kd.S_alloc | apply Kd.S_drewN | apply Kd.S_drew)); exact HO410.out) hb); replace HB := Aside0.mk (below_step (bl HB.out) hb); (try clear hb); (try clear hb2); (try clear hk); (try clear hi); have p413 : 0 ≤ (t411 : Int) := of_decide_eq_true asm; have q413 : t411 < (l0.length : Int) := of_decide_eq_true asm; obtain ⟨ad413, A413_1, c413_1, A413_2, c413_2, e413, hx413_0, hx413_1, hx413_2, hl413_1, hi413_1, hl413_2, hi413_2⟩ := at_T41 HR0.out t411 p413 q413; cases e413; replace hx413_0 := (HB.out.cell (World.block_lt_of_cell? w _ hx413_0)).trans hx413_0; replace hx413_1 := (HB.out.cell (World.block_lt_of_cell? w _ hx413_1)).trans hx413_1; replace hx413_2 := (HB.out.cell (World.block_lt_of_cell? w _ hx413_2)).trans hx413_2; have HR413_1 := Aside0.mk hi413_1; have HC413_1 := Aside0.mk hl413_1; clear hi413_1 hl413_1; have HR413_2 := Aside0.mk hi413_2; have HC413_2 := Aside0.mk hl413_2; clear hi413_2 hl413_2; replace p413 := eq_true p413; replace q413 := eq_true q413) | ((with_reducible refine gate_callee (f := 32) rfl ?_); refine goesL_ (some 29) rfl rfl Try.func32 (by kernel_rfl) rfl #[.agg #[.int .i64 ((rd_T41 l0 t411).f0), .slice A413_1 ((rd_T41 l0 t411).f1).length c413_1, .slice A413_2 ((rd_T41 l0 t411).f2).length c413_2], .int .i64 a1] rfl mapd ?_; (with_reducible refine (impl_TakeOut.calls ((rd_T41 l0 t411).f0) _ _ ((rd_T41 l0 t411).f1) _ _ ((rd_T41 l0 t411).f2) a1 t414 t415 t418 t421 _ ?side1 ?side2 ?side3 ?side4 A13.out).mono ?_); (case side1 => exact cb (Kd.C_below HR413_1.out HB.out)); (case side2 => exact HC413_1.out); (case side3 => exact cb (Kd.C_below HR413_2.out HB.out)); (case side4 => exact HC413_2.out); rintro e w19 ⟨v416, v419, rfl, ho0, ho1, hb⟩; refine ⟨_, rfl, ?_⟩; replace HO410 := Aside0.mk (Kd.S_mono (Kd.S_told (Kd.S_told (Kd.S_old (by (with_reducible repeat (first | apply Kd.S_alloc | apply Kd.S_drewN | apply Kd.S_drew)); exact HO410.out) hb) (Kd.R_base ho0)) (Kd.R_base ho1)) (fun _ h_ => h_.1)); have HO417 := Aside0.mk (Kd.R_lower ho0 (below_size (bl HB.out))); have HO420 := Aside0.mk (Kd.R_lower ho1 (below_size (bl HB.out))); replace HB := Aside0.mk (below_step (bl HB.out) hb); (try clear hb); (try clear hb2); (try clear hk); (try clear hi); (try clear ho0); (try clear ho1)) | ((with_reducible refine gate_dst (N := 8) rfl ?_); refine bx (cs := #[.int .i64 0, .slice none 0 0, .slice none 0 0]) (t := 41) fun gb422 hg w20 hbox hb => ?_; replace HO410 := Aside0.mk (Kd.S_below (Kd.S_elderB (by (with_reducible repeat (first | apply Kd.S_alloc | apply Kd.S_drewN | apply Kd.S_drew)); exact HO410.out) gb422 (Nat.le_of_eq hg.symm)) hb); replace HO417 := Aside0.mk (Kd.R_below (rk HO417.out) hb); replace HO420 := Aside0.mk (Kd.R_below (rk HO420.out) hb); have BK422 := Aside0.mk (hbox); have GW422 := Aside0.mk (gs HB.out hg); have GE422 := Aside0.mk (gs HB.out hg); replace HB := Aside0.mk (below_step (bl HB.out) hb); clear hb hbox hg; obtain ⟨hcz21_0, hcz21_1, hcz21_2, hfz21_0, hfz21_1, hfz21_2⟩ := cz3 BK422.out; obtain ⟨Ao22, co22, eo22⟩ := Kd.R_slice HO417.out; subst eo22; obtain ⟨Ao23, co23, eo23⟩ := Kd.R_slice HO420.out; subst eo23) | ((with_reducible refine gate_store (t := 41) (p := 8) rfl ?_); refine store_event (t := 41) (p := 8) (v := ?vo_w24) (w1 := (((w20.setCell ⟨gb422, 0, none⟩ (.int .i64 t414)).setCell ⟨gb422, 1, none⟩ (.slice Ao22 t415.length co22)).setCell ⟨gb422, 2, none⟩ (.slice Ao23 t418.length co23))) ?hg ?ho ?hn ?hr ?_; (case ho => rfl); (case hg => rfl); (case hn => rfl); (case hr => first | (go_simp; done) | (go_simp; rfl)); intro w24 hw; have n0_ : Aside0 (Kd.S k41 41 w24 w.heap.size (fun k_ => some k_ ≠ (.slice Ao22 t415.length co22 : Value).ownBlock ∧ some k_ ≠ (.slice Ao23 t418.length co23 : Value).ownBlock ∧ k_ ≠ gb422) v409 t408) := ⟨(by rw [hw]; exact (by (with_reducible repeat (first | apply Kd.S_alloc | apply Kd.S_drewN | apply Kd.S_drew)); exact Kd.S_mono (Kd.S_far (p := ⟨gb422, 2, none⟩) (Kd.S_far (p := ⟨gb422, 1, none⟩) (Kd.S_far (p := ⟨gb422, 0, none⟩) (Kd.S_mono HO410.out (fun k_ hk => (⟨hk, hk.2⟩ : _ ∧ k_ ≠ gb422))) (fun _ hk => hk.2) (.int .i64 t414)) (fun _ hk => hk.2) (.slice Ao22 t415.length co22)) (fun _ hk => hk.2) (.slice Ao23 t418.length co23)) (fun _ hk => ⟨hk.1.1.1.2, ⟨hk.1.1.2, hk.1.2⟩⟩)))⟩; have n1_ : Aside0 (Kd.R (Kd.int .i64) 3 w24 w.heap.size (fun _ => True) (.slice Ao22 t415.length co22) t415) := ⟨(by rw [hw]; exact (by refine rk ?_; exact Kd.R_mono (Kd.R_far (p := ⟨gb422, 2, none⟩) (Kd.R_far (p := ⟨gb422, 1, none⟩) (Kd.R_far (p := ⟨gb422, 0, none⟩) (Kd.R_types HO417.out BK422.out (by decide)) (fun _ hk => hk.2) (.int .i64 t414)) (fun _ hk => hk.2) (.slice Ao22 t415.length co22)) (fun _ hk => hk.2) (.slice Ao23 t418.length co23)) (fun _ hk => trivial)))⟩; have n2_ : Aside0 (Kd.R k98 98 w24 w.heap.size (fun _ => True) (.slice Ao23 t418.length co23) t418) := ⟨(by rw [hw]; exact (by refine rk ?_; exact Kd.R_mono (Kd.R_far (p := ⟨gb422, 2, none⟩) (Kd.R_far (p := ⟨gb422, 1, none⟩) (Kd.R_far (p := ⟨gb422, 0, none⟩) (Kd.R_types HO420.out BK422.out (by decide)) (fun _ hk => hk.2) (.int .i64 t414)) (fun _ hk => hk.2) (.slice Ao22 t415.length co22)) (fun _ hk => hk.2) (.slice Ao23 t418.length co23)) (fun _ hk => trivial)))⟩; have n3_ : Aside0 (w24.heap[gb422]? = some (.cells #[.int .i64 t414, .slice Ao22 t415.length co22, .slice Ao23 t418.length co23] 41 (0, 0))) := ⟨(by rw [hw]; exact (by refine bk ?_; refine blk_put (cs := #[.int .i64 t414, .slice Ao22 t415.length co22, .slice none 0 0]) ?_ 2 _ rfl; refine bk ?_; refine blk_put (cs := #[.int .i64 t414, .slice none 0 0, .slice none 0 0]) ?_ 1 _ rfl; refine bk ?_; refine blk_put (cs := #[.int .i64 0, .slice none 0 0, .slice none 0 0]) ?_ 0 _ rfl; refine bk ?_; exact BK422.out))⟩; have n4_ : Aside0 (Below w.heap.size w w24) := ⟨(by rw [hw]; exact (bl HB.out))⟩; clear hw; clear HO410; clear HO417; clear HO420; clear BK422; clear HB; have HO410 := n0_; have HO417 := n1_; have HO420 := n2_; have BK422 := n3_; have HB := n4_; clear n0_ n1_ n2_ n3_ n4_; obtain ⟨hcz25_0, hcz25_1, hcz25_2, hfz25_0, hfz25_1, hfz25_2⟩ := cz3 BK422.out; have p15 : 0 ≤ (t411 : Int) := of_decide_eq_true asm; have q15 : (t411 : Int) < ((t408.length : Int) : Int) := of_decide_eq_true asm; obtain ⟨go15, co15, eo15, gb15, gl15, cl15, HG15⟩ := Kd.S_form HO410.out (by omega); (first | cases eo15 | (injection eo15 with ea_ en_ ec_; (first | subst ea_ | (injection ea_ with ea_; subst ea_)); subst ec_; clear en_)); have GB15 := Aside0.mk gb15; have GG15 := Aside0.mk HG15; clear gb15 gl15 HG15; obtain ⟨_, ce15, hcl15, hM15, hcc15, hfr15, _, _⟩ := Kd.S_elem HO410.out z41 (t411 : Int) p15 q15; obtain ⟨ve15_1, ve15_2, rfl, ge15_1, ge15_2⟩ := k41_openM hM15; have hx15_0 : w24.cell? ⟨go15, (t411 : Int).toNat * 3, none⟩ = some (.int .i64 ((rd_T41 t408 t411).f0)) := hcc15 0 _ rfl; have hx15_1 : w24.cell? ⟨go15, (t411 : Int).toNat * 3 + 1, none⟩ = some (ve15_1) := hcc15 1 _ rfl; have hx15_2 : w24.cell? ⟨go15, (t411 : Int).toNat * 3 + 2, none⟩ = some (ve15_2) := hcc15 2 _ rfl; have hf15_0 : w24.frozen? ⟨go15, (t411 : Int).toNat * 3, none⟩ = false := hfr15 0; have hf15_1 : w24.frozen? ⟨go15, (t411 : Int).toNat * 3 + 1, none⟩ = false := hfr15 1; have hf15_2 : w24.frozen? ⟨go15, (t411 : Int).toNat * 3 + 2, none⟩ = false := hfr15 2; clear hcl15 hcc15 hfr15 hM15; replace p15 := eq_true p15; replace q15 := eq_true q15; have HX26 := Aside0.mk (show Kd.S k41 41 w24 w.heap.size (fun k_ => ((fun k_ => k_ ≠ gb422)) k_ ∧ ¬ ((fun k_ => some k_ = (.slice Ao22 t415.length co22 : Value).ownBlock ∨ some k_ = (.slice Ao23 t418.length co23 : Value).ownBlock)) k_) (.slice (some ⟨go15, 0, none⟩) t408.length co15) t408 from (by (with_reducible repeat (first | apply Kd.S_alloc | apply Kd.S_drewN | apply Kd.S_drew)); exact Kd.S_mono HO410.out (fun k_ hk => ⟨hk.2.2, fun e_ => e_.elim (fun h_ => hk.1 h_) (fun h_ => hk.2.1 h_)⟩))); obtain ⟨oki26, ce26, hcl26, hM26, hcc26, hfr26, hoki26, hH26⟩ := Kd.S_elem HX26.out z41 (t411 : Int) (of_decide_eq_true asm) (by have h_ : (t411 : Int) < ((t408.length : Int) : Int) := of_decide_eq_true asm; first | exact h_ | (have e_ := (Kd.S_reads' HO410.out).1; omega) | simpa using h_); obtain ⟨ve26_1, ve26_2, rfl, ge26_1, ge26_2⟩ := k41_openM hM26; have HP26 := Kd.S_seg hH26 (of_decide_eq_true asm) (by have h_ : (t411 : Int) < ((t408.length : Int) : Int) := of_decide_eq_true asm; first | exact h_ | (have e_ := (Kd.S_reads' HO410.out).1; omega) | simpa using h_) (seg := [.int .i64 t414, .slice Ao22 t415.length co22, .slice Ao23 t418.length co23]) (j := 0) (show 3 ≤ 3 from by decide) (x' := (⟨t414, t415, t418⟩ : S41)) (k41_mkM _ _ _ (⟨t414, t415, t418⟩ : S41) (Kd.R_mono (Kd.R_tight rfl (Kd.R_mono (ok' := fun k_ => ((fun k_ => k_ ≠ gb422)) k_ ∧ k_ ≠ go15) (Kd.R_types (Kd.R_apart' (HO417.out) (Kd.S_typed HO410.out) (by decide)) BK422.out (by decide)) (fun k_ hk => ⟨hk.2, fun e_ => (hk.1.2) (by rw [e_]; rfl)⟩))) (fun _ h_ => Or.inr (Or.inl h_))) (Kd.R_mono (Kd.R_tight rfl (Kd.R_mono (ok' := fun k_ => ((fun k_ => k_ ≠ gb422)) k_ ∧ k_ ≠ go15) (Kd.R_types (Kd.R_apart' (HO420.out) (Kd.S_typed HO410.out) (by decide)) BK422.out (by decide)) (fun k_ hk => ⟨hk.2, fun e_ => (hk.1.2) (by rw [e_]; rfl)⟩))) (fun _ h_ => Or.inr (Or.inr (h_))))) (fun _ hk => hk) (fun k_ hk_ => hk_.elim (fun h_ => ((Kd.R_mono (ok' := fun k_ => ((fun k_ => k_ ≠ gb422)) k_ ∧ k_ ≠ go15) (Kd.R_types (Kd.R_apart' (HO417.out) (Kd.S_typed HO410.out) (by decide)) BK422.out (by decide)) (fun k_ hk => ⟨hk.2, fun e_ => (hk.1.2) (by rw [e_]; rfl)⟩))).1 k_ h_.symm) (fun h_ => ((Kd.R_mono (ok' := fun k_ => ((fun k_ => k_ ≠ gb422)) k_ ∧ k_ ≠ go15) (Kd.R_types (Kd.R_apart' (HO420.out) (Kd.S_typed HO410.out) (by decide)) BK422.out (by decide)) (fun k_ hk => ⟨hk.2, fun e_ => (hk.1.2) (by rw [e_]; rfl)⟩))).1 k_ h_.symm)); have hx26_0 := hcc26 0 _ rfl; (try simp only [show (k41).sz = 3 from rfl, Nat.mul_one, Nat.add_zero] at hx26_0); have hf26_0 := hfr26 0; (try simp only [show (k41).sz = 3 from rfl, Nat.mul_one, Nat.add_zero] at hf26_0); have hx26_1 := hcc26 1 _ rfl; (try simp only [show (k41).sz = 3 from rfl, Nat.mul_one, Nat.add_zero] at hx26_1); have hf26_1 := hfr26 1; (try simp only [show (k41).sz = 3 from rfl, Nat.mul_one, Nat.add_zero] at hf26_1); have hx26_2 := hcc26 2 _ rfl; (try simp only [show (k41).sz = 3 from rfl, Nat.mul_one, Nat.add_zero] at hx26_2); have hf26_2 := hfr26 2; (try simp only [show (k41).sz = 3 from rfl, Nat.mul_one, Nat.add_zero] at hf26_2); clear hcl26 hcc26 hfr26 hM26 hoki26 hH26) | ((with_reducible refine gate_store (t := 41) (p := 35) rfl ?_); refine store_event (t := 41) (p := 35) (v := ?vo_w27) (w1 := (((w24.setCell ⟨go15, (t411 : Int).toNat * 3, none⟩ (.int .i64 t414)).setCell ⟨go15, (t411 : Int).toNat * 3 + 1, none⟩ (.slice Ao22 t415.length co22)).setCell ⟨go15, (t411 : Int).toNat * 3 + 2, none⟩ (.slice Ao23 t418.length co23))) ?hg ?ho ?hn ?hr ?_; (case ho => rfl); (case hg => rfl); (case hn => rfl); (case hr => first | (go_simp; done) | (go_simp; rfl)); intro w27 hw; have hg : w24.grownBy w27 (some go15) := (by rw [hw]; exact HP26.2); have hp_ : Kd.S k41 41 w27 w.heap.size (fun k_ => k_ ≠ gb422) (.slice (some ⟨go15, 0, none⟩) t408.length co15) y423 := (by rw [hw, Ny423.out]; exact HP26.1); clear HP26; replace BK422 := Aside0.mk (blk_grown (g := gb422) (o := .cells #[.int .i64 t414, .slice Ao22 t415.length co22, .slice Ao23 t418.length co23] 41 (0, 0)) (bk BK422.out) hg (Kd.S_away HO410.out (fun _ hk => hk.2.2))); replace HO410 := Aside0.mk (hp_); replace HB := Aside0.mk ((by rw [hw]; exact below_set (below_set (below_set (HB.out) GB15.out) GB15.out) GB15.out : Below w.heap.size w w27)); clear HO417 HO420; clear hg hw hp_) | ((with_reducible refine gate_callee (f := 51) rfl ?_); refine goesL_ (some 16) rfl rfl Try.func51 (by kernel_rfl) rfl #[.slice A0 l0.length c0] rfl mapd ?_; (with_reducible refine (impl_BankOk.calls _ _ l0 true _ ?side1 ?side2 A5.out).mono ?_); (case side1 => exact cb (Kd.C_below HR0.out HB.out)); (case side2 => exact HC0.out); rintro e w10 ⟨rfl, hb⟩; refine ⟨_, rfl, ?_⟩; replace HO410 := Aside0.mk (Kd.S_below (by (with_reducible repeat (first | apply Kd.S_alloc | apply Kd.S_drewN | apply Kd.S_drew)); exact HO410.out) hb); replace HB := Aside0.mk (below_step (bl HB.out) hb); (try clear hb); (try clear hb2); (try clear hk); (try clear hi)))
 ·go_ret2
  exact ⟨_, by first | rfl | (simp [errW_none, errW_some] <;> rfl) | (simp [*, errW_none, errW_some] <;> rfl), by (with_reducible repeat (first | apply Kd.S_alloc | apply Kd.S_drewN | apply Kd.S_drew)); exact HO410.out, bl HB.out⟩
 ·go_ret2
  exact ⟨_, by first | rfl | (simp [errW_none, errW_some] <;> rfl) | (simp [*, errW_none, errW_some] <;> rfl), by (with_reducible repeat (first | apply Kd.S_alloc | apply Kd.S_drewN | apply Kd.S_drew)); exact Kd.S_mono HO410.out (fun _ hk => trivial), bl HB.out⟩
 ·go_ret2
  exact ⟨_, by first | rfl | (simp [errW_none, errW_some] <;> rfl) | (simp [*, errW_none, errW_some] <;> rfl), by (with_reducible repeat (first | apply Kd.S_alloc | apply Kd.S_drewN | apply Kd.S_drew)); exact HO410.out, bl HB.out⟩

def laws_heldIntS.l0 : Nat → List Int → Int → Int → Option (Int)
 | 0, _, _, _ => none
 | k + 1, x0, x1, x5 => if x5 < (x0.length : Int) then (if 0 ≤ x5 then (if (rd x0 x5) = x1 then (laws_heldIntS.l0 k x0 (wrap64 (x1 + 1)) (wrap64 (x5 + 1))) else (some (-1))) else (none)) else (some x1)
def laws_heldIntS.f (k : Nat) (l0 : List Int) (a1 : Int) : Option (Int) := laws_heldIntS.l0 k l0 a1 0
set_option maxHeartbeats 8000000 in
set_option maxRecDepth 100000 in
theorem laws_heldIntS.calls (k : Nat) (A0 : Option Addr) (c0 : Nat) (l0 : List Int) (a1 : Int) (r : Int) (w : World) (hr0 : Kd.C (Kd.int .i64) w A0 l0.length l0) (hc0 : l0.length ≤ c0) (h : laws_heldIntS.f k l0 a1 = some r) :
  Calls Try.prog 55 #[.slice A0 l0.length c0, .int .i64 a1] w fun e w' => e = .returned (.int .i64 r) ∧ Drawn0 w w' := by
 have HR0 := Aside0.mk hr0
 have HC0 := Aside0.mk hc0
 clear hr0 hc0
 have H : (laws_heldIntS.l0 k l0 a1 0) = some r := h
 clear h
 have H' := Aside0.mk H
 clear H
 go_enter Try.func55, Try.ntmps55
 go_wp2
 go_loopg [1, 5] k (fun kq v1 v5 w' => ∃ (x1_1 : Int) (x5_1 : Int), v1 = .int .i64 x1_1 ∧ v5 = .int .i64 x5_1 ∧ Aside0 (laws_heldIntS.l0 kq l0 x1_1 x5_1 = some r) ∧ Aside0 (kq ≤ k) ∧ Drawn0 w w')
 case atStart => exact ⟨(a1), (0), (by first | rfl | (simp; done) | (simp [*]; done)), (by first | rfl | (simp; done) | (simp [*]; done)), H', ⟨Nat.le_refl _⟩, by repeat (first | exact Drawn0.refl _ | apply Drawn0.step)⟩
 case round =>
  clear H'
  try clear p2
  obtain ⟨x1_1, x5_1, rfl, rfl, HA, HK1, ⟨m1, rfl⟩⟩ := hrel
  cases gk with
  | zero => exact absurd HA.out (by simp [laws_heldIntS.l0])
  | succ k1 =>
   have H := HA.out
   clear HA
   simp only [laws_heldIntS.l0] at H
   by_cases c3 : x5_1 < (l0.length : Int)
   ·rw [if_pos c3] at H
    have c3b0 : decide (x5_1 < (l0.length : Int)) = true := decide_eq_true c3
    clear c3
    by_cases c4 : 0 ≤ x5_1
    ·rw [if_pos c4] at H
     have c4b0 : decide (0 ≤ x5_1) = true := decide_eq_true c4
     clear c4
     by_cases c5 : (rd l0 x5_1) = x1_1
     ·rw [if_pos c5] at H
      have c5b0 : ((rd l0 x5_1) == x1_1) = true := beq_iff_eq.mpr c5
      have c5b1 : ((rd l0 x5_1) != x1_1) = false := bne_eq_false_iff_eq.mpr c5
      clear c5
      have H' := Aside0.mk H
      clear H
      have p424 : 0 ≤ (x5_1 : Int) := of_decide_eq_true asm
      have q424 : x5_1 < (l0.length : Int) := of_decide_eq_true asm
      obtain ⟨ad424, e424, hx424_0⟩ := Kd.at_int HR0.out x5_1 p424 q424
      cases e424
      replace p424 := eq_true p424
      replace q424 := eq_true q424
      go_wp2
      go_roundg k1
      case measure => have := HK1.out; omega
      case rel => exact ⟨(wrap64 (x1_1 + 1)), (wrap64 (x5_1 + 1)), (by first | rfl | (simp; done) | (simp [*]; done)), (by first | rfl | (simp; done) | (simp [*]; done)), H', ⟨by have := HK1.out; omega⟩, by repeat (first | exact Drawn0.refl _ | apply Drawn0.step)⟩
     ·rw [if_neg c5] at H
      have c5b0 : ((rd l0 x5_1) == x1_1) = false := beq_eq_false_iff_ne.mpr c5
      have c5b1 : ((rd l0 x5_1) != x1_1) = true := bne_iff_ne.mpr c5
      obtain rfl := Option.some.inj H
      have p424 : 0 ≤ (x5_1 : Int) := of_decide_eq_true asm
      have q424 : x5_1 < (l0.length : Int) := of_decide_eq_true asm
      obtain ⟨ad424, e424, hx424_0⟩ := Kd.at_int HR0.out x5_1 p424 q424
      cases e424
      replace p424 := eq_true p424
      replace q424 := eq_true q424
      go_wp2
      go_ret
      exact ⟨by first | rfl | (simp; done) | (simp [*]; done), by repeat (first | exact Drawn0.refl _ | apply Drawn0.step)⟩
    ·rw [if_neg c4] at H
     exact absurd H (by simp)
   ·rw [if_neg c3] at H
    have c3b0 : decide (x5_1 < (l0.length : Int)) = false := decide_eq_false c3
    clear c3
    obtain rfl := Option.some.inj H
    go_wp2
    go_ret
    exact ⟨by first | rfl | (simp; done) | (simp [*]; done), by repeat (first | exact Drawn0.refl _ | apply Drawn0.step)⟩
def laws_heldBoxS.l0 : Nat → List (S98) → Int → Int → Option (Int)
 | 0, _, _, _ => none
 | k + 1, x0, x1, x5 => if x5 < (x0.length : Int) then (if 0 ≤ x5 then (if ((rd_T98 x0 x5).f0) = x1 then (if ((rd_T98 x0 x5).f1) = (wrap64 (x1 + 1)) then (if ((rd_T98 x0 x5).f2) = (wrap64 ((wrap64 (x1 + 1)) + 1)) then (if (((rd_T98 x0 x5).f3) != ((Int.tmod (wrap64 ((wrap64 ((wrap64 (x1 + 1)) + 1)) + 1)) 3) == 0)) = true then (some (-1)) else (laws_heldBoxS.l0 k x0 (wrap64 ((wrap64 ((wrap64 ((wrap64 (x1 + 1)) + 1)) + 1)) + 1)) (wrap64 (x5 + 1)))) else (some (-1))) else (some (-1))) else (some (-1))) else (none)) else (some x1)
def laws_heldBoxS.f (k : Nat) (l0 : List (S98)) (a1 : Int) : Option (Int) := laws_heldBoxS.l0 k l0 a1 0
set_option maxHeartbeats 8000000 in
set_option maxRecDepth 100000 in
theorem laws_heldBoxS.calls (k : Nat) (A0 : Option Addr) (c0 : Nat) (l0 : List (S98)) (a1 : Int) (r : Int) (w : World) (hr0 : Kd.C k98 w A0 l0.length l0) (hc0 : l0.length ≤ c0) (h : laws_heldBoxS.f k l0 a1 = some r) :
  Calls Try.prog 74 #[.slice A0 l0.length c0, .int .i64 a1] w fun e w' => e = .returned (.int .i64 r) ∧ Drawn0 w w' := by
 have HR0 := Aside0.mk hr0
 have HC0 := Aside0.mk hc0
 clear hr0 hc0
 have H : (laws_heldBoxS.l0 k l0 a1 0) = some r := h
 clear h
 have H' := Aside0.mk H
 clear H
 go_enter Try.func74, Try.ntmps74
 go_wp2
 go_loopg [1, 5] k (fun kq v1 v5 w' => ∃ (x1_1 : Int) (x5_1 : Int), v1 = .int .i64 x1_1 ∧ v5 = .int .i64 x5_1 ∧ Aside0 (laws_heldBoxS.l0 kq l0 x1_1 x5_1 = some r) ∧ Aside0 (kq ≤ k) ∧ Drawn0 w w')
 case atStart => exact ⟨(a1), (0), (by first | rfl | (simp; done) | (simp [*]; done)), (by first | rfl | (simp; done) | (simp [*]; done)), H', ⟨Nat.le_refl _⟩, by repeat (first | exact Drawn0.refl _ | apply Drawn0.step)⟩
 case round =>
  clear H'
  try clear p2
  obtain ⟨x1_1, x5_1, rfl, rfl, HA, HK1, ⟨m1, rfl⟩⟩ := hrel
  cases gk with
  | zero => exact absurd HA.out (by simp [laws_heldBoxS.l0])
  | succ k1 =>
   have H := HA.out
   clear HA
   simp only [laws_heldBoxS.l0] at H
   by_cases c3 : x5_1 < (l0.length : Int)
   ·rw [if_pos c3] at H
    have c3b0 : decide (x5_1 < (l0.length : Int)) = true := decide_eq_true c3
    clear c3
    by_cases c4 : 0 ≤ x5_1
    ·rw [if_pos c4] at H
     have c4b0 : decide (0 ≤ x5_1) = true := decide_eq_true c4
     clear c4
     by_cases c5 : ((rd_T98 l0 x5_1).f0) = x1_1
     ·rw [if_pos c5] at H
      have c5b0 : (((rd_T98 l0 x5_1).f0) == x1_1) = true := beq_iff_eq.mpr c5
      have c5b1 : (((rd_T98 l0 x5_1).f0) != x1_1) = false := bne_eq_false_iff_eq.mpr c5
      clear c5
      by_cases c6 : ((rd_T98 l0 x5_1).f1) = (wrap64 (x1_1 + 1))
      ·rw [if_pos c6] at H
       have c6b0 : (((rd_T98 l0 x5_1).f1) == (wrap64 (x1_1 + 1))) = true := beq_iff_eq.mpr c6
       have c6b1 : (((rd_T98 l0 x5_1).f1) != (wrap64 (x1_1 + 1))) = false := bne_eq_false_iff_eq.mpr c6
       clear c6
       by_cases c7 : ((rd_T98 l0 x5_1).f2) = (wrap64 ((wrap64 (x1_1 + 1)) + 1))
       ·rw [if_pos c7] at H
        have c7b0 : (((rd_T98 l0 x5_1).f2) == (wrap64 ((wrap64 (x1_1 + 1)) + 1))) = true := beq_iff_eq.mpr c7
        have c7b1 : (((rd_T98 l0 x5_1).f2) != (wrap64 ((wrap64 (x1_1 + 1)) + 1))) = false := bne_eq_false_iff_eq.mpr c7
        clear c7
        by_cases c8 : (((rd_T98 l0 x5_1).f3) != ((Int.tmod (wrap64 ((wrap64 ((wrap64 (x1_1 + 1)) + 1)) + 1)) 3) == 0)) = true
        ·rw [if_pos c8] at H
         have c8b0 : (((rd_T98 l0 x5_1).f3) != ((Int.tmod (wrap64 ((wrap64 ((wrap64 (x1_1 + 1)) + 1)) + 1)) 3) == 0)) = true := c8
         (try (have c8b1 : decide (((rd_T98 l0 x5_1).f3) = ((Int.tmod (wrap64 ((wrap64 ((wrap64 (x1_1 + 1)) + 1)) + 1)) 3) == 0)) = false := by simpa using c8))
         (try (have c8b2 : (((rd_T98 l0 x5_1).f3) == ((Int.tmod (wrap64 ((wrap64 ((wrap64 (x1_1 + 1)) + 1)) + 1)) 3) == 0)) = false := by simpa using c8))
         (try (have c8b3 : ¬ (((rd_T98 l0 x5_1).f3) = ((Int.tmod (wrap64 ((wrap64 ((wrap64 (x1_1 + 1)) + 1)) + 1)) 3) == 0)) := by simpa using c8))
         clear c8
         obtain rfl := Option.some.inj H
         have p425 : 0 ≤ (x5_1 : Int) := of_decide_eq_true asm
         have q425 : x5_1 < (l0.length : Int) := of_decide_eq_true asm
         obtain ⟨ad425, e425, hx425_0, hx425_1, hx425_2, hx425_3⟩ := at_T98 HR0.out x5_1 p425 q425
         cases e425
         replace p425 := eq_true p425
         replace q425 := eq_true q425
         have p426 : 0 ≤ (x5_1 : Int) := of_decide_eq_true asm
         have q426 : x5_1 < (l0.length : Int) := of_decide_eq_true asm
         obtain ⟨ad426, e426, hx426_0, hx426_1, hx426_2, hx426_3⟩ := at_T98 HR0.out x5_1 p426 q426
         obtain rfl : ad425 = ad426 := (by injection e426)
         replace p426 := eq_true p426
         replace q426 := eq_true q426
         have p427 : 0 ≤ (x5_1 : Int) := of_decide_eq_true asm
         have q427 : x5_1 < (l0.length : Int) := of_decide_eq_true asm
         obtain ⟨ad427, e427, hx427_0, hx427_1, hx427_2, hx427_3⟩ := at_T98 HR0.out x5_1 p427 q427
         obtain rfl : ad425 = ad427 := (by injection e427)
         replace p427 := eq_true p427
         replace q427 := eq_true q427
         have p428 : 0 ≤ (x5_1 : Int) := of_decide_eq_true asm
         have q428 : x5_1 < (l0.length : Int) := of_decide_eq_true asm
         obtain ⟨ad428, e428, hx428_0, hx428_1, hx428_2, hx428_3⟩ := at_T98 HR0.out x5_1 p428 q428
         obtain rfl : ad425 = ad428 := (by injection e428)
         replace p428 := eq_true p428
         replace q428 := eq_true q428
         go_wp2
         go_ret
         exact ⟨by first | rfl | (simp; done) | (simp [*]; done), by repeat (first | exact Drawn0.refl _ | apply Drawn0.step)⟩
        ·rw [if_neg c8] at H
         have c8b0 : (((rd_T98 l0 x5_1).f3) != ((Int.tmod (wrap64 ((wrap64 ((wrap64 (x1_1 + 1)) + 1)) + 1)) 3) == 0)) = false := by simpa using c8
         (try (have c8b1 : decide (((rd_T98 l0 x5_1).f3) = ((Int.tmod (wrap64 ((wrap64 ((wrap64 (x1_1 + 1)) + 1)) + 1)) 3) == 0)) = true := by simpa using c8))
         (try (have c8b2 : (((rd_T98 l0 x5_1).f3) == ((Int.tmod (wrap64 ((wrap64 ((wrap64 (x1_1 + 1)) + 1)) + 1)) 3) == 0)) = true := by simpa using c8))
         clear c8
         have H' := Aside0.mk H
         clear H
         have p425 : 0 ≤ (x5_1 : Int) := of_decide_eq_true asm
         have q425 : x5_1 < (l0.length : Int) := of_decide_eq_true asm
         obtain ⟨ad425, e425, hx425_0, hx425_1, hx425_2, hx425_3⟩ := at_T98 HR0.out x5_1 p425 q425
         cases e425
         replace p425 := eq_true p425
         replace q425 := eq_true q425
         have p426 : 0 ≤ (x5_1 : Int) := of_decide_eq_true asm
         have q426 : x5_1 < (l0.length : Int) := of_decide_eq_true asm
         obtain ⟨ad426, e426, hx426_0, hx426_1, hx426_2, hx426_3⟩ := at_T98 HR0.out x5_1 p426 q426
         obtain rfl : ad425 = ad426 := (by injection e426)
         replace p426 := eq_true p426
         replace q426 := eq_true q426
         have p427 : 0 ≤ (x5_1 : Int) := of_decide_eq_true asm
         have q427 : x5_1 < (l0.length : Int) := of_decide_eq_true asm
         obtain ⟨ad427, e427, hx427_0, hx427_1, hx427_2, hx427_3⟩ := at_T98 HR0.out x5_1 p427 q427
         obtain rfl : ad425 = ad427 := (by injection e427)
         replace p427 := eq_true p427
         replace q427 := eq_true q427
         have p428 : 0 ≤ (x5_1 : Int) := of_decide_eq_true asm
         have q428 : x5_1 < (l0.length : Int) := of_decide_eq_true asm
         obtain ⟨ad428, e428, hx428_0, hx428_1, hx428_2, hx428_3⟩ := at_T98 HR0.out x5_1 p428 q428
         obtain rfl : ad425 = ad428 := (by injection e428)
         replace p428 := eq_true p428
         replace q428 := eq_true q428
         go_wp2
         go_roundg k1
         case measure => have := HK1.out; omega
         case rel => exact ⟨(wrap64 ((wrap64 ((wrap64 ((wrap64 (x1_1 + 1)) + 1)) + 1)) + 1)), (wrap64 (x5_1 + 1)), (by first | rfl | (simp; done) | (simp [*]; done)), (by first | rfl | (simp; done) | (simp [*]; done)), H', ⟨by have := HK1.out; omega⟩, by repeat (first | exact Drawn0.refl _ | apply Drawn0.step)⟩
       ·rw [if_neg c7] at H
        have c7b0 : (((rd_T98 l0 x5_1).f2) == (wrap64 ((wrap64 (x1_1 + 1)) + 1))) = false := beq_eq_false_iff_ne.mpr c7
        have c7b1 : (((rd_T98 l0 x5_1).f2) != (wrap64 ((wrap64 (x1_1 + 1)) + 1))) = true := bne_iff_ne.mpr c7
        obtain rfl := Option.some.inj H
        have p425 : 0 ≤ (x5_1 : Int) := of_decide_eq_true asm
        have q425 : x5_1 < (l0.length : Int) := of_decide_eq_true asm
        obtain ⟨ad425, e425, hx425_0, hx425_1, hx425_2, hx425_3⟩ := at_T98 HR0.out x5_1 p425 q425
        cases e425
        replace p425 := eq_true p425
        replace q425 := eq_true q425
        have p426 : 0 ≤ (x5_1 : Int) := of_decide_eq_true asm
        have q426 : x5_1 < (l0.length : Int) := of_decide_eq_true asm
        obtain ⟨ad426, e426, hx426_0, hx426_1, hx426_2, hx426_3⟩ := at_T98 HR0.out x5_1 p426 q426
        obtain rfl : ad425 = ad426 := (by injection e426)
        replace p426 := eq_true p426
        replace q426 := eq_true q426
        have p427 : 0 ≤ (x5_1 : Int) := of_decide_eq_true asm
        have q427 : x5_1 < (l0.length : Int) := of_decide_eq_true asm
        obtain ⟨ad427, e427, hx427_0, hx427_1, hx427_2, hx427_3⟩ := at_T98 HR0.out x5_1 p427 q427
        obtain rfl : ad425 = ad427 := (by injection e427)
        replace p427 := eq_true p427
        replace q427 := eq_true q427
        go_wp2
        go_ret
        exact ⟨by first | rfl | (simp; done) | (simp [*]; done), by repeat (first | exact Drawn0.refl _ | apply Drawn0.step)⟩
      ·rw [if_neg c6] at H
       have c6b0 : (((rd_T98 l0 x5_1).f1) == (wrap64 (x1_1 + 1))) = false := beq_eq_false_iff_ne.mpr c6
       have c6b1 : (((rd_T98 l0 x5_1).f1) != (wrap64 (x1_1 + 1))) = true := bne_iff_ne.mpr c6
       obtain rfl := Option.some.inj H
       have p425 : 0 ≤ (x5_1 : Int) := of_decide_eq_true asm
       have q425 : x5_1 < (l0.length : Int) := of_decide_eq_true asm
       obtain ⟨ad425, e425, hx425_0, hx425_1, hx425_2, hx425_3⟩ := at_T98 HR0.out x5_1 p425 q425
       cases e425
       replace p425 := eq_true p425
       replace q425 := eq_true q425
       have p426 : 0 ≤ (x5_1 : Int) := of_decide_eq_true asm
       have q426 : x5_1 < (l0.length : Int) := of_decide_eq_true asm
       obtain ⟨ad426, e426, hx426_0, hx426_1, hx426_2, hx426_3⟩ := at_T98 HR0.out x5_1 p426 q426
       obtain rfl : ad425 = ad426 := (by injection e426)
       replace p426 := eq_true p426
       replace q426 := eq_true q426
       go_wp2
       go_ret
       exact ⟨by first | rfl | (simp; done) | (simp [*]; done), by repeat (first | exact Drawn0.refl _ | apply Drawn0.step)⟩
     ·rw [if_neg c5] at H
      have c5b0 : (((rd_T98 l0 x5_1).f0) == x1_1) = false := beq_eq_false_iff_ne.mpr c5
      have c5b1 : (((rd_T98 l0 x5_1).f0) != x1_1) = true := bne_iff_ne.mpr c5
      obtain rfl := Option.some.inj H
      have p425 : 0 ≤ (x5_1 : Int) := of_decide_eq_true asm
      have q425 : x5_1 < (l0.length : Int) := of_decide_eq_true asm
      obtain ⟨ad425, e425, hx425_0, hx425_1, hx425_2, hx425_3⟩ := at_T98 HR0.out x5_1 p425 q425
      cases e425
      replace p425 := eq_true p425
      replace q425 := eq_true q425
      go_wp2
      go_ret
      exact ⟨by first | rfl | (simp; done) | (simp [*]; done), by repeat (first | exact Drawn0.refl _ | apply Drawn0.step)⟩
    ·rw [if_neg c4] at H
     exact absurd H (by simp)
   ·rw [if_neg c3] at H
    have c3b0 : decide (x5_1 < (l0.length : Int)) = false := decide_eq_false c3
    clear c3
    obtain rfl := Option.some.inj H
    go_wp2
    go_ret
    exact ⟨by first | rfl | (simp; done) | (simp [*]; done), by repeat (first | exact Drawn0.refl _ | apply Drawn0.step)⟩
end Go.Proofs.Ytbpjidekjogfeaa.A
