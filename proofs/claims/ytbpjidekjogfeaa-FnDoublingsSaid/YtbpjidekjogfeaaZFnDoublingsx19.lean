/- Used by the law FnDoublings. -/
import Derived.Test.YtbpjidekjogfeaaZFnDoublingsx16
import Derived.Test.YtbpjidekjogfeaaZFnDoublingsx17
import Derived.Test.YtbpjidekjogfeaaZFnDoublingsx18
import Derived.Test.YtbpjidekjogfeaaZFnDoublingsh
namespace Go.Proofs.Ytbpjidekjogfeaa.A
open Go.RowKit Go.Proofs.YtbpjidekjogfeaaW.PrintWords Go.Proofs.YtbpjidekjogfeaaW.PrintLast Go.Proofs.YtbpjidekjogfeaaW.PrintMore
attribute [local go_sem] max2_int min2_int max_two min_two max_three min_three max_four min_four   
set_option linter.unusedVariables false
set_option linter.unusedSimpArgs false
def spec_l02Copy.f (a0_0 : Int) (l0_1 : List Int) (l0_2 : List (S98)) : Option (Int × List Int × (List (S98))) := (some (([] : List Int) : List Int)).bind fun y287 => (if y287.length + l0_1.length < 17592186044416 then ((some (([] : List (S98)) : List (S98))).bind fun y293 => (if y293.length + l0_2.length < 4398046511104 then (some (a0_0, (y287 ++ l0_1), (y293 ++ l0_2))) else (none))) else (none))
def spec_l02Copy.T1 : Bool × List (List Nat × List Nat) := (true, [([], []), ([0], [0]), ([], []), ([], []), ([3], [3]), ([2, 4], [2, 4]), ([], []), ([], []), ([7], [7]), ([6, 8, 5], [6, 8]), ([1, 5, 9], [1, 5, 9]), ([10, 9, 0, 1, 2, 3, 4, 5, 6, 7, 8, 9, 10], [10])])
def spec_l02Copy.B1 : List Nat := [0, 1, 0, 0, 8, 28, 0, 0, 128, 508, 1023, 2047]
theorem spec_l02Copy.tab1 : rtab .any (opsOf Try.f86 1) = spec_l02Copy.T1 := by kernel_rfl
theorem spec_l02Copy.bits1 : waitsOk spec_l02Copy.T1.2 spec_l02Copy.B1 = true := by kernel_rfl
set_option maxHeartbeats 8000000 in
set_option maxRecDepth 100000 in
theorem spec_l02Copy.calls (a0_0 : Int) (A0_1 : Option Addr) (c0_1 : Nat) (l0_1 : List Int) (A0_2 : Option Addr) (c0_2 : Nat) (l0_2 : List (S98)) (r1 : Int) (r2 : List Int) (r3 : List (S98)) (w : World) (hr0_1 : Kd.C (Kd.int .i64) w A0_1 l0_1.length l0_1) (hc0_1 : l0_1.length ≤ c0_1) (hr0_2 : Kd.C k98 w A0_2 l0_2.length l0_2) (hc0_2 : l0_2.length ≤ c0_2) (h : spec_l02Copy.f a0_0 l0_1 l0_2 = some (r1, r2, r3)) :
  Calls Try.prog 86 #[.agg #[.int .i64 a0_0, .slice A0_1 l0_1.length c0_1, .slice A0_2 l0_2.length c0_2]] w fun e w' => ∃ v1_ v2_ : Value, e = .returned (.agg #[.int .i64 r1, v1_, v2_]) ∧ Kd.R (Kd.int .i64) 3 w' w.heap.size (fun _ => True) v1_ r2 ∧ Kd.R k98 98 w' w.heap.size (fun _ => True) v2_ r3 ∧ Below w.heap.size w w' := by
 have hu41 := Try.underlying41
 have HR0_1 := Aside0.mk hr0_1
 have HC0_1 := Aside0.mk hc0_1
 clear hr0_1 hc0_1
 have HR0_2 := Aside0.mk hr0_2
 have HC0_2 := Aside0.mk hc0_2
 clear hr0_2 hc0_2
 have HB := Aside0.mk (Below.refl w.heap.size w)
 have H : ((some (([] : List Int) : List Int)).bind fun y287 => (if y287.length + l0_1.length < 17592186044416 then ((some (([] : List (S98)) : List (S98))).bind fun y293 => (if y293.length + l0_2.length < 4398046511104 then (some (a0_0, (y287 ++ l0_1), (y293 ++ l0_2))) else (none))) else (none))) = some (r1, r2, r3) := h
 clear h
 obtain ⟨y287, hy287⟩ : ∃ y_ : List Int, y_ = (([] : List Int)) := ⟨_, rfl⟩
 replace H : (if y287.length + l0_1.length < 17592186044416 then ((some (([] : List (S98)) : List (S98))).bind fun y293 => (if y293.length + l0_2.length < 4398046511104 then (some (a0_0, (y287 ++ l0_1), (y293 ++ l0_2))) else (none))) else (none)) = some (r1, r2, r3) := by first | (rw [hy287]; with_reducible exact H) | (have H2_ := (Option.bind_some _ _).symm.trans H; rw [hy287]; with_reducible exact H2_) | (have H2_ := (Option.bind_some _ _).symm.trans H; with_reducible exact H2_) | with_reducible exact H | (rw [hy287]; exact H) | exact H
 have Ny287 := Aside0.mk hy287
 clear hy287
 by_cases c2 : y287.length + l0_1.length < 17592186044416
 ·rw [if_pos c2] at H
  have LMc2 := Aside0.mk c2
  clear c2
  obtain ⟨y290, hy290⟩ : ∃ y_ : List Int, y_ = (y287 ++ l0_1) := ⟨_, rfl⟩
  replace H : ((some (([] : List (S98)) : List (S98))).bind fun y293 => (if y293.length + l0_2.length < 4398046511104 then (some (a0_0, y290, (y293 ++ l0_2))) else (none))) = some (r1, r2, r3) := by first | (rw [hy290]; with_reducible exact H) | (have H2_ := (Option.bind_some _ _).symm.trans H; rw [hy290]; with_reducible exact H2_) | (have H2_ := (Option.bind_some _ _).symm.trans H; with_reducible exact H2_) | with_reducible exact H | (rw [hy290]; exact H) | exact H
  have Ny290 := Aside0.mk hy290
  clear hy290
  obtain ⟨y293, hy293⟩ : ∃ y_ : List (S98), y_ = (([] : List (S98))) := ⟨_, rfl⟩
  replace H : (if y293.length + l0_2.length < 4398046511104 then (some (a0_0, y290, (y293 ++ l0_2))) else (none)) = some (r1, r2, r3) := by first | (rw [hy293]; with_reducible exact H) | (have H2_ := (Option.bind_some _ _).symm.trans H; rw [hy293]; with_reducible exact H2_) | (have H2_ := (Option.bind_some _ _).symm.trans H; with_reducible exact H2_) | with_reducible exact H | (rw [hy293]; exact H) | exact H
  have Ny293 := Aside0.mk hy293
  clear hy293
  by_cases c3 : y293.length + l0_2.length < 4398046511104
  ·rw [if_pos c3] at H
   have LMc3 := Aside0.mk c3
   clear c3
   obtain ⟨y296, hy296⟩ : ∃ y_ : List (S98), y_ = (y293 ++ l0_2) := ⟨_, rfl⟩
   replace H : (some (a0_0, y290, y296)) = some (r1, r2, r3) := by first | (rw [hy296]; with_reducible exact H) | (have H2_ := (Option.bind_some _ _).symm.trans H; rw [hy296]; with_reducible exact H2_) | (have H2_ := (Option.bind_some _ _).symm.trans H; with_reducible exact H2_) | with_reducible exact H | (rw [hy296]; exact H) | exact H
   have Ny296 := Aside0.mk hy296
   clear hy296
   simp only [Option.some.injEq, Prod.mk.injEq] at H
   obtain ⟨rfl, rfl, rfl⟩ := H
   go_enter Try.func86, Try.ntmps86
   try go_wp2_with (first | ((with_reducible refine gate_dst (N := 1) rfl ?_); refine bx (cs := #[.int .i64 a0_0, .slice A0_1 l0_1.length c0_1, .slice A0_2 l0_2.length c0_2]) (t := 41) fun gb285 hg w4 hbox hb => ?_; have BK285 := Aside0.mk (hbox); have GW285 := Aside0.mk (gs HB.out hg); have GE285 := Aside0.mk (gs HB.out hg); replace HB := Aside0.mk (below_step (bl HB.out) hb); clear hb hbox hg) | ((with_reducible refine gate_dst (N := 2) rfl ?_); refine bx (cs := #[.int .i64 0, .slice none 0 0, .slice none 0 0]) (t := 41) fun gb286 hg w5 hbox hb => ?_; have BK286 := Aside0.mk (hbox); have GW286 := Aside0.mk (gs HB.out hg); have GE286 := Aside0.mk (gs HB.out hg); replace HB := Aside0.mk (below_step (bl HB.out) hb); have NB285_286 := Aside0.mk ((nl BK285.out hg)); have NB286_285 := Aside0.mk ((ng BK285.out hg)); replace BK285 := Aside0.mk (bb BK285.out hb); clear hb hbox hg))
   replace BK285 := Aside0.mk (blk_drew BK285.out)
   replace BK286 := Aside0.mk (blk_drew BK286.out)
   replace HB := Aside0.mk (below_drew1 HB.out)
   refine start_ (n := 12) (S := fun w' => w'.cell? ⟨gb285, 0, none⟩ = some (.int .i64 a0_0) ∧ w'.cell? ⟨gb285, 1, none⟩ = some (.slice A0_1 l0_1.length c0_1) ∧ w'.cell? ⟨gb285, 2, none⟩ = some (.slice A0_2 l0_2.length c0_2)) (ds := []) #[false, false, false, false, false, false, false, false, false, false, false, false] (by kernel_rfl) rfl rfl ⟨(blk_cell BK285.out 0).trans rfl, (blk_cell BK285.out 1).trans rfl, (blk_cell BK285.out 2).trans rfl⟩ (fun hHeld => ?_); refine with_tabW spec_l02Copy.tab1 spec_l02Copy.bits1 (fun HT_ HW_ => ?_)
   generalize w5.drew = w6 at BK285 BK286 HB hHeld ⊢
   refine puA (i := 0) (N := some 3) HT_.out ?_
   refine puA (i := 3) (N := some 6) HT_.out ?_
   refine puA (i := 7) (N := some 10) HT_.out ?_
   refine tkA3 (i := 1) (N := some 4) HT_.out HW_.out hHeld ?_
   refine tkA3 (i := 4) (N := some 7) HT_.out HW_.out hHeld ?_
   refine tkA3 (i := 8) (N := some 11) HT_.out HW_.out hHeld ?_
   refine join_ (σ := Value × Value × Value) 3 #[true, true, true, true, true, true, true, true, true, false, false, false] (fun s_ => [(5, s_.1), (8, s_.2.1), (9, s_.2.2)]) (fun s_ w' => (w'.cell? ⟨gb285, 0, none⟩ = some (.int .i64 a0_0) ∧ w'.cell? ⟨gb285, 1, none⟩ = some (.slice A0_1 l0_1.length c0_1) ∧ w'.cell? ⟨gb285, 2, none⟩ = some (.slice A0_2 l0_2.length c0_2)) ∧ (Kd.R (Kd.int .i64) 3 w' w.heap.size (fun _ => True) s_.2.1 y290) ∧ (Kd.R k98 98 w' w.heap.size (fun _ => True) s_.2.2 y293) ∧ (w'.heap[gb285]? = some (.cells #[.int .i64 a0_0, .slice A0_1 l0_1.length c0_1, .slice A0_2 l0_2.length c0_2] 41 (0, 0))) ∧ (w'.heap[gb286]? = some (.cells #[.int .i64 0, .slice none 0 0, .slice none 0 0] 41 (0, 0))) ∧ (Below w.heap.size w w')) ?_ ?_
   rotate_left
   ·intro hCont
    refine two_ (i := 2) (j := 6) (Ni := some 5) (Nj := some 9) #[true, true, true, true, true, false, false, true, true, false, false, false] #[true, true, false, true, true, false, true, true, true, false, false, false] rfl rfl rfl rfl (two_of HT_.out (by kernel_rfl)) (by decide) (by decide) (fun K hK => ?_) (fun K hK => ?_)
    ·skip
     refine Kd.R_lit_step (Kd.int .i64) _ 3 ?hg (N := 5) ?hd (xs := ([] : List Int)) (inner := []) (ok := fun _ => True) (okp := fun _ => True) ?hr ?hp (fun _ hk => hk) trivial (Below.refl _ _) (Nat.le_refl _) (by simp) ?_; (case hd => rfl); (case hg => rfl); (case hr => first | (go_simp; done) | (go_simp; rfl)); (case hp => exact (Reps.none _ _))
     intro v288 w7 ho8 hb hg_ hnew_
     clear hg_ hnew_
     (first | rw [← Ny287.out] at ho8 | (simp only [Int.reduceToNat] at ho8; rw [← Ny287.out] at ho8))
     have HO289 := Aside0.mk (Kd.R_lower ho8 (below_size (bl HB.out)))
     replace BK285 := Aside0.mk (bb BK285.out hb)
     replace BK286 := Aside0.mk (bb BK286.out hb)
     replace HB := Aside0.mk (below_step (bl HB.out) hb)
     clear hb ho8
     refine hK.out _ _ ⟨(blk_cell BK285.out 0).trans rfl, (blk_cell BK285.out 1).trans rfl, (blk_cell BK285.out 2).trans rfl⟩ (fun hHeld => ?_)
     clear hK K
     refine norm_ (a' := ?_) ?_ ?_
     rotate_left
     ·show Act.put _ (some 5) _ = _
      simp only [Act.put, List.setIfInBounds_toArray, List.set_cons_zero, List.set_cons_succ, i64_w, i32_w]
      rfl
     refine two_ (i := 5) (j := 6) (Ni := some 8) (Nj := some 9) #[true, true, true, true, true, true, false, true, true, false, false, false] #[true, true, true, true, true, false, true, true, true, false, false, false] rfl rfl rfl rfl (two_of HT_.out (by kernel_rfl)) (by decide) (by decide) (fun K hK => ?_) (fun K hK => ?_)
     ·skip
      refine Kd.R_append_rows_step (Kd.int .i64) (w0 := w) w.heap.size (by rfl) (.tmp 5) (.tmp 7) 38 3 (.int .i64 0) 8 rfl Try.underlying38 info3 rfl (by decide) (by omega) v288 y287 l0_1 _ _ _ (fun _ => True) (fun _ => False) rfl rfl ?aO ?aR (fun _ _ h => h) (fun _ h => h.elim) ?aF ?aB ?aS ?aL ?_
      (case aR => exact cb (Kd.C_below HR0_1.out HB.out))
      (case aB => exact (bl HB.out))
      (case aF => exact (fun _ _ => trivial))
      (case aO => exact (rk HO289.out))
      (case aS => exact (below_size (bl HB.out)))
      (case aL => have := LMc2.out; omega)
      intro v291 w9 ho hb hg hat
      rw [← Ny290.out] at ho
      replace BK285 := Aside0.mk (blk_grown (g := gb285) (o := .cells #[.int .i64 a0_0, .slice A0_1 l0_1.length c0_1, .slice A0_2 l0_2.length c0_2] 41 (0, 0)) (bk BK285.out) hg (Kd.R_ne HO289.out BK285.out (by decide)))
      replace BK286 := Aside0.mk (blk_grown (g := gb286) (o := .cells #[.int .i64 0, .slice none 0 0, .slice none 0 0] 41 (0, 0)) (bk BK286.out) hg (Kd.R_ne HO289.out BK286.out (by decide)))
      replace HB := Aside0.mk (hb)
      have HO292 := Aside0.mk (ho)
      clear HO289
      clear ho hb hg hat
      refine hK.out _ _ ⟨(blk_cell BK285.out 0).trans rfl, (blk_cell BK285.out 1).trans rfl, (blk_cell BK285.out 2).trans rfl⟩ (fun hHeld => ?_)
      clear hK K
      refine norm_ (a' := ?_) ?_ ?_
      rotate_left
      ·show Act.put _ (some 8) _ = _
       simp only [Act.put, List.setIfInBounds_toArray, List.set_cons_zero, List.set_cons_succ, i64_w, i32_w]
       rfl
      refine onA (i := 6) (N := some 9) HT_.out (fun K hK => ?_)
      refine Kd.R_lit_step k98 _ 98 ?hg (N := 9) ?hd (xs := ([] : List (S98))) (inner := []) (ok := fun _ => True) (okp := fun _ => True) ?hr ?hp (fun _ hk => hk) trivial (Below.refl _ _) (Nat.le_refl _) (by simp) ?_; (case hd => rfl); (case hg => rfl); (case hr => first | (go_simp; done) | (go_simp; rfl)); (case hp => exact (Reps.none _ _))
      intro v294 w10 ho11 hb hg_ hnew_
      clear hg_ hnew_
      (first | rw [← Ny293.out] at ho11 | (simp only [Int.reduceToNat] at ho11; rw [← Ny293.out] at ho11))
      replace HO292 := Aside0.mk (Kd.R_below (rk HO292.out) hb)
      have HO295 := Aside0.mk (Kd.R_lower ho11 (below_size (bl HB.out)))
      replace BK285 := Aside0.mk (bb BK285.out hb)
      replace BK286 := Aside0.mk (bb BK286.out hb)
      replace HB := Aside0.mk (below_step (bl HB.out) hb)
      clear hb ho11
      refine hK.out _ _ ⟨(blk_cell BK285.out 0).trans rfl, (blk_cell BK285.out 1).trans rfl, (blk_cell BK285.out 2).trans rfl⟩ (fun hHeld => ?_)
      clear hK K
      refine norm_ (a' := ?_) ?_ ?_
      rotate_left
      ·show Act.put _ (some 9) _ = _
       simp only [Act.put, List.setIfInBounds_toArray, List.set_cons_zero, List.set_cons_succ, i64_w, i32_w]
       rfl
      exact norm_ (by simp only [putAll, Act.put, List.setIfInBounds_toArray, List.set_cons_zero, List.set_cons_succ]) (hCont (v288, v291, v294) _ ⟨hHeld, (rk HO292.out), (rk HO295.out), (bk BK285.out), (bk BK286.out), (bl HB.out)⟩)
     ·skip
      refine Kd.R_lit_step k98 _ 98 ?hg (N := 9) ?hd (xs := ([] : List (S98))) (inner := []) (ok := fun _ => True) (okp := fun _ => True) ?hr ?hp (fun _ hk => hk) trivial (Below.refl _ _) (Nat.le_refl _) (by simp) ?_; (case hd => rfl); (case hg => rfl); (case hr => first | (go_simp; done) | (go_simp; rfl)); (case hp => exact (Reps.none _ _))
      intro v294 w9 ho10 hb hg_ hnew_
      clear hg_ hnew_
      (first | rw [← Ny293.out] at ho10 | (simp only [Int.reduceToNat] at ho10; rw [← Ny293.out] at ho10))
      replace HO289 := Aside0.mk (Kd.R_below (rk HO289.out) hb)
      have HO295 := Aside0.mk (Kd.R_lower ho10 (below_size (bl HB.out)))
      replace BK285 := Aside0.mk (bb BK285.out hb)
      replace BK286 := Aside0.mk (bb BK286.out hb)
      replace HB := Aside0.mk (below_step (bl HB.out) hb)
      clear hb ho10
      refine hK.out _ _ ⟨(blk_cell BK285.out 0).trans rfl, (blk_cell BK285.out 1).trans rfl, (blk_cell BK285.out 2).trans rfl⟩ (fun hHeld => ?_)
      clear hK K
      refine norm_ (a' := ?_) ?_ ?_
      rotate_left
      ·show Act.put _ (some 9) _ = _
       simp only [Act.put, List.setIfInBounds_toArray, List.set_cons_zero, List.set_cons_succ, i64_w, i32_w]
       rfl
      refine onA (i := 5) (N := some 8) HT_.out (fun K hK => ?_)
      refine Kd.R_append_rows_step (Kd.int .i64) (w0 := w) w.heap.size (by rfl) (.tmp 5) (.tmp 7) 38 3 (.int .i64 0) 8 rfl Try.underlying38 info3 rfl (by decide) (by omega) v288 y287 l0_1 _ _ _ (fun _ => True) (fun _ => False) rfl rfl ?aO ?aR (fun _ _ h => h) (fun _ h => h.elim) ?aF ?aB ?aS ?aL ?_
      (case aR => exact cb (Kd.C_below HR0_1.out HB.out))
      (case aB => exact (bl HB.out))
      (case aF => exact (fun _ _ => trivial))
      (case aO => exact (rk HO289.out))
      (case aS => exact (below_size (bl HB.out)))
      (case aL => have := LMc2.out; omega)
      intro v291 w11 ho hb hg hat
      rw [← Ny290.out] at ho
      replace BK285 := Aside0.mk (blk_grown (g := gb285) (o := .cells #[.int .i64 a0_0, .slice A0_1 l0_1.length c0_1, .slice A0_2 l0_2.length c0_2] 41 (0, 0)) (bk BK285.out) hg (Kd.R_ne HO289.out BK285.out (by decide)))
      replace BK286 := Aside0.mk (blk_grown (g := gb286) (o := .cells #[.int .i64 0, .slice none 0 0, .slice none 0 0] 41 (0, 0)) (bk BK286.out) hg (Kd.R_ne HO289.out BK286.out (by decide)))
      replace HO295 := Aside0.mk (Kd.R_over' (rk HO295.out) (Kd.R_typed (rk HO289.out)) (by decide) hg)
      replace HB := Aside0.mk (hb)
      have HO292 := Aside0.mk (ho)
      clear HO289
      clear ho hb hg hat
      refine hK.out _ _ ⟨(blk_cell BK285.out 0).trans rfl, (blk_cell BK285.out 1).trans rfl, (blk_cell BK285.out 2).trans rfl⟩ (fun hHeld => ?_)
      clear hK K
      refine norm_ (a' := ?_) ?_ ?_
      rotate_left
      ·show Act.put _ (some 8) _ = _
       simp only [Act.put, List.setIfInBounds_toArray, List.set_cons_zero, List.set_cons_succ, i64_w, i32_w]
       rfl
      exact norm_ (by simp only [putAll, Act.put, List.setIfInBounds_toArray, List.set_cons_zero, List.set_cons_succ]) (hCont (v288, v291, v294) _ ⟨hHeld, (rk HO292.out), (rk HO295.out), (bk BK285.out), (bk BK286.out), (bl HB.out)⟩)
    ·skip
     refine Kd.R_lit_step k98 _ 98 ?hg (N := 9) ?hd (xs := ([] : List (S98))) (inner := []) (ok := fun _ => True) (okp := fun _ => True) ?hr ?hp (fun _ hk => hk) trivial (Below.refl _ _) (Nat.le_refl _) (by simp) ?_; (case hd => rfl); (case hg => rfl); (case hr => first | (go_simp; done) | (go_simp; rfl)); (case hp => exact (Reps.none _ _))
     intro v294 w7 ho8 hb hg_ hnew_
     clear hg_ hnew_
     (first | rw [← Ny293.out] at ho8 | (simp only [Int.reduceToNat] at ho8; rw [← Ny293.out] at ho8))
     have HO295 := Aside0.mk (Kd.R_lower ho8 (below_size (bl HB.out)))
     replace BK285 := Aside0.mk (bb BK285.out hb)
     replace BK286 := Aside0.mk (bb BK286.out hb)
     replace HB := Aside0.mk (below_step (bl HB.out) hb)
     clear hb ho8
     refine hK.out _ _ ⟨(blk_cell BK285.out 0).trans rfl, (blk_cell BK285.out 1).trans rfl, (blk_cell BK285.out 2).trans rfl⟩ (fun hHeld => ?_)
     clear hK K
     refine norm_ (a' := ?_) ?_ ?_
     rotate_left
     ·show Act.put _ (some 9) _ = _
      simp only [Act.put, List.setIfInBounds_toArray, List.set_cons_zero, List.set_cons_succ, i64_w, i32_w]
      rfl
     refine onA (i := 2) (N := some 5) HT_.out (fun K hK => ?_)
     refine Kd.R_lit_step (Kd.int .i64) _ 3 ?hg (N := 5) ?hd (xs := ([] : List Int)) (inner := []) (ok := fun _ => True) (okp := fun _ => True) ?hr ?hp (fun _ hk => hk) trivial (Below.refl _ _) (Nat.le_refl _) (by simp) ?_; (case hd => rfl); (case hg => rfl); (case hr => first | (go_simp; done) | (go_simp; rfl)); (case hp => exact (Reps.none _ _))
     intro v288 w9 ho10 hb hg_ hnew_
     clear hg_ hnew_
     (first | rw [← Ny287.out] at ho10 | (simp only [Int.reduceToNat] at ho10; rw [← Ny287.out] at ho10))
     replace HO295 := Aside0.mk (Kd.R_below (rk HO295.out) hb)
     have HO289 := Aside0.mk (Kd.R_lower ho10 (below_size (bl HB.out)))
     replace BK285 := Aside0.mk (bb BK285.out hb)
     replace BK286 := Aside0.mk (bb BK286.out hb)
     replace HB := Aside0.mk (below_step (bl HB.out) hb)
     clear hb ho10
     refine hK.out _ _ ⟨(blk_cell BK285.out 0).trans rfl, (blk_cell BK285.out 1).trans rfl, (blk_cell BK285.out 2).trans rfl⟩ (fun hHeld => ?_)
     clear hK K
     refine norm_ (a' := ?_) ?_ ?_
     rotate_left
     ·show Act.put _ (some 5) _ = _
      simp only [Act.put, List.setIfInBounds_toArray, List.set_cons_zero, List.set_cons_succ, i64_w, i32_w]
      rfl
     refine onA (i := 5) (N := some 8) HT_.out (fun K hK => ?_)
     refine Kd.R_append_rows_step (Kd.int .i64) (w0 := w) w.heap.size (by rfl) (.tmp 5) (.tmp 7) 38 3 (.int .i64 0) 8 rfl Try.underlying38 info3 rfl (by decide) (by omega) v288 y287 l0_1 _ _ _ (fun _ => True) (fun _ => False) rfl rfl ?aO ?aR (fun _ _ h => h) (fun _ h => h.elim) ?aF ?aB ?aS ?aL ?_
     (case aR => exact cb (Kd.C_below HR0_1.out HB.out))
     (case aB => exact (bl HB.out))
     (case aF => exact (fun _ _ => trivial))
     (case aO => exact (rk HO289.out))
     (case aS => exact (below_size (bl HB.out)))
     (case aL => have := LMc2.out; omega)
     intro v291 w11 ho hb hg hat
     rw [← Ny290.out] at ho
     replace BK285 := Aside0.mk (blk_grown (g := gb285) (o := .cells #[.int .i64 a0_0, .slice A0_1 l0_1.length c0_1, .slice A0_2 l0_2.length c0_2] 41 (0, 0)) (bk BK285.out) hg (Kd.R_ne HO289.out BK285.out (by decide)))
     replace BK286 := Aside0.mk (blk_grown (g := gb286) (o := .cells #[.int .i64 0, .slice none 0 0, .slice none 0 0] 41 (0, 0)) (bk BK286.out) hg (Kd.R_ne HO289.out BK286.out (by decide)))
     replace HO295 := Aside0.mk (Kd.R_over' (rk HO295.out) (Kd.R_typed (rk HO289.out)) (by decide) hg)
     replace HB := Aside0.mk (hb)
     have HO292 := Aside0.mk (ho)
     clear HO289
     clear ho hb hg hat
     refine hK.out _ _ ⟨(blk_cell BK285.out 0).trans rfl, (blk_cell BK285.out 1).trans rfl, (blk_cell BK285.out 2).trans rfl⟩ (fun hHeld => ?_)
     clear hK K
     refine norm_ (a' := ?_) ?_ ?_
     rotate_left
     ·show Act.put _ (some 8) _ = _
      simp only [Act.put, List.setIfInBounds_toArray, List.set_cons_zero, List.set_cons_succ, i64_w, i32_w]
      rfl
     exact norm_ (by simp only [putAll, Act.put, List.setIfInBounds_toArray, List.set_cons_zero, List.set_cons_succ]) (hCont (v288, v291, v294) _ ⟨hHeld, (rk HO292.out), (rk HO295.out), (bk BK285.out), (bk BK286.out), (bl HB.out)⟩)
   rintro ⟨v288, v291, v294⟩ w12 ⟨hS_, h0_, h1_, h2_, h3_, h4_⟩
   have n0_ : Aside0 (Kd.R (Kd.int .i64) 3 w12 w.heap.size (fun _ => True) v291 y290) := ⟨h0_⟩
   have n1_ : Aside0 (Kd.R k98 98 w12 w.heap.size (fun _ => True) v294 y293) := ⟨h1_⟩
   have n2_ : Aside0 (w12.heap[gb285]? = some (.cells #[.int .i64 a0_0, .slice A0_1 l0_1.length c0_1, .slice A0_2 l0_2.length c0_2] 41 (0, 0))) := ⟨h2_⟩
   have n3_ : Aside0 (w12.heap[gb286]? = some (.cells #[.int .i64 0, .slice none 0 0, .slice none 0 0] 41 (0, 0))) := ⟨h3_⟩
   have n4_ : Aside0 (Below w.heap.size w w12) := ⟨h4_⟩
   clear BK285
   clear BK286
   clear HB
   clear h0_ h1_ h2_ h3_ h4_
   have HO292 := n0_
   have HO295 := n1_
   have BK285 := n2_
   have BK286 := n3_
   have HB := n4_
   clear n0_ n1_ n2_ n3_ n4_
   have hHeld : w12.cell? ⟨gb285, 0, none⟩ = some (.int .i64 a0_0) ∧ w12.cell? ⟨gb285, 1, none⟩ = some (.slice A0_1 l0_1.length c0_1) ∧ w12.cell? ⟨gb285, 2, none⟩ = some (.slice A0_2 l0_2.length c0_2) := hS_
   refine norm_ (a' := ?_) ?_ ?_
   rotate_left
   ·simp only [putAll, Act.put, List.setIfInBounds_toArray, List.set_cons_zero, List.set_cons_succ]
    rfl
   refine onA (i := 9) (N := some 12) HT_.out (fun K hK => ?_)
   refine Kd.R_append_rows_step k98 (w0 := w) w.heap.size (by rfl) (.tmp 9) (.tmp 11) 39 98 (.agg #[(.int .i64 0), (.int .i64 0), (.int .i64 0), (.bool false)]) 32 rfl Try.underlying39 info98 rfl (by decide) (by omega) v294 y293 l0_2 _ _ _ (fun _ => True) (fun _ => False) rfl rfl ?aO ?aR (fun _ _ h => h) (fun _ h => h.elim) ?aF ?aB ?aS ?aL ?_
   (case aR => exact cb (Kd.C_below HR0_2.out HB.out))
   (case aB => exact (bl HB.out))
   (case aF => exact (fun _ _ => trivial))
   (case aO => exact (rk HO295.out))
   (case aS => exact (below_size (bl HB.out)))
   (case aL => have := LMc3.out; omega)
   intro v297 w13 ho hb hg hat
   rw [← Ny296.out] at ho
   replace BK285 := Aside0.mk (blk_grown (g := gb285) (o := .cells #[.int .i64 a0_0, .slice A0_1 l0_1.length c0_1, .slice A0_2 l0_2.length c0_2] 41 (0, 0)) (bk BK285.out) hg (Kd.R_ne HO295.out BK285.out (by decide)))
   replace BK286 := Aside0.mk (blk_grown (g := gb286) (o := .cells #[.int .i64 0, .slice none 0 0, .slice none 0 0] 41 (0, 0)) (bk BK286.out) hg (Kd.R_ne HO295.out BK286.out (by decide)))
   replace HO292 := Aside0.mk (Kd.R_over' (rk HO292.out) (Kd.R_typed (rk HO295.out)) (by decide) hg)
   replace HB := Aside0.mk (hb)
   have HO298 := Aside0.mk (ho)
   clear HO295
   clear ho hb hg hat
   obtain ⟨Ao14, co14, eo14⟩ := Kd.R_slice HO298.out
   (first | subst eo14 | (injection eo14 with f1_ f2_ f3_; have f4_ := f1_.symm; have f5_ := f3_.symm; clear f1_ f2_ f3_; subst f4_; subst f5_))
   obtain ⟨Ao15, co15, eo15⟩ := Kd.R_slice HO292.out
   (first | subst eo15 | (injection eo15 with f1_ f2_ f3_; have f4_ := f1_.symm; have f5_ := f3_.symm; clear f1_ f2_ f3_; subst f4_; subst f5_))
   refine hK.out _ _ ⟨(blk_cell BK285.out 0).trans rfl, (blk_cell BK285.out 1).trans rfl, (blk_cell BK285.out 2).trans rfl⟩ (fun hHeld => ?_)
   clear hK K
   refine norm_ (a' := ?_) ?_ ?_
   rotate_left
   ·show Act.put _ (some 12) _ = _
    simp only [Act.put, List.setIfInBounds_toArray, List.set_cons_zero, List.set_cons_succ, i64_w, i32_w]
    rfl
   refine puA (i := 10) (N := some 13) HT_.out ?_
   refine onA (i := 11) (N := none) HT_.out (fun K hK => ?_)
   have hs16 : w13.cell? ⟨gb286, 0, none⟩ = some (.int .i64 0) := (blk_cell BK286.out 0).trans rfl
   have hfs16 := blk_frozen BK286.out 0
   have hns16_0 := NB285_286.out
   have hms16_0 := NB286_285.out
   have hs17 : w13.cell? ⟨gb286, 1, none⟩ = some (.slice none 0 0) := (blk_cell BK286.out 1).trans rfl
   have hfs17 := blk_frozen BK286.out 1
   have hns17_0 := NB285_286.out
   have hms17_0 := NB286_285.out
   have hs18 : w13.cell? ⟨gb286, 2, none⟩ = some (.slice none 0 0) := (blk_cell BK286.out 2).trans rfl
   have hfs18 := blk_frozen BK286.out 2
   have hns18_0 := NB285_286.out
   have hms18_0 := NB286_285.out
   refine skip_ (w1 := ?_) (by rfl) rfl ?_ ?_
   rotate_left
   ·go_simp
    rfl
   refine hK.out _ _ ⟨((cell_far (p := ⟨gb286, _, none⟩) NB285_286.out _).trans (((cell_far (p := ⟨gb286, _, none⟩) NB285_286.out _).trans (((cell_far (p := ⟨gb286, _, none⟩) NB285_286.out _).trans (hHeld.1)))))), ((cell_far (p := ⟨gb286, _, none⟩) NB285_286.out _).trans (((cell_far (p := ⟨gb286, _, none⟩) NB285_286.out _).trans (((cell_far (p := ⟨gb286, _, none⟩) NB285_286.out _).trans (hHeld.2.1)))))), ((cell_far (p := ⟨gb286, _, none⟩) NB285_286.out _).trans (((cell_far (p := ⟨gb286, _, none⟩) NB285_286.out _).trans (((cell_far (p := ⟨gb286, _, none⟩) NB285_286.out _).trans (hHeld.2.2))))))⟩ (fun hHeld => ?_)
   clear hK K
   refine done_ (done_of HT_.out (by kernel_rfl)) ?_
   try go_wp2
   refine bodyPost_ret (results_cell_row rfl _ _ gb286 41 #[.int .i64 a0_0, .slice Ao15 y290.length co15, .slice Ao14 y296.length co14] (0, 0) _ rfl (by refine bk ?_; refine blk_put (cs := #[.int .i64 a0_0, .slice Ao15 y290.length co15, .slice none 0 0]) ?_ 2 _ rfl; refine bk ?_; refine blk_put (cs := #[.int .i64 a0_0, .slice none 0 0, .slice none 0 0]) ?_ 1 _ rfl; refine bk ?_; refine blk_put (cs := #[.int .i64 0, .slice none 0 0, .slice none 0 0]) ?_ 0 _ rfl; refine bk ?_; exact BK286.out) Try.underlying41 rfl (by kernel_rfl)) rfl ?_
   exact ⟨_, _, by first | rfl | (simp [errW_none, errW_some] <;> rfl) | (simp [*, errW_none, errW_some] <;> rfl), by refine rk ?_; exact Kd.R_mono (Kd.R_far (p := ⟨gb286, 2, none⟩) (Kd.R_far (p := ⟨gb286, 1, none⟩) (Kd.R_far (p := ⟨gb286, 0, none⟩) (Kd.R_types HO292.out BK286.out (by decide)) (fun _ hk => hk.2) (.int .i64 a0_0)) (fun _ hk => hk.2) (.slice Ao15 y290.length co15)) (fun _ hk => hk.2) (.slice Ao14 y296.length co14)) (fun _ hk => trivial), by refine rk ?_; exact Kd.R_mono (Kd.R_far (p := ⟨gb286, 2, none⟩) (Kd.R_far (p := ⟨gb286, 1, none⟩) (Kd.R_far (p := ⟨gb286, 0, none⟩) (Kd.R_types HO298.out BK286.out (by decide)) (fun _ hk => hk.2) (.int .i64 a0_0)) (fun _ hk => hk.2) (.slice Ao15 y290.length co15)) (fun _ hk => hk.2) (.slice Ao14 y296.length co14)) (fun _ hk => trivial), bl HB.out⟩
  ·rw [if_neg c3] at H
   exact absurd H (by simp)
 ·rw [if_neg c2] at H
  exact absurd H (by simp)
end Go.Proofs.Ytbpjidekjogfeaa.A

namespace Go.Proofs.Ytbpjidekjogfeaa.A
open Go.RowKit Go.Proofs.YtbpjidekjogfeaaW.PrintWords Go.Proofs.YtbpjidekjogfeaaW.PrintLast Go.Proofs.YtbpjidekjogfeaaW.PrintMore
attribute [local go_sem] max2_int min2_int max_two min_two max_three min_three max_four min_four   
set_option linter.unusedVariables false
set_option linter.unusedSimpArgs false
def spec_TakeOut.f (k : Nat) (a0_0 : Int) (l0_1 : List Int) (l0_2 : List (S98)) (a1 : Int) : Option (Int × List Int × (List (S98)) × Bool) := (spec_l02Copy.f a0_0 l0_1 l0_2).bind fun bt321 => ((spec_l02Box.f k a0_0 l0_1 l0_2 a1).bind fun t329 => ((spec_ColumnOk.f k a0_0 l0_1 l0_2).bind fun t330 => (if t330 = true then (if t329 < 0 then (some (bt321.1, bt321.2.1, bt321.2.2, false)) else (if 0 ≤ t329 then (if t329 < (l0_2.length : Int) then (if (rd_T98 l0_2 t329).f3 = true then (some (bt321.1, bt321.2.1, bt321.2.2, false)) else (if t329 < (bt321.2.2.length : Int) then (some (bt321.1, bt321.2.1, (bt321.2.2.set (t329 : Int).toNat (⟨(rd_T98 bt321.2.2 t329).f0, (rd_T98 bt321.2.2 t329).f1, 0, (rd_T98 bt321.2.2 t329).f3⟩ : S98)), true)) else (none))) else (none)) else (none))) else (some (bt321.1, bt321.2.1, bt321.2.2, false)))))
set_option maxHeartbeats 8000000 in
set_option maxRecDepth 100000 in
theorem spec_TakeOut.calls (k : Nat) (a0_0 : Int) (A0_1 : Option Addr) (c0_1 : Nat) (l0_1 : List Int) (A0_2 : Option Addr) (c0_2 : Nat) (l0_2 : List (S98)) (a1 : Int) (r1 : Int) (r2 : List Int) (r3 : List (S98)) (r4 : Bool) (w : World) (hr0_1 : Kd.C (Kd.int .i64) w A0_1 l0_1.length l0_1) (hc0_1 : l0_1.length ≤ c0_1) (hr0_2 : Kd.C k98 w A0_2 l0_2.length l0_2) (hc0_2 : l0_2.length ≤ c0_2) (h : spec_TakeOut.f k a0_0 l0_1 l0_2 a1 = some (r1, r2, r3, r4)) :
  Calls Try.prog 71 #[.agg #[.int .i64 a0_0, .slice A0_1 l0_1.length c0_1, .slice A0_2 l0_2.length c0_2], .int .i64 a1] w fun e w' => ∃ v1_ v2_ : Value, e = .returned (.tuple #[.agg #[.int .i64 r1, v1_, v2_], .bool r4]) ∧ Kd.R (Kd.int .i64) 3 w' w.heap.size (fun _ => True) v1_ r2 ∧ Kd.R k98 98 w' w.heap.size (fun _ => True) v2_ r3 ∧ Below w.heap.size w w' := by
 have hu41 := Try.underlying41
 have HR0_1 := Aside0.mk hr0_1
 have HC0_1 := Aside0.mk hc0_1
 clear hr0_1 hc0_1
 have HR0_2 := Aside0.mk hr0_2
 have HC0_2 := Aside0.mk hc0_2
 clear hr0_2 hc0_2
 have HB := Aside0.mk (Below.refl w.heap.size w)
 have H : ((spec_l02Copy.f a0_0 l0_1 l0_2).bind fun bt321 => ((spec_l02Box.f k a0_0 l0_1 l0_2 a1).bind fun t329 => ((spec_ColumnOk.f k a0_0 l0_1 l0_2).bind fun t330 => (if t330 = true then (if t329 < 0 then (some (bt321.1, bt321.2.1, bt321.2.2, false)) else (if 0 ≤ t329 then (if t329 < (l0_2.length : Int) then (if (rd_T98 l0_2 t329).f3 = true then (some (bt321.1, bt321.2.1, bt321.2.2, false)) else (if t329 < (bt321.2.2.length : Int) then (some (bt321.1, bt321.2.1, (bt321.2.2.set (t329 : Int).toNat (⟨(rd_T98 bt321.2.2 t329).f0, (rd_T98 bt321.2.2 t329).f1, 0, (rd_T98 bt321.2.2 t329).f3⟩ : S98)), true)) else (none))) else (none)) else (none))) else (some (bt321.1, bt321.2.1, bt321.2.2, false)))))) = some (r1, r2, r3, r4) := h
 clear h
 replace H := Option.bind_eq_some_iff.mp H
 obtain ⟨⟨t321, t322, t325⟩, A30, H⟩ := H
 try dsimp only at H
 have A3 := Aside0.mk A30
 clear A30
 replace H := Option.bind_eq_some_iff.mp H
 obtain ⟨t329, A40, H⟩ := H
 try dsimp only at H
 have A4 := Aside0.mk A40
 clear A40
 replace H := Option.bind_eq_some_iff.mp H
 obtain ⟨t330, A50, H⟩ := H
 try dsimp only at H
 have A5 := Aside0.mk A50
 clear A50
 by_cases c6 : t330 = true
 focus
  subst c6
  rw [if_pos rfl] at H
  by_cases c7 : t329 < 0
  focus
   rw [if_pos c7] at H
   have c7b0 : decide (t329 < 0) = true := decide_eq_true c7
   clear c7
   simp only [Option.some.injEq, Prod.mk.injEq] at H
   obtain ⟨rfl, rfl, rfl, rfl⟩ := H
  rotate_left
  focus
   rw [if_neg c7] at H
   have c7b0 : decide (t329 < 0) = false := decide_eq_false c7
   clear c7
   by_cases c25 : 0 ≤ t329
   focus
    rw [if_pos c25] at H
    have c25b0 : decide (0 ≤ t329) = true := decide_eq_true c25
    clear c25
    by_cases c26 : t329 < (l0_2.length : Int)
    focus
     rw [if_pos c26] at H
     have c26b0 : decide (t329 < (l0_2.length : Int)) = true := decide_eq_true c26
     clear c26
     obtain ⟨bq27, hbq27⟩ : ∃ b_ : Bool, b_ = ((rd_T98 l0_2 t329).f3) := ⟨_, rfl⟩
     replace H : (if bq27 = true then (some (t321, t322, t325, false)) else (if t329 < (t325.length : Int) then (some (t321, t322, (t325.set (t329 : Int).toNat (⟨(rd_T98 t325 t329).f0, (rd_T98 t325 t329).f1, 0, (rd_T98 t325 t329).f3⟩ : S98)), true)) else (none))) = some (r1, r2, r3, r4) := by rw [← hbq27] at H; exact H
     have Nbq27 := Aside0.mk hbq27
     clear hbq27
     by_cases c28 : bq27 = true
     focus
      subst c28
      rw [if_pos rfl] at H
      simp only [Option.some.injEq, Prod.mk.injEq] at H
      obtain ⟨rfl, rfl, rfl, rfl⟩ := H
     rotate_left
     focus
      replace c28 := Bool.eq_false_iff.mpr c28
      subst c28
      rw [if_neg (show ¬ (false = true) by decide)] at H
      by_cases c47 : t329 < (t325.length : Int)
      focus
       rw [if_pos c47] at H
       have c47b0 : decide (t329 < (t325.length : Int)) = true := decide_eq_true c47
       clear c47
       obtain ⟨y332, hy332⟩ : ∃ y_ : List (S98), y_ = (t325.set (t329 : Int).toNat (⟨(rd_T98 t325 t329).f0, (rd_T98 t325 t329).f1, 0, (rd_T98 t325 t329).f3⟩ : S98)) := ⟨_, rfl⟩
       replace H : (some (t321, t322, y332, true)) = some (r1, r2, r3, r4) := by first | (rw [hy332]; with_reducible exact H) | (have H2_ := (Option.bind_some _ _).symm.trans H; rw [hy332]; with_reducible exact H2_) | (have H2_ := (Option.bind_some _ _).symm.trans H; with_reducible exact H2_) | with_reducible exact H | (rw [hy332]; exact H) | exact H
       have Ny332 := Aside0.mk hy332
       clear hy332
       simp only [Option.some.injEq, Prod.mk.injEq] at H
       obtain ⟨rfl, rfl, rfl, rfl⟩ := H
      rotate_left
      ·rw [if_neg c47] at H
       exact absurd H (by simp)
     rotate_left
    rotate_left 2
    ·rw [if_neg c26] at H
     exact absurd H (by simp)
   rotate_left 2
   ·rw [if_neg c25] at H
    exact absurd H (by simp)
  rotate_left 2
 rotate_left 3
 focus
  replace c6 := Bool.eq_false_iff.mpr c6
  subst c6
  rw [if_neg (show ¬ (false = true) by decide)] at H
  simp only [Option.some.injEq, Prod.mk.injEq] at H
  obtain ⟨rfl, rfl, rfl, rfl⟩ := H
 rotate_left
 all_goals go_enter Try.func71, Try.ntmps71
 all_goals go_wp2_with (first | ((with_reducible refine gate_dst (N := 2) rfl ?_); refine bx (cs := #[.int .i64 a0_0, .slice A0_1 l0_1.length c0_1, .slice A0_2 l0_2.length c0_2]) (t := 41) fun gb319 hg w8 hbox hb => ?_; have BK319 := Aside0.mk (hbox); have GW319 := Aside0.mk (gs HB.out hg); have GE319 := Aside0.mk (gs HB.out hg); replace HB := Aside0.mk (below_step (bl HB.out) hb); clear hb hbox hg) | ((with_reducible refine gate_dst (N := 4) rfl ?_); refine bx (cs := #[.int .i64 0, .slice none 0 0, .slice none 0 0]) (t := 41) fun gb320 hg w9 hbox hb => ?_; have BK320 := Aside0.mk (hbox); have GW320 := Aside0.mk (gs HB.out hg); have GE320 := Aside0.mk (gs HB.out hg); replace HB := Aside0.mk (below_step (bl HB.out) hb); have NB319_320 := Aside0.mk ((nl BK319.out hg)); have NB320_319 := Aside0.mk ((ng BK319.out hg)); replace BK319 := Aside0.mk (bb BK319.out hb); clear hb hbox hg; have hnb10 := NB319_320.out; have hnc10 := NB320_319.out; obtain ⟨hcz11_0, hcz11_1, hcz11_2, hfz11_0, hfz11_1, hfz11_2⟩ := cz3 BK319.out) | ((with_reducible refine gate_callee (f := 86) rfl ?_); refine goesL_ (some 9) rfl rfl Try.func86 (by kernel_rfl) rfl #[.agg #[.int .i64 a0_0, .slice A0_1 l0_1.length c0_1, .slice A0_2 l0_2.length c0_2]] rfl mapd ?_; (with_reducible refine (spec_l02Copy.calls a0_0 _ _ l0_1 _ _ l0_2 t321 t322 t325 _ ?side1 ?side2 ?side3 ?side4 A3.out).mono ?_); (case side1 => exact cb (Kd.C_below HR0_1.out HB.out)); (case side2 => exact HC0_1.out); (case side3 => exact cb (Kd.C_below HR0_2.out HB.out)); (case side4 => exact HC0_2.out); rintro e w12 ⟨v323, v326, rfl, ho0, ho1, hb⟩; refine ⟨_, rfl, ?_⟩; have HO324 := Aside0.mk (Kd.R_lower ho0 (below_size (bl HB.out))); have HO327 := Aside0.mk (Kd.R_lower ho1 (below_size (bl HB.out))); replace BK319 := Aside0.mk (bb BK319.out hb); replace BK320 := Aside0.mk (bb BK320.out hb); replace HB := Aside0.mk (below_step (bl HB.out) hb); (try clear hb); (try clear hb2); (try clear hk); (try clear hi); (try clear ho0); (try clear ho1)) | ((with_reducible refine gate_dst (N := 6) rfl ?_); refine bx (cs := #[.int .i64 0, .slice none 0 0, .slice none 0 0]) (t := 41) fun gb328 hg w13 hbox hb => ?_; replace HO324 := Aside0.mk (Kd.R_below (rk HO324.out) hb); replace HO327 := Aside0.mk (Kd.R_below (rk HO327.out) hb); have BK328 := Aside0.mk (hbox); have GW328 := Aside0.mk (gs HB.out hg); have GE328 := Aside0.mk (gs HB.out hg); replace HB := Aside0.mk (below_step (bl HB.out) hb); have NB319_328 := Aside0.mk ((nl BK319.out hg)); have NB328_319 := Aside0.mk ((ng BK319.out hg)); replace BK319 := Aside0.mk (bb BK319.out hb); have NB320_328 := Aside0.mk ((nl BK320.out hg)); have NB328_320 := Aside0.mk ((ng BK320.out hg)); replace BK320 := Aside0.mk (bb BK320.out hb); clear hb hbox hg; have hnb14 := NB328_319.out; have hnc14 := NB319_328.out; have hnb15 := NB328_320.out; have hnc15 := NB320_328.out; obtain ⟨hcz16_0, hcz16_1, hcz16_2, hfz16_0, hfz16_1, hfz16_2⟩ := cz3 BK328.out; obtain ⟨Ao17, co17, eo17⟩ := Kd.R_slice HO324.out; subst eo17; obtain ⟨Ao18, co18, eo18⟩ := Kd.R_slice HO327.out; subst eo18; obtain ⟨hcz19_0, hcz19_1, hcz19_2, hfz19_0, hfz19_1, hfz19_2⟩ := cz3 BK319.out) | ((with_reducible refine gate_callee (f := 85) rfl ?_); refine goesL_ (some 12) rfl rfl Try.func85 (by kernel_rfl) rfl #[.agg #[.int .i64 a0_0, .slice A0_1 l0_1.length c0_1, .slice A0_2 l0_2.length c0_2], .int .i64 a1] rfl mapd ?_; (with_reducible refine (spec_l02Box.calls k a0_0 _ _ l0_1 _ _ l0_2 a1 t329 _ ?side1 ?side2 ?side3 ?side4 A4.out).mono ?_); (case side1 => exact Kd.C_below HR0_1.out (bl HB.out)); (case side2 => exact HC0_1.out); (case side3 => exact Kd.C_below HR0_2.out (bl HB.out)); (case side4 => exact HC0_2.out); rintro e w20 ⟨rfl, hb⟩; refine ⟨_, rfl, ?_⟩; replace HO324 := Aside0.mk (Kd.R_below (by refine rk ?_; exact (Kd.R_mono (Kd.R_far (p := ⟨gb328, 2, none⟩) (Kd.R_far (p := ⟨gb328, 1, none⟩) (Kd.R_far (p := ⟨gb328, 0, none⟩) (Kd.R_types HO324.out BK328.out (by decide)) (fun _ hk => hk.2) (.int .i64 t321)) (fun _ hk => hk.2) (.slice Ao17 t322.length co17)) (fun _ hk => hk.2) (.slice Ao18 t325.length co18)) (fun _ h_ => h_.1))) hb); replace HO327 := Aside0.mk (Kd.R_below (by refine rk ?_; exact (Kd.R_mono (Kd.R_far (p := ⟨gb328, 2, none⟩) (Kd.R_far (p := ⟨gb328, 1, none⟩) (Kd.R_far (p := ⟨gb328, 0, none⟩) (Kd.R_types HO327.out BK328.out (by decide)) (fun _ hk => hk.2) (.int .i64 t321)) (fun _ hk => hk.2) (.slice Ao17 t322.length co17)) (fun _ hk => hk.2) (.slice Ao18 t325.length co18)) (fun _ h_ => h_.1))) hb); replace BK319 := Aside0.mk (blk_below (g := gb319) (o := .cells #[.int .i64 a0_0, .slice A0_1 l0_1.length c0_1, .slice A0_2 l0_2.length c0_2] 41 (0, 0)) (bf BK319.out) hb); replace BK320 := Aside0.mk (blk_below (g := gb320) (o := .cells #[.int .i64 0, .slice none 0 0, .slice none 0 0] 41 (0, 0)) (bf BK320.out) hb); replace BK328 := Aside0.mk (blk_below (g := gb328) (o := .cells #[.int .i64 t321, .slice Ao17 t322.length co17, .slice Ao18 t325.length co18] 41 (0, 0)) (by refine bk ?_; refine blk_put (cs := #[.int .i64 t321, .slice Ao17 t322.length co17, .slice none 0 0]) ?_ 2 _ rfl; refine bk ?_; refine blk_put (cs := #[.int .i64 t321, .slice none 0 0, .slice none 0 0]) ?_ 1 _ rfl; refine bk ?_; refine blk_put (cs := #[.int .i64 0, .slice none 0 0, .slice none 0 0]) ?_ 0 _ rfl; refine bk ?_; exact BK328.out) hb); replace HB := Aside0.mk (below_step (bl HB.out) hb); (try clear hb); (try clear hb2); (try clear hk); (try clear hi); obtain ⟨hcz21_0, hcz21_1, hcz21_2, hfz21_0, hfz21_1, hfz21_2⟩ := cz3 BK319.out) | ((with_reducible refine gate_callee (f := 91) rfl ?_); refine goesL_ (some 14) rfl rfl Try.func91 (by kernel_rfl) rfl #[.agg #[.int .i64 a0_0, .slice A0_1 l0_1.length c0_1, .slice A0_2 l0_2.length c0_2]] rfl mapd ?_; (with_reducible refine (spec_ColumnOk.calls k a0_0 _ _ l0_1 _ _ l0_2 false _ ?side1 ?side2 ?side3 ?side4 A5.out).mono ?_); (case side1 => exact cb (Kd.C_below HR0_1.out HB.out)); (case side2 => exact HC0_1.out); (case side3 => exact cb (Kd.C_below HR0_2.out HB.out)); (case side4 => exact HC0_2.out); rintro e w84 ⟨rfl, hb⟩; refine ⟨_, rfl, ?_⟩; replace HO324 := Aside0.mk (Kd.R_below (rk HO324.out) hb); replace HO327 := Aside0.mk (Kd.R_below (rk HO327.out) hb); replace BK319 := Aside0.mk (bb BK319.out hb); replace BK320 := Aside0.mk (bb BK320.out hb); replace BK328 := Aside0.mk (bb BK328.out hb); replace HB := Aside0.mk (below_step (bl HB.out) hb); (try clear hb); (try clear hb2); (try clear hk); (try clear hi); obtain ⟨hcz85_0, hcz85_1, hcz85_2, hfz85_0, hfz85_1, hfz85_2⟩ := cz3 BK328.out; obtain ⟨hcz86_0, hcz86_1, hcz86_2, hfz86_0, hfz86_1, hfz86_2⟩ := cz3 BK320.out) | ((with_reducible refine gate_callee (f := 91) rfl ?_); refine goesL_ (some 14) rfl rfl Try.func91 (by kernel_rfl) rfl #[.agg #[.int .i64 a0_0, .slice A0_1 l0_1.length c0_1, .slice A0_2 l0_2.length c0_2]] rfl mapd ?_; (with_reducible refine (spec_ColumnOk.calls k a0_0 _ _ l0_1 _ _ l0_2 true _ ?side1 ?side2 ?side3 ?side4 A5.out).mono ?_); (case side1 => exact cb (Kd.C_below HR0_1.out HB.out)); (case side2 => exact HC0_1.out); (case side3 => exact cb (Kd.C_below HR0_2.out HB.out)); (case side4 => exact HC0_2.out); rintro e w63 ⟨rfl, hb⟩; refine ⟨_, rfl, ?_⟩; replace HO324 := Aside0.mk (Kd.R_below (rk HO324.out) hb); replace HO327 := Aside0.mk (Kd.R_below (rk HO327.out) hb); replace BK319 := Aside0.mk (bb BK319.out hb); replace BK320 := Aside0.mk (bb BK320.out hb); replace BK328 := Aside0.mk (bb BK328.out hb); replace HB := Aside0.mk (below_step (bl HB.out) hb); (try clear hb); (try clear hb2); (try clear hk); (try clear hi); obtain ⟨hcz64_0, hcz64_1, hcz64_2, hfz64_0, hfz64_1, hfz64_2⟩ := cz3 BK319.out; have p331 : 0 ≤ (t329 : Int) := of_decide_eq_true asm; have q331 : t329 < (l0_2.length : Int) := of_decide_eq_true asm; obtain ⟨ad331, e331, hx331_0, hx331_1, hx331_2, hx331_3⟩ := at_T98 HR0_2.out t329 p331 q331; (try rw [← Nbq27.out] at hx331_3); cases e331; replace hx331_0 := (HB.out.cell (World.block_lt_of_cell? w _ hx331_0)).trans hx331_0; replace hx331_1 := (HB.out.cell (World.block_lt_of_cell? w _ hx331_1)).trans hx331_1; replace hx331_2 := (HB.out.cell (World.block_lt_of_cell? w _ hx331_2)).trans hx331_2; replace hx331_3 := (HB.out.cell (World.block_lt_of_cell? w _ hx331_3)).trans hx331_3; replace p331 := eq_true p331; replace q331 := eq_true q331; obtain ⟨hcz65_0, hcz65_1, hcz65_2, hfz65_0, hfz65_1, hfz65_2⟩ := cz3 BK328.out; have p48 : 0 ≤ (t329 : Int) := of_decide_eq_true asm; have q48 : (t329 : Int) < ((t325.length : Int) : Int) := of_decide_eq_true asm; obtain ⟨go48, co48, eo48, gb48, gl48, cl48, HG48⟩ := Kd.R_form HO327.out (by omega); (first | cases eo48 | (injection eo48 with ea_ en_ ec_; (first | subst ea_ | (injection ea_ with ea_; subst ea_)); subst ec_; clear en_)); have GB48 := Aside0.mk gb48; have GG48 := Aside0.mk HG48; clear gb48 gl48 HG48; obtain ⟨ce48, hcl48, hM48, hcc48, hfr48⟩ := Kd.R_elem HO327.out z98 (t329 : Int) p48 q48; obtain rfl := k98_openM hM48; have hx48_0 : w63.cell? ⟨go48, (t329 : Int).toNat * 4, none⟩ = some (.int .i64 ((rd_T98 t325 t329).f0)) := hcc48 0 _ rfl; have hx48_1 : w63.cell? ⟨go48, (t329 : Int).toNat * 4 + 1, none⟩ = some (.int .i64 ((rd_T98 t325 t329).f1)) := hcc48 1 _ rfl; have hx48_2 : w63.cell? ⟨go48, (t329 : Int).toNat * 4 + 2, none⟩ = some (.int .i64 ((rd_T98 t325 t329).f2)) := hcc48 2 _ rfl; have hx48_3 : w63.cell? ⟨go48, (t329 : Int).toNat * 4 + 3, none⟩ = some (.bool ((rd_T98 t325 t329).f3)) := hcc48 3 _ rfl; have hf48_0 : w63.frozen? ⟨go48, (t329 : Int).toNat * 4, none⟩ = false := hfr48 0; have hf48_1 : w63.frozen? ⟨go48, (t329 : Int).toNat * 4 + 1, none⟩ = false := hfr48 1; have hf48_2 : w63.frozen? ⟨go48, (t329 : Int).toNat * 4 + 2, none⟩ = false := hfr48 2; have hf48_3 : w63.frozen? ⟨go48, (t329 : Int).toNat * 4 + 3, none⟩ = false := hfr48 3; clear hcl48 hcc48 hfr48 hM48; replace p48 := eq_true p48; replace q48 := eq_true q48; have HX66 := Aside0.mk (show Kd.R k98 98 w63 w.heap.size (fun _ => True) (.slice (some ⟨go48, 0, none⟩) t325.length co18) t325 from (rk HO327.out)); obtain ⟨ce66, hcl66, hM66, hcc66, hfr66⟩ := Kd.R_elem HX66.out z98 (t329 : Int) (of_decide_eq_true asm) (by have h_ : (t329 : Int) < ((t325.length : Int) : Int) := of_decide_eq_true asm; first | exact h_ | (have e_ := (Kd.R_reads' HO327.out).1; omega) | simpa using h_); obtain rfl := k98_openM hM66; have HP66 := Kd.R_seg HX66.out (t329 : Int) (of_decide_eq_true asm) (by have h_ : (t329 : Int) < ((t325.length : Int) : Int) := of_decide_eq_true asm; first | exact h_ | (have e_ := (Kd.R_reads' HO327.out).1; omega) | simpa using h_) (seg := [.int .i64 0]) (j := 2) hcl66 hcc66 (show 3 ≤ 4 from by decide) (x' := (⟨(rd_T98 t325 t329).f0, (rd_T98 t325 t329).f1, 0, (rd_T98 t325 t329).f3⟩ : S98)) (k98_mkM _ _ _ (⟨(rd_T98 t325 t329).f0, (rd_T98 t325 t329).f1, 0, (rd_T98 t325 t329).f3⟩ : S98) ) (fun _ hk => hk); have hx66_2 := hcc66 2 _ rfl; (try simp only [show (k98).sz = 4 from rfl, Nat.mul_one, Nat.add_zero] at hx66_2); have hf66_2 := hfr66 2; (try simp only [show (k98).sz = 4 from rfl, Nat.mul_one, Nat.add_zero] at hf66_2); clear hcl66 hcc66 hfr66 hM66) | ((with_reducible refine gate_store (t := 3) (p := 33) rfl ?_); refine store_event (t := 3) (p := 33) (v := ?vo_w67) (w1 := (w63.setCell ⟨go48, (t329 : Int).toNat * 4 + 2, none⟩ (.int .i64 0))) ?hg ?ho ?hn ?hr ?_; (case ho => rfl); (case hg => rfl); (case hn => rfl); (case hr => first | (go_simp; done) | (go_simp; rfl)); intro w67 hw; have hg : w63.grownBy w67 (some go48) := (by rw [hw]; exact HP66.2); have hp_ : Kd.R k98 98 w67 w.heap.size (fun _ => True) (.slice (some ⟨go48, 0, none⟩) t325.length co18) y332 := (by rw [hw, Ny332.out]; exact HP66.1); clear HP66; replace BK319 := Aside0.mk (blk_grown (g := gb319) (o := .cells #[.int .i64 a0_0, .slice A0_1 l0_1.length c0_1, .slice (some ad331) l0_2.length c0_2] 41 (0, 0)) (bk BK319.out) hg (Kd.R_ne HO327.out BK319.out (by decide))); replace BK320 := Aside0.mk (blk_grown (g := gb320) (o := .cells #[.int .i64 0, .slice none 0 0, .slice none 0 0] 41 (0, 0)) (bk BK320.out) hg (Kd.R_ne HO327.out BK320.out (by decide))); replace HO324 := Aside0.mk (Kd.R_over' (v := (.slice (some ⟨go48, 0, none⟩) t325.length co18)) (rk HO324.out) (Kd.R_typed HO327.out) (by decide) hg); replace BK328 := Aside0.mk (blk_grown (g := gb328) (o := .cells #[.int .i64 t321, .slice Ao17 t322.length co17, .slice (some ⟨go48, 0, none⟩) t325.length co18] 41 (0, 0)) (bk BK328.out) hg (Kd.R_ne HO327.out BK328.out (by decide))); replace HO327 := Aside0.mk (hp_); replace HB := Aside0.mk ((by rw [hw]; exact below_set (HB.out) GB48.out : Below w.heap.size w w67)); clear hg hw hp_; obtain ⟨hcz68_0, hcz68_1, hcz68_2, hfz68_0, hfz68_1, hfz68_2⟩ := cz3 BK328.out; obtain ⟨hcz69_0, hcz69_1, hcz69_2, hfz69_0, hfz69_1, hfz69_2⟩ := cz3 BK320.out) | ((with_reducible refine gate_callee (f := 91) rfl ?_); refine goesL_ (some 14) rfl rfl Try.func91 (by kernel_rfl) rfl #[.agg #[.int .i64 a0_0, .slice A0_1 l0_1.length c0_1, .slice A0_2 l0_2.length c0_2]] rfl mapd ?_; (with_reducible refine (spec_ColumnOk.calls k a0_0 _ _ l0_1 _ _ l0_2 true _ ?side1 ?side2 ?side3 ?side4 A5.out).mono ?_); (case side1 => exact cb (Kd.C_below HR0_1.out HB.out)); (case side2 => exact HC0_1.out); (case side3 => exact cb (Kd.C_below HR0_2.out HB.out)); (case side4 => exact HC0_2.out); rintro e w43 ⟨rfl, hb⟩; refine ⟨_, rfl, ?_⟩; replace HO324 := Aside0.mk (Kd.R_below (rk HO324.out) hb); replace HO327 := Aside0.mk (Kd.R_below (rk HO327.out) hb); replace BK319 := Aside0.mk (bb BK319.out hb); replace BK320 := Aside0.mk (bb BK320.out hb); replace BK328 := Aside0.mk (bb BK328.out hb); replace HB := Aside0.mk (below_step (bl HB.out) hb); (try clear hb); (try clear hb2); (try clear hk); (try clear hi); obtain ⟨hcz44_0, hcz44_1, hcz44_2, hfz44_0, hfz44_1, hfz44_2⟩ := cz3 BK319.out; have p331 : 0 ≤ (t329 : Int) := of_decide_eq_true asm; have q331 : t329 < (l0_2.length : Int) := of_decide_eq_true asm; obtain ⟨ad331, e331, hx331_0, hx331_1, hx331_2, hx331_3⟩ := at_T98 HR0_2.out t329 p331 q331; (try rw [← Nbq27.out] at hx331_3); cases e331; replace hx331_0 := (HB.out.cell (World.block_lt_of_cell? w _ hx331_0)).trans hx331_0; replace hx331_1 := (HB.out.cell (World.block_lt_of_cell? w _ hx331_1)).trans hx331_1; replace hx331_2 := (HB.out.cell (World.block_lt_of_cell? w _ hx331_2)).trans hx331_2; replace hx331_3 := (HB.out.cell (World.block_lt_of_cell? w _ hx331_3)).trans hx331_3; replace p331 := eq_true p331; replace q331 := eq_true q331; obtain ⟨hcz45_0, hcz45_1, hcz45_2, hfz45_0, hfz45_1, hfz45_2⟩ := cz3 BK328.out; obtain ⟨hcz46_0, hcz46_1, hcz46_2, hfz46_0, hfz46_1, hfz46_2⟩ := cz3 BK320.out) | ((with_reducible refine gate_callee (f := 91) rfl ?_); refine goesL_ (some 14) rfl rfl Try.func91 (by kernel_rfl) rfl #[.agg #[.int .i64 a0_0, .slice A0_1 l0_1.length c0_1, .slice A0_2 l0_2.length c0_2]] rfl mapd ?_; (with_reducible refine (spec_ColumnOk.calls k a0_0 _ _ l0_1 _ _ l0_2 true _ ?side1 ?side2 ?side3 ?side4 A5.out).mono ?_); (case side1 => exact cb (Kd.C_below HR0_1.out HB.out)); (case side2 => exact HC0_1.out); (case side3 => exact cb (Kd.C_below HR0_2.out HB.out)); (case side4 => exact HC0_2.out); rintro e w22 ⟨rfl, hb⟩; refine ⟨_, rfl, ?_⟩; replace HO324 := Aside0.mk (Kd.R_below (rk HO324.out) hb); replace HO327 := Aside0.mk (Kd.R_below (rk HO327.out) hb); replace BK319 := Aside0.mk (bb BK319.out hb); replace BK320 := Aside0.mk (bb BK320.out hb); replace BK328 := Aside0.mk (bb BK328.out hb); replace HB := Aside0.mk (below_step (bl HB.out) hb); (try clear hb); (try clear hb2); (try clear hk); (try clear hi); obtain ⟨hcz23_0, hcz23_1, hcz23_2, hfz23_0, hfz23_1, hfz23_2⟩ := cz3 BK328.out; obtain ⟨hcz24_0, hcz24_1, hcz24_2, hfz24_0, hfz24_1, hfz24_2⟩ := cz3 BK320.out))
 ·refine bodyPost_ret (results_ct rfl _ _ gb320 41 #[.int .i64 t321, .slice Ao17 t322.length co17, .slice Ao18 t325.length co18] (0, 0) _ rfl (by refine bk ?_; refine blk_put (cs := #[.int .i64 t321, .slice Ao17 t322.length co17, .slice none 0 0]) ?_ 2 _ rfl; refine bk ?_; refine blk_put (cs := #[.int .i64 t321, .slice none 0 0, .slice none 0 0]) ?_ 1 _ rfl; refine bk ?_; refine blk_put (cs := #[.int .i64 0, .slice none 0 0, .slice none 0 0]) ?_ 0 _ rfl; refine bk ?_; exact BK320.out) Try.underlying41 rfl (by kernel_rfl)) rfl ?_
  exact ⟨_, _, by first | rfl | (simp [errW_none, errW_some] <;> rfl) | (simp [*, errW_none, errW_some] <;> rfl), by refine rk ?_; exact Kd.R_mono (Kd.R_far (p := ⟨gb320, 2, none⟩) (Kd.R_far (p := ⟨gb320, 1, none⟩) (Kd.R_far (p := ⟨gb320, 0, none⟩) (Kd.R_types HO324.out BK320.out (by decide)) (fun _ hk => hk.2) (.int .i64 t321)) (fun _ hk => hk.2) (.slice Ao17 t322.length co17)) (fun _ hk => hk.2) (.slice Ao18 t325.length co18)) (fun _ hk => trivial), by refine rk ?_; exact Kd.R_mono (Kd.R_far (p := ⟨gb320, 2, none⟩) (Kd.R_far (p := ⟨gb320, 1, none⟩) (Kd.R_far (p := ⟨gb320, 0, none⟩) (Kd.R_types HO327.out BK320.out (by decide)) (fun _ hk => hk.2) (.int .i64 t321)) (fun _ hk => hk.2) (.slice Ao17 t322.length co17)) (fun _ hk => hk.2) (.slice Ao18 t325.length co18)) (fun _ hk => trivial), bl HB.out⟩
 ·refine bodyPost_ret (results_ct rfl _ _ gb320 41 #[.int .i64 t321, .slice Ao17 t322.length co17, .slice Ao18 t325.length co18] (0, 0) _ rfl (by refine bk ?_; refine blk_put (cs := #[.int .i64 t321, .slice Ao17 t322.length co17, .slice none 0 0]) ?_ 2 _ rfl; refine bk ?_; refine blk_put (cs := #[.int .i64 t321, .slice none 0 0, .slice none 0 0]) ?_ 1 _ rfl; refine bk ?_; refine blk_put (cs := #[.int .i64 0, .slice none 0 0, .slice none 0 0]) ?_ 0 _ rfl; refine bk ?_; exact BK320.out) Try.underlying41 rfl (by kernel_rfl)) rfl ?_
  exact ⟨_, _, by first | rfl | (simp [errW_none, errW_some] <;> rfl) | (simp [*, errW_none, errW_some] <;> rfl), by refine rk ?_; exact Kd.R_mono (Kd.R_far (p := ⟨gb320, 2, none⟩) (Kd.R_far (p := ⟨gb320, 1, none⟩) (Kd.R_far (p := ⟨gb320, 0, none⟩) (Kd.R_types HO324.out BK320.out (by decide)) (fun _ hk => hk.2) (.int .i64 t321)) (fun _ hk => hk.2) (.slice Ao17 t322.length co17)) (fun _ hk => hk.2) (.slice Ao18 t325.length co18)) (fun _ hk => trivial), by refine rk ?_; exact Kd.R_mono (Kd.R_far (p := ⟨gb320, 2, none⟩) (Kd.R_far (p := ⟨gb320, 1, none⟩) (Kd.R_far (p := ⟨gb320, 0, none⟩) (Kd.R_types HO327.out BK320.out (by decide)) (fun _ hk => hk.2) (.int .i64 t321)) (fun _ hk => hk.2) (.slice Ao17 t322.length co17)) (fun _ hk => hk.2) (.slice Ao18 t325.length co18)) (fun _ hk => trivial), bl HB.out⟩
 ·refine bodyPost_ret (results_ct rfl _ _ gb320 41 #[.int .i64 t321, .slice Ao17 t322.length co17, .slice (some ⟨go48, 0, none⟩) t325.length co18] (0, 0) _ rfl (by refine bk ?_; refine blk_put (cs := #[.int .i64 t321, .slice Ao17 t322.length co17, .slice none 0 0]) ?_ 2 _ rfl; refine bk ?_; refine blk_put (cs := #[.int .i64 t321, .slice none 0 0, .slice none 0 0]) ?_ 1 _ rfl; refine bk ?_; refine blk_put (cs := #[.int .i64 0, .slice none 0 0, .slice none 0 0]) ?_ 0 _ rfl; refine bk ?_; exact BK320.out) Try.underlying41 rfl (by kernel_rfl)) rfl ?_
  exact ⟨_, _, by first | rfl | (simp [errW_none, errW_some] <;> rfl) | (simp [*, errW_none, errW_some] <;> rfl), by refine rk ?_; exact Kd.R_mono (Kd.R_far (p := ⟨gb320, 2, none⟩) (Kd.R_far (p := ⟨gb320, 1, none⟩) (Kd.R_far (p := ⟨gb320, 0, none⟩) (Kd.R_types HO324.out BK320.out (by decide)) (fun _ hk => hk.2) (.int .i64 t321)) (fun _ hk => hk.2) (.slice Ao17 t322.length co17)) (fun _ hk => hk.2) (.slice (some ⟨go48, 0, none⟩) t325.length co18)) (fun _ hk => trivial), by refine rk ?_; exact Kd.R_mono (Kd.R_far (p := ⟨gb320, 2, none⟩) (Kd.R_far (p := ⟨gb320, 1, none⟩) (Kd.R_far (p := ⟨gb320, 0, none⟩) (Kd.R_types HO327.out BK320.out (by decide)) (fun _ hk => hk.2) (.int .i64 t321)) (fun _ hk => hk.2) (.slice Ao17 t322.length co17)) (fun _ hk => hk.2) (.slice (some ⟨go48, 0, none⟩) t325.length co18)) (fun _ hk => trivial), bl HB.out⟩
 ·refine bodyPost_ret (results_ct rfl _ _ gb320 41 #[.int .i64 t321, .slice Ao17 t322.length co17, .slice Ao18 t325.length co18] (0, 0) _ rfl (by refine bk ?_; refine blk_put (cs := #[.int .i64 t321, .slice Ao17 t322.length co17, .slice none 0 0]) ?_ 2 _ rfl; refine bk ?_; refine blk_put (cs := #[.int .i64 t321, .slice none 0 0, .slice none 0 0]) ?_ 1 _ rfl; refine bk ?_; refine blk_put (cs := #[.int .i64 0, .slice none 0 0, .slice none 0 0]) ?_ 0 _ rfl; refine bk ?_; exact BK320.out) Try.underlying41 rfl (by kernel_rfl)) rfl ?_
  exact ⟨_, _, by first | rfl | (simp [errW_none, errW_some] <;> rfl) | (simp [*, errW_none, errW_some] <;> rfl), by refine rk ?_; exact Kd.R_mono (Kd.R_far (p := ⟨gb320, 2, none⟩) (Kd.R_far (p := ⟨gb320, 1, none⟩) (Kd.R_far (p := ⟨gb320, 0, none⟩) (Kd.R_types HO324.out BK320.out (by decide)) (fun _ hk => hk.2) (.int .i64 t321)) (fun _ hk => hk.2) (.slice Ao17 t322.length co17)) (fun _ hk => hk.2) (.slice Ao18 t325.length co18)) (fun _ hk => trivial), by refine rk ?_; exact Kd.R_mono (Kd.R_far (p := ⟨gb320, 2, none⟩) (Kd.R_far (p := ⟨gb320, 1, none⟩) (Kd.R_far (p := ⟨gb320, 0, none⟩) (Kd.R_types HO327.out BK320.out (by decide)) (fun _ hk => hk.2) (.int .i64 t321)) (fun _ hk => hk.2) (.slice Ao17 t322.length co17)) (fun _ hk => hk.2) (.slice Ao18 t325.length co18)) (fun _ hk => trivial), bl HB.out⟩

def idxP : List S98 → Int → Int → Int
 | [], _, _ => -1
 | b :: bs, p, i => if b.f2 = p then i else idxP bs p (i + 1)
end Go.Proofs.Ytbpjidekjogfeaa.A

namespace Go.Proofs.Ytbpjidekjogfeaa.A
open Go.RowKit Go.Proofs.YtbpjidekjogfeaaW.PrintWords Go.Proofs.YtbpjidekjogfeaaW.PrintLast Go.Proofs.YtbpjidekjogfeaaW.PrintMore
attribute [local go_sem] max2_int min2_int max_two min_two max_three min_three max_four min_four   
set_option linter.unusedVariables false
set_option linter.unusedSimpArgs false
def slices_Clone_int_int.f (l0 : List Int) : Option (List Int) := (some (([] : List Int) : List Int)).bind fun y349 => (if y349.length + l0.length < 17592186044416 then (some (y349 ++ l0)) else (none))
set_option maxHeartbeats 8000000 in
set_option maxRecDepth 100000 in
theorem slices_Clone_int_int.calls (A0 : Option Addr) (c0 : Nat) (l0 : List Int) (r : List Int) (w : World) (hr0 : Kd.C (Kd.int .i64) w A0 l0.length l0) (hc0 : l0.length ≤ c0) (h : slices_Clone_int_int.f l0 = some r) :
  Calls Try.prog 116 #[.slice A0 l0.length c0] w fun e w' => ∃ v0_ : Value, e = .returned (v0_) ∧ Kd.R (Kd.int .i64) 3 w' w.heap.size (fun _ => True) v0_ r ∧ Below w.heap.size w w' := by
 have heq_ := fun W => Go.Lib.run_eql_slice_nil (P := Try.prog) W 38 3 A0 l0.length c0 0 0 Try.underlying38
 by_cases hA_ : A0.isNone = true
 ·obtain rfl : A0 = none := by simpa using hA_
  obtain rfl : l0 = [] := by
   rcases l0 with _ | ⟨x, xs⟩
   ·rfl
   ·obtain ⟨ad, e, _⟩ := hr0.2.2 (by simp)
    cases e
  obtain rfl : r = [] := by
   have h2 := h
   simp [slices_Clone_int_int.f] at h2
   first | exact h2 | exact h2.symm
  clear hA_ h hr0 heq_
  have heq_ := fun W => Go.Lib.run_eql_slice_nil (P := Try.prog) W 38 3 none 0 c0 0 0 Try.underlying38
  show Calls _ _ #[.slice none 0 c0] w _
  go_enter Try.func116, Try.ntmps116
  go_wp2
  go_ret
  exact ⟨_, rfl, Kd.R_nil _ _ _ _ _, Below.refl _ _⟩
 replace hA_ : A0.isNone = false := Bool.eq_false_iff.mpr hA_
 have HR0 := Aside0.mk hr0
 have HC0 := Aside0.mk hc0
 clear hr0 hc0
 have HB := Aside0.mk (Below.refl w.heap.size w)
 have H : ((some (([] : List Int) : List Int)).bind fun y349 => (if y349.length + l0.length < 17592186044416 then (some (y349 ++ l0)) else (none))) = some r := h
 clear h
 obtain ⟨y349, hy349⟩ : ∃ y_ : List Int, y_ = (([] : List Int)) := ⟨_, rfl⟩
 replace H : (if y349.length + l0.length < 17592186044416 then (some (y349 ++ l0)) else (none)) = some r := by first | (rw [hy349]; with_reducible exact H) | (have H2_ := (Option.bind_some _ _).symm.trans H; rw [hy349]; with_reducible exact H2_) | (have H2_ := (Option.bind_some _ _).symm.trans H; with_reducible exact H2_) | with_reducible exact H | (rw [hy349]; exact H) | exact H
 have Ny349 := Aside0.mk hy349
 clear hy349
 by_cases c2 : y349.length + l0.length < 17592186044416
 ·rw [if_pos c2] at H
  have LMc2 := Aside0.mk c2
  clear c2
  obtain ⟨y352, hy352⟩ : ∃ y_ : List Int, y_ = (y349 ++ l0) := ⟨_, rfl⟩
  replace H : (some y352) = some r := by first | (rw [hy352]; with_reducible exact H) | (have H2_ := (Option.bind_some _ _).symm.trans H; rw [hy352]; with_reducible exact H2_) | (have H2_ := (Option.bind_some _ _).symm.trans H; with_reducible exact H2_) | with_reducible exact H | (rw [hy352]; exact H) | exact H
  have Ny352 := Aside0.mk hy352
  clear hy352
  obtain rfl := Option.some.inj H
  go_enter Try.func116, Try.ntmps116
  go_wp2_with (first | ((with_reducible refine gate_dst (N := 5) rfl ?_); refine Kd.R_lit (Kd.int .i64) _ 3 ?hg (N := 5) ?hd (xs := ([] : List Int)) (inner := []) (ok := fun _ => True) (okp := fun _ => True) ?hr ?hp (fun _ hk => hk) trivial (Below.refl _ _) (Nat.le_refl _) (by simp) ?_; (case hd => rfl); (case hg => rfl); (case hr => first | (go_simp; done) | (go_simp; rfl)); (case hp => exact (Reps.none _ _)); intro v350 w3 ho4 hb hg_ hnew_; clear hg_ hnew_; (first | rw [← Ny349.out] at ho4 | (simp only [Int.reduceToNat] at ho4; rw [← Ny349.out] at ho4)); have HO351 := Aside0.mk (Kd.R_lower ho4 (below_size (bl HB.out))); replace HB := Aside0.mk (below_step (bl HB.out) hb); clear hb ho4) | ((with_reducible refine gate_builtin (b := .append) (xs := #[.tmp 5, .tmp 6]) rfl ?_); at_builtin; refine Kd.R_append_rows (Kd.int .i64) (w0 := w) w.heap.size rfl (.tmp 5) (.tmp 6) 38 3 (.int .i64 0) 8 rfl Try.underlying38 info3 rfl (by decide) (by omega) v350 y349 l0 _ _ _ (fun _ => True) (fun _ => False) rfl rfl ?aO ?aR (fun _ _ h => h) (fun _ h => h.elim) ?aF ?aB ?aS ?aL ?_; (case aR => exact cb (Kd.C_below HR0.out HB.out)); (case aB => exact (bl HB.out)); (case aF => exact (fun _ _ => trivial)); (case aO => exact (rk HO351.out)); (case aS => exact (below_size (bl HB.out))); (case aL => have := LMc2.out; omega); intro v353 w5 ho hb hg hat; rw [← Ny352.out] at ho; replace HB := Aside0.mk (hb); have HO354 := Aside0.mk (ho); clear HO351; clear ho hb hg hat))
  go_ret
  exact ⟨_, by first | rfl | (simp [errW_none, errW_some] <;> rfl) | (simp [*, errW_none, errW_some] <;> rfl), rk HO354.out, bl HB.out⟩
 ·rw [if_neg c2] at H
  exact absurd H (by simp)
def impl_Box_117.f (l0 : List (S98)) : Option ((List (S98))) := (some (([] : List (S98)) : List (S98))).bind fun y355 => (if y355.length + l0.length < 4398046511104 then (some (y355 ++ l0)) else (none))
set_option maxHeartbeats 8000000 in
set_option maxRecDepth 100000 in
theorem impl_Box_117.calls (A0 : Option Addr) (c0 : Nat) (l0 : List (S98)) (r : List (S98)) (w : World) (hr0 : Kd.C k98 w A0 l0.length l0) (hc0 : l0.length ≤ c0) (h : impl_Box_117.f l0 = some r) :
  Calls Try.prog 117 #[.slice A0 l0.length c0] w fun e w' => ∃ v0_ : Value, e = .returned (v0_) ∧ Kd.R k98 98 w' w.heap.size (fun _ => True) v0_ r ∧ Below w.heap.size w w' := by
 have heq_ := fun W => Go.Lib.run_eql_slice_nil (P := Try.prog) W 39 98 A0 l0.length c0 0 0 Try.underlying39
 by_cases hA_ : A0.isNone = true
 ·obtain rfl : A0 = none := by simpa using hA_
  obtain rfl : l0 = [] := by
   rcases l0 with _ | ⟨x, xs⟩
   ·rfl
   ·obtain ⟨ad, e, _⟩ := hr0.2.2 (by simp)
    cases e
  obtain rfl : r = [] := by
   have h2 := h
   simp [impl_Box_117.f] at h2
   first | exact h2 | exact h2.symm
  clear hA_ h hr0 heq_
  have heq_ := fun W => Go.Lib.run_eql_slice_nil (P := Try.prog) W 39 98 none 0 c0 0 0 Try.underlying39
  show Calls _ _ #[.slice none 0 c0] w _
  go_enter Try.func117, Try.ntmps117
  go_wp2
  go_ret
  exact ⟨_, rfl, Kd.R_nil _ _ _ _ _, Below.refl _ _⟩
 replace hA_ : A0.isNone = false := Bool.eq_false_iff.mpr hA_
 have HR0 := Aside0.mk hr0
 have HC0 := Aside0.mk hc0
 clear hr0 hc0
 have HB := Aside0.mk (Below.refl w.heap.size w)
 have H : ((some (([] : List (S98)) : List (S98))).bind fun y355 => (if y355.length + l0.length < 4398046511104 then (some (y355 ++ l0)) else (none))) = some r := h
 clear h
 obtain ⟨y355, hy355⟩ : ∃ y_ : List (S98), y_ = (([] : List (S98))) := ⟨_, rfl⟩
 replace H : (if y355.length + l0.length < 4398046511104 then (some (y355 ++ l0)) else (none)) = some r := by first | (rw [hy355]; with_reducible exact H) | (have H2_ := (Option.bind_some _ _).symm.trans H; rw [hy355]; with_reducible exact H2_) | (have H2_ := (Option.bind_some _ _).symm.trans H; with_reducible exact H2_) | with_reducible exact H | (rw [hy355]; exact H) | exact H
 have Ny355 := Aside0.mk hy355
 clear hy355
 by_cases c2 : y355.length + l0.length < 4398046511104
 ·rw [if_pos c2] at H
  have LMc2 := Aside0.mk c2
  clear c2
  obtain ⟨y358, hy358⟩ : ∃ y_ : List (S98), y_ = (y355 ++ l0) := ⟨_, rfl⟩
  replace H : (some y358) = some r := by first | (rw [hy358]; with_reducible exact H) | (have H2_ := (Option.bind_some _ _).symm.trans H; rw [hy358]; with_reducible exact H2_) | (have H2_ := (Option.bind_some _ _).symm.trans H; with_reducible exact H2_) | with_reducible exact H | (rw [hy358]; exact H) | exact H
  have Ny358 := Aside0.mk hy358
  clear hy358
  obtain rfl := Option.some.inj H
  go_enter Try.func117, Try.ntmps117
  go_wp2_with (first | ((with_reducible refine gate_dst (N := 5) rfl ?_); refine Kd.R_lit k98 _ 98 ?hg (N := 5) ?hd (xs := ([] : List (S98))) (inner := []) (ok := fun _ => True) (okp := fun _ => True) ?hr ?hp (fun _ hk => hk) trivial (Below.refl _ _) (Nat.le_refl _) (by simp) ?_; (case hd => rfl); (case hg => rfl); (case hr => first | (go_simp; done) | (go_simp; rfl)); (case hp => exact (Reps.none _ _)); intro v356 w3 ho4 hb hg_ hnew_; clear hg_ hnew_; (first | rw [← Ny355.out] at ho4 | (simp only [Int.reduceToNat] at ho4; rw [← Ny355.out] at ho4)); have HO357 := Aside0.mk (Kd.R_lower ho4 (below_size (bl HB.out))); replace HB := Aside0.mk (below_step (bl HB.out) hb); clear hb ho4) | ((with_reducible refine gate_builtin (b := .append) (xs := #[.tmp 5, .tmp 6]) rfl ?_); at_builtin; refine Kd.R_append_rows k98 (w0 := w) w.heap.size rfl (.tmp 5) (.tmp 6) 39 98 (.agg #[(.int .i64 0), (.int .i64 0), (.int .i64 0), (.bool false)]) 32 rfl Try.underlying39 info98 rfl (by decide) (by omega) v356 y355 l0 _ _ _ (fun _ => True) (fun _ => False) rfl rfl ?aO ?aR (fun _ _ h => h) (fun _ h => h.elim) ?aF ?aB ?aS ?aL ?_; (case aR => exact cb (Kd.C_below HR0.out HB.out)); (case aB => exact (bl HB.out)); (case aF => exact (fun _ _ => trivial)); (case aO => exact (rk HO357.out)); (case aS => exact (below_size (bl HB.out))); (case aL => have := LMc2.out; omega); intro v359 w5 ho hb hg hat; rw [← Ny358.out] at ho; replace HB := Aside0.mk (hb); have HO360 := Aside0.mk (ho); clear HO357; clear ho hb hg hat))
  go_ret
  exact ⟨_, by first | rfl | (simp [errW_none, errW_some] <;> rfl) | (simp [*, errW_none, errW_some] <;> rfl), rk HO360.out, bl HB.out⟩
 ·rw [if_neg c2] at H
  exact absurd H (by simp)
def impl_copyColumn.f (a0_0 : Int) (l0_1 : List Int) (l0_2 : List (S98)) : Option (Int × List Int × (List (S98))) := (slices_Clone_int_int.f l0_1).bind fun t363 => ((impl_Box_117.f l0_2).bind fun t366 => (some (a0_0, t363, t366)))
def impl_copyColumn.T1 : Bool × List (List Nat × List Nat) := (true, [([], []), ([0], [0]), ([1], [1]), ([], []), ([3], [3]), ([4, 2], [4]), ([0, 1, 2, 3, 4], []), ([6, 2, 5, 0, 1, 2, 3, 4], [2, 6]), ([0, 1, 2, 3, 4, 5, 6, 7], []), ([8, 5, 7, 0, 1, 2, 3, 4, 5, 6, 7], [5, 8])])
def impl_copyColumn.B1 : List Nat := [0, 1, 3, 0, 8, 31, 31, 127, 255, 511]
theorem impl_copyColumn.tab1 : rtab .any (opsOf Try.f81 1) = impl_copyColumn.T1 := by kernel_rfl
theorem impl_copyColumn.bits1 : waitsOk impl_copyColumn.T1.2 impl_copyColumn.B1 = true := by kernel_rfl
set_option maxHeartbeats 8000000 in
set_option maxRecDepth 100000 in
theorem impl_copyColumn.calls (a0_0 : Int) (A0_1 : Option Addr) (c0_1 : Nat) (l0_1 : List Int) (A0_2 : Option Addr) (c0_2 : Nat) (l0_2 : List (S98)) (r1 : Int) (r2 : List Int) (r3 : List (S98)) (w : World) (hr0_1 : Kd.C (Kd.int .i64) w A0_1 l0_1.length l0_1) (hc0_1 : l0_1.length ≤ c0_1) (hr0_2 : Kd.C k98 w A0_2 l0_2.length l0_2) (hc0_2 : l0_2.length ≤ c0_2) (h : impl_copyColumn.f a0_0 l0_1 l0_2 = some (r1, r2, r3)) :
  Calls Try.prog 81 #[.agg #[.int .i64 a0_0, .slice A0_1 l0_1.length c0_1, .slice A0_2 l0_2.length c0_2]] w fun e w' => ∃ v1_ v2_ : Value, e = .returned (.agg #[.int .i64 r1, v1_, v2_]) ∧ Kd.R (Kd.int .i64) 3 w' w.heap.size (fun _ => True) v1_ r2 ∧ Kd.R k98 98 w' w.heap.size (fun _ => True) v2_ r3 ∧ Below w.heap.size w w' := by
 have hu41 := Try.underlying41
 have HR0_1 := Aside0.mk hr0_1
 have HC0_1 := Aside0.mk hc0_1
 clear hr0_1 hc0_1
 have HR0_2 := Aside0.mk hr0_2
 have HC0_2 := Aside0.mk hc0_2
 clear hr0_2 hc0_2
 have HB := Aside0.mk (Below.refl w.heap.size w)
 have H : ((slices_Clone_int_int.f l0_1).bind fun t363 => ((impl_Box_117.f l0_2).bind fun t366 => (some (a0_0, t363, t366)))) = some (r1, r2, r3) := h
 clear h
 replace H := Option.bind_eq_some_iff.mp H
 obtain ⟨t363, A20, H⟩ := H
 try dsimp only at H
 have A2 := Aside0.mk A20
 clear A20
 replace H := Option.bind_eq_some_iff.mp H
 obtain ⟨t366, A30, H⟩ := H
 try dsimp only at H
 have A3 := Aside0.mk A30
 clear A30
 simp only [Option.some.injEq, Prod.mk.injEq] at H
 obtain ⟨rfl, rfl, rfl⟩ := H
 go_enter Try.func81, Try.ntmps81
 try go_wp2_with (first | ((with_reducible refine gate_dst (N := 1) rfl ?_); refine bx (cs := #[.int .i64 a0_0, .slice A0_1 l0_1.length c0_1, .slice A0_2 l0_2.length c0_2]) (t := 41) fun gb361 hg w4 hbox hb => ?_; have BK361 := Aside0.mk (hbox); have GW361 := Aside0.mk (gs HB.out hg); have GE361 := Aside0.mk (gs HB.out hg); replace HB := Aside0.mk (below_step (bl HB.out) hb); clear hb hbox hg) | ((with_reducible refine gate_dst (N := 2) rfl ?_); refine bx (cs := #[.int .i64 0, .slice none 0 0, .slice none 0 0]) (t := 41) fun gb362 hg w5 hbox hb => ?_; have BK362 := Aside0.mk (hbox); have GW362 := Aside0.mk (gs HB.out hg); have GE362 := Aside0.mk (gs HB.out hg); replace HB := Aside0.mk (below_step (bl HB.out) hb); have NB361_362 := Aside0.mk ((nl BK361.out hg)); have NB362_361 := Aside0.mk ((ng BK361.out hg)); replace BK361 := Aside0.mk (bb BK361.out hb); clear hb hbox hg))
 replace BK361 := Aside0.mk (blk_drew BK361.out)
 replace BK362 := Aside0.mk (blk_drew BK362.out)
 replace HB := Aside0.mk (below_drew1 HB.out)
 refine start_ (n := 10) (S := fun w' => w'.cell? ⟨gb361, 0, none⟩ = some (.int .i64 a0_0) ∧ w'.cell? ⟨gb361, 1, none⟩ = some (.slice A0_1 l0_1.length c0_1) ∧ w'.cell? ⟨gb361, 2, none⟩ = some (.slice A0_2 l0_2.length c0_2)) (ds := [7, 9]) #[false, false, false, false, false, false, false, false, false, false] (by kernel_rfl) rfl rfl ⟨(blk_cell BK361.out 0).trans rfl, (blk_cell BK361.out 1).trans rfl, (blk_cell BK361.out 2).trans rfl⟩ (fun hHeld => ?_); refine with_tabW impl_copyColumn.tab1 impl_copyColumn.bits1 (fun HT_ HW_ => ?_)
 generalize w5.drew = w6 at BK361 BK362 HB hHeld ⊢
 refine puA (i := 0) (N := some 3) HT_.out ?_
 refine puA (i := 3) (N := some 6) HT_.out ?_
 refine tkA3 (i := 1) (N := some 4) HT_.out HW_.out hHeld ?_
 refine tkA3 (i := 4) (N := some 7) HT_.out HW_.out hHeld ?_
 refine onA (i := 2) (N := some 5) HT_.out (fun K hK => ?_)
 refine goes_ Try.func116 (by kernel_rfl) rfl #[.slice A0_1 l0_1.length c0_1] (by rfl) rfl rfl mapd ?_
 with_reducible refine (slices_Clone_int_int.calls _ _ l0_1 t363 _ ?side1 ?side2 A2.out).mono ?_
 (case side1 => exact cb (Kd.C_below HR0_1.out HB.out))
 (case side2 => exact HC0_1.out)
 rintro e w7 ⟨v364, rfl, ho0, hb⟩
 refine ⟨_, rfl, ?_⟩
 have HO365 := Aside0.mk (Kd.R_lower ho0 (below_size (bl HB.out)))
 replace BK361 := Aside0.mk (bb BK361.out hb)
 replace BK362 := Aside0.mk (bb BK362.out hb)
 replace HB := Aside0.mk (below_step (bl HB.out) hb)
 (try clear hb)
 (try clear hb2)
 (try clear hk)
 (try clear hi)
 (try clear ho0)
 refine hK.out _ _ ⟨(blk_cell BK361.out 0).trans rfl, (blk_cell BK361.out 1).trans rfl, (blk_cell BK361.out 2).trans rfl⟩ (fun hHeld => ?_)
 clear hK K
 refine norm_ (a' := ?_) ?_ ?_
 rotate_left
 ·show Act.put _ (some 5) _ = _
  simp only [Act.put, List.setIfInBounds_toArray, List.set_cons_zero, List.set_cons_succ, i64_w, i32_w]
  rfl
 refine puA (i := 6) (N := some 9) HT_.out ?_
 refine onA (i := 5) (N := some 8) HT_.out (fun K hK => ?_)
 refine goes_ Try.func117 (by kernel_rfl) rfl #[.slice A0_2 l0_2.length c0_2] (by rfl) rfl rfl mapd ?_
 with_reducible refine (impl_Box_117.calls _ _ l0_2 t366 _ ?side1 ?side2 A3.out).mono ?_
 (case side1 => exact cb (Kd.C_below HR0_2.out HB.out))
 (case side2 => exact HC0_2.out)
 rintro e w8 ⟨v367, rfl, ho0, hb⟩
 refine ⟨_, rfl, ?_⟩
 replace HO365 := Aside0.mk (Kd.R_below (rk HO365.out) hb)
 have HO368 := Aside0.mk (Kd.R_lower ho0 (below_size (bl HB.out)))
 replace BK361 := Aside0.mk (bb BK361.out hb)
 replace BK362 := Aside0.mk (bb BK362.out hb)
 replace HB := Aside0.mk (below_step (bl HB.out) hb)
 (try clear hb)
 (try clear hb2)
 (try clear hk)
 (try clear hi)
 (try clear ho0)
 obtain ⟨Ao9, co9, eo9⟩ := Kd.R_slice HO365.out
 (first | subst eo9 | (injection eo9 with f1_ f2_ f3_; have f4_ := f1_.symm; have f5_ := f3_.symm; clear f1_ f2_ f3_; subst f4_; subst f5_))
 obtain ⟨Ao11, co11, eo11⟩ := Kd.R_slice HO368.out
 (first | subst eo11 | (injection eo11 with f1_ f2_ f3_; have f4_ := f1_.symm; have f5_ := f3_.symm; clear f1_ f2_ f3_; subst f4_; subst f5_))
 refine hK.out _ _ ⟨(blk_cell BK361.out 0).trans rfl, (blk_cell BK361.out 1).trans rfl, (blk_cell BK361.out 2).trans rfl⟩ (fun hHeld => ?_)
 clear hK K
 refine norm_ (a' := ?_) ?_ ?_
 rotate_left
 ·show Act.put _ (some 8) _ = _
  simp only [Act.put, List.setIfInBounds_toArray, List.set_cons_zero, List.set_cons_succ, i64_w, i32_w]
  rfl
 refine last_ (i := 7) (N := none) #[true, true, true, true, true, true, true, true, false, false] rfl rfl (one_of HT_.out (by kernel_rfl)) (by decide) (fun K hK => ?_)
 have hs10 : w8.cell? ⟨gb361, 1, none⟩ = some (.slice A0_1 l0_1.length c0_1) := (blk_cell BK361.out 1).trans rfl
 have hfs10 := blk_frozen BK361.out 1
 have hns10_1 := NB362_361.out
 have hms10_1 := NB361_362.out
 refine skip_ (w1 := ?_) (by rfl) rfl ?_ ?_
 rotate_left
 ·go_simp
  rfl
 refine hK.out _ _ ?_
 clear hK K
 refine puA (i := 8) (N := some 10) HT_.out ?_
 refine last_ (i := 9) (N := none) #[true, true, true, true, true, true, true, true, true, true] rfl rfl (one_of HT_.out (by kernel_rfl)) (by decide) (fun K hK => ?_)
 have hs12 : w8.cell? ⟨gb361, 2, none⟩ = some (.slice A0_2 l0_2.length c0_2) := (blk_cell BK361.out 2).trans rfl
 have hfs12 := blk_frozen BK361.out 2
 have hns12_1 := NB362_361.out
 have hms12_1 := NB361_362.out
 refine skip_ (w1 := ?_) (by rfl) rfl ?_ ?_
 rotate_left
 ·go_simp
  rfl
 refine hK.out _ _ ?_
 clear hK K
 refine done_ (done_of HT_.out (by kernel_rfl)) ?_
 have hnb13 := NB361_362.out
 have hnc13 := NB362_361.out
 obtain ⟨hcz14_0, hcz14_1, hcz14_2, hfz14_0, hfz14_1, hfz14_2⟩ := cz3 BK361.out
 obtain ⟨hcz15_0, hcz15_1, hcz15_2, hfz15_0, hfz15_1, hfz15_2⟩ := cz3 BK362.out
 try go_wp2
 refine bodyPost_ret (results_cell_row rfl _ _ gb362 41 #[.int .i64 a0_0, .slice Ao9 t363.length co9, .slice Ao11 t366.length co11] (0, 0) _ rfl (by refine bk ?_; refine blk_put (cs := #[.int .i64 a0_0, .slice Ao9 t363.length co9, .slice none 0 0]) ?_ 2 _ rfl; refine bk ?_; refine blk_put (cs := #[.int .i64 a0_0, .slice none 0 0, .slice none 0 0]) ?_ 1 _ rfl; refine bk ?_; refine blk_put (cs := #[.int .i64 0, .slice none 0 0, .slice none 0 0]) ?_ 0 _ rfl; refine bk ?_; refine blk_far ?_ NB362_361.out _; refine bk ?_; refine blk_far ?_ NB362_361.out _; refine bk ?_; exact BK362.out) Try.underlying41 rfl (by kernel_rfl)) rfl ?_
 exact ⟨_, _, by first | rfl | (simp [errW_none, errW_some] <;> rfl) | (simp [*, errW_none, errW_some] <;> rfl), by refine rk ?_; exact Kd.R_mono (Kd.R_far (p := ⟨gb362, 2, none⟩) (Kd.R_far (p := ⟨gb362, 1, none⟩) (Kd.R_far (p := ⟨gb362, 0, none⟩) (Kd.R_far (p := ⟨gb361, 2, none⟩) (Kd.R_far (p := ⟨gb361, 1, none⟩) (Kd.R_types (Kd.R_types HO365.out BK361.out (by decide)) BK362.out (by decide)) (fun _ hk => hk.1.2) (.slice Ao9 t363.length co9)) (fun _ hk => hk.1.2) (.slice Ao11 t366.length co11)) (fun _ hk => hk.2) (.int .i64 a0_0)) (fun _ hk => hk.2) (.slice Ao9 t363.length co9)) (fun _ hk => hk.2) (.slice Ao11 t366.length co11)) (fun _ hk => trivial), by refine rk ?_; exact Kd.R_mono (Kd.R_far (p := ⟨gb362, 2, none⟩) (Kd.R_far (p := ⟨gb362, 1, none⟩) (Kd.R_far (p := ⟨gb362, 0, none⟩) (Kd.R_far (p := ⟨gb361, 2, none⟩) (Kd.R_far (p := ⟨gb361, 1, none⟩) (Kd.R_types (Kd.R_types HO368.out BK361.out (by decide)) BK362.out (by decide)) (fun _ hk => hk.1.2) (.slice Ao9 t363.length co9)) (fun _ hk => hk.1.2) (.slice Ao11 t366.length co11)) (fun _ hk => hk.2) (.int .i64 a0_0)) (fun _ hk => hk.2) (.slice Ao9 t363.length co9)) (fun _ hk => hk.2) (.slice Ao11 t366.length co11)) (fun _ hk => trivial), bl HB.out⟩
def impl_copyBank.l0 : Nat → List (S41) → List (S41) → Int → Int → Option ((List (S41)))
 | 0, _, _, _, _ => none
 | k + 1, x3, x6, x7, x8 => if x8 < x7 then (if 0 ≤ x8 then (if x8 < (x6.length : Int) then ((impl_copyColumn.f ((rd_T41 x6 x8).f0) ((rd_T41 x6 x8).f1) ((rd_T41 x6 x8).f2)).bind fun bt385 => (if x3.length < 2513169434916 then (impl_copyBank.l0 k (x3 ++ [(⟨bt385.1, bt385.2.1, bt385.2.2⟩ : S41)]) x6 x7 (wrap64 (x8 + 1))) else (none))) else (none)) else (none)) else (some x3)
def impl_copyBank.f (k : Nat) (l0 : List (S41)) : Option ((List (S41))) := impl_copyBank.l0 k ([] : List (S41)) l0 (l0.length : Int) 0
set_option maxHeartbeats 8000000 in
set_option maxRecDepth 100000 in
theorem impl_copyBank.calls (k : Nat) (A0 : Option Addr) (c0 : Nat) (l0 : List (S41)) (r : List (S41)) (w : World) (hr0 : Kd.C k41 w A0 l0.length l0) (hc0 : l0.length ≤ c0) (h : impl_copyBank.f k l0 = some r) :
  Calls Try.prog 72 #[.slice A0 l0.length c0] w fun e w' => ∃ v0_ : Value, e = .returned (v0_) ∧ Kd.S k41 41 w' w.heap.size (fun _ => True) v0_ r ∧ Below w.heap.size w w' := by
 have hu41 := Try.underlying41
 have HR0 := Aside0.mk hr0
 have HC0 := Aside0.mk hc0
 clear hr0 hc0
 have HB := Aside0.mk (Below.refl w.heap.size w)
 have H : (impl_copyBank.l0 k ([] : List (S41)) l0 (l0.length : Int) 0) = some r := h
 clear h
 have H' := Aside0.mk H
 clear H
 go_enter Try.func72, Try.ntmps72
 go_wp2
 go_loopg [3, 8] k (fun kq v3 v8 w' => ∃ (x3_1 : List (S41)) (x8_1 : Int), v8 = .int .i64 x8_1 ∧ Aside0 (impl_copyBank.l0 kq x3_1 l0 (l0.length : Int) x8_1 = some r) ∧ Aside0 (kq ≤ k) ∧ Aside0 (Kd.S k41 41 w' w.heap.size (fun _ => True) v3 x3_1) ∧ Aside0 (Below w.heap.size w w'))
 case atStart => exact ⟨(([] : List (S41))), (0), (by first | rfl | (simp; done) | (simp [*]; done)), H', ⟨Nat.le_refl _⟩, ⟨by first | exact Kd.S_nil _ _ _ _ _ | exact Kd.N_nil _ _ _ _ _ | exact Kd.V_nil _ _ _ _ _ | exact Kd.Q_nil _ _ _ _ _ | exact Kd.R_nil _ _ _ _ _⟩, ⟨bl HB.out⟩⟩
 case round =>
  clear H'
  obtain ⟨x3_1, x8_1, rfl, HA, HK1, HO_3, HB⟩ := hrel
  cases gk with
  | zero => exact absurd HA.out (by simp [impl_copyBank.l0])
  | succ k1 =>
   have H := HA.out
   clear HA
   simp only [impl_copyBank.l0] at H
   by_cases c2 : x8_1 < (l0.length : Int)
   ·rw [if_pos c2] at H
    have c2b0 : decide (x8_1 < (l0.length : Int)) = true := decide_eq_true c2
    clear c2
    by_cases c3 : 0 ≤ x8_1
    ·rw [if_pos c3] at H
     have c3b0 : decide (0 ≤ x8_1) = true := decide_eq_true c3
     clear c3
     by_cases c4 : x8_1 < (l0.length : Int)
     ·rw [if_pos c4] at H
      have c4b0 : decide (x8_1 < (l0.length : Int)) = true := decide_eq_true c4
      clear c4
      replace H := Option.bind_eq_some_iff.mp H
      obtain ⟨⟨t385, t386, t389⟩, A50, H⟩ := H
      try dsimp only at H
      have A5 := Aside0.mk A50
      clear A50
      by_cases c6 : x3_1.length < 2513169434916
      ·rw [if_pos c6] at H
       have LMc6 := Aside0.mk c6
       clear c6
       obtain ⟨y392, hy392⟩ : ∃ y_ : List (S41), y_ = (x3_1 ++ [(⟨t385, t386, t389⟩ : S41)]) := ⟨_, rfl⟩
       replace H : (impl_copyBank.l0 k1 y392 l0 (l0.length : Int) (wrap64 (x8_1 + 1))) = some r := by first | (rw [hy392]; with_reducible exact H) | (have H2_ := (Option.bind_some _ _).symm.trans H; rw [hy392]; with_reducible exact H2_) | (have H2_ := (Option.bind_some _ _).symm.trans H; with_reducible exact H2_) | with_reducible exact H | (rw [hy392]; exact H) | exact H
       have Ny392 := Aside0.mk hy392
       clear hy392
       have H' := Aside0.mk H
       clear H
       have p383 : 0 ≤ (x8_1 : Int) := of_decide_eq_true asm
       have q383 : x8_1 < (l0.length : Int) := of_decide_eq_true asm
       obtain ⟨ad383, A383_1, c383_1, A383_2, c383_2, e383, hx383_0, hx383_1, hx383_2, hl383_1, hi383_1, hl383_2, hi383_2⟩ := at_T41 HR0.out x8_1 p383 q383
       cases e383
       replace hx383_0 := (HB.out.cell (World.block_lt_of_cell? w _ hx383_0)).trans hx383_0
       replace hx383_1 := (HB.out.cell (World.block_lt_of_cell? w _ hx383_1)).trans hx383_1
       replace hx383_2 := (HB.out.cell (World.block_lt_of_cell? w _ hx383_2)).trans hx383_2
       have HR383_1 := Aside0.mk hi383_1
       have HC383_1 := Aside0.mk hl383_1
       clear hi383_1 hl383_1
       have HR383_2 := Aside0.mk hi383_2
       have HC383_2 := Aside0.mk hl383_2
       clear hi383_2 hl383_2
       replace p383 := eq_true p383
       replace q383 := eq_true q383
       go_wp2_with (first | ((with_reducible refine gate_dst (N := 5) rfl ?_); refine bx (cs := #[.int .i64 0, .slice none 0 0, .slice none 0 0]) (t := 41) fun gb384 hg w7 hbox hb => ?_; replace HO_3 := Aside0.mk (Kd.S_below (Kd.S_elderB (by (with_reducible repeat (first | apply Kd.S_alloc | apply Kd.S_drewN | apply Kd.S_drew)); exact HO_3.out) gb384 (Nat.le_of_eq hg.symm)) hb); have BK384 := Aside0.mk (hbox); have GW384 := Aside0.mk (gs HB.out hg); have GE384 := Aside0.mk (gs HB.out hg); replace HB := Aside0.mk (below_step (bl HB.out) hb); clear hb hbox hg; obtain ⟨hcz8_0, hcz8_1, hcz8_2, hfz8_0, hfz8_1, hfz8_2⟩ := cz3 BK384.out) | ((with_reducible refine gate_callee (f := 81) rfl ?_); refine goesL_ (some 14) rfl rfl Try.func81 (by kernel_rfl) rfl #[.agg #[.int .i64 ((rd_T41 l0 x8_1).f0), .slice A383_1 ((rd_T41 l0 x8_1).f1).length c383_1, .slice A383_2 ((rd_T41 l0 x8_1).f2).length c383_2]] rfl mapd ?_; (with_reducible refine (impl_copyColumn.calls ((rd_T41 l0 x8_1).f0) _ _ ((rd_T41 l0 x8_1).f1) _ _ ((rd_T41 l0 x8_1).f2) t385 t386 t389 _ ?side1 ?side2 ?side3 ?side4 A5.out).mono ?_); (case side1 => exact Kd.C_below HR383_1.out (bl HB.out)); (case side2 => exact HC383_1.out); (case side3 => exact Kd.C_below HR383_2.out (bl HB.out)); (case side4 => exact HC383_2.out); rintro e w9 ⟨v387, v390, rfl, ho0, ho1, hb⟩; refine ⟨_, rfl, ?_⟩; replace HO_3 := Aside0.mk (Kd.S_mono (Kd.S_told (Kd.S_told (Kd.S_old (by (with_reducible repeat (first | apply Kd.S_alloc | apply Kd.S_drewN | apply Kd.S_drew)); exact (Kd.S_mono (Kd.S_far (p := ⟨gb384, 2, none⟩) (Kd.S_far (p := ⟨gb384, 1, none⟩) (Kd.S_far (p := ⟨gb384, 0, none⟩) (Kd.S_mono HO_3.out (fun k_ hk => (⟨hk, hk.2⟩ : _ ∧ k_ ≠ gb384))) (fun _ hk => hk.2) (.int .i64 ((rd_T41 l0 x8_1).f0))) (fun _ hk => hk.2) (.slice A383_1 ((rd_T41 l0 x8_1).f1).length c383_1)) (fun _ hk => hk.2) (.slice A383_2 ((rd_T41 l0 x8_1).f2).length c383_2)) (fun _ h_ => h_.1))) hb) (Kd.R_base ho0)) (Kd.R_base ho1)) (fun _ h_ => h_.1)); have HO388 := Aside0.mk (Kd.R_lower ho0 (below_size (bl HB.out))); have HO391 := Aside0.mk (Kd.R_lower ho1 (below_size (bl HB.out))); replace BK384 := Aside0.mk (blk_below (g := gb384) (o := .cells #[.int .i64 ((rd_T41 l0 x8_1).f0), .slice A383_1 ((rd_T41 l0 x8_1).f1).length c383_1, .slice A383_2 ((rd_T41 l0 x8_1).f2).length c383_2] 41 (0, 0)) (by refine bk ?_; refine blk_put (cs := #[.int .i64 ((rd_T41 l0 x8_1).f0), .slice A383_1 ((rd_T41 l0 x8_1).f1).length c383_1, .slice none 0 0]) ?_ 2 _ rfl; refine bk ?_; refine blk_put (cs := #[.int .i64 ((rd_T41 l0 x8_1).f0), .slice none 0 0, .slice none 0 0]) ?_ 1 _ rfl; refine bk ?_; refine blk_put (cs := #[.int .i64 0, .slice none 0 0, .slice none 0 0]) ?_ 0 _ rfl; refine bk ?_; exact BK384.out) hb); replace HB := Aside0.mk (below_step (bl HB.out) hb); (try clear hb); (try clear hb2); (try clear hk); (try clear hi); (try clear ho0); (try clear ho1); obtain ⟨Ao11, co11, eo11⟩ := Kd.R_slice HO388.out; subst eo11; obtain ⟨Ao12, co12, eo12⟩ := Kd.R_slice HO391.out; subst eo12) | ((with_reducible refine gate_builtin (b := .append) (xs := #[.tmp 12, .tmp 15]) rfl ?_); at_builtin; refine Kd.S_append k41 (w0 := w) w.heap.size rfl (.tmp 12) (.tmp 15) 26 41 (.agg #[(.int .i64 0), (.slice none 0 0), (.slice none 0 0)]) 56 rfl Try.underlying26 info41 rfl (by decide) (by omega) u3 x3_1 (⟨t385, t386, t389⟩ : S41) [.int .i64 t385, .slice Ao11 t386.length co11, .slice Ao12 t389.length co12] (fun k_ => k_ ≠ gb384) (fun k_ => some k_ = (.slice Ao11 t386.length co11 : Value).ownBlock ∨ some k_ = (.slice Ao12 t389.length co12 : Value).ownBlock) rfl rfl ?aP (fun k_ hk_ => hk_.elim (fun h_ => ((Kd.R_mono (ok' := fun k_ => ((fun k_ => k_ ≠ gb384)) k_ ∧ some k_ ≠ (u3 : Value).ownBlock) (Kd.R_types (Kd.R_apart' (HO388.out) (Kd.S_typed HO_3.out) (by decide)) BK384.out (by decide)) (fun k_ hk => ⟨hk.2, hk.1.2⟩))).1 k_ h_.symm) (fun h_ => ((Kd.R_mono (ok' := fun k_ => ((fun k_ => k_ ≠ gb384)) k_ ∧ some k_ ≠ (u3 : Value).ownBlock) (Kd.R_types (Kd.R_apart' (HO391.out) (Kd.S_typed HO_3.out) (by decide)) BK384.out (by decide)) (fun k_ hk => ⟨hk.2, hk.1.2⟩))).1 k_ h_.symm)) ?aF ?aO ?aB ?aS ?aL ?_; (case aP => exact k41_mkM _ _ _ (⟨t385, t386, t389⟩ : S41) (Kd.R_mono (Kd.R_tight rfl (Kd.R_mono (ok' := fun k_ => ((fun k_ => k_ ≠ gb384)) k_ ∧ some k_ ≠ (u3 : Value).ownBlock) (Kd.R_types (Kd.R_apart' (HO388.out) (Kd.S_typed HO_3.out) (by decide)) BK384.out (by decide)) (fun k_ hk => ⟨hk.2, hk.1.2⟩))) (fun _ h_ => Or.inl h_)) (Kd.R_mono (Kd.R_tight rfl (Kd.R_mono (ok' := fun k_ => ((fun k_ => k_ ≠ gb384)) k_ ∧ some k_ ≠ (u3 : Value).ownBlock) (Kd.R_types (Kd.R_apart' (HO391.out) (Kd.S_typed HO_3.out) (by decide)) BK384.out (by decide)) (fun k_ hk => ⟨hk.2, hk.1.2⟩))) (fun _ h_ => Or.inr (h_)))); (case aB => exact (bl HB.out)); (case aF => exact (fun k_ hk => Kd.freshB (g := gb384) (o := .cells #[.int .i64 ((rd_T41 l0 x8_1).f0), .slice A383_1 ((rd_T41 l0 x8_1).f1).length c383_1, .slice A383_2 ((rd_T41 l0 x8_1).f2).length c383_2] 41 (0, 0)) (bk BK384.out) k_ hk)); (case aO => exact (by (with_reducible repeat (first | apply Kd.S_alloc | apply Kd.S_drewN | apply Kd.S_drew)); exact Kd.S_mono HO_3.out (fun k_ hk => ⟨hk.1.1.2, fun e_ => e_.elim (fun h_ => hk.1.2 h_) (fun h_ => hk.2 h_)⟩))); (case aS => exact (below_size (bl HB.out))); (case aL => have := LMc6.out; omega); intro v393 w10 ho hb hg hat; rw [← Ny392.out] at ho; replace BK384 := Aside0.mk (blk_grown (g := gb384) (o := .cells #[.int .i64 ((rd_T41 l0 x8_1).f0), .slice A383_1 ((rd_T41 l0 x8_1).f1).length c383_1, .slice A383_2 ((rd_T41 l0 x8_1).f2).length c383_2] 41 (0, 0)) (bk BK384.out) hg (Kd.S_away HO_3.out (fun _ hk => hk.1.1.2))); replace HB := Aside0.mk (hb); have HO394 := Aside0.mk (ho); clear HO_3 HO388 HO391; clear ho hb hg hat))
       go_roundg k1
       case measure => have := HK1.out; omega
       case rel => exact ⟨(y392), (wrap64 (x8_1 + 1)), (by first | rfl | (simp; done) | (simp [*]; done)), H', ⟨by have := HK1.out; omega⟩, ⟨by (with_reducible repeat (first | apply Kd.S_alloc | apply Kd.S_drewN | apply Kd.S_drew)); exact Kd.S_mono HO394.out (fun _ hk => trivial)⟩, ⟨bl HB.out⟩⟩
      ·rw [if_neg c6] at H
       exact absurd H (by simp)
     ·rw [if_neg c4] at H
      exact absurd H (by simp)
    ·rw [if_neg c3] at H
     exact absurd H (by simp)
   ·rw [if_neg c2] at H
    have c2b0 : decide (x8_1 < (l0.length : Int)) = false := decide_eq_false c2
    clear c2
    obtain rfl := Option.some.inj H
    go_wp2
    go_ret
    exact ⟨_, by first | rfl | (simp [errW_none, errW_some] <;> rfl) | (simp [*, errW_none, errW_some] <;> rfl), by (with_reducible repeat (first | apply Kd.S_alloc | apply Kd.S_drewN | apply Kd.S_drew)); exact HO_3.out, bl HB.out⟩
end Go.Proofs.Ytbpjidekjogfeaa.A
