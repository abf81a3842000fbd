/- Used by the law FnDoublings. -/
import Derived.Test.YtbpjidekjogfeaaZFnDoublingsx16
import Derived.Test.YtbpjidekjogfeaaZFnDoublingsx17
import Derived.Test.YtbpjidekjogfeaaZFnDoublingsx19
import Derived.Test.YtbpjidekjogfeaaZFnDoublingsx21
import Derived.Test.YtbpjidekjogfeaaZFnDoublingsh
namespace Go.Proofs.Ytbpjidekjogfeaa.A
open Go.RowKit Go.Proofs.YtbpjidekjogfeaaW.PrintWords Go.Proofs.YtbpjidekjogfeaaW.PrintLast Go.Proofs.YtbpjidekjogfeaaW.PrintMore
attribute [local go_sem] max2_int min2_int max_two min_two max_three min_three max_four min_four   
set_option linter.unusedVariables false
set_option linter.unusedSimpArgs false
mutual
def spec_l02Fill.l0 : Nat → Int → Int → Int → Int → List Int → List (S98) → Int → Int → Int → Int → List Int → List (S98) → Option (Int × List Int × (List (S98)))
 | 0, _, _, _, _, _, _, _, _, _, _, _, _ => none
 | k + 1, x2, x3, x10, x475000, x475001, x475002, x476000, x476001, x476002, x484000, x484001, x484002 => if x10 < (x475002.length : Int) then (if 0 ≤ x10 then (if ((rd_T98 x475002 x10).f0) = x476001 then (if x484002.length < 4398046511104 then ((some (x484002 ++ [(⟨x476001, x3, x2, false⟩ : S98)] : List (S98))).bind fun y486 => (if x3 < x476002 then (if y486.length < 4398046511104 then (spec_l02Fill.j1 k x2 x3 x10 x475000 x475001 x475002 x476000 x476001 x476002 x484000 x484001 (y486 ++ [(⟨wrap64 (x476001 + x3), wrap64 (x476002 - x3), 0, false⟩ : S98)]) ((rd_T98 x475002 x10).f0) ((rd_T98 x475002 x10).f1) ((rd_T98 x475002 x10).f2) ((rd_T98 x475002 x10).f3)) else (none)) else (spec_l02Fill.j1 k x2 x3 x10 x475000 x475001 x475002 x476000 x476001 x476002 x484000 x484001 y486 ((rd_T98 x475002 x10).f0) ((rd_T98 x475002 x10).f1) ((rd_T98 x475002 x10).f2) ((rd_T98 x475002 x10).f3)))) else (none)) else (spec_l02Fill.j1 k x2 x3 x10 x475000 x475001 x475002 x476000 x476001 x476002 x484000 x484001 x484002 ((rd_T98 x475002 x10).f0) ((rd_T98 x475002 x10).f1) ((rd_T98 x475002 x10).f2) ((rd_T98 x475002 x10).f3))) else (none)) else (some (x484000, x484001, x484002))
def spec_l02Fill.j1 : Nat → Int → Int → Int → Int → List Int → List (S98) → Int → Int → Int → Int → List Int → List (S98) → Int → Int → Int → Bool → Option (Int × List Int × (List (S98)))
 | 0, _, _, _, _, _, _, _, _, _, _, _, _, _, _, _, _ => none
 | k + 1, x2, x3, x10, x475000, x475001, x475002, x476000, x476001, x476002, x484000, x484001, x484002, x486000, x486001, x486002, x486003 => if x486000 < x476001 then (if x484002.length < 4398046511104 then (spec_l02Fill.l0 k x2 x3 (wrap64 (x10 + 1)) x475000 x475001 x475002 x476000 x476001 x476002 x484000 x484001 (x484002 ++ [(⟨x486000, x486001, x486002, x486003⟩ : S98)])) else (none)) else (if x486000 ≥ (wrap64 (x476001 + x476002)) then (if x484002.length < 4398046511104 then (spec_l02Fill.l0 k x2 x3 (wrap64 (x10 + 1)) x475000 x475001 x475002 x476000 x476001 x476002 x484000 x484001 (x484002 ++ [(⟨x486000, x486001, x486002, x486003⟩ : S98)])) else (none)) else (spec_l02Fill.l0 k x2 x3 (wrap64 (x10 + 1)) x475000 x475001 x475002 x476000 x476001 x476002 x484000 x484001 x484002))
end
def spec_l02Fill.f (k : Nat) (a0_0 : Int) (l0_1 : List Int) (l0_2 : List (S98)) (a1_0 : Int) (a1_1 : Int) (a1_2 : Int) (a2 : Int) (a3 : Int) : Option (Int × List Int × (List (S98))) := (some (([] : List Int) : List Int)).bind fun y477 => (if y477.length + l0_1.length < 17592186044416 then (spec_l02Fill.l0 k a2 a3 0 a0_0 l0_1 l0_2 a1_0 a1_1 a1_2 a0_0 (y477 ++ l0_1) ([] : List (S98))) else (none))
def spec_l02Fill.T1 : Bool × List (List Nat × List Nat) := (true, [([], []), ([0], [0]), ([], []), ([], []), ([3], [3]), ([2, 4], [2, 4]), ([1, 5], [1, 5]), ([], []), ([7, 6, 5, 0, 1, 2, 3, 4, 5, 6, 7], [6, 7])])
def spec_l02Fill.B1 : List Nat := [0, 1, 0, 0, 8, 28, 63, 0, 255]
theorem spec_l02Fill.tab1 : rtab .any (opsOf Try.f87 1) = spec_l02Fill.T1 := by kernel_rfl
theorem spec_l02Fill.bits1 : waitsOk spec_l02Fill.T1.2 spec_l02Fill.B1 = true := by kernel_rfl
set_option maxHeartbeats 8000000 in
set_option maxRecDepth 100000 in
theorem spec_l02Fill.calls (k : Nat) (a0_0 : Int) (A0_1 : Option Addr) (c0_1 : Nat) (l0_1 : List Int) (A0_2 : Option Addr) (c0_2 : Nat) (l0_2 : List (S98)) (a1_0 : Int) (a1_1 : Int) (a1_2 : Int) (a2 : Int) (a3 : Int) (r1 : Int) (r2 : List Int) (r3 : List (S98)) (w : World) (hr0_1 : Kd.C (Kd.int .i64) w A0_1 l0_1.length l0_1) (hc0_1 : l0_1.length ≤ c0_1) (hr0_2 : Kd.C k98 w A0_2 l0_2.length l0_2) (hc0_2 : l0_2.length ≤ c0_2) (h : spec_l02Fill.f k a0_0 l0_1 l0_2 a1_0 a1_1 a1_2 a2 a3 = some (r1, r2, r3)) :
  Calls Try.prog 87 #[.agg #[.int .i64 a0_0, .slice A0_1 l0_1.length c0_1, .slice A0_2 l0_2.length c0_2], .agg #[.int .i64 a1_0, .int .i64 a1_1, .int .i64 a1_2], .int .i64 a2, .int .i64 a3] w fun e w' => ∃ v1_ v2_ : Value, e = .returned (.agg #[.int .i64 r1, v1_, v2_]) ∧ Kd.R (Kd.int .i64) 3 w' w.heap.size (fun _ => True) v1_ r2 ∧ Kd.R k98 98 w' w.heap.size (fun _ => True) v2_ r3 ∧ Below w.heap.size w w' := by
 have hu41 := Try.underlying41
 have hu50 := Try.underlying50
 have hu98 := Try.underlying98
 have HR0_1 := Aside0.mk hr0_1
 have HC0_1 := Aside0.mk hc0_1
 clear hr0_1 hc0_1
 have HR0_2 := Aside0.mk hr0_2
 have HC0_2 := Aside0.mk hc0_2
 clear hr0_2 hc0_2
 have HB := Aside0.mk (Below.refl w.heap.size w)
 have H : ((some (([] : List Int) : List Int)).bind fun y477 => (if y477.length + l0_1.length < 17592186044416 then (spec_l02Fill.l0 k a2 a3 0 a0_0 l0_1 l0_2 a1_0 a1_1 a1_2 a0_0 (y477 ++ l0_1) ([] : List (S98))) else (none))) = some (r1, r2, r3) := h
 clear h
 obtain ⟨y477, hy477⟩ : ∃ y_ : List Int, y_ = (([] : List Int)) := ⟨_, rfl⟩
 replace H : (if y477.length + l0_1.length < 17592186044416 then (spec_l02Fill.l0 k a2 a3 0 a0_0 l0_1 l0_2 a1_0 a1_1 a1_2 a0_0 (y477 ++ l0_1) ([] : List (S98))) else (none)) = some (r1, r2, r3) := by first | (rw [hy477]; with_reducible exact H) | (have H2_ := (Option.bind_some _ _).symm.trans H; rw [hy477]; with_reducible exact H2_) | (have H2_ := (Option.bind_some _ _).symm.trans H; with_reducible exact H2_) | with_reducible exact H | (rw [hy477]; exact H) | exact H
 have Ny477 := Aside0.mk hy477
 clear hy477
 by_cases c5 : y477.length + l0_1.length < 17592186044416
 ·rw [if_pos c5] at H
  have LMc5 := Aside0.mk c5
  clear c5
  obtain ⟨y480, hy480⟩ : ∃ y_ : List Int, y_ = (y477 ++ l0_1) := ⟨_, rfl⟩
  replace H : (spec_l02Fill.l0 k a2 a3 0 a0_0 l0_1 l0_2 a1_0 a1_1 a1_2 a0_0 y480 ([] : List (S98))) = some (r1, r2, r3) := by first | (rw [hy480]; with_reducible exact H) | (have H2_ := (Option.bind_some _ _).symm.trans H; rw [hy480]; with_reducible exact H2_) | (have H2_ := (Option.bind_some _ _).symm.trans H; with_reducible exact H2_) | with_reducible exact H | (rw [hy480]; exact H) | exact H
  have Ny480 := Aside0.mk hy480
  clear hy480
  have H' := Aside0.mk H
  clear H
  go_enter Try.func87, Try.ntmps87
  try go_wp2_with (first | ((with_reducible refine gate_dst (N := 4) rfl ?_); refine bx (cs := #[.int .i64 a0_0, .slice A0_1 l0_1.length c0_1, .slice A0_2 l0_2.length c0_2]) (t := 41) fun gb474 hg w6 hbox hb => ?_; have BK474 := Aside0.mk (hbox); have GW474 := Aside0.mk (gs HB.out hg); have GE474 := Aside0.mk (gs HB.out hg); replace HB := Aside0.mk (below_step (bl HB.out) hb); clear hb hbox hg) | ((with_reducible refine gate_dst (N := 5) rfl ?_); refine bx (cs := #[.int .i64 a1_0, .int .i64 a1_1, .int .i64 a1_2]) (t := 50) fun gb475 hg w7 hbox hb => ?_; have BK475 := Aside0.mk (hbox); have GW475 := Aside0.mk (gs HB.out hg); have GE475 := Aside0.mk (gs HB.out hg); replace HB := Aside0.mk (below_step (bl HB.out) hb); have NB474_475 := Aside0.mk ((nl BK474.out hg)); have NB475_474 := Aside0.mk ((ng BK474.out hg)); replace BK474 := Aside0.mk (bb BK474.out hb); clear hb hbox hg) | ((with_reducible refine gate_dst (N := 8) rfl ?_); refine bx (cs := #[.int .i64 0, .slice none 0 0, .slice none 0 0]) (t := 41) fun gb476 hg w8 hbox hb => ?_; have BK476 := Aside0.mk (hbox); have GW476 := Aside0.mk (gs HB.out hg); have GE476 := Aside0.mk (gs HB.out hg); replace HB := Aside0.mk (below_step (bl HB.out) hb); have NB474_476 := Aside0.mk ((nl BK474.out hg)); have NB476_474 := Aside0.mk ((ng BK474.out hg)); replace BK474 := Aside0.mk (bb BK474.out hb); have NB475_476 := Aside0.mk ((nl BK475.out hg)); have NB476_475 := Aside0.mk ((ng BK475.out hg)); replace BK475 := Aside0.mk (bb BK475.out hb); clear hb hbox hg))
  replace BK474 := Aside0.mk (blk_drew BK474.out)
  replace BK475 := Aside0.mk (blk_drew BK475.out)
  replace BK476 := Aside0.mk (blk_drew BK476.out)
  replace HB := Aside0.mk (below_drew1 HB.out)
  refine start_ (n := 9) (S := fun w' => w'.cell? ⟨gb474, 0, none⟩ = some (.int .i64 a0_0) ∧ w'.cell? ⟨gb474, 1, none⟩ = some (.slice A0_1 l0_1.length c0_1) ∧ w'.cell? ⟨gb474, 2, none⟩ = some (.slice A0_2 l0_2.length c0_2)) (ds := []) #[false, false, false, false, false, false, false, false, false] (by kernel_rfl) rfl rfl ⟨(blk_cell BK474.out 0).trans rfl, (blk_cell BK474.out 1).trans rfl, (blk_cell BK474.out 2).trans rfl⟩ (fun hHeld => ?_); refine with_tabW spec_l02Fill.tab1 spec_l02Fill.bits1 (fun HT_ HW_ => ?_)
  generalize w8.drew = w9 at BK474 BK475 BK476 HB hHeld ⊢
  refine puA (i := 0) (N := some 12) HT_.out ?_
  refine puA (i := 3) (N := some 15) HT_.out ?_
  refine tkA3 (i := 1) (N := some 13) HT_.out HW_.out hHeld ?_
  refine tkA3 (i := 4) (N := some 16) HT_.out HW_.out hHeld ?_
  refine join_ (σ := Value × Value × Nat) 1 #[true, true, true, true, true, true, true, true, false] (fun s_ => [(14, s_.1), (17, s_.2.1), (9, .pointer (some ⟨s_.2.2, 0, none⟩)), (18, .agg #[.int .i64 a0_0, s_.2.1, .slice none 0 0])]) (fun s_ w' => (w'.cell? ⟨gb474, 0, none⟩ = some (.int .i64 a0_0) ∧ w'.cell? ⟨gb474, 1, none⟩ = some (.slice A0_1 l0_1.length c0_1) ∧ w'.cell? ⟨gb474, 2, none⟩ = some (.slice A0_2 l0_2.length c0_2)) ∧ (Kd.R (Kd.int .i64) 3 w' w.heap.size (fun _ => True) s_.2.1 y480) ∧ (w'.heap[gb474]? = some (.cells #[.int .i64 a0_0, .slice A0_1 l0_1.length c0_1, .slice A0_2 l0_2.length c0_2] 41 (0, 0))) ∧ (w'.heap[gb475]? = some (.cells #[.int .i64 a1_0, .int .i64 a1_1, .int .i64 a1_2] 50 (0, 0))) ∧ (w'.heap[gb476]? = some (.cells #[.int .i64 0, .slice none 0 0, .slice none 0 0] 41 (0, 0))) ∧ (w'.heap[s_.2.2]? = some (.cells #[.int .i64 0, .slice none 0 0, .slice none 0 0] 41 (0, 0))) ∧ (w.heap.size ≤ s_.2.2) ∧ (w.heap.size ≤ s_.2.2) ∧ (gb474 ≠ s_.2.2) ∧ (s_.2.2 ≠ gb474) ∧ (gb475 ≠ s_.2.2) ∧ (s_.2.2 ≠ gb475) ∧ (gb476 ≠ s_.2.2) ∧ (s_.2.2 ≠ gb476) ∧ (Below w.heap.size w w')) ?_ ?_
  rotate_left
  ·intro hCont
   refine two_ (i := 2) (j := 7) (Ni := some 14) (Nj := some 9) #[true, true, true, true, true, false, false, false, false] #[true, true, false, true, true, false, false, true, false] rfl rfl rfl rfl (two_of HT_.out (by kernel_rfl)) (by decide) (by decide) (fun K hK => ?_) (fun K hK => ?_)
   ·skip
    refine Kd.R_lit_step (Kd.int .i64) _ 3 ?hg (N := 14) ?hd (xs := ([] : List Int)) (inner := []) (ok := fun _ => True) (okp := fun _ => True) ?hr ?hp (fun _ hk => hk) trivial (Below.refl _ _) (Nat.le_refl _) (by simp) ?_; (case hd => rfl); (case hg => rfl); (case hr => first | (go_simp; done) | (go_simp; rfl)); (case hp => exact (Reps.none _ _))
    intro v478 w10 ho11 hb hg_ hnew_
    clear hg_ hnew_
    (first | rw [← Ny477.out] at ho11 | (simp only [Int.reduceToNat] at ho11; rw [← Ny477.out] at ho11))
    have HO479 := Aside0.mk (Kd.R_lower ho11 (below_size (bl HB.out)))
    replace BK474 := Aside0.mk (bb BK474.out hb)
    replace BK475 := Aside0.mk (bb BK475.out hb)
    replace BK476 := Aside0.mk (bb BK476.out hb)
    replace HB := Aside0.mk (below_step (bl HB.out) hb)
    clear hb ho11
    refine hK.out _ _ ⟨(blk_cell BK474.out 0).trans rfl, (blk_cell BK474.out 1).trans rfl, (blk_cell BK474.out 2).trans rfl⟩ (fun hHeld => ?_)
    clear hK K
    refine norm_ (a' := ?_) ?_ ?_
    rotate_left
    ·show Act.put _ (some 14) _ = _
     simp only [Act.put, List.setIfInBounds_toArray, List.set_cons_zero, List.set_cons_succ, i64_w, i32_w]
     rfl
    refine two_ (i := 5) (j := 7) (Ni := some 17) (Nj := some 9) #[true, true, true, true, true, true, false, false, false] #[true, true, true, true, true, false, false, true, false] rfl rfl rfl rfl (two_of HT_.out (by kernel_rfl)) (by decide) (by decide) (fun K hK => ?_) (fun K hK => ?_)
    ·skip
     refine Kd.R_append_rows_step (Kd.int .i64) (w0 := w) w.heap.size (by rfl) (.tmp 14) (.tmp 16) 38 3 (.int .i64 0) 8 rfl Try.underlying38 info3 rfl (by decide) (by omega) v478 y477 l0_1 _ _ _ (fun _ => True) (fun _ => False) rfl rfl ?aO ?aR (fun _ _ h => h) (fun _ h => h.elim) ?aF ?aB ?aS ?aL ?_
     (case aR => exact cb (Kd.C_below HR0_1.out HB.out))
     (case aB => exact (bl HB.out))
     (case aF => exact (fun _ _ => trivial))
     (case aO => exact (rk HO479.out))
     (case aS => exact (below_size (bl HB.out)))
     (case aL => have := LMc5.out; omega)
     intro v481 w12 ho hb hg hat
     rw [← Ny480.out] at ho
     replace BK474 := Aside0.mk (blk_grown (g := gb474) (o := .cells #[.int .i64 a0_0, .slice A0_1 l0_1.length c0_1, .slice A0_2 l0_2.length c0_2] 41 (0, 0)) (bk BK474.out) hg (Kd.R_ne HO479.out BK474.out (by decide)))
     replace BK475 := Aside0.mk (blk_grown (g := gb475) (o := .cells #[.int .i64 a1_0, .int .i64 a1_1, .int .i64 a1_2] 50 (0, 0)) (bk BK475.out) hg (Kd.R_ne HO479.out BK475.out (by decide)))
     replace BK476 := Aside0.mk (blk_grown (g := gb476) (o := .cells #[.int .i64 0, .slice none 0 0, .slice none 0 0] 41 (0, 0)) (bk BK476.out) hg (Kd.R_ne HO479.out BK476.out (by decide)))
     replace HB := Aside0.mk (hb)
     have HO482 := Aside0.mk (ho)
     clear HO479
     clear ho hb hg hat
     obtain ⟨Ao13, co13, eo13⟩ := Kd.R_slice HO482.out
     (first | subst eo13 | (injection eo13 with f1_ f2_ f3_; have f4_ := f1_.symm; have f5_ := f3_.symm; clear f1_ f2_ f3_; subst f4_; subst f5_))
     refine hK.out _ _ ⟨(blk_cell BK474.out 0).trans rfl, (blk_cell BK474.out 1).trans rfl, (blk_cell BK474.out 2).trans rfl⟩ (fun hHeld => ?_)
     clear hK K
     refine norm_ (a' := ?_) ?_ ?_
     rotate_left
     ·show Act.put _ (some 17) _ = _
      simp only [Act.put, List.setIfInBounds_toArray, List.set_cons_zero, List.set_cons_succ, i64_w, i32_w]
      rfl
     refine puA (i := 6) (N := some 18) HT_.out ?_
     refine onA (i := 7) (N := some 9) HT_.out (fun K hK => ?_)
     refine box_step ?hg (N := 9) ?hd (cs := #[.int .i64 0, .slice none 0 0, .slice none 0 0]) (t := 41) ?hr ?_; (case hd => rfl); (case hg => rfl); (case hr => first | (go_simp; done) | (go_simp; rfl))
     intro gb483 hg w14 hbox hb
     replace HO482 := Aside0.mk (Kd.R_below (rk HO482.out) hb)
     have BK483 := Aside0.mk (hbox)
     have GW483 := Aside0.mk (gs HB.out hg)
     have GE483 := Aside0.mk (gs HB.out hg)
     replace HB := Aside0.mk (below_step (bl HB.out) hb)
     have NB474_483 := Aside0.mk ((nl BK474.out hg))
     have NB483_474 := Aside0.mk ((ng BK474.out hg))
     replace BK474 := Aside0.mk (bb BK474.out hb)
     have NB475_483 := Aside0.mk ((nl BK475.out hg))
     have NB483_475 := Aside0.mk ((ng BK475.out hg))
     replace BK475 := Aside0.mk (bb BK475.out hb)
     have NB476_483 := Aside0.mk ((nl BK476.out hg))
     have NB483_476 := Aside0.mk ((ng BK476.out hg))
     replace BK476 := Aside0.mk (bb BK476.out hb)
     clear hb hbox hg
     refine hK.out _ _ ⟨(blk_cell BK474.out 0).trans rfl, (blk_cell BK474.out 1).trans rfl, (blk_cell BK474.out 2).trans rfl⟩ (fun hHeld => ?_)
     clear hK K
     refine norm_ (a' := ?_) ?_ ?_
     rotate_left
     ·show Act.put _ (some 9) _ = _
      simp only [Act.put, List.setIfInBounds_toArray, List.set_cons_zero, List.set_cons_succ, i64_w, i32_w]
      rfl
     exact norm_ (by simp only [putAll, Act.put, List.setIfInBounds_toArray, List.set_cons_zero, List.set_cons_succ]) (hCont (v478, .slice Ao13 y480.length co13, gb483) _ ⟨hHeld, (rk HO482.out), (bk BK474.out), (bk BK475.out), (bk BK476.out), (bk BK483.out), GW483.out, GE483.out, NB474_483.out, NB483_474.out, NB475_483.out, NB483_475.out, NB476_483.out, NB483_476.out, (bl HB.out)⟩)
    ·skip
     refine box_step ?hg (N := 9) ?hd (cs := #[.int .i64 0, .slice none 0 0, .slice none 0 0]) (t := 41) ?hr ?_; (case hd => rfl); (case hg => rfl); (case hr => first | (go_simp; done) | (go_simp; rfl))
     intro gb483 hg w12 hbox hb
     replace HO479 := Aside0.mk (Kd.R_below (rk HO479.out) hb)
     have BK483 := Aside0.mk (hbox)
     have GW483 := Aside0.mk (gs HB.out hg)
     have GE483 := Aside0.mk (gs HB.out hg)
     replace HB := Aside0.mk (below_step (bl HB.out) hb)
     have NB474_483 := Aside0.mk ((nl BK474.out hg))
     have NB483_474 := Aside0.mk ((ng BK474.out hg))
     replace BK474 := Aside0.mk (bb BK474.out hb)
     have NB475_483 := Aside0.mk ((nl BK475.out hg))
     have NB483_475 := Aside0.mk ((ng BK475.out hg))
     replace BK475 := Aside0.mk (bb BK475.out hb)
     have NB476_483 := Aside0.mk ((nl BK476.out hg))
     have NB483_476 := Aside0.mk ((ng BK476.out hg))
     replace BK476 := Aside0.mk (bb BK476.out hb)
     clear hb hbox hg
     refine hK.out _ _ ⟨(blk_cell BK474.out 0).trans rfl, (blk_cell BK474.out 1).trans rfl, (blk_cell BK474.out 2).trans rfl⟩ (fun hHeld => ?_)
     clear hK K
     refine norm_ (a' := ?_) ?_ ?_
     rotate_left
     ·show Act.put _ (some 9) _ = _
      simp only [Act.put, List.setIfInBounds_toArray, List.set_cons_zero, List.set_cons_succ, i64_w, i32_w]
      rfl
     refine onA (i := 5) (N := some 17) HT_.out (fun K hK => ?_)
     refine Kd.R_append_rows_step (Kd.int .i64) (w0 := w) w.heap.size (by rfl) (.tmp 14) (.tmp 16) 38 3 (.int .i64 0) 8 rfl Try.underlying38 info3 rfl (by decide) (by omega) v478 y477 l0_1 _ _ _ (fun _ => True) (fun _ => False) rfl rfl ?aO ?aR (fun _ _ h => h) (fun _ h => h.elim) ?aF ?aB ?aS ?aL ?_
     (case aR => exact cb (Kd.C_below HR0_1.out HB.out))
     (case aB => exact (bl HB.out))
     (case aF => exact (fun _ _ => trivial))
     (case aO => exact (rk HO479.out))
     (case aS => exact (below_size (bl HB.out)))
     (case aL => have := LMc5.out; omega)
     intro v481 w13 ho hb hg hat
     rw [← Ny480.out] at ho
     replace BK474 := Aside0.mk (blk_grown (g := gb474) (o := .cells #[.int .i64 a0_0, .slice A0_1 l0_1.length c0_1, .slice A0_2 l0_2.length c0_2] 41 (0, 0)) (bk BK474.out) hg (Kd.R_ne HO479.out BK474.out (by decide)))
     replace BK475 := Aside0.mk (blk_grown (g := gb475) (o := .cells #[.int .i64 a1_0, .int .i64 a1_1, .int .i64 a1_2] 50 (0, 0)) (bk BK475.out) hg (Kd.R_ne HO479.out BK475.out (by decide)))
     replace BK476 := Aside0.mk (blk_grown (g := gb476) (o := .cells #[.int .i64 0, .slice none 0 0, .slice none 0 0] 41 (0, 0)) (bk BK476.out) hg (Kd.R_ne HO479.out BK476.out (by decide)))
     replace BK483 := Aside0.mk (blk_grown (g := gb483) (o := .cells #[.int .i64 0, .slice none 0 0, .slice none 0 0] 41 (0, 0)) (bk BK483.out) hg (Kd.R_ne HO479.out BK483.out (by decide)))
     replace HB := Aside0.mk (hb)
     have HO482 := Aside0.mk (ho)
     clear HO479
     clear ho hb hg hat
     obtain ⟨Ao14, co14, eo14⟩ := Kd.R_slice HO482.out
     (first | subst eo14 | (injection eo14 with f1_ f2_ f3_; have f4_ := f1_.symm; have f5_ := f3_.symm; clear f1_ f2_ f3_; subst f4_; subst f5_))
     refine hK.out _ _ ⟨(blk_cell BK474.out 0).trans rfl, (blk_cell BK474.out 1).trans rfl, (blk_cell BK474.out 2).trans rfl⟩ (fun hHeld => ?_)
     clear hK K
     refine norm_ (a' := ?_) ?_ ?_
     rotate_left
     ·show Act.put _ (some 17) _ = _
      simp only [Act.put, List.setIfInBounds_toArray, List.set_cons_zero, List.set_cons_succ, i64_w, i32_w]
      rfl
     refine puA (i := 6) (N := some 18) HT_.out ?_
     exact norm_ (by simp only [putAll, Act.put, List.setIfInBounds_toArray, List.set_cons_zero, List.set_cons_succ]) (hCont (v478, .slice Ao14 y480.length co14, gb483) _ ⟨hHeld, (rk HO482.out), (bk BK474.out), (bk BK475.out), (bk BK476.out), (bk BK483.out), GW483.out, GE483.out, NB474_483.out, NB483_474.out, NB475_483.out, NB483_475.out, NB476_483.out, NB483_476.out, (bl HB.out)⟩)
   ·skip
    refine box_step ?hg (N := 9) ?hd (cs := #[.int .i64 0, .slice none 0 0, .slice none 0 0]) (t := 41) ?hr ?_; (case hd => rfl); (case hg => rfl); (case hr => first | (go_simp; done) | (go_simp; rfl))
    intro gb483 hg w10 hbox hb
    have BK483 := Aside0.mk (hbox)
    have GW483 := Aside0.mk (gs HB.out hg)
    have GE483 := Aside0.mk (gs HB.out hg)
    replace HB := Aside0.mk (below_step (bl HB.out) hb)
    have NB474_483 := Aside0.mk ((nl BK474.out hg))
    have NB483_474 := Aside0.mk ((ng BK474.out hg))
    replace BK474 := Aside0.mk (bb BK474.out hb)
    have NB475_483 := Aside0.mk ((nl BK475.out hg))
    have NB483_475 := Aside0.mk ((ng BK475.out hg))
    replace BK475 := Aside0.mk (bb BK475.out hb)
    have NB476_483 := Aside0.mk ((nl BK476.out hg))
    have NB483_476 := Aside0.mk ((ng BK476.out hg))
    replace BK476 := Aside0.mk (bb BK476.out hb)
    clear hb hbox hg
    refine hK.out _ _ ⟨(blk_cell BK474.out 0).trans rfl, (blk_cell BK474.out 1).trans rfl, (blk_cell BK474.out 2).trans rfl⟩ (fun hHeld => ?_)
    clear hK K
    refine norm_ (a' := ?_) ?_ ?_
    rotate_left
    ·show Act.put _ (some 9) _ = _
     simp only [Act.put, List.setIfInBounds_toArray, List.set_cons_zero, List.set_cons_succ, i64_w, i32_w]
     rfl
    refine onA (i := 2) (N := some 14) HT_.out (fun K hK => ?_)
    refine Kd.R_lit_step (Kd.int .i64) _ 3 ?hg (N := 14) ?hd (xs := ([] : List Int)) (inner := []) (ok := fun _ => True) (okp := fun _ => True) ?hr ?hp (fun _ hk => hk) trivial (Below.refl _ _) (Nat.le_refl _) (by simp) ?_; (case hd => rfl); (case hg => rfl); (case hr => first | (go_simp; done) | (go_simp; rfl)); (case hp => exact (Reps.none _ _))
    intro v478 w11 ho12 hb hg_ hnew_
    clear hg_ hnew_
    (first | rw [← Ny477.out] at ho12 | (simp only [Int.reduceToNat] at ho12; rw [← Ny477.out] at ho12))
    have HO479 := Aside0.mk (Kd.R_lower ho12 (below_size (bl HB.out)))
    replace BK474 := Aside0.mk (bb BK474.out hb)
    replace BK475 := Aside0.mk (bb BK475.out hb)
    replace BK476 := Aside0.mk (bb BK476.out hb)
    replace BK483 := Aside0.mk (bb BK483.out hb)
    replace HB := Aside0.mk (below_step (bl HB.out) hb)
    clear hb ho12
    refine hK.out _ _ ⟨(blk_cell BK474.out 0).trans rfl, (blk_cell BK474.out 1).trans rfl, (blk_cell BK474.out 2).trans rfl⟩ (fun hHeld => ?_)
    clear hK K
    refine norm_ (a' := ?_) ?_ ?_
    rotate_left
    ·show Act.put _ (some 14) _ = _
     simp only [Act.put, List.setIfInBounds_toArray, List.set_cons_zero, List.set_cons_succ, i64_w, i32_w]
     rfl
    refine onA (i := 5) (N := some 17) HT_.out (fun K hK => ?_)
    refine Kd.R_append_rows_step (Kd.int .i64) (w0 := w) w.heap.size (by rfl) (.tmp 14) (.tmp 16) 38 3 (.int .i64 0) 8 rfl Try.underlying38 info3 rfl (by decide) (by omega) v478 y477 l0_1 _ _ _ (fun _ => True) (fun _ => False) rfl rfl ?aO ?aR (fun _ _ h => h) (fun _ h => h.elim) ?aF ?aB ?aS ?aL ?_
    (case aR => exact cb (Kd.C_below HR0_1.out HB.out))
    (case aB => exact (bl HB.out))
    (case aF => exact (fun _ _ => trivial))
    (case aO => exact (rk HO479.out))
    (case aS => exact (below_size (bl HB.out)))
    (case aL => have := LMc5.out; omega)
    intro v481 w13 ho hb hg hat
    rw [← Ny480.out] at ho
    replace BK474 := Aside0.mk (blk_grown (g := gb474) (o := .cells #[.int .i64 a0_0, .slice A0_1 l0_1.length c0_1, .slice A0_2 l0_2.length c0_2] 41 (0, 0)) (bk BK474.out) hg (Kd.R_ne HO479.out BK474.out (by decide)))
    replace BK475 := Aside0.mk (blk_grown (g := gb475) (o := .cells #[.int .i64 a1_0, .int .i64 a1_1, .int .i64 a1_2] 50 (0, 0)) (bk BK475.out) hg (Kd.R_ne HO479.out BK475.out (by decide)))
    replace BK476 := Aside0.mk (blk_grown (g := gb476) (o := .cells #[.int .i64 0, .slice none 0 0, .slice none 0 0] 41 (0, 0)) (bk BK476.out) hg (Kd.R_ne HO479.out BK476.out (by decide)))
    replace BK483 := Aside0.mk (blk_grown (g := gb483) (o := .cells #[.int .i64 0, .slice none 0 0, .slice none 0 0] 41 (0, 0)) (bk BK483.out) hg (Kd.R_ne HO479.out BK483.out (by decide)))
    replace HB := Aside0.mk (hb)
    have HO482 := Aside0.mk (ho)
    clear HO479
    clear ho hb hg hat
    obtain ⟨Ao14, co14, eo14⟩ := Kd.R_slice HO482.out
    (first | subst eo14 | (injection eo14 with f1_ f2_ f3_; have f4_ := f1_.symm; have f5_ := f3_.symm; clear f1_ f2_ f3_; subst f4_; subst f5_))
    refine hK.out _ _ ⟨(blk_cell BK474.out 0).trans rfl, (blk_cell BK474.out 1).trans rfl, (blk_cell BK474.out 2).trans rfl⟩ (fun hHeld => ?_)
    clear hK K
    refine norm_ (a' := ?_) ?_ ?_
    rotate_left
    ·show Act.put _ (some 17) _ = _
     simp only [Act.put, List.setIfInBounds_toArray, List.set_cons_zero, List.set_cons_succ, i64_w, i32_w]
     rfl
    refine puA (i := 6) (N := some 18) HT_.out ?_
    exact norm_ (by simp only [putAll, Act.put, List.setIfInBounds_toArray, List.set_cons_zero, List.set_cons_succ]) (hCont (v478, .slice Ao14 y480.length co14, gb483) _ ⟨hHeld, (rk HO482.out), (bk BK474.out), (bk BK475.out), (bk BK476.out), (bk BK483.out), GW483.out, GE483.out, NB474_483.out, NB483_474.out, NB475_483.out, NB483_475.out, NB476_483.out, NB483_476.out, (bl HB.out)⟩)
  rintro ⟨v478, v481, gb483⟩ w15 ⟨hS_, h0_, h1_, h2_, h3_, h4_, h5_, h6_, h7_, h8_, h9_, h10_, h11_, h12_, h13_⟩
  have n0_ : Aside0 (Kd.R (Kd.int .i64) 3 w15 w.heap.size (fun _ => True) v481 y480) := ⟨h0_⟩
  have n1_ : Aside0 (w15.heap[gb474]? = some (.cells #[.int .i64 a0_0, .slice A0_1 l0_1.length c0_1, .slice A0_2 l0_2.length c0_2] 41 (0, 0))) := ⟨h1_⟩
  have n2_ : Aside0 (w15.heap[gb475]? = some (.cells #[.int .i64 a1_0, .int .i64 a1_1, .int .i64 a1_2] 50 (0, 0))) := ⟨h2_⟩
  have n3_ : Aside0 (w15.heap[gb476]? = some (.cells #[.int .i64 0, .slice none 0 0, .slice none 0 0] 41 (0, 0))) := ⟨h3_⟩
  have n4_ : Aside0 (w15.heap[gb483]? = some (.cells #[.int .i64 0, .slice none 0 0, .slice none 0 0] 41 (0, 0))) := ⟨h4_⟩
  have n5_ : Aside0 (w.heap.size ≤ gb483) := ⟨h5_⟩
  have n6_ : Aside0 (w.heap.size ≤ gb483) := ⟨h6_⟩
  have n7_ : Aside0 (gb474 ≠ gb483) := ⟨h7_⟩
  have n8_ : Aside0 (gb483 ≠ gb474) := ⟨h8_⟩
  have n9_ : Aside0 (gb475 ≠ gb483) := ⟨h9_⟩
  have n10_ : Aside0 (gb483 ≠ gb475) := ⟨h10_⟩
  have n11_ : Aside0 (gb476 ≠ gb483) := ⟨h11_⟩
  have n12_ : Aside0 (gb483 ≠ gb476) := ⟨h12_⟩
  have n13_ : Aside0 (Below w.heap.size w w15) := ⟨h13_⟩
  clear BK474
  clear BK475
  clear BK476
  clear HB
  clear h0_ h1_ h2_ h3_ h4_ h5_ h6_ h7_ h8_ h9_ h10_ h11_ h12_ h13_
  have HO482 := n0_
  have BK474 := n1_
  have BK475 := n2_
  have BK476 := n3_
  have BK483 := n4_
  have GW483 := n5_
  have GE483 := n6_
  have NB474_483 := n7_
  have NB483_474 := n8_
  have NB475_483 := n9_
  have NB483_475 := n10_
  have NB476_483 := n11_
  have NB483_476 := n12_
  have HB := n13_
  clear n0_ n1_ n2_ n3_ n4_ n5_ n6_ n7_ n8_ n9_ n10_ n11_ n12_ n13_
  have hHeld : w15.cell? ⟨gb474, 0, none⟩ = some (.int .i64 a0_0) ∧ w15.cell? ⟨gb474, 1, none⟩ = some (.slice A0_1 l0_1.length c0_1) ∧ w15.cell? ⟨gb474, 2, none⟩ = some (.slice A0_2 l0_2.length c0_2) := hS_
  obtain ⟨Ao16, co16, eo16⟩ := Kd.R_slice HO482.out
  (first | subst eo16 | (injection eo16 with f1_ f2_ f3_; have f4_ := f1_.symm; have f5_ := f3_.symm; clear f1_ f2_ f3_; subst f4_; subst f5_))
  refine norm_ (a' := ?_) ?_ ?_
  rotate_left
  ·simp only [putAll, Act.put, List.setIfInBounds_toArray, List.set_cons_zero, List.set_cons_succ]
   rfl
  refine onA (i := 8) (N := none) HT_.out (fun K hK => ?_)
  have hs17 : w15.cell? ⟨gb483, 0, none⟩ = some (.int .i64 0) := (blk_cell BK483.out 0).trans rfl
  have hfs17 := blk_frozen BK483.out 0
  have hns17_0 := NB474_483.out
  have hns17_1 := NB475_483.out
  have hns17_2 := NB476_483.out
  have hms17_0 := NB483_474.out
  have hms17_1 := NB483_475.out
  have hms17_2 := NB483_476.out
  have hs18 : w15.cell? ⟨gb483, 1, none⟩ = some (.slice none 0 0) := (blk_cell BK483.out 1).trans rfl
  have hfs18 := blk_frozen BK483.out 1
  have hns18_0 := NB474_483.out
  have hns18_1 := NB475_483.out
  have hns18_2 := NB476_483.out
  have hms18_0 := NB483_474.out
  have hms18_1 := NB483_475.out
  have hms18_2 := NB483_476.out
  have hs19 : w15.cell? ⟨gb483, 2, none⟩ = some (.slice none 0 0) := (blk_cell BK483.out 2).trans rfl
  have hfs19 := blk_frozen BK483.out 2
  have hns19_0 := NB474_483.out
  have hns19_1 := NB475_483.out
  have hns19_2 := NB476_483.out
  have hms19_0 := NB483_474.out
  have hms19_1 := NB483_475.out
  have hms19_2 := NB483_476.out
  refine skip_ (w1 := ?_) (by rfl) rfl ?_ ?_
  rotate_left
  ·go_simp
   rfl
  refine hK.out _ _ ⟨((cell_far (p := ⟨gb483, _, none⟩) NB474_483.out _).trans (((cell_far (p := ⟨gb483, _, none⟩) NB474_483.out _).trans (((cell_far (p := ⟨gb483, _, none⟩) NB474_483.out _).trans (hHeld.1)))))), ((cell_far (p := ⟨gb483, _, none⟩) NB474_483.out _).trans (((cell_far (p := ⟨gb483, _, none⟩) NB474_483.out _).trans (((cell_far (p := ⟨gb483, _, none⟩) NB474_483.out _).trans (hHeld.2.1)))))), ((cell_far (p := ⟨gb483, _, none⟩) NB474_483.out _).trans (((cell_far (p := ⟨gb483, _, none⟩) NB474_483.out _).trans (((cell_far (p := ⟨gb483, _, none⟩) NB474_483.out _).trans (hHeld.2.2))))))⟩ (fun hHeld => ?_)
  clear hK K
  refine done_ (done_of HT_.out (by kernel_rfl)) ?_
  try go_wp2
  go_loopg [10] k (fun kq v10 w' => ∃ (x10_1 : Int) (x484002_1 : List (S98)) (u484002 : Value), v10 = .int .i64 x10_1 ∧ Aside0 (spec_l02Fill.l0 kq a2 a3 x10_1 a0_0 l0_1 l0_2 a1_0 a1_1 a1_2 a0_0 y480 x484002_1 = some (r1, r2, r3)) ∧ Aside0 (kq ≤ k) ∧ Aside0 (Kd.R (Kd.int .i64) 3 w' w.heap.size (fun _ => True) (.slice Ao16 y480.length co16) y480) ∧ Aside0 (Kd.R k98 98 w' w.heap.size (fun _ => True) u484002 x484002_1) ∧ Aside0 (w'.heap[gb474]? = some (.cells #[.int .i64 a0_0, (.slice A0_1 l0_1.length c0_1), (.slice A0_2 l0_2.length c0_2)] 41 (0, 0))) ∧ Aside0 (w'.heap[gb475]? = some (.cells #[.int .i64 a1_0, .int .i64 a1_1, .int .i64 a1_2] 50 (0, 0))) ∧ Aside0 (w'.heap[gb476]? = some (.cells #[.int .i64 0, (.slice none 0 0), (.slice none 0 0)] 41 (0, 0))) ∧ Aside0 (w'.heap[gb483]? = some (.cells #[.int .i64 a0_0, (.slice Ao16 y480.length co16), u484002] 41 (0, 0))) ∧ Aside0 (Below w.heap.size w w'))
  case atStart => exact ⟨(0), (([] : List (S98))), (.slice none 0 0), (by first | rfl | (simp; done) | (simp [*]; done)), H', ⟨Nat.le_refl _⟩, ⟨by refine rk ?_; exact Kd.R_mono (Kd.R_far (p := ⟨gb483, 2, none⟩) (Kd.R_far (p := ⟨gb483, 1, none⟩) (Kd.R_far (p := ⟨gb483, 0, none⟩) (Kd.R_types HO482.out BK483.out (by decide)) (fun _ hk => hk.2) (.int .i64 a0_0)) (fun _ hk => hk.2) (.slice Ao16 y480.length co16)) (fun _ hk => hk.2) (.slice none 0 0)) (fun _ hk => trivial)⟩, ⟨by first | exact Kd.R_nil _ _ _ _ _ | exact Kd.N_nil _ _ _ _ _ | exact Kd.V_nil _ _ _ _ _ | exact Kd.Q_nil _ _ _ _ _ | exact Kd.S_nil _ _ _ _ _⟩, ⟨by refine bk ?_; refine blk_far ?_ NB474_483.out _; refine bk ?_; refine blk_far ?_ NB474_483.out _; refine bk ?_; refine blk_far ?_ NB474_483.out _; refine bk ?_; exact BK474.out⟩, ⟨by refine bk ?_; refine blk_far ?_ NB475_483.out _; refine bk ?_; refine blk_far ?_ NB475_483.out _; refine bk ?_; refine blk_far ?_ NB475_483.out _; refine bk ?_; exact BK475.out⟩, ⟨by refine bk ?_; refine blk_far ?_ NB476_483.out _; refine bk ?_; refine blk_far ?_ NB476_483.out _; refine bk ?_; refine blk_far ?_ NB476_483.out _; refine bk ?_; exact BK476.out⟩, ⟨by refine bk ?_; refine blk_put (cs := #[.int .i64 a0_0, .slice Ao16 y480.length co16, .slice none 0 0]) ?_ 2 _ rfl; refine bk ?_; refine blk_put (cs := #[.int .i64 a0_0, .slice none 0 0, .slice none 0 0]) ?_ 1 _ rfl; refine bk ?_; refine blk_put (cs := #[.int .i64 0, .slice none 0 0, .slice none 0 0]) ?_ 0 _ rfl; refine bk ?_; exact BK483.out⟩, ⟨bl HB.out⟩⟩
  case round =>
   clear H'
   try clear p2
   try clear c5
   try clear c8
   obtain ⟨x10_1, x484002_1, u484002, rfl, HA, HK1, HO_484001, HO_484002, BK474, BK475, BK476, BK483, HB⟩ := hrel
   cases gk with
   | zero => exact absurd HA.out (by simp [spec_l02Fill.l0])
   | succ k1 =>
    have H := HA.out
    clear HA
    simp only [spec_l02Fill.l0] at H
    by_cases c20 : x10_1 < (l0_2.length : Int)
    ·rw [if_pos c20] at H
     have c20b0 : decide (x10_1 < (l0_2.length : Int)) = true := decide_eq_true c20
     clear c20
     by_cases c21 : 0 ≤ x10_1
     ·rw [if_pos c21] at H
      have c21b0 : decide (0 ≤ x10_1) = true := decide_eq_true c21
      clear c21
      have HC22 := Aside0.mk H
      clear H
      have hnb23 := NB474_475.out
      have hnc23 := NB475_474.out
      have hnb24 := NB474_476.out
      have hnc24 := NB476_474.out
      have hnb25 := NB474_483.out
      have hnc25 := NB483_474.out
      obtain ⟨hcz26_0, hcz26_1, hcz26_2, hfz26_0, hfz26_1, hfz26_2⟩ := cz3 BK474.out
      have p484 : 0 ≤ (x10_1 : Int) := of_decide_eq_true asm
      have q484 : x10_1 < (l0_2.length : Int) := of_decide_eq_true asm
      obtain ⟨ad484, e484, hx484_0, hx484_1, hx484_2, hx484_3⟩ := at_T98 HR0_2.out x10_1 p484 q484
      cases e484
      replace hx484_0 := (HB.out.cell (World.block_lt_of_cell? w _ hx484_0)).trans hx484_0
      replace hx484_1 := (HB.out.cell (World.block_lt_of_cell? w _ hx484_1)).trans hx484_1
      replace hx484_2 := (HB.out.cell (World.block_lt_of_cell? w _ hx484_2)).trans hx484_2
      replace hx484_3 := (HB.out.cell (World.block_lt_of_cell? w _ hx484_3)).trans hx484_3
      replace p484 := eq_true p484
      replace q484 := eq_true q484
      go_upto_if 35 with (first | ((with_reducible refine gate_dst (N := 11) rfl ?_); refine bx (cs := #[.int .i64 0, .int .i64 0, .int .i64 0, .bool false]) (t := 98) fun gb485 hg w27 hbox hb => ?_; replace HO_484001 := Aside0.mk (Kd.R_below (rk HO_484001.out) hb); replace HO_484002 := Aside0.mk (Kd.R_below (Kd.R_elderB (rk HO_484002.out) gb485 (Nat.le_of_eq hg.symm)) hb); have BK485 := Aside0.mk (hbox); have GW485 := Aside0.mk (gs HB.out hg); have GE485 := Aside0.mk (gs HB.out hg); replace HB := Aside0.mk (below_step (bl HB.out) hb); have NB474_485 := Aside0.mk ((nl BK474.out hg)); have NB485_474 := Aside0.mk ((ng BK474.out hg)); replace BK474 := Aside0.mk (bb BK474.out hb); have NB475_485 := Aside0.mk ((nl BK475.out hg)); have NB485_475 := Aside0.mk ((ng BK475.out hg)); replace BK475 := Aside0.mk (bb BK475.out hb); have NB476_485 := Aside0.mk ((nl BK476.out hg)); have NB485_476 := Aside0.mk ((ng BK476.out hg)); replace BK476 := Aside0.mk (bb BK476.out hb); have NB483_485 := Aside0.mk ((nl BK483.out hg)); have NB485_483 := Aside0.mk ((ng BK483.out hg)); replace BK483 := Aside0.mk (bb BK483.out hb); clear hb hbox hg; have hnb28 := NB485_474.out; have hnc28 := NB474_485.out; have hnb29 := NB485_475.out; have hnc29 := NB475_485.out; have hnb30 := NB485_476.out; have hnc30 := NB476_485.out; have hnb31 := NB485_483.out; have hnc31 := NB483_485.out; obtain ⟨hcz32_0, hcz32_1, hcz32_2, hcz32_3, hfz32_0, hfz32_1, hfz32_2, hfz32_3⟩ := cz4 BK485.out; have hnb33 := NB475_476.out; have hnc33 := NB476_475.out; have hnb34 := NB475_483.out; have hnc34 := NB483_475.out; obtain ⟨hcz35_0, hcz35_1, hcz35_2, hfz35_0, hfz35_1, hfz35_2⟩ := cz3 BK475.out))
      (try simp only [Act.put, List.setIfInBounds_toArray, List.set_cons_zero, List.set_cons_succ])
      go_cut [] (fun wc => ∃ (kq : Nat) (x484002_21 : List (S98)) (u484002 : Value), Aside0 (spec_l02Fill.j1 kq a2 a3 x10_1 a0_0 l0_1 l0_2 a1_0 a1_1 a1_2 a0_0 y480 x484002_21 ((rd_T98 l0_2 x10_1).f0) ((rd_T98 l0_2 x10_1).f1) ((rd_T98 l0_2 x10_1).f2) ((rd_T98 l0_2 x10_1).f3) = some (r1, r2, r3)) ∧ Aside0 (kq ≤ k1) ∧ Aside0 (Kd.R (Kd.int .i64) 3 wc w.heap.size (fun _ => True) (.slice Ao16 y480.length co16) y480) ∧ Aside0 (Kd.R k98 98 wc w.heap.size (fun k_ => k_ ≠ gb485) u484002 x484002_21) ∧ Aside0 (wc.heap[gb474]? = some (.cells #[.int .i64 a0_0, (.slice A0_1 l0_1.length c0_1), (.slice (some ad484) l0_2.length c0_2)] 41 (0, 0))) ∧ Aside0 (wc.heap[gb475]? = some (.cells #[.int .i64 a1_0, .int .i64 a1_1, .int .i64 a1_2] 50 (0, 0))) ∧ Aside0 (wc.heap[gb476]? = some (.cells #[.int .i64 0, (.slice none 0 0), (.slice none 0 0)] 41 (0, 0))) ∧ Aside0 (wc.heap[gb483]? = some (.cells #[.int .i64 a0_0, (.slice Ao16 y480.length co16), u484002] 41 (0, 0))) ∧ Aside0 (wc.heap[gb485]? = some (.cells #[.int .i64 ((rd_T98 l0_2 x10_1).f0), .int .i64 ((rd_T98 l0_2 x10_1).f1), .int .i64 ((rd_T98 l0_2 x10_1).f2), .bool ((rd_T98 l0_2 x10_1).f3)] 98 (0, 0))) ∧ Aside0 (Below w.heap.size w wc))
      case first =>
       have H := HC22.out
       clear HC22
       by_cases c36 : ((rd_T98 l0_2 x10_1).f0) = a1_1
       ·rw [if_pos c36] at H
        have c36b0 : (((rd_T98 l0_2 x10_1).f0) == a1_1) = true := beq_iff_eq.mpr c36
        have c36b1 : (((rd_T98 l0_2 x10_1).f0) != a1_1) = false := bne_eq_false_iff_eq.mpr c36
        clear c36
        (first | rw [c36b0] | (simp only [i64_w, i32_w]; rw [c36b0]) | skip)
        by_cases c37 : x484002_1.length < 4398046511104
        ·rw [if_pos c37] at H
         have LMc37 := Aside0.mk c37
         clear c37
         obtain ⟨y486, hy486⟩ : ∃ y_ : List (S98), y_ = (x484002_1 ++ [(⟨a1_1, a3, a2, false⟩ : S98)]) := ⟨_, rfl⟩
         replace H : (if a3 < a1_2 then (if y486.length < 4398046511104 then (spec_l02Fill.j1 k1 a2 a3 x10_1 a0_0 l0_1 l0_2 a1_0 a1_1 a1_2 a0_0 y480 (y486 ++ [(⟨wrap64 (a1_1 + a3), wrap64 (a1_2 - a3), 0, false⟩ : S98)]) ((rd_T98 l0_2 x10_1).f0) ((rd_T98 l0_2 x10_1).f1) ((rd_T98 l0_2 x10_1).f2) ((rd_T98 l0_2 x10_1).f3)) else (none)) else (spec_l02Fill.j1 k1 a2 a3 x10_1 a0_0 l0_1 l0_2 a1_0 a1_1 a1_2 a0_0 y480 y486 ((rd_T98 l0_2 x10_1).f0) ((rd_T98 l0_2 x10_1).f1) ((rd_T98 l0_2 x10_1).f2) ((rd_T98 l0_2 x10_1).f3))) = some (r1, r2, r3) := by first | (rw [hy486]; with_reducible exact H) | (have H2_ := (Option.bind_some _ _).symm.trans H; rw [hy486]; with_reducible exact H2_) | (have H2_ := (Option.bind_some _ _).symm.trans H; with_reducible exact H2_) | with_reducible exact H | (rw [hy486]; exact H) | exact H
         have Ny486 := Aside0.mk hy486
         clear hy486
         by_cases c38 : a3 < a1_2
         ·rw [if_pos c38] at H
          have c38b0 : decide (a3 < a1_2) = true := decide_eq_true c38
          clear c38
          by_cases c39 : y486.length < 4398046511104
          ·rw [if_pos c39] at H
           have LMc39 := Aside0.mk c39
           clear c39
           obtain ⟨y489, hy489⟩ : ∃ y_ : List (S98), y_ = (y486 ++ [(⟨wrap64 (a1_1 + a3), wrap64 (a1_2 - a3), 0, false⟩ : S98)]) := ⟨_, rfl⟩
           replace H : (spec_l02Fill.j1 k1 a2 a3 x10_1 a0_0 l0_1 l0_2 a1_0 a1_1 a1_2 a0_0 y480 y489 ((rd_T98 l0_2 x10_1).f0) ((rd_T98 l0_2 x10_1).f1) ((rd_T98 l0_2 x10_1).f2) ((rd_T98 l0_2 x10_1).f3)) = some (r1, r2, r3) := by first | (rw [hy489]; with_reducible exact H) | (have H2_ := (Option.bind_some _ _).symm.trans H; rw [hy489]; with_reducible exact H2_) | (have H2_ := (Option.bind_some _ _).symm.trans H; with_reducible exact H2_) | with_reducible exact H | (rw [hy489]; exact H) | exact H
           have Ny489 := Aside0.mk hy489
           clear hy489
           have H' := Aside0.mk H
           clear H
           have hnb40 := NB483_474.out
           have hnc40 := NB474_483.out
           have hnb41 := NB483_475.out
           have hnc41 := NB475_483.out
           have hnb42 := NB483_476.out
           have hnc42 := NB476_483.out
           have hnb43 := NB483_485.out
           have hnc43 := NB485_483.out
           obtain ⟨hcz44_0, hcz44_1, hcz44_2, hfz44_0, hfz44_1, hfz44_2⟩ := cz3 BK483.out
           have hnb45 := NB475_474.out
           have hnc45 := NB474_475.out
           have hnb46 := NB475_476.out
           have hnc46 := NB476_475.out
           have hnb47 := NB475_485.out
           have hnc47 := NB485_475.out
           obtain ⟨hcz48_0, hcz48_1, hcz48_2, hfz48_0, hfz48_1, hfz48_2⟩ := cz3 BK475.out
           go_wp2_with (first | ((with_reducible refine gate_builtin (b := .append) (xs := #[.tmp 37, .tmp 43]) rfl ?_); at_builtin; refine Kd.R_append k98 (w0 := w) w.heap.size rfl (.tmp 37) (.tmp 43) 39 98 (.agg #[(.int .i64 0), (.int .i64 0), (.int .i64 0), (.bool false)]) 32 rfl Try.underlying39 info98 rfl (by decide) (by omega) u484002 x484002_1 (⟨a1_1, a3, a2, false⟩ : S98) [.int .i64 a1_1, .int .i64 a3, .int .i64 a2, .bool false] (fun k_ => k_ ≠ gb485) (fun _ => False) rfl (by first | (go_simp; done) | (go_simp; rfl)) ?aP (fun _ hk => hk.elim) ?aF ?aO ?aB ?aS ?aL ?_; (case aP => exact k98_mkM _ _ _ (⟨a1_1, a3, a2, false⟩ : S98)); (case aB => exact (bl HB.out)); (case aF => exact (fun k_ hk => Kd.freshB (g := gb485) (o := .cells #[.int .i64 ((rd_T98 l0_2 x10_1).f0), .int .i64 ((rd_T98 l0_2 x10_1).f1), .int .i64 ((rd_T98 l0_2 x10_1).f2), .bool ((rd_T98 l0_2 x10_1).f3)] 98 (0, 0)) (by refine bk ?_; refine blk_put (cs := #[.int .i64 ((rd_T98 l0_2 x10_1).f0), .int .i64 ((rd_T98 l0_2 x10_1).f1), .int .i64 ((rd_T98 l0_2 x10_1).f2), .bool false]) ?_ 3 _ rfl; refine bk ?_; refine blk_put (cs := #[.int .i64 ((rd_T98 l0_2 x10_1).f0), .int .i64 ((rd_T98 l0_2 x10_1).f1), .int .i64 0, .bool false]) ?_ 2 _ rfl; refine bk ?_; refine blk_put (cs := #[.int .i64 ((rd_T98 l0_2 x10_1).f0), .int .i64 0, .int .i64 0, .bool false]) ?_ 1 _ rfl; refine bk ?_; refine blk_put (cs := #[.int .i64 0, .int .i64 0, .int .i64 0, .bool false]) ?_ 0 _ rfl; refine bk ?_; exact BK485.out) k_ hk)); (case aO => exact (by refine rk ?_; exact Kd.R_mono (Kd.R_far (p := ⟨gb485, 3, none⟩) (Kd.R_far (p := ⟨gb485, 2, none⟩) (Kd.R_far (p := ⟨gb485, 1, none⟩) (Kd.R_far (p := ⟨gb485, 0, none⟩) (Kd.R_mono HO_484002.out (fun k_ hk => (⟨hk, hk.2⟩ : _ ∧ k_ ≠ gb485))) (fun _ hk => hk.2) (.int .i64 ((rd_T98 l0_2 x10_1).f0))) (fun _ hk => hk.2) (.int .i64 ((rd_T98 l0_2 x10_1).f1))) (fun _ hk => hk.2) (.int .i64 ((rd_T98 l0_2 x10_1).f2))) (fun _ hk => hk.2) (.bool ((rd_T98 l0_2 x10_1).f3))) (fun _ hk => hk.1.2))); (case aS => exact (below_size (bl HB.out))); (case aL => have := LMc37.out; omega); intro v487 w49 ho hb hg hat; rw [← Ny486.out] at ho; replace HO_484001 := Aside0.mk (Kd.R_over' (by refine rk ?_; exact (Kd.R_mono (Kd.R_far (p := ⟨gb485, 3, none⟩) (Kd.R_far (p := ⟨gb485, 2, none⟩) (Kd.R_far (p := ⟨gb485, 1, none⟩) (Kd.R_far (p := ⟨gb485, 0, none⟩) (Kd.R_types HO_484001.out BK485.out (by decide)) (fun _ hk => hk.2) (.int .i64 ((rd_T98 l0_2 x10_1).f0))) (fun _ hk => hk.2) (.int .i64 ((rd_T98 l0_2 x10_1).f1))) (fun _ hk => hk.2) (.int .i64 ((rd_T98 l0_2 x10_1).f2))) (fun _ hk => hk.2) (.bool ((rd_T98 l0_2 x10_1).f3))) (fun _ h_ => h_.1))) (Kd.R_typed (by refine rk ?_; exact (Kd.R_mono (Kd.R_far (p := ⟨gb485, 3, none⟩) (Kd.R_far (p := ⟨gb485, 2, none⟩) (Kd.R_far (p := ⟨gb485, 1, none⟩) (Kd.R_far (p := ⟨gb485, 0, none⟩) (Kd.R_mono HO_484002.out (fun k_ hk => (⟨hk, hk.2⟩ : _ ∧ k_ ≠ gb485))) (fun _ hk => hk.2) (.int .i64 ((rd_T98 l0_2 x10_1).f0))) (fun _ hk => hk.2) (.int .i64 ((rd_T98 l0_2 x10_1).f1))) (fun _ hk => hk.2) (.int .i64 ((rd_T98 l0_2 x10_1).f2))) (fun _ hk => hk.2) (.bool ((rd_T98 l0_2 x10_1).f3))) (fun _ h_ => h_.1)))) (by decide) hg); replace BK474 := Aside0.mk (blk_grown (g := gb474) (o := .cells #[.int .i64 a0_0, .slice A0_1 l0_1.length c0_1, .slice (some ad484) l0_2.length c0_2] 41 (0, 0)) (bf BK474.out) hg (Kd.R_ne HO_484002.out BK474.out (by decide))); replace BK475 := Aside0.mk (blk_grown (g := gb475) (o := .cells #[.int .i64 a1_0, .int .i64 a1_1, .int .i64 a1_2] 50 (0, 0)) (bf BK475.out) hg (Kd.R_ne HO_484002.out BK475.out (by decide))); replace BK476 := Aside0.mk (blk_grown (g := gb476) (o := .cells #[.int .i64 0, .slice none 0 0, .slice none 0 0] 41 (0, 0)) (bf BK476.out) hg (Kd.R_ne HO_484002.out BK476.out (by decide))); replace BK483 := Aside0.mk (blk_grown (g := gb483) (o := .cells #[.int .i64 a0_0, .slice Ao16 y480.length co16, u484002] 41 (0, 0)) (bf BK483.out) hg (Kd.R_ne HO_484002.out BK483.out (by decide))); replace BK485 := Aside0.mk (blk_grown (g := gb485) (o := .cells #[.int .i64 ((rd_T98 l0_2 x10_1).f0), .int .i64 ((rd_T98 l0_2 x10_1).f1), .int .i64 ((rd_T98 l0_2 x10_1).f2), .bool ((rd_T98 l0_2 x10_1).f3)] 98 (0, 0)) (by refine bk ?_; refine blk_put (cs := #[.int .i64 ((rd_T98 l0_2 x10_1).f0), .int .i64 ((rd_T98 l0_2 x10_1).f1), .int .i64 ((rd_T98 l0_2 x10_1).f2), .bool false]) ?_ 3 _ rfl; refine bk ?_; refine blk_put (cs := #[.int .i64 ((rd_T98 l0_2 x10_1).f0), .int .i64 ((rd_T98 l0_2 x10_1).f1), .int .i64 0, .bool false]) ?_ 2 _ rfl; refine bk ?_; refine blk_put (cs := #[.int .i64 ((rd_T98 l0_2 x10_1).f0), .int .i64 0, .int .i64 0, .bool false]) ?_ 1 _ rfl; refine bk ?_; refine blk_put (cs := #[.int .i64 0, .int .i64 0, .int .i64 0, .bool false]) ?_ 0 _ rfl; refine bk ?_; exact BK485.out) hg (Kd.R_away HO_484002.out (fun _ hk => hk.2))); replace HB := Aside0.mk (hb); have HO488 := Aside0.mk (ho); clear HO_484002; clear ho hb hg hat; obtain ⟨Ao50, co50, eo50⟩ := Kd.R_slice HO488.out; subst eo50; obtain ⟨hcz51_0, hcz51_1, hcz51_2, hfz51_0, hfz51_1, hfz51_2⟩ := cz3 BK483.out; obtain ⟨hcz52_0, hcz52_1, hcz52_2, hfz52_0, hfz52_1, hfz52_2⟩ := cz3 BK475.out) | ((with_reducible refine gate_builtin (b := .append) (xs := #[.tmp 51, .tmp 61]) rfl ?_); at_builtin; refine Kd.R_append k98 (w0 := w) w.heap.size rfl (.tmp 51) (.tmp 61) 39 98 (.agg #[(.int .i64 0), (.int .i64 0), (.int .i64 0), (.bool false)]) 32 rfl Try.underlying39 info98 rfl (by decide) (by omega) (.slice Ao50 y486.length co50) y486 (⟨wrap64 (a1_1 + a3), wrap64 (a1_2 - a3), 0, false⟩ : S98) [.int .i64 (wrap64 (a1_1 + a3)), .int .i64 (wrap64 (a1_2 - a3)), .int .i64 0, .bool false] (fun k_ => k_ ≠ gb485) (fun _ => False) rfl (by first | (go_simp; done) | (go_simp; rfl)) ?aP (fun _ hk => hk.elim) ?aF ?aO ?aB ?aS ?aL ?_; (case aP => exact k98_mkM _ _ _ (⟨wrap64 (a1_1 + a3), wrap64 (a1_2 - a3), 0, false⟩ : S98)); (case aB => exact (bl HB.out)); (case aF => exact (fun k_ hk => Kd.freshB (g := gb485) (o := .cells #[.int .i64 ((rd_T98 l0_2 x10_1).f0), .int .i64 ((rd_T98 l0_2 x10_1).f1), .int .i64 ((rd_T98 l0_2 x10_1).f2), .bool ((rd_T98 l0_2 x10_1).f3)] 98 (0, 0)) (bf BK485.out) k_ hk)); (case aO => exact (by refine rk ?_; exact Kd.R_mono (Kd.R_far (p := ⟨gb483, 2, none⟩) (Kd.R_types HO488.out BK483.out (by decide)) (fun _ hk => hk.2) (.slice Ao50 y486.length co50)) (fun _ hk => hk.1))); (case aS => exact (below_size (bl HB.out))); (case aL => have := LMc39.out; omega); intro v490 w53 ho hb hg hat; rw [← Ny489.out] at ho; replace HO_484001 := Aside0.mk (Kd.R_over' (by refine rk ?_; exact (Kd.R_mono (Kd.R_far (p := ⟨gb483, 2, none⟩) (Kd.R_types HO_484001.out BK483.out (by decide)) (fun _ hk => hk.2) (.slice Ao50 y486.length co50)) (fun _ h_ => h_.1))) (Kd.R_typed (by refine rk ?_; exact (Kd.R_mono (Kd.R_far (p := ⟨gb483, 2, none⟩) (Kd.R_types HO488.out BK483.out (by decide)) (fun _ hk => hk.2) (.slice Ao50 y486.length co50)) (fun _ h_ => h_.1)))) (by decide) hg); replace BK474 := Aside0.mk (blk_grown (g := gb474) (o := .cells #[.int .i64 a0_0, .slice A0_1 l0_1.length c0_1, .slice (some ad484) l0_2.length c0_2] 41 (0, 0)) (bf BK474.out) hg (Kd.R_ne HO488.out BK474.out (by decide))); replace BK475 := Aside0.mk (blk_grown (g := gb475) (o := .cells #[.int .i64 a1_0, .int .i64 a1_1, .int .i64 a1_2] 50 (0, 0)) (bf BK475.out) hg (Kd.R_ne HO488.out BK475.out (by decide))); replace BK476 := Aside0.mk (blk_grown (g := gb476) (o := .cells #[.int .i64 0, .slice none 0 0, .slice none 0 0] 41 (0, 0)) (bf BK476.out) hg (Kd.R_ne HO488.out BK476.out (by decide))); replace BK483 := Aside0.mk (blk_grown (g := gb483) (o := .cells #[.int .i64 a0_0, .slice Ao16 y480.length co16, .slice Ao50 y486.length co50] 41 (0, 0)) (by refine bk ?_; refine blk_put (cs := #[.int .i64 a0_0, .slice Ao16 y480.length co16, u484002]) ?_ 2 _ rfl; refine bk ?_; exact BK483.out) hg (Kd.R_ne HO488.out BK483.out (by decide))); replace BK485 := Aside0.mk (blk_grown (g := gb485) (o := .cells #[.int .i64 ((rd_T98 l0_2 x10_1).f0), .int .i64 ((rd_T98 l0_2 x10_1).f1), .int .i64 ((rd_T98 l0_2 x10_1).f2), .bool ((rd_T98 l0_2 x10_1).f3)] 98 (0, 0)) (bf BK485.out) hg (Kd.R_away HO488.out (fun _ hk => hk))); replace HB := Aside0.mk (hb); have HO491 := Aside0.mk (ho); clear HO488; clear ho hb hg hat; obtain ⟨Ao54, co54, eo54⟩ := Kd.R_slice HO491.out; subst eo54; obtain ⟨hcz55_0, hcz55_1, hcz55_2, hfz55_0, hfz55_1, hfz55_2⟩ := cz3 BK483.out))
           go_meet
           case rel => exact ⟨_, (y489), (.slice Ao54 y489.length co54), H', ⟨by have := HK1.out; first | omega | exact Nat.le_refl _⟩, ⟨by refine rk ?_; exact Kd.R_mono (Kd.R_far (p := ⟨gb483, 2, none⟩) (Kd.R_types HO_484001.out BK483.out (by decide)) (fun _ hk => hk.2) (.slice Ao54 y489.length co54)) (fun _ hk => trivial)⟩, ⟨by refine rk ?_; exact Kd.R_mono (Kd.R_far (p := ⟨gb483, 2, none⟩) (Kd.R_types HO491.out BK483.out (by decide)) (fun _ hk => hk.2) (.slice Ao54 y489.length co54)) (fun _ hk => hk.1)⟩, ⟨by refine bk ?_; refine blk_far ?_ NB474_483.out _; refine bk ?_; exact BK474.out⟩, ⟨by refine bk ?_; refine blk_far ?_ NB475_483.out _; refine bk ?_; exact BK475.out⟩, ⟨by refine bk ?_; refine blk_far ?_ NB476_483.out _; refine bk ?_; exact BK476.out⟩, ⟨by refine bk ?_; refine blk_put (cs := #[.int .i64 a0_0, .slice Ao16 y480.length co16, .slice Ao50 y486.length co50]) ?_ 2 _ rfl; refine bk ?_; exact BK483.out⟩, ⟨by refine bk ?_; refine blk_far ?_ NB485_483.out _; refine bk ?_; exact BK485.out⟩, ⟨bl HB.out⟩⟩
          ·rw [if_neg c39] at H
           exact absurd H (by simp)
         ·rw [if_neg c38] at H
          have c38b0 : decide (a3 < a1_2) = false := decide_eq_false c38
          clear c38
          have H' := Aside0.mk H
          clear H
          have hnb56 := NB483_474.out
          have hnc56 := NB474_483.out
          have hnb57 := NB483_475.out
          have hnc57 := NB475_483.out
          have hnb58 := NB483_476.out
          have hnc58 := NB476_483.out
          have hnb59 := NB483_485.out
          have hnc59 := NB485_483.out
          obtain ⟨hcz60_0, hcz60_1, hcz60_2, hfz60_0, hfz60_1, hfz60_2⟩ := cz3 BK483.out
          have hnb61 := NB475_474.out
          have hnc61 := NB474_475.out
          have hnb62 := NB475_476.out
          have hnc62 := NB476_475.out
          have hnb63 := NB475_485.out
          have hnc63 := NB485_475.out
          obtain ⟨hcz64_0, hcz64_1, hcz64_2, hfz64_0, hfz64_1, hfz64_2⟩ := cz3 BK475.out
          go_wp2_with (first | ((with_reducible refine gate_builtin (b := .append) (xs := #[.tmp 37, .tmp 43]) rfl ?_); at_builtin; refine Kd.R_append k98 (w0 := w) w.heap.size rfl (.tmp 37) (.tmp 43) 39 98 (.agg #[(.int .i64 0), (.int .i64 0), (.int .i64 0), (.bool false)]) 32 rfl Try.underlying39 info98 rfl (by decide) (by omega) u484002 x484002_1 (⟨a1_1, a3, a2, false⟩ : S98) [.int .i64 a1_1, .int .i64 a3, .int .i64 a2, .bool false] (fun k_ => k_ ≠ gb485) (fun _ => False) rfl (by first | (go_simp; done) | (go_simp; rfl)) ?aP (fun _ hk => hk.elim) ?aF ?aO ?aB ?aS ?aL ?_; (case aP => exact k98_mkM _ _ _ (⟨a1_1, a3, a2, false⟩ : S98)); (case aB => exact (bl HB.out)); (case aF => exact (fun k_ hk => Kd.freshB (g := gb485) (o := .cells #[.int .i64 ((rd_T98 l0_2 x10_1).f0), .int .i64 ((rd_T98 l0_2 x10_1).f1), .int .i64 ((rd_T98 l0_2 x10_1).f2), .bool ((rd_T98 l0_2 x10_1).f3)] 98 (0, 0)) (by refine bk ?_; refine blk_put (cs := #[.int .i64 ((rd_T98 l0_2 x10_1).f0), .int .i64 ((rd_T98 l0_2 x10_1).f1), .int .i64 ((rd_T98 l0_2 x10_1).f2), .bool false]) ?_ 3 _ rfl; refine bk ?_; refine blk_put (cs := #[.int .i64 ((rd_T98 l0_2 x10_1).f0), .int .i64 ((rd_T98 l0_2 x10_1).f1), .int .i64 0, .bool false]) ?_ 2 _ rfl; refine bk ?_; refine blk_put (cs := #[.int .i64 ((rd_T98 l0_2 x10_1).f0), .int .i64 0, .int .i64 0, .bool false]) ?_ 1 _ rfl; refine bk ?_; refine blk_put (cs := #[.int .i64 0, .int .i64 0, .int .i64 0, .bool false]) ?_ 0 _ rfl; refine bk ?_; exact BK485.out) k_ hk)); (case aO => exact (by refine rk ?_; exact Kd.R_mono (Kd.R_far (p := ⟨gb485, 3, none⟩) (Kd.R_far (p := ⟨gb485, 2, none⟩) (Kd.R_far (p := ⟨gb485, 1, none⟩) (Kd.R_far (p := ⟨gb485, 0, none⟩) (Kd.R_mono HO_484002.out (fun k_ hk => (⟨hk, hk.2⟩ : _ ∧ k_ ≠ gb485))) (fun _ hk => hk.2) (.int .i64 ((rd_T98 l0_2 x10_1).f0))) (fun _ hk => hk.2) (.int .i64 ((rd_T98 l0_2 x10_1).f1))) (fun _ hk => hk.2) (.int .i64 ((rd_T98 l0_2 x10_1).f2))) (fun _ hk => hk.2) (.bool ((rd_T98 l0_2 x10_1).f3))) (fun _ hk => hk.1.2))); (case aS => exact (below_size (bl HB.out))); (case aL => have := LMc37.out; omega); intro v487 w65 ho hb hg hat; rw [← Ny486.out] at ho; replace HO_484001 := Aside0.mk (Kd.R_over' (by refine rk ?_; exact (Kd.R_mono (Kd.R_far (p := ⟨gb485, 3, none⟩) (Kd.R_far (p := ⟨gb485, 2, none⟩) (Kd.R_far (p := ⟨gb485, 1, none⟩) (Kd.R_far (p := ⟨gb485, 0, none⟩) (Kd.R_types HO_484001.out BK485.out (by decide)) (fun _ hk => hk.2) (.int .i64 ((rd_T98 l0_2 x10_1).f0))) (fun _ hk => hk.2) (.int .i64 ((rd_T98 l0_2 x10_1).f1))) (fun _ hk => hk.2) (.int .i64 ((rd_T98 l0_2 x10_1).f2))) (fun _ hk => hk.2) (.bool ((rd_T98 l0_2 x10_1).f3))) (fun _ h_ => h_.1))) (Kd.R_typed (by refine rk ?_; exact (Kd.R_mono (Kd.R_far (p := ⟨gb485, 3, none⟩) (Kd.R_far (p := ⟨gb485, 2, none⟩) (Kd.R_far (p := ⟨gb485, 1, none⟩) (Kd.R_far (p := ⟨gb485, 0, none⟩) (Kd.R_mono HO_484002.out (fun k_ hk => (⟨hk, hk.2⟩ : _ ∧ k_ ≠ gb485))) (fun _ hk => hk.2) (.int .i64 ((rd_T98 l0_2 x10_1).f0))) (fun _ hk => hk.2) (.int .i64 ((rd_T98 l0_2 x10_1).f1))) (fun _ hk => hk.2) (.int .i64 ((rd_T98 l0_2 x10_1).f2))) (fun _ hk => hk.2) (.bool ((rd_T98 l0_2 x10_1).f3))) (fun _ h_ => h_.1)))) (by decide) hg); replace BK474 := Aside0.mk (blk_grown (g := gb474) (o := .cells #[.int .i64 a0_0, .slice A0_1 l0_1.length c0_1, .slice (some ad484) l0_2.length c0_2] 41 (0, 0)) (bf BK474.out) hg (Kd.R_ne HO_484002.out BK474.out (by decide))); replace BK475 := Aside0.mk (blk_grown (g := gb475) (o := .cells #[.int .i64 a1_0, .int .i64 a1_1, .int .i64 a1_2] 50 (0, 0)) (bf BK475.out) hg (Kd.R_ne HO_484002.out BK475.out (by decide))); replace BK476 := Aside0.mk (blk_grown (g := gb476) (o := .cells #[.int .i64 0, .slice none 0 0, .slice none 0 0] 41 (0, 0)) (bf BK476.out) hg (Kd.R_ne HO_484002.out BK476.out (by decide))); replace BK483 := Aside0.mk (blk_grown (g := gb483) (o := .cells #[.int .i64 a0_0, .slice Ao16 y480.length co16, u484002] 41 (0, 0)) (bf BK483.out) hg (Kd.R_ne HO_484002.out BK483.out (by decide))); replace BK485 := Aside0.mk (blk_grown (g := gb485) (o := .cells #[.int .i64 ((rd_T98 l0_2 x10_1).f0), .int .i64 ((rd_T98 l0_2 x10_1).f1), .int .i64 ((rd_T98 l0_2 x10_1).f2), .bool ((rd_T98 l0_2 x10_1).f3)] 98 (0, 0)) (by refine bk ?_; refine blk_put (cs := #[.int .i64 ((rd_T98 l0_2 x10_1).f0), .int .i64 ((rd_T98 l0_2 x10_1).f1), .int .i64 ((rd_T98 l0_2 x10_1).f2), .bool false]) ?_ 3 _ rfl; refine bk ?_; refine blk_put (cs := #[.int .i64 ((rd_T98 l0_2 x10_1).f0), .int .i64 ((rd_T98 l0_2 x10_1).f1), .int .i64 0, .bool false]) ?_ 2 _ rfl; refine bk ?_; refine blk_put (cs := #[.int .i64 ((rd_T98 l0_2 x10_1).f0), .int .i64 0, .int .i64 0, .bool false]) ?_ 1 _ rfl; refine bk ?_; refine blk_put (cs := #[.int .i64 0, .int .i64 0, .int .i64 0, .bool false]) ?_ 0 _ rfl; refine bk ?_; exact BK485.out) hg (Kd.R_away HO_484002.out (fun _ hk => hk.2))); replace HB := Aside0.mk (hb); have HO488 := Aside0.mk (ho); clear HO_484002; clear ho hb hg hat; obtain ⟨Ao66, co66, eo66⟩ := Kd.R_slice HO488.out; subst eo66; obtain ⟨hcz67_0, hcz67_1, hcz67_2, hfz67_0, hfz67_1, hfz67_2⟩ := cz3 BK483.out; obtain ⟨hcz68_0, hcz68_1, hcz68_2, hfz68_0, hfz68_1, hfz68_2⟩ := cz3 BK475.out))
          go_meet
          case rel => exact ⟨_, (y486), (.slice Ao66 y486.length co66), H', ⟨by have := HK1.out; first | omega | exact Nat.le_refl _⟩, ⟨by refine rk ?_; exact Kd.R_mono (Kd.R_far (p := ⟨gb483, 2, none⟩) (Kd.R_types HO_484001.out BK483.out (by decide)) (fun _ hk => hk.2) (.slice Ao66 y486.length co66)) (fun _ hk => trivial)⟩, ⟨by refine rk ?_; exact Kd.R_mono (Kd.R_far (p := ⟨gb483, 2, none⟩) (Kd.R_types HO488.out BK483.out (by decide)) (fun _ hk => hk.2) (.slice Ao66 y486.length co66)) (fun _ hk => hk.1)⟩, ⟨by refine bk ?_; refine blk_far ?_ NB474_483.out _; refine bk ?_; exact BK474.out⟩, ⟨by refine bk ?_; refine blk_far ?_ NB475_483.out _; refine bk ?_; exact BK475.out⟩, ⟨by refine bk ?_; refine blk_far ?_ NB476_483.out _; refine bk ?_; exact BK476.out⟩, ⟨by refine bk ?_; refine blk_put (cs := #[.int .i64 a0_0, .slice Ao16 y480.length co16, u484002]) ?_ 2 _ rfl; refine bk ?_; exact BK483.out⟩, ⟨by refine bk ?_; refine blk_far ?_ NB485_483.out _; refine bk ?_; exact BK485.out⟩, ⟨bl HB.out⟩⟩
        ·rw [if_neg c37] at H
         exact absurd H (by simp)
       ·rw [if_neg c36] at H
        have c36b0 : (((rd_T98 l0_2 x10_1).f0) == a1_1) = false := beq_eq_false_iff_ne.mpr c36
        have c36b1 : (((rd_T98 l0_2 x10_1).f0) != a1_1) = true := bne_iff_ne.mpr c36
        (first | rw [c36b0] | (simp only [i64_w, i32_w]; rw [c36b0]) | skip)
        have H' := Aside0.mk H
        clear H
        go_wp2
        go_meet
        case rel => exact ⟨_, (x484002_1), (u484002), H', ⟨by have := HK1.out; first | omega | exact Nat.le_refl _⟩, ⟨by refine rk ?_; exact Kd.R_mono (Kd.R_far (p := ⟨gb485, 3, none⟩) (Kd.R_far (p := ⟨gb485, 2, none⟩) (Kd.R_far (p := ⟨gb485, 1, none⟩) (Kd.R_far (p := ⟨gb485, 0, none⟩) (Kd.R_types HO_484001.out BK485.out (by decide)) (fun _ hk => hk.2) (.int .i64 ((rd_T98 l0_2 x10_1).f0))) (fun _ hk => hk.2) (.int .i64 ((rd_T98 l0_2 x10_1).f1))) (fun _ hk => hk.2) (.int .i64 ((rd_T98 l0_2 x10_1).f2))) (fun _ hk => hk.2) (.bool ((rd_T98 l0_2 x10_1).f3))) (fun _ hk => trivial)⟩, ⟨by refine rk ?_; exact Kd.R_mono (Kd.R_far (p := ⟨gb485, 3, none⟩) (Kd.R_far (p := ⟨gb485, 2, none⟩) (Kd.R_far (p := ⟨gb485, 1, none⟩) (Kd.R_far (p := ⟨gb485, 0, none⟩) (Kd.R_mono HO_484002.out (fun k_ hk => (⟨hk, hk.2⟩ : _ ∧ k_ ≠ gb485))) (fun _ hk => hk.2) (.int .i64 ((rd_T98 l0_2 x10_1).f0))) (fun _ hk => hk.2) (.int .i64 ((rd_T98 l0_2 x10_1).f1))) (fun _ hk => hk.2) (.int .i64 ((rd_T98 l0_2 x10_1).f2))) (fun _ hk => hk.2) (.bool ((rd_T98 l0_2 x10_1).f3))) (fun _ hk => hk.1.2)⟩, ⟨by refine bk ?_; refine blk_far ?_ NB474_485.out _; refine bk ?_; refine blk_far ?_ NB474_485.out _; refine bk ?_; refine blk_far ?_ NB474_485.out _; refine bk ?_; refine blk_far ?_ NB474_485.out _; refine bk ?_; exact BK474.out⟩, ⟨by refine bk ?_; refine blk_far ?_ NB475_485.out _; refine bk ?_; refine blk_far ?_ NB475_485.out _; refine bk ?_; refine blk_far ?_ NB475_485.out _; refine bk ?_; refine blk_far ?_ NB475_485.out _; refine bk ?_; exact BK475.out⟩, ⟨by refine bk ?_; refine blk_far ?_ NB476_485.out _; refine bk ?_; refine blk_far ?_ NB476_485.out _; refine bk ?_; refine blk_far ?_ NB476_485.out _; refine bk ?_; refine blk_far ?_ NB476_485.out _; refine bk ?_; exact BK476.out⟩, ⟨by refine bk ?_; refine blk_far ?_ NB483_485.out _; refine bk ?_; refine blk_far ?_ NB483_485.out _; refine bk ?_; refine blk_far ?_ NB483_485.out _; refine bk ?_; refine blk_far ?_ NB483_485.out _; refine bk ?_; exact BK483.out⟩, ⟨by refine bk ?_; refine blk_put (cs := #[.int .i64 ((rd_T98 l0_2 x10_1).f0), .int .i64 ((rd_T98 l0_2 x10_1).f1), .int .i64 ((rd_T98 l0_2 x10_1).f2), .bool false]) ?_ 3 _ rfl; refine bk ?_; refine blk_put (cs := #[.int .i64 ((rd_T98 l0_2 x10_1).f0), .int .i64 ((rd_T98 l0_2 x10_1).f1), .int .i64 0, .bool false]) ?_ 2 _ rfl; refine bk ?_; refine blk_put (cs := #[.int .i64 ((rd_T98 l0_2 x10_1).f0), .int .i64 0, .int .i64 0, .bool false]) ?_ 1 _ rfl; refine bk ?_; refine blk_put (cs := #[.int .i64 0, .int .i64 0, .int .i64 0, .bool false]) ?_ 0 _ rfl; refine bk ?_; exact BK485.out⟩, ⟨bl HB.out⟩⟩
      case rest =>
       clear HC22
       try clear c2
       try clear p2
       try clear c3
       try clear c4
       try clear p4
       try clear q4
       try clear hx4
       try clear c5
       try clear c6
       try clear p6
       try clear c8
       try clear c20
       try clear c20b0
       try clear c21
       try clear c21b0
       try clear c23
       try clear c24
       try clear c25
       try clear c28
       try clear c29
       try clear c30
       try clear c31
       try clear c33
       try clear c34
       try clear c36
       try clear c36b0
       try clear c36b1
       try clear c37
       try clear c38
       try clear c38b0
       try clear c39
       try clear c40
       try clear c41
       try clear c42
       try clear c43
       try clear c45
       try clear c46
       try clear c47
       try clear p48
       try clear q48
       try clear hx48
       try clear c56
       try clear c57
       try clear c58
       try clear c59
       try clear c61
       try clear c62
       try clear c63
       try clear p64
       try clear hcz26_0
       try clear hcz26_1
       try clear hcz26_2
       try clear hcz32_0
       try clear hcz32_1
       try clear hcz32_2
       try clear hcz32_3
       try clear hcz35_0
       try clear hcz35_1
       try clear hcz35_2
       try clear hcz44_0
       try clear hcz44_1
       try clear hcz44_2
       try clear hcz48_0
       try clear hcz48_1
       try clear hcz48_2
       try clear hcz51_0
       try clear hcz51_1
       try clear hcz51_2
       try clear hcz52_0
       try clear hcz52_1
       try clear hcz52_2
       try clear hcz55_0
       try clear hcz55_1
       try clear hcz55_2
       try clear hcz60_0
       try clear hcz60_1
       try clear hcz60_2
       try clear hcz64_0
       try clear hcz64_1
       try clear hcz64_2
       try clear hcz67_0
       try clear hcz67_1
       try clear hcz67_2
       try clear hcz68_0
       try clear hcz68_1
       try clear hcz68_2
       try clear hfz26_0
       try clear hfz26_1
       try clear hfz26_2
       try clear hfz32_0
       try clear hfz32_1
       try clear hfz32_2
       try clear hfz32_3
       try clear hfz35_0
       try clear hfz35_1
       try clear hfz35_2
       try clear hfz44_0
       try clear hfz44_1
       try clear hfz44_2
       try clear hfz48_0
       try clear hfz48_1
       try clear hfz48_2
       try clear hfz51_0
       try clear hfz51_1
       try clear hfz51_2
       try clear hfz52_0
       try clear hfz52_1
       try clear hfz52_2
       try clear hfz55_0
       try clear hfz55_1
       try clear hfz55_2
       try clear hfz60_0
       try clear hfz60_1
       try clear hfz60_2
       try clear hfz64_0
       try clear hfz64_1
       try clear hfz64_2
       try clear hfz67_0
       try clear hfz67_1
       try clear hfz67_2
       try clear hfz68_0
       try clear hfz68_1
       try clear hfz68_2
       try clear hx484_0
       try clear hx484_1
       try clear hx484_2
       try clear hx484_3
       try clear p2
       try clear p484
       try clear q484
       obtain ⟨kq, x484002_21, u484002, HA, HJ21, HO_484001, HO_484002, BK474, BK475, BK476, BK483, BK485, HB⟩ := hcut
       cases kq with
       | zero => exact absurd HA.out (by simp [spec_l02Fill.j1])
       | succ kj21 =>
        have H := HA.out
        clear HA
        simp only [spec_l02Fill.j1] at H
        by_cases c69 : ((rd_T98 l0_2 x10_1).f0) < a1_1
        ·rw [if_pos c69] at H
         have c69b0 : decide (((rd_T98 l0_2 x10_1).f0) < a1_1) = true := decide_eq_true c69
         clear c69
         by_cases c70 : x484002_21.length < 4398046511104
         ·rw [if_pos c70] at H
          have LMc70 := Aside0.mk c70
          clear c70
          obtain ⟨y492, hy492⟩ : ∃ y_ : List (S98), y_ = (x484002_21 ++ [(⟨((rd_T98 l0_2 x10_1).f0), ((rd_T98 l0_2 x10_1).f1), ((rd_T98 l0_2 x10_1).f2), ((rd_T98 l0_2 x10_1).f3)⟩ : S98)]) := ⟨_, rfl⟩
          replace H : (spec_l02Fill.l0 kj21 a2 a3 (wrap64 (x10_1 + 1)) a0_0 l0_1 l0_2 a1_0 a1_1 a1_2 a0_0 y480 y492) = some (r1, r2, r3) := by first | (rw [hy492]; with_reducible exact H) | (have H2_ := (Option.bind_some _ _).symm.trans H; rw [hy492]; with_reducible exact H2_) | (have H2_ := (Option.bind_some _ _).symm.trans H; with_reducible exact H2_) | with_reducible exact H | (rw [hy492]; exact H) | exact H
          have Ny492 := Aside0.mk hy492
          clear hy492
          have H' := Aside0.mk H
          clear H
          have hnb71 := NB485_474.out
          have hnc71 := NB474_485.out
          have hnb72 := NB485_475.out
          have hnc72 := NB475_485.out
          have hnb73 := NB485_476.out
          have hnc73 := NB476_485.out
          have hnb74 := NB485_483.out
          have hnc74 := NB483_485.out
          obtain ⟨hcz75_0, hcz75_1, hcz75_2, hcz75_3, hfz75_0, hfz75_1, hfz75_2, hfz75_3⟩ := cz4 BK485.out
          have hnb76 := NB475_474.out
          have hnc76 := NB474_475.out
          have hnb77 := NB475_476.out
          have hnc77 := NB476_475.out
          have hnb78 := NB475_483.out
          have hnc78 := NB483_475.out
          obtain ⟨hcz79_0, hcz79_1, hcz79_2, hfz79_0, hfz79_1, hfz79_2⟩ := cz3 BK475.out
          have hnb80 := NB483_474.out
          have hnc80 := NB474_483.out
          have hnb81 := NB483_476.out
          have hnc81 := NB476_483.out
          obtain ⟨hcz82_0, hcz82_1, hcz82_2, hfz82_0, hfz82_1, hfz82_2⟩ := cz3 BK483.out
          go_wp2_with (first | ((with_reducible refine gate_builtin (b := .append) (xs := #[.tmp 80, .tmp 82]) rfl ?_); at_builtin; refine Kd.R_append k98 (w0 := w) w.heap.size rfl (.tmp 80) (.tmp 82) 39 98 (.agg #[(.int .i64 0), (.int .i64 0), (.int .i64 0), (.bool false)]) 32 rfl Try.underlying39 info98 rfl (by decide) (by omega) u484002 x484002_21 (⟨((rd_T98 l0_2 x10_1).f0), ((rd_T98 l0_2 x10_1).f1), ((rd_T98 l0_2 x10_1).f2), ((rd_T98 l0_2 x10_1).f3)⟩ : S98) [.int .i64 ((rd_T98 l0_2 x10_1).f0), .int .i64 ((rd_T98 l0_2 x10_1).f1), .int .i64 ((rd_T98 l0_2 x10_1).f2), .bool ((rd_T98 l0_2 x10_1).f3)] (fun k_ => k_ ≠ gb485) (fun _ => False) rfl rfl ?aP (fun _ hk => hk.elim) ?aF ?aO ?aB ?aS ?aL ?_; (case aP => exact k98_mkM _ _ _ (⟨((rd_T98 l0_2 x10_1).f0), ((rd_T98 l0_2 x10_1).f1), ((rd_T98 l0_2 x10_1).f2), ((rd_T98 l0_2 x10_1).f3)⟩ : S98)); (case aB => exact (bl HB.out)); (case aF => exact (fun k_ hk => Kd.freshB (g := gb485) (o := .cells #[.int .i64 ((rd_T98 l0_2 x10_1).f0), .int .i64 ((rd_T98 l0_2 x10_1).f1), .int .i64 ((rd_T98 l0_2 x10_1).f2), .bool ((rd_T98 l0_2 x10_1).f3)] 98 (0, 0)) (bk BK485.out) k_ hk)); (case aO => exact (rk HO_484002.out)); (case aS => exact (below_size (bl HB.out))); (case aL => have := LMc70.out; omega); intro v493 w83 ho hb hg hat; rw [← Ny492.out] at ho; replace HO_484001 := Aside0.mk (Kd.R_over' (rk HO_484001.out) (Kd.R_typed (rk HO_484002.out)) (by decide) hg); replace BK474 := Aside0.mk (blk_grown (g := gb474) (o := .cells #[.int .i64 a0_0, .slice A0_1 l0_1.length c0_1, .slice (some ad484) l0_2.length c0_2] 41 (0, 0)) (bk BK474.out) hg (Kd.R_ne HO_484002.out BK474.out (by decide))); replace BK475 := Aside0.mk (blk_grown (g := gb475) (o := .cells #[.int .i64 a1_0, .int .i64 a1_1, .int .i64 a1_2] 50 (0, 0)) (bk BK475.out) hg (Kd.R_ne HO_484002.out BK475.out (by decide))); replace BK476 := Aside0.mk (blk_grown (g := gb476) (o := .cells #[.int .i64 0, .slice none 0 0, .slice none 0 0] 41 (0, 0)) (bk BK476.out) hg (Kd.R_ne HO_484002.out BK476.out (by decide))); replace BK483 := Aside0.mk (blk_grown (g := gb483) (o := .cells #[.int .i64 a0_0, .slice Ao16 y480.length co16, u484002] 41 (0, 0)) (bk BK483.out) hg (Kd.R_ne HO_484002.out BK483.out (by decide))); replace BK485 := Aside0.mk (blk_grown (g := gb485) (o := .cells #[.int .i64 ((rd_T98 l0_2 x10_1).f0), .int .i64 ((rd_T98 l0_2 x10_1).f1), .int .i64 ((rd_T98 l0_2 x10_1).f2), .bool ((rd_T98 l0_2 x10_1).f3)] 98 (0, 0)) (bk BK485.out) hg (Kd.R_away HO_484002.out (fun _ hk => hk))); replace HB := Aside0.mk (hb); have HO494 := Aside0.mk (ho); clear HO_484002; clear ho hb hg hat; obtain ⟨Ao84, co84, eo84⟩ := Kd.R_slice HO494.out; subst eo84; obtain ⟨hcz85_0, hcz85_1, hcz85_2, hfz85_0, hfz85_1, hfz85_2⟩ := cz3 BK483.out))
          go_roundg kj21
          case measure => have := HK1.out; have := HJ21.out; omega
          case rel => exact ⟨(wrap64 (x10_1 + 1)), (y492), (.slice Ao84 y492.length co84), (by first | rfl | (simp; done) | (simp [*]; done)), H', ⟨by have := HK1.out; have := HJ21.out; omega⟩, ⟨by refine rk ?_; exact Kd.R_mono (Kd.R_far (p := ⟨gb483, 2, none⟩) (Kd.R_types HO_484001.out BK483.out (by decide)) (fun _ hk => hk.2) (.slice Ao84 y492.length co84)) (fun _ hk => trivial)⟩, ⟨by refine rk ?_; exact Kd.R_mono (Kd.R_far (p := ⟨gb483, 2, none⟩) (Kd.R_types HO494.out BK483.out (by decide)) (fun _ hk => hk.2) (.slice Ao84 y492.length co84)) (fun _ hk => trivial)⟩, ⟨by refine bk ?_; refine blk_far ?_ NB474_483.out _; refine bk ?_; exact BK474.out⟩, ⟨by refine bk ?_; refine blk_far ?_ NB475_483.out _; refine bk ?_; exact BK475.out⟩, ⟨by refine bk ?_; refine blk_far ?_ NB476_483.out _; refine bk ?_; exact BK476.out⟩, ⟨by refine bk ?_; refine blk_put (cs := #[.int .i64 a0_0, .slice Ao16 y480.length co16, u484002]) ?_ 2 _ rfl; refine bk ?_; exact BK483.out⟩, ⟨bl HB.out⟩⟩
         ·rw [if_neg c70] at H
          exact absurd H (by simp)
        ·rw [if_neg c69] at H
         have c69b0 : decide (((rd_T98 l0_2 x10_1).f0) < a1_1) = false := decide_eq_false c69
         clear c69
         by_cases c86 : ((rd_T98 l0_2 x10_1).f0) ≥ (wrap64 (a1_1 + a1_2))
         ·rw [if_pos c86] at H
          have c86b0 : decide ((wrap64 (a1_1 + a1_2)) ≤ ((rd_T98 l0_2 x10_1).f0)) = true := decide_eq_true c86
          clear c86
          by_cases c87 : x484002_21.length < 4398046511104
          ·rw [if_pos c87] at H
           have LMc87 := Aside0.mk c87
           clear c87
           obtain ⟨y495, hy495⟩ : ∃ y_ : List (S98), y_ = (x484002_21 ++ [(⟨((rd_T98 l0_2 x10_1).f0), ((rd_T98 l0_2 x10_1).f1), ((rd_T98 l0_2 x10_1).f2), ((rd_T98 l0_2 x10_1).f3)⟩ : S98)]) := ⟨_, rfl⟩
           replace H : (spec_l02Fill.l0 kj21 a2 a3 (wrap64 (x10_1 + 1)) a0_0 l0_1 l0_2 a1_0 a1_1 a1_2 a0_0 y480 y495) = some (r1, r2, r3) := by first | (rw [hy495]; with_reducible exact H) | (have H2_ := (Option.bind_some _ _).symm.trans H; rw [hy495]; with_reducible exact H2_) | (have H2_ := (Option.bind_some _ _).symm.trans H; with_reducible exact H2_) | with_reducible exact H | (rw [hy495]; exact H) | exact H
           have Ny495 := Aside0.mk hy495
           clear hy495
           have H' := Aside0.mk H
           clear H
           have hnb88 := NB485_474.out
           have hnc88 := NB474_485.out
           have hnb89 := NB485_475.out
           have hnc89 := NB475_485.out
           have hnb90 := NB485_476.out
           have hnc90 := NB476_485.out
           have hnb91 := NB485_483.out
           have hnc91 := NB483_485.out
           obtain ⟨hcz92_0, hcz92_1, hcz92_2, hcz92_3, hfz92_0, hfz92_1, hfz92_2, hfz92_3⟩ := cz4 BK485.out
           have hnb93 := NB475_474.out
           have hnc93 := NB474_475.out
           have hnb94 := NB475_476.out
           have hnc94 := NB476_475.out
           have hnb95 := NB475_483.out
           have hnc95 := NB483_475.out
           obtain ⟨hcz96_0, hcz96_1, hcz96_2, hfz96_0, hfz96_1, hfz96_2⟩ := cz3 BK475.out
           have hnb97 := NB483_474.out
           have hnc97 := NB474_483.out
           have hnb98 := NB483_476.out
           have hnc98 := NB476_483.out
           obtain ⟨hcz99_0, hcz99_1, hcz99_2, hfz99_0, hfz99_1, hfz99_2⟩ := cz3 BK483.out
           go_wp2_with (first | ((with_reducible refine gate_builtin (b := .append) (xs := #[.tmp 80, .tmp 82]) rfl ?_); at_builtin; refine Kd.R_append k98 (w0 := w) w.heap.size rfl (.tmp 80) (.tmp 82) 39 98 (.agg #[(.int .i64 0), (.int .i64 0), (.int .i64 0), (.bool false)]) 32 rfl Try.underlying39 info98 rfl (by decide) (by omega) u484002 x484002_21 (⟨((rd_T98 l0_2 x10_1).f0), ((rd_T98 l0_2 x10_1).f1), ((rd_T98 l0_2 x10_1).f2), ((rd_T98 l0_2 x10_1).f3)⟩ : S98) [.int .i64 ((rd_T98 l0_2 x10_1).f0), .int .i64 ((rd_T98 l0_2 x10_1).f1), .int .i64 ((rd_T98 l0_2 x10_1).f2), .bool ((rd_T98 l0_2 x10_1).f3)] (fun k_ => k_ ≠ gb485) (fun _ => False) rfl rfl ?aP (fun _ hk => hk.elim) ?aF ?aO ?aB ?aS ?aL ?_; (case aP => exact k98_mkM _ _ _ (⟨((rd_T98 l0_2 x10_1).f0), ((rd_T98 l0_2 x10_1).f1), ((rd_T98 l0_2 x10_1).f2), ((rd_T98 l0_2 x10_1).f3)⟩ : S98)); (case aB => exact (bl HB.out)); (case aF => exact (fun k_ hk => Kd.freshB (g := gb485) (o := .cells #[.int .i64 ((rd_T98 l0_2 x10_1).f0), .int .i64 ((rd_T98 l0_2 x10_1).f1), .int .i64 ((rd_T98 l0_2 x10_1).f2), .bool ((rd_T98 l0_2 x10_1).f3)] 98 (0, 0)) (bk BK485.out) k_ hk)); (case aO => exact (rk HO_484002.out)); (case aS => exact (below_size (bl HB.out))); (case aL => have := LMc87.out; omega); intro v496 w100 ho hb hg hat; rw [← Ny495.out] at ho; replace HO_484001 := Aside0.mk (Kd.R_over' (rk HO_484001.out) (Kd.R_typed (rk HO_484002.out)) (by decide) hg); replace BK474 := Aside0.mk (blk_grown (g := gb474) (o := .cells #[.int .i64 a0_0, .slice A0_1 l0_1.length c0_1, .slice (some ad484) l0_2.length c0_2] 41 (0, 0)) (bk BK474.out) hg (Kd.R_ne HO_484002.out BK474.out (by decide))); replace BK475 := Aside0.mk (blk_grown (g := gb475) (o := .cells #[.int .i64 a1_0, .int .i64 a1_1, .int .i64 a1_2] 50 (0, 0)) (bk BK475.out) hg (Kd.R_ne HO_484002.out BK475.out (by decide))); replace BK476 := Aside0.mk (blk_grown (g := gb476) (o := .cells #[.int .i64 0, .slice none 0 0, .slice none 0 0] 41 (0, 0)) (bk BK476.out) hg (Kd.R_ne HO_484002.out BK476.out (by decide))); replace BK483 := Aside0.mk (blk_grown (g := gb483) (o := .cells #[.int .i64 a0_0, .slice Ao16 y480.length co16, u484002] 41 (0, 0)) (bk BK483.out) hg (Kd.R_ne HO_484002.out BK483.out (by decide))); replace BK485 := Aside0.mk (blk_grown (g := gb485) (o := .cells #[.int .i64 ((rd_T98 l0_2 x10_1).f0), .int .i64 ((rd_T98 l0_2 x10_1).f1), .int .i64 ((rd_T98 l0_2 x10_1).f2), .bool ((rd_T98 l0_2 x10_1).f3)] 98 (0, 0)) (bk BK485.out) hg (Kd.R_away HO_484002.out (fun _ hk => hk))); replace HB := Aside0.mk (hb); have HO497 := Aside0.mk (ho); clear HO_484002; clear ho hb hg hat; obtain ⟨Ao101, co101, eo101⟩ := Kd.R_slice HO497.out; subst eo101; obtain ⟨hcz102_0, hcz102_1, hcz102_2, hfz102_0, hfz102_1, hfz102_2⟩ := cz3 BK483.out))
           go_roundg kj21
           case measure => have := HK1.out; have := HJ21.out; omega
           case rel => exact ⟨(wrap64 (x10_1 + 1)), (y495), (.slice Ao101 y495.length co101), (by first | rfl | (simp; done) | (simp [*]; done)), H', ⟨by have := HK1.out; have := HJ21.out; omega⟩, ⟨by refine rk ?_; exact Kd.R_mono (Kd.R_far (p := ⟨gb483, 2, none⟩) (Kd.R_types HO_484001.out BK483.out (by decide)) (fun _ hk => hk.2) (.slice Ao101 y495.length co101)) (fun _ hk => trivial)⟩, ⟨by refine rk ?_; exact Kd.R_mono (Kd.R_far (p := ⟨gb483, 2, none⟩) (Kd.R_types HO497.out BK483.out (by decide)) (fun _ hk => hk.2) (.slice Ao101 y495.length co101)) (fun _ hk => trivial)⟩, ⟨by refine bk ?_; refine blk_far ?_ NB474_483.out _; refine bk ?_; exact BK474.out⟩, ⟨by refine bk ?_; refine blk_far ?_ NB475_483.out _; refine bk ?_; exact BK475.out⟩, ⟨by refine bk ?_; refine blk_far ?_ NB476_483.out _; refine bk ?_; exact BK476.out⟩, ⟨by refine bk ?_; refine blk_put (cs := #[.int .i64 a0_0, .slice Ao16 y480.length co16, u484002]) ?_ 2 _ rfl; refine bk ?_; exact BK483.out⟩, ⟨bl HB.out⟩⟩
          ·rw [if_neg c87] at H
           exact absurd H (by simp)
         ·rw [if_neg c86] at H
          have c86b0 : decide ((wrap64 (a1_1 + a1_2)) ≤ ((rd_T98 l0_2 x10_1).f0)) = false := decide_eq_false c86
          clear c86
          have H' := Aside0.mk H
          clear H
          have hnb103 := NB485_474.out
          have hnc103 := NB474_485.out
          have hnb104 := NB485_475.out
          have hnc104 := NB475_485.out
          have hnb105 := NB485_476.out
          have hnc105 := NB476_485.out
          have hnb106 := NB485_483.out
          have hnc106 := NB483_485.out
          obtain ⟨hcz107_0, hcz107_1, hcz107_2, hcz107_3, hfz107_0, hfz107_1, hfz107_2, hfz107_3⟩ := cz4 BK485.out
          have hnb108 := NB475_474.out
          have hnc108 := NB474_475.out
          have hnb109 := NB475_476.out
          have hnc109 := NB476_475.out
          have hnb110 := NB475_483.out
          have hnc110 := NB483_475.out
          obtain ⟨hcz111_0, hcz111_1, hcz111_2, hfz111_0, hfz111_1, hfz111_2⟩ := cz3 BK475.out
          go_wp2
          go_roundg kj21
          case measure => have := HK1.out; have := HJ21.out; omega
          case rel => exact ⟨(wrap64 (x10_1 + 1)), (x484002_21), (u484002), (by first | rfl | (simp; done) | (simp [*]; done)), H', ⟨by have := HK1.out; have := HJ21.out; omega⟩, ⟨rk HO_484001.out⟩, ⟨by refine rk ?_; exact Kd.R_mono HO_484002.out (fun _ hk => trivial)⟩, ⟨by refine bk ?_; exact BK474.out⟩, ⟨by refine bk ?_; exact BK475.out⟩, ⟨by refine bk ?_; exact BK476.out⟩, ⟨by refine bk ?_; exact BK483.out⟩, ⟨bl HB.out⟩⟩
     ·rw [if_neg c21] at H
      exact absurd H (by simp)
    ·rw [if_neg c20] at H
     have c20b0 : decide (x10_1 < (l0_2.length : Int)) = false := decide_eq_false c20
     clear c20
     simp only [Option.some.injEq, Prod.mk.injEq] at H
     obtain ⟨rfl, rfl, rfl⟩ := H
     have hnb112 := NB474_475.out
     have hnc112 := NB475_474.out
     have hnb113 := NB474_476.out
     have hnc113 := NB476_474.out
     have hnb114 := NB474_483.out
     have hnc114 := NB483_474.out
     obtain ⟨hcz115_0, hcz115_1, hcz115_2, hfz115_0, hfz115_1, hfz115_2⟩ := cz3 BK474.out
     have hnb116 := NB483_475.out
     have hnc116 := NB475_483.out
     have hnb117 := NB483_476.out
     have hnc117 := NB476_483.out
     obtain ⟨hcz118_0, hcz118_1, hcz118_2, hfz118_0, hfz118_1, hfz118_2⟩ := cz3 BK483.out
     have hnb119 := NB476_475.out
     have hnc119 := NB475_476.out
     obtain ⟨hcz120_0, hcz120_1, hcz120_2, hfz120_0, hfz120_1, hfz120_2⟩ := cz3 BK476.out
     obtain ⟨Ao121, co121, eo121⟩ := Kd.R_slice HO_484002.out
     subst eo121
     go_wp2
     refine bodyPost_ret (results_cell_row rfl _ _ gb476 41 #[.int .i64 a0_0, .slice Ao16 y480.length co16, .slice Ao121 x484002_1.length co121] (0, 0) _ rfl (by refine bk ?_; refine blk_put (cs := #[.int .i64 a0_0, .slice Ao16 y480.length co16, .slice none 0 0]) ?_ 2 _ rfl; refine bk ?_; refine blk_put (cs := #[.int .i64 a0_0, .slice none 0 0, .slice none 0 0]) ?_ 1 _ rfl; refine bk ?_; refine blk_put (cs := #[.int .i64 0, .slice none 0 0, .slice none 0 0]) ?_ 0 _ rfl; refine bk ?_; exact BK476.out) Try.underlying41 rfl (by kernel_rfl)) rfl ?_
     exact ⟨_, _, by first | rfl | (simp [errW_none, errW_some] <;> rfl) | (simp [*, errW_none, errW_some] <;> rfl), by refine rk ?_; exact Kd.R_mono (Kd.R_far (p := ⟨gb476, 2, none⟩) (Kd.R_far (p := ⟨gb476, 1, none⟩) (Kd.R_far (p := ⟨gb476, 0, none⟩) (Kd.R_types HO_484001.out BK476.out (by decide)) (fun _ hk => hk.2) (.int .i64 a0_0)) (fun _ hk => hk.2) (.slice Ao16 y480.length co16)) (fun _ hk => hk.2) (.slice Ao121 x484002_1.length co121)) (fun _ hk => trivial), by refine rk ?_; exact Kd.R_mono (Kd.R_far (p := ⟨gb476, 2, none⟩) (Kd.R_far (p := ⟨gb476, 1, none⟩) (Kd.R_far (p := ⟨gb476, 0, none⟩) (Kd.R_types HO_484002.out BK476.out (by decide)) (fun _ hk => hk.2) (.int .i64 a0_0)) (fun _ hk => hk.2) (.slice Ao16 y480.length co16)) (fun _ hk => hk.2) (.slice Ao121 x484002_1.length co121)) (fun _ hk => trivial), bl HB.out⟩
 ·rw [if_neg c5] at H
  exact absurd H (by simp)
end Go.Proofs.Ytbpjidekjogfeaa.A

namespace Go.Proofs.Ytbpjidekjogfeaa.A
open Go.RowKit Go.Proofs.YtbpjidekjogfeaaW.PrintWords Go.Proofs.YtbpjidekjogfeaaW.PrintLast Go.Proofs.YtbpjidekjogfeaaW.PrintMore
attribute [local go_sem] max2_int min2_int max_two min_two max_three min_three max_four min_four   
set_option linter.unusedVariables false
set_option linter.unusedSimpArgs false
def spec_PutIn.j0 : Nat → Int → Int → Bool → Int → List Int → List (S98) → Int → Int → Int → Option (Int × List Int × (List (S98)) × Int × Bool)
 | 0, _, _, _, _, _, _, _, _, _ => none
 | k + 1, x1, x2, x29, x499000, x499001, x499002, x505000, x505001, x505002 => if x29 = true then ((spec_l02Copy.f x499000 x499001 x499002).bind fun bt507 => (some (bt507.1, bt507.2.1, bt507.2.2, (-1), false))) else ((spec_l02Fill.f k x499000 x499001 x499002 x505000 x505001 x505002 x1 x2).bind fun bt514 => (some (bt514.1, bt514.2.1, bt514.2.2, x505001, true)))
def spec_PutIn.f (k : Nat) (a0_0 : Int) (l0_1 : List Int) (l0_2 : List (S98)) (a1 : Int) (a2 : Int) : Option (Int × List Int × (List (S98)) × Int × Bool) := (spec_FitOf.f k a0_0 l0_1 l0_2 a2).bind fun bt500 => (if bt500.2.2.2 = true then ((spec_l01In.f a1 1 999).bind fun t505 => (if t505 = true then ((spec_l02Box.f k a0_0 l0_1 l0_2 a1).bind fun t506 => (spec_PutIn.j0 k a1 a2 (decide (t506 ≥ 0)) a0_0 l0_1 l0_2 bt500.1 bt500.2.1 bt500.2.2.1)) else (spec_PutIn.j0 k a1 a2 true a0_0 l0_1 l0_2 bt500.1 bt500.2.1 bt500.2.2.1))) else (spec_PutIn.j0 k a1 a2 true a0_0 l0_1 l0_2 bt500.1 bt500.2.1 bt500.2.2.1))
def spec_PutIn.T4 : Bool × List (List Nat × List Nat) := (true, [([], []), ([], []), ([], []), ([], []), ([0, 1, 2, 3], [0, 1, 2, 3]), ([], []), ([5], [5]), ([4, 4, 0, 1, 2, 3, 4], [4]), ([6, 7, 0, 1, 2, 3, 4, 5, 6, 7], [6]), ([8, 0, 1, 2, 3, 4, 5, 6, 7, 8], [])])
def spec_PutIn.B4 : List Nat := [0, 0, 0, 0, 15, 0, 32, 31, 255, 511]
theorem spec_PutIn.tab4 : rtab .any (opsOf Try.f30 4) = spec_PutIn.T4 := by kernel_rfl
theorem spec_PutIn.bits4 : waitsOk spec_PutIn.T4.2 spec_PutIn.B4 = true := by kernel_rfl
set_option maxHeartbeats 8000000 in
set_option maxRecDepth 100000 in
theorem spec_PutIn.calls (k : Nat) (a0_0 : Int) (A0_1 : Option Addr) (c0_1 : Nat) (l0_1 : List Int) (A0_2 : Option Addr) (c0_2 : Nat) (l0_2 : List (S98)) (a1 : Int) (a2 : Int) (r1 : Int) (r2 : List Int) (r3 : List (S98)) (r4 : Int) (r5 : Bool) (w : World) (hr0_1 : Kd.C (Kd.int .i64) w A0_1 l0_1.length l0_1) (hc0_1 : l0_1.length ≤ c0_1) (hr0_2 : Kd.C k98 w A0_2 l0_2.length l0_2) (hc0_2 : l0_2.length ≤ c0_2) (h : spec_PutIn.f k a0_0 l0_1 l0_2 a1 a2 = some (r1, r2, r3, r4, r5)) :
  Calls Try.prog 30 #[.agg #[.int .i64 a0_0, .slice A0_1 l0_1.length c0_1, .slice A0_2 l0_2.length c0_2], .int .i64 a1, .int .i64 a2] w fun e w' => ∃ v1_ v2_ : Value, e = .returned (.tuple #[.agg #[.int .i64 r1, v1_, v2_], .int .i64 r4, .bool r5]) ∧ Kd.R (Kd.int .i64) 3 w' w.heap.size (fun _ => True) v1_ r2 ∧ Kd.R k98 98 w' w.heap.size (fun _ => True) v2_ r3 ∧ Below w.heap.size w w' := by
 have hu41 := Try.underlying41
 have hu50 := Try.underlying50
 have HR0_1 := Aside0.mk hr0_1
 have HC0_1 := Aside0.mk hc0_1
 clear hr0_1 hc0_1
 have HR0_2 := Aside0.mk hr0_2
 have HC0_2 := Aside0.mk hc0_2
 clear hr0_2 hc0_2
 have HB := Aside0.mk (Below.refl w.heap.size w)
 have H : ((spec_FitOf.f k a0_0 l0_1 l0_2 a2).bind fun bt500 => (if bt500.2.2.2 = true then ((spec_l01In.f a1 1 999).bind fun t505 => (if t505 = true then ((spec_l02Box.f k a0_0 l0_1 l0_2 a1).bind fun t506 => (spec_PutIn.j0 k a1 a2 (decide (t506 ≥ 0)) a0_0 l0_1 l0_2 bt500.1 bt500.2.1 bt500.2.2.1)) else (spec_PutIn.j0 k a1 a2 true a0_0 l0_1 l0_2 bt500.1 bt500.2.1 bt500.2.2.1))) else (spec_PutIn.j0 k a1 a2 true a0_0 l0_1 l0_2 bt500.1 bt500.2.1 bt500.2.2.1))) = some (r1, r2, r3, r4, r5) := h
 clear h
 replace H := Option.bind_eq_some_iff.mp H
 obtain ⟨⟨t500, t501, t502, t503⟩, A40, H⟩ := H
 try dsimp only at H
 have A4 := Aside0.mk A40
 clear A40
 have HC5 := Aside0.mk H
 clear H
 go_enter Try.func30, Try.ntmps30
 go_upto_region 2 with (first | ((with_reducible refine gate_dst (N := 3) rfl ?_); refine bx (cs := #[.int .i64 a0_0, .slice A0_1 l0_1.length c0_1, .slice A0_2 l0_2.length c0_2]) (t := 41) fun gb498 hg w6 hbox hb => ?_; have BK498 := Aside0.mk (hbox); have GW498 := Aside0.mk (gs HB.out hg); have GE498 := Aside0.mk (gs HB.out hg); replace HB := Aside0.mk (below_step (bl HB.out) hb); clear hb hbox hg) | ((with_reducible refine gate_dst (N := 6) rfl ?_); refine bx (cs := #[.int .i64 0, .slice none 0 0, .slice none 0 0]) (t := 41) fun gb499 hg w7 hbox hb => ?_; have BK499 := Aside0.mk (hbox); have GW499 := Aside0.mk (gs HB.out hg); have GE499 := Aside0.mk (gs HB.out hg); replace HB := Aside0.mk (below_step (bl HB.out) hb); have NB498_499 := Aside0.mk ((nl BK498.out hg)); have NB499_498 := Aside0.mk ((ng BK498.out hg)); replace BK498 := Aside0.mk (bb BK498.out hb); clear hb hbox hg; have hnb8 := NB498_499.out; have hnc8 := NB499_498.out; obtain ⟨hcz9_0, hcz9_1, hcz9_2, hfz9_0, hfz9_1, hfz9_2⟩ := cz3 BK498.out) | ((with_reducible refine gate_callee (f := 83) rfl ?_); refine goesL_ (some 14) rfl rfl Try.func83 (by kernel_rfl) rfl #[.agg #[.int .i64 a0_0, .slice A0_1 l0_1.length c0_1, .slice A0_2 l0_2.length c0_2], .int .i64 a2] rfl mapd ?_; (with_reducible refine (spec_FitOf.calls k a0_0 _ _ l0_1 _ _ l0_2 a2 t500 t501 t502 t503 _ ?side1 ?side2 ?side3 ?side4 A4.out).mono ?_); (case side1 => exact cb (Kd.C_below HR0_1.out HB.out)); (case side2 => exact HC0_1.out); (case side3 => exact cb (Kd.C_below HR0_2.out HB.out)); (case side4 => exact HC0_2.out); rintro e w10 ⟨rfl, hb⟩; refine ⟨_, rfl, ?_⟩; replace BK498 := Aside0.mk (bb BK498.out hb); replace BK499 := Aside0.mk (bb BK499.out hb); replace HB := Aside0.mk (below_step (bl HB.out) hb); (try clear hb); (try clear hb2); (try clear hk); (try clear hi)) | ((with_reducible refine gate_dst (N := 9) rfl ?_); refine bx (cs := #[.int .i64 0, .int .i64 0, .int .i64 0]) (t := 50) fun gb504 hg w11 hbox hb => ?_; have BK504 := Aside0.mk (hbox); have GW504 := Aside0.mk (gs HB.out hg); have GE504 := Aside0.mk (gs HB.out hg); replace HB := Aside0.mk (below_step (bl HB.out) hb); have NB498_504 := Aside0.mk ((nl BK498.out hg)); have NB504_498 := Aside0.mk ((ng BK498.out hg)); replace BK498 := Aside0.mk (bb BK498.out hb); have NB499_504 := Aside0.mk ((nl BK499.out hg)); have NB504_499 := Aside0.mk ((ng BK499.out hg)); replace BK499 := Aside0.mk (bb BK499.out hb); clear hb hbox hg; have hnb12 := NB504_498.out; have hnc12 := NB498_504.out; have hnb13 := NB504_499.out; have hnc13 := NB499_504.out; obtain ⟨hcz14_0, hcz14_1, hcz14_2, hfz14_0, hfz14_1, hfz14_2⟩ := cz3 BK504.out))
 (try simp only [Act.put, List.setIfInBounds_toArray, List.set_cons_zero, List.set_cons_succ])
 go_cut [29] (fun v29 wc => ∃ (kq : Nat) (x29_4 : Bool), v29 = .bool x29_4 ∧ Aside0 (spec_PutIn.j0 kq a1 a2 x29_4 a0_0 l0_1 l0_2 t500 t501 t502 = some (r1, r2, r3, r4, r5)) ∧ Aside0 (kq ≤ k) ∧ Aside0 (wc.heap[gb498]? = some (.cells #[.int .i64 a0_0, (.slice A0_1 l0_1.length c0_1), (.slice A0_2 l0_2.length c0_2)] 41 (0, 0))) ∧ Aside0 (wc.heap[gb499]? = some (.cells #[.int .i64 0, (.slice none 0 0), (.slice none 0 0)] 41 (0, 0))) ∧ Aside0 (wc.heap[gb504]? = some (.cells #[.int .i64 t500, .int .i64 t501, .int .i64 t502] 50 (0, 0))) ∧ Aside0 (Below w.heap.size w wc))
 case first =>
  have H := HC5.out
  clear HC5
  by_cases c15 : t503 = true
  ·subst c15
   rw [if_pos rfl] at H
   replace H := Option.bind_eq_some_iff.mp H
   obtain ⟨t505, A160, H⟩ := H
   try dsimp only at H
   have A16 := Aside0.mk A160
   clear A160
   by_cases c17 : t505 = true
   ·subst c17
    rw [if_pos rfl] at H
    replace H := Option.bind_eq_some_iff.mp H
    obtain ⟨t506, A180, H⟩ := H
    try dsimp only at H
    have A18 := Aside0.mk A180
    clear A180
    have H' := Aside0.mk H
    clear H
    go_wp2_with (first | (go_at_call 84; (with_reducible refine (spec_l01In.calls a1 1 999 true _ A16.out).mono ?_); rintro e w' ⟨rfl, ⟨nd, rfl⟩⟩; have hnb19 := NB498_499.out; have hnc19 := NB499_498.out; have hnb20 := NB498_504.out; have hnc20 := NB504_498.out; obtain ⟨hcz21_0, hcz21_1, hcz21_2, hfz21_0, hfz21_1, hfz21_2⟩ := cz3 BK498.out) | (go_at_call 85; (with_reducible refine (spec_l02Box.calls k a0_0 _ _ l0_1 _ _ l0_2 a1 t506 _ ?side1 ?side2 ?side3 ?side4 A18.out).mono ?_); (case side1 => exact Kd.C_below HR0_1.out (bl HB.out)); (case side2 => exact HC0_1.out); (case side3 => exact Kd.C_below HR0_2.out (bl HB.out)); (case side4 => exact HC0_2.out); rintro e w22 ⟨rfl, hb⟩; replace BK498 := Aside0.mk (blk_below (g := gb498) (o := .cells #[.int .i64 a0_0, .slice A0_1 l0_1.length c0_1, .slice A0_2 l0_2.length c0_2] 41 (0, 0)) (bf BK498.out) hb); replace BK499 := Aside0.mk (blk_below (g := gb499) (o := .cells #[.int .i64 0, .slice none 0 0, .slice none 0 0] 41 (0, 0)) (bf BK499.out) hb); replace BK504 := Aside0.mk (blk_below (g := gb504) (o := .cells #[.int .i64 t500, .int .i64 t501, .int .i64 t502] 50 (0, 0)) (by refine bk ?_; refine blk_put (cs := #[.int .i64 t500, .int .i64 t501, .int .i64 0]) ?_ 2 _ rfl; refine bk ?_; refine blk_put (cs := #[.int .i64 t500, .int .i64 0, .int .i64 0]) ?_ 1 _ rfl; refine bk ?_; refine blk_put (cs := #[.int .i64 0, .int .i64 0, .int .i64 0]) ?_ 0 _ rfl; refine bk ?_; exact BK504.out) hb); replace HB := Aside0.mk (below_step (bl HB.out) hb); (try clear hb); (try clear hb2); (try clear hk); (try clear hi)))
    go_meet
    case rel => exact ⟨_, (decide (t506 ≥ 0)), (by first | rfl | (simp; done) | (simp [*]; done)), H', ⟨by first | omega | exact Nat.le_refl _⟩, ⟨by refine bk ?_; exact BK498.out⟩, ⟨by refine bk ?_; exact BK499.out⟩, ⟨by refine bk ?_; exact BK504.out⟩, ⟨bl HB.out⟩⟩
   ·replace c17 := Bool.eq_false_iff.mpr c17
    subst c17
    rw [if_neg (show ¬ (false = true) by decide)] at H
    have H' := Aside0.mk H
    clear H
    go_wp2_with (first | (go_at_call 84; (with_reducible refine (spec_l01In.calls a1 1 999 false _ A16.out).mono ?_); rintro e w' ⟨rfl, ⟨nd, rfl⟩⟩))
    go_meet
    case rel => exact ⟨_, (true), (by first | rfl | (simp; done) | (simp [*]; done)), H', ⟨by first | omega | exact Nat.le_refl _⟩, ⟨by refine bk ?_; refine blk_far ?_ NB498_504.out _; refine bk ?_; refine blk_far ?_ NB498_504.out _; refine bk ?_; refine blk_far ?_ NB498_504.out _; refine bk ?_; exact BK498.out⟩, ⟨by refine bk ?_; refine blk_far ?_ NB499_504.out _; refine bk ?_; refine blk_far ?_ NB499_504.out _; refine bk ?_; refine blk_far ?_ NB499_504.out _; refine bk ?_; exact BK499.out⟩, ⟨by refine bk ?_; refine blk_put (cs := #[.int .i64 t500, .int .i64 t501, .int .i64 0]) ?_ 2 _ rfl; refine bk ?_; refine blk_put (cs := #[.int .i64 t500, .int .i64 0, .int .i64 0]) ?_ 1 _ rfl; refine bk ?_; refine blk_put (cs := #[.int .i64 0, .int .i64 0, .int .i64 0]) ?_ 0 _ rfl; refine bk ?_; exact BK504.out⟩, ⟨bl HB.out⟩⟩
  ·replace c15 := Bool.eq_false_iff.mpr c15
   subst c15
   rw [if_neg (show ¬ (false = true) by decide)] at H
   have H' := Aside0.mk H
   clear H
   go_wp2
   go_meet
   case rel => exact ⟨_, (true), (by first | rfl | (simp; done) | (simp [*]; done)), H', ⟨by first | omega | exact Nat.le_refl _⟩, ⟨by refine bk ?_; refine blk_far ?_ NB498_504.out _; refine bk ?_; refine blk_far ?_ NB498_504.out _; refine bk ?_; refine blk_far ?_ NB498_504.out _; refine bk ?_; exact BK498.out⟩, ⟨by refine bk ?_; refine blk_far ?_ NB499_504.out _; refine bk ?_; refine blk_far ?_ NB499_504.out _; refine bk ?_; refine blk_far ?_ NB499_504.out _; refine bk ?_; exact BK499.out⟩, ⟨by refine bk ?_; refine blk_put (cs := #[.int .i64 t500, .int .i64 t501, .int .i64 0]) ?_ 2 _ rfl; refine bk ?_; refine blk_put (cs := #[.int .i64 t500, .int .i64 0, .int .i64 0]) ?_ 1 _ rfl; refine bk ?_; refine blk_put (cs := #[.int .i64 0, .int .i64 0, .int .i64 0]) ?_ 0 _ rfl; refine bk ?_; exact BK504.out⟩, ⟨bl HB.out⟩⟩
 case rest =>
  clear HC5
  try clear c1
  try clear c2
  try clear p2
  try clear c3
  try clear c8
  try clear c12
  try clear c13
  try clear c15
  try clear c17
  try clear c19
  try clear c20
  try clear hcz14_0
  try clear hcz14_1
  try clear hcz14_2
  try clear hcz21_0
  try clear hcz21_1
  try clear hcz21_2
  try clear hcz9_0
  try clear hcz9_1
  try clear hcz9_2
  try clear hfz14_0
  try clear hfz14_1
  try clear hfz14_2
  try clear hfz21_0
  try clear hfz21_1
  try clear hfz21_2
  try clear hfz9_0
  try clear hfz9_1
  try clear hfz9_2
  obtain ⟨kq, x29_4, rfl, HA, HJ4, BK498, BK499, BK504, HB⟩ := hcut
  cases kq with
  | zero => exact absurd HA.out (by simp [spec_PutIn.j0])
  | succ kj4 =>
   have H := HA.out
   clear HA
   simp only [spec_PutIn.j0] at H
   by_cases c23 : x29_4 = true
   ·subst c23
    rw [if_pos rfl] at H
    replace H := Option.bind_eq_some_iff.mp H
    obtain ⟨⟨t507, t508, t511⟩, A240, H⟩ := H
    try dsimp only at H
    have A24 := Aside0.mk A240
    clear A240
    simp only [Option.some.injEq, Prod.mk.injEq] at H
    obtain ⟨rfl, rfl, rfl, rfl, rfl⟩ := H
    have hnb25 := NB498_499.out
    have hnc25 := NB499_498.out
    have hnb26 := NB498_504.out
    have hnc26 := NB504_498.out
    obtain ⟨hcz27_0, hcz27_1, hcz27_2, hfz27_0, hfz27_1, hfz27_2⟩ := cz3 BK498.out
    go_wp2_with (first | ((with_reducible refine gate_callee (f := 86) rfl ?_); refine goesL_ (some 31) rfl rfl Try.func86 (by kernel_rfl) rfl #[.agg #[.int .i64 a0_0, .slice A0_1 l0_1.length c0_1, .slice A0_2 l0_2.length c0_2]] rfl mapd ?_; (with_reducible refine (spec_l02Copy.calls a0_0 _ _ l0_1 _ _ l0_2 t507 t508 t511 _ ?side1 ?side2 ?side3 ?side4 A24.out).mono ?_); (case side1 => exact cb (Kd.C_below HR0_1.out HB.out)); (case side2 => exact HC0_1.out); (case side3 => exact cb (Kd.C_below HR0_2.out HB.out)); (case side4 => exact HC0_2.out); rintro e w28 ⟨v509, v512, rfl, ho0, ho1, hb⟩; refine ⟨_, rfl, ?_⟩; have HO510 := Aside0.mk (Kd.R_lower ho0 (below_size (bl HB.out))); have HO513 := Aside0.mk (Kd.R_lower ho1 (below_size (bl HB.out))); replace BK498 := Aside0.mk (bb BK498.out hb); replace BK499 := Aside0.mk (bb BK499.out hb); replace BK504 := Aside0.mk (bb BK504.out hb); replace HB := Aside0.mk (below_step (bl HB.out) hb); (try clear hb); (try clear hb2); (try clear hk); (try clear hi); (try clear ho0); (try clear ho1); have hnb29 := NB499_504.out; have hnc29 := NB504_499.out; obtain ⟨hcz30_0, hcz30_1, hcz30_2, hfz30_0, hfz30_1, hfz30_2⟩ := cz3 BK499.out; obtain ⟨Ao31, co31, eo31⟩ := Kd.R_slice HO510.out; subst eo31; obtain ⟨Ao32, co32, eo32⟩ := Kd.R_slice HO513.out; subst eo32))
    refine bodyPost_ret (results_ctt rfl _ _ gb499 41 #[.int .i64 t507, .slice Ao31 t508.length co31, .slice Ao32 t511.length co32] (0, 0) _ rfl (by refine bk ?_; refine blk_put (cs := #[.int .i64 t507, .slice Ao31 t508.length co31, .slice none 0 0]) ?_ 2 _ rfl; refine bk ?_; refine blk_put (cs := #[.int .i64 t507, .slice none 0 0, .slice none 0 0]) ?_ 1 _ rfl; refine bk ?_; refine blk_put (cs := #[.int .i64 0, .slice none 0 0, .slice none 0 0]) ?_ 0 _ rfl; refine bk ?_; exact BK499.out) Try.underlying41 rfl (by kernel_rfl)) rfl ?_
    exact ⟨_, _, by first | rfl | (simp [errW_none, errW_some] <;> rfl) | (simp [*, errW_none, errW_some] <;> rfl), by refine rk ?_; exact Kd.R_mono (Kd.R_far (p := ⟨gb499, 2, none⟩) (Kd.R_far (p := ⟨gb499, 1, none⟩) (Kd.R_far (p := ⟨gb499, 0, none⟩) (Kd.R_types HO510.out BK499.out (by decide)) (fun _ hk => hk.2) (.int .i64 t507)) (fun _ hk => hk.2) (.slice Ao31 t508.length co31)) (fun _ hk => hk.2) (.slice Ao32 t511.length co32)) (fun _ hk => trivial), by refine rk ?_; exact Kd.R_mono (Kd.R_far (p := ⟨gb499, 2, none⟩) (Kd.R_far (p := ⟨gb499, 1, none⟩) (Kd.R_far (p := ⟨gb499, 0, none⟩) (Kd.R_types HO513.out BK499.out (by decide)) (fun _ hk => hk.2) (.int .i64 t507)) (fun _ hk => hk.2) (.slice Ao31 t508.length co31)) (fun _ hk => hk.2) (.slice Ao32 t511.length co32)) (fun _ hk => trivial), bl HB.out⟩
   ·replace c23 := Bool.eq_false_iff.mpr c23
    subst c23
    rw [if_neg (show ¬ (false = true) by decide)] at H
    replace H := Option.bind_eq_some_iff.mp H
    obtain ⟨⟨t514, t515, t518⟩, A330, H⟩ := H
    try dsimp only at H
    have A33 := Aside0.mk A330
    clear A330
    simp only [Option.some.injEq, Prod.mk.injEq] at H
    obtain ⟨rfl, rfl, rfl, rfl, rfl⟩ := H
    try go_wp2
    replace BK498 := Aside0.mk (blk_drew BK498.out)
    replace BK499 := Aside0.mk (blk_drew BK499.out)
    replace BK504 := Aside0.mk (blk_drew BK504.out)
    replace HB := Aside0.mk (below_drew1 HB.out)
    refine start_ (n := 10) (S := fun w' => w'.cell? ⟨gb498, 0, none⟩ = some (.int .i64 a0_0) ∧ w'.cell? ⟨gb498, 1, none⟩ = some (.slice A0_1 l0_1.length c0_1) ∧ w'.cell? ⟨gb498, 2, none⟩ = some (.slice A0_2 l0_2.length c0_2) ∧ w'.cell? ⟨gb504, 0, none⟩ = some (.int .i64 t500) ∧ w'.cell? ⟨gb504, 1, none⟩ = some (.int .i64 t501) ∧ w'.cell? ⟨gb504, 2, none⟩ = some (.int .i64 t502)) (ds := []) #[false, false, false, false, false, false, false, false, false, false] (by kernel_rfl) rfl rfl ⟨(blk_cell BK498.out 0).trans rfl, (blk_cell BK498.out 1).trans rfl, (blk_cell BK498.out 2).trans rfl, (blk_cell BK504.out 0).trans rfl, (blk_cell BK504.out 1).trans rfl, (blk_cell BK504.out 2).trans rfl⟩ (fun hHeld => ?_); refine with_tabW spec_PutIn.tab4 spec_PutIn.bits4 (fun HT_ HW_ => ?_)
    generalize wc.drew = w34 at BK498 BK499 BK504 HB hHeld ⊢
    refine puA (i := 2) (N := some 34) HT_.out ?_
    refine puA (i := 3) (N := some 35) HT_.out ?_
    refine puA (i := 5) (N := some 37) HT_.out ?_
    refine tkA6 (i := 0) (N := some 32) HT_.out HW_.out hHeld ?_
    refine tkA6 (i := 1) (N := some 33) HT_.out HW_.out hHeld ?_
    refine tkA6 (i := 6) (N := some 38) HT_.out HW_.out hHeld ?_
    refine onA (i := 4) (N := some 36) HT_.out (fun K hK => ?_)
    refine goes_ Try.func87 (by kernel_rfl) rfl #[.agg #[.int .i64 a0_0, .slice A0_1 l0_1.length c0_1, .slice A0_2 l0_2.length c0_2], .agg #[.int .i64 t500, .int .i64 t501, .int .i64 t502], .int .i64 a1, .int .i64 a2] (by rfl) rfl rfl mapd ?_
    with_reducible refine (spec_l02Fill.calls kj4 a0_0 _ _ l0_1 _ _ l0_2 t500 t501 t502 a1 a2 t514 t515 t518 _ ?side1 ?side2 ?side3 ?side4 A33.out).mono ?_
    (case side1 => exact cb (Kd.C_below HR0_1.out HB.out))
    (case side2 => exact HC0_1.out)
    (case side3 => exact cb (Kd.C_below HR0_2.out HB.out))
    (case side4 => exact HC0_2.out)
    rintro e w35 ⟨v516, v519, rfl, ho0, ho1, hb⟩
    refine ⟨_, rfl, ?_⟩
    have HO517 := Aside0.mk (Kd.R_lower ho0 (below_size (bl HB.out)))
    have HO520 := Aside0.mk (Kd.R_lower ho1 (below_size (bl HB.out)))
    replace BK498 := Aside0.mk (bb BK498.out hb)
    replace BK499 := Aside0.mk (bb BK499.out hb)
    replace BK504 := Aside0.mk (bb BK504.out hb)
    replace HB := Aside0.mk (below_step (bl HB.out) hb)
    (try clear hb)
    (try clear hb2)
    (try clear hk)
    (try clear hi)
    (try clear ho0)
    (try clear ho1)
    obtain ⟨Ao37, co37, eo37⟩ := Kd.R_slice HO517.out
    (first | subst eo37 | (injection eo37 with f1_ f2_ f3_; have f4_ := f1_.symm; have f5_ := f3_.symm; clear f1_ f2_ f3_; subst f4_; subst f5_))
    obtain ⟨Ao39, co39, eo39⟩ := Kd.R_slice HO520.out
    (first | subst eo39 | (injection eo39 with f1_ f2_ f3_; have f4_ := f1_.symm; have f5_ := f3_.symm; clear f1_ f2_ f3_; subst f4_; subst f5_))
    refine hK.out _ _ ⟨(blk_cell BK498.out 0).trans rfl, (blk_cell BK498.out 1).trans rfl, (blk_cell BK498.out 2).trans rfl, (blk_cell BK504.out 0).trans rfl, (blk_cell BK504.out 1).trans rfl, (blk_cell BK504.out 2).trans rfl⟩ (fun hHeld => ?_)
    clear hK K
    refine norm_ (a' := ?_) ?_ ?_
    rotate_left
    ·show Act.put _ (some 36) _ = _
     simp only [Act.put, List.setIfInBounds_toArray, List.set_cons_zero, List.set_cons_succ, i64_w, i32_w]
     rfl
    refine onA (i := 7) (N := none) HT_.out (fun K hK => ?_)
    have hs36 : w35.cell? ⟨gb499, 0, none⟩ = some (.int .i64 0) := (blk_cell BK499.out 0).trans rfl
    have hfs36 := blk_frozen BK499.out 0
    have hns36_0 := NB498_499.out
    have hns36_2 := NB504_499.out
    have hms36_0 := NB499_498.out
    have hms36_2 := NB499_504.out
    have hs38 : w35.cell? ⟨gb499, 1, none⟩ = some (.slice none 0 0) := (blk_cell BK499.out 1).trans rfl
    have hfs38 := blk_frozen BK499.out 1
    have hns38_0 := NB498_499.out
    have hns38_2 := NB504_499.out
    have hms38_0 := NB499_498.out
    have hms38_2 := NB499_504.out
    have hs40 : w35.cell? ⟨gb499, 2, none⟩ = some (.slice none 0 0) := (blk_cell BK499.out 2).trans rfl
    have hfs40 := blk_frozen BK499.out 2
    have hns40_0 := NB498_499.out
    have hns40_2 := NB504_499.out
    have hms40_0 := NB499_498.out
    have hms40_2 := NB499_504.out
    refine skip_ (w1 := ?_) (by rfl) rfl ?_ ?_
    rotate_left
    ·go_simp
     rfl
    refine hK.out _ _ ⟨((cell_far (p := ⟨gb499, _, none⟩) NB498_499.out _).trans (((cell_far (p := ⟨gb499, _, none⟩) NB498_499.out _).trans (((cell_far (p := ⟨gb499, _, none⟩) NB498_499.out _).trans (hHeld.1)))))), ((cell_far (p := ⟨gb499, _, none⟩) NB498_499.out _).trans (((cell_far (p := ⟨gb499, _, none⟩) NB498_499.out _).trans (((cell_far (p := ⟨gb499, _, none⟩) NB498_499.out _).trans (hHeld.2.1)))))), ((cell_far (p := ⟨gb499, _, none⟩) NB498_499.out _).trans (((cell_far (p := ⟨gb499, _, none⟩) NB498_499.out _).trans (((cell_far (p := ⟨gb499, _, none⟩) NB498_499.out _).trans (hHeld.2.2.1)))))), ((cell_far (p := ⟨gb499, _, none⟩) NB504_499.out _).trans (((cell_far (p := ⟨gb499, _, none⟩) NB504_499.out _).trans (((cell_far (p := ⟨gb499, _, none⟩) NB504_499.out _).trans (hHeld.2.2.2.1)))))), ((cell_far (p := ⟨gb499, _, none⟩) NB504_499.out _).trans (((cell_far (p := ⟨gb499, _, none⟩) NB504_499.out _).trans (((cell_far (p := ⟨gb499, _, none⟩) NB504_499.out _).trans (hHeld.2.2.2.2.1)))))), ((cell_far (p := ⟨gb499, _, none⟩) NB504_499.out _).trans (((cell_far (p := ⟨gb499, _, none⟩) NB504_499.out _).trans (((cell_far (p := ⟨gb499, _, none⟩) NB504_499.out _).trans (hHeld.2.2.2.2.2))))))⟩ (fun hHeld => ?_)
    clear hK K
    refine puA (i := 8) (N := some 7) HT_.out ?_
    refine puA (i := 9) (N := some 8) HT_.out ?_
    refine done_ (done_of HT_.out (by kernel_rfl)) ?_
    try go_wp2
    refine bodyPost_ret (results_ctt rfl _ _ gb499 41 #[.int .i64 t514, .slice Ao37 t515.length co37, .slice Ao39 t518.length co39] (0, 0) _ rfl (by refine bk ?_; refine blk_put (cs := #[.int .i64 t514, .slice Ao37 t515.length co37, .slice none 0 0]) ?_ 2 _ rfl; refine bk ?_; refine blk_put (cs := #[.int .i64 t514, .slice none 0 0, .slice none 0 0]) ?_ 1 _ rfl; refine bk ?_; refine blk_put (cs := #[.int .i64 0, .slice none 0 0, .slice none 0 0]) ?_ 0 _ rfl; refine bk ?_; exact BK499.out) Try.underlying41 rfl (by kernel_rfl)) rfl ?_
    exact ⟨_, _, by first | rfl | (simp [errW_none, errW_some] <;> rfl) | (simp [*, errW_none, errW_some] <;> rfl), by refine rk ?_; exact Kd.R_mono (Kd.R_far (p := ⟨gb499, 2, none⟩) (Kd.R_far (p := ⟨gb499, 1, none⟩) (Kd.R_far (p := ⟨gb499, 0, none⟩) (Kd.R_types HO517.out BK499.out (by decide)) (fun _ hk => hk.2) (.int .i64 t514)) (fun _ hk => hk.2) (.slice Ao37 t515.length co37)) (fun _ hk => hk.2) (.slice Ao39 t518.length co39)) (fun _ hk => trivial), by refine rk ?_; exact Kd.R_mono (Kd.R_far (p := ⟨gb499, 2, none⟩) (Kd.R_far (p := ⟨gb499, 1, none⟩) (Kd.R_far (p := ⟨gb499, 0, none⟩) (Kd.R_types HO520.out BK499.out (by decide)) (fun _ hk => hk.2) (.int .i64 t514)) (fun _ hk => hk.2) (.slice Ao37 t515.length co37)) (fun _ hk => hk.2) (.slice Ao39 t518.length co39)) (fun _ hk => trivial), bl HB.out⟩
end Go.Proofs.Ytbpjidekjogfeaa.A
