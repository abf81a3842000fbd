/- What the proof of the law FnGaps uses: lemmas, the Lean functions of the Go functions that it reaches, their contracts, and the pure statement's proof. -/
import Derived.Test.YtghfeapncmlihaaZFnGapsx16
import Derived.Test.YtghfeapncmlihaaZFnGapsx19
import Derived.Test.YtghfeapncmlihaaZFnGapsx18
import Derived.Test.YtghfeapncmlihaaZFnGapsh
namespace Go.Proofs.Ytghfeapncmlihaa.A
open Go.RowKit Go.Proofs.YtghfeapncmlihaaW.PrintWords Go.Proofs.YtghfeapncmlihaaW.PrintLast Go.Proofs.YtghfeapncmlihaaW.PrintMore
attribute [local go_sem] max2_int min2_int max_two min_two max_three min_three max_four min_four   
set_option linter.unusedVariables false
set_option linter.unusedSimpArgs false
mutual
def spec_l02Fill.l0 : Nat → Int → Int → Int → Int → List Int → List (S71) → Int → Int → Int → Int → List Int → List (S71) → Option (Int × List Int × (List (S71)))
 | 0, _, _, _, _, _, _, _, _, _, _, _, _ => none
 | k + 1, x2, x3, x10, x840000, x840001, x840002, x841000, x841001, x841002, x849000, x849001, x849002 => if x10 < (x840002.length : Int) then (if 0 ≤ x10 then (if ((rd_T71 x840002 x10).f0) = x841001 then (if x849002.length < 4398046511104 then ((some (x849002 ++ [(⟨x841001, x3, x2, false⟩ : S71)] : List (S71))).bind fun y851 => (if x3 < x841002 then (if y851.length < 4398046511104 then (spec_l02Fill.j1 k x2 x3 x10 x840000 x840001 x840002 x841000 x841001 x841002 x849000 x849001 (y851 ++ [(⟨wrap64 (x841001 + x3), wrap64 (x841002 - x3), 0, false⟩ : S71)]) ((rd_T71 x840002 x10).f0) ((rd_T71 x840002 x10).f1) ((rd_T71 x840002 x10).f2) ((rd_T71 x840002 x10).f3)) else (none)) else (spec_l02Fill.j1 k x2 x3 x10 x840000 x840001 x840002 x841000 x841001 x841002 x849000 x849001 y851 ((rd_T71 x840002 x10).f0) ((rd_T71 x840002 x10).f1) ((rd_T71 x840002 x10).f2) ((rd_T71 x840002 x10).f3)))) else (none)) else (spec_l02Fill.j1 k x2 x3 x10 x840000 x840001 x840002 x841000 x841001 x841002 x849000 x849001 x849002 ((rd_T71 x840002 x10).f0) ((rd_T71 x840002 x10).f1) ((rd_T71 x840002 x10).f2) ((rd_T71 x840002 x10).f3))) else (none)) else (some (x849000, x849001, x849002))
def spec_l02Fill.j1 : Nat → Int → Int → Int → Int → List Int → List (S71) → Int → Int → Int → Int → List Int → List (S71) → Int → Int → Int → Bool → Option (Int × List Int × (List (S71)))
 | 0, _, _, _, _, _, _, _, _, _, _, _, _, _, _, _, _ => none
 | k + 1, x2, x3, x10, x840000, x840001, x840002, x841000, x841001, x841002, x849000, x849001, x849002, x851000, x851001, x851002, x851003 => if x851000 < x841001 then (if x849002.length < 4398046511104 then (spec_l02Fill.l0 k x2 x3 (wrap64 (x10 + 1)) x840000 x840001 x840002 x841000 x841001 x841002 x849000 x849001 (x849002 ++ [(⟨x851000, x851001, x851002, x851003⟩ : S71)])) else (none)) else (if x851000 ≥ (wrap64 (x841001 + x841002)) then (if x849002.length < 4398046511104 then (spec_l02Fill.l0 k x2 x3 (wrap64 (x10 + 1)) x840000 x840001 x840002 x841000 x841001 x841002 x849000 x849001 (x849002 ++ [(⟨x851000, x851001, x851002, x851003⟩ : S71)])) else (none)) else (spec_l02Fill.l0 k x2 x3 (wrap64 (x10 + 1)) x840000 x840001 x840002 x841000 x841001 x841002 x849000 x849001 x849002))
end
def spec_l02Fill.f (k : Nat) (a0_0 : Int) (l0_1 : List Int) (l0_2 : List (S71)) (a1_0 : Int) (a1_1 : Int) (a1_2 : Int) (a2 : Int) (a3 : Int) : Option (Int × List Int × (List (S71))) := (some (([] : List Int) : List Int)).bind fun y842 => (if y842.length + l0_1.length < 17592186044416 then (spec_l02Fill.l0 k a2 a3 0 a0_0 l0_1 l0_2 a1_0 a1_1 a1_2 a0_0 (y842 ++ l0_1) ([] : List (S71))) else (none))
def spec_l02Fill.T1 : Bool × List (List Nat × List Nat) := (true, [([], []), ([0], [0]), ([], []), ([], []), ([3], [3]), ([2, 4], [2, 4]), ([1, 5], [1, 5]), ([], []), ([7, 6, 5, 0, 1, 2, 3, 4, 5, 6, 7], [6, 7])])
def spec_l02Fill.B1 : List Nat := [0, 1, 0, 0, 8, 28, 63, 0, 255]
theorem spec_l02Fill.tab1 : rtab .any (opsOf Try.f80 1) = spec_l02Fill.T1 := by kernel_rfl
theorem spec_l02Fill.bits1 : waitsOk spec_l02Fill.T1.2 spec_l02Fill.B1 = true := by kernel_rfl
set_option maxHeartbeats 8000000 in
set_option maxRecDepth 100000 in
theorem spec_l02Fill.calls (k : Nat) (a0_0 : Int) (A0_1 : Option Addr) (c0_1 : Nat) (l0_1 : List Int) (A0_2 : Option Addr) (c0_2 : Nat) (l0_2 : List (S71)) (a1_0 : Int) (a1_1 : Int) (a1_2 : Int) (a2 : Int) (a3 : Int) (r1 : Int) (r2 : List Int) (r3 : List (S71)) (w : World) (hr0_1 : Kd.C (Kd.int .i64) w A0_1 l0_1.length l0_1) (hc0_1 : l0_1.length ≤ c0_1) (hr0_2 : Kd.C k71 w A0_2 l0_2.length l0_2) (hc0_2 : l0_2.length ≤ c0_2) (h : spec_l02Fill.f k a0_0 l0_1 l0_2 a1_0 a1_1 a1_2 a2 a3 = some (r1, r2, r3)) :
  Calls Try.prog 80 #[.agg #[.int .i64 a0_0, .slice A0_1 l0_1.length c0_1, .slice A0_2 l0_2.length c0_2], .agg #[.int .i64 a1_0, .int .i64 a1_1, .int .i64 a1_2], .int .i64 a2, .int .i64 a3] w fun e w' => ∃ v1_ v2_ : Value, e = .returned (.agg #[.int .i64 r1, v1_, v2_]) ∧ Kd.R (Kd.int .i64) 3 w' w.heap.size (fun _ => True) v1_ r2 ∧ Kd.R k71 71 w' w.heap.size (fun _ => True) v2_ r3 ∧ Below w.heap.size w w' := by
 have hu30 := Try.underlying30
 have hu54 := Try.underlying54
 have hu71 := Try.underlying71
 have HR0_1 := Aside0.mk hr0_1
 have HC0_1 := Aside0.mk hc0_1
 clear hr0_1 hc0_1
 have HR0_2 := Aside0.mk hr0_2
 have HC0_2 := Aside0.mk hc0_2
 clear hr0_2 hc0_2
 have HB := Aside0.mk (Below.refl w.heap.size w)
 have H : ((some (([] : List Int) : List Int)).bind fun y842 => (if y842.length + l0_1.length < 17592186044416 then (spec_l02Fill.l0 k a2 a3 0 a0_0 l0_1 l0_2 a1_0 a1_1 a1_2 a0_0 (y842 ++ l0_1) ([] : List (S71))) else (none))) = some (r1, r2, r3) := h
 clear h
 obtain ⟨y842, hy842⟩ : ∃ y_ : List Int, y_ = (([] : List Int)) := ⟨_, rfl⟩
 replace H : (if y842.length + l0_1.length < 17592186044416 then (spec_l02Fill.l0 k a2 a3 0 a0_0 l0_1 l0_2 a1_0 a1_1 a1_2 a0_0 (y842 ++ l0_1) ([] : List (S71))) else (none)) = some (r1, r2, r3) := by first | (rw [hy842]; with_reducible exact H) | (have H2_ := (Option.bind_some _ _).symm.trans H; rw [hy842]; with_reducible exact H2_) | (have H2_ := (Option.bind_some _ _).symm.trans H; with_reducible exact H2_) | with_reducible exact H | (rw [hy842]; exact H) | exact H
 have Ny842 := Aside0.mk hy842
 clear hy842
 by_cases c5 : y842.length + l0_1.length < 17592186044416
 ·rw [if_pos c5] at H
  have LMc5 := Aside0.mk c5
  clear c5
  obtain ⟨y845, hy845⟩ : ∃ y_ : List Int, y_ = (y842 ++ l0_1) := ⟨_, rfl⟩
  replace H : (spec_l02Fill.l0 k a2 a3 0 a0_0 l0_1 l0_2 a1_0 a1_1 a1_2 a0_0 y845 ([] : List (S71))) = some (r1, r2, r3) := by first | (rw [hy845]; with_reducible exact H) | (have H2_ := (Option.bind_some _ _).symm.trans H; rw [hy845]; with_reducible exact H2_) | (have H2_ := (Option.bind_some _ _).symm.trans H; with_reducible exact H2_) | with_reducible exact H | (rw [hy845]; exact H) | exact H
  have Ny845 := Aside0.mk hy845
  clear hy845
  have H' := Aside0.mk H
  clear H
  go_enter Try.func80, Try.ntmps80
  try go_wp2_with (first | ((with_reducible refine gate_dst (N := 4) rfl ?_); refine bx (cs := #[.int .i64 a0_0, .slice A0_1 l0_1.length c0_1, .slice A0_2 l0_2.length c0_2]) (t := 30) fun gb839 hg w6 hbox hb => ?_; have BK839 := Aside0.mk (hbox); have GW839 := Aside0.mk (gs HB.out hg); have GE839 := Aside0.mk (gs HB.out hg); replace HB := Aside0.mk (below_step (bl HB.out) hb); clear hb hbox hg) | ((with_reducible refine gate_dst (N := 5) rfl ?_); refine bx (cs := #[.int .i64 a1_0, .int .i64 a1_1, .int .i64 a1_2]) (t := 54) fun gb840 hg w7 hbox hb => ?_; have BK840 := Aside0.mk (hbox); have GW840 := Aside0.mk (gs HB.out hg); have GE840 := Aside0.mk (gs HB.out hg); replace HB := Aside0.mk (below_step (bl HB.out) hb); have NB839_840 := Aside0.mk ((nl BK839.out hg)); have NB840_839 := Aside0.mk ((ng BK839.out hg)); replace BK839 := Aside0.mk (bb BK839.out hb); clear hb hbox hg) | ((with_reducible refine gate_dst (N := 8) rfl ?_); refine bx (cs := #[.int .i64 0, .slice none 0 0, .slice none 0 0]) (t := 30) fun gb841 hg w8 hbox hb => ?_; have BK841 := Aside0.mk (hbox); have GW841 := Aside0.mk (gs HB.out hg); have GE841 := Aside0.mk (gs HB.out hg); replace HB := Aside0.mk (below_step (bl HB.out) hb); have NB839_841 := Aside0.mk ((nl BK839.out hg)); have NB841_839 := Aside0.mk ((ng BK839.out hg)); replace BK839 := Aside0.mk (bb BK839.out hb); have NB840_841 := Aside0.mk ((nl BK840.out hg)); have NB841_840 := Aside0.mk ((ng BK840.out hg)); replace BK840 := Aside0.mk (bb BK840.out hb); clear hb hbox hg))
  replace BK839 := Aside0.mk (blk_drew BK839.out)
  replace BK840 := Aside0.mk (blk_drew BK840.out)
  replace BK841 := Aside0.mk (blk_drew BK841.out)
  replace HB := Aside0.mk (below_drew1 HB.out)
  refine start_ (n := 9) (S := fun w' => w'.cell? ⟨gb839, 0, none⟩ = some (.int .i64 a0_0) ∧ w'.cell? ⟨gb839, 1, none⟩ = some (.slice A0_1 l0_1.length c0_1) ∧ w'.cell? ⟨gb839, 2, none⟩ = some (.slice A0_2 l0_2.length c0_2)) (ds := []) #[false, false, false, false, false, false, false, false, false] (by kernel_rfl) rfl rfl ⟨(blk_cell BK839.out 0).trans rfl, (blk_cell BK839.out 1).trans rfl, (blk_cell BK839.out 2).trans rfl⟩ (fun hHeld => ?_); refine with_tabW spec_l02Fill.tab1 spec_l02Fill.bits1 (fun HT_ HW_ => ?_)
  generalize w8.drew = w9 at BK839 BK840 BK841 HB hHeld ⊢
  refine puA (i := 0) (N := some 12) HT_.out ?_
  refine puA (i := 3) (N := some 15) HT_.out ?_
  refine tkA3 (i := 1) (N := some 13) HT_.out HW_.out hHeld ?_
  refine tkA3 (i := 4) (N := some 16) HT_.out HW_.out hHeld ?_
  refine join_ (σ := Value × Value × Nat) 1 #[true, true, true, true, true, true, true, true, false] (fun s_ => [(14, s_.1), (17, s_.2.1), (9, .pointer (some ⟨s_.2.2, 0, none⟩)), (18, .agg #[.int .i64 a0_0, s_.2.1, .slice none 0 0])]) (fun s_ w' => (w'.cell? ⟨gb839, 0, none⟩ = some (.int .i64 a0_0) ∧ w'.cell? ⟨gb839, 1, none⟩ = some (.slice A0_1 l0_1.length c0_1) ∧ w'.cell? ⟨gb839, 2, none⟩ = some (.slice A0_2 l0_2.length c0_2)) ∧ (Kd.R (Kd.int .i64) 3 w' w.heap.size (fun _ => True) s_.2.1 y845) ∧ (w'.heap[gb839]? = some (.cells #[.int .i64 a0_0, .slice A0_1 l0_1.length c0_1, .slice A0_2 l0_2.length c0_2] 30 (0, 0))) ∧ (w'.heap[gb840]? = some (.cells #[.int .i64 a1_0, .int .i64 a1_1, .int .i64 a1_2] 54 (0, 0))) ∧ (w'.heap[gb841]? = some (.cells #[.int .i64 0, .slice none 0 0, .slice none 0 0] 30 (0, 0))) ∧ (w'.heap[s_.2.2]? = some (.cells #[.int .i64 0, .slice none 0 0, .slice none 0 0] 30 (0, 0))) ∧ (w.heap.size ≤ s_.2.2) ∧ (w.heap.size ≤ s_.2.2) ∧ (gb839 ≠ s_.2.2) ∧ (s_.2.2 ≠ gb839) ∧ (gb840 ≠ s_.2.2) ∧ (s_.2.2 ≠ gb840) ∧ (gb841 ≠ s_.2.2) ∧ (s_.2.2 ≠ gb841) ∧ (Below w.heap.size w w')) ?_ ?_
  rotate_left
  ·intro hCont
   refine two_ (i := 2) (j := 7) (Ni := some 14) (Nj := some 9) #[true, true, true, true, true, false, false, false, false] #[true, true, false, true, true, false, false, true, false] rfl rfl rfl rfl (two_of HT_.out (by kernel_rfl)) (by decide) (by decide) (fun K hK => ?_) (fun K hK => ?_)
   ·skip
    refine Kd.R_lit_step (Kd.int .i64) _ 3 ?hg (N := 14) ?hd (xs := ([] : List Int)) (inner := []) (ok := fun _ => True) (okp := fun _ => True) ?hr ?hp (fun _ hk => hk) trivial (Below.refl _ _) (Nat.le_refl _) (by simp) ?_; (case hd => rfl); (case hg => rfl); (case hr => first | (go_simp; done) | (go_simp; rfl)); (case hp => exact (Reps.none _ _))
    intro v843 w10 ho11 hb hg_ hnew_
    clear hg_ hnew_
    (first | rw [← Ny842.out] at ho11 | (simp only [Int.reduceToNat] at ho11; rw [← Ny842.out] at ho11))
    have HO844 := Aside0.mk (Kd.R_lower ho11 (below_size (bl HB.out)))
    replace BK839 := Aside0.mk (bb BK839.out hb)
    replace BK840 := Aside0.mk (bb BK840.out hb)
    replace BK841 := Aside0.mk (bb BK841.out hb)
    replace HB := Aside0.mk (below_step (bl HB.out) hb)
    clear hb ho11
    refine hK.out _ _ ⟨(blk_cell BK839.out 0).trans rfl, (blk_cell BK839.out 1).trans rfl, (blk_cell BK839.out 2).trans rfl⟩ (fun hHeld => ?_)
    clear hK K
    refine norm_ (a' := ?_) ?_ ?_
    rotate_left
    ·show Act.put _ (some 14) _ = _
     simp only [Act.put, List.setIfInBounds_toArray, List.set_cons_zero, List.set_cons_succ, i64_w, i32_w]
     rfl
    refine two_ (i := 5) (j := 7) (Ni := some 17) (Nj := some 9) #[true, true, true, true, true, true, false, false, false] #[true, true, true, true, true, false, false, true, false] rfl rfl rfl rfl (two_of HT_.out (by kernel_rfl)) (by decide) (by decide) (fun K hK => ?_) (fun K hK => ?_)
    ·skip
     refine Kd.R_append_rows_step (Kd.int .i64) (w0 := w) w.heap.size (by rfl) (.tmp 14) (.tmp 16) 22 3 (.int .i64 0) 8 rfl Try.underlying22 info3 rfl (by decide) (by omega) v843 y842 l0_1 _ _ _ (fun _ => True) (fun _ => False) rfl rfl ?aO ?aR (fun _ _ h => h) (fun _ h => h.elim) ?aF ?aB ?aS ?aL ?_
     (case aR => exact cb (Kd.C_below HR0_1.out HB.out))
     (case aB => exact (bl HB.out))
     (case aF => exact (fun _ _ => trivial))
     (case aO => exact (rk HO844.out))
     (case aS => exact (below_size (bl HB.out)))
     (case aL => have := LMc5.out; omega)
     intro v846 w12 ho hb hg hat
     rw [← Ny845.out] at ho
     replace BK839 := Aside0.mk (blk_grown (g := gb839) (o := .cells #[.int .i64 a0_0, .slice A0_1 l0_1.length c0_1, .slice A0_2 l0_2.length c0_2] 30 (0, 0)) (bk BK839.out) hg (Kd.R_ne HO844.out BK839.out (by decide)))
     replace BK840 := Aside0.mk (blk_grown (g := gb840) (o := .cells #[.int .i64 a1_0, .int .i64 a1_1, .int .i64 a1_2] 54 (0, 0)) (bk BK840.out) hg (Kd.R_ne HO844.out BK840.out (by decide)))
     replace BK841 := Aside0.mk (blk_grown (g := gb841) (o := .cells #[.int .i64 0, .slice none 0 0, .slice none 0 0] 30 (0, 0)) (bk BK841.out) hg (Kd.R_ne HO844.out BK841.out (by decide)))
     replace HB := Aside0.mk (hb)
     have HO847 := Aside0.mk (ho)
     clear HO844
     clear ho hb hg hat
     obtain ⟨Ao13, co13, eo13⟩ := Kd.R_slice HO847.out
     (first | subst eo13 | (injection eo13 with f1_ f2_ f3_; have f4_ := f1_.symm; have f5_ := f3_.symm; clear f1_ f2_ f3_; subst f4_; subst f5_))
     refine hK.out _ _ ⟨(blk_cell BK839.out 0).trans rfl, (blk_cell BK839.out 1).trans rfl, (blk_cell BK839.out 2).trans rfl⟩ (fun hHeld => ?_)
     clear hK K
     refine norm_ (a' := ?_) ?_ ?_
     rotate_left
     ·show Act.put _ (some 17) _ = _
      simp only [Act.put, List.setIfInBounds_toArray, List.set_cons_zero, List.set_cons_succ, i64_w, i32_w]
      rfl
     refine puA (i := 6) (N := some 18) HT_.out ?_
     refine onA (i := 7) (N := some 9) HT_.out (fun K hK => ?_)
     refine box_step ?hg (N := 9) ?hd (cs := #[.int .i64 0, .slice none 0 0, .slice none 0 0]) (t := 30) ?hr ?_; (case hd => rfl); (case hg => rfl); (case hr => first | (go_simp; done) | (go_simp; rfl))
     intro gb848 hg w14 hbox hb
     replace HO847 := Aside0.mk (Kd.R_below (rk HO847.out) hb)
     have BK848 := Aside0.mk (hbox)
     have GW848 := Aside0.mk (gs HB.out hg)
     have GE848 := Aside0.mk (gs HB.out hg)
     replace HB := Aside0.mk (below_step (bl HB.out) hb)
     have NB839_848 := Aside0.mk ((nl BK839.out hg))
     have NB848_839 := Aside0.mk ((ng BK839.out hg))
     replace BK839 := Aside0.mk (bb BK839.out hb)
     have NB840_848 := Aside0.mk ((nl BK840.out hg))
     have NB848_840 := Aside0.mk ((ng BK840.out hg))
     replace BK840 := Aside0.mk (bb BK840.out hb)
     have NB841_848 := Aside0.mk ((nl BK841.out hg))
     have NB848_841 := Aside0.mk ((ng BK841.out hg))
     replace BK841 := Aside0.mk (bb BK841.out hb)
     clear hb hbox hg
     refine hK.out _ _ ⟨(blk_cell BK839.out 0).trans rfl, (blk_cell BK839.out 1).trans rfl, (blk_cell BK839.out 2).trans rfl⟩ (fun hHeld => ?_)
     clear hK K
     refine norm_ (a' := ?_) ?_ ?_
     rotate_left
     ·show Act.put _ (some 9) _ = _
      simp only [Act.put, List.setIfInBounds_toArray, List.set_cons_zero, List.set_cons_succ, i64_w, i32_w]
      rfl
     exact norm_ (by simp only [putAll, Act.put, List.setIfInBounds_toArray, List.set_cons_zero, List.set_cons_succ]) (hCont (v843, .slice Ao13 y845.length co13, gb848) _ ⟨hHeld, (rk HO847.out), (bk BK839.out), (bk BK840.out), (bk BK841.out), (bk BK848.out), GW848.out, GE848.out, NB839_848.out, NB848_839.out, NB840_848.out, NB848_840.out, NB841_848.out, NB848_841.out, (bl HB.out)⟩)
    ·skip
     refine box_step ?hg (N := 9) ?hd (cs := #[.int .i64 0, .slice none 0 0, .slice none 0 0]) (t := 30) ?hr ?_; (case hd => rfl); (case hg => rfl); (case hr => first | (go_simp; done) | (go_simp; rfl))
     intro gb848 hg w12 hbox hb
     replace HO844 := Aside0.mk (Kd.R_below (rk HO844.out) hb)
     have BK848 := Aside0.mk (hbox)
     have GW848 := Aside0.mk (gs HB.out hg)
     have GE848 := Aside0.mk (gs HB.out hg)
     replace HB := Aside0.mk (below_step (bl HB.out) hb)
     have NB839_848 := Aside0.mk ((nl BK839.out hg))
     have NB848_839 := Aside0.mk ((ng BK839.out hg))
     replace BK839 := Aside0.mk (bb BK839.out hb)
     have NB840_848 := Aside0.mk ((nl BK840.out hg))
     have NB848_840 := Aside0.mk ((ng BK840.out hg))
     replace BK840 := Aside0.mk (bb BK840.out hb)
     have NB841_848 := Aside0.mk ((nl BK841.out hg))
     have NB848_841 := Aside0.mk ((ng BK841.out hg))
     replace BK841 := Aside0.mk (bb BK841.out hb)
     clear hb hbox hg
     refine hK.out _ _ ⟨(blk_cell BK839.out 0).trans rfl, (blk_cell BK839.out 1).trans rfl, (blk_cell BK839.out 2).trans rfl⟩ (fun hHeld => ?_)
     clear hK K
     refine norm_ (a' := ?_) ?_ ?_
     rotate_left
     ·show Act.put _ (some 9) _ = _
      simp only [Act.put, List.setIfInBounds_toArray, List.set_cons_zero, List.set_cons_succ, i64_w, i32_w]
      rfl
     refine onA (i := 5) (N := some 17) HT_.out (fun K hK => ?_)
     refine Kd.R_append_rows_step (Kd.int .i64) (w0 := w) w.heap.size (by rfl) (.tmp 14) (.tmp 16) 22 3 (.int .i64 0) 8 rfl Try.underlying22 info3 rfl (by decide) (by omega) v843 y842 l0_1 _ _ _ (fun _ => True) (fun _ => False) rfl rfl ?aO ?aR (fun _ _ h => h) (fun _ h => h.elim) ?aF ?aB ?aS ?aL ?_
     (case aR => exact cb (Kd.C_below HR0_1.out HB.out))
     (case aB => exact (bl HB.out))
     (case aF => exact (fun _ _ => trivial))
     (case aO => exact (rk HO844.out))
     (case aS => exact (below_size (bl HB.out)))
     (case aL => have := LMc5.out; omega)
     intro v846 w13 ho hb hg hat
     rw [← Ny845.out] at ho
     replace BK839 := Aside0.mk (blk_grown (g := gb839) (o := .cells #[.int .i64 a0_0, .slice A0_1 l0_1.length c0_1, .slice A0_2 l0_2.length c0_2] 30 (0, 0)) (bk BK839.out) hg (Kd.R_ne HO844.out BK839.out (by decide)))
     replace BK840 := Aside0.mk (blk_grown (g := gb840) (o := .cells #[.int .i64 a1_0, .int .i64 a1_1, .int .i64 a1_2] 54 (0, 0)) (bk BK840.out) hg (Kd.R_ne HO844.out BK840.out (by decide)))
     replace BK841 := Aside0.mk (blk_grown (g := gb841) (o := .cells #[.int .i64 0, .slice none 0 0, .slice none 0 0] 30 (0, 0)) (bk BK841.out) hg (Kd.R_ne HO844.out BK841.out (by decide)))
     replace BK848 := Aside0.mk (blk_grown (g := gb848) (o := .cells #[.int .i64 0, .slice none 0 0, .slice none 0 0] 30 (0, 0)) (bk BK848.out) hg (Kd.R_ne HO844.out BK848.out (by decide)))
     replace HB := Aside0.mk (hb)
     have HO847 := Aside0.mk (ho)
     clear HO844
     clear ho hb hg hat
     obtain ⟨Ao14, co14, eo14⟩ := Kd.R_slice HO847.out
     (first | subst eo14 | (injection eo14 with f1_ f2_ f3_; have f4_ := f1_.symm; have f5_ := f3_.symm; clear f1_ f2_ f3_; subst f4_; subst f5_))
     refine hK.out _ _ ⟨(blk_cell BK839.out 0).trans rfl, (blk_cell BK839.out 1).trans rfl, (blk_cell BK839.out 2).trans rfl⟩ (fun hHeld => ?_)
     clear hK K
     refine norm_ (a' := ?_) ?_ ?_
     rotate_left
     ·show Act.put _ (some 17) _ = _
      simp only [Act.put, List.setIfInBounds_toArray, List.set_cons_zero, List.set_cons_succ, i64_w, i32_w]
      rfl
     refine puA (i := 6) (N := some 18) HT_.out ?_
     exact norm_ (by simp only [putAll, Act.put, List.setIfInBounds_toArray, List.set_cons_zero, List.set_cons_succ]) (hCont (v843, .slice Ao14 y845.length co14, gb848) _ ⟨hHeld, (rk HO847.out), (bk BK839.out), (bk BK840.out), (bk BK841.out), (bk BK848.out), GW848.out, GE848.out, NB839_848.out, NB848_839.out, NB840_848.out, NB848_840.out, NB841_848.out, NB848_841.out, (bl HB.out)⟩)
   ·skip
    refine box_step ?hg (N := 9) ?hd (cs := #[.int .i64 0, .slice none 0 0, .slice none 0 0]) (t := 30) ?hr ?_; (case hd => rfl); (case hg => rfl); (case hr => first | (go_simp; done) | (go_simp; rfl))
    intro gb848 hg w10 hbox hb
    have BK848 := Aside0.mk (hbox)
    have GW848 := Aside0.mk (gs HB.out hg)
    have GE848 := Aside0.mk (gs HB.out hg)
    replace HB := Aside0.mk (below_step (bl HB.out) hb)
    have NB839_848 := Aside0.mk ((nl BK839.out hg))
    have NB848_839 := Aside0.mk ((ng BK839.out hg))
    replace BK839 := Aside0.mk (bb BK839.out hb)
    have NB840_848 := Aside0.mk ((nl BK840.out hg))
    have NB848_840 := Aside0.mk ((ng BK840.out hg))
    replace BK840 := Aside0.mk (bb BK840.out hb)
    have NB841_848 := Aside0.mk ((nl BK841.out hg))
    have NB848_841 := Aside0.mk ((ng BK841.out hg))
    replace BK841 := Aside0.mk (bb BK841.out hb)
    clear hb hbox hg
    refine hK.out _ _ ⟨(blk_cell BK839.out 0).trans rfl, (blk_cell BK839.out 1).trans rfl, (blk_cell BK839.out 2).trans rfl⟩ (fun hHeld => ?_)
    clear hK K
    refine norm_ (a' := ?_) ?_ ?_
    rotate_left
    ·show Act.put _ (some 9) _ = _
     simp only [Act.put, List.setIfInBounds_toArray, List.set_cons_zero, List.set_cons_succ, i64_w, i32_w]
     rfl
    refine onA (i := 2) (N := some 14) HT_.out (fun K hK => ?_)
    refine Kd.R_lit_step (Kd.int .i64) _ 3 ?hg (N := 14) ?hd (xs := ([] : List Int)) (inner := []) (ok := fun _ => True) (okp := fun _ => True) ?hr ?hp (fun _ hk => hk) trivial (Below.refl _ _) (Nat.le_refl _) (by simp) ?_; (case hd => rfl); (case hg => rfl); (case hr => first | (go_simp; done) | (go_simp; rfl)); (case hp => exact (Reps.none _ _))
    intro v843 w11 ho12 hb hg_ hnew_
    clear hg_ hnew_
    (first | rw [← Ny842.out] at ho12 | (simp only [Int.reduceToNat] at ho12; rw [← Ny842.out] at ho12))
    have HO844 := Aside0.mk (Kd.R_lower ho12 (below_size (bl HB.out)))
    replace BK839 := Aside0.mk (bb BK839.out hb)
    replace BK840 := Aside0.mk (bb BK840.out hb)
    replace BK841 := Aside0.mk (bb BK841.out hb)
    replace BK848 := Aside0.mk (bb BK848.out hb)
    replace HB := Aside0.mk (below_step (bl HB.out) hb)
    clear hb ho12
    refine hK.out _ _ ⟨(blk_cell BK839.out 0).trans rfl, (blk_cell BK839.out 1).trans rfl, (blk_cell BK839.out 2).trans rfl⟩ (fun hHeld => ?_)
    clear hK K
    refine norm_ (a' := ?_) ?_ ?_
    rotate_left
    ·show Act.put _ (some 14) _ = _
     simp only [Act.put, List.setIfInBounds_toArray, List.set_cons_zero, List.set_cons_succ, i64_w, i32_w]
     rfl
    refine onA (i := 5) (N := some 17) HT_.out (fun K hK => ?_)
    refine Kd.R_append_rows_step (Kd.int .i64) (w0 := w) w.heap.size (by rfl) (.tmp 14) (.tmp 16) 22 3 (.int .i64 0) 8 rfl Try.underlying22 info3 rfl (by decide) (by omega) v843 y842 l0_1 _ _ _ (fun _ => True) (fun _ => False) rfl rfl ?aO ?aR (fun _ _ h => h) (fun _ h => h.elim) ?aF ?aB ?aS ?aL ?_
    (case aR => exact cb (Kd.C_below HR0_1.out HB.out))
    (case aB => exact (bl HB.out))
    (case aF => exact (fun _ _ => trivial))
    (case aO => exact (rk HO844.out))
    (case aS => exact (below_size (bl HB.out)))
    (case aL => have := LMc5.out; omega)
    intro v846 w13 ho hb hg hat
    rw [← Ny845.out] at ho
    replace BK839 := Aside0.mk (blk_grown (g := gb839) (o := .cells #[.int .i64 a0_0, .slice A0_1 l0_1.length c0_1, .slice A0_2 l0_2.length c0_2] 30 (0, 0)) (bk BK839.out) hg (Kd.R_ne HO844.out BK839.out (by decide)))
    replace BK840 := Aside0.mk (blk_grown (g := gb840) (o := .cells #[.int .i64 a1_0, .int .i64 a1_1, .int .i64 a1_2] 54 (0, 0)) (bk BK840.out) hg (Kd.R_ne HO844.out BK840.out (by decide)))
    replace BK841 := Aside0.mk (blk_grown (g := gb841) (o := .cells #[.int .i64 0, .slice none 0 0, .slice none 0 0] 30 (0, 0)) (bk BK841.out) hg (Kd.R_ne HO844.out BK841.out (by decide)))
    replace BK848 := Aside0.mk (blk_grown (g := gb848) (o := .cells #[.int .i64 0, .slice none 0 0, .slice none 0 0] 30 (0, 0)) (bk BK848.out) hg (Kd.R_ne HO844.out BK848.out (by decide)))
    replace HB := Aside0.mk (hb)
    have HO847 := Aside0.mk (ho)
    clear HO844
    clear ho hb hg hat
    obtain ⟨Ao14, co14, eo14⟩ := Kd.R_slice HO847.out
    (first | subst eo14 | (injection eo14 with f1_ f2_ f3_; have f4_ := f1_.symm; have f5_ := f3_.symm; clear f1_ f2_ f3_; subst f4_; subst f5_))
    refine hK.out _ _ ⟨(blk_cell BK839.out 0).trans rfl, (blk_cell BK839.out 1).trans rfl, (blk_cell BK839.out 2).trans rfl⟩ (fun hHeld => ?_)
    clear hK K
    refine norm_ (a' := ?_) ?_ ?_
    rotate_left
    ·show Act.put _ (some 17) _ = _
     simp only [Act.put, List.setIfInBounds_toArray, List.set_cons_zero, List.set_cons_succ, i64_w, i32_w]
     rfl
    refine puA (i := 6) (N := some 18) HT_.out ?_
    exact norm_ (by simp only [putAll, Act.put, List.setIfInBounds_toArray, List.set_cons_zero, List.set_cons_succ]) (hCont (v843, .slice Ao14 y845.length co14, gb848) _ ⟨hHeld, (rk HO847.out), (bk BK839.out), (bk BK840.out), (bk BK841.out), (bk BK848.out), GW848.out, GE848.out, NB839_848.out, NB848_839.out, NB840_848.out, NB848_840.out, NB841_848.out, NB848_841.out, (bl HB.out)⟩)
  rintro ⟨v843, v846, gb848⟩ w15 ⟨hS_, h0_, h1_, h2_, h3_, h4_, h5_, h6_, h7_, h8_, h9_, h10_, h11_, h12_, h13_⟩
  have n0_ : Aside0 (Kd.R (Kd.int .i64) 3 w15 w.heap.size (fun _ => True) v846 y845) := ⟨h0_⟩
  have n1_ : Aside0 (w15.heap[gb839]? = some (.cells #[.int .i64 a0_0, .slice A0_1 l0_1.length c0_1, .slice A0_2 l0_2.length c0_2] 30 (0, 0))) := ⟨h1_⟩
  have n2_ : Aside0 (w15.heap[gb840]? = some (.cells #[.int .i64 a1_0, .int .i64 a1_1, .int .i64 a1_2] 54 (0, 0))) := ⟨h2_⟩
  have n3_ : Aside0 (w15.heap[gb841]? = some (.cells #[.int .i64 0, .slice none 0 0, .slice none 0 0] 30 (0, 0))) := ⟨h3_⟩
  have n4_ : Aside0 (w15.heap[gb848]? = some (.cells #[.int .i64 0, .slice none 0 0, .slice none 0 0] 30 (0, 0))) := ⟨h4_⟩
  have n5_ : Aside0 (w.heap.size ≤ gb848) := ⟨h5_⟩
  have n6_ : Aside0 (w.heap.size ≤ gb848) := ⟨h6_⟩
  have n7_ : Aside0 (gb839 ≠ gb848) := ⟨h7_⟩
  have n8_ : Aside0 (gb848 ≠ gb839) := ⟨h8_⟩
  have n9_ : Aside0 (gb840 ≠ gb848) := ⟨h9_⟩
  have n10_ : Aside0 (gb848 ≠ gb840) := ⟨h10_⟩
  have n11_ : Aside0 (gb841 ≠ gb848) := ⟨h11_⟩
  have n12_ : Aside0 (gb848 ≠ gb841) := ⟨h12_⟩
  have n13_ : Aside0 (Below w.heap.size w w15) := ⟨h13_⟩
  clear BK839
  clear BK840
  clear BK841
  clear HB
  clear h0_ h1_ h2_ h3_ h4_ h5_ h6_ h7_ h8_ h9_ h10_ h11_ h12_ h13_
  have HO847 := n0_
  have BK839 := n1_
  have BK840 := n2_
  have BK841 := n3_
  have BK848 := n4_
  have GW848 := n5_
  have GE848 := n6_
  have NB839_848 := n7_
  have NB848_839 := n8_
  have NB840_848 := n9_
  have NB848_840 := n10_
  have NB841_848 := n11_
  have NB848_841 := n12_
  have HB := n13_
  clear n0_ n1_ n2_ n3_ n4_ n5_ n6_ n7_ n8_ n9_ n10_ n11_ n12_ n13_
  have hHeld : w15.cell? ⟨gb839, 0, none⟩ = some (.int .i64 a0_0) ∧ w15.cell? ⟨gb839, 1, none⟩ = some (.slice A0_1 l0_1.length c0_1) ∧ w15.cell? ⟨gb839, 2, none⟩ = some (.slice A0_2 l0_2.length c0_2) := hS_
  obtain ⟨Ao16, co16, eo16⟩ := Kd.R_slice HO847.out
  (first | subst eo16 | (injection eo16 with f1_ f2_ f3_; have f4_ := f1_.symm; have f5_ := f3_.symm; clear f1_ f2_ f3_; subst f4_; subst f5_))
  refine norm_ (a' := ?_) ?_ ?_
  rotate_left
  ·simp only [putAll, Act.put, List.setIfInBounds_toArray, List.set_cons_zero, List.set_cons_succ]
   rfl
  refine onA (i := 8) (N := none) HT_.out (fun K hK => ?_)
  have hs17 : w15.cell? ⟨gb848, 0, none⟩ = some (.int .i64 0) := (blk_cell BK848.out 0).trans rfl
  have hfs17 := blk_frozen BK848.out 0
  have hns17_0 := NB839_848.out
  have hns17_1 := NB840_848.out
  have hns17_2 := NB841_848.out
  have hms17_0 := NB848_839.out
  have hms17_1 := NB848_840.out
  have hms17_2 := NB848_841.out
  have hs18 : w15.cell? ⟨gb848, 1, none⟩ = some (.slice none 0 0) := (blk_cell BK848.out 1).trans rfl
  have hfs18 := blk_frozen BK848.out 1
  have hns18_0 := NB839_848.out
  have hns18_1 := NB840_848.out
  have hns18_2 := NB841_848.out
  have hms18_0 := NB848_839.out
  have hms18_1 := NB848_840.out
  have hms18_2 := NB848_841.out
  have hs19 : w15.cell? ⟨gb848, 2, none⟩ = some (.slice none 0 0) := (blk_cell BK848.out 2).trans rfl
  have hfs19 := blk_frozen BK848.out 2
  have hns19_0 := NB839_848.out
  have hns19_1 := NB840_848.out
  have hns19_2 := NB841_848.out
  have hms19_0 := NB848_839.out
  have hms19_1 := NB848_840.out
  have hms19_2 := NB848_841.out
  refine skip_ (w1 := ?_) (by rfl) rfl ?_ ?_
  rotate_left
  ·go_simp
   rfl
  refine hK.out _ _ ⟨((cell_far (p := ⟨gb848, _, none⟩) NB839_848.out _).trans (((cell_far (p := ⟨gb848, _, none⟩) NB839_848.out _).trans (((cell_far (p := ⟨gb848, _, none⟩) NB839_848.out _).trans (hHeld.1)))))), ((cell_far (p := ⟨gb848, _, none⟩) NB839_848.out _).trans (((cell_far (p := ⟨gb848, _, none⟩) NB839_848.out _).trans (((cell_far (p := ⟨gb848, _, none⟩) NB839_848.out _).trans (hHeld.2.1)))))), ((cell_far (p := ⟨gb848, _, none⟩) NB839_848.out _).trans (((cell_far (p := ⟨gb848, _, none⟩) NB839_848.out _).trans (((cell_far (p := ⟨gb848, _, none⟩) NB839_848.out _).trans (hHeld.2.2))))))⟩ (fun hHeld => ?_)
  clear hK K
  refine done_ (done_of HT_.out (by kernel_rfl)) ?_
  try go_wp2
  go_loopg [10] k (fun kq v10 w' => ∃ (x10_1 : Int) (x849002_1 : List (S71)) (u849002 : Value), v10 = .int .i64 x10_1 ∧ Aside0 (spec_l02Fill.l0 kq a2 a3 x10_1 a0_0 l0_1 l0_2 a1_0 a1_1 a1_2 a0_0 y845 x849002_1 = some (r1, r2, r3)) ∧ Aside0 (kq ≤ k) ∧ Aside0 (Kd.R (Kd.int .i64) 3 w' w.heap.size (fun _ => True) (.slice Ao16 y845.length co16) y845) ∧ Aside0 (Kd.R k71 71 w' w.heap.size (fun _ => True) u849002 x849002_1) ∧ Aside0 (w'.heap[gb839]? = some (.cells #[.int .i64 a0_0, (.slice A0_1 l0_1.length c0_1), (.slice A0_2 l0_2.length c0_2)] 30 (0, 0))) ∧ Aside0 (w'.heap[gb840]? = some (.cells #[.int .i64 a1_0, .int .i64 a1_1, .int .i64 a1_2] 54 (0, 0))) ∧ Aside0 (w'.heap[gb841]? = some (.cells #[.int .i64 0, (.slice none 0 0), (.slice none 0 0)] 30 (0, 0))) ∧ Aside0 (w'.heap[gb848]? = some (.cells #[.int .i64 a0_0, (.slice Ao16 y845.length co16), u849002] 30 (0, 0))) ∧ Aside0 (Below w.heap.size w w'))
  case atStart => exact ⟨(0), (([] : List (S71))), (.slice none 0 0), (by first | rfl | (simp; done) | (simp [*]; done)), H', ⟨Nat.le_refl _⟩, ⟨by refine rk ?_; exact Kd.R_mono (Kd.R_far (p := ⟨gb848, 2, none⟩) (Kd.R_far (p := ⟨gb848, 1, none⟩) (Kd.R_far (p := ⟨gb848, 0, none⟩) (Kd.R_types HO847.out BK848.out (by decide)) (fun _ hk => hk.2) (.int .i64 a0_0)) (fun _ hk => hk.2) (.slice Ao16 y845.length co16)) (fun _ hk => hk.2) (.slice none 0 0)) (fun _ hk => trivial)⟩, ⟨by first | exact Kd.R_nil _ _ _ _ _ | exact Kd.N_nil _ _ _ _ _ | exact Kd.V_nil _ _ _ _ _ | exact Kd.Q_nil _ _ _ _ _ | exact Kd.S_nil _ _ _ _ _⟩, ⟨by refine bk ?_; refine blk_far ?_ NB839_848.out _; refine bk ?_; refine blk_far ?_ NB839_848.out _; refine bk ?_; refine blk_far ?_ NB839_848.out _; refine bk ?_; exact BK839.out⟩, ⟨by refine bk ?_; refine blk_far ?_ NB840_848.out _; refine bk ?_; refine blk_far ?_ NB840_848.out _; refine bk ?_; refine blk_far ?_ NB840_848.out _; refine bk ?_; exact BK840.out⟩, ⟨by refine bk ?_; refine blk_far ?_ NB841_848.out _; refine bk ?_; refine blk_far ?_ NB841_848.out _; refine bk ?_; refine blk_far ?_ NB841_848.out _; refine bk ?_; exact BK841.out⟩, ⟨by refine bk ?_; refine blk_put (cs := #[.int .i64 a0_0, .slice Ao16 y845.length co16, .slice none 0 0]) ?_ 2 _ rfl; refine bk ?_; refine blk_put (cs := #[.int .i64 a0_0, .slice none 0 0, .slice none 0 0]) ?_ 1 _ rfl; refine bk ?_; refine blk_put (cs := #[.int .i64 0, .slice none 0 0, .slice none 0 0]) ?_ 0 _ rfl; refine bk ?_; exact BK848.out⟩, ⟨bl HB.out⟩⟩
  case round =>
   clear H'
   try clear p2
   try clear c5
   try clear c8
   obtain ⟨x10_1, x849002_1, u849002, rfl, HA, HK1, HO_849001, HO_849002, BK839, BK840, BK841, BK848, HB⟩ := hrel
   cases gk with
   | zero => exact absurd HA.out (by simp [spec_l02Fill.l0])
   | succ k1 =>
    have H := HA.out
    clear HA
    simp only [spec_l02Fill.l0] at H
    by_cases c20 : x10_1 < (l0_2.length : Int)
    ·rw [if_pos c20] at H
     have c20b0 : decide (x10_1 < (l0_2.length : Int)) = true := decide_eq_true c20
     clear c20
     by_cases c21 : 0 ≤ x10_1
     ·rw [if_pos c21] at H
      have c21b0 : decide (0 ≤ x10_1) = true := decide_eq_true c21
      clear c21
      have HC22 := Aside0.mk H
      clear H
      have hnb23 := NB839_840.out
      have hnc23 := NB840_839.out
      have hnb24 := NB839_841.out
      have hnc24 := NB841_839.out
      have hnb25 := NB839_848.out
      have hnc25 := NB848_839.out
      obtain ⟨hcz26_0, hcz26_1, hcz26_2, hfz26_0, hfz26_1, hfz26_2⟩ := cz3 BK839.out
      have p849 : 0 ≤ (x10_1 : Int) := of_decide_eq_true asm
      have q849 : x10_1 < (l0_2.length : Int) := of_decide_eq_true asm
      obtain ⟨ad849, e849, hx849_0, hx849_1, hx849_2, hx849_3⟩ := at_T71 HR0_2.out x10_1 p849 q849
      cases e849
      replace hx849_0 := (HB.out.cell (World.block_lt_of_cell? w _ hx849_0)).trans hx849_0
      replace hx849_1 := (HB.out.cell (World.block_lt_of_cell? w _ hx849_1)).trans hx849_1
      replace hx849_2 := (HB.out.cell (World.block_lt_of_cell? w _ hx849_2)).trans hx849_2
      replace hx849_3 := (HB.out.cell (World.block_lt_of_cell? w _ hx849_3)).trans hx849_3
      replace p849 := eq_true p849
      replace q849 := eq_true q849
      go_upto_if 35 with (first | ((with_reducible refine gate_dst (N := 11) rfl ?_); refine bx (cs := #[.int .i64 0, .int .i64 0, .int .i64 0, .bool false]) (t := 71) fun gb850 hg w27 hbox hb => ?_; replace HO_849001 := Aside0.mk (Kd.R_below (rk HO_849001.out) hb); replace HO_849002 := Aside0.mk (Kd.R_below (Kd.R_elderB (rk HO_849002.out) gb850 (Nat.le_of_eq hg.symm)) hb); have BK850 := Aside0.mk (hbox); have GW850 := Aside0.mk (gs HB.out hg); have GE850 := Aside0.mk (gs HB.out hg); replace HB := Aside0.mk (below_step (bl HB.out) hb); have NB839_850 := Aside0.mk ((nl BK839.out hg)); have NB850_839 := Aside0.mk ((ng BK839.out hg)); replace BK839 := Aside0.mk (bb BK839.out hb); have NB840_850 := Aside0.mk ((nl BK840.out hg)); have NB850_840 := Aside0.mk ((ng BK840.out hg)); replace BK840 := Aside0.mk (bb BK840.out hb); have NB841_850 := Aside0.mk ((nl BK841.out hg)); have NB850_841 := Aside0.mk ((ng BK841.out hg)); replace BK841 := Aside0.mk (bb BK841.out hb); have NB848_850 := Aside0.mk ((nl BK848.out hg)); have NB850_848 := Aside0.mk ((ng BK848.out hg)); replace BK848 := Aside0.mk (bb BK848.out hb); clear hb hbox hg; have hnb28 := NB850_839.out; have hnc28 := NB839_850.out; have hnb29 := NB850_840.out; have hnc29 := NB840_850.out; have hnb30 := NB850_841.out; have hnc30 := NB841_850.out; have hnb31 := NB850_848.out; have hnc31 := NB848_850.out; obtain ⟨hcz32_0, hcz32_1, hcz32_2, hcz32_3, hfz32_0, hfz32_1, hfz32_2, hfz32_3⟩ := cz4 BK850.out; have hnb33 := NB840_841.out; have hnc33 := NB841_840.out; have hnb34 := NB840_848.out; have hnc34 := NB848_840.out; obtain ⟨hcz35_0, hcz35_1, hcz35_2, hfz35_0, hfz35_1, hfz35_2⟩ := cz3 BK840.out))
      (try simp only [Act.put, List.setIfInBounds_toArray, List.set_cons_zero, List.set_cons_succ])
      go_cut [] (fun wc => ∃ (kq : Nat) (x849002_21 : List (S71)) (u849002 : Value), Aside0 (spec_l02Fill.j1 kq a2 a3 x10_1 a0_0 l0_1 l0_2 a1_0 a1_1 a1_2 a0_0 y845 x849002_21 ((rd_T71 l0_2 x10_1).f0) ((rd_T71 l0_2 x10_1).f1) ((rd_T71 l0_2 x10_1).f2) ((rd_T71 l0_2 x10_1).f3) = some (r1, r2, r3)) ∧ Aside0 (kq ≤ k1) ∧ Aside0 (Kd.R (Kd.int .i64) 3 wc w.heap.size (fun _ => True) (.slice Ao16 y845.length co16) y845) ∧ Aside0 (Kd.R k71 71 wc w.heap.size (fun k_ => k_ ≠ gb850) u849002 x849002_21) ∧ Aside0 (wc.heap[gb839]? = some (.cells #[.int .i64 a0_0, (.slice A0_1 l0_1.length c0_1), (.slice (some ad849) l0_2.length c0_2)] 30 (0, 0))) ∧ Aside0 (wc.heap[gb840]? = some (.cells #[.int .i64 a1_0, .int .i64 a1_1, .int .i64 a1_2] 54 (0, 0))) ∧ Aside0 (wc.heap[gb841]? = some (.cells #[.int .i64 0, (.slice none 0 0), (.slice none 0 0)] 30 (0, 0))) ∧ Aside0 (wc.heap[gb848]? = some (.cells #[.int .i64 a0_0, (.slice Ao16 y845.length co16), u849002] 30 (0, 0))) ∧ Aside0 (wc.heap[gb850]? = some (.cells #[.int .i64 ((rd_T71 l0_2 x10_1).f0), .int .i64 ((rd_T71 l0_2 x10_1).f1), .int .i64 ((rd_T71 l0_2 x10_1).f2), .bool ((rd_T71 l0_2 x10_1).f3)] 71 (0, 0))) ∧ Aside0 (Below w.heap.size w wc))
      case first =>
       have H := HC22.out
       clear HC22
       by_cases c36 : ((rd_T71 l0_2 x10_1).f0) = a1_1
       ·rw [if_pos c36] at H
        have c36b0 : (((rd_T71 l0_2 x10_1).f0) == a1_1) = true := beq_iff_eq.mpr c36
        have c36b1 : (((rd_T71 l0_2 x10_1).f0) != a1_1) = false := bne_eq_false_iff_eq.mpr c36
        clear c36
        (first | rw [c36b0] | (simp only [i64_w, i32_w]; rw [c36b0]) | skip)
        by_cases c37 : x849002_1.length < 4398046511104
        ·rw [if_pos c37] at H
         have LMc37 := Aside0.mk c37
         clear c37
         obtain ⟨y851, hy851⟩ : ∃ y_ : List (S71), y_ = (x849002_1 ++ [(⟨a1_1, a3, a2, false⟩ : S71)]) := ⟨_, rfl⟩
         replace H : (if a3 < a1_2 then (if y851.length < 4398046511104 then (spec_l02Fill.j1 k1 a2 a3 x10_1 a0_0 l0_1 l0_2 a1_0 a1_1 a1_2 a0_0 y845 (y851 ++ [(⟨wrap64 (a1_1 + a3), wrap64 (a1_2 - a3), 0, false⟩ : S71)]) ((rd_T71 l0_2 x10_1).f0) ((rd_T71 l0_2 x10_1).f1) ((rd_T71 l0_2 x10_1).f2) ((rd_T71 l0_2 x10_1).f3)) else (none)) else (spec_l02Fill.j1 k1 a2 a3 x10_1 a0_0 l0_1 l0_2 a1_0 a1_1 a1_2 a0_0 y845 y851 ((rd_T71 l0_2 x10_1).f0) ((rd_T71 l0_2 x10_1).f1) ((rd_T71 l0_2 x10_1).f2) ((rd_T71 l0_2 x10_1).f3))) = some (r1, r2, r3) := by first | (rw [hy851]; with_reducible exact H) | (have H2_ := (Option.bind_some _ _).symm.trans H; rw [hy851]; with_reducible exact H2_) | (have H2_ := (Option.bind_some _ _).symm.trans H; with_reducible exact H2_) | with_reducible exact H | (rw [hy851]; exact H) | exact H
         have Ny851 := Aside0.mk hy851
         clear hy851
         by_cases c38 : a3 < a1_2
         ·rw [if_pos c38] at H
          have c38b0 : decide (a3 < a1_2) = true := decide_eq_true c38
          clear c38
          by_cases c39 : y851.length < 4398046511104
          ·rw [if_pos c39] at H
           have LMc39 := Aside0.mk c39
           clear c39
           obtain ⟨y854, hy854⟩ : ∃ y_ : List (S71), y_ = (y851 ++ [(⟨wrap64 (a1_1 + a3), wrap64 (a1_2 - a3), 0, false⟩ : S71)]) := ⟨_, rfl⟩
           replace H : (spec_l02Fill.j1 k1 a2 a3 x10_1 a0_0 l0_1 l0_2 a1_0 a1_1 a1_2 a0_0 y845 y854 ((rd_T71 l0_2 x10_1).f0) ((rd_T71 l0_2 x10_1).f1) ((rd_T71 l0_2 x10_1).f2) ((rd_T71 l0_2 x10_1).f3)) = some (r1, r2, r3) := by first | (rw [hy854]; with_reducible exact H) | (have H2_ := (Option.bind_some _ _).symm.trans H; rw [hy854]; with_reducible exact H2_) | (have H2_ := (Option.bind_some _ _).symm.trans H; with_reducible exact H2_) | with_reducible exact H | (rw [hy854]; exact H) | exact H
           have Ny854 := Aside0.mk hy854
           clear hy854
           have H' := Aside0.mk H
           clear H
           have hnb40 := NB848_839.out
           have hnc40 := NB839_848.out
           have hnb41 := NB848_840.out
           have hnc41 := NB840_848.out
           have hnb42 := NB848_841.out
           have hnc42 := NB841_848.out
           have hnb43 := NB848_850.out
           have hnc43 := NB850_848.out
           obtain ⟨hcz44_0, hcz44_1, hcz44_2, hfz44_0, hfz44_1, hfz44_2⟩ := cz3 BK848.out
           have hnb45 := NB840_839.out
           have hnc45 := NB839_840.out
           have hnb46 := NB840_841.out
           have hnc46 := NB841_840.out
           have hnb47 := NB840_850.out
           have hnc47 := NB850_840.out
           obtain ⟨hcz48_0, hcz48_1, hcz48_2, hfz48_0, hfz48_1, hfz48_2⟩ := cz3 BK840.out
           go_wp2_with (first | ((with_reducible refine gate_builtin (b := .append) (xs := #[.tmp 37, .tmp 43]) rfl ?_); at_builtin; refine Kd.R_append k71 (w0 := w) w.heap.size rfl (.tmp 37) (.tmp 43) 28 71 (.agg #[(.int .i64 0), (.int .i64 0), (.int .i64 0), (.bool false)]) 32 rfl Try.underlying28 info71 rfl (by decide) (by omega) u849002 x849002_1 (⟨a1_1, a3, a2, false⟩ : S71) [.int .i64 a1_1, .int .i64 a3, .int .i64 a2, .bool false] (fun k_ => k_ ≠ gb850) (fun _ => False) rfl (by first | (go_simp; done) | (go_simp; rfl)) ?aP (fun _ hk => hk.elim) ?aF ?aO ?aB ?aS ?aL ?_; (case aP => exact k71_mkM _ _ _ (⟨a1_1, a3, a2, false⟩ : S71)); (case aB => exact (bl HB.out)); (case aF => exact (fun k_ hk => Kd.freshB (g := gb850) (o := .cells #[.int .i64 ((rd_T71 l0_2 x10_1).f0), .int .i64 ((rd_T71 l0_2 x10_1).f1), .int .i64 ((rd_T71 l0_2 x10_1).f2), .bool ((rd_T71 l0_2 x10_1).f3)] 71 (0, 0)) (by refine bk ?_; refine blk_put (cs := #[.int .i64 ((rd_T71 l0_2 x10_1).f0), .int .i64 ((rd_T71 l0_2 x10_1).f1), .int .i64 ((rd_T71 l0_2 x10_1).f2), .bool false]) ?_ 3 _ rfl; refine bk ?_; refine blk_put (cs := #[.int .i64 ((rd_T71 l0_2 x10_1).f0), .int .i64 ((rd_T71 l0_2 x10_1).f1), .int .i64 0, .bool false]) ?_ 2 _ rfl; refine bk ?_; refine blk_put (cs := #[.int .i64 ((rd_T71 l0_2 x10_1).f0), .int .i64 0, .int .i64 0, .bool false]) ?_ 1 _ rfl; refine bk ?_; refine blk_put (cs := #[.int .i64 0, .int .i64 0, .int .i64 0, .bool false]) ?_ 0 _ rfl; refine bk ?_; exact BK850.out) k_ hk)); (case aO => exact (by refine rk ?_; exact Kd.R_mono (Kd.R_far (p := ⟨gb850, 3, none⟩) (Kd.R_far (p := ⟨gb850, 2, none⟩) (Kd.R_far (p := ⟨gb850, 1, none⟩) (Kd.R_far (p := ⟨gb850, 0, none⟩) (Kd.R_mono HO_849002.out (fun k_ hk => (⟨hk, hk.2⟩ : _ ∧ k_ ≠ gb850))) (fun _ hk => hk.2) (.int .i64 ((rd_T71 l0_2 x10_1).f0))) (fun _ hk => hk.2) (.int .i64 ((rd_T71 l0_2 x10_1).f1))) (fun _ hk => hk.2) (.int .i64 ((rd_T71 l0_2 x10_1).f2))) (fun _ hk => hk.2) (.bool ((rd_T71 l0_2 x10_1).f3))) (fun _ hk => hk.1.2))); (case aS => exact (below_size (bl HB.out))); (case aL => have := LMc37.out; omega); intro v852 w49 ho hb hg hat; rw [← Ny851.out] at ho; replace HO_849001 := Aside0.mk (Kd.R_over' (by refine rk ?_; exact (Kd.R_mono (Kd.R_far (p := ⟨gb850, 3, none⟩) (Kd.R_far (p := ⟨gb850, 2, none⟩) (Kd.R_far (p := ⟨gb850, 1, none⟩) (Kd.R_far (p := ⟨gb850, 0, none⟩) (Kd.R_types HO_849001.out BK850.out (by decide)) (fun _ hk => hk.2) (.int .i64 ((rd_T71 l0_2 x10_1).f0))) (fun _ hk => hk.2) (.int .i64 ((rd_T71 l0_2 x10_1).f1))) (fun _ hk => hk.2) (.int .i64 ((rd_T71 l0_2 x10_1).f2))) (fun _ hk => hk.2) (.bool ((rd_T71 l0_2 x10_1).f3))) (fun _ h_ => h_.1))) (Kd.R_typed (by refine rk ?_; exact (Kd.R_mono (Kd.R_far (p := ⟨gb850, 3, none⟩) (Kd.R_far (p := ⟨gb850, 2, none⟩) (Kd.R_far (p := ⟨gb850, 1, none⟩) (Kd.R_far (p := ⟨gb850, 0, none⟩) (Kd.R_mono HO_849002.out (fun k_ hk => (⟨hk, hk.2⟩ : _ ∧ k_ ≠ gb850))) (fun _ hk => hk.2) (.int .i64 ((rd_T71 l0_2 x10_1).f0))) (fun _ hk => hk.2) (.int .i64 ((rd_T71 l0_2 x10_1).f1))) (fun _ hk => hk.2) (.int .i64 ((rd_T71 l0_2 x10_1).f2))) (fun _ hk => hk.2) (.bool ((rd_T71 l0_2 x10_1).f3))) (fun _ h_ => h_.1)))) (by decide) hg); replace BK839 := Aside0.mk (blk_grown (g := gb839) (o := .cells #[.int .i64 a0_0, .slice A0_1 l0_1.length c0_1, .slice (some ad849) l0_2.length c0_2] 30 (0, 0)) (bf BK839.out) hg (Kd.R_ne HO_849002.out BK839.out (by decide))); replace BK840 := Aside0.mk (blk_grown (g := gb840) (o := .cells #[.int .i64 a1_0, .int .i64 a1_1, .int .i64 a1_2] 54 (0, 0)) (bf BK840.out) hg (Kd.R_ne HO_849002.out BK840.out (by decide))); replace BK841 := Aside0.mk (blk_grown (g := gb841) (o := .cells #[.int .i64 0, .slice none 0 0, .slice none 0 0] 30 (0, 0)) (bf BK841.out) hg (Kd.R_ne HO_849002.out BK841.out (by decide))); replace BK848 := Aside0.mk (blk_grown (g := gb848) (o := .cells #[.int .i64 a0_0, .slice Ao16 y845.length co16, u849002] 30 (0, 0)) (bf BK848.out) hg (Kd.R_ne HO_849002.out BK848.out (by decide))); replace BK850 := Aside0.mk (blk_grown (g := gb850) (o := .cells #[.int .i64 ((rd_T71 l0_2 x10_1).f0), .int .i64 ((rd_T71 l0_2 x10_1).f1), .int .i64 ((rd_T71 l0_2 x10_1).f2), .bool ((rd_T71 l0_2 x10_1).f3)] 71 (0, 0)) (by refine bk ?_; refine blk_put (cs := #[.int .i64 ((rd_T71 l0_2 x10_1).f0), .int .i64 ((rd_T71 l0_2 x10_1).f1), .int .i64 ((rd_T71 l0_2 x10_1).f2), .bool false]) ?_ 3 _ rfl; refine bk ?_; refine blk_put (cs := #[.int .i64 ((rd_T71 l0_2 x10_1).f0), .int .i64 ((rd_T71 l0_2 x10_1).f1), .int .i64 0, .bool false]) ?_ 2 _ rfl; refine bk ?_; refine blk_put (cs := #[.int .i64 ((rd_T71 l0_2 x10_1).f0), .int .i64 0, .int .i64 0, .bool false]) ?_ 1 _ rfl; refine bk ?_; refine blk_put (cs := #[.int .i64 0, .int .i64 0, .int .i64 0, .bool false]) ?_ 0 _ rfl; refine bk ?_; exact BK850.out) hg (Kd.R_away HO_849002.out (fun _ hk => hk.2))); replace HB := Aside0.mk (hb); have HO853 := Aside0.mk (ho); clear HO_849002; clear ho hb hg hat; obtain ⟨Ao50, co50, eo50⟩ := Kd.R_slice HO853.out; subst eo50; obtain ⟨hcz51_0, hcz51_1, hcz51_2, hfz51_0, hfz51_1, hfz51_2⟩ := cz3 BK848.out; obtain ⟨hcz52_0, hcz52_1, hcz52_2, hfz52_0, hfz52_1, hfz52_2⟩ := cz3 BK840.out) | ((with_reducible refine gate_builtin (b := .append) (xs := #[.tmp 51, .tmp 61]) rfl ?_); at_builtin; refine Kd.R_append k71 (w0 := w) w.heap.size rfl (.tmp 51) (.tmp 61) 28 71 (.agg #[(.int .i64 0), (.int .i64 0), (.int .i64 0), (.bool false)]) 32 rfl Try.underlying28 info71 rfl (by decide) (by omega) (.slice Ao50 y851.length co50) y851 (⟨wrap64 (a1_1 + a3), wrap64 (a1_2 - a3), 0, false⟩ : S71) [.int .i64 (wrap64 (a1_1 + a3)), .int .i64 (wrap64 (a1_2 - a3)), .int .i64 0, .bool false] (fun k_ => k_ ≠ gb850) (fun _ => False) rfl (by first | (go_simp; done) | (go_simp; rfl)) ?aP (fun _ hk => hk.elim) ?aF ?aO ?aB ?aS ?aL ?_; (case aP => exact k71_mkM _ _ _ (⟨wrap64 (a1_1 + a3), wrap64 (a1_2 - a3), 0, false⟩ : S71)); (case aB => exact (bl HB.out)); (case aF => exact (fun k_ hk => Kd.freshB (g := gb850) (o := .cells #[.int .i64 ((rd_T71 l0_2 x10_1).f0), .int .i64 ((rd_T71 l0_2 x10_1).f1), .int .i64 ((rd_T71 l0_2 x10_1).f2), .bool ((rd_T71 l0_2 x10_1).f3)] 71 (0, 0)) (bf BK850.out) k_ hk)); (case aO => exact (by refine rk ?_; exact Kd.R_mono (Kd.R_far (p := ⟨gb848, 2, none⟩) (Kd.R_types HO853.out BK848.out (by decide)) (fun _ hk => hk.2) (.slice Ao50 y851.length co50)) (fun _ hk => hk.1))); (case aS => exact (below_size (bl HB.out))); (case aL => have := LMc39.out; omega); intro v855 w53 ho hb hg hat; rw [← Ny854.out] at ho; replace HO_849001 := Aside0.mk (Kd.R_over' (by refine rk ?_; exact (Kd.R_mono (Kd.R_far (p := ⟨gb848, 2, none⟩) (Kd.R_types HO_849001.out BK848.out (by decide)) (fun _ hk => hk.2) (.slice Ao50 y851.length co50)) (fun _ h_ => h_.1))) (Kd.R_typed (by refine rk ?_; exact (Kd.R_mono (Kd.R_far (p := ⟨gb848, 2, none⟩) (Kd.R_types HO853.out BK848.out (by decide)) (fun _ hk => hk.2) (.slice Ao50 y851.length co50)) (fun _ h_ => h_.1)))) (by decide) hg); replace BK839 := Aside0.mk (blk_grown (g := gb839) (o := .cells #[.int .i64 a0_0, .slice A0_1 l0_1.length c0_1, .slice (some ad849) l0_2.length c0_2] 30 (0, 0)) (bf BK839.out) hg (Kd.R_ne HO853.out BK839.out (by decide))); replace BK840 := Aside0.mk (blk_grown (g := gb840) (o := .cells #[.int .i64 a1_0, .int .i64 a1_1, .int .i64 a1_2] 54 (0, 0)) (bf BK840.out) hg (Kd.R_ne HO853.out BK840.out (by decide))); replace BK841 := Aside0.mk (blk_grown (g := gb841) (o := .cells #[.int .i64 0, .slice none 0 0, .slice none 0 0] 30 (0, 0)) (bf BK841.out) hg (Kd.R_ne HO853.out BK841.out (by decide))); replace BK848 := Aside0.mk (blk_grown (g := gb848) (o := .cells #[.int .i64 a0_0, .slice Ao16 y845.length co16, .slice Ao50 y851.length co50] 30 (0, 0)) (by refine bk ?_; refine blk_put (cs := #[.int .i64 a0_0, .slice Ao16 y845.length co16, u849002]) ?_ 2 _ rfl; refine bk ?_; exact BK848.out) hg (Kd.R_ne HO853.out BK848.out (by decide))); replace BK850 := Aside0.mk (blk_grown (g := gb850) (o := .cells #[.int .i64 ((rd_T71 l0_2 x10_1).f0), .int .i64 ((rd_T71 l0_2 x10_1).f1), .int .i64 ((rd_T71 l0_2 x10_1).f2), .bool ((rd_T71 l0_2 x10_1).f3)] 71 (0, 0)) (bf BK850.out) hg (Kd.R_away HO853.out (fun _ hk => hk))); replace HB := Aside0.mk (hb); have HO856 := Aside0.mk (ho); clear HO853; clear ho hb hg hat; obtain ⟨Ao54, co54, eo54⟩ := Kd.R_slice HO856.out; subst eo54; obtain ⟨hcz55_0, hcz55_1, hcz55_2, hfz55_0, hfz55_1, hfz55_2⟩ := cz3 BK848.out))
           go_meet
           case rel => exact ⟨_, (y854), (.slice Ao54 y854.length co54), H', ⟨by have := HK1.out; first | omega | exact Nat.le_refl _⟩, ⟨by refine rk ?_; exact Kd.R_mono (Kd.R_far (p := ⟨gb848, 2, none⟩) (Kd.R_types HO_849001.out BK848.out (by decide)) (fun _ hk => hk.2) (.slice Ao54 y854.length co54)) (fun _ hk => trivial)⟩, ⟨by refine rk ?_; exact Kd.R_mono (Kd.R_far (p := ⟨gb848, 2, none⟩) (Kd.R_types HO856.out BK848.out (by decide)) (fun _ hk => hk.2) (.slice Ao54 y854.length co54)) (fun _ hk => hk.1)⟩, ⟨by refine bk ?_; refine blk_far ?_ NB839_848.out _; refine bk ?_; exact BK839.out⟩, ⟨by refine bk ?_; refine blk_far ?_ NB840_848.out _; refine bk ?_; exact BK840.out⟩, ⟨by refine bk ?_; refine blk_far ?_ NB841_848.out _; refine bk ?_; exact BK841.out⟩, ⟨by refine bk ?_; refine blk_put (cs := #[.int .i64 a0_0, .slice Ao16 y845.length co16, .slice Ao50 y851.length co50]) ?_ 2 _ rfl; refine bk ?_; exact BK848.out⟩, ⟨by refine bk ?_; refine blk_far ?_ NB850_848.out _; refine bk ?_; exact BK850.out⟩, ⟨bl HB.out⟩⟩
          ·rw [if_neg c39] at H
           exact absurd H (by simp)
         ·rw [if_neg c38] at H
          have c38b0 : decide (a3 < a1_2) = false := decide_eq_false c38
          clear c38
          have H' := Aside0.mk H
          clear H
          have hnb56 := NB848_839.out
          have hnc56 := NB839_848.out
          have hnb57 := NB848_840.out
          have hnc57 := NB840_848.out
          have hnb58 := NB848_841.out
          have hnc58 := NB841_848.out
          have hnb59 := NB848_850.out
          have hnc59 := NB850_848.out
          obtain ⟨hcz60_0, hcz60_1, hcz60_2, hfz60_0, hfz60_1, hfz60_2⟩ := cz3 BK848.out
          have hnb61 := NB840_839.out
          have hnc61 := NB839_840.out
          have hnb62 := NB840_841.out
          have hnc62 := NB841_840.out
          have hnb63 := NB840_850.out
          have hnc63 := NB850_840.out
          obtain ⟨hcz64_0, hcz64_1, hcz64_2, hfz64_0, hfz64_1, hfz64_2⟩ := cz3 BK840.out
          go_wp2_with (first | ((with_reducible refine gate_builtin (b := .append) (xs := #[.tmp 37, .tmp 43]) rfl ?_); at_builtin; refine Kd.R_append k71 (w0 := w) w.heap.size rfl (.tmp 37) (.tmp 43) 28 71 (.agg #[(.int .i64 0), (.int .i64 0), (.int .i64 0), (.bool false)]) 32 rfl Try.underlying28 info71 rfl (by decide) (by omega) u849002 x849002_1 (⟨a1_1, a3, a2, false⟩ : S71) [.int .i64 a1_1, .int .i64 a3, .int .i64 a2, .bool false] (fun k_ => k_ ≠ gb850) (fun _ => False) rfl (by first | (go_simp; done) | (go_simp; rfl)) ?aP (fun _ hk => hk.elim) ?aF ?aO ?aB ?aS ?aL ?_; (case aP => exact k71_mkM _ _ _ (⟨a1_1, a3, a2, false⟩ : S71)); (case aB => exact (bl HB.out)); (case aF => exact (fun k_ hk => Kd.freshB (g := gb850) (o := .cells #[.int .i64 ((rd_T71 l0_2 x10_1).f0), .int .i64 ((rd_T71 l0_2 x10_1).f1), .int .i64 ((rd_T71 l0_2 x10_1).f2), .bool ((rd_T71 l0_2 x10_1).f3)] 71 (0, 0)) (by refine bk ?_; refine blk_put (cs := #[.int .i64 ((rd_T71 l0_2 x10_1).f0), .int .i64 ((rd_T71 l0_2 x10_1).f1), .int .i64 ((rd_T71 l0_2 x10_1).f2), .bool false]) ?_ 3 _ rfl; refine bk ?_; refine blk_put (cs := #[.int .i64 ((rd_T71 l0_2 x10_1).f0), .int .i64 ((rd_T71 l0_2 x10_1).f1), .int .i64 0, .bool false]) ?_ 2 _ rfl; refine bk ?_; refine blk_put (cs := #[.int .i64 ((rd_T71 l0_2 x10_1).f0), .int .i64 0, .int .i64 0, .bool false]) ?_ 1 _ rfl; refine bk ?_; refine blk_put (cs := #[.int .i64 0, .int .i64 0, .int .i64 0, .bool false]) ?_ 0 _ rfl; refine bk ?_; exact BK850.out) k_ hk)); (case aO => exact (by refine rk ?_; exact Kd.R_mono (Kd.R_far (p := ⟨gb850, 3, none⟩) (Kd.R_far (p := ⟨gb850, 2, none⟩) (Kd.R_far (p := ⟨gb850, 1, none⟩) (Kd.R_far (p := ⟨gb850, 0, none⟩) (Kd.R_mono HO_849002.out (fun k_ hk => (⟨hk, hk.2⟩ : _ ∧ k_ ≠ gb850))) (fun _ hk => hk.2) (.int .i64 ((rd_T71 l0_2 x10_1).f0))) (fun _ hk => hk.2) (.int .i64 ((rd_T71 l0_2 x10_1).f1))) (fun _ hk => hk.2) (.int .i64 ((rd_T71 l0_2 x10_1).f2))) (fun _ hk => hk.2) (.bool ((rd_T71 l0_2 x10_1).f3))) (fun _ hk => hk.1.2))); (case aS => exact (below_size (bl HB.out))); (case aL => have := LMc37.out; omega); intro v852 w65 ho hb hg hat; rw [← Ny851.out] at ho; replace HO_849001 := Aside0.mk (Kd.R_over' (by refine rk ?_; exact (Kd.R_mono (Kd.R_far (p := ⟨gb850, 3, none⟩) (Kd.R_far (p := ⟨gb850, 2, none⟩) (Kd.R_far (p := ⟨gb850, 1, none⟩) (Kd.R_far (p := ⟨gb850, 0, none⟩) (Kd.R_types HO_849001.out BK850.out (by decide)) (fun _ hk => hk.2) (.int .i64 ((rd_T71 l0_2 x10_1).f0))) (fun _ hk => hk.2) (.int .i64 ((rd_T71 l0_2 x10_1).f1))) (fun _ hk => hk.2) (.int .i64 ((rd_T71 l0_2 x10_1).f2))) (fun _ hk => hk.2) (.bool ((rd_T71 l0_2 x10_1).f3))) (fun _ h_ => h_.1))) (Kd.R_typed (by refine rk ?_; exact (Kd.R_mono (Kd.R_far (p := ⟨gb850, 3, none⟩) (Kd.R_far (p := ⟨gb850, 2, none⟩) (Kd.R_far (p := ⟨gb850, 1, none⟩) (Kd.R_far (p := ⟨gb850, 0, none⟩) (Kd.R_mono HO_849002.out (fun k_ hk => (⟨hk, hk.2⟩ : _ ∧ k_ ≠ gb850))) (fun _ hk => hk.2) (.int .i64 ((rd_T71 l0_2 x10_1).f0))) (fun _ hk => hk.2) (.int .i64 ((rd_T71 l0_2 x10_1).f1))) (fun _ hk => hk.2) (.int .i64 ((rd_T71 l0_2 x10_1).f2))) (fun _ hk => hk.2) (.bool ((rd_T71 l0_2 x10_1).f3))) (fun _ h_ => h_.1)))) (by decide) hg); replace BK839 := Aside0.mk (blk_grown (g := gb839) (o := .cells #[.int .i64 a0_0, .slice A0_1 l0_1.length c0_1, .slice (some ad849) l0_2.length c0_2] 30 (0, 0)) (bf BK839.out) hg (Kd.R_ne HO_849002.out BK839.out (by decide))); replace BK840 := Aside0.mk (blk_grown (g := gb840) (o := .cells #[.int .i64 a1_0, .int .i64 a1_1, .int .i64 a1_2] 54 (0, 0)) (bf BK840.out) hg (Kd.R_ne HO_849002.out BK840.out (by decide))); replace BK841 := Aside0.mk (blk_grown (g := gb841) (o := .cells #[.int .i64 0, .slice none 0 0, .slice none 0 0] 30 (0, 0)) (bf BK841.out) hg (Kd.R_ne HO_849002.out BK841.out (by decide))); replace BK848 := Aside0.mk (blk_grown (g := gb848) (o := .cells #[.int .i64 a0_0, .slice Ao16 y845.length co16, u849002] 30 (0, 0)) (bf BK848.out) hg (Kd.R_ne HO_849002.out BK848.out (by decide))); replace BK850 := Aside0.mk (blk_grown (g := gb850) (o := .cells #[.int .i64 ((rd_T71 l0_2 x10_1).f0), .int .i64 ((rd_T71 l0_2 x10_1).f1), .int .i64 ((rd_T71 l0_2 x10_1).f2), .bool ((rd_T71 l0_2 x10_1).f3)] 71 (0, 0)) (by refine bk ?_; refine blk_put (cs := #[.int .i64 ((rd_T71 l0_2 x10_1).f0), .int .i64 ((rd_T71 l0_2 x10_1).f1), .int .i64 ((rd_T71 l0_2 x10_1).f2), .bool false]) ?_ 3 _ rfl; refine bk ?_; refine blk_put (cs := #[.int .i64 ((rd_T71 l0_2 x10_1).f0), .int .i64 ((rd_T71 l0_2 x10_1).f1), .int .i64 0, .bool false]) ?_ 2 _ rfl; refine bk ?_; refine blk_put (cs := #[.int .i64 ((rd_T71 l0_2 x10_1).f0), .int .i64 0, .int .i64 0, .bool false]) ?_ 1 _ rfl; refine bk ?_; refine blk_put (cs := #[.int .i64 0, .int .i64 0, .int .i64 0, .bool false]) ?_ 0 _ rfl; refine bk ?_; exact BK850.out) hg (Kd.R_away HO_849002.out (fun _ hk => hk.2))); replace HB := Aside0.mk (hb); have HO853 := Aside0.mk (ho); clear HO_849002; clear ho hb hg hat; obtain ⟨Ao66, co66, eo66⟩ := Kd.R_slice HO853.out; subst eo66; obtain ⟨hcz67_0, hcz67_1, hcz67_2, hfz67_0, hfz67_1, hfz67_2⟩ := cz3 BK848.out; obtain ⟨hcz68_0, hcz68_1, hcz68_2, hfz68_0, hfz68_1, hfz68_2⟩ := cz3 BK840.out))
          go_meet
          case rel => exact ⟨_, (y851), (.slice Ao66 y851.length co66), H', ⟨by have := HK1.out; first | omega | exact Nat.le_refl _⟩, ⟨by refine rk ?_; exact Kd.R_mono (Kd.R_far (p := ⟨gb848, 2, none⟩) (Kd.R_types HO_849001.out BK848.out (by decide)) (fun _ hk => hk.2) (.slice Ao66 y851.length co66)) (fun _ hk => trivial)⟩, ⟨by refine rk ?_; exact Kd.R_mono (Kd.R_far (p := ⟨gb848, 2, none⟩) (Kd.R_types HO853.out BK848.out (by decide)) (fun _ hk => hk.2) (.slice Ao66 y851.length co66)) (fun _ hk => hk.1)⟩, ⟨by refine bk ?_; refine blk_far ?_ NB839_848.out _; refine bk ?_; exact BK839.out⟩, ⟨by refine bk ?_; refine blk_far ?_ NB840_848.out _; refine bk ?_; exact BK840.out⟩, ⟨by refine bk ?_; refine blk_far ?_ NB841_848.out _; refine bk ?_; exact BK841.out⟩, ⟨by refine bk ?_; refine blk_put (cs := #[.int .i64 a0_0, .slice Ao16 y845.length co16, u849002]) ?_ 2 _ rfl; refine bk ?_; exact BK848.out⟩, ⟨by refine bk ?_; refine blk_far ?_ NB850_848.out _; refine bk ?_; exact BK850.out⟩, ⟨bl HB.out⟩⟩
        ·rw [if_neg c37] at H
         exact absurd H (by simp)
       ·rw [if_neg c36] at H
        have c36b0 : (((rd_T71 l0_2 x10_1).f0) == a1_1) = false := beq_eq_false_iff_ne.mpr c36
        have c36b1 : (((rd_T71 l0_2 x10_1).f0) != a1_1) = true := bne_iff_ne.mpr c36
        (first | rw [c36b0] | (simp only [i64_w, i32_w]; rw [c36b0]) | skip)
        have H' := Aside0.mk H
        clear H
        go_wp2
        go_meet
        case rel => exact ⟨_, (x849002_1), (u849002), H', ⟨by have := HK1.out; first | omega | exact Nat.le_refl _⟩, ⟨by refine rk ?_; exact Kd.R_mono (Kd.R_far (p := ⟨gb850, 3, none⟩) (Kd.R_far (p := ⟨gb850, 2, none⟩) (Kd.R_far (p := ⟨gb850, 1, none⟩) (Kd.R_far (p := ⟨gb850, 0, none⟩) (Kd.R_types HO_849001.out BK850.out (by decide)) (fun _ hk => hk.2) (.int .i64 ((rd_T71 l0_2 x10_1).f0))) (fun _ hk => hk.2) (.int .i64 ((rd_T71 l0_2 x10_1).f1))) (fun _ hk => hk.2) (.int .i64 ((rd_T71 l0_2 x10_1).f2))) (fun _ hk => hk.2) (.bool ((rd_T71 l0_2 x10_1).f3))) (fun _ hk => trivial)⟩, ⟨by refine rk ?_; exact Kd.R_mono (Kd.R_far (p := ⟨gb850, 3, none⟩) (Kd.R_far (p := ⟨gb850, 2, none⟩) (Kd.R_far (p := ⟨gb850, 1, none⟩) (Kd.R_far (p := ⟨gb850, 0, none⟩) (Kd.R_mono HO_849002.out (fun k_ hk => (⟨hk, hk.2⟩ : _ ∧ k_ ≠ gb850))) (fun _ hk => hk.2) (.int .i64 ((rd_T71 l0_2 x10_1).f0))) (fun _ hk => hk.2) (.int .i64 ((rd_T71 l0_2 x10_1).f1))) (fun _ hk => hk.2) (.int .i64 ((rd_T71 l0_2 x10_1).f2))) (fun _ hk => hk.2) (.bool ((rd_T71 l0_2 x10_1).f3))) (fun _ hk => hk.1.2)⟩, ⟨by refine bk ?_; refine blk_far ?_ NB839_850.out _; refine bk ?_; refine blk_far ?_ NB839_850.out _; refine bk ?_; refine blk_far ?_ NB839_850.out _; refine bk ?_; refine blk_far ?_ NB839_850.out _; refine bk ?_; exact BK839.out⟩, ⟨by refine bk ?_; refine blk_far ?_ NB840_850.out _; refine bk ?_; refine blk_far ?_ NB840_850.out _; refine bk ?_; refine blk_far ?_ NB840_850.out _; refine bk ?_; refine blk_far ?_ NB840_850.out _; refine bk ?_; exact BK840.out⟩, ⟨by refine bk ?_; refine blk_far ?_ NB841_850.out _; refine bk ?_; refine blk_far ?_ NB841_850.out _; refine bk ?_; refine blk_far ?_ NB841_850.out _; refine bk ?_; refine blk_far ?_ NB841_850.out _; refine bk ?_; exact BK841.out⟩, ⟨by refine bk ?_; refine blk_far ?_ NB848_850.out _; refine bk ?_; refine blk_far ?_ NB848_850.out _; refine bk ?_; refine blk_far ?_ NB848_850.out _; refine bk ?_; refine blk_far ?_ NB848_850.out _; refine bk ?_; exact BK848.out⟩, ⟨by refine bk ?_; refine blk_put (cs := #[.int .i64 ((rd_T71 l0_2 x10_1).f0), .int .i64 ((rd_T71 l0_2 x10_1).f1), .int .i64 ((rd_T71 l0_2 x10_1).f2), .bool false]) ?_ 3 _ rfl; refine bk ?_; refine blk_put (cs := #[.int .i64 ((rd_T71 l0_2 x10_1).f0), .int .i64 ((rd_T71 l0_2 x10_1).f1), .int .i64 0, .bool false]) ?_ 2 _ rfl; refine bk ?_; refine blk_put (cs := #[.int .i64 ((rd_T71 l0_2 x10_1).f0), .int .i64 0, .int .i64 0, .bool false]) ?_ 1 _ rfl; refine bk ?_; refine blk_put (cs := #[.int .i64 0, .int .i64 0, .int .i64 0, .bool false]) ?_ 0 _ rfl; refine bk ?_; exact BK850.out⟩, ⟨bl HB.out⟩⟩
      case rest =>
       clear HC22
       try clear c2
       try clear p2
       try clear c3
       try clear c4
       try clear c5
       try clear c6
       try clear p6
       try clear c8
       try clear p8
       try clear q8
       try clear hx8
       try clear c20
       try clear c20b0
       try clear c21
       try clear c21b0
       try clear c23
       try clear c24
       try clear c25
       try clear c28
       try clear c29
       try clear c30
       try clear c31
       try clear c33
       try clear c34
       try clear c36
       try clear c36b0
       try clear c36b1
       try clear c37
       try clear c38
       try clear c38b0
       try clear c39
       try clear c40
       try clear c41
       try clear c42
       try clear c43
       try clear c45
       try clear c46
       try clear c47
       try clear c56
       try clear c57
       try clear c58
       try clear c59
       try clear c61
       try clear c62
       try clear c63
       try clear p64
       try clear hcz26_0
       try clear hcz26_1
       try clear hcz26_2
       try clear hcz32_0
       try clear hcz32_1
       try clear hcz32_2
       try clear hcz32_3
       try clear hcz35_0
       try clear hcz35_1
       try clear hcz35_2
       try clear hcz44_0
       try clear hcz44_1
       try clear hcz44_2
       try clear hcz48_0
       try clear hcz48_1
       try clear hcz48_2
       try clear hcz51_0
       try clear hcz51_1
       try clear hcz51_2
       try clear hcz52_0
       try clear hcz52_1
       try clear hcz52_2
       try clear hcz55_0
       try clear hcz55_1
       try clear hcz55_2
       try clear hcz60_0
       try clear hcz60_1
       try clear hcz60_2
       try clear hcz64_0
       try clear hcz64_1
       try clear hcz64_2
       try clear hcz67_0
       try clear hcz67_1
       try clear hcz67_2
       try clear hcz68_0
       try clear hcz68_1
       try clear hcz68_2
       try clear hfz26_0
       try clear hfz26_1
       try clear hfz26_2
       try clear hfz32_0
       try clear hfz32_1
       try clear hfz32_2
       try clear hfz32_3
       try clear hfz35_0
       try clear hfz35_1
       try clear hfz35_2
       try clear hfz44_0
       try clear hfz44_1
       try clear hfz44_2
       try clear hfz48_0
       try clear hfz48_1
       try clear hfz48_2
       try clear hfz51_0
       try clear hfz51_1
       try clear hfz51_2
       try clear hfz52_0
       try clear hfz52_1
       try clear hfz52_2
       try clear hfz55_0
       try clear hfz55_1
       try clear hfz55_2
       try clear hfz60_0
       try clear hfz60_1
       try clear hfz60_2
       try clear hfz64_0
       try clear hfz64_1
       try clear hfz64_2
       try clear hfz67_0
       try clear hfz67_1
       try clear hfz67_2
       try clear hfz68_0
       try clear hfz68_1
       try clear hfz68_2
       try clear hx849_0
       try clear hx849_1
       try clear hx849_2
       try clear hx849_3
       try clear p2
       try clear p849
       try clear q849
       obtain ⟨kq, x849002_21, u849002, HA, HJ21, HO_849001, HO_849002, BK839, BK840, BK841, BK848, BK850, HB⟩ := hcut
       cases kq with
       | zero => exact absurd HA.out (by simp [spec_l02Fill.j1])
       | succ kj21 =>
        have H := HA.out
        clear HA
        simp only [spec_l02Fill.j1] at H
        by_cases c69 : ((rd_T71 l0_2 x10_1).f0) < a1_1
        ·rw [if_pos c69] at H
         have c69b0 : decide (((rd_T71 l0_2 x10_1).f0) < a1_1) = true := decide_eq_true c69
         clear c69
         by_cases c70 : x849002_21.length < 4398046511104
         ·rw [if_pos c70] at H
          have LMc70 := Aside0.mk c70
          clear c70
          obtain ⟨y857, hy857⟩ : ∃ y_ : List (S71), y_ = (x849002_21 ++ [(⟨((rd_T71 l0_2 x10_1).f0), ((rd_T71 l0_2 x10_1).f1), ((rd_T71 l0_2 x10_1).f2), ((rd_T71 l0_2 x10_1).f3)⟩ : S71)]) := ⟨_, rfl⟩
          replace H : (spec_l02Fill.l0 kj21 a2 a3 (wrap64 (x10_1 + 1)) a0_0 l0_1 l0_2 a1_0 a1_1 a1_2 a0_0 y845 y857) = some (r1, r2, r3) := by first | (rw [hy857]; with_reducible exact H) | (have H2_ := (Option.bind_some _ _).symm.trans H; rw [hy857]; with_reducible exact H2_) | (have H2_ := (Option.bind_some _ _).symm.trans H; with_reducible exact H2_) | with_reducible exact H | (rw [hy857]; exact H) | exact H
          have Ny857 := Aside0.mk hy857
          clear hy857
          have H' := Aside0.mk H
          clear H
          have hnb71 := NB850_839.out
          have hnc71 := NB839_850.out
          have hnb72 := NB850_840.out
          have hnc72 := NB840_850.out
          have hnb73 := NB850_841.out
          have hnc73 := NB841_850.out
          have hnb74 := NB850_848.out
          have hnc74 := NB848_850.out
          obtain ⟨hcz75_0, hcz75_1, hcz75_2, hcz75_3, hfz75_0, hfz75_1, hfz75_2, hfz75_3⟩ := cz4 BK850.out
          have hnb76 := NB840_839.out
          have hnc76 := NB839_840.out
          have hnb77 := NB840_841.out
          have hnc77 := NB841_840.out
          have hnb78 := NB840_848.out
          have hnc78 := NB848_840.out
          obtain ⟨hcz79_0, hcz79_1, hcz79_2, hfz79_0, hfz79_1, hfz79_2⟩ := cz3 BK840.out
          have hnb80 := NB848_839.out
          have hnc80 := NB839_848.out
          have hnb81 := NB848_841.out
          have hnc81 := NB841_848.out
          obtain ⟨hcz82_0, hcz82_1, hcz82_2, hfz82_0, hfz82_1, hfz82_2⟩ := cz3 BK848.out
          go_wp2_with (first | ((with_reducible refine gate_builtin (b := .append) (xs := #[.tmp 80, .tmp 82]) rfl ?_); at_builtin; refine Kd.R_append k71 (w0 := w) w.heap.size rfl (.tmp 80) (.tmp 82) 28 71 (.agg #[(.int .i64 0), (.int .i64 0), (.int .i64 0), (.bool false)]) 32 rfl Try.underlying28 info71 rfl (by decide) (by omega) u849002 x849002_21 (⟨((rd_T71 l0_2 x10_1).f0), ((rd_T71 l0_2 x10_1).f1), ((rd_T71 l0_2 x10_1).f2), ((rd_T71 l0_2 x10_1).f3)⟩ : S71) [.int .i64 ((rd_T71 l0_2 x10_1).f0), .int .i64 ((rd_T71 l0_2 x10_1).f1), .int .i64 ((rd_T71 l0_2 x10_1).f2), .bool ((rd_T71 l0_2 x10_1).f3)] (fun k_ => k_ ≠ gb850) (fun _ => False) rfl rfl ?aP (fun _ hk => hk.elim) ?aF ?aO ?aB ?aS ?aL ?_; (case aP => exact k71_mkM _ _ _ (⟨((rd_T71 l0_2 x10_1).f0), ((rd_T71 l0_2 x10_1).f1), ((rd_T71 l0_2 x10_1).f2), ((rd_T71 l0_2 x10_1).f3)⟩ : S71)); (case aB => exact (bl HB.out)); (case aF => exact (fun k_ hk => Kd.freshB (g := gb850) (o := .cells #[.int .i64 ((rd_T71 l0_2 x10_1).f0), .int .i64 ((rd_T71 l0_2 x10_1).f1), .int .i64 ((rd_T71 l0_2 x10_1).f2), .bool ((rd_T71 l0_2 x10_1).f3)] 71 (0, 0)) (bk BK850.out) k_ hk)); (case aO => exact (rk HO_849002.out)); (case aS => exact (below_size (bl HB.out))); (case aL => have := LMc70.out; omega); intro v858 w83 ho hb hg hat; rw [← Ny857.out] at ho; replace HO_849001 := Aside0.mk (Kd.R_over' (rk HO_849001.out) (Kd.R_typed (rk HO_849002.out)) (by decide) hg); replace BK839 := Aside0.mk (blk_grown (g := gb839) (o := .cells #[.int .i64 a0_0, .slice A0_1 l0_1.length c0_1, .slice (some ad849) l0_2.length c0_2] 30 (0, 0)) (bk BK839.out) hg (Kd.R_ne HO_849002.out BK839.out (by decide))); replace BK840 := Aside0.mk (blk_grown (g := gb840) (o := .cells #[.int .i64 a1_0, .int .i64 a1_1, .int .i64 a1_2] 54 (0, 0)) (bk BK840.out) hg (Kd.R_ne HO_849002.out BK840.out (by decide))); replace BK841 := Aside0.mk (blk_grown (g := gb841) (o := .cells #[.int .i64 0, .slice none 0 0, .slice none 0 0] 30 (0, 0)) (bk BK841.out) hg (Kd.R_ne HO_849002.out BK841.out (by decide))); replace BK848 := Aside0.mk (blk_grown (g := gb848) (o := .cells #[.int .i64 a0_0, .slice Ao16 y845.length co16, u849002] 30 (0, 0)) (bk BK848.out) hg (Kd.R_ne HO_849002.out BK848.out (by decide))); replace BK850 := Aside0.mk (blk_grown (g := gb850) (o := .cells #[.int .i64 ((rd_T71 l0_2 x10_1).f0), .int .i64 ((rd_T71 l0_2 x10_1).f1), .int .i64 ((rd_T71 l0_2 x10_1).f2), .bool ((rd_T71 l0_2 x10_1).f3)] 71 (0, 0)) (bk BK850.out) hg (Kd.R_away HO_849002.out (fun _ hk => hk))); replace HB := Aside0.mk (hb); have HO859 := Aside0.mk (ho); clear HO_849002; clear ho hb hg hat; obtain ⟨Ao84, co84, eo84⟩ := Kd.R_slice HO859.out; subst eo84; obtain ⟨hcz85_0, hcz85_1, hcz85_2, hfz85_0, hfz85_1, hfz85_2⟩ := cz3 BK848.out))
          go_roundg kj21
          case measure => have := HK1.out; have := HJ21.out; omega
          case rel => exact ⟨(wrap64 (x10_1 + 1)), (y857), (.slice Ao84 y857.length co84), (by first | rfl | (simp; done) | (simp [*]; done)), H', ⟨by have := HK1.out; have := HJ21.out; omega⟩, ⟨by refine rk ?_; exact Kd.R_mono (Kd.R_far (p := ⟨gb848, 2, none⟩) (Kd.R_types HO_849001.out BK848.out (by decide)) (fun _ hk => hk.2) (.slice Ao84 y857.length co84)) (fun _ hk => trivial)⟩, ⟨by refine rk ?_; exact Kd.R_mono (Kd.R_far (p := ⟨gb848, 2, none⟩) (Kd.R_types HO859.out BK848.out (by decide)) (fun _ hk => hk.2) (.slice Ao84 y857.length co84)) (fun _ hk => trivial)⟩, ⟨by refine bk ?_; refine blk_far ?_ NB839_848.out _; refine bk ?_; exact BK839.out⟩, ⟨by refine bk ?_; refine blk_far ?_ NB840_848.out _; refine bk ?_; exact BK840.out⟩, ⟨by refine bk ?_; refine blk_far ?_ NB841_848.out _; refine bk ?_; exact BK841.out⟩, ⟨by refine bk ?_; refine blk_put (cs := #[.int .i64 a0_0, .slice Ao16 y845.length co16, u849002]) ?_ 2 _ rfl; refine bk ?_; exact BK848.out⟩, ⟨bl HB.out⟩⟩
         ·rw [if_neg c70] at H
          exact absurd H (by simp)
        ·rw [if_neg c69] at H
         have c69b0 : decide (((rd_T71 l0_2 x10_1).f0) < a1_1) = false := decide_eq_false c69
         clear c69
         by_cases c86 : ((rd_T71 l0_2 x10_1).f0) ≥ (wrap64 (a1_1 + a1_2))
         ·rw [if_pos c86] at H
          have c86b0 : decide ((wrap64 (a1_1 + a1_2)) ≤ ((rd_T71 l0_2 x10_1).f0)) = true := decide_eq_true c86
          clear c86
          by_cases c87 : x849002_21.length < 4398046511104
          ·rw [if_pos c87] at H
           have LMc87 := Aside0.mk c87
           clear c87
           obtain ⟨y860, hy860⟩ : ∃ y_ : List (S71), y_ = (x849002_21 ++ [(⟨((rd_T71 l0_2 x10_1).f0), ((rd_T71 l0_2 x10_1).f1), ((rd_T71 l0_2 x10_1).f2), ((rd_T71 l0_2 x10_1).f3)⟩ : S71)]) := ⟨_, rfl⟩
           replace H : (spec_l02Fill.l0 kj21 a2 a3 (wrap64 (x10_1 + 1)) a0_0 l0_1 l0_2 a1_0 a1_1 a1_2 a0_0 y845 y860) = some (r1, r2, r3) := by first | (rw [hy860]; with_reducible exact H) | (have H2_ := (Option.bind_some _ _).symm.trans H; rw [hy860]; with_reducible exact H2_) | (have H2_ := (Option.bind_some _ _).symm.trans H; with_reducible exact H2_) | with_reducible exact H | (rw [hy860]; exact H) | exact H
           have Ny860 := Aside0.mk hy860
           clear hy860
           have H' := Aside0.mk H
           clear H
           have hnb88 := NB850_839.out
           have hnc88 := NB839_850.out
           have hnb89 := NB850_840.out
           have hnc89 := NB840_850.out
           have hnb90 := NB850_841.out
           have hnc90 := NB841_850.out
           have hnb91 := NB850_848.out
           have hnc91 := NB848_850.out
           obtain ⟨hcz92_0, hcz92_1, hcz92_2, hcz92_3, hfz92_0, hfz92_1, hfz92_2, hfz92_3⟩ := cz4 BK850.out
           have hnb93 := NB840_839.out
           have hnc93 := NB839_840.out
           have hnb94 := NB840_841.out
           have hnc94 := NB841_840.out
           have hnb95 := NB840_848.out
           have hnc95 := NB848_840.out
           obtain ⟨hcz96_0, hcz96_1, hcz96_2, hfz96_0, hfz96_1, hfz96_2⟩ := cz3 BK840.out
           have hnb97 := NB848_839.out
           have hnc97 := NB839_848.out
           have hnb98 := NB848_841.out
           have hnc98 := NB841_848.out
           obtain ⟨hcz99_0, hcz99_1, hcz99_2, hfz99_0, hfz99_1, hfz99_2⟩ := cz3 BK848.out
           go_wp2_with (first | ((with_reducible refine gate_builtin (b := .append) (xs := #[.tmp 80, .tmp 82]) rfl ?_); at_builtin; refine Kd.R_append k71 (w0 := w) w.heap.size rfl (.tmp 80) (.tmp 82) 28 71 (.agg #[(.int .i64 0), (.int .i64 0), (.int .i64 0), (.bool false)]) 32 rfl Try.underlying28 info71 rfl (by decide) (by omega) u849002 x849002_21 (⟨((rd_T71 l0_2 x10_1).f0), ((rd_T71 l0_2 x10_1).f1), ((rd_T71 l0_2 x10_1).f2), ((rd_T71 l0_2 x10_1).f3)⟩ : S71) [.int .i64 ((rd_T71 l0_2 x10_1).f0), .int .i64 ((rd_T71 l0_2 x10_1).f1), .int .i64 ((rd_T71 l0_2 x10_1).f2), .bool ((rd_T71 l0_2 x10_1).f3)] (fun k_ => k_ ≠ gb850) (fun _ => False) rfl rfl ?aP (fun _ hk => hk.elim) ?aF ?aO ?aB ?aS ?aL ?_; (case aP => exact k71_mkM _ _ _ (⟨((rd_T71 l0_2 x10_1).f0), ((rd_T71 l0_2 x10_1).f1), ((rd_T71 l0_2 x10_1).f2), ((rd_T71 l0_2 x10_1).f3)⟩ : S71)); (case aB => exact (bl HB.out)); (case aF => exact (fun k_ hk => Kd.freshB (g := gb850) (o := .cells #[.int .i64 ((rd_T71 l0_2 x10_1).f0), .int .i64 ((rd_T71 l0_2 x10_1).f1), .int .i64 ((rd_T71 l0_2 x10_1).f2), .bool ((rd_T71 l0_2 x10_1).f3)] 71 (0, 0)) (bk BK850.out) k_ hk)); (case aO => exact (rk HO_849002.out)); (case aS => exact (below_size (bl HB.out))); (case aL => have := LMc87.out; omega); intro v861 w100 ho hb hg hat; rw [← Ny860.out] at ho; replace HO_849001 := Aside0.mk (Kd.R_over' (rk HO_849001.out) (Kd.R_typed (rk HO_849002.out)) (by decide) hg); replace BK839 := Aside0.mk (blk_grown (g := gb839) (o := .cells #[.int .i64 a0_0, .slice A0_1 l0_1.length c0_1, .slice (some ad849) l0_2.length c0_2] 30 (0, 0)) (bk BK839.out) hg (Kd.R_ne HO_849002.out BK839.out (by decide))); replace BK840 := Aside0.mk (blk_grown (g := gb840) (o := .cells #[.int .i64 a1_0, .int .i64 a1_1, .int .i64 a1_2] 54 (0, 0)) (bk BK840.out) hg (Kd.R_ne HO_849002.out BK840.out (by decide))); replace BK841 := Aside0.mk (blk_grown (g := gb841) (o := .cells #[.int .i64 0, .slice none 0 0, .slice none 0 0] 30 (0, 0)) (bk BK841.out) hg (Kd.R_ne HO_849002.out BK841.out (by decide))); replace BK848 := Aside0.mk (blk_grown (g := gb848) (o := .cells #[.int .i64 a0_0, .slice Ao16 y845.length co16, u849002] 30 (0, 0)) (bk BK848.out) hg (Kd.R_ne HO_849002.out BK848.out (by decide))); replace BK850 := Aside0.mk (blk_grown (g := gb850) (o := .cells #[.int .i64 ((rd_T71 l0_2 x10_1).f0), .int .i64 ((rd_T71 l0_2 x10_1).f1), .int .i64 ((rd_T71 l0_2 x10_1).f2), .bool ((rd_T71 l0_2 x10_1).f3)] 71 (0, 0)) (bk BK850.out) hg (Kd.R_away HO_849002.out (fun _ hk => hk))); replace HB := Aside0.mk (hb); have HO862 := Aside0.mk (ho); clear HO_849002; clear ho hb hg hat; obtain ⟨Ao101, co101, eo101⟩ := Kd.R_slice HO862.out; subst eo101; obtain ⟨hcz102_0, hcz102_1, hcz102_2, hfz102_0, hfz102_1, hfz102_2⟩ := cz3 BK848.out))
           go_roundg kj21
           case measure => have := HK1.out; have := HJ21.out; omega
           case rel => exact ⟨(wrap64 (x10_1 + 1)), (y860), (.slice Ao101 y860.length co101), (by first | rfl | (simp; done) | (simp [*]; done)), H', ⟨by have := HK1.out; have := HJ21.out; omega⟩, ⟨by refine rk ?_; exact Kd.R_mono (Kd.R_far (p := ⟨gb848, 2, none⟩) (Kd.R_types HO_849001.out BK848.out (by decide)) (fun _ hk => hk.2) (.slice Ao101 y860.length co101)) (fun _ hk => trivial)⟩, ⟨by refine rk ?_; exact Kd.R_mono (Kd.R_far (p := ⟨gb848, 2, none⟩) (Kd.R_types HO862.out BK848.out (by decide)) (fun _ hk => hk.2) (.slice Ao101 y860.length co101)) (fun _ hk => trivial)⟩, ⟨by refine bk ?_; refine blk_far ?_ NB839_848.out _; refine bk ?_; exact BK839.out⟩, ⟨by refine bk ?_; refine blk_far ?_ NB840_848.out _; refine bk ?_; exact BK840.out⟩, ⟨by refine bk ?_; refine blk_far ?_ NB841_848.out _; refine bk ?_; exact BK841.out⟩, ⟨by refine bk ?_; refine blk_put (cs := #[.int .i64 a0_0, .slice Ao16 y845.length co16, u849002]) ?_ 2 _ rfl; refine bk ?_; exact BK848.out⟩, ⟨bl HB.out⟩⟩
          ·rw [if_neg c87] at H
           exact absurd H (by simp)
         ·rw [if_neg c86] at H
          have c86b0 : decide ((wrap64 (a1_1 + a1_2)) ≤ ((rd_T71 l0_2 x10_1).f0)) = false := decide_eq_false c86
          clear c86
          have H' := Aside0.mk H
          clear H
          have hnb103 := NB850_839.out
          have hnc103 := NB839_850.out
          have hnb104 := NB850_840.out
          have hnc104 := NB840_850.out
          have hnb105 := NB850_841.out
          have hnc105 := NB841_850.out
          have hnb106 := NB850_848.out
          have hnc106 := NB848_850.out
          obtain ⟨hcz107_0, hcz107_1, hcz107_2, hcz107_3, hfz107_0, hfz107_1, hfz107_2, hfz107_3⟩ := cz4 BK850.out
          have hnb108 := NB840_839.out
          have hnc108 := NB839_840.out
          have hnb109 := NB840_841.out
          have hnc109 := NB841_840.out
          have hnb110 := NB840_848.out
          have hnc110 := NB848_840.out
          obtain ⟨hcz111_0, hcz111_1, hcz111_2, hfz111_0, hfz111_1, hfz111_2⟩ := cz3 BK840.out
          go_wp2
          go_roundg kj21
          case measure => have := HK1.out; have := HJ21.out; omega
          case rel => exact ⟨(wrap64 (x10_1 + 1)), (x849002_21), (u849002), (by first | rfl | (simp; done) | (simp [*]; done)), H', ⟨by have := HK1.out; have := HJ21.out; omega⟩, ⟨rk HO_849001.out⟩, ⟨by refine rk ?_; exact Kd.R_mono HO_849002.out (fun _ hk => trivial)⟩, ⟨by refine bk ?_; exact BK839.out⟩, ⟨by refine bk ?_; exact BK840.out⟩, ⟨by refine bk ?_; exact BK841.out⟩, ⟨by refine bk ?_; exact BK848.out⟩, ⟨bl HB.out⟩⟩
     ·rw [if_neg c21] at H
      exact absurd H (by simp)
    ·rw [if_neg c20] at H
     have c20b0 : decide (x10_1 < (l0_2.length : Int)) = false := decide_eq_false c20
     clear c20
     simp only [Option.some.injEq, Prod.mk.injEq] at H
     obtain ⟨rfl, rfl, rfl⟩ := H
     have hnb112 := NB839_840.out
     have hnc112 := NB840_839.out
     have hnb113 := NB839_841.out
     have hnc113 := NB841_839.out
     have hnb114 := NB839_848.out
     have hnc114 := NB848_839.out
     obtain ⟨hcz115_0, hcz115_1, hcz115_2, hfz115_0, hfz115_1, hfz115_2⟩ := cz3 BK839.out
     have hnb116 := NB848_840.out
     have hnc116 := NB840_848.out
     have hnb117 := NB848_841.out
     have hnc117 := NB841_848.out
     obtain ⟨hcz118_0, hcz118_1, hcz118_2, hfz118_0, hfz118_1, hfz118_2⟩ := cz3 BK848.out
     have hnb119 := NB841_840.out
     have hnc119 := NB840_841.out
     obtain ⟨hcz120_0, hcz120_1, hcz120_2, hfz120_0, hfz120_1, hfz120_2⟩ := cz3 BK841.out
     obtain ⟨Ao121, co121, eo121⟩ := Kd.R_slice HO_849002.out
     subst eo121
     go_wp2
     refine bodyPost_ret (results_cell_row rfl _ _ gb841 30 #[.int .i64 a0_0, .slice Ao16 y845.length co16, .slice Ao121 x849002_1.length co121] (0, 0) _ rfl (by refine bk ?_; refine blk_put (cs := #[.int .i64 a0_0, .slice Ao16 y845.length co16, .slice none 0 0]) ?_ 2 _ rfl; refine bk ?_; refine blk_put (cs := #[.int .i64 a0_0, .slice none 0 0, .slice none 0 0]) ?_ 1 _ rfl; refine bk ?_; refine blk_put (cs := #[.int .i64 0, .slice none 0 0, .slice none 0 0]) ?_ 0 _ rfl; refine bk ?_; exact BK841.out) Try.underlying30 rfl (by kernel_rfl)) rfl ?_
     exact ⟨_, _, by first | rfl | (simp [errW_none, errW_some] <;> rfl) | (simp [*, errW_none, errW_some] <;> rfl), by refine rk ?_; exact Kd.R_mono (Kd.R_far (p := ⟨gb841, 2, none⟩) (Kd.R_far (p := ⟨gb841, 1, none⟩) (Kd.R_far (p := ⟨gb841, 0, none⟩) (Kd.R_types HO_849001.out BK841.out (by decide)) (fun _ hk => hk.2) (.int .i64 a0_0)) (fun _ hk => hk.2) (.slice Ao16 y845.length co16)) (fun _ hk => hk.2) (.slice Ao121 x849002_1.length co121)) (fun _ hk => trivial), by refine rk ?_; exact Kd.R_mono (Kd.R_far (p := ⟨gb841, 2, none⟩) (Kd.R_far (p := ⟨gb841, 1, none⟩) (Kd.R_far (p := ⟨gb841, 0, none⟩) (Kd.R_types HO_849002.out BK841.out (by decide)) (fun _ hk => hk.2) (.int .i64 a0_0)) (fun _ hk => hk.2) (.slice Ao16 y845.length co16)) (fun _ hk => hk.2) (.slice Ao121 x849002_1.length co121)) (fun _ hk => trivial), bl HB.out⟩
 ·rw [if_neg c5] at H
  exact absurd H (by simp)
end Go.Proofs.Ytghfeapncmlihaa.A

namespace Go.Proofs.Ytghfeapncmlihaa.A
open Go.RowKit Go.Proofs.YtghfeapncmlihaaW.PrintWords Go.Proofs.YtghfeapncmlihaaW.PrintLast Go.Proofs.YtghfeapncmlihaaW.PrintMore
attribute [local go_sem] max2_int min2_int max_two min_two max_three min_three max_four min_four   
set_option linter.unusedVariables false
set_option linter.unusedSimpArgs false
def spec_Cleared.l0 : Nat → List (S54) → Int → Int → List Int → List (S71) → Option (Int × List Int × (List (S71)))
 | 0, _, _, _, _, _ => none
 | k + 1, x4, x5, x873000, x873001, x873002 => if x5 < (x4.length : Int) then (if 0 ≤ x5 then ((spec_l02Fill.f k x873000 x873001 x873002 ((rd_T54 x4 x5).f0) ((rd_T54 x4 x5).f1) ((rd_T54 x4 x5).f2) 0 ((rd_T54 x4 x5).f2)).bind fun bt878 => (spec_Cleared.l0 k x4 (wrap64 (x5 + 1)) bt878.1 bt878.2.1 bt878.2.2)) else (none)) else (some (x873000, x873001, x873002))
def spec_Cleared.f (k : Nat) (a0_0 : Int) (l0_1 : List Int) (l0_2 : List (S71)) : Option (Int × List Int × (List (S71))) := (spec_l02Copy.f a0_0 l0_1 l0_2).bind fun bt865 => ((spec_GapsOf.f k a0_0 l0_1 l0_2).bind fun t873 => (spec_Cleared.l0 k t873 0 bt865.1 bt865.2.1 bt865.2.2))
def spec_Cleared.T6 : Bool × List (List Nat × List Nat) := (true, [([], []), ([], []), ([], []), ([1, 2], [1, 2]), ([3], [3]), ([], []), ([], []), ([5, 6], [5, 6]), ([7], [7]), ([8], [8]), ([0, 4, 9], [0, 4, 9]), ([10, 10, 0, 1, 2, 3, 4, 5, 6, 7, 8, 9, 10], [10])])
def spec_Cleared.B6 : List Nat := [0, 0, 0, 6, 14, 0, 0, 96, 224, 480, 1023, 2047]
theorem spec_Cleared.tab6 : rtab .any (opsOf Try.f50 6) = spec_Cleared.T6 := by kernel_rfl
theorem spec_Cleared.bits6 : waitsOk spec_Cleared.T6.2 spec_Cleared.B6 = true := by kernel_rfl
set_option maxHeartbeats 8000000 in
set_option maxRecDepth 100000 in
theorem spec_Cleared.calls (k : Nat) (a0_0 : Int) (A0_1 : Option Addr) (c0_1 : Nat) (l0_1 : List Int) (A0_2 : Option Addr) (c0_2 : Nat) (l0_2 : List (S71)) (r1 : Int) (r2 : List Int) (r3 : List (S71)) (w : World) (hr0_1 : Kd.C (Kd.int .i64) w A0_1 l0_1.length l0_1) (hc0_1 : l0_1.length ≤ c0_1) (hr0_2 : Kd.C k71 w A0_2 l0_2.length l0_2) (hc0_2 : l0_2.length ≤ c0_2) (h : spec_Cleared.f k a0_0 l0_1 l0_2 = some (r1, r2, r3)) :
  Calls Try.prog 50 #[.agg #[.int .i64 a0_0, .slice A0_1 l0_1.length c0_1, .slice A0_2 l0_2.length c0_2]] w fun e w' => ∃ v1_ v2_ : Value, e = .returned (.agg #[.int .i64 r1, v1_, v2_]) ∧ Kd.R (Kd.int .i64) 3 w' w.heap.size (fun _ => True) v1_ r2 ∧ Kd.R k71 71 w' w.heap.size (fun _ => True) v2_ r3 ∧ Below w.heap.size w w' := by
 have hu30 := Try.underlying30
 have hu54 := Try.underlying54
 have HR0_1 := Aside0.mk hr0_1
 have HC0_1 := Aside0.mk hc0_1
 clear hr0_1 hc0_1
 have HR0_2 := Aside0.mk hr0_2
 have HC0_2 := Aside0.mk hc0_2
 clear hr0_2 hc0_2
 have HB := Aside0.mk (Below.refl w.heap.size w)
 have H : ((spec_l02Copy.f a0_0 l0_1 l0_2).bind fun bt865 => ((spec_GapsOf.f k a0_0 l0_1 l0_2).bind fun t873 => (spec_Cleared.l0 k t873 0 bt865.1 bt865.2.1 bt865.2.2))) = some (r1, r2, r3) := h
 clear h
 replace H := Option.bind_eq_some_iff.mp H
 obtain ⟨⟨t865, t866, t869⟩, A20, H⟩ := H
 try dsimp only at H
 have A2 := Aside0.mk A20
 clear A20
 replace H := Option.bind_eq_some_iff.mp H
 obtain ⟨t873, A30, H⟩ := H
 try dsimp only at H
 have A3 := Aside0.mk A30
 clear A30
 have H' := Aside0.mk H
 clear H
 go_enter Try.func50, Try.ntmps50
 go_wp2_with (first | ((with_reducible refine gate_dst (N := 1) rfl ?_); refine bx (cs := #[.int .i64 a0_0, .slice A0_1 l0_1.length c0_1, .slice A0_2 l0_2.length c0_2]) (t := 30) fun gb863 hg w4 hbox hb => ?_; have BK863 := Aside0.mk (hbox); have GW863 := Aside0.mk (gs HB.out hg); have GE863 := Aside0.mk (gs HB.out hg); replace HB := Aside0.mk (below_step (bl HB.out) hb); clear hb hbox hg) | ((with_reducible refine gate_dst (N := 2) rfl ?_); refine bx (cs := #[.int .i64 0, .slice none 0 0, .slice none 0 0]) (t := 30) fun gb864 hg w5 hbox hb => ?_; have BK864 := Aside0.mk (hbox); have GW864 := Aside0.mk (gs HB.out hg); have GE864 := Aside0.mk (gs HB.out hg); replace HB := Aside0.mk (below_step (bl HB.out) hb); have NB863_864 := Aside0.mk ((nl BK863.out hg)); have NB864_863 := Aside0.mk ((ng BK863.out hg)); replace BK863 := Aside0.mk (bb BK863.out hb); clear hb hbox hg; have hnb6 := NB863_864.out; have hnc6 := NB864_863.out; obtain ⟨hcz7_0, hcz7_1, hcz7_2, hfz7_0, hfz7_1, hfz7_2⟩ := cz3 BK863.out) | ((with_reducible refine gate_callee (f := 71) rfl ?_); refine goesL_ (some 7) rfl rfl Try.func71 (by kernel_rfl) rfl #[.agg #[.int .i64 a0_0, .slice A0_1 l0_1.length c0_1, .slice A0_2 l0_2.length c0_2]] rfl mapd ?_; (with_reducible refine (spec_l02Copy.calls a0_0 _ _ l0_1 _ _ l0_2 t865 t866 t869 _ ?side1 ?side2 ?side3 ?side4 A2.out).mono ?_); (case side1 => exact cb (Kd.C_below HR0_1.out HB.out)); (case side2 => exact HC0_1.out); (case side3 => exact cb (Kd.C_below HR0_2.out HB.out)); (case side4 => exact HC0_2.out); rintro e w8 ⟨v867, v870, rfl, ho0, ho1, hb⟩; refine ⟨_, rfl, ?_⟩; have HO868 := Aside0.mk (Kd.R_lower ho0 (below_size (bl HB.out))); have HO871 := Aside0.mk (Kd.R_lower ho1 (below_size (bl HB.out))); replace BK863 := Aside0.mk (bb BK863.out hb); replace BK864 := Aside0.mk (bb BK864.out hb); replace HB := Aside0.mk (below_step (bl HB.out) hb); (try clear hb); (try clear hb2); (try clear hk); (try clear hi); (try clear ho0); (try clear ho1)) | ((with_reducible refine gate_dst (N := 3) rfl ?_); refine bx (cs := #[.int .i64 0, .slice none 0 0, .slice none 0 0]) (t := 30) fun gb872 hg w9 hbox hb => ?_; replace HO868 := Aside0.mk (Kd.R_below (rk HO868.out) hb); replace HO871 := Aside0.mk (Kd.R_below (rk HO871.out) hb); have BK872 := Aside0.mk (hbox); have GW872 := Aside0.mk (gs HB.out hg); have GE872 := Aside0.mk (gs HB.out hg); replace HB := Aside0.mk (below_step (bl HB.out) hb); have NB863_872 := Aside0.mk ((nl BK863.out hg)); have NB872_863 := Aside0.mk ((ng BK863.out hg)); replace BK863 := Aside0.mk (bb BK863.out hb); have NB864_872 := Aside0.mk ((nl BK864.out hg)); have NB872_864 := Aside0.mk ((ng BK864.out hg)); replace BK864 := Aside0.mk (bb BK864.out hb); clear hb hbox hg; have hnb10 := NB872_863.out; have hnc10 := NB863_872.out; have hnb11 := NB872_864.out; have hnc11 := NB864_872.out; obtain ⟨hcz12_0, hcz12_1, hcz12_2, hfz12_0, hfz12_1, hfz12_2⟩ := cz3 BK872.out; obtain ⟨Ao13, co13, eo13⟩ := Kd.R_slice HO868.out; subst eo13; obtain ⟨Ao14, co14, eo14⟩ := Kd.R_slice HO871.out; subst eo14; obtain ⟨hcz15_0, hcz15_1, hcz15_2, hfz15_0, hfz15_1, hfz15_2⟩ := cz3 BK863.out) | ((with_reducible refine gate_callee (f := 41) rfl ?_); refine goesL_ (some 9) rfl rfl Try.func41 (by kernel_rfl) rfl #[.agg #[.int .i64 a0_0, .slice A0_1 l0_1.length c0_1, .slice A0_2 l0_2.length c0_2]] rfl mapd ?_; (with_reducible refine (spec_GapsOf.calls k a0_0 _ _ l0_1 _ _ l0_2 t873 _ ?side1 ?side2 ?side3 ?side4 A3.out).mono ?_); (case side1 => exact Kd.C_below HR0_1.out (bl HB.out)); (case side2 => exact HC0_1.out); (case side3 => exact Kd.C_below HR0_2.out (bl HB.out)); (case side4 => exact HC0_2.out); rintro e w16 ⟨v874, rfl, ho0, hb⟩; refine ⟨_, rfl, ?_⟩; replace HO868 := Aside0.mk (Kd.R_below (by refine rk ?_; exact (Kd.R_mono (Kd.R_far (p := ⟨gb872, 2, none⟩) (Kd.R_far (p := ⟨gb872, 1, none⟩) (Kd.R_far (p := ⟨gb872, 0, none⟩) (Kd.R_types HO868.out BK872.out (by decide)) (fun _ hk => hk.2) (.int .i64 t865)) (fun _ hk => hk.2) (.slice Ao13 t866.length co13)) (fun _ hk => hk.2) (.slice Ao14 t869.length co14)) (fun _ h_ => h_.1))) hb); replace HO871 := Aside0.mk (Kd.R_below (by refine rk ?_; exact (Kd.R_mono (Kd.R_far (p := ⟨gb872, 2, none⟩) (Kd.R_far (p := ⟨gb872, 1, none⟩) (Kd.R_far (p := ⟨gb872, 0, none⟩) (Kd.R_types HO871.out BK872.out (by decide)) (fun _ hk => hk.2) (.int .i64 t865)) (fun _ hk => hk.2) (.slice Ao13 t866.length co13)) (fun _ hk => hk.2) (.slice Ao14 t869.length co14)) (fun _ h_ => h_.1))) hb); have HO875 := Aside0.mk (Kd.R_lower ho0 (below_size (bl HB.out))); replace BK863 := Aside0.mk (blk_below (g := gb863) (o := .cells #[.int .i64 a0_0, .slice A0_1 l0_1.length c0_1, .slice A0_2 l0_2.length c0_2] 30 (0, 0)) (bf BK863.out) hb); replace BK864 := Aside0.mk (blk_below (g := gb864) (o := .cells #[.int .i64 0, .slice none 0 0, .slice none 0 0] 30 (0, 0)) (bf BK864.out) hb); replace BK872 := Aside0.mk (blk_below (g := gb872) (o := .cells #[.int .i64 t865, .slice Ao13 t866.length co13, .slice Ao14 t869.length co14] 30 (0, 0)) (by refine bk ?_; refine blk_put (cs := #[.int .i64 t865, .slice Ao13 t866.length co13, .slice none 0 0]) ?_ 2 _ rfl; refine bk ?_; refine blk_put (cs := #[.int .i64 t865, .slice none 0 0, .slice none 0 0]) ?_ 1 _ rfl; refine bk ?_; refine blk_put (cs := #[.int .i64 0, .slice none 0 0, .slice none 0 0]) ?_ 0 _ rfl; refine bk ?_; exact BK872.out) hb); replace HB := Aside0.mk (below_step (bl HB.out) hb); (try clear hb); (try clear hb2); (try clear hk); (try clear hi); (try clear ho0)))
 go_loopg [5] k (fun kq v5 w' => ∃ (x5_1 : Int) (x873000_1 : Int) (x873001_1 : List Int) (x873002_1 : List (S71)) (u873001 : Value) (u873002 : Value), v5 = .int .i64 x5_1 ∧ Aside0 (spec_Cleared.l0 kq t873 x5_1 x873000_1 x873001_1 x873002_1 = some (r1, r2, r3)) ∧ Aside0 (kq ≤ k) ∧ Aside0 (Kd.R k54 54 w' w.heap.size (fun _ => True) v874 t873) ∧ Aside0 (Kd.R (Kd.int .i64) 3 w' w.heap.size (fun _ => True) u873001 x873001_1) ∧ Aside0 (Kd.R k71 71 w' w.heap.size (fun _ => True) u873002 x873002_1) ∧ Aside0 (w'.heap[gb863]? = some (.cells #[.int .i64 a0_0, (.slice A0_1 l0_1.length c0_1), (.slice A0_2 l0_2.length c0_2)] 30 (0, 0))) ∧ Aside0 (w'.heap[gb864]? = some (.cells #[.int .i64 0, (.slice none 0 0), (.slice none 0 0)] 30 (0, 0))) ∧ Aside0 (w'.heap[gb872]? = some (.cells #[.int .i64 x873000_1, u873001, u873002] 30 (0, 0))) ∧ Aside0 (Below w.heap.size w w'))
 case atStart => exact ⟨(0), (t865), (t866), (t869), (.slice Ao13 t866.length co13), (.slice Ao14 t869.length co14), (by first | rfl | (simp; done) | (simp [*]; done)), H', ⟨Nat.le_refl _⟩, ⟨rk HO875.out⟩, ⟨rk HO868.out⟩, ⟨rk HO871.out⟩, ⟨by refine bk ?_; exact BK863.out⟩, ⟨by refine bk ?_; exact BK864.out⟩, ⟨by refine bk ?_; exact BK872.out⟩, ⟨bl HB.out⟩⟩
 case round =>
  clear H'
  try clear c1
  try clear p2
  try clear c4
  try clear c5
  try clear c6
  try clear c7
  try clear c10
  try clear c11
  try clear hcz12_0
  try clear hcz12_1
  try clear hcz12_2
  try clear hcz15_0
  try clear hcz15_1
  try clear hcz15_2
  try clear hcz7_0
  try clear hcz7_1
  try clear hcz7_2
  try clear hfz12_0
  try clear hfz12_1
  try clear hfz12_2
  try clear hfz15_0
  try clear hfz15_1
  try clear hfz15_2
  try clear hfz7_0
  try clear hfz7_1
  try clear hfz7_2
  obtain ⟨x5_1, x873000_1, x873001_1, x873002_1, u873001, u873002, rfl, HA, HK1, HO_4, HO_873001, HO_873002, BK863, BK864, BK872, HB⟩ := hrel
  cases gk with
  | zero => exact absurd HA.out (by simp [spec_Cleared.l0])
  | succ k1 =>
   have H := HA.out
   clear HA
   simp only [spec_Cleared.l0] at H
   by_cases c17 : x5_1 < (t873.length : Int)
   ·rw [if_pos c17] at H
    have c17b0 : decide (x5_1 < (t873.length : Int)) = true := decide_eq_true c17
    clear c17
    by_cases c18 : 0 ≤ x5_1
    ·rw [if_pos c18] at H
     have c18b0 : decide (0 ≤ x5_1) = true := decide_eq_true c18
     clear c18
     replace H := Option.bind_eq_some_iff.mp H
     obtain ⟨⟨t878, t879, t882⟩, A190, H⟩ := H
     try dsimp only at H
     have A19 := Aside0.mk A190
     clear A190
     have H' := Aside0.mk H
     clear H
     obtain ⟨Ao20, co20, eo20⟩ := Kd.R_slice HO_4.out
     subst eo20
     try go_wp2
     replace HO_4 := Aside0.mk (Kd.R_drew HO_4.out)
     replace HO_873001 := Aside0.mk (Kd.R_drew HO_873001.out)
     replace HO_873002 := Aside0.mk (Kd.R_drew HO_873002.out)
     replace BK863 := Aside0.mk (blk_drew BK863.out)
     replace BK864 := Aside0.mk (blk_drew BK864.out)
     replace BK872 := Aside0.mk (blk_drew BK872.out)
     replace HB := Aside0.mk (below_drew1 HB.out)
     have p876 : 0 ≤ (x5_1 : Int) := of_decide_eq_true asm
     have q876 : x5_1 < (t873.length : Int) := of_decide_eq_true asm
     obtain ⟨ad876, e876, hx876_0, hx876_1, hx876_2⟩ := at_T54 (Kd.R_reads' HO_4.out).2.2 x5_1 p876 q876
     cases e876
     replace p876 := eq_true p876
     replace q876 := eq_true q876
     have p877 : 0 ≤ (x5_1 : Int) := of_decide_eq_true asm
     have q877 : x5_1 < (t873.length : Int) := of_decide_eq_true asm
     obtain ⟨ad877, e877, hx877_0, hx877_1, hx877_2⟩ := at_T54 (Kd.R_reads' HO_4.out).2.2 x5_1 p877 q877
     obtain rfl : ad876 = ad877 := (by injection e877)
     replace p877 := eq_true p877
     replace q877 := eq_true q877
     obtain ⟨Ao22, co22, eo22⟩ := Kd.R_slice HO_873001.out
     (first | subst eo22 | (injection eo22 with f1_ f2_ f3_; have f4_ := f1_.symm; have f5_ := f3_.symm; clear f1_ f2_ f3_; subst f4_; subst f5_))
     obtain ⟨Ao23, co23, eo23⟩ := Kd.R_slice HO_873002.out
     (first | subst eo23 | (injection eo23 with f1_ f2_ f3_; have f4_ := f1_.symm; have f5_ := f3_.symm; clear f1_ f2_ f3_; subst f4_; subst f5_))
     refine start_ (n := 12) (S := fun w' => w'.cell? ⟨gb872, 0, none⟩ = some (.int .i64 x873000_1) ∧ w'.cell? ⟨gb872, 1, none⟩ = some (.slice Ao22 x873001_1.length co22) ∧ w'.cell? ⟨gb872, 2, none⟩ = some (.slice Ao23 x873002_1.length co23) ∧ w'.cell? (ad876.add ((x5_1).toNat * 3)) = some (.int .i64 ((rd_T54 t873 x5_1).f0)) ∧ w'.cell? ⟨(ad876.add ((x5_1).toNat * 3)).block, (ad876.add ((x5_1).toNat * 3)).off + 1, none⟩ = some (.int .i64 ((rd_T54 t873 x5_1).f1)) ∧ w'.cell? ⟨(ad876.add ((x5_1).toNat * 3)).block, (ad876.add ((x5_1).toNat * 3)).off + 2, none⟩ = some (.int .i64 ((rd_T54 t873 x5_1).f2)) ∧ w'.cell? (ad876.add ((x5_1).toNat * 3)) = some (.int .i64 ((rd_T54 t873 x5_1).f0)) ∧ w'.cell? ⟨(ad876.add ((x5_1).toNat * 3)).block, (ad876.add ((x5_1).toNat * 3)).off + 1, none⟩ = some (.int .i64 ((rd_T54 t873 x5_1).f1)) ∧ w'.cell? ⟨(ad876.add ((x5_1).toNat * 3)).block, (ad876.add ((x5_1).toNat * 3)).off + 2, none⟩ = some (.int .i64 ((rd_T54 t873 x5_1).f2))) (ds := [11]) #[false, false, false, false, false, false, false, false, false, false, false, false] (by kernel_rfl) rfl rfl ⟨(blk_cell BK872.out 0).trans rfl, (blk_cell BK872.out 1).trans rfl, (blk_cell BK872.out 2).trans rfl, hx876_0, hx876_1, hx876_2, hx877_0, hx877_1, hx877_2⟩ (fun hHeld => ?_); refine with_tabW spec_Cleared.tab6 spec_Cleared.bits6 (fun HT_ HW_ => ?_)
     generalize wr.drew = w21 at HO_4 HO_873001 HO_873002 BK863 BK864 BK872 HB hx876_0 hx876_1 hx876_2 hx877_0 hx877_1 hx877_2 hHeld ⊢
     refine puA (i := 1) (N := some 17) HT_.out ?_
     refine puA (i := 2) (N := some 18) HT_.out ?_
     refine puA (i := 3) (N := some 19) HT_.out ?_
     refine puA (i := 5) (N := some 21) HT_.out ?_
     refine puA (i := 6) (N := some 22) HT_.out ?_
     refine puA (i := 7) (N := some 23) HT_.out ?_
     refine puA (i := 8) (N := some 24) HT_.out ?_
     refine tkA9 (i := 0) (N := some 16) HT_.out HW_.out hHeld ?_
     refine tkA9 (i := 4) (N := some 20) HT_.out HW_.out hHeld ?_
     refine tkA9 (i := 9) (N := some 25) HT_.out HW_.out hHeld ?_
     refine onA (i := 10) (N := some 26) HT_.out (fun K hK => ?_)
     refine goes_ Try.func80 (by kernel_rfl) rfl #[.agg #[.int .i64 x873000_1, .slice Ao22 x873001_1.length co22, .slice Ao23 x873002_1.length co23], .agg #[.int .i64 ((rd_T54 t873 x5_1).f0), .int .i64 ((rd_T54 t873 x5_1).f1), .int .i64 ((rd_T54 t873 x5_1).f2)], .int .i64 0, .int .i64 ((rd_T54 t873 x5_1).f2)] (by rfl) rfl rfl mapd ?_
     with_reducible refine (spec_l02Fill.calls k1 x873000_1 _ _ x873001_1 _ _ x873002_1 ((rd_T54 t873 x5_1).f0) ((rd_T54 t873 x5_1).f1) ((rd_T54 t873 x5_1).f2) 0 ((rd_T54 t873 x5_1).f2) t878 t879 t882 _ ?side1 ?side2 ?side3 ?side4 A19.out).mono ?_
     (case side1 => exact cb ((Kd.R_reads' HO_873001.out).2.2))
     (case side2 => exact (Kd.R_reads' HO_873001.out).2.1)
     (case side3 => exact cb ((Kd.R_reads' HO_873002.out).2.2))
     (case side4 => exact (Kd.R_reads' HO_873002.out).2.1)
     rintro e w24 ⟨v880, v883, rfl, ho0, ho1, hb⟩
     have HS3_ := (hb.cell (World.block_lt_of_cell? _ _ (hHeld.2.2.2.1))).trans (hHeld.2.2.2.1)
     have HS4_ := (hb.cell (World.block_lt_of_cell? _ _ (hHeld.2.2.2.2.1))).trans (hHeld.2.2.2.2.1)
     have HS5_ := (hb.cell (World.block_lt_of_cell? _ _ (hHeld.2.2.2.2.2.1))).trans (hHeld.2.2.2.2.2.1)
     have HS6_ := (hb.cell (World.block_lt_of_cell? _ _ (hHeld.2.2.2.2.2.2.1))).trans (hHeld.2.2.2.2.2.2.1)
     have HS7_ := (hb.cell (World.block_lt_of_cell? _ _ (hHeld.2.2.2.2.2.2.2.1))).trans (hHeld.2.2.2.2.2.2.2.1)
     have HS8_ := (hb.cell (World.block_lt_of_cell? _ _ (hHeld.2.2.2.2.2.2.2.2))).trans (hHeld.2.2.2.2.2.2.2.2)
     refine ⟨_, rfl, ?_⟩
     replace HO_4 := Aside0.mk (Kd.R_below (rk HO_4.out) hb)
     have HO881 := Aside0.mk (Kd.R_lower (Kd.R_new' ho0 (Kd.R_lt (rk HO_873001.out))) (below_size (bl HB.out)))
     replace HO_873001 := Aside0.mk (Kd.R_elder' (rk HO_873001.out) (Kd.R_base ho0) hb)
     have HO884 := Aside0.mk (Kd.R_lower (Kd.R_new' ho1 (Kd.R_lt (rk HO_873002.out))) (below_size (bl HB.out)))
     replace HO_873002 := Aside0.mk (Kd.R_elder' (rk HO_873002.out) (Kd.R_base ho1) hb)
     replace BK863 := Aside0.mk (bb BK863.out hb)
     replace BK864 := Aside0.mk (bb BK864.out hb)
     replace BK872 := Aside0.mk (bb BK872.out hb)
     replace HB := Aside0.mk (below_step (bl HB.out) hb)
     (try clear hb)
     (try clear hb2)
     (try clear hk)
     (try clear hi)
     (try clear ho0)
     (try clear ho1)
     obtain ⟨Ao26, co26, eo26⟩ := Kd.R_slice HO881.out
     (first | subst eo26 | (injection eo26 with f1_ f2_ f3_; have f4_ := f1_.symm; have f5_ := f3_.symm; clear f1_ f2_ f3_; subst f4_; subst f5_))
     obtain ⟨Ao28, co28, eo28⟩ := Kd.R_slice HO884.out
     (first | subst eo28 | (injection eo28 with f1_ f2_ f3_; have f4_ := f1_.symm; have f5_ := f3_.symm; clear f1_ f2_ f3_; subst f4_; subst f5_))
     refine hK.out _ _ ⟨(blk_cell BK872.out 0).trans rfl, (blk_cell BK872.out 1).trans rfl, (blk_cell BK872.out 2).trans rfl, HS3_, HS4_, HS5_, HS6_, HS7_, HS8_⟩ (fun hHeld => ?_)
     clear hK K
     refine norm_ (a' := ?_) ?_ ?_
     rotate_left
     ·show Act.put _ (some 26) _ = _
      simp only [Act.put, List.setIfInBounds_toArray, List.set_cons_zero, List.set_cons_succ, i64_w, i32_w]
      rfl
     refine last_ (i := 11) (N := none) #[true, true, true, true, true, true, true, true, true, true, true, true] rfl rfl (one_of HT_.out (by kernel_rfl)) (by decide) (fun K hK => ?_)
     have hs25 : w24.cell? ⟨gb872, 0, none⟩ = some (.int .i64 x873000_1) := (blk_cell BK872.out 0).trans rfl
     have hfs25 := blk_frozen BK872.out 0
     have hns25_0 := NB863_872.out
     have hns25_1 := NB864_872.out
     have hms25_0 := NB872_863.out
     have hms25_1 := NB872_864.out
     have hs27 : w24.cell? ⟨gb872, 1, none⟩ = some (.slice Ao22 x873001_1.length co22) := (blk_cell BK872.out 1).trans rfl
     have hfs27 := blk_frozen BK872.out 1
     have hns27_0 := NB863_872.out
     have hns27_1 := NB864_872.out
     have hms27_0 := NB872_863.out
     have hms27_1 := NB872_864.out
     have hs29 : w24.cell? ⟨gb872, 2, none⟩ = some (.slice Ao23 x873002_1.length co23) := (blk_cell BK872.out 2).trans rfl
     have hfs29 := blk_frozen BK872.out 2
     have hns29_0 := NB863_872.out
     have hns29_1 := NB864_872.out
     have hms29_0 := NB872_863.out
     have hms29_1 := NB872_864.out
     refine skip_ (w1 := ?_) (by rfl) rfl ?_ ?_
     rotate_left
     ·go_simp
      rfl
     refine hK.out _ _ ?_
     clear hK K
     refine done_ (done_of HT_.out (by kernel_rfl)) ?_
     try go_wp2
     go_roundg k1
     case measure => have := HK1.out; omega
     case rel => exact ⟨(wrap64 (x5_1 + 1)), (t878), (t879), (t882), (.slice Ao26 t879.length co26), (.slice Ao28 t882.length co28), (by first | rfl | (simp; done) | (simp [*]; done)), H', ⟨by have := HK1.out; omega⟩, ⟨by refine rk ?_; exact Kd.R_mono (Kd.R_far (p := ⟨gb872, 2, none⟩) (Kd.R_far (p := ⟨gb872, 1, none⟩) (Kd.R_far (p := ⟨gb872, 0, none⟩) (Kd.R_types HO_4.out BK872.out (by decide)) (fun _ hk => hk.2) (.int .i64 t878)) (fun _ hk => hk.2) (.slice Ao26 t879.length co26)) (fun _ hk => hk.2) (.slice Ao28 t882.length co28)) (fun _ hk => trivial)⟩, ⟨by refine rk ?_; exact Kd.R_mono (Kd.R_far (p := ⟨gb872, 2, none⟩) (Kd.R_far (p := ⟨gb872, 1, none⟩) (Kd.R_far (p := ⟨gb872, 0, none⟩) (Kd.R_types HO881.out BK872.out (by decide)) (fun _ hk => hk.2) (.int .i64 t878)) (fun _ hk => hk.2) (.slice Ao26 t879.length co26)) (fun _ hk => hk.2) (.slice Ao28 t882.length co28)) (fun _ hk => trivial)⟩, ⟨by refine rk ?_; exact Kd.R_mono (Kd.R_far (p := ⟨gb872, 2, none⟩) (Kd.R_far (p := ⟨gb872, 1, none⟩) (Kd.R_far (p := ⟨gb872, 0, none⟩) (Kd.R_types HO884.out BK872.out (by decide)) (fun _ hk => hk.2) (.int .i64 t878)) (fun _ hk => hk.2) (.slice Ao26 t879.length co26)) (fun _ hk => hk.2) (.slice Ao28 t882.length co28)) (fun _ hk => trivial)⟩, ⟨by refine bk ?_; refine blk_far ?_ NB863_872.out _; refine bk ?_; refine blk_far ?_ NB863_872.out _; refine bk ?_; refine blk_far ?_ NB863_872.out _; refine bk ?_; exact BK863.out⟩, ⟨by refine bk ?_; refine blk_far ?_ NB864_872.out _; refine bk ?_; refine blk_far ?_ NB864_872.out _; refine bk ?_; refine blk_far ?_ NB864_872.out _; refine bk ?_; exact BK864.out⟩, ⟨by refine bk ?_; refine blk_put (cs := #[.int .i64 t878, .slice Ao26 t879.length co26, .slice Ao23 x873002_1.length co23]) ?_ 2 _ rfl; refine bk ?_; refine blk_put (cs := #[.int .i64 t878, .slice Ao22 x873001_1.length co22, .slice Ao23 x873002_1.length co23]) ?_ 1 _ rfl; refine bk ?_; refine blk_put (cs := #[.int .i64 x873000_1, .slice Ao22 x873001_1.length co22, .slice Ao23 x873002_1.length co23]) ?_ 0 _ rfl; refine bk ?_; exact BK872.out⟩, ⟨bl HB.out⟩⟩
    ·rw [if_neg c18] at H
     exact absurd H (by simp)
   ·rw [if_neg c17] at H
    have c17b0 : decide (x5_1 < (t873.length : Int)) = false := decide_eq_false c17
    clear c17
    simp only [Option.some.injEq, Prod.mk.injEq] at H
    obtain ⟨rfl, rfl, rfl⟩ := H
    obtain ⟨Ao30, co30, eo30⟩ := Kd.R_slice HO_4.out
    subst eo30
    have hnb31 := NB872_863.out
    have hnc31 := NB863_872.out
    have hnb32 := NB872_864.out
    have hnc32 := NB864_872.out
    obtain ⟨hcz33_0, hcz33_1, hcz33_2, hfz33_0, hfz33_1, hfz33_2⟩ := cz3 BK872.out
    have hnb34 := NB864_863.out
    have hnc34 := NB863_864.out
    obtain ⟨hcz35_0, hcz35_1, hcz35_2, hfz35_0, hfz35_1, hfz35_2⟩ := cz3 BK864.out
    obtain ⟨Ao36, co36, eo36⟩ := Kd.R_slice HO_873001.out
    subst eo36
    obtain ⟨Ao37, co37, eo37⟩ := Kd.R_slice HO_873002.out
    subst eo37
    go_wp2
    refine bodyPost_ret (results_cell_row rfl _ _ gb864 30 #[.int .i64 x873000_1, .slice Ao36 x873001_1.length co36, .slice Ao37 x873002_1.length co37] (0, 0) _ rfl (by refine bk ?_; refine blk_put (cs := #[.int .i64 x873000_1, .slice Ao36 x873001_1.length co36, .slice none 0 0]) ?_ 2 _ rfl; refine bk ?_; refine blk_put (cs := #[.int .i64 x873000_1, .slice none 0 0, .slice none 0 0]) ?_ 1 _ rfl; refine bk ?_; refine blk_put (cs := #[.int .i64 0, .slice none 0 0, .slice none 0 0]) ?_ 0 _ rfl; refine bk ?_; exact BK864.out) Try.underlying30 rfl (by kernel_rfl)) rfl ?_
    exact ⟨_, _, by first | rfl | (simp [errW_none, errW_some] <;> rfl) | (simp [*, errW_none, errW_some] <;> rfl), by refine rk ?_; exact Kd.R_mono (Kd.R_far (p := ⟨gb864, 2, none⟩) (Kd.R_far (p := ⟨gb864, 1, none⟩) (Kd.R_far (p := ⟨gb864, 0, none⟩) (Kd.R_types HO_873001.out BK864.out (by decide)) (fun _ hk => hk.2) (.int .i64 x873000_1)) (fun _ hk => hk.2) (.slice Ao36 x873001_1.length co36)) (fun _ hk => hk.2) (.slice Ao37 x873002_1.length co37)) (fun _ hk => trivial), by refine rk ?_; exact Kd.R_mono (Kd.R_far (p := ⟨gb864, 2, none⟩) (Kd.R_far (p := ⟨gb864, 1, none⟩) (Kd.R_far (p := ⟨gb864, 0, none⟩) (Kd.R_types HO_873002.out BK864.out (by decide)) (fun _ hk => hk.2) (.int .i64 x873000_1)) (fun _ hk => hk.2) (.slice Ao36 x873001_1.length co36)) (fun _ hk => hk.2) (.slice Ao37 x873002_1.length co37)) (fun _ hk => trivial), bl HB.out⟩
def impl_Box_100.f (a0 : Int) : Option ((List (S71))) := if 0 ≤ a0 ∧ a0 ≤ 4398046511103 then some [] else none
set_option maxHeartbeats 8000000 in
set_option maxRecDepth 100000 in
theorem impl_Box_100.calls (a0 : Int) (r : List (S71)) (w : World) (h : impl_Box_100.f a0 = some r) :
  Calls Try.prog 100 #[.slice none 0 0, .int .i64 a0] w fun e w' => ∃ v0_ : Value, e = .returned (v0_) ∧ Kd.R k71 71 w' w.heap.size (fun _ => True) v0_ r ∧ Below w.heap.size w w' := by
 obtain ⟨h0, h1⟩ : 0 ≤ a0 ∧ a0 ≤ 4398046511103 := by
  by_cases hc : 0 ≤ a0 ∧ a0 ≤ 4398046511103
  ·exact hc
  ·simp only [impl_Box_100.f] at h; rw [if_neg hc] at h; cases h
 obtain rfl : r = [] := by
  simp only [impl_Box_100.f] at h; rw [if_pos ⟨h0, h1⟩] at h; exact (Option.some.inj h).symm
 clear h
 by_cases hp : 0 < a0
 ·have c0 : decide (a0 < 0) = false := decide_eq_false (by omega)
  have c1 : decide (0 < a0) = true := decide_eq_true hp
  have HL := Aside0.mk h1
  have HZ := Aside0.mk h0
  clear hp
  obtain ⟨i010, hi010, _, _, _⟩ := info_parts info71
  go_enter Try.func100, Try.ntmps100
  go_wp2_with (first | (at_builtin; refine Kd.R_append_zeros k71 (w0 := w) w.heap.size rfl (.tmp 20) (.tmp 21) 28 3 71 (.agg #[(.int .i64 0), (.int .i64 0), (.int .i64 0), (.bool false)]) 32 rfl Try.underlying28 Try.underlying3 info71 rfl (by decide) (by omega) (.slice none 0 0) ([] : List S71) z71 (a0 : Int) (fun _ => True) rfl rfl (k71_mkM _ _ _ z71) ?aF ?aO HZ.out ?aB ?aS ?aL ?_; (case aB => exact Below.refl _ _); (case aF => exact (fun _ _ => trivial)); (case aO => exact ((Kd.R_nil _ _ _ _ (fun _ => True)))); (case aS => exact Nat.le_refl _); (case aL => have := HL.out; simp; omega); intro v886 w9 ho hb hg hat; clear hg hat; obtain ⟨Ao11, co11, eo11⟩ := Kd.R_slice ho; subst eo11; have hcut10 := cut_to (P := Try.prog) 28 71 .i64 Try.underlying28 hi010 Ao11 _ co11 0 (by omega) (by omega) (Kd.R_reads' ho).2.1; have HO := Aside0.mk (Kd.R_take (m := 0) ho (Nat.zero_le _)); have HB := Aside0.mk hb; clear ho hb))
  go_ret
  exact ⟨_, rfl, HO.out, HB.out⟩
 ·obtain rfl : a0 = 0 := by omega
  clear hp h0 h1
  go_enter Try.func100, Try.ntmps100
  go_wp2
  go_ret
  exact ⟨_, rfl, Kd.R_nil _ _ _ _ _, Below.refl _ _⟩
end Go.Proofs.Ytghfeapncmlihaa.A
