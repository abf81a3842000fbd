/- What the proof of the law FnExactCleared uses: lemmas, the Lean functions of the Go functions that it reaches, their contracts, and the pure statement's proof. -/
import Derived.Test.YtghfeapncmlihaaZFnExactClearedx14
import Derived.Test.YtghfeapncmlihaaZFnExactClearedh
namespace Go.Proofs.Ytghfeapncmlihaa.A
open Go.RowKit Go.Proofs.YtghfeapncmlihaaW.PrintWords Go.Proofs.YtghfeapncmlihaaW.PrintLast Go.Proofs.YtghfeapncmlihaaW.PrintMore
attribute [local go_sem] max2_int min2_int max_two min_two max_three min_three max_four min_four   
set_option linter.unusedVariables false
set_option linter.unusedSimpArgs false
mutual
def spec_l02Fill.l0 : Nat → Int → Int → Int → Int → List Int → List (S71) → Int → Int → Int → Int → List Int → List (S71) → Option (Int × List Int × (List (S71)))
  | 0, _, _, _, _, _, _, _, _, _, _, _, _ => none
  | k + 1, x2, x3, x10, x840000, x840001, x840002, x841000, x841001, x841002, x849000, x849001, x849002 => if x10 < (x840002.length : Int) then (if 0 ≤ x10 then (if ((rd_T71 x840002 x10).f0) = x841001 then (if x849002.length < 4398046511104 then ((some (x849002 ++ [(⟨x841001, x3, x2, false⟩ : S71)] : List (S71))).bind fun y851 => (if x3 < x841002 then (if y851.length < 4398046511104 then (spec_l02Fill.j1 k x2 x3 x10 x840000 x840001 x840002 x841000 x841001 x841002 x849000 x849001 (y851 ++ [(⟨wrap64 (x841001 + x3), wrap64 (x841002 - x3), 0, false⟩ : S71)]) ((rd_T71 x840002 x10).f0) ((rd_T71 x840002 x10).f1) ((rd_T71 x840002 x10).f2) ((rd_T71 x840002 x10).f3)) else (none)) else (spec_l02Fill.j1 k x2 x3 x10 x840000 x840001 x840002 x841000 x841001 x841002 x849000 x849001 y851 ((rd_T71 x840002 x10).f0) ((rd_T71 x840002 x10).f1) ((rd_T71 x840002 x10).f2) ((rd_T71 x840002 x10).f3)))) else (none)) else (spec_l02Fill.j1 k x2 x3 x10 x840000 x840001 x840002 x841000 x841001 x841002 x849000 x849001 x849002 ((rd_T71 x840002 x10).f0) ((rd_T71 x840002 x10).f1) ((rd_T71 x840002 x10).f2) ((rd_T71 x840002 x10).f3))) else (none)) else (some (x849000, x849001, x849002))
def spec_l02Fill.j1 : Nat → Int → Int → Int → Int → List Int → List (S71) → Int → Int → Int → Int → List Int → List (S71) → Int → Int → Int → Bool → Option (Int × List Int × (List (S71)))
  | 0, _, _, _, _, _, _, _, _, _, _, _, _, _, _, _, _ => none
  | k + 1, x2, x3, x10, x840000, x840001, x840002, x841000, x841001, x841002, x849000, x849001, x849002, x851000, x851001, x851002, x851003 => if x851000 < x841001 then (if x849002.length < 4398046511104 then (spec_l02Fill.l0 k x2 x3 (wrap64 (x10 + 1)) x840000 x840001 x840002 x841000 x841001 x841002 x849000 x849001 (x849002 ++ [(⟨x851000, x851001, x851002, x851003⟩ : S71)])) else (none)) else (if x851000 ≥ (wrap64 (x841001 + x841002)) then (if x849002.length < 4398046511104 then (spec_l02Fill.l0 k x2 x3 (wrap64 (x10 + 1)) x840000 x840001 x840002 x841000 x841001 x841002 x849000 x849001 (x849002 ++ [(⟨x851000, x851001, x851002, x851003⟩ : S71)])) else (none)) else (spec_l02Fill.l0 k x2 x3 (wrap64 (x10 + 1)) x840000 x840001 x840002 x841000 x841001 x841002 x849000 x849001 x849002))
end
def spec_l02Fill.f (k : Nat) (a0_0 : Int) (l0_1 : List Int) (l0_2 : List (S71)) (a1_0 : Int) (a1_1 : Int) (a1_2 : Int) (a2 : Int) (a3 : Int) : Option (Int × List Int × (List (S71))) := (some (([] : List Int) : List Int)).bind fun y842 => (if y842.length + l0_1.length < 17592186044416 then (spec_l02Fill.l0 k a2 a3 0 a0_0 l0_1 l0_2 a1_0 a1_1 a1_2 a0_0 (y842 ++ l0_1) ([] : List (S71))) else (none))
def spec_l02Fill.T1 : Bool × List (List Nat × List Nat) := (true, [([], []), ([0], [0]), ([], []), ([], []), ([3], [3]), ([2, 4], [2, 4]), ([1, 5], [1, 5]), ([], []), ([7, 6, 5, 0, 1, 2, 3, 4, 5, 6, 7], [6, 7])])
def spec_l02Fill.B1 : List Nat := [0, 1, 0, 0, 8, 28, 63, 0, 255]
theorem spec_l02Fill.tab1 : rtab .any (opsOf Try.f80 1) = spec_l02Fill.T1 := by kernel_rfl
theorem spec_l02Fill.bits1 : waitsOk spec_l02Fill.T1.2 spec_l02Fill.B1 = true := by kernel_rfl
set_option maxHeartbeats 8000000 in
set_option maxRecDepth 100000 in
theorem spec_l02Fill.calls (k : Nat) (a0_0 : Int) (A0_1 : Option Addr) (c0_1 : Nat) (l0_1 : List Int) (A0_2 : Option Addr) (c0_2 : Nat) (l0_2 : List (S71)) (a1_0 : Int) (a1_1 : Int) (a1_2 : Int) (a2 : Int) (a3 : Int) (r1 : Int) (r2 : List Int) (r3 : List (S71)) (w : World) (hr0_1 : Kd.C (Kd.int .i64) w A0_1 l0_1.length l0_1) (hc0_1 : l0_1.length ≤ c0_1) (hr0_2 : Kd.C k71 w A0_2 l0_2.length l0_2) (hc0_2 : l0_2.length ≤ c0_2) (h : spec_l02Fill.f k a0_0 l0_1 l0_2 a1_0 a1_1 a1_2 a2 a3 = some (r1, r2, r3)) :
    Calls Try.prog 80 #[.agg #[.int .i64 a0_0, .slice A0_1 l0_1.length c0_1, .slice A0_2 l0_2.length c0_2], .agg #[.int .i64 a1_0, .int .i64 a1_1, .int .i64 a1_2], .int .i64 a2, .int .i64 a3] w fun e w' => ∃ v1_ v2_ : Value, e = .returned (.agg #[.int .i64 r1, v1_, v2_]) ∧ Kd.R (Kd.int .i64) 3 w' w.heap.size (fun _ => True) v1_ r2 ∧ Kd.R k71 71 w' w.heap.size (fun _ => True) v2_ r3 ∧ Below w.heap.size w w' := by
  have hu30 := Try.underlying30
  have hu54 := Try.underlying54
  have hu71 := Try.underlying71
  have HR0_1 := Aside0.mk hr0_1
  have HC0_1 := Aside0.mk hc0_1
  clear hr0_1 hc0_1
  have HR0_2 := Aside0.mk hr0_2
  have HC0_2 := Aside0.mk hc0_2
  clear hr0_2 hc0_2
  have HB := Aside0.mk (Below.refl w.heap.size w)
  have H : ((some (([] : List Int) : List Int)).bind fun y842 => (if y842.length + l0_1.length < 17592186044416 then (spec_l02Fill.l0 k a2 a3 0 a0_0 l0_1 l0_2 a1_0 a1_1 a1_2 a0_0 (y842 ++ l0_1) ([] : List (S71))) else (none))) = some (r1, r2, r3) := h
  clear h
  obtain ⟨y842, hy842⟩ : ∃ y_ : List Int, y_ = (([] : List Int)) := ⟨_, rfl⟩
  replace H : (if y842.length + l0_1.length < 17592186044416 then (spec_l02Fill.l0 k a2 a3 0 a0_0 l0_1 l0_2 a1_0 a1_1 a1_2 a0_0 (y842 ++ l0_1) ([] : List (S71))) else (none)) = some (r1, r2, r3) := by first | (rw [hy842]; with_reducible exact H) | (have H2_ := (Option.bind_some _ _).symm.trans H; rw [hy842]; with_reducible exact H2_) | (have H2_ := (Option.bind_some _ _).symm.trans H; with_reducible exact H2_) | with_reducible exact H | (rw [hy842]; exact H) | exact H
  have Ny842 := Aside0.mk hy842
  clear hy842
  by_cases c5 : y842.length + l0_1.length < 17592186044416
  · rw [if_pos c5] at H
    have LMc5 := Aside0.mk c5
    clear c5
    obtain ⟨y845, hy845⟩ : ∃ y_ : List Int, y_ = (y842 ++ l0_1) := ⟨_, rfl⟩
    replace H : (spec_l02Fill.l0 k a2 a3 0 a0_0 l0_1 l0_2 a1_0 a1_1 a1_2 a0_0 y845 ([] : List (S71))) = some (r1, r2, r3) := by first | (rw [hy845]; with_reducible exact H) | (have H2_ := (Option.bind_some _ _).symm.trans H; rw [hy845]; with_reducible exact H2_) | (have H2_ := (Option.bind_some _ _).symm.trans H; with_reducible exact H2_) | with_reducible exact H | (rw [hy845]; exact H) | exact H
    have Ny845 := Aside0.mk hy845
    clear hy845
    have H' := Aside0.mk H
    clear H
    go_enter Try.func80, Try.ntmps80
    try go_wp2_with (first | ((with_reducible refine gate_dst (N := 4) rfl ?_); refine bx (cs := #[.int .i64 a0_0, .slice A0_1 l0_1.length c0_1, .slice A0_2 l0_2.length c0_2]) (t := 30) fun gb839 hg w6 hbox hb => ?_; have BK839 := Aside0.mk (hbox); have GW839 := Aside0.mk (gs HB.out hg); have GE839 := Aside0.mk (gs HB.out hg); replace HB := Aside0.mk (below_step (bl HB.out) hb); clear hb hbox hg) | ((with_reducible refine gate_dst (N := 5) rfl ?_); refine bx (cs := #[.int .i64 a1_0, .int .i64 a1_1, .int .i64 a1_2]) (t := 54) fun gb840 hg w7 hbox hb => ?_; have n0_ := Aside0.mk (bb BK839.out hb); have n1_ := Aside0.mk (below_step (bl HB.out) hb); have n2_ := Aside0.mk (hbox); have n3_ := Aside0.mk (gs HB.out hg); have n4_ := Aside0.mk (gs HB.out hg); have n5_ := Aside0.mk ((nl BK839.out hg)); have n6_ := Aside0.mk ((ng BK839.out hg)); clear BK839; clear HB; have BK839 := n0_; have HB := n1_; have BK840 := n2_; have GW840 := n3_; have GE840 := n4_; have NB839_840 := n5_; have NB840_839 := n6_; clear n0_ n1_ n2_ n3_ n4_ n5_ n6_; clear hb hbox hg) | ((with_reducible refine gate_dst (N := 8) rfl ?_); refine bx (cs := #[.int .i64 0, .slice none 0 0, .slice none 0 0]) (t := 30) fun gb841 hg w8 hbox hb => ?_; have n0_ := Aside0.mk (bb BK839.out hb); have n1_ := Aside0.mk (bb BK840.out hb); have n2_ := Aside0.mk (below_step (bl HB.out) hb); have n3_ := Aside0.mk (hbox); have n4_ := Aside0.mk (gs HB.out hg); have n5_ := Aside0.mk (gs HB.out hg); have n6_ := Aside0.mk ((nl BK839.out hg)); have n7_ := Aside0.mk ((ng BK839.out hg)); have n8_ := Aside0.mk ((nl BK840.out hg)); have n9_ := Aside0.mk ((ng BK840.out hg)); clear BK839; clear BK840; clear HB; have BK839 := n0_; have BK840 := n1_; have HB := n2_; have BK841 := n3_; have GW841 := n4_; have GE841 := n5_; have NB839_841 := n6_; have NB841_839 := n7_; have NB840_841 := n8_; have NB841_840 := n9_; clear n0_ n1_ n2_ n3_ n4_ n5_ n6_ n7_ n8_ n9_; clear hb hbox hg))
    have n0_ := Aside0.mk (blk_drew BK839.out)
    have n1_ := Aside0.mk (blk_drew BK840.out)
    have n2_ := Aside0.mk (blk_drew BK841.out)
    have n3_ := Aside0.mk (below_drew1 HB.out)
    clear BK839
    clear BK840
    clear BK841
    clear HB
    have BK839 := n0_
    have BK840 := n1_
    have BK841 := n2_
    have HB := n3_
    clear n0_ n1_ n2_ n3_
    refine start_ (n := 9) (S := fun w' => w'.cell? ⟨gb839, 0, none⟩ = some (.int .i64 a0_0) ∧ w'.cell? ⟨gb839, 1, none⟩ = some (.slice A0_1 l0_1.length c0_1) ∧ w'.cell? ⟨gb839, 2, none⟩ = some (.slice A0_2 l0_2.length c0_2)) (ds := []) #[false, false, false, false, false, false, false, false, false] (by kernel_rfl) rfl rfl ⟨(blk_cell BK839.out 0).trans rfl, (blk_cell BK839.out 1).trans rfl, (blk_cell BK839.out 2).trans rfl⟩ (fun hHeld => ?_); refine with_tabW spec_l02Fill.tab1 spec_l02Fill.bits1 (fun HT_ HW_ => ?_)
    generalize w8.drew = w9 at BK839 BK840 BK841 HB hHeld ⊢
    refine pure_ (i := 0) (N := some 12) (v := ?_) (a' := ?_) #[true, false, false, false, false, false, false, false, false] rfl rfl (any_of HT_.out (by kernel_rfl)) (fun _ _ _ h => h) (Or.inl ⟨by rfl, ?_⟩) ?_ ?_
    rotate_left
    · intro w'
      go_simp
      with_reducible rfl
    rotate_left
    · simp only [Act.put, List.setIfInBounds_toArray, List.set_cons_zero, List.set_cons_succ, i64_w, i32_w]
      rfl
    refine pure_ (i := 3) (N := some 15) (v := ?_) (a' := ?_) #[true, false, false, true, false, false, false, false, false] rfl rfl (any_of HT_.out (by kernel_rfl)) (fun _ _ _ h => h) (Or.inl ⟨by rfl, ?_⟩) ?_ ?_
    rotate_left
    · intro w'
      go_simp
      with_reducible rfl
    rotate_left
    · simp only [Act.put, List.setIfInBounds_toArray, List.set_cons_zero, List.set_cons_succ, i64_w, i32_w]
      rfl
    refine take_ (i := 1) (N := some 13) (v := ?_) (a' := ?_) #[true, true, false, true, false, false, false, false, false] rfl rfl (take_ofW HT_.out HW_.out (by kernel_rfl)) (fun _ _ _ h => h) (Or.inl ⟨by rfl, ?_⟩) hHeld ?_ ?_
    rotate_left
    · rintro w' ⟨s0, s1, s2⟩
      go_simp
      with_reducible rfl
    rotate_left
    · simp only [Act.put, List.setIfInBounds_toArray, List.set_cons_zero, List.set_cons_succ, i64_w, i32_w]
      rfl
    refine take_ (i := 4) (N := some 16) (v := ?_) (a' := ?_) #[true, true, false, true, true, false, false, false, false] rfl rfl (take_ofW HT_.out HW_.out (by kernel_rfl)) (fun _ _ _ h => h) (Or.inl ⟨by rfl, ?_⟩) hHeld ?_ ?_
    rotate_left
    · rintro w' ⟨s0, s1, s2⟩
      go_simp
      with_reducible rfl
    rotate_left
    · simp only [Act.put, List.setIfInBounds_toArray, List.set_cons_zero, List.set_cons_succ, i64_w, i32_w]
      rfl
    refine join_ (σ := Value × Value × Nat) 1 #[true, true, true, true, true, true, true, true, false] (fun s_ => [(14, s_.1), (17, s_.2.1), (9, .pointer (some ⟨s_.2.2, 0, none⟩)), (18, .agg #[.int .i64 a0_0, s_.2.1, .slice none 0 0])]) (fun s_ w' => (w'.cell? ⟨gb839, 0, none⟩ = some (.int .i64 a0_0) ∧ w'.cell? ⟨gb839, 1, none⟩ = some (.slice A0_1 l0_1.length c0_1) ∧ w'.cell? ⟨gb839, 2, none⟩ = some (.slice A0_2 l0_2.length c0_2)) ∧ (Kd.R (Kd.int .i64) 3 w' w.heap.size (fun _ => True) s_.2.1 y845) ∧ (w'.heap[gb839]? = some (.cells #[.int .i64 a0_0, .slice A0_1 l0_1.length c0_1, .slice A0_2 l0_2.length c0_2] 30 (0, 0))) ∧ (w'.heap[gb840]? = some (.cells #[.int .i64 a1_0, .int .i64 a1_1, .int .i64 a1_2] 54 (0, 0))) ∧ (w'.heap[gb841]? = some (.cells #[.int .i64 0, .slice none 0 0, .slice none 0 0] 30 (0, 0))) ∧ (w'.heap[s_.2.2]? = some (.cells #[.int .i64 0, .slice none 0 0, .slice none 0 0] 30 (0, 0))) ∧ (w.heap.size ≤ s_.2.2) ∧ (w.heap.size ≤ s_.2.2) ∧ (gb839 ≠ s_.2.2) ∧ (s_.2.2 ≠ gb839) ∧ (gb840 ≠ s_.2.2) ∧ (s_.2.2 ≠ gb840) ∧ (gb841 ≠ s_.2.2) ∧ (s_.2.2 ≠ gb841) ∧ (Below w.heap.size w w')) ?_ ?_
    rotate_left
    · intro hCont
      refine two_ (i := 2) (j := 7) (Ni := some 14) (Nj := some 9) #[true, true, true, true, true, false, false, false, false] #[true, true, false, true, true, false, false, true, false] rfl rfl rfl rfl (two_of HT_.out (by kernel_rfl)) (by decide) (by decide) (fun K hK => ?_) (fun K hK => ?_)
      · skip
        refine Kd.R_lit_step (Kd.int .i64) _ 3 ?hg (N := 14) ?hd (xs := ([] : List Int)) (inner := []) (ok := fun _ => True) (okp := fun _ => True) ?hr ?hp (fun _ hk => hk) trivial (Below.refl _ _) (Nat.le_refl _) (by simp) ?_; (case hd => rfl); (case hg => rfl); (case hr => first | (go_simp; done) | (go_simp; rfl)); (case hp => exact (Reps.none _ _))
        intro v843 w10 ho11 hb hg_ hnew_
        clear hg_ hnew_
        (first | rw [← Ny842.out] at ho11 | (simp only [Int.reduceToNat] at ho11; rw [← Ny842.out] at ho11))
        have n0_ := Aside0.mk (Kd.R_lower ho11 (below_size (bl HB.out)))
        have n1_ := Aside0.mk (bb BK839.out hb)
        have n2_ := Aside0.mk (bb BK840.out hb)
        have n3_ := Aside0.mk (bb BK841.out hb)
        have n4_ := Aside0.mk (below_step (bl HB.out) hb)
        clear BK839
        clear BK840
        clear BK841
        clear HB
        have HO844 := n0_
        have BK839 := n1_
        have BK840 := n2_
        have BK841 := n3_
        have HB := n4_
        clear n0_ n1_ n2_ n3_ n4_
        clear hb ho11
        refine hK.out _ _ ⟨(blk_cell BK839.out 0).trans rfl, (blk_cell BK839.out 1).trans rfl, (blk_cell BK839.out 2).trans rfl⟩ (fun hHeld => ?_)
        clear hK K
        refine norm_ (a' := ?_) ?_ ?_
        rotate_left
        · show Act.put _ (some 14) _ = _
          simp only [Act.put, List.setIfInBounds_toArray, List.set_cons_zero, List.set_cons_succ, i64_w, i32_w]
          rfl
        refine two_ (i := 5) (j := 7) (Ni := some 17) (Nj := some 9) #[true, true, true, true, true, true, false, false, false] #[true, true, true, true, true, false, false, true, false] rfl rfl rfl rfl (two_of HT_.out (by kernel_rfl)) (by decide) (by decide) (fun K hK => ?_) (fun K hK => ?_)
        · skip
          refine Kd.R_append_rows_step (Kd.int .i64) (w0 := w) w.heap.size (by rfl) (.tmp 14) (.tmp 16) 22 3 (.int .i64 0) 8 rfl Try.underlying22 info3 rfl (by decide) (by omega) v843 y842 l0_1 _ _ _ (fun _ => True) (fun _ => False) rfl rfl ?aO ?aR (fun _ _ h => h) (fun _ h => h.elim) ?aF ?aB ?aS ?aL ?_
          (case aR => repeat (first | exact (Kd.C_below HR0_1.out HB.out) | (with_reducible refine Kd.C_alloc ?_ _) | (with_reducible refine Kd.C_drewN ?_ _) | (with_reducible refine Kd.C_drew ?_)))
          (case aB => exact (bl HB.out))
          (case aF => exact (fun _ _ => trivial))
          (case aO => exact (rk HO844.out))
          (case aS => exact (below_size (bl HB.out)))
          (case aL => have := LMc5.out; omega)
          intro v846 w12 ho hb hg hat
          rw [← Ny845.out] at ho
          have n0_ := Aside0.mk (blk_grown (g := gb839) (o := .cells #[.int .i64 a0_0, .slice A0_1 l0_1.length c0_1, .slice A0_2 l0_2.length c0_2] 30 (0, 0)) (bk BK839.out) hg (Kd.R_ne HO844.out BK839.out (by decide)))
          have n1_ := Aside0.mk (blk_grown (g := gb840) (o := .cells #[.int .i64 a1_0, .int .i64 a1_1, .int .i64 a1_2] 54 (0, 0)) (bk BK840.out) hg (Kd.R_ne HO844.out BK840.out (by decide)))
          have n2_ := Aside0.mk (blk_grown (g := gb841) (o := .cells #[.int .i64 0, .slice none 0 0, .slice none 0 0] 30 (0, 0)) (bk BK841.out) hg (Kd.R_ne HO844.out BK841.out (by decide)))
          have n3_ := Aside0.mk (hb)
          have n4_ := Aside0.mk (ho)
          clear BK839
          clear BK840
          clear BK841
          clear HB
          clear HO844
          have BK839 := n0_
          have BK840 := n1_
          have BK841 := n2_
          have HB := n3_
          have HO847 := n4_
          clear n0_ n1_ n2_ n3_ n4_
          clear ho hb hg hat
          obtain ⟨Ao13, co13, eo13⟩ := Kd.R_slice HO847.out
          (first | subst eo13 | (injection eo13 with f1_ f2_ f3_; have f4_ := f1_.symm; have f5_ := f3_.symm; clear f1_ f2_ f3_; subst f4_; subst f5_))
          refine hK.out _ _ ⟨(blk_cell BK839.out 0).trans rfl, (blk_cell BK839.out 1).trans rfl, (blk_cell BK839.out 2).trans rfl⟩ (fun hHeld => ?_)
          clear hK K
          refine norm_ (a' := ?_) ?_ ?_
          rotate_left
          · show Act.put _ (some 17) _ = _
            simp only [Act.put, List.setIfInBounds_toArray, List.set_cons_zero, List.set_cons_succ, i64_w, i32_w]
            rfl
          refine pure_ (i := 6) (N := some 18) (v := ?_) (a' := ?_) #[true, true, true, true, true, true, true, false, false] rfl rfl (any_of HT_.out (by kernel_rfl)) (fun _ _ _ h => h) (Or.inl ⟨by rfl, ?_⟩) ?_ ?_
          rotate_left
          · intro w'
            go_simp
            with_reducible rfl
          rotate_left
          · simp only [Act.put, List.setIfInBounds_toArray, List.set_cons_zero, List.set_cons_succ, i64_w, i32_w]
            rfl
          refine one_ (i := 7) (N := some 9) #[true, true, true, true, true, true, true, true, false] rfl rfl (one_of HT_.out (by kernel_rfl)) (by decide) (fun K hK => ?_)
          refine box_step ?hg (N := 9) ?hd (cs := #[.int .i64 0, .slice none 0 0, .slice none 0 0]) (t := 30) ?hr ?_; (case hd => rfl); (case hg => rfl); (case hr => first | (go_simp; done) | (go_simp; rfl))
          intro gb848 hg w14 hbox hb
          have n0_ := Aside0.mk (Kd.R_below (rk HO847.out) hb)
          have n1_ := Aside0.mk (bb BK839.out hb)
          have n2_ := Aside0.mk (bb BK840.out hb)
          have n3_ := Aside0.mk (bb BK841.out hb)
          have n4_ := Aside0.mk (below_step (bl HB.out) hb)
          have n5_ := Aside0.mk (hbox)
          have n6_ := Aside0.mk (gs HB.out hg)
          have n7_ := Aside0.mk (gs HB.out hg)
          have n8_ := Aside0.mk ((nl BK839.out hg))
          have n9_ := Aside0.mk ((ng BK839.out hg))
          have n10_ := Aside0.mk ((nl BK840.out hg))
          have n11_ := Aside0.mk ((ng BK840.out hg))
          have n12_ := Aside0.mk ((nl BK841.out hg))
          have n13_ := Aside0.mk ((ng BK841.out hg))
          clear HO847
          clear BK839
          clear BK840
          clear BK841
          clear HB
          have HO847 := n0_
          have BK839 := n1_
          have BK840 := n2_
          have BK841 := n3_
          have HB := n4_
          have BK848 := n5_
          have GW848 := n6_
          have GE848 := n7_
          have NB839_848 := n8_
          have NB848_839 := n9_
          have NB840_848 := n10_
          have NB848_840 := n11_
          have NB841_848 := n12_
          have NB848_841 := n13_
          clear n0_ n1_ n2_ n3_ n4_ n5_ n6_ n7_ n8_ n9_ n10_ n11_ n12_ n13_
          clear hb hbox hg
          refine hK.out _ _ ⟨(blk_cell BK839.out 0).trans rfl, (blk_cell BK839.out 1).trans rfl, (blk_cell BK839.out 2).trans rfl⟩ (fun hHeld => ?_)
          clear hK K
          refine norm_ (a' := ?_) ?_ ?_
          rotate_left
          · show Act.put _ (some 9) _ = _
            simp only [Act.put, List.setIfInBounds_toArray, List.set_cons_zero, List.set_cons_succ, i64_w, i32_w]
            rfl
          exact norm_ (by simp only [putAll, Act.put, List.setIfInBounds_toArray, List.set_cons_zero, List.set_cons_succ]) (hCont (v843, .slice Ao13 y845.length co13, gb848) _ ⟨hHeld, (rk HO847.out), (bk BK839.out), (bk BK840.out), (bk BK841.out), (bk BK848.out), GW848.out, GE848.out, NB839_848.out, NB848_839.out, NB840_848.out, NB848_840.out, NB841_848.out, NB848_841.out, (bl HB.out)⟩)
        · skip
          refine box_step ?hg (N := 9) ?hd (cs := #[.int .i64 0, .slice none 0 0, .slice none 0 0]) (t := 30) ?hr ?_; (case hd => rfl); (case hg => rfl); (case hr => first | (go_simp; done) | (go_simp; rfl))
          intro gb848 hg w12 hbox hb
          have n0_ := Aside0.mk (Kd.R_below (rk HO844.out) hb)
          have n1_ := Aside0.mk (bb BK839.out hb)
          have n2_ := Aside0.mk (bb BK840.out hb)
          have n3_ := Aside0.mk (bb BK841.out hb)
          have n4_ := Aside0.mk (below_step (bl HB.out) hb)
          have n5_ := Aside0.mk (hbox)
          have n6_ := Aside0.mk (gs HB.out hg)
          have n7_ := Aside0.mk (gs HB.out hg)
          have n8_ := Aside0.mk ((nl BK839.out hg))
          have n9_ := Aside0.mk ((ng BK839.out hg))
          have n10_ := Aside0.mk ((nl BK840.out hg))
          have n11_ := Aside0.mk ((ng BK840.out hg))
          have n12_ := Aside0.mk ((nl BK841.out hg))
          have n13_ := Aside0.mk ((ng BK841.out hg))
          clear HO844
          clear BK839
          clear BK840
          clear BK841
          clear HB
          have HO844 := n0_
          have BK839 := n1_
          have BK840 := n2_
          have BK841 := n3_
          have HB := n4_
          have BK848 := n5_
          have GW848 := n6_
          have GE848 := n7_
          have NB839_848 := n8_
          have NB848_839 := n9_
          have NB840_848 := n10_
          have NB848_840 := n11_
          have NB841_848 := n12_
          have NB848_841 := n13_
          clear n0_ n1_ n2_ n3_ n4_ n5_ n6_ n7_ n8_ n9_ n10_ n11_ n12_ n13_
          clear hb hbox hg
          refine hK.out _ _ ⟨(blk_cell BK839.out 0).trans rfl, (blk_cell BK839.out 1).trans rfl, (blk_cell BK839.out 2).trans rfl⟩ (fun hHeld => ?_)
          clear hK K
          refine norm_ (a' := ?_) ?_ ?_
          rotate_left
          · show Act.put _ (some 9) _ = _
            simp only [Act.put, List.setIfInBounds_toArray, List.set_cons_zero, List.set_cons_succ, i64_w, i32_w]
            rfl
          refine one_ (i := 5) (N := some 17) #[true, true, true, true, true, true, false, true, false] rfl rfl (one_of HT_.out (by kernel_rfl)) (by decide) (fun K hK => ?_)
          refine Kd.R_append_rows_step (Kd.int .i64) (w0 := w) w.heap.size (by rfl) (.tmp 14) (.tmp 16) 22 3 (.int .i64 0) 8 rfl Try.underlying22 info3 rfl (by decide) (by omega) v843 y842 l0_1 _ _ _ (fun _ => True) (fun _ => False) rfl rfl ?aO ?aR (fun _ _ h => h) (fun _ h => h.elim) ?aF ?aB ?aS ?aL ?_
          (case aR => repeat (first | exact (Kd.C_below HR0_1.out HB.out) | (with_reducible refine Kd.C_alloc ?_ _) | (with_reducible refine Kd.C_drewN ?_ _) | (with_reducible refine Kd.C_drew ?_)))
          (case aB => exact (bl HB.out))
          (case aF => exact (fun _ _ => trivial))
          (case aO => exact (rk HO844.out))
          (case aS => exact (below_size (bl HB.out)))
          (case aL => have := LMc5.out; omega)
          intro v846 w13 ho hb hg hat
          rw [← Ny845.out] at ho
          have n0_ := Aside0.mk (blk_grown (g := gb839) (o := .cells #[.int .i64 a0_0, .slice A0_1 l0_1.length c0_1, .slice A0_2 l0_2.length c0_2] 30 (0, 0)) (bk BK839.out) hg (Kd.R_ne HO844.out BK839.out (by decide)))
          have n1_ := Aside0.mk (blk_grown (g := gb840) (o := .cells #[.int .i64 a1_0, .int .i64 a1_1, .int .i64 a1_2] 54 (0, 0)) (bk BK840.out) hg (Kd.R_ne HO844.out BK840.out (by decide)))
          have n2_ := Aside0.mk (blk_grown (g := gb841) (o := .cells #[.int .i64 0, .slice none 0 0, .slice none 0 0] 30 (0, 0)) (bk BK841.out) hg (Kd.R_ne HO844.out BK841.out (by decide)))
          have n3_ := Aside0.mk (blk_grown (g := gb848) (o := .cells #[.int .i64 0, .slice none 0 0, .slice none 0 0] 30 (0, 0)) (bk BK848.out) hg (Kd.R_ne HO844.out BK848.out (by decide)))
          have n4_ := Aside0.mk (hb)
          have n5_ := Aside0.mk (ho)
          clear BK839
          clear BK840
          clear BK841
          clear BK848
          clear HB
          clear HO844
          have BK839 := n0_
          have BK840 := n1_
          have BK841 := n2_
          have BK848 := n3_
          have HB := n4_
          have HO847 := n5_
          clear n0_ n1_ n2_ n3_ n4_ n5_
          clear ho hb hg hat
          obtain ⟨Ao14, co14, eo14⟩ := Kd.R_slice HO847.out
          (first | subst eo14 | (injection eo14 with f1_ f2_ f3_; have f4_ := f1_.symm; have f5_ := f3_.symm; clear f1_ f2_ f3_; subst f4_; subst f5_))
          refine hK.out _ _ ⟨(blk_cell BK839.out 0).trans rfl, (blk_cell BK839.out 1).trans rfl, (blk_cell BK839.out 2).trans rfl⟩ (fun hHeld => ?_)
          clear hK K
          refine norm_ (a' := ?_) ?_ ?_
          rotate_left
          · show Act.put _ (some 17) _ = _
            simp only [Act.put, List.setIfInBounds_toArray, List.set_cons_zero, List.set_cons_succ, i64_w, i32_w]
            rfl
          refine pure_ (i := 6) (N := some 18) (v := ?_) (a' := ?_) #[true, true, true, true, true, true, true, true, false] rfl rfl (any_of HT_.out (by kernel_rfl)) (fun _ _ _ h => h) (Or.inl ⟨by rfl, ?_⟩) ?_ ?_
          rotate_left
          · intro w'
            go_simp
            with_reducible rfl
          rotate_left
          · simp only [Act.put, List.setIfInBounds_toArray, List.set_cons_zero, List.set_cons_succ, i64_w, i32_w]
            rfl
          exact norm_ (by simp only [putAll, Act.put, List.setIfInBounds_toArray, List.set_cons_zero, List.set_cons_succ]) (hCont (v843, .slice Ao14 y845.length co14, gb848) _ ⟨hHeld, (rk HO847.out), (bk BK839.out), (bk BK840.out), (bk BK841.out), (bk BK848.out), GW848.out, GE848.out, NB839_848.out, NB848_839.out, NB840_848.out, NB848_840.out, NB841_848.out, NB848_841.out, (bl HB.out)⟩)
      · skip
        refine box_step ?hg (N := 9) ?hd (cs := #[.int .i64 0, .slice none 0 0, .slice none 0 0]) (t := 30) ?hr ?_; (case hd => rfl); (case hg => rfl); (case hr => first | (go_simp; done) | (go_simp; rfl))
        intro gb848 hg w10 hbox hb
        have n0_ := Aside0.mk (bb BK839.out hb)
        have n1_ := Aside0.mk (bb BK840.out hb)
        have n2_ := Aside0.mk (bb BK841.out hb)
        have n3_ := Aside0.mk (below_step (bl HB.out) hb)
        have n4_ := Aside0.mk (hbox)
        have n5_ := Aside0.mk (gs HB.out hg)
        have n6_ := Aside0.mk (gs HB.out hg)
        have n7_ := Aside0.mk ((nl BK839.out hg))
        have n8_ := Aside0.mk ((ng BK839.out hg))
        have n9_ := Aside0.mk ((nl BK840.out hg))
        have n10_ := Aside0.mk ((ng BK840.out hg))
        have n11_ := Aside0.mk ((nl BK841.out hg))
        have n12_ := Aside0.mk ((ng BK841.out hg))
        clear BK839
        clear BK840
        clear BK841
        clear HB
        have BK839 := n0_
        have BK840 := n1_
        have BK841 := n2_
        have HB := n3_
        have BK848 := n4_
        have GW848 := n5_
        have GE848 := n6_
        have NB839_848 := n7_
        have NB848_839 := n8_
        have NB840_848 := n9_
        have NB848_840 := n10_
        have NB841_848 := n11_
        have NB848_841 := n12_
        clear n0_ n1_ n2_ n3_ n4_ n5_ n6_ n7_ n8_ n9_ n10_ n11_ n12_
        clear hb hbox hg
        refine hK.out _ _ ⟨(blk_cell BK839.out 0).trans rfl, (blk_cell BK839.out 1).trans rfl, (blk_cell BK839.out 2).trans rfl⟩ (fun hHeld => ?_)
        clear hK K
        refine norm_ (a' := ?_) ?_ ?_
        rotate_left
        · show Act.put _ (some 9) _ = _
          simp only [Act.put, List.setIfInBounds_toArray, List.set_cons_zero, List.set_cons_succ, i64_w, i32_w]
          rfl
        refine one_ (i := 2) (N := some 14) #[true, true, true, true, true, false, false, true, false] rfl rfl (one_of HT_.out (by kernel_rfl)) (by decide) (fun K hK => ?_)
        refine Kd.R_lit_step (Kd.int .i64) _ 3 ?hg (N := 14) ?hd (xs := ([] : List Int)) (inner := []) (ok := fun _ => True) (okp := fun _ => True) ?hr ?hp (fun _ hk => hk) trivial (Below.refl _ _) (Nat.le_refl _) (by simp) ?_; (case hd => rfl); (case hg => rfl); (case hr => first | (go_simp; done) | (go_simp; rfl)); (case hp => exact (Reps.none _ _))
        intro v843 w11 ho12 hb hg_ hnew_
        clear hg_ hnew_
        (first | rw [← Ny842.out] at ho12 | (simp only [Int.reduceToNat] at ho12; rw [← Ny842.out] at ho12))
        have n0_ := Aside0.mk (Kd.R_lower ho12 (below_size (bl HB.out)))
        have n1_ := Aside0.mk (bb BK839.out hb)
        have n2_ := Aside0.mk (bb BK840.out hb)
        have n3_ := Aside0.mk (bb BK841.out hb)
        have n4_ := Aside0.mk (bb BK848.out hb)
        have n5_ := Aside0.mk (below_step (bl HB.out) hb)
        clear BK839
        clear BK840
        clear BK841
        clear BK848
        clear HB
        have HO844 := n0_
        have BK839 := n1_
        have BK840 := n2_
        have BK841 := n3_
        have BK848 := n4_
        have HB := n5_
        clear n0_ n1_ n2_ n3_ n4_ n5_
        clear hb ho12
        refine hK.out _ _ ⟨(blk_cell BK839.out 0).trans rfl, (blk_cell BK839.out 1).trans rfl, (blk_cell BK839.out 2).trans rfl⟩ (fun hHeld => ?_)
        clear hK K
        refine norm_ (a' := ?_) ?_ ?_
        rotate_left
        · show Act.put _ (some 14) _ = _
          simp only [Act.put, List.setIfInBounds_toArray, List.set_cons_zero, List.set_cons_succ, i64_w, i32_w]
          rfl
        refine one_ (i := 5) (N := some 17) #[true, true, true, true, true, true, false, true, false] rfl rfl (one_of HT_.out (by kernel_rfl)) (by decide) (fun K hK => ?_)
        refine Kd.R_append_rows_step (Kd.int .i64) (w0 := w) w.heap.size (by rfl) (.tmp 14) (.tmp 16) 22 3 (.int .i64 0) 8 rfl Try.underlying22 info3 rfl (by decide) (by omega) v843 y842 l0_1 _ _ _ (fun _ => True) (fun _ => False) rfl rfl ?aO ?aR (fun _ _ h => h) (fun _ h => h.elim) ?aF ?aB ?aS ?aL ?_
        (case aR => repeat (first | exact (Kd.C_below HR0_1.out HB.out) | (with_reducible refine Kd.C_alloc ?_ _) | (with_reducible refine Kd.C_drewN ?_ _) | (with_reducible refine Kd.C_drew ?_)))
        (case aB => exact (bl HB.out))
        (case aF => exact (fun _ _ => trivial))
        (case aO => exact (rk HO844.out))
        (case aS => exact (below_size (bl HB.out)))
        (case aL => have := LMc5.out; omega)
        intro v846 w13 ho hb hg hat
        rw [← Ny845.out] at ho
        have n0_ := Aside0.mk (blk_grown (g := gb839) (o := .cells #[.int .i64 a0_0, .slice A0_1 l0_1.length c0_1, .slice A0_2 l0_2.length c0_2] 30 (0, 0)) (bk BK839.out) hg (Kd.R_ne HO844.out BK839.out (by decide)))
        have n1_ := Aside0.mk (blk_grown (g := gb840) (o := .cells #[.int .i64 a1_0, .int .i64 a1_1, .int .i64 a1_2] 54 (0, 0)) (bk BK840.out) hg (Kd.R_ne HO844.out BK840.out (by decide)))
        have n2_ := Aside0.mk (blk_grown (g := gb841) (o := .cells #[.int .i64 0, .slice none 0 0, .slice none 0 0] 30 (0, 0)) (bk BK841.out) hg (Kd.R_ne HO844.out BK841.out (by decide)))
        have n3_ := Aside0.mk (blk_grown (g := gb848) (o := .cells #[.int .i64 0, .slice none 0 0, .slice none 0 0] 30 (0, 0)) (bk BK848.out) hg (Kd.R_ne HO844.out BK848.out (by decide)))
        have n4_ := Aside0.mk (hb)
        have n5_ := Aside0.mk (ho)
        clear BK839
        clear BK840
        clear BK841
        clear BK848
        clear HB
        clear HO844
        have BK839 := n0_
        have BK840 := n1_
        have BK841 := n2_
        have BK848 := n3_
        have HB := n4_
        have HO847 := n5_
        clear n0_ n1_ n2_ n3_ n4_ n5_
        clear ho hb hg hat
        obtain ⟨Ao14, co14, eo14⟩ := Kd.R_slice HO847.out
        (first | subst eo14 | (injection eo14 with f1_ f2_ f3_; have f4_ := f1_.symm; have f5_ := f3_.symm; clear f1_ f2_ f3_; subst f4_; subst f5_))
        refine hK.out _ _ ⟨(blk_cell BK839.out 0).trans rfl, (blk_cell BK839.out 1).trans rfl, (blk_cell BK839.out 2).trans rfl⟩ (fun hHeld => ?_)
        clear hK K
        refine norm_ (a' := ?_) ?_ ?_
        rotate_left
        · show Act.put _ (some 17) _ = _
          simp only [Act.put, List.setIfInBounds_toArray, List.set_cons_zero, List.set_cons_succ, i64_w, i32_w]
          rfl
        refine pure_ (i := 6) (N := some 18) (v := ?_) (a' := ?_) #[true, true, true, true, true, true, true, true, false] rfl rfl (any_of HT_.out (by kernel_rfl)) (fun _ _ _ h => h) (Or.inl ⟨by rfl, ?_⟩) ?_ ?_
        rotate_left
        · intro w'
          go_simp
          with_reducible rfl
        rotate_left
        · simp only [Act.put, List.setIfInBounds_toArray, List.set_cons_zero, List.set_cons_succ, i64_w, i32_w]
          rfl
        exact norm_ (by simp only [putAll, Act.put, List.setIfInBounds_toArray, List.set_cons_zero, List.set_cons_succ]) (hCont (v843, .slice Ao14 y845.length co14, gb848) _ ⟨hHeld, (rk HO847.out), (bk BK839.out), (bk BK840.out), (bk BK841.out), (bk BK848.out), GW848.out, GE848.out, NB839_848.out, NB848_839.out, NB840_848.out, NB848_840.out, NB841_848.out, NB848_841.out, (bl HB.out)⟩)
    rintro ⟨v843, v846, gb848⟩ w15 ⟨hS_, h0_, h1_, h2_, h3_, h4_, h5_, h6_, h7_, h8_, h9_, h10_, h11_, h12_, h13_⟩
    have n0_ : Aside0 (Kd.R (Kd.int .i64) 3 w15 w.heap.size (fun _ => True) v846 y845) := ⟨h0_⟩
    have n1_ : Aside0 (w15.heap[gb839]? = some (.cells #[.int .i64 a0_0, .slice A0_1 l0_1.length c0_1, .slice A0_2 l0_2.length c0_2] 30 (0, 0))) := ⟨h1_⟩
    have n2_ : Aside0 (w15.heap[gb840]? = some (.cells #[.int .i64 a1_0, .int .i64 a1_1, .int .i64 a1_2] 54 (0, 0))) := ⟨h2_⟩
    have n3_ : Aside0 (w15.heap[gb841]? = some (.cells #[.int .i64 0, .slice none 0 0, .slice none 0 0] 30 (0, 0))) := ⟨h3_⟩
    have n4_ : Aside0 (w15.heap[gb848]? = some (.cells #[.int .i64 0, .slice none 0 0, .slice none 0 0] 30 (0, 0))) := ⟨h4_⟩
    have n5_ : Aside0 (w.heap.size ≤ gb848) := ⟨h5_⟩
    have n6_ : Aside0 (w.heap.size ≤ gb848) := ⟨h6_⟩
    have n7_ : Aside0 (gb839 ≠ gb848) := ⟨h7_⟩
    have n8_ : Aside0 (gb848 ≠ gb839) := ⟨h8_⟩
    have n9_ : Aside0 (gb840 ≠ gb848) := ⟨h9_⟩
    have n10_ : Aside0 (gb848 ≠ gb840) := ⟨h10_⟩
    have n11_ : Aside0 (gb841 ≠ gb848) := ⟨h11_⟩
    have n12_ : Aside0 (gb848 ≠ gb841) := ⟨h12_⟩
    have n13_ : Aside0 (Below w.heap.size w w15) := ⟨h13_⟩
    clear BK839
    clear BK840
    clear BK841
    clear HB
    clear h0_ h1_ h2_ h3_ h4_ h5_ h6_ h7_ h8_ h9_ h10_ h11_ h12_ h13_
    have HO847 := n0_
    have BK839 := n1_
    have BK840 := n2_
    have BK841 := n3_
    have BK848 := n4_
    have GW848 := n5_
    have GE848 := n6_
    have NB839_848 := n7_
    have NB848_839 := n8_
    have NB840_848 := n9_
    have NB848_840 := n10_
    have NB841_848 := n11_
    have NB848_841 := n12_
    have HB := n13_
    clear n0_ n1_ n2_ n3_ n4_ n5_ n6_ n7_ n8_ n9_ n10_ n11_ n12_ n13_
    have hHeld : w15.cell? ⟨gb839, 0, none⟩ = some (.int .i64 a0_0) ∧ w15.cell? ⟨gb839, 1, none⟩ = some (.slice A0_1 l0_1.length c0_1) ∧ w15.cell? ⟨gb839, 2, none⟩ = some (.slice A0_2 l0_2.length c0_2) := hS_
    obtain ⟨Ao16, co16, eo16⟩ := Kd.R_slice HO847.out
    (first | subst eo16 | (injection eo16 with f1_ f2_ f3_; have f4_ := f1_.symm; have f5_ := f3_.symm; clear f1_ f2_ f3_; subst f4_; subst f5_))
    refine norm_ (a' := ?_) ?_ ?_
    rotate_left
    · simp only [putAll, Act.put, List.setIfInBounds_toArray, List.set_cons_zero, List.set_cons_succ]
      rfl
    refine one_ (i := 8) (N := none) #[true, true, true, true, true, true, true, true, true] rfl rfl (one_of HT_.out (by kernel_rfl)) (by decide) (fun K hK => ?_)
    have hs17 : w15.cell? ⟨gb848, 0, none⟩ = some (.int .i64 0) := (blk_cell BK848.out 0).trans rfl
    have hfs17 := blk_frozen BK848.out 0
    have hns17_0 := NB839_848.out
    have hns17_1 := NB840_848.out
    have hns17_2 := NB841_848.out
    have hms17_0 := NB848_839.out
    have hms17_1 := NB848_840.out
    have hms17_2 := NB848_841.out
    have hs18 : w15.cell? ⟨gb848, 1, none⟩ = some (.slice none 0 0) := (blk_cell BK848.out 1).trans rfl
    have hfs18 := blk_frozen BK848.out 1
    have hns18_0 := NB839_848.out
    have hns18_1 := NB840_848.out
    have hns18_2 := NB841_848.out
    have hms18_0 := NB848_839.out
    have hms18_1 := NB848_840.out
    have hms18_2 := NB848_841.out
    have hs19 : w15.cell? ⟨gb848, 2, none⟩ = some (.slice none 0 0) := (blk_cell BK848.out 2).trans rfl
    have hfs19 := blk_frozen BK848.out 2
    have hns19_0 := NB839_848.out
    have hns19_1 := NB840_848.out
    have hns19_2 := NB841_848.out
    have hms19_0 := NB848_839.out
    have hms19_1 := NB848_840.out
    have hms19_2 := NB848_841.out
    refine skip_ (w1 := ?_) (by rfl) rfl ?_ ?_
    rotate_left
    · go_simp
      rfl
    refine hK.out _ _ ⟨((cell_far (p := ⟨gb848, _, none⟩) NB839_848.out _).trans (((cell_far (p := ⟨gb848, _, none⟩) NB839_848.out _).trans (((cell_far (p := ⟨gb848, _, none⟩) NB839_848.out _).trans (hHeld.1)))))), ((cell_far (p := ⟨gb848, _, none⟩) NB839_848.out _).trans (((cell_far (p := ⟨gb848, _, none⟩) NB839_848.out _).trans (((cell_far (p := ⟨gb848, _, none⟩) NB839_848.out _).trans (hHeld.2.1)))))), ((cell_far (p := ⟨gb848, _, none⟩) NB839_848.out _).trans (((cell_far (p := ⟨gb848, _, none⟩) NB839_848.out _).trans (((cell_far (p := ⟨gb848, _, none⟩) NB839_848.out _).trans (hHeld.2.2))))))⟩ (fun hHeld => ?_)
    clear hK K
    refine done_ (done_of HT_.out (by kernel_rfl)) ?_
    try go_wp2
    go_loopg [10] k (fun kq v10 w' => ∃ (x10_1 : Int) (x849002_1 : List (S71)) (u849002 : Value), v10 = .int .i64 x10_1 ∧ Aside0 (spec_l02Fill.l0 kq a2 a3 x10_1 a0_0 l0_1 l0_2 a1_0 a1_1 a1_2 a0_0 y845 x849002_1 = some (r1, r2, r3)) ∧ Aside0 (kq ≤ k) ∧ Aside0 (Kd.R (Kd.int .i64) 3 w' w.heap.size (fun _ => True) (.slice Ao16 y845.length co16) y845) ∧ Aside0 (Kd.R k71 71 w' w.heap.size (fun _ => True) u849002 x849002_1) ∧ Aside0 (w'.heap[gb839]? = some (.cells #[.int .i64 a0_0, (.slice A0_1 l0_1.length c0_1), (.slice A0_2 l0_2.length c0_2)] 30 (0, 0))) ∧ Aside0 (w'.heap[gb840]? = some (.cells #[.int .i64 a1_0, .int .i64 a1_1, .int .i64 a1_2] 54 (0, 0))) ∧ Aside0 (w'.heap[gb841]? = some (.cells #[.int .i64 0, (.slice none 0 0), (.slice none 0 0)] 30 (0, 0))) ∧ Aside0 (w'.heap[gb848]? = some (.cells #[.int .i64 a0_0, (.slice Ao16 y845.length co16), u849002] 30 (0, 0))) ∧ Aside0 (Below w.heap.size w w'))
    case atStart => exact ⟨(0), (([] : List (S71))), (.slice none 0 0), (by first | rfl | (simp; done) | (simp [*]; done)), H', ⟨Nat.le_refl _⟩, ⟨by (with_reducible repeat (first | apply Kd.R_alloc | apply Kd.R_drewN | apply Kd.R_drew)); exact Kd.R_mono (Kd.R_far (p := ⟨gb848, 2, none⟩) (Kd.R_far (p := ⟨gb848, 1, none⟩) (Kd.R_far (p := ⟨gb848, 0, none⟩) (Kd.R_types HO847.out BK848.out (by decide)) (fun _ hk => hk.2) (.int .i64 a0_0)) (fun _ hk => hk.2) (.slice Ao16 y845.length co16)) (fun _ hk => hk.2) (.slice none 0 0)) (fun _ hk => trivial)⟩, ⟨by first | exact Kd.R_nil _ _ _ _ _ | exact Kd.N_nil _ _ _ _ _ | exact Kd.V_nil _ _ _ _ _ | exact Kd.Q_nil _ _ _ _ _ | exact Kd.S_nil _ _ _ _ _⟩, ⟨by (with_reducible repeat (first | apply bN | apply bD | apply bA)); refine blk_far ?_ NB839_848.out _; (with_reducible repeat (first | apply bN | apply bD | apply bA)); refine blk_far ?_ NB839_848.out _; (with_reducible repeat (first | apply bN | apply bD | apply bA)); refine blk_far ?_ NB839_848.out _; (with_reducible repeat (first | apply bN | apply bD | apply bA)); exact BK839.out⟩, ⟨by (with_reducible repeat (first | apply bN | apply bD | apply bA)); refine blk_far ?_ NB840_848.out _; (with_reducible repeat (first | apply bN | apply bD | apply bA)); refine blk_far ?_ NB840_848.out _; (with_reducible repeat (first | apply bN | apply bD | apply bA)); refine blk_far ?_ NB840_848.out _; (with_reducible repeat (first | apply bN | apply bD | apply bA)); exact BK840.out⟩, ⟨by (with_reducible repeat (first | apply bN | apply bD | apply bA)); refine blk_far ?_ NB841_848.out _; (with_reducible repeat (first | apply bN | apply bD | apply bA)); refine blk_far ?_ NB841_848.out _; (with_reducible repeat (first | apply bN | apply bD | apply bA)); refine blk_far ?_ NB841_848.out _; (with_reducible repeat (first | apply bN | apply bD | apply bA)); exact BK841.out⟩, ⟨by (with_reducible repeat (first | apply bN | apply bD | apply bA)); refine blk_put (cs := #[.int .i64 a0_0, .slice Ao16 y845.length co16, .slice none 0 0]) ?_ 2 _ rfl; (with_reducible repeat (first | apply bN | apply bD | apply bA)); refine blk_put (cs := #[.int .i64 a0_0, .slice none 0 0, .slice none 0 0]) ?_ 1 _ rfl; (with_reducible repeat (first | apply bN | apply bD | apply bA)); refine blk_put (cs := #[.int .i64 0, .slice none 0 0, .slice none 0 0]) ?_ 0 _ rfl; (with_reducible repeat (first | apply bN | apply bD | apply bA)); exact BK848.out⟩, ⟨bl HB.out⟩⟩
    case round =>
      clear H'
      try clear p2
      try clear c5
      try clear c8
      obtain ⟨x10_1, x849002_1, u849002, rfl, HA, HK1, HO_849001, HO_849002, BK839, BK840, BK841, BK848, HB⟩ := hrel
      cases gk with
      | zero => exact absurd HA.out (by simp [spec_l02Fill.l0])
      | succ k1 =>
        have H := HA.out
        clear HA
        simp only [spec_l02Fill.l0] at H
        by_cases c20 : x10_1 < (l0_2.length : Int)
        · rw [if_pos c20] at H
          have c20b0 : decide (x10_1 < (l0_2.length : Int)) = true := decide_eq_true c20
          clear c20
          by_cases c21 : 0 ≤ x10_1
          · rw [if_pos c21] at H
            have c21b0 : decide (0 ≤ x10_1) = true := decide_eq_true c21
            clear c21
            have HC22 := Aside0.mk H
            clear H
            have hnb23 := NB839_840.out
            have hnc23 := NB840_839.out
            have hnb24 := NB839_841.out
            have hnc24 := NB841_839.out
            have hnb25 := NB839_848.out
            have hnc25 := NB848_839.out
            have hcz26_0 : wr.cell? ⟨gb839, 0, none⟩ = some (.int .i64 a0_0) := (blk_cell BK839.out 0).trans rfl
            have hcz26_1 : wr.cell? ⟨gb839, 1, none⟩ = some (.slice A0_1 l0_1.length c0_1) := (blk_cell BK839.out 1).trans rfl
            have hcz26_2 : wr.cell? ⟨gb839, 2, none⟩ = some (.slice A0_2 l0_2.length c0_2) := (blk_cell BK839.out 2).trans rfl
            have hfz26_0 := blk_frozen BK839.out 0
            have hfz26_1 := blk_frozen BK839.out 1
            have hfz26_2 := blk_frozen BK839.out 2
            have p849 : 0 ≤ (x10_1 : Int) := of_decide_eq_true (by first | (with_reducible assumption) | assumption)
            have q849 : x10_1 < (l0_2.length : Int) := of_decide_eq_true (by first | (with_reducible assumption) | assumption)
            obtain ⟨ad849, e849, hx849_0, hx849_1, hx849_2, hx849_3⟩ := at_T71 HR0_2.out x10_1 p849 q849
            cases e849
            replace hx849_0 := (HB.out.cell (World.block_lt_of_cell? w _ hx849_0)).trans hx849_0
            replace hx849_1 := (HB.out.cell (World.block_lt_of_cell? w _ hx849_1)).trans hx849_1
            replace hx849_2 := (HB.out.cell (World.block_lt_of_cell? w _ hx849_2)).trans hx849_2
            replace hx849_3 := (HB.out.cell (World.block_lt_of_cell? w _ hx849_3)).trans hx849_3
            replace p849 := eq_true p849
            replace q849 := eq_true q849
            go_upto_if 35 with (first | ((with_reducible refine gate_dst (N := 11) rfl ?_); refine bx (cs := #[.int .i64 0, .int .i64 0, .int .i64 0, .bool false]) (t := 71) fun gb850 hg w27 hbox hb => ?_; have n0_ := Aside0.mk (Kd.R_below (rk HO_849001.out) hb); have n1_ := Aside0.mk (Kd.R_below (Kd.R_elderB (rk HO_849002.out) gb850 (Nat.le_of_eq hg.symm)) hb); have n2_ := Aside0.mk (bb BK839.out hb); have n3_ := Aside0.mk (bb BK840.out hb); have n4_ := Aside0.mk (bb BK841.out hb); have n5_ := Aside0.mk (bb BK848.out hb); have n6_ := Aside0.mk (below_step (bl HB.out) hb); have n7_ := Aside0.mk (hbox); have n8_ := Aside0.mk (gs HB.out hg); have n9_ := Aside0.mk (gs HB.out hg); have n10_ := Aside0.mk ((nl BK839.out hg)); have n11_ := Aside0.mk ((ng BK839.out hg)); have n12_ := Aside0.mk ((nl BK840.out hg)); have n13_ := Aside0.mk ((ng BK840.out hg)); have n14_ := Aside0.mk ((nl BK841.out hg)); have n15_ := Aside0.mk ((ng BK841.out hg)); have n16_ := Aside0.mk ((nl BK848.out hg)); have n17_ := Aside0.mk ((ng BK848.out hg)); clear HO_849001; clear HO_849002; clear BK839; clear BK840; clear BK841; clear BK848; clear HB; have HO_849001 := n0_; have HO_849002 := n1_; have BK839 := n2_; have BK840 := n3_; have BK841 := n4_; have BK848 := n5_; have HB := n6_; have BK850 := n7_; have GW850 := n8_; have GE850 := n9_; have NB839_850 := n10_; have NB850_839 := n11_; have NB840_850 := n12_; have NB850_840 := n13_; have NB841_850 := n14_; have NB850_841 := n15_; have NB848_850 := n16_; have NB850_848 := n17_; clear n0_ n1_ n2_ n3_ n4_ n5_ n6_ n7_ n8_ n9_ n10_ n11_ n12_ n13_ n14_ n15_ n16_ n17_; clear hb hbox hg; have hnb28 := NB850_839.out; have hnc28 := NB839_850.out; have hnb29 := NB850_840.out; have hnc29 := NB840_850.out; have hnb30 := NB850_841.out; have hnc30 := NB841_850.out; have hnb31 := NB850_848.out; have hnc31 := NB848_850.out; have hcz32_0 : w27.cell? ⟨gb850, 0, none⟩ = some (.int .i64 0) := (blk_cell BK850.out 0).trans rfl; have hcz32_1 : w27.cell? ⟨gb850, 1, none⟩ = some (.int .i64 0) := (blk_cell BK850.out 1).trans rfl; have hcz32_2 : w27.cell? ⟨gb850, 2, none⟩ = some (.int .i64 0) := (blk_cell BK850.out 2).trans rfl; have hcz32_3 : w27.cell? ⟨gb850, 3, none⟩ = some (.bool false) := (blk_cell BK850.out 3).trans rfl; have hfz32_0 := blk_frozen BK850.out 0; have hfz32_1 := blk_frozen BK850.out 1; have hfz32_2 := blk_frozen BK850.out 2; have hfz32_3 := blk_frozen BK850.out 3; have hnb33 := NB840_841.out; have hnc33 := NB841_840.out; have hnb34 := NB840_848.out; have hnc34 := NB848_840.out; have hcz35_0 : w27.cell? ⟨gb840, 0, none⟩ = some (.int .i64 a1_0) := (blk_cell BK840.out 0).trans rfl; have hcz35_1 : w27.cell? ⟨gb840, 1, none⟩ = some (.int .i64 a1_1) := (blk_cell BK840.out 1).trans rfl; have hcz35_2 : w27.cell? ⟨gb840, 2, none⟩ = some (.int .i64 a1_2) := (blk_cell BK840.out 2).trans rfl; have hfz35_0 := blk_frozen BK840.out 0; have hfz35_1 := blk_frozen BK840.out 1; have hfz35_2 := blk_frozen BK840.out 2))
            (try simp only [Act.put, List.setIfInBounds_toArray, List.set_cons_zero, List.set_cons_succ])
            go_cut [] (fun wc => ∃ (kq : Nat) (x849002_21 : List (S71)) (u849002 : Value), Aside0 (spec_l02Fill.j1 kq a2 a3 x10_1 a0_0 l0_1 l0_2 a1_0 a1_1 a1_2 a0_0 y845 x849002_21 ((rd_T71 l0_2 x10_1).f0) ((rd_T71 l0_2 x10_1).f1) ((rd_T71 l0_2 x10_1).f2) ((rd_T71 l0_2 x10_1).f3) = some (r1, r2, r3)) ∧ Aside0 (kq ≤ k1) ∧ Aside0 (Kd.R (Kd.int .i64) 3 wc w.heap.size (fun _ => True) (.slice Ao16 y845.length co16) y845) ∧ Aside0 (Kd.R k71 71 wc w.heap.size (fun k_ => k_ ≠ gb850) u849002 x849002_21) ∧ Aside0 (wc.heap[gb839]? = some (.cells #[.int .i64 a0_0, (.slice A0_1 l0_1.length c0_1), (.slice (some ad849) l0_2.length c0_2)] 30 (0, 0))) ∧ Aside0 (wc.heap[gb840]? = some (.cells #[.int .i64 a1_0, .int .i64 a1_1, .int .i64 a1_2] 54 (0, 0))) ∧ Aside0 (wc.heap[gb841]? = some (.cells #[.int .i64 0, (.slice none 0 0), (.slice none 0 0)] 30 (0, 0))) ∧ Aside0 (wc.heap[gb848]? = some (.cells #[.int .i64 a0_0, (.slice Ao16 y845.length co16), u849002] 30 (0, 0))) ∧ Aside0 (wc.heap[gb850]? = some (.cells #[.int .i64 ((rd_T71 l0_2 x10_1).f0), .int .i64 ((rd_T71 l0_2 x10_1).f1), .int .i64 ((rd_T71 l0_2 x10_1).f2), .bool ((rd_T71 l0_2 x10_1).f3)] 71 (0, 0))) ∧ Aside0 (Below w.heap.size w wc))
            case first =>
              have H := HC22.out
              clear HC22
              by_cases c36 : ((rd_T71 l0_2 x10_1).f0) = a1_1
              · rw [if_pos c36] at H
                have c36b0 : (((rd_T71 l0_2 x10_1).f0) == a1_1) = true := beq_iff_eq.mpr c36
                have c36b1 : (((rd_T71 l0_2 x10_1).f0) != a1_1) = false := bne_eq_false_iff_eq.mpr c36
                clear c36
                (first | rw [c36b0] | (simp only [i64_w, i32_w]; rw [c36b0]) | skip)
                by_cases c37 : x849002_1.length < 4398046511104
                · rw [if_pos c37] at H
                  have LMc37 := Aside0.mk c37
                  clear c37
                  obtain ⟨y851, hy851⟩ : ∃ y_ : List (S71), y_ = (x849002_1 ++ [(⟨a1_1, a3, a2, false⟩ : S71)]) := ⟨_, rfl⟩
                  replace H : (if a3 < a1_2 then (if y851.length < 4398046511104 then (spec_l02Fill.j1 k1 a2 a3 x10_1 a0_0 l0_1 l0_2 a1_0 a1_1 a1_2 a0_0 y845 (y851 ++ [(⟨wrap64 (a1_1 + a3), wrap64 (a1_2 - a3), 0, false⟩ : S71)]) ((rd_T71 l0_2 x10_1).f0) ((rd_T71 l0_2 x10_1).f1) ((rd_T71 l0_2 x10_1).f2) ((rd_T71 l0_2 x10_1).f3)) else (none)) else (spec_l02Fill.j1 k1 a2 a3 x10_1 a0_0 l0_1 l0_2 a1_0 a1_1 a1_2 a0_0 y845 y851 ((rd_T71 l0_2 x10_1).f0) ((rd_T71 l0_2 x10_1).f1) ((rd_T71 l0_2 x10_1).f2) ((rd_T71 l0_2 x10_1).f3))) = some (r1, r2, r3) := by first | (rw [hy851]; with_reducible exact H) | (have H2_ := (Option.bind_some _ _).symm.trans H; rw [hy851]; with_reducible exact H2_) | (have H2_ := (Option.bind_some _ _).symm.trans H; with_reducible exact H2_) | with_reducible exact H | (rw [hy851]; exact H) | exact H
                  have Ny851 := Aside0.mk hy851
                  clear hy851
                  by_cases c38 : a3 < a1_2
                  · rw [if_pos c38] at H
                    have c38b0 : decide (a3 < a1_2) = true := decide_eq_true c38
                    clear c38
                    by_cases c39 : y851.length < 4398046511104
                    · rw [if_pos c39] at H
                      have LMc39 := Aside0.mk c39
                      clear c39
                      obtain ⟨y854, hy854⟩ : ∃ y_ : List (S71), y_ = (y851 ++ [(⟨wrap64 (a1_1 + a3), wrap64 (a1_2 - a3), 0, false⟩ : S71)]) := ⟨_, rfl⟩
                      replace H : (spec_l02Fill.j1 k1 a2 a3 x10_1 a0_0 l0_1 l0_2 a1_0 a1_1 a1_2 a0_0 y845 y854 ((rd_T71 l0_2 x10_1).f0) ((rd_T71 l0_2 x10_1).f1) ((rd_T71 l0_2 x10_1).f2) ((rd_T71 l0_2 x10_1).f3)) = some (r1, r2, r3) := by first | (rw [hy854]; with_reducible exact H) | (have H2_ := (Option.bind_some _ _).symm.trans H; rw [hy854]; with_reducible exact H2_) | (have H2_ := (Option.bind_some _ _).symm.trans H; with_reducible exact H2_) | with_reducible exact H | (rw [hy854]; exact H) | exact H
                      have Ny854 := Aside0.mk hy854
                      clear hy854
                      have H' := Aside0.mk H
                      clear H
                      have hnb40 := NB848_839.out
                      have hnc40 := NB839_848.out
                      have hnb41 := NB848_840.out
                      have hnc41 := NB840_848.out
                      have hnb42 := NB848_841.out
                      have hnc42 := NB841_848.out
                      have hnb43 := NB848_850.out
                      have hnc43 := NB850_848.out
                      have hcz44_0 : w27.cell? ⟨gb848, 0, none⟩ = some (.int .i64 a0_0) := (blk_cell BK848.out 0).trans rfl
                      have hcz44_1 : w27.cell? ⟨gb848, 1, none⟩ = some (.slice Ao16 y845.length co16) := (blk_cell BK848.out 1).trans rfl
                      have hcz44_2 : w27.cell? ⟨gb848, 2, none⟩ = some (u849002) := (blk_cell BK848.out 2).trans rfl
                      have hfz44_0 := blk_frozen BK848.out 0
                      have hfz44_1 := blk_frozen BK848.out 1
                      have hfz44_2 := blk_frozen BK848.out 2
                      have hnb45 := NB840_839.out
                      have hnc45 := NB839_840.out
                      have hnb46 := NB840_841.out
                      have hnc46 := NB841_840.out
                      have hnb47 := NB840_850.out
                      have hnc47 := NB850_840.out
                      have hcz48_0 : w27.cell? ⟨gb840, 0, none⟩ = some (.int .i64 a1_0) := (blk_cell BK840.out 0).trans rfl
                      have hcz48_1 : w27.cell? ⟨gb840, 1, none⟩ = some (.int .i64 a1_1) := (blk_cell BK840.out 1).trans rfl
                      have hcz48_2 : w27.cell? ⟨gb840, 2, none⟩ = some (.int .i64 a1_2) := (blk_cell BK840.out 2).trans rfl
                      have hfz48_0 := blk_frozen BK840.out 0
                      have hfz48_1 := blk_frozen BK840.out 1
                      have hfz48_2 := blk_frozen BK840.out 2
                      go_wp2_with (first | ((with_reducible refine gate_builtin (b := .append) (xs := #[.tmp 37, .tmp 43]) rfl ?_); at_builtin; refine Kd.R_append k71 (w0 := w) w.heap.size rfl (.tmp 37) (.tmp 43) 28 71 (.agg #[(.int .i64 0), (.int .i64 0), (.int .i64 0), (.bool false)]) 32 rfl Try.underlying28 info71 rfl (by decide) (by omega) u849002 x849002_1 (⟨a1_1, a3, a2, false⟩ : S71) [.int .i64 a1_1, .int .i64 a3, .int .i64 a2, .bool false] (fun k_ => k_ ≠ gb850) (fun _ => False) rfl (by first | (go_simp; done) | (go_simp; rfl)) ?aP (fun _ hk => hk.elim) ?aF ?aO ?aB ?aS ?aL ?_; (case aP => exact k71_mkM _ _ _ (⟨a1_1, a3, a2, false⟩ : S71)); (case aB => exact (bl HB.out)); (case aF => exact (fun k_ hk => Kd.freshB (g := gb850) (o := .cells #[.int .i64 ((rd_T71 l0_2 x10_1).f0), .int .i64 ((rd_T71 l0_2 x10_1).f1), .int .i64 ((rd_T71 l0_2 x10_1).f2), .bool ((rd_T71 l0_2 x10_1).f3)] 71 (0, 0)) (by (with_reducible repeat (first | apply bN | apply bD | apply bA)); refine blk_put (cs := #[.int .i64 ((rd_T71 l0_2 x10_1).f0), .int .i64 ((rd_T71 l0_2 x10_1).f1), .int .i64 ((rd_T71 l0_2 x10_1).f2), .bool false]) ?_ 3 _ rfl; (with_reducible repeat (first | apply bN | apply bD | apply bA)); refine blk_put (cs := #[.int .i64 ((rd_T71 l0_2 x10_1).f0), .int .i64 ((rd_T71 l0_2 x10_1).f1), .int .i64 0, .bool false]) ?_ 2 _ rfl; (with_reducible repeat (first | apply bN | apply bD | apply bA)); refine blk_put (cs := #[.int .i64 ((rd_T71 l0_2 x10_1).f0), .int .i64 0, .int .i64 0, .bool false]) ?_ 1 _ rfl; (with_reducible repeat (first | apply bN | apply bD | apply bA)); refine blk_put (cs := #[.int .i64 0, .int .i64 0, .int .i64 0, .bool false]) ?_ 0 _ rfl; (with_reducible repeat (first | apply bN | apply bD | apply bA)); exact BK850.out) k_ hk)); (case aO => exact (by (with_reducible repeat (first | apply Kd.R_alloc | apply Kd.R_drewN | apply Kd.R_drew)); exact Kd.R_mono (Kd.R_far (p := ⟨gb850, 3, none⟩) (Kd.R_far (p := ⟨gb850, 2, none⟩) (Kd.R_far (p := ⟨gb850, 1, none⟩) (Kd.R_far (p := ⟨gb850, 0, none⟩) (Kd.R_mono HO_849002.out (fun k_ hk => (⟨hk, hk.2⟩ : _ ∧ k_ ≠ gb850))) (fun _ hk => hk.2) (.int .i64 ((rd_T71 l0_2 x10_1).f0))) (fun _ hk => hk.2) (.int .i64 ((rd_T71 l0_2 x10_1).f1))) (fun _ hk => hk.2) (.int .i64 ((rd_T71 l0_2 x10_1).f2))) (fun _ hk => hk.2) (.bool ((rd_T71 l0_2 x10_1).f3))) (fun _ hk => hk.1.2))); (case aS => exact (below_size (bl HB.out))); (case aL => have := LMc37.out; omega); intro v852 w49 ho hb hg hat; rw [← Ny851.out] at ho; have n0_ := Aside0.mk (Kd.R_over' (by (with_reducible repeat (first | apply Kd.R_alloc | apply Kd.R_drewN | apply Kd.R_drew)); exact (Kd.R_mono (Kd.R_far (p := ⟨gb850, 3, none⟩) (Kd.R_far (p := ⟨gb850, 2, none⟩) (Kd.R_far (p := ⟨gb850, 1, none⟩) (Kd.R_far (p := ⟨gb850, 0, none⟩) (Kd.R_types HO_849001.out BK850.out (by decide)) (fun _ hk => hk.2) (.int .i64 ((rd_T71 l0_2 x10_1).f0))) (fun _ hk => hk.2) (.int .i64 ((rd_T71 l0_2 x10_1).f1))) (fun _ hk => hk.2) (.int .i64 ((rd_T71 l0_2 x10_1).f2))) (fun _ hk => hk.2) (.bool ((rd_T71 l0_2 x10_1).f3))) (fun _ h_ => h_.1))) (Kd.R_typed (by (with_reducible repeat (first | apply Kd.R_alloc | apply Kd.R_drewN | apply Kd.R_drew)); exact (Kd.R_mono (Kd.R_far (p := ⟨gb850, 3, none⟩) (Kd.R_far (p := ⟨gb850, 2, none⟩) (Kd.R_far (p := ⟨gb850, 1, none⟩) (Kd.R_far (p := ⟨gb850, 0, none⟩) (Kd.R_mono HO_849002.out (fun k_ hk => (⟨hk, hk.2⟩ : _ ∧ k_ ≠ gb850))) (fun _ hk => hk.2) (.int .i64 ((rd_T71 l0_2 x10_1).f0))) (fun _ hk => hk.2) (.int .i64 ((rd_T71 l0_2 x10_1).f1))) (fun _ hk => hk.2) (.int .i64 ((rd_T71 l0_2 x10_1).f2))) (fun _ hk => hk.2) (.bool ((rd_T71 l0_2 x10_1).f3))) (fun _ h_ => h_.1)))) (by decide) hg); have n1_ := Aside0.mk (blk_grown (g := gb839) (o := .cells #[.int .i64 a0_0, .slice A0_1 l0_1.length c0_1, .slice (some ad849) l0_2.length c0_2] 30 (0, 0)) (by (with_reducible repeat (first | apply bN | apply bD | apply bA)); refine blk_far ?_ NB839_850.out _; (with_reducible repeat (first | apply bN | apply bD | apply bA)); refine blk_far ?_ NB839_850.out _; (with_reducible repeat (first | apply bN | apply bD | apply bA)); refine blk_far ?_ NB839_850.out _; (with_reducible repeat (first | apply bN | apply bD | apply bA)); refine blk_far ?_ NB839_850.out _; (with_reducible repeat (first | apply bN | apply bD | apply bA)); exact BK839.out) hg (Kd.R_ne HO_849002.out BK839.out (by decide))); have n2_ := Aside0.mk (blk_grown (g := gb840) (o := .cells #[.int .i64 a1_0, .int .i64 a1_1, .int .i64 a1_2] 54 (0, 0)) (by (with_reducible repeat (first | apply bN | apply bD | apply bA)); refine blk_far ?_ NB840_850.out _; (with_reducible repeat (first | apply bN | apply bD | apply bA)); refine blk_far ?_ NB840_850.out _; (with_reducible repeat (first | apply bN | apply bD | apply bA)); refine blk_far ?_ NB840_850.out _; (with_reducible repeat (first | apply bN | apply bD | apply bA)); refine blk_far ?_ NB840_850.out _; (with_reducible repeat (first | apply bN | apply bD | apply bA)); exact BK840.out) hg (Kd.R_ne HO_849002.out BK840.out (by decide))); have n3_ := Aside0.mk (blk_grown (g := gb841) (o := .cells #[.int .i64 0, .slice none 0 0, .slice none 0 0] 30 (0, 0)) (by (with_reducible repeat (first | apply bN | apply bD | apply bA)); refine blk_far ?_ NB841_850.out _; (with_reducible repeat (first | apply bN | apply bD | apply bA)); refine blk_far ?_ NB841_850.out _; (with_reducible repeat (first | apply bN | apply bD | apply bA)); refine blk_far ?_ NB841_850.out _; (with_reducible repeat (first | apply bN | apply bD | apply bA)); refine blk_far ?_ NB841_850.out _; (with_reducible repeat (first | apply bN | apply bD | apply bA)); exact BK841.out) hg (Kd.R_ne HO_849002.out BK841.out (by decide))); have n4_ := Aside0.mk (blk_grown (g := gb848) (o := .cells #[.int .i64 a0_0, .slice Ao16 y845.length co16, u849002] 30 (0, 0)) (by (with_reducible repeat (first | apply bN | apply bD | apply bA)); refine blk_far ?_ NB848_850.out _; (with_reducible repeat (first | apply bN | apply bD | apply bA)); refine blk_far ?_ NB848_850.out _; (with_reducible repeat (first | apply bN | apply bD | apply bA)); refine blk_far ?_ NB848_850.out _; (with_reducible repeat (first | apply bN | apply bD | apply bA)); refine blk_far ?_ NB848_850.out _; (with_reducible repeat (first | apply bN | apply bD | apply bA)); exact BK848.out) hg (Kd.R_ne HO_849002.out BK848.out (by decide))); have n5_ := Aside0.mk (blk_grown (g := gb850) (o := .cells #[.int .i64 ((rd_T71 l0_2 x10_1).f0), .int .i64 ((rd_T71 l0_2 x10_1).f1), .int .i64 ((rd_T71 l0_2 x10_1).f2), .bool ((rd_T71 l0_2 x10_1).f3)] 71 (0, 0)) (by (with_reducible repeat (first | apply bN | apply bD | apply bA)); refine blk_put (cs := #[.int .i64 ((rd_T71 l0_2 x10_1).f0), .int .i64 ((rd_T71 l0_2 x10_1).f1), .int .i64 ((rd_T71 l0_2 x10_1).f2), .bool false]) ?_ 3 _ rfl; (with_reducible repeat (first | apply bN | apply bD | apply bA)); refine blk_put (cs := #[.int .i64 ((rd_T71 l0_2 x10_1).f0), .int .i64 ((rd_T71 l0_2 x10_1).f1), .int .i64 0, .bool false]) ?_ 2 _ rfl; (with_reducible repeat (first | apply bN | apply bD | apply bA)); refine blk_put (cs := #[.int .i64 ((rd_T71 l0_2 x10_1).f0), .int .i64 0, .int .i64 0, .bool false]) ?_ 1 _ rfl; (with_reducible repeat (first | apply bN | apply bD | apply bA)); refine blk_put (cs := #[.int .i64 0, .int .i64 0, .int .i64 0, .bool false]) ?_ 0 _ rfl; (with_reducible repeat (first | apply bN | apply bD | apply bA)); exact BK850.out) hg (Kd.R_away HO_849002.out (fun _ hk => hk.2))); have n6_ := Aside0.mk (hb); have n7_ := Aside0.mk (ho); clear HO_849001; clear BK839; clear BK840; clear BK841; clear BK848; clear BK850; clear HB; clear HO_849002; have HO_849001 := n0_; have BK839 := n1_; have BK840 := n2_; have BK841 := n3_; have BK848 := n4_; have BK850 := n5_; have HB := n6_; have HO853 := n7_; clear n0_ n1_ n2_ n3_ n4_ n5_ n6_ n7_; clear ho hb hg hat; obtain ⟨Ao50, co50, eo50⟩ := Kd.R_slice HO853.out; subst eo50; have hcz51_0 : w49.cell? ⟨gb848, 0, none⟩ = some (.int .i64 a0_0) := (blk_cell BK848.out 0).trans rfl; have hcz51_1 : w49.cell? ⟨gb848, 1, none⟩ = some (.slice Ao16 y845.length co16) := (blk_cell BK848.out 1).trans rfl; have hcz51_2 : w49.cell? ⟨gb848, 2, none⟩ = some (u849002) := (blk_cell BK848.out 2).trans rfl; have hfz51_0 := blk_frozen BK848.out 0; have hfz51_1 := blk_frozen BK848.out 1; have hfz51_2 := blk_frozen BK848.out 2; have hcz52_0 : w49.cell? ⟨gb840, 0, none⟩ = some (.int .i64 a1_0) := (blk_cell BK840.out 0).trans rfl; have hcz52_1 : w49.cell? ⟨gb840, 1, none⟩ = some (.int .i64 a1_1) := (blk_cell BK840.out 1).trans rfl; have hcz52_2 : w49.cell? ⟨gb840, 2, none⟩ = some (.int .i64 a1_2) := (blk_cell BK840.out 2).trans rfl; have hfz52_0 := blk_frozen BK840.out 0; have hfz52_1 := blk_frozen BK840.out 1; have hfz52_2 := blk_frozen BK840.out 2) | ((with_reducible refine gate_builtin (b := .append) (xs := #[.tmp 51, .tmp 61]) rfl ?_); at_builtin; refine Kd.R_append k71 (w0 := w) w.heap.size rfl (.tmp 51) (.tmp 61) 28 71 (.agg #[(.int .i64 0), (.int .i64 0), (.int .i64 0), (.bool false)]) 32 rfl Try.underlying28 info71 rfl (by decide) (by omega) (.slice Ao50 y851.length co50) y851 (⟨wrap64 (a1_1 + a3), wrap64 (a1_2 - a3), 0, false⟩ : S71) [.int .i64 (wrap64 (a1_1 + a3)), .int .i64 (wrap64 (a1_2 - a3)), .int .i64 0, .bool false] (fun k_ => k_ ≠ gb850) (fun _ => False) rfl (by first | (go_simp; done) | (go_simp; rfl)) ?aP (fun _ hk => hk.elim) ?aF ?aO ?aB ?aS ?aL ?_; (case aP => exact k71_mkM _ _ _ (⟨wrap64 (a1_1 + a3), wrap64 (a1_2 - a3), 0, false⟩ : S71)); (case aB => exact (bl HB.out)); (case aF => exact (fun k_ hk => Kd.freshB (g := gb850) (o := .cells #[.int .i64 ((rd_T71 l0_2 x10_1).f0), .int .i64 ((rd_T71 l0_2 x10_1).f1), .int .i64 ((rd_T71 l0_2 x10_1).f2), .bool ((rd_T71 l0_2 x10_1).f3)] 71 (0, 0)) (by (with_reducible repeat (first | apply bN | apply bD | apply bA)); refine blk_far ?_ NB850_848.out _; (with_reducible repeat (first | apply bN | apply bD | apply bA)); exact BK850.out) k_ hk)); (case aO => exact (by (with_reducible repeat (first | apply Kd.R_alloc | apply Kd.R_drewN | apply Kd.R_drew)); exact Kd.R_mono (Kd.R_far (p := ⟨gb848, 2, none⟩) (Kd.R_types HO853.out BK848.out (by decide)) (fun _ hk => hk.2) (.slice Ao50 y851.length co50)) (fun _ hk => hk.1))); (case aS => exact (below_size (bl HB.out))); (case aL => have := LMc39.out; omega); intro v855 w53 ho hb hg hat; rw [← Ny854.out] at ho; have n0_ := Aside0.mk (Kd.R_over' (by (with_reducible repeat (first | apply Kd.R_alloc | apply Kd.R_drewN | apply Kd.R_drew)); exact (Kd.R_mono (Kd.R_far (p := ⟨gb848, 2, none⟩) (Kd.R_types HO_849001.out BK848.out (by decide)) (fun _ hk => hk.2) (.slice Ao50 y851.length co50)) (fun _ h_ => h_.1))) (Kd.R_typed (by (with_reducible repeat (first | apply Kd.R_alloc | apply Kd.R_drewN | apply Kd.R_drew)); exact (Kd.R_mono (Kd.R_far (p := ⟨gb848, 2, none⟩) (Kd.R_types HO853.out BK848.out (by decide)) (fun _ hk => hk.2) (.slice Ao50 y851.length co50)) (fun _ h_ => h_.1)))) (by decide) hg); have n1_ := Aside0.mk (blk_grown (g := gb839) (o := .cells #[.int .i64 a0_0, .slice A0_1 l0_1.length c0_1, .slice (some ad849) l0_2.length c0_2] 30 (0, 0)) (by (with_reducible repeat (first | apply bN | apply bD | apply bA)); refine blk_far ?_ NB839_848.out _; (with_reducible repeat (first | apply bN | apply bD | apply bA)); exact BK839.out) hg (Kd.R_ne HO853.out BK839.out (by decide))); have n2_ := Aside0.mk (blk_grown (g := gb840) (o := .cells #[.int .i64 a1_0, .int .i64 a1_1, .int .i64 a1_2] 54 (0, 0)) (by (with_reducible repeat (first | apply bN | apply bD | apply bA)); refine blk_far ?_ NB840_848.out _; (with_reducible repeat (first | apply bN | apply bD | apply bA)); exact BK840.out) hg (Kd.R_ne HO853.out BK840.out (by decide))); have n3_ := Aside0.mk (blk_grown (g := gb841) (o := .cells #[.int .i64 0, .slice none 0 0, .slice none 0 0] 30 (0, 0)) (by (with_reducible repeat (first | apply bN | apply bD | apply bA)); refine blk_far ?_ NB841_848.out _; (with_reducible repeat (first | apply bN | apply bD | apply bA)); exact BK841.out) hg (Kd.R_ne HO853.out BK841.out (by decide))); have n4_ := Aside0.mk (blk_grown (g := gb848) (o := .cells #[.int .i64 a0_0, .slice Ao16 y845.length co16, .slice Ao50 y851.length co50] 30 (0, 0)) (by (with_reducible repeat (first | apply bN | apply bD | apply bA)); refine blk_put (cs := #[.int .i64 a0_0, .slice Ao16 y845.length co16, u849002]) ?_ 2 _ rfl; (with_reducible repeat (first | apply bN | apply bD | apply bA)); exact BK848.out) hg (Kd.R_ne HO853.out BK848.out (by decide))); have n5_ := Aside0.mk (blk_grown (g := gb850) (o := .cells #[.int .i64 ((rd_T71 l0_2 x10_1).f0), .int .i64 ((rd_T71 l0_2 x10_1).f1), .int .i64 ((rd_T71 l0_2 x10_1).f2), .bool ((rd_T71 l0_2 x10_1).f3)] 71 (0, 0)) (by (with_reducible repeat (first | apply bN | apply bD | apply bA)); refine blk_far ?_ NB850_848.out _; (with_reducible repeat (first | apply bN | apply bD | apply bA)); exact BK850.out) hg (Kd.R_away HO853.out (fun _ hk => hk))); have n6_ := Aside0.mk (hb); have n7_ := Aside0.mk (ho); clear HO_849001; clear BK839; clear BK840; clear BK841; clear BK848; clear BK850; clear HB; clear HO853; have HO_849001 := n0_; have BK839 := n1_; have BK840 := n2_; have BK841 := n3_; have BK848 := n4_; have BK850 := n5_; have HB := n6_; have HO856 := n7_; clear n0_ n1_ n2_ n3_ n4_ n5_ n6_ n7_; clear ho hb hg hat; obtain ⟨Ao54, co54, eo54⟩ := Kd.R_slice HO856.out; subst eo54; have hcz55_0 : w53.cell? ⟨gb848, 0, none⟩ = some (.int .i64 a0_0) := (blk_cell BK848.out 0).trans rfl; have hcz55_1 : w53.cell? ⟨gb848, 1, none⟩ = some (.slice Ao16 y845.length co16) := (blk_cell BK848.out 1).trans rfl; have hcz55_2 : w53.cell? ⟨gb848, 2, none⟩ = some (.slice Ao50 y851.length co50) := (blk_cell BK848.out 2).trans rfl; have hfz55_0 := blk_frozen BK848.out 0; have hfz55_1 := blk_frozen BK848.out 1; have hfz55_2 := blk_frozen BK848.out 2))
                      go_meet
                      case rel => exact ⟨_, (y854), (.slice Ao54 y854.length co54), H', ⟨by have := HK1.out; first | omega | exact Nat.le_refl _⟩, ⟨by (with_reducible repeat (first | apply Kd.R_alloc | apply Kd.R_drewN | apply Kd.R_drew)); exact Kd.R_mono (Kd.R_far (p := ⟨gb848, 2, none⟩) (Kd.R_types HO_849001.out BK848.out (by decide)) (fun _ hk => hk.2) (.slice Ao54 y854.length co54)) (fun _ hk => trivial)⟩, ⟨by (with_reducible repeat (first | apply Kd.R_alloc | apply Kd.R_drewN | apply Kd.R_drew)); exact Kd.R_mono (Kd.R_far (p := ⟨gb848, 2, none⟩) (Kd.R_types HO856.out BK848.out (by decide)) (fun _ hk => hk.2) (.slice Ao54 y854.length co54)) (fun _ hk => hk.1)⟩, ⟨by (with_reducible repeat (first | apply bN | apply bD | apply bA)); refine blk_far ?_ NB839_848.out _; (with_reducible repeat (first | apply bN | apply bD | apply bA)); exact BK839.out⟩, ⟨by (with_reducible repeat (first | apply bN | apply bD | apply bA)); refine blk_far ?_ NB840_848.out _; (with_reducible repeat (first | apply bN | apply bD | apply bA)); exact BK840.out⟩, ⟨by (with_reducible repeat (first | apply bN | apply bD | apply bA)); refine blk_far ?_ NB841_848.out _; (with_reducible repeat (first | apply bN | apply bD | apply bA)); exact BK841.out⟩, ⟨by (with_reducible repeat (first | apply bN | apply bD | apply bA)); refine blk_put (cs := #[.int .i64 a0_0, .slice Ao16 y845.length co16, .slice Ao50 y851.length co50]) ?_ 2 _ rfl; (with_reducible repeat (first | apply bN | apply bD | apply bA)); exact BK848.out⟩, ⟨by (with_reducible repeat (first | apply bN | apply bD | apply bA)); refine blk_far ?_ NB850_848.out _; (with_reducible repeat (first | apply bN | apply bD | apply bA)); exact BK850.out⟩, ⟨bl HB.out⟩⟩
                    · rw [if_neg c39] at H
                      exact absurd H (by simp)
                  · rw [if_neg c38] at H
                    have c38b0 : decide (a3 < a1_2) = false := decide_eq_false c38
                    clear c38
                    have H' := Aside0.mk H
                    clear H
                    have hnb56 := NB848_839.out
                    have hnc56 := NB839_848.out
                    have hnb57 := NB848_840.out
                    have hnc57 := NB840_848.out
                    have hnb58 := NB848_841.out
                    have hnc58 := NB841_848.out
                    have hnb59 := NB848_850.out
                    have hnc59 := NB850_848.out
                    have hcz60_0 : w27.cell? ⟨gb848, 0, none⟩ = some (.int .i64 a0_0) := (blk_cell BK848.out 0).trans rfl
                    have hcz60_1 : w27.cell? ⟨gb848, 1, none⟩ = some (.slice Ao16 y845.length co16) := (blk_cell BK848.out 1).trans rfl
                    have hcz60_2 : w27.cell? ⟨gb848, 2, none⟩ = some (u849002) := (blk_cell BK848.out 2).trans rfl
                    have hfz60_0 := blk_frozen BK848.out 0
                    have hfz60_1 := blk_frozen BK848.out 1
                    have hfz60_2 := blk_frozen BK848.out 2
                    have hnb61 := NB840_839.out
                    have hnc61 := NB839_840.out
                    have hnb62 := NB840_841.out
                    have hnc62 := NB841_840.out
                    have hnb63 := NB840_850.out
                    have hnc63 := NB850_840.out
                    have hcz64_0 : w27.cell? ⟨gb840, 0, none⟩ = some (.int .i64 a1_0) := (blk_cell BK840.out 0).trans rfl
                    have hcz64_1 : w27.cell? ⟨gb840, 1, none⟩ = some (.int .i64 a1_1) := (blk_cell BK840.out 1).trans rfl
                    have hcz64_2 : w27.cell? ⟨gb840, 2, none⟩ = some (.int .i64 a1_2) := (blk_cell BK840.out 2).trans rfl
                    have hfz64_0 := blk_frozen BK840.out 0
                    have hfz64_1 := blk_frozen BK840.out 1
                    have hfz64_2 := blk_frozen BK840.out 2
                    go_wp2_with (first | ((with_reducible refine gate_builtin (b := .append) (xs := #[.tmp 37, .tmp 43]) rfl ?_); at_builtin; refine Kd.R_append k71 (w0 := w) w.heap.size rfl (.tmp 37) (.tmp 43) 28 71 (.agg #[(.int .i64 0), (.int .i64 0), (.int .i64 0), (.bool false)]) 32 rfl Try.underlying28 info71 rfl (by decide) (by omega) u849002 x849002_1 (⟨a1_1, a3, a2, false⟩ : S71) [.int .i64 a1_1, .int .i64 a3, .int .i64 a2, .bool false] (fun k_ => k_ ≠ gb850) (fun _ => False) rfl (by first | (go_simp; done) | (go_simp; rfl)) ?aP (fun _ hk => hk.elim) ?aF ?aO ?aB ?aS ?aL ?_; (case aP => exact k71_mkM _ _ _ (⟨a1_1, a3, a2, false⟩ : S71)); (case aB => exact (bl HB.out)); (case aF => exact (fun k_ hk => Kd.freshB (g := gb850) (o := .cells #[.int .i64 ((rd_T71 l0_2 x10_1).f0), .int .i64 ((rd_T71 l0_2 x10_1).f1), .int .i64 ((rd_T71 l0_2 x10_1).f2), .bool ((rd_T71 l0_2 x10_1).f3)] 71 (0, 0)) (by (with_reducible repeat (first | apply bN | apply bD | apply bA)); refine blk_put (cs := #[.int .i64 ((rd_T71 l0_2 x10_1).f0), .int .i64 ((rd_T71 l0_2 x10_1).f1), .int .i64 ((rd_T71 l0_2 x10_1).f2), .bool false]) ?_ 3 _ rfl; (with_reducible repeat (first | apply bN | apply bD | apply bA)); refine blk_put (cs := #[.int .i64 ((rd_T71 l0_2 x10_1).f0), .int .i64 ((rd_T71 l0_2 x10_1).f1), .int .i64 0, .bool false]) ?_ 2 _ rfl; (with_reducible repeat (first | apply bN | apply bD | apply bA)); refine blk_put (cs := #[.int .i64 ((rd_T71 l0_2 x10_1).f0), .int .i64 0, .int .i64 0, .bool false]) ?_ 1 _ rfl; (with_reducible repeat (first | apply bN | apply bD | apply bA)); refine blk_put (cs := #[.int .i64 0, .int .i64 0, .int .i64 0, .bool false]) ?_ 0 _ rfl; (with_reducible repeat (first | apply bN | apply bD | apply bA)); exact BK850.out) k_ hk)); (case aO => exact (by (with_reducible repeat (first | apply Kd.R_alloc | apply Kd.R_drewN | apply Kd.R_drew)); exact Kd.R_mono (Kd.R_far (p := ⟨gb850, 3, none⟩) (Kd.R_far (p := ⟨gb850, 2, none⟩) (Kd.R_far (p := ⟨gb850, 1, none⟩) (Kd.R_far (p := ⟨gb850, 0, none⟩) (Kd.R_mono HO_849002.out (fun k_ hk => (⟨hk, hk.2⟩ : _ ∧ k_ ≠ gb850))) (fun _ hk => hk.2) (.int .i64 ((rd_T71 l0_2 x10_1).f0))) (fun _ hk => hk.2) (.int .i64 ((rd_T71 l0_2 x10_1).f1))) (fun _ hk => hk.2) (.int .i64 ((rd_T71 l0_2 x10_1).f2))) (fun _ hk => hk.2) (.bool ((rd_T71 l0_2 x10_1).f3))) (fun _ hk => hk.1.2))); (case aS => exact (below_size (bl HB.out))); (case aL => have := LMc37.out; omega); intro v852 w65 ho hb hg hat; rw [← Ny851.out] at ho; have n0_ := Aside0.mk (Kd.R_over' (by (with_reducible repeat (first | apply Kd.R_alloc | apply Kd.R_drewN | apply Kd.R_drew)); exact (Kd.R_mono (Kd.R_far (p := ⟨gb850, 3, none⟩) (Kd.R_far (p := ⟨gb850, 2, none⟩) (Kd.R_far (p := ⟨gb850, 1, none⟩) (Kd.R_far (p := ⟨gb850, 0, none⟩) (Kd.R_types HO_849001.out BK850.out (by decide)) (fun _ hk => hk.2) (.int .i64 ((rd_T71 l0_2 x10_1).f0))) (fun _ hk => hk.2) (.int .i64 ((rd_T71 l0_2 x10_1).f1))) (fun _ hk => hk.2) (.int .i64 ((rd_T71 l0_2 x10_1).f2))) (fun _ hk => hk.2) (.bool ((rd_T71 l0_2 x10_1).f3))) (fun _ h_ => h_.1))) (Kd.R_typed (by (with_reducible repeat (first | apply Kd.R_alloc | apply Kd.R_drewN | apply Kd.R_drew)); exact (Kd.R_mono (Kd.R_far (p := ⟨gb850, 3, none⟩) (Kd.R_far (p := ⟨gb850, 2, none⟩) (Kd.R_far (p := ⟨gb850, 1, none⟩) (Kd.R_far (p := ⟨gb850, 0, none⟩) (Kd.R_mono HO_849002.out (fun k_ hk => (⟨hk, hk.2⟩ : _ ∧ k_ ≠ gb850))) (fun _ hk => hk.2) (.int .i64 ((rd_T71 l0_2 x10_1).f0))) (fun _ hk => hk.2) (.int .i64 ((rd_T71 l0_2 x10_1).f1))) (fun _ hk => hk.2) (.int .i64 ((rd_T71 l0_2 x10_1).f2))) (fun _ hk => hk.2) (.bool ((rd_T71 l0_2 x10_1).f3))) (fun _ h_ => h_.1)))) (by decide) hg); have n1_ := Aside0.mk (blk_grown (g := gb839) (o := .cells #[.int .i64 a0_0, .slice A0_1 l0_1.length c0_1, .slice (some ad849) l0_2.length c0_2] 30 (0, 0)) (by (with_reducible repeat (first | apply bN | apply bD | apply bA)); refine blk_far ?_ NB839_850.out _; (with_reducible repeat (first | apply bN | apply bD | apply bA)); refine blk_far ?_ NB839_850.out _; (with_reducible repeat (first | apply bN | apply bD | apply bA)); refine blk_far ?_ NB839_850.out _; (with_reducible repeat (first | apply bN | apply bD | apply bA)); refine blk_far ?_ NB839_850.out _; (with_reducible repeat (first | apply bN | apply bD | apply bA)); exact BK839.out) hg (Kd.R_ne HO_849002.out BK839.out (by decide))); have n2_ := Aside0.mk (blk_grown (g := gb840) (o := .cells #[.int .i64 a1_0, .int .i64 a1_1, .int .i64 a1_2] 54 (0, 0)) (by (with_reducible repeat (first | apply bN | apply bD | apply bA)); refine blk_far ?_ NB840_850.out _; (with_reducible repeat (first | apply bN | apply bD | apply bA)); refine blk_far ?_ NB840_850.out _; (with_reducible repeat (first | apply bN | apply bD | apply bA)); refine blk_far ?_ NB840_850.out _; (with_reducible repeat (first | apply bN | apply bD | apply bA)); refine blk_far ?_ NB840_850.out _; (with_reducible repeat (first | apply bN | apply bD | apply bA)); exact BK840.out) hg (Kd.R_ne HO_849002.out BK840.out (by decide))); have n3_ := Aside0.mk (blk_grown (g := gb841) (o := .cells #[.int .i64 0, .slice none 0 0, .slice none 0 0] 30 (0, 0)) (by (with_reducible repeat (first | apply bN | apply bD | apply bA)); refine blk_far ?_ NB841_850.out _; (with_reducible repeat (first | apply bN | apply bD | apply bA)); refine blk_far ?_ NB841_850.out _; (with_reducible repeat (first | apply bN | apply bD | apply bA)); refine blk_far ?_ NB841_850.out _; (with_reducible repeat (first | apply bN | apply bD | apply bA)); refine blk_far ?_ NB841_850.out _; (with_reducible repeat (first | apply bN | apply bD | apply bA)); exact BK841.out) hg (Kd.R_ne HO_849002.out BK841.out (by decide))); have n4_ := Aside0.mk (blk_grown (g := gb848) (o := .cells #[.int .i64 a0_0, .slice Ao16 y845.length co16, u849002] 30 (0, 0)) (by (with_reducible repeat (first | apply bN | apply bD | apply bA)); refine blk_far ?_ NB848_850.out _; (with_reducible repeat (first | apply bN | apply bD | apply bA)); refine blk_far ?_ NB848_850.out _; (with_reducible repeat (first | apply bN | apply bD | apply bA)); refine blk_far ?_ NB848_850.out _; (with_reducible repeat (first | apply bN | apply bD | apply bA)); refine blk_far ?_ NB848_850.out _; (with_reducible repeat (first | apply bN | apply bD | apply bA)); exact BK848.out) hg (Kd.R_ne HO_849002.out BK848.out (by decide))); have n5_ := Aside0.mk (blk_grown (g := gb850) (o := .cells #[.int .i64 ((rd_T71 l0_2 x10_1).f0), .int .i64 ((rd_T71 l0_2 x10_1).f1), .int .i64 ((rd_T71 l0_2 x10_1).f2), .bool ((rd_T71 l0_2 x10_1).f3)] 71 (0, 0)) (by (with_reducible repeat (first | apply bN | apply bD | apply bA)); refine blk_put (cs := #[.int .i64 ((rd_T71 l0_2 x10_1).f0), .int .i64 ((rd_T71 l0_2 x10_1).f1), .int .i64 ((rd_T71 l0_2 x10_1).f2), .bool false]) ?_ 3 _ rfl; (with_reducible repeat (first | apply bN | apply bD | apply bA)); refine blk_put (cs := #[.int .i64 ((rd_T71 l0_2 x10_1).f0), .int .i64 ((rd_T71 l0_2 x10_1).f1), .int .i64 0, .bool false]) ?_ 2 _ rfl; (with_reducible repeat (first | apply bN | apply bD | apply bA)); refine blk_put (cs := #[.int .i64 ((rd_T71 l0_2 x10_1).f0), .int .i64 0, .int .i64 0, .bool false]) ?_ 1 _ rfl; (with_reducible repeat (first | apply bN | apply bD | apply bA)); refine blk_put (cs := #[.int .i64 0, .int .i64 0, .int .i64 0, .bool false]) ?_ 0 _ rfl; (with_reducible repeat (first | apply bN | apply bD | apply bA)); exact BK850.out) hg (Kd.R_away HO_849002.out (fun _ hk => hk.2))); have n6_ := Aside0.mk (hb); have n7_ := Aside0.mk (ho); clear HO_849001; clear BK839; clear BK840; clear BK841; clear BK848; clear BK850; clear HB; clear HO_849002; have HO_849001 := n0_; have BK839 := n1_; have BK840 := n2_; have BK841 := n3_; have BK848 := n4_; have BK850 := n5_; have HB := n6_; have HO853 := n7_; clear n0_ n1_ n2_ n3_ n4_ n5_ n6_ n7_; clear ho hb hg hat; obtain ⟨Ao66, co66, eo66⟩ := Kd.R_slice HO853.out; subst eo66; have hcz67_0 : w65.cell? ⟨gb848, 0, none⟩ = some (.int .i64 a0_0) := (blk_cell BK848.out 0).trans rfl; have hcz67_1 : w65.cell? ⟨gb848, 1, none⟩ = some (.slice Ao16 y845.length co16) := (blk_cell BK848.out 1).trans rfl; have hcz67_2 : w65.cell? ⟨gb848, 2, none⟩ = some (u849002) := (blk_cell BK848.out 2).trans rfl; have hfz67_0 := blk_frozen BK848.out 0; have hfz67_1 := blk_frozen BK848.out 1; have hfz67_2 := blk_frozen BK848.out 2; have hcz68_0 : w65.cell? ⟨gb840, 0, none⟩ = some (.int .i64 a1_0) := (blk_cell BK840.out 0).trans rfl; have hcz68_1 : w65.cell? ⟨gb840, 1, none⟩ = some (.int .i64 a1_1) := (blk_cell BK840.out 1).trans rfl; have hcz68_2 : w65.cell? ⟨gb840, 2, none⟩ = some (.int .i64 a1_2) := (blk_cell BK840.out 2).trans rfl; have hfz68_0 := blk_frozen BK840.out 0; have hfz68_1 := blk_frozen BK840.out 1; have hfz68_2 := blk_frozen BK840.out 2))
                    go_meet
                    case rel => exact ⟨_, (y851), (.slice Ao66 y851.length co66), H', ⟨by have := HK1.out; first | omega | exact Nat.le_refl _⟩, ⟨by (with_reducible repeat (first | apply Kd.R_alloc | apply Kd.R_drewN | apply Kd.R_drew)); exact Kd.R_mono (Kd.R_far (p := ⟨gb848, 2, none⟩) (Kd.R_types HO_849001.out BK848.out (by decide)) (fun _ hk => hk.2) (.slice Ao66 y851.length co66)) (fun _ hk => trivial)⟩, ⟨by (with_reducible repeat (first | apply Kd.R_alloc | apply Kd.R_drewN | apply Kd.R_drew)); exact Kd.R_mono (Kd.R_far (p := ⟨gb848, 2, none⟩) (Kd.R_types HO853.out BK848.out (by decide)) (fun _ hk => hk.2) (.slice Ao66 y851.length co66)) (fun _ hk => hk.1)⟩, ⟨by (with_reducible repeat (first | apply bN | apply bD | apply bA)); refine blk_far ?_ NB839_848.out _; (with_reducible repeat (first | apply bN | apply bD | apply bA)); exact BK839.out⟩, ⟨by (with_reducible repeat (first | apply bN | apply bD | apply bA)); refine blk_far ?_ NB840_848.out _; (with_reducible repeat (first | apply bN | apply bD | apply bA)); exact BK840.out⟩, ⟨by (with_reducible repeat (first | apply bN | apply bD | apply bA)); refine blk_far ?_ NB841_848.out _; (with_reducible repeat (first | apply bN | apply bD | apply bA)); exact BK841.out⟩, ⟨by (with_reducible repeat (first | apply bN | apply bD | apply bA)); refine blk_put (cs := #[.int .i64 a0_0, .slice Ao16 y845.length co16, u849002]) ?_ 2 _ rfl; (with_reducible repeat (first | apply bN | apply bD | apply bA)); exact BK848.out⟩, ⟨by (with_reducible repeat (first | apply bN | apply bD | apply bA)); refine blk_far ?_ NB850_848.out _; (with_reducible repeat (first | apply bN | apply bD | apply bA)); exact BK850.out⟩, ⟨bl HB.out⟩⟩
                · rw [if_neg c37] at H
                  exact absurd H (by simp)
              · rw [if_neg c36] at H
                have c36b0 : (((rd_T71 l0_2 x10_1).f0) == a1_1) = false := beq_eq_false_iff_ne.mpr c36
                have c36b1 : (((rd_T71 l0_2 x10_1).f0) != a1_1) = true := bne_iff_ne.mpr c36
                (first | rw [c36b0] | (simp only [i64_w, i32_w]; rw [c36b0]) | skip)
                have H' := Aside0.mk H
                clear H
                go_wp2
                go_meet
                case rel => exact ⟨_, (x849002_1), (u849002), H', ⟨by have := HK1.out; first | omega | exact Nat.le_refl _⟩, ⟨by (with_reducible repeat (first | apply Kd.R_alloc | apply Kd.R_drewN | apply Kd.R_drew)); exact Kd.R_mono (Kd.R_far (p := ⟨gb850, 3, none⟩) (Kd.R_far (p := ⟨gb850, 2, none⟩) (Kd.R_far (p := ⟨gb850, 1, none⟩) (Kd.R_far (p := ⟨gb850, 0, none⟩) (Kd.R_types HO_849001.out BK850.out (by decide)) (fun _ hk => hk.2) (.int .i64 ((rd_T71 l0_2 x10_1).f0))) (fun _ hk => hk.2) (.int .i64 ((rd_T71 l0_2 x10_1).f1))) (fun _ hk => hk.2) (.int .i64 ((rd_T71 l0_2 x10_1).f2))) (fun _ hk => hk.2) (.bool ((rd_T71 l0_2 x10_1).f3))) (fun _ hk => trivial)⟩, ⟨by (with_reducible repeat (first | apply Kd.R_alloc | apply Kd.R_drewN | apply Kd.R_drew)); exact Kd.R_mono (Kd.R_far (p := ⟨gb850, 3, none⟩) (Kd.R_far (p := ⟨gb850, 2, none⟩) (Kd.R_far (p := ⟨gb850, 1, none⟩) (Kd.R_far (p := ⟨gb850, 0, none⟩) (Kd.R_mono HO_849002.out (fun k_ hk => (⟨hk, hk.2⟩ : _ ∧ k_ ≠ gb850))) (fun _ hk => hk.2) (.int .i64 ((rd_T71 l0_2 x10_1).f0))) (fun _ hk => hk.2) (.int .i64 ((rd_T71 l0_2 x10_1).f1))) (fun _ hk => hk.2) (.int .i64 ((rd_T71 l0_2 x10_1).f2))) (fun _ hk => hk.2) (.bool ((rd_T71 l0_2 x10_1).f3))) (fun _ hk => hk.1.2)⟩, ⟨by (with_reducible repeat (first | apply bN | apply bD | apply bA)); refine blk_far ?_ NB839_850.out _; (with_reducible repeat (first | apply bN | apply bD | apply bA)); refine blk_far ?_ NB839_850.out _; (with_reducible repeat (first | apply bN | apply bD | apply bA)); refine blk_far ?_ NB839_850.out _; (with_reducible repeat (first | apply bN | apply bD | apply bA)); refine blk_far ?_ NB839_850.out _; (with_reducible repeat (first | apply bN | apply bD | apply bA)); exact BK839.out⟩, ⟨by (with_reducible repeat (first | apply bN | apply bD | apply bA)); refine blk_far ?_ NB840_850.out _; (with_reducible repeat (first | apply bN | apply bD | apply bA)); refine blk_far ?_ NB840_850.out _; (with_reducible repeat (first | apply bN | apply bD | apply bA)); refine blk_far ?_ NB840_850.out _; (with_reducible repeat (first | apply bN | apply bD | apply bA)); refine blk_far ?_ NB840_850.out _; (with_reducible repeat (first | apply bN | apply bD | apply bA)); exact BK840.out⟩, ⟨by (with_reducible repeat (first | apply bN | apply bD | apply bA)); refine blk_far ?_ NB841_850.out _; (with_reducible repeat (first | apply bN | apply bD | apply bA)); refine blk_far ?_ NB841_850.out _; (with_reducible repeat (first | apply bN | apply bD | apply bA)); refine blk_far ?_ NB841_850.out _; (with_reducible repeat (first | apply bN | apply bD | apply bA)); refine blk_far ?_ NB841_850.out _; (with_reducible repeat (first | apply bN | apply bD | apply bA)); exact BK841.out⟩, ⟨by (with_reducible repeat (first | apply bN | apply bD | apply bA)); refine blk_far ?_ NB848_850.out _; (with_reducible repeat (first | apply bN | apply bD | apply bA)); refine blk_far ?_ NB848_850.out _; (with_reducible repeat (first | apply bN | apply bD | apply bA)); refine blk_far ?_ NB848_850.out _; (with_reducible repeat (first | apply bN | apply bD | apply bA)); refine blk_far ?_ NB848_850.out _; (with_reducible repeat (first | apply bN | apply bD | apply bA)); exact BK848.out⟩, ⟨by (with_reducible repeat (first | apply bN | apply bD | apply bA)); refine blk_put (cs := #[.int .i64 ((rd_T71 l0_2 x10_1).f0), .int .i64 ((rd_T71 l0_2 x10_1).f1), .int .i64 ((rd_T71 l0_2 x10_1).f2), .bool false]) ?_ 3 _ rfl; (with_reducible repeat (first | apply bN | apply bD | apply bA)); refine blk_put (cs := #[.int .i64 ((rd_T71 l0_2 x10_1).f0), .int .i64 ((rd_T71 l0_2 x10_1).f1), .int .i64 0, .bool false]) ?_ 2 _ rfl; (with_reducible repeat (first | apply bN | apply bD | apply bA)); refine blk_put (cs := #[.int .i64 ((rd_T71 l0_2 x10_1).f0), .int .i64 0, .int .i64 0, .bool false]) ?_ 1 _ rfl; (with_reducible repeat (first | apply bN | apply bD | apply bA)); refine blk_put (cs := #[.int .i64 0, .int .i64 0, .int .i64 0, .bool false]) ?_ 0 _ rfl; (with_reducible repeat (first | apply bN | apply bD | apply bA)); exact BK850.out⟩, ⟨bl HB.out⟩⟩
            case rest =>
              clear HC22
              try clear c2
              try clear p2
              try clear c3
              try clear c4
              try clear c5
              try clear c6
              try clear p6
              try clear c8
              try clear p8
              try clear q8
              try clear hx8
              try clear c20
              try clear c20b0
              try clear c21
              try clear c21b0
              try clear c23
              try clear c24
              try clear c25
              try clear c28
              try clear c29
              try clear c30
              try clear c31
              try clear c33
              try clear c34
              try clear c36
              try clear c36b0
              try clear c36b1
              try clear c37
              try clear c38
              try clear c38b0
              try clear c39
              try clear c40
              try clear c41
              try clear c42
              try clear c43
              try clear c45
              try clear c46
              try clear c47
              try clear c56
              try clear c57
              try clear c58
              try clear c59
              try clear c61
              try clear c62
              try clear c63
              try clear p64
              try clear hcz26_0
              try clear hcz26_1
              try clear hcz26_2
              try clear hcz32_0
              try clear hcz32_1
              try clear hcz32_2
              try clear hcz32_3
              try clear hcz35_0
              try clear hcz35_1
              try clear hcz35_2
              try clear hcz44_0
              try clear hcz44_1
              try clear hcz44_2
              try clear hcz48_0
              try clear hcz48_1
              try clear hcz48_2
              try clear hcz51_0
              try clear hcz51_1
              try clear hcz51_2
              try clear hcz52_0
              try clear hcz52_1
              try clear hcz52_2
              try clear hcz55_0
              try clear hcz55_1
              try clear hcz55_2
              try clear hcz60_0
              try clear hcz60_1
              try clear hcz60_2
              try clear hcz64_0
              try clear hcz64_1
              try clear hcz64_2
              try clear hcz67_0
              try clear hcz67_1
              try clear hcz67_2
              try clear hcz68_0
              try clear hcz68_1
              try clear hcz68_2
              try clear hfz26_0
              try clear hfz26_1
              try clear hfz26_2
              try clear hfz32_0
              try clear hfz32_1
              try clear hfz32_2
              try clear hfz32_3
              try clear hfz35_0
              try clear hfz35_1
              try clear hfz35_2
              try clear hfz44_0
              try clear hfz44_1
              try clear hfz44_2
              try clear hfz48_0
              try clear hfz48_1
              try clear hfz48_2
              try clear hfz51_0
              try clear hfz51_1
              try clear hfz51_2
              try clear hfz52_0
              try clear hfz52_1
              try clear hfz52_2
              try clear hfz55_0
              try clear hfz55_1
              try clear hfz55_2
              try clear hfz60_0
              try clear hfz60_1
              try clear hfz60_2
              try clear hfz64_0
              try clear hfz64_1
              try clear hfz64_2
              try clear hfz67_0
              try clear hfz67_1
              try clear hfz67_2
              try clear hfz68_0
              try clear hfz68_1
              try clear hfz68_2
              try clear hx849_0
              try clear hx849_1
              try clear hx849_2
              try clear hx849_3
              try clear p2
              try clear p849
              try clear q849
              obtain ⟨kq, x849002_21, u849002, HA, HJ21, HO_849001, HO_849002, BK839, BK840, BK841, BK848, BK850, HB⟩ := hcut
              cases kq with
              | zero => exact absurd HA.out (by simp [spec_l02Fill.j1])
              | succ kj21 =>
                have H := HA.out
                clear HA
                simp only [spec_l02Fill.j1] at H
                by_cases c69 : ((rd_T71 l0_2 x10_1).f0) < a1_1
                · rw [if_pos c69] at H
                  have c69b0 : decide (((rd_T71 l0_2 x10_1).f0) < a1_1) = true := decide_eq_true c69
                  clear c69
                  by_cases c70 : x849002_21.length < 4398046511104
                  · rw [if_pos c70] at H
                    have LMc70 := Aside0.mk c70
                    clear c70
                    obtain ⟨y857, hy857⟩ : ∃ y_ : List (S71), y_ = (x849002_21 ++ [(⟨((rd_T71 l0_2 x10_1).f0), ((rd_T71 l0_2 x10_1).f1), ((rd_T71 l0_2 x10_1).f2), ((rd_T71 l0_2 x10_1).f3)⟩ : S71)]) := ⟨_, rfl⟩
                    replace H : (spec_l02Fill.l0 kj21 a2 a3 (wrap64 (x10_1 + 1)) a0_0 l0_1 l0_2 a1_0 a1_1 a1_2 a0_0 y845 y857) = some (r1, r2, r3) := by first | (rw [hy857]; with_reducible exact H) | (have H2_ := (Option.bind_some _ _).symm.trans H; rw [hy857]; with_reducible exact H2_) | (have H2_ := (Option.bind_some _ _).symm.trans H; with_reducible exact H2_) | with_reducible exact H | (rw [hy857]; exact H) | exact H
                    have Ny857 := Aside0.mk hy857
                    clear hy857
                    have H' := Aside0.mk H
                    clear H
                    have hnb71 := NB850_839.out
                    have hnc71 := NB839_850.out
                    have hnb72 := NB850_840.out
                    have hnc72 := NB840_850.out
                    have hnb73 := NB850_841.out
                    have hnc73 := NB841_850.out
                    have hnb74 := NB850_848.out
                    have hnc74 := NB848_850.out
                    have hcz75_0 : wc.cell? ⟨gb850, 0, none⟩ = some (.int .i64 ((rd_T71 l0_2 x10_1).f0)) := (blk_cell BK850.out 0).trans rfl
                    have hcz75_1 : wc.cell? ⟨gb850, 1, none⟩ = some (.int .i64 ((rd_T71 l0_2 x10_1).f1)) := (blk_cell BK850.out 1).trans rfl
                    have hcz75_2 : wc.cell? ⟨gb850, 2, none⟩ = some (.int .i64 ((rd_T71 l0_2 x10_1).f2)) := (blk_cell BK850.out 2).trans rfl
                    have hcz75_3 : wc.cell? ⟨gb850, 3, none⟩ = some (.bool ((rd_T71 l0_2 x10_1).f3)) := (blk_cell BK850.out 3).trans rfl
                    have hfz75_0 := blk_frozen BK850.out 0
                    have hfz75_1 := blk_frozen BK850.out 1
                    have hfz75_2 := blk_frozen BK850.out 2
                    have hfz75_3 := blk_frozen BK850.out 3
                    have hnb76 := NB840_839.out
                    have hnc76 := NB839_840.out
                    have hnb77 := NB840_841.out
                    have hnc77 := NB841_840.out
                    have hnb78 := NB840_848.out
                    have hnc78 := NB848_840.out
                    have hcz79_0 : wc.cell? ⟨gb840, 0, none⟩ = some (.int .i64 a1_0) := (blk_cell BK840.out 0).trans rfl
                    have hcz79_1 : wc.cell? ⟨gb840, 1, none⟩ = some (.int .i64 a1_1) := (blk_cell BK840.out 1).trans rfl
                    have hcz79_2 : wc.cell? ⟨gb840, 2, none⟩ = some (.int .i64 a1_2) := (blk_cell BK840.out 2).trans rfl
                    have hfz79_0 := blk_frozen BK840.out 0
                    have hfz79_1 := blk_frozen BK840.out 1
                    have hfz79_2 := blk_frozen BK840.out 2
                    have hnb80 := NB848_839.out
                    have hnc80 := NB839_848.out
                    have hnb81 := NB848_841.out
                    have hnc81 := NB841_848.out
                    have hcz82_0 : wc.cell? ⟨gb848, 0, none⟩ = some (.int .i64 a0_0) := (blk_cell BK848.out 0).trans rfl
                    have hcz82_1 : wc.cell? ⟨gb848, 1, none⟩ = some (.slice Ao16 y845.length co16) := (blk_cell BK848.out 1).trans rfl
                    have hcz82_2 : wc.cell? ⟨gb848, 2, none⟩ = some (u849002) := (blk_cell BK848.out 2).trans rfl
                    have hfz82_0 := blk_frozen BK848.out 0
                    have hfz82_1 := blk_frozen BK848.out 1
                    have hfz82_2 := blk_frozen BK848.out 2
                    go_wp2_with (first | ((with_reducible refine gate_builtin (b := .append) (xs := #[.tmp 80, .tmp 82]) rfl ?_); at_builtin; refine Kd.R_append k71 (w0 := w) w.heap.size rfl (.tmp 80) (.tmp 82) 28 71 (.agg #[(.int .i64 0), (.int .i64 0), (.int .i64 0), (.bool false)]) 32 rfl Try.underlying28 info71 rfl (by decide) (by omega) u849002 x849002_21 (⟨((rd_T71 l0_2 x10_1).f0), ((rd_T71 l0_2 x10_1).f1), ((rd_T71 l0_2 x10_1).f2), ((rd_T71 l0_2 x10_1).f3)⟩ : S71) [.int .i64 ((rd_T71 l0_2 x10_1).f0), .int .i64 ((rd_T71 l0_2 x10_1).f1), .int .i64 ((rd_T71 l0_2 x10_1).f2), .bool ((rd_T71 l0_2 x10_1).f3)] (fun k_ => k_ ≠ gb850) (fun _ => False) rfl rfl ?aP (fun _ hk => hk.elim) ?aF ?aO ?aB ?aS ?aL ?_; (case aP => exact k71_mkM _ _ _ (⟨((rd_T71 l0_2 x10_1).f0), ((rd_T71 l0_2 x10_1).f1), ((rd_T71 l0_2 x10_1).f2), ((rd_T71 l0_2 x10_1).f3)⟩ : S71)); (case aB => exact (bl HB.out)); (case aF => exact (fun k_ hk => Kd.freshB (g := gb850) (o := .cells #[.int .i64 ((rd_T71 l0_2 x10_1).f0), .int .i64 ((rd_T71 l0_2 x10_1).f1), .int .i64 ((rd_T71 l0_2 x10_1).f2), .bool ((rd_T71 l0_2 x10_1).f3)] 71 (0, 0)) (bk BK850.out) k_ hk)); (case aO => exact (rk HO_849002.out)); (case aS => exact (below_size (bl HB.out))); (case aL => have := LMc70.out; omega); intro v858 w83 ho hb hg hat; rw [← Ny857.out] at ho; have n0_ := Aside0.mk (Kd.R_over' (rk HO_849001.out) (Kd.R_typed (rk HO_849002.out)) (by decide) hg); have n1_ := Aside0.mk (blk_grown (g := gb839) (o := .cells #[.int .i64 a0_0, .slice A0_1 l0_1.length c0_1, .slice (some ad849) l0_2.length c0_2] 30 (0, 0)) (bk BK839.out) hg (Kd.R_ne HO_849002.out BK839.out (by decide))); have n2_ := Aside0.mk (blk_grown (g := gb840) (o := .cells #[.int .i64 a1_0, .int .i64 a1_1, .int .i64 a1_2] 54 (0, 0)) (bk BK840.out) hg (Kd.R_ne HO_849002.out BK840.out (by decide))); have n3_ := Aside0.mk (blk_grown (g := gb841) (o := .cells #[.int .i64 0, .slice none 0 0, .slice none 0 0] 30 (0, 0)) (bk BK841.out) hg (Kd.R_ne HO_849002.out BK841.out (by decide))); have n4_ := Aside0.mk (blk_grown (g := gb848) (o := .cells #[.int .i64 a0_0, .slice Ao16 y845.length co16, u849002] 30 (0, 0)) (bk BK848.out) hg (Kd.R_ne HO_849002.out BK848.out (by decide))); have n5_ := Aside0.mk (blk_grown (g := gb850) (o := .cells #[.int .i64 ((rd_T71 l0_2 x10_1).f0), .int .i64 ((rd_T71 l0_2 x10_1).f1), .int .i64 ((rd_T71 l0_2 x10_1).f2), .bool ((rd_T71 l0_2 x10_1).f3)] 71 (0, 0)) (bk BK850.out) hg (Kd.R_away HO_849002.out (fun _ hk => hk))); have n6_ := Aside0.mk (hb); have n7_ := Aside0.mk (ho); clear HO_849001; clear BK839; clear BK840; clear BK841; clear BK848; clear BK850; clear HB; clear HO_849002; have HO_849001 := n0_; have BK839 := n1_; have BK840 := n2_; have BK841 := n3_; have BK848 := n4_; have BK850 := n5_; have HB := n6_; have HO859 := n7_; clear n0_ n1_ n2_ n3_ n4_ n5_ n6_ n7_; clear ho hb hg hat; obtain ⟨Ao84, co84, eo84⟩ := Kd.R_slice HO859.out; subst eo84; have hcz85_0 : w83.cell? ⟨gb848, 0, none⟩ = some (.int .i64 a0_0) := (blk_cell BK848.out 0).trans rfl; have hcz85_1 : w83.cell? ⟨gb848, 1, none⟩ = some (.slice Ao16 y845.length co16) := (blk_cell BK848.out 1).trans rfl; have hcz85_2 : w83.cell? ⟨gb848, 2, none⟩ = some (u849002) := (blk_cell BK848.out 2).trans rfl; have hfz85_0 := blk_frozen BK848.out 0; have hfz85_1 := blk_frozen BK848.out 1; have hfz85_2 := blk_frozen BK848.out 2))
                    go_roundg kj21
                    case measure => have := HK1.out; have := HJ21.out; omega
                    case rel => exact ⟨(wrap64 (x10_1 + 1)), (y857), (.slice Ao84 y857.length co84), (by first | rfl | (simp; done) | (simp [*]; done)), H', ⟨by have := HK1.out; have := HJ21.out; omega⟩, ⟨by (with_reducible repeat (first | apply Kd.R_alloc | apply Kd.R_drewN | apply Kd.R_drew)); exact Kd.R_mono (Kd.R_far (p := ⟨gb848, 2, none⟩) (Kd.R_types HO_849001.out BK848.out (by decide)) (fun _ hk => hk.2) (.slice Ao84 y857.length co84)) (fun _ hk => trivial)⟩, ⟨by (with_reducible repeat (first | apply Kd.R_alloc | apply Kd.R_drewN | apply Kd.R_drew)); exact Kd.R_mono (Kd.R_far (p := ⟨gb848, 2, none⟩) (Kd.R_types HO859.out BK848.out (by decide)) (fun _ hk => hk.2) (.slice Ao84 y857.length co84)) (fun _ hk => trivial)⟩, ⟨by (with_reducible repeat (first | apply bN | apply bD | apply bA)); refine blk_far ?_ NB839_848.out _; (with_reducible repeat (first | apply bN | apply bD | apply bA)); exact BK839.out⟩, ⟨by (with_reducible repeat (first | apply bN | apply bD | apply bA)); refine blk_far ?_ NB840_848.out _; (with_reducible repeat (first | apply bN | apply bD | apply bA)); exact BK840.out⟩, ⟨by (with_reducible repeat (first | apply bN | apply bD | apply bA)); refine blk_far ?_ NB841_848.out _; (with_reducible repeat (first | apply bN | apply bD | apply bA)); exact BK841.out⟩, ⟨by (with_reducible repeat (first | apply bN | apply bD | apply bA)); refine blk_put (cs := #[.int .i64 a0_0, .slice Ao16 y845.length co16, u849002]) ?_ 2 _ rfl; (with_reducible repeat (first | apply bN | apply bD | apply bA)); exact BK848.out⟩, ⟨bl HB.out⟩⟩
                  · rw [if_neg c70] at H
                    exact absurd H (by simp)
                · rw [if_neg c69] at H
                  have c69b0 : decide (((rd_T71 l0_2 x10_1).f0) < a1_1) = false := decide_eq_false c69
                  clear c69
                  by_cases c86 : ((rd_T71 l0_2 x10_1).f0) ≥ (wrap64 (a1_1 + a1_2))
                  · rw [if_pos c86] at H
                    have c86b0 : decide ((wrap64 (a1_1 + a1_2)) ≤ ((rd_T71 l0_2 x10_1).f0)) = true := decide_eq_true c86
                    clear c86
                    by_cases c87 : x849002_21.length < 4398046511104
                    · rw [if_pos c87] at H
                      have LMc87 := Aside0.mk c87
                      clear c87
                      obtain ⟨y860, hy860⟩ : ∃ y_ : List (S71), y_ = (x849002_21 ++ [(⟨((rd_T71 l0_2 x10_1).f0), ((rd_T71 l0_2 x10_1).f1), ((rd_T71 l0_2 x10_1).f2), ((rd_T71 l0_2 x10_1).f3)⟩ : S71)]) := ⟨_, rfl⟩
                      replace H : (spec_l02Fill.l0 kj21 a2 a3 (wrap64 (x10_1 + 1)) a0_0 l0_1 l0_2 a1_0 a1_1 a1_2 a0_0 y845 y860) = some (r1, r2, r3) := by first | (rw [hy860]; with_reducible exact H) | (have H2_ := (Option.bind_some _ _).symm.trans H; rw [hy860]; with_reducible exact H2_) | (have H2_ := (Option.bind_some _ _).symm.trans H; with_reducible exact H2_) | with_reducible exact H | (rw [hy860]; exact H) | exact H
                      have Ny860 := Aside0.mk hy860
                      clear hy860
                      have H' := Aside0.mk H
                      clear H
                      have hnb88 := NB850_839.out
                      have hnc88 := NB839_850.out
                      have hnb89 := NB850_840.out
                      have hnc89 := NB840_850.out
                      have hnb90 := NB850_841.out
                      have hnc90 := NB841_850.out
                      have hnb91 := NB850_848.out
                      have hnc91 := NB848_850.out
                      have hcz92_0 : wc.cell? ⟨gb850, 0, none⟩ = some (.int .i64 ((rd_T71 l0_2 x10_1).f0)) := (blk_cell BK850.out 0).trans rfl
                      have hcz92_1 : wc.cell? ⟨gb850, 1, none⟩ = some (.int .i64 ((rd_T71 l0_2 x10_1).f1)) := (blk_cell BK850.out 1).trans rfl
                      have hcz92_2 : wc.cell? ⟨gb850, 2, none⟩ = some (.int .i64 ((rd_T71 l0_2 x10_1).f2)) := (blk_cell BK850.out 2).trans rfl
                      have hcz92_3 : wc.cell? ⟨gb850, 3, none⟩ = some (.bool ((rd_T71 l0_2 x10_1).f3)) := (blk_cell BK850.out 3).trans rfl
                      have hfz92_0 := blk_frozen BK850.out 0
                      have hfz92_1 := blk_frozen BK850.out 1
                      have hfz92_2 := blk_frozen BK850.out 2
                      have hfz92_3 := blk_frozen BK850.out 3
                      have hnb93 := NB840_839.out
                      have hnc93 := NB839_840.out
                      have hnb94 := NB840_841.out
                      have hnc94 := NB841_840.out
                      have hnb95 := NB840_848.out
                      have hnc95 := NB848_840.out
                      have hcz96_0 : wc.cell? ⟨gb840, 0, none⟩ = some (.int .i64 a1_0) := (blk_cell BK840.out 0).trans rfl
                      have hcz96_1 : wc.cell? ⟨gb840, 1, none⟩ = some (.int .i64 a1_1) := (blk_cell BK840.out 1).trans rfl
                      have hcz96_2 : wc.cell? ⟨gb840, 2, none⟩ = some (.int .i64 a1_2) := (blk_cell BK840.out 2).trans rfl
                      have hfz96_0 := blk_frozen BK840.out 0
                      have hfz96_1 := blk_frozen BK840.out 1
                      have hfz96_2 := blk_frozen BK840.out 2
                      have hnb97 := NB848_839.out
                      have hnc97 := NB839_848.out
                      have hnb98 := NB848_841.out
                      have hnc98 := NB841_848.out
                      have hcz99_0 : wc.cell? ⟨gb848, 0, none⟩ = some (.int .i64 a0_0) := (blk_cell BK848.out 0).trans rfl
                      have hcz99_1 : wc.cell? ⟨gb848, 1, none⟩ = some (.slice Ao16 y845.length co16) := (blk_cell BK848.out 1).trans rfl
                      have hcz99_2 : wc.cell? ⟨gb848, 2, none⟩ = some (u849002) := (blk_cell BK848.out 2).trans rfl
                      have hfz99_0 := blk_frozen BK848.out 0
                      have hfz99_1 := blk_frozen BK848.out 1
                      have hfz99_2 := blk_frozen BK848.out 2
                      go_wp2_with (first | ((with_reducible refine gate_builtin (b := .append) (xs := #[.tmp 80, .tmp 82]) rfl ?_); at_builtin; refine Kd.R_append k71 (w0 := w) w.heap.size rfl (.tmp 80) (.tmp 82) 28 71 (.agg #[(.int .i64 0), (.int .i64 0), (.int .i64 0), (.bool false)]) 32 rfl Try.underlying28 info71 rfl (by decide) (by omega) u849002 x849002_21 (⟨((rd_T71 l0_2 x10_1).f0), ((rd_T71 l0_2 x10_1).f1), ((rd_T71 l0_2 x10_1).f2), ((rd_T71 l0_2 x10_1).f3)⟩ : S71) [.int .i64 ((rd_T71 l0_2 x10_1).f0), .int .i64 ((rd_T71 l0_2 x10_1).f1), .int .i64 ((rd_T71 l0_2 x10_1).f2), .bool ((rd_T71 l0_2 x10_1).f3)] (fun k_ => k_ ≠ gb850) (fun _ => False) rfl rfl ?aP (fun _ hk => hk.elim) ?aF ?aO ?aB ?aS ?aL ?_; (case aP => exact k71_mkM _ _ _ (⟨((rd_T71 l0_2 x10_1).f0), ((rd_T71 l0_2 x10_1).f1), ((rd_T71 l0_2 x10_1).f2), ((rd_T71 l0_2 x10_1).f3)⟩ : S71)); (case aB => exact (bl HB.out)); (case aF => exact (fun k_ hk => Kd.freshB (g := gb850) (o := .cells #[.int .i64 ((rd_T71 l0_2 x10_1).f0), .int .i64 ((rd_T71 l0_2 x10_1).f1), .int .i64 ((rd_T71 l0_2 x10_1).f2), .bool ((rd_T71 l0_2 x10_1).f3)] 71 (0, 0)) (bk BK850.out) k_ hk)); (case aO => exact (rk HO_849002.out)); (case aS => exact (below_size (bl HB.out))); (case aL => have := LMc87.out; omega); intro v861 w100 ho hb hg hat; rw [← Ny860.out] at ho; have n0_ := Aside0.mk (Kd.R_over' (rk HO_849001.out) (Kd.R_typed (rk HO_849002.out)) (by decide) hg); have n1_ := Aside0.mk (blk_grown (g := gb839) (o := .cells #[.int .i64 a0_0, .slice A0_1 l0_1.length c0_1, .slice (some ad849) l0_2.length c0_2] 30 (0, 0)) (bk BK839.out) hg (Kd.R_ne HO_849002.out BK839.out (by decide))); have n2_ := Aside0.mk (blk_grown (g := gb840) (o := .cells #[.int .i64 a1_0, .int .i64 a1_1, .int .i64 a1_2] 54 (0, 0)) (bk BK840.out) hg (Kd.R_ne HO_849002.out BK840.out (by decide))); have n3_ := Aside0.mk (blk_grown (g := gb841) (o := .cells #[.int .i64 0, .slice none 0 0, .slice none 0 0] 30 (0, 0)) (bk BK841.out) hg (Kd.R_ne HO_849002.out BK841.out (by decide))); have n4_ := Aside0.mk (blk_grown (g := gb848) (o := .cells #[.int .i64 a0_0, .slice Ao16 y845.length co16, u849002] 30 (0, 0)) (bk BK848.out) hg (Kd.R_ne HO_849002.out BK848.out (by decide))); have n5_ := Aside0.mk (blk_grown (g := gb850) (o := .cells #[.int .i64 ((rd_T71 l0_2 x10_1).f0), .int .i64 ((rd_T71 l0_2 x10_1).f1), .int .i64 ((rd_T71 l0_2 x10_1).f2), .bool ((rd_T71 l0_2 x10_1).f3)] 71 (0, 0)) (bk BK850.out) hg (Kd.R_away HO_849002.out (fun _ hk => hk))); have n6_ := Aside0.mk (hb); have n7_ := Aside0.mk (ho); clear HO_849001; clear BK839; clear BK840; clear BK841; clear BK848; clear BK850; clear HB; clear HO_849002; have HO_849001 := n0_; have BK839 := n1_; have BK840 := n2_; have BK841 := n3_; have BK848 := n4_; have BK850 := n5_; have HB := n6_; have HO862 := n7_; clear n0_ n1_ n2_ n3_ n4_ n5_ n6_ n7_; clear ho hb hg hat; obtain ⟨Ao101, co101, eo101⟩ := Kd.R_slice HO862.out; subst eo101; have hcz102_0 : w100.cell? ⟨gb848, 0, none⟩ = some (.int .i64 a0_0) := (blk_cell BK848.out 0).trans rfl; have hcz102_1 : w100.cell? ⟨gb848, 1, none⟩ = some (.slice Ao16 y845.length co16) := (blk_cell BK848.out 1).trans rfl; have hcz102_2 : w100.cell? ⟨gb848, 2, none⟩ = some (u849002) := (blk_cell BK848.out 2).trans rfl; have hfz102_0 := blk_frozen BK848.out 0; have hfz102_1 := blk_frozen BK848.out 1; have hfz102_2 := blk_frozen BK848.out 2))
                      go_roundg kj21
                      case measure => have := HK1.out; have := HJ21.out; omega
                      case rel => exact ⟨(wrap64 (x10_1 + 1)), (y860), (.slice Ao101 y860.length co101), (by first | rfl | (simp; done) | (simp [*]; done)), H', ⟨by have := HK1.out; have := HJ21.out; omega⟩, ⟨by (with_reducible repeat (first | apply Kd.R_alloc | apply Kd.R_drewN | apply Kd.R_drew)); exact Kd.R_mono (Kd.R_far (p := ⟨gb848, 2, none⟩) (Kd.R_types HO_849001.out BK848.out (by decide)) (fun _ hk => hk.2) (.slice Ao101 y860.length co101)) (fun _ hk => trivial)⟩, ⟨by (with_reducible repeat (first | apply Kd.R_alloc | apply Kd.R_drewN | apply Kd.R_drew)); exact Kd.R_mono (Kd.R_far (p := ⟨gb848, 2, none⟩) (Kd.R_types HO862.out BK848.out (by decide)) (fun _ hk => hk.2) (.slice Ao101 y860.length co101)) (fun _ hk => trivial)⟩, ⟨by (with_reducible repeat (first | apply bN | apply bD | apply bA)); refine blk_far ?_ NB839_848.out _; (with_reducible repeat (first | apply bN | apply bD | apply bA)); exact BK839.out⟩, ⟨by (with_reducible repeat (first | apply bN | apply bD | apply bA)); refine blk_far ?_ NB840_848.out _; (with_reducible repeat (first | apply bN | apply bD | apply bA)); exact BK840.out⟩, ⟨by (with_reducible repeat (first | apply bN | apply bD | apply bA)); refine blk_far ?_ NB841_848.out _; (with_reducible repeat (first | apply bN | apply bD | apply bA)); exact BK841.out⟩, ⟨by (with_reducible repeat (first | apply bN | apply bD | apply bA)); refine blk_put (cs := #[.int .i64 a0_0, .slice Ao16 y845.length co16, u849002]) ?_ 2 _ rfl; (with_reducible repeat (first | apply bN | apply bD | apply bA)); exact BK848.out⟩, ⟨bl HB.out⟩⟩
                    · rw [if_neg c87] at H
                      exact absurd H (by simp)
                  · rw [if_neg c86] at H
                    have c86b0 : decide ((wrap64 (a1_1 + a1_2)) ≤ ((rd_T71 l0_2 x10_1).f0)) = false := decide_eq_false c86
                    clear c86
                    have H' := Aside0.mk H
                    clear H
                    have hnb103 := NB850_839.out
                    have hnc103 := NB839_850.out
                    have hnb104 := NB850_840.out
                    have hnc104 := NB840_850.out
                    have hnb105 := NB850_841.out
                    have hnc105 := NB841_850.out
                    have hnb106 := NB850_848.out
                    have hnc106 := NB848_850.out
                    have hcz107_0 : wc.cell? ⟨gb850, 0, none⟩ = some (.int .i64 ((rd_T71 l0_2 x10_1).f0)) := (blk_cell BK850.out 0).trans rfl
                    have hcz107_1 : wc.cell? ⟨gb850, 1, none⟩ = some (.int .i64 ((rd_T71 l0_2 x10_1).f1)) := (blk_cell BK850.out 1).trans rfl
                    have hcz107_2 : wc.cell? ⟨gb850, 2, none⟩ = some (.int .i64 ((rd_T71 l0_2 x10_1).f2)) := (blk_cell BK850.out 2).trans rfl
                    have hcz107_3 : wc.cell? ⟨gb850, 3, none⟩ = some (.bool ((rd_T71 l0_2 x10_1).f3)) := (blk_cell BK850.out 3).trans rfl
                    have hfz107_0 := blk_frozen BK850.out 0
                    have hfz107_1 := blk_frozen BK850.out 1
                    have hfz107_2 := blk_frozen BK850.out 2
                    have hfz107_3 := blk_frozen BK850.out 3
                    have hnb108 := NB840_839.out
                    have hnc108 := NB839_840.out
                    have hnb109 := NB840_841.out
                    have hnc109 := NB841_840.out
                    have hnb110 := NB840_848.out
                    have hnc110 := NB848_840.out
                    have hcz111_0 : wc.cell? ⟨gb840, 0, none⟩ = some (.int .i64 a1_0) := (blk_cell BK840.out 0).trans rfl
                    have hcz111_1 : wc.cell? ⟨gb840, 1, none⟩ = some (.int .i64 a1_1) := (blk_cell BK840.out 1).trans rfl
                    have hcz111_2 : wc.cell? ⟨gb840, 2, none⟩ = some (.int .i64 a1_2) := (blk_cell BK840.out 2).trans rfl
                    have hfz111_0 := blk_frozen BK840.out 0
                    have hfz111_1 := blk_frozen BK840.out 1
                    have hfz111_2 := blk_frozen BK840.out 2
                    go_wp2
                    go_roundg kj21
                    case measure => have := HK1.out; have := HJ21.out; omega
                    case rel => exact ⟨(wrap64 (x10_1 + 1)), (x849002_21), (u849002), (by first | rfl | (simp; done) | (simp [*]; done)), H', ⟨by have := HK1.out; have := HJ21.out; omega⟩, ⟨rk HO_849001.out⟩, ⟨by (with_reducible repeat (first | apply Kd.R_alloc | apply Kd.R_drewN | apply Kd.R_drew)); exact Kd.R_mono HO_849002.out (fun _ hk => trivial)⟩, ⟨by (with_reducible repeat (first | apply bN | apply bD | apply bA)); exact BK839.out⟩, ⟨by (with_reducible repeat (first | apply bN | apply bD | apply bA)); exact BK840.out⟩, ⟨by (with_reducible repeat (first | apply bN | apply bD | apply bA)); exact BK841.out⟩, ⟨by (with_reducible repeat (first | apply bN | apply bD | apply bA)); exact BK848.out⟩, ⟨bl HB.out⟩⟩
          · rw [if_neg c21] at H
            exact absurd H (by simp)
        · rw [if_neg c20] at H
          have c20b0 : decide (x10_1 < (l0_2.length : Int)) = false := decide_eq_false c20
          clear c20
          simp only [Option.some.injEq, Prod.mk.injEq] at H
          obtain ⟨rfl, rfl, rfl⟩ := H
          have hnb112 := NB839_840.out
          have hnc112 := NB840_839.out
          have hnb113 := NB839_841.out
          have hnc113 := NB841_839.out
          have hnb114 := NB839_848.out
          have hnc114 := NB848_839.out
          have hcz115_0 : wr.cell? ⟨gb839, 0, none⟩ = some (.int .i64 a0_0) := (blk_cell BK839.out 0).trans rfl
          have hcz115_1 : wr.cell? ⟨gb839, 1, none⟩ = some (.slice A0_1 l0_1.length c0_1) := (blk_cell BK839.out 1).trans rfl
          have hcz115_2 : wr.cell? ⟨gb839, 2, none⟩ = some (.slice A0_2 l0_2.length c0_2) := (blk_cell BK839.out 2).trans rfl
          have hfz115_0 := blk_frozen BK839.out 0
          have hfz115_1 := blk_frozen BK839.out 1
          have hfz115_2 := blk_frozen BK839.out 2
          have hnb116 := NB848_840.out
          have hnc116 := NB840_848.out
          have hnb117 := NB848_841.out
          have hnc117 := NB841_848.out
          have hcz118_0 : wr.cell? ⟨gb848, 0, none⟩ = some (.int .i64 a0_0) := (blk_cell BK848.out 0).trans rfl
          have hcz118_1 : wr.cell? ⟨gb848, 1, none⟩ = some (.slice Ao16 y845.length co16) := (blk_cell BK848.out 1).trans rfl
          have hcz118_2 : wr.cell? ⟨gb848, 2, none⟩ = some (u849002) := (blk_cell BK848.out 2).trans rfl
          have hfz118_0 := blk_frozen BK848.out 0
          have hfz118_1 := blk_frozen BK848.out 1
          have hfz118_2 := blk_frozen BK848.out 2
          have hnb119 := NB841_840.out
          have hnc119 := NB840_841.out
          have hcz120_0 : wr.cell? ⟨gb841, 0, none⟩ = some (.int .i64 0) := (blk_cell BK841.out 0).trans rfl
          have hcz120_1 : wr.cell? ⟨gb841, 1, none⟩ = some (.slice none 0 0) := (blk_cell BK841.out 1).trans rfl
          have hcz120_2 : wr.cell? ⟨gb841, 2, none⟩ = some (.slice none 0 0) := (blk_cell BK841.out 2).trans rfl
          have hfz120_0 := blk_frozen BK841.out 0
          have hfz120_1 := blk_frozen BK841.out 1
          have hfz120_2 := blk_frozen BK841.out 2
          obtain ⟨Ao121, co121, eo121⟩ := Kd.R_slice HO_849002.out
          subst eo121
          go_wp2
          refine bodyPost_ret (results_cell_row rfl _ _ gb841 30 #[.int .i64 a0_0, .slice Ao16 y845.length co16, .slice Ao121 x849002_1.length co121] (0, 0) _ rfl (by (with_reducible repeat (first | apply bN | apply bD | apply bA)); refine blk_put (cs := #[.int .i64 a0_0, .slice Ao16 y845.length co16, .slice none 0 0]) ?_ 2 _ rfl; (with_reducible repeat (first | apply bN | apply bD | apply bA)); refine blk_put (cs := #[.int .i64 a0_0, .slice none 0 0, .slice none 0 0]) ?_ 1 _ rfl; (with_reducible repeat (first | apply bN | apply bD | apply bA)); refine blk_put (cs := #[.int .i64 0, .slice none 0 0, .slice none 0 0]) ?_ 0 _ rfl; (with_reducible repeat (first | apply bN | apply bD | apply bA)); exact BK841.out) Try.underlying30 rfl (by kernel_rfl)) rfl ?_
          exact ⟨_, _, by first | rfl | (simp [errW_none, errW_some] <;> rfl) | (simp [*, errW_none, errW_some] <;> rfl), by (with_reducible repeat (first | apply Kd.R_alloc | apply Kd.R_drewN | apply Kd.R_drew)); exact Kd.R_mono (Kd.R_far (p := ⟨gb841, 2, none⟩) (Kd.R_far (p := ⟨gb841, 1, none⟩) (Kd.R_far (p := ⟨gb841, 0, none⟩) (Kd.R_types HO_849001.out BK841.out (by decide)) (fun _ hk => hk.2) (.int .i64 a0_0)) (fun _ hk => hk.2) (.slice Ao16 y845.length co16)) (fun _ hk => hk.2) (.slice Ao121 x849002_1.length co121)) (fun _ hk => trivial), by (with_reducible repeat (first | apply Kd.R_alloc | apply Kd.R_drewN | apply Kd.R_drew)); exact Kd.R_mono (Kd.R_far (p := ⟨gb841, 2, none⟩) (Kd.R_far (p := ⟨gb841, 1, none⟩) (Kd.R_far (p := ⟨gb841, 0, none⟩) (Kd.R_types HO_849002.out BK841.out (by decide)) (fun _ hk => hk.2) (.int .i64 a0_0)) (fun _ hk => hk.2) (.slice Ao16 y845.length co16)) (fun _ hk => hk.2) (.slice Ao121 x849002_1.length co121)) (fun _ hk => trivial), bl HB.out⟩
  · rw [if_neg c5] at H
    exact absurd H (by simp)
end Go.Proofs.Ytghfeapncmlihaa.A
