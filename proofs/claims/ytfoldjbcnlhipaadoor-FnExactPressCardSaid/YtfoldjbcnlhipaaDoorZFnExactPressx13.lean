/- What the proof of the law FnExactPress uses: lemmas, the Lean functions of the Go functions that it reaches, their contracts, and the pure statement's proof. -/
import Derived.Test.YtfoldjbcnlhipaaDoorZFnExactPressx11
import Derived.Test.YtfoldjbcnlhipaaDoorZFnExactPressx12
import Derived.ProofKit
import Derived.OpenShut
import Derived.ShutString
import Derived.ChangeOld
import Derived.SizedLaws
import Derived.ChangeArms
namespace Go.Proofs.YtfoldjbcnlhipaaDoor.A
open Go.RowKit Go.Proofs.YtfoldjbcnlhipaaDoorW.PrintWords Go.Proofs.YtfoldjbcnlhipaaDoorW.PrintLast Go.Proofs.YtfoldjbcnlhipaaDoorW.PrintMore
attribute [local go_sem] max2_int min2_int max_two min_two max_three min_three max_four min_four   
set_option linter.unusedVariables false
set_option linter.unusedSimpArgs false
def laws_FnExactPress.f (k : Nat) (a0_0 : Int) (a0_1 : Int) : Option (Bool) := (laws_toPad.f a0_0 a0_1).bind fun bt210 => ((spec_Press.f k bt210.1 bt210.2).bind fun bt212 => ((laws_toPad.f a0_0 a0_1).bind fun bt217 => ((impl_Press.f k bt217.1 bt217.2).bind fun bt219 => ((laws_eqPad.f bt219.1 bt219.2.1 bt212.1 bt212.2.1).bind fun t224 => (if t224 = true then (if bt219.2.2.1.toList = bt212.2.2.1.toList then (if (bt219.2.2.2 != bt212.2.2.2) = true then (some false) else (some true)) else (some false)) else (some false))))))
set_option maxHeartbeats 8000000 in
set_option maxRecDepth 100000 in
theorem laws_FnExactPress.calls (k : Nat) (a0_0 : Int) (a0_1 : Int) (r : Bool) (w : World) (hr_ : Aside0 (r = true)) (h : laws_FnExactPress.f k a0_0 a0_1 = some r) (hTI : TabI w := by first | exact Aside0.out (by assumption) | exact tabI_below (Aside0.out (by assumption)) (by repeat (first | (with_reducible first | exact Aside0.out (by assumption) | apply below_alloc | apply pw_below_drewN | apply below_drew1) | exact Below.refl _ _))) :
    Calls Tryd.prog 7 #[.agg #[.int .i64 a0_0, .int .i64 a0_1]] w fun e w' => e = .returned (.bool r) ∧ Below w.heap.size w w' := by
  have HTI_ := Aside0.mk hTI
  clear hTI
  have hu33 := Tryd.underlying33
  have hu34 := Tryd.underlying34
  have HB := Aside0.mk (Below.refl w.heap.size w)
  have H : ((laws_toPad.f a0_0 a0_1).bind fun bt210 => ((spec_Press.f k bt210.1 bt210.2).bind fun bt212 => ((laws_toPad.f a0_0 a0_1).bind fun bt217 => ((impl_Press.f k bt217.1 bt217.2).bind fun bt219 => ((laws_eqPad.f bt219.1 bt219.2.1 bt212.1 bt212.2.1).bind fun t224 => (if t224 = true then (if bt219.2.2.1.toList = bt212.2.2.1.toList then (if (bt219.2.2.2 != bt212.2.2.2) = true then (some false) else (some true)) else (some false)) else (some false))))))) = some r := h
  clear h
  replace H := Option.bind_eq_some_iff.mp H
  obtain ⟨⟨t210, t211⟩, A20, H⟩ := H
  replace H : ((spec_Press.f k t210 t211).bind fun bt212 => ((laws_toPad.f a0_0 a0_1).bind fun bt217 => ((impl_Press.f k bt217.1 bt217.2).bind fun bt219 => ((laws_eqPad.f bt219.1 bt219.2.1 bt212.1 bt212.2.1).bind fun t224 => (if t224 = true then (if bt219.2.2.1.toList = bt212.2.2.1.toList then (if (bt219.2.2.2 != bt212.2.2.2) = true then (some false) else (some true)) else (some false)) else (some false)))))) = some r := H
  have A2 := Aside0.mk A20
  clear A20
  replace H := Option.bind_eq_some_iff.mp H
  obtain ⟨⟨t212, t213, t214, t215⟩, A30, H⟩ := H
  replace H : ((laws_toPad.f a0_0 a0_1).bind fun bt217 => ((impl_Press.f k bt217.1 bt217.2).bind fun bt219 => ((laws_eqPad.f bt219.1 bt219.2.1 t212 t213).bind fun t224 => (if t224 = true then (if bt219.2.2.1.toList = t214.toList then (if (bt219.2.2.2 != t215) = true then (some false) else (some true)) else (some false)) else (some false))))) = some r := H
  have A3 := Aside0.mk A30
  clear A30
  replace H := Option.bind_eq_some_iff.mp H
  obtain ⟨⟨t217, t218⟩, A40, H⟩ := H
  replace H : ((impl_Press.f k t217 t218).bind fun bt219 => ((laws_eqPad.f bt219.1 bt219.2.1 t212 t213).bind fun t224 => (if t224 = true then (if bt219.2.2.1.toList = t214.toList then (if (bt219.2.2.2 != t215) = true then (some false) else (some true)) else (some false)) else (some false)))) = some r := H
  have A4 := Aside0.mk A40
  clear A40
  replace H := Option.bind_eq_some_iff.mp H
  obtain ⟨⟨t219, t220, t221, t222⟩, A50, H⟩ := H
  replace H : ((laws_eqPad.f t219 t220 t212 t213).bind fun t224 => (if t224 = true then (if t221.toList = t214.toList then (if (t222 != t215) = true then (some false) else (some true)) else (some false)) else (some false))) = some r := H
  have A5 := Aside0.mk A50
  clear A50
  replace H := Option.bind_eq_some_iff.mp H
  obtain ⟨t224, A60, H⟩ := H
  replace H : (if t224 = true then (if t221.toList = t214.toList then (if (t222 != t215) = true then (some false) else (some true)) else (some false)) else (some false)) = some r := H
  have A6 := Aside0.mk A60
  clear A60
  by_cases c7 : t224 = true
  · subst c7
    have H1 : (if t221.toList = t214.toList then (if (t222 != t215) = true then (some false) else (some true)) else (some false)) = some r := by rw [if_pos rfl] at H; exact H
    clear H
    have H := H1
    clear H1
    by_cases c8 : t221.toList = t214.toList
    · rw [if_pos c8] at H
      have c8b0 : (t221.toList == t214.toList) = true := beq_iff_eq.mpr c8
      have c8b1 : (t221.toList != t214.toList) = false := bne_eq_false_iff_eq.mpr c8
      clear c8
      by_cases c9 : (t222 != t215) = true
      · rw [if_pos c9] at H
        have c9b0 : (t222 != t215) = true := c9
        (try (have c9b1 : decide (t222 = t215) = false := by simpa using c9))
        (try (have c9b2 : (t222 == t215) = false := by simpa using c9))
        (try (have c9b3 : ¬ (t222 = t215) := by simpa using c9))
        clear c9
        exact absurd (Option.some.inj H) (by rw [hr_.out]; decide)
      · rw [if_neg c9] at H
        have c9b0 : (t222 != t215) = false := by simpa using c9
        (try (have c9b1 : decide (t222 = t215) = true := by simpa using c9))
        (try (have c9b2 : (t222 == t215) = true := by simpa using c9))
        clear c9
        obtain rfl := Option.some.inj H
        go_enter Tryd.func7, Tryd.ntmps7
        go_wp2_with (first | ((with_reducible refine gate_dst (N := 1) rfl ?_); refine box_event ?hg (N := 1) ?hd (cs := #[.int .i64 a0_0, .int .i64 a0_1]) (t := 33) ?hr ?_; (case hd => rfl); (case hg => rfl); (case hr => first | (go_simp; done) | (go_simp; rfl)); intro gb209 hg w10 hbox hb; have n0_ := Aside0.mk (below_step (by repeat (first | (with_reducible first | exact HB.out | apply below_alloc | apply pw_below_drewN | apply below_drew1) | exact HB.out)) hb); have n1_ := Aside0.mk (hbox); have n2_ := Aside0.mk ((by rw [hg]; exact (below_size (by repeat (first | (with_reducible first | exact HB.out | apply below_alloc | apply pw_below_drewN | apply below_drew1) | exact HB.out))) : w.heap.size ≤ gb209)); have n3_ := Aside0.mk ((by rw [hg]; exact (below_size (by repeat (first | (with_reducible first | exact HB.out | apply below_alloc | apply pw_below_drewN | apply below_drew1) | exact HB.out))) : w.heap.size ≤ gb209)); clear HB; have HB := n0_; have BK209 := n1_; have GW209 := n2_; have GE209 := n3_; clear n0_ n1_ n2_ n3_; clear hb hbox hg; have hcz11_0 : w10.cell? ⟨gb209, 0, none⟩ = some (.int .i64 a0_0) := (blk_cell BK209.out 0).trans rfl; have hcz11_1 : w10.cell? ⟨gb209, 1, none⟩ = some (.int .i64 a0_1) := (blk_cell BK209.out 1).trans rfl; have hfz11_0 := blk_frozen BK209.out 0; have hfz11_1 := blk_frozen BK209.out 1) | ((with_reducible refine gate_callee (f := 20) rfl ?_); refine goesL_ (some 11) rfl rfl Tryd.func20 (by kernel_rfl) rfl #[.agg #[.int .i64 a0_0, .int .i64 a0_1]] rfl (by (try simp only [List.map_toArray, List.map_cons, List.map_nil]); first | done | rfl | (simp only [List.length_drop, List.length_take]; rfl)) ?_; (with_reducible refine (laws_toPad.calls a0_0 a0_1 t210 t211 _ A2.out).mono ?_); rintro e w12 ⟨rfl, hb⟩; refine ⟨_, rfl, ?_⟩; have n0_ := Aside0.mk (blk_below (g := gb209) (o := .cells #[.int .i64 a0_0, .int .i64 a0_1] 33 (0, 0)) (by (with_reducible repeat (first | refine blk_drewN ?_ _ | refine blk_drew ?_ | refine blk_alloc ?_ _)); exact BK209.out) hb); have n1_ := Aside0.mk (below_step (by repeat (first | (with_reducible first | exact HB.out | apply below_alloc | apply pw_below_drewN | apply below_drew1 | refine below_set ?_ GE209.out) | exact HB.out)) hb); clear BK209; clear HB; have BK209 := n0_; have HB := n1_; clear n0_ n1_; (try clear hb); (try clear hb2); (try clear hk); (try clear hi)) | ((with_reducible refine gate_callee (f := 19) rfl ?_); refine goesL_ (some 12) rfl rfl Tryd.func19 (by kernel_rfl) rfl #[.agg #[.int .i64 t210, .int .i64 t211]] rfl (by (try simp only [List.map_toArray, List.map_cons, List.map_nil]); first | done | rfl | (simp only [List.length_drop, List.length_take]; rfl)) ?_; (with_reducible refine (spec_Press.calls k t210 t211 t212 t213 t214 t215 _ A3.out).mono ?_); rintro e w13 ⟨rfl, hb⟩; refine ⟨_, rfl, ?_⟩; have n0_ := Aside0.mk (blk_below (g := gb209) (o := .cells #[.int .i64 a0_0, .int .i64 a0_1] 33 (0, 0)) (by (with_reducible repeat (first | refine blk_drewN ?_ _ | refine blk_drew ?_ | refine blk_alloc ?_ _)); exact BK209.out) hb); have n1_ := Aside0.mk (below_step (by repeat (first | (with_reducible first | exact HB.out | apply below_alloc | apply pw_below_drewN | apply below_drew1 | refine below_set ?_ GE209.out) | exact HB.out)) hb); clear BK209; clear HB; have BK209 := n0_; have HB := n1_; clear n0_ n1_; (try clear hb); (try clear hb2); (try clear hk); (try clear hi)) | ((with_reducible refine gate_dst (N := 3) rfl ?_); refine box_event ?hg (N := 3) ?hd (cs := #[.int .i64 0, .int .i64 0]) (t := 34) ?hr ?_; (case hd => rfl); (case hg => rfl); (case hr => first | (go_simp; done) | (go_simp; rfl)); intro gb216 hg w14 hbox hb; have n0_ := Aside0.mk (blk_below (g := gb209) (o := .cells #[.int .i64 a0_0, .int .i64 a0_1] 33 (0, 0)) (by (with_reducible repeat (first | refine blk_drewN ?_ _ | refine blk_drew ?_ | refine blk_alloc ?_ _)); exact BK209.out) hb); have n1_ := Aside0.mk (below_step (by repeat (first | (with_reducible first | exact HB.out | apply below_alloc | apply pw_below_drewN | apply below_drew1 | refine below_set ?_ GE209.out) | exact HB.out)) hb); have n2_ := Aside0.mk (hbox); have n3_ := Aside0.mk ((by rw [hg]; exact (below_size (by repeat (first | (with_reducible first | exact HB.out | apply below_alloc | apply pw_below_drewN | apply below_drew1 | refine below_set ?_ GE209.out) | exact HB.out))) : w.heap.size ≤ gb216)); have n4_ := Aside0.mk ((by rw [hg]; exact (below_size (by repeat (first | (with_reducible first | exact HB.out | apply below_alloc | apply pw_below_drewN | apply below_drew1 | refine below_set ?_ GE209.out) | exact HB.out))) : w.heap.size ≤ gb216)); have n5_ := Aside0.mk ((by rw [hg]; exact Nat.ne_of_lt (blk_lt (g := gb209) (o := .cells #[.int .i64 a0_0, .int .i64 a0_1] 33 (0, 0)) (by (with_reducible repeat (first | refine blk_drewN ?_ _ | refine blk_drew ?_ | refine blk_alloc ?_ _)); exact BK209.out)) : gb209 ≠ gb216)); have n6_ := Aside0.mk ((by rw [hg]; exact Nat.ne_of_gt (blk_lt (g := gb209) (o := .cells #[.int .i64 a0_0, .int .i64 a0_1] 33 (0, 0)) (by (with_reducible repeat (first | refine blk_drewN ?_ _ | refine blk_drew ?_ | refine blk_alloc ?_ _)); exact BK209.out)) : gb216 ≠ gb209)); clear BK209; clear HB; have BK209 := n0_; have HB := n1_; have BK216 := n2_; have GW216 := n3_; have GE216 := n4_; have NB209_216 := n5_; have NB216_209 := n6_; clear n0_ n1_ n2_ n3_ n4_ n5_ n6_; clear hb hbox hg; have hnb15 := NB216_209.out; have hnc15 := NB209_216.out; have hcz16_0 : w14.cell? ⟨gb216, 0, none⟩ = some (.int .i64 0) := (blk_cell BK216.out 0).trans rfl; have hcz16_1 : w14.cell? ⟨gb216, 1, none⟩ = some (.int .i64 0) := (blk_cell BK216.out 1).trans rfl; have hfz16_0 := blk_frozen BK216.out 0; have hfz16_1 := blk_frozen BK216.out 1; have hcz17_0 : w14.cell? ⟨gb209, 0, none⟩ = some (.int .i64 a0_0) := (blk_cell BK209.out 0).trans rfl; have hcz17_1 : w14.cell? ⟨gb209, 1, none⟩ = some (.int .i64 a0_1) := (blk_cell BK209.out 1).trans rfl; have hfz17_0 := blk_frozen BK209.out 0; have hfz17_1 := blk_frozen BK209.out 1) | ((with_reducible refine gate_callee (f := 20) rfl ?_); refine goesL_ (some 18) rfl rfl Tryd.func20 (by kernel_rfl) rfl #[.agg #[.int .i64 a0_0, .int .i64 a0_1]] rfl (by (try simp only [List.map_toArray, List.map_cons, List.map_nil]); first | done | rfl | (simp only [List.length_drop, List.length_take]; rfl)) ?_; (with_reducible refine (laws_toPad.calls a0_0 a0_1 t217 t218 _ A4.out).mono ?_); rintro e w18 ⟨rfl, hb⟩; refine ⟨_, rfl, ?_⟩; have n0_ := Aside0.mk (blk_below (g := gb209) (o := .cells #[.int .i64 a0_0, .int .i64 a0_1] 33 (0, 0)) (by (with_reducible repeat (first | refine blk_drewN ?_ _ | refine blk_drew ?_ | refine blk_alloc ?_ _)); refine blk_far ?_ NB209_216.out _; (with_reducible repeat (first | refine blk_drewN ?_ _ | refine blk_drew ?_ | refine blk_alloc ?_ _)); refine blk_far ?_ NB209_216.out _; (with_reducible repeat (first | refine blk_drewN ?_ _ | refine blk_drew ?_ | refine blk_alloc ?_ _)); exact BK209.out) hb); have n1_ := Aside0.mk (blk_below (g := gb216) (o := .cells #[.int .i64 t212, .int .i64 t213] 34 (0, 0)) (by (with_reducible repeat (first | refine blk_drewN ?_ _ | refine blk_drew ?_ | refine blk_alloc ?_ _)); refine blk_put (cs := #[.int .i64 t212, .int .i64 0]) ?_ 1 _ rfl; (with_reducible repeat (first | refine blk_drewN ?_ _ | refine blk_drew ?_ | refine blk_alloc ?_ _)); refine blk_put (cs := #[.int .i64 0, .int .i64 0]) ?_ 0 _ rfl; (with_reducible repeat (first | refine blk_drewN ?_ _ | refine blk_drew ?_ | refine blk_alloc ?_ _)); exact BK216.out) hb); have n2_ := Aside0.mk (below_step (by repeat (first | (with_reducible first | exact HB.out | apply below_alloc | apply pw_below_drewN | apply below_drew1 | refine below_set ?_ GE209.out | refine below_set ?_ GE216.out) | exact HB.out)) hb); clear BK209; clear BK216; clear HB; have BK209 := n0_; have BK216 := n1_; have HB := n2_; clear n0_ n1_ n2_; (try clear hb); (try clear hb2); (try clear hk); (try clear hi)) | ((with_reducible refine gate_callee (f := 21) rfl ?_); refine goesL_ (some 19) rfl rfl Tryd.func21 (by kernel_rfl) rfl #[.agg #[.int .i64 t217, .int .i64 t218]] rfl (by (try simp only [List.map_toArray, List.map_cons, List.map_nil]); first | done | rfl | (simp only [List.length_drop, List.length_take]; rfl)) ?_; (with_reducible refine (impl_Press.calls k t217 t218 t219 t220 t221 t222 _ A5.out).mono ?_); rintro e w19 ⟨rfl, hb⟩; refine ⟨_, rfl, ?_⟩; have n0_ := Aside0.mk (blk_below (g := gb209) (o := .cells #[.int .i64 a0_0, .int .i64 a0_1] 33 (0, 0)) (by (with_reducible repeat (first | refine blk_drewN ?_ _ | refine blk_drew ?_ | refine blk_alloc ?_ _)); exact BK209.out) hb); have n1_ := Aside0.mk (blk_below (g := gb216) (o := .cells #[.int .i64 t212, .int .i64 t213] 34 (0, 0)) (by (with_reducible repeat (first | refine blk_drewN ?_ _ | refine blk_drew ?_ | refine blk_alloc ?_ _)); exact BK216.out) hb); have n2_ := Aside0.mk (below_step (by repeat (first | (with_reducible first | exact HB.out | apply below_alloc | apply pw_below_drewN | apply below_drew1 | refine below_set ?_ GE209.out | refine below_set ?_ GE216.out) | exact HB.out)) hb); clear BK209; clear BK216; clear HB; have BK209 := n0_; have BK216 := n1_; have HB := n2_; clear n0_ n1_ n2_; (try clear hb); (try clear hb2); (try clear hk); (try clear hi)) | ((with_reducible refine gate_dst (N := 6) rfl ?_); refine box_event ?hg (N := 6) ?hd (cs := #[.int .i64 0, .int .i64 0]) (t := 34) ?hr ?_; (case hd => rfl); (case hg => rfl); (case hr => first | (go_simp; done) | (go_simp; rfl)); intro gb223 hg w20 hbox hb; have n0_ := Aside0.mk (blk_below (g := gb209) (o := .cells #[.int .i64 a0_0, .int .i64 a0_1] 33 (0, 0)) (by (with_reducible repeat (first | refine blk_drewN ?_ _ | refine blk_drew ?_ | refine blk_alloc ?_ _)); exact BK209.out) hb); have n1_ := Aside0.mk (blk_below (g := gb216) (o := .cells #[.int .i64 t212, .int .i64 t213] 34 (0, 0)) (by (with_reducible repeat (first | refine blk_drewN ?_ _ | refine blk_drew ?_ | refine blk_alloc ?_ _)); exact BK216.out) hb); have n2_ := Aside0.mk (below_step (by repeat (first | (with_reducible first | exact HB.out | apply below_alloc | apply pw_below_drewN | apply below_drew1 | refine below_set ?_ GE209.out | refine below_set ?_ GE216.out) | exact HB.out)) hb); have n3_ := Aside0.mk (hbox); have n4_ := Aside0.mk ((by rw [hg]; exact (below_size (by repeat (first | (with_reducible first | exact HB.out | apply below_alloc | apply pw_below_drewN | apply below_drew1 | refine below_set ?_ GE209.out | refine below_set ?_ GE216.out) | exact HB.out))) : w.heap.size ≤ gb223)); have n5_ := Aside0.mk ((by rw [hg]; exact (below_size (by repeat (first | (with_reducible first | exact HB.out | apply below_alloc | apply pw_below_drewN | apply below_drew1 | refine below_set ?_ GE209.out | refine below_set ?_ GE216.out) | exact HB.out))) : w.heap.size ≤ gb223)); have n6_ := Aside0.mk ((by rw [hg]; exact Nat.ne_of_lt (blk_lt (g := gb209) (o := .cells #[.int .i64 a0_0, .int .i64 a0_1] 33 (0, 0)) (by (with_reducible repeat (first | refine blk_drewN ?_ _ | refine blk_drew ?_ | refine blk_alloc ?_ _)); exact BK209.out)) : gb209 ≠ gb223)); have n7_ := Aside0.mk ((by rw [hg]; exact Nat.ne_of_gt (blk_lt (g := gb209) (o := .cells #[.int .i64 a0_0, .int .i64 a0_1] 33 (0, 0)) (by (with_reducible repeat (first | refine blk_drewN ?_ _ | refine blk_drew ?_ | refine blk_alloc ?_ _)); exact BK209.out)) : gb223 ≠ gb209)); have n8_ := Aside0.mk ((by rw [hg]; exact Nat.ne_of_lt (blk_lt (g := gb216) (o := .cells #[.int .i64 t212, .int .i64 t213] 34 (0, 0)) (by (with_reducible repeat (first | refine blk_drewN ?_ _ | refine blk_drew ?_ | refine blk_alloc ?_ _)); exact BK216.out)) : gb216 ≠ gb223)); have n9_ := Aside0.mk ((by rw [hg]; exact Nat.ne_of_gt (blk_lt (g := gb216) (o := .cells #[.int .i64 t212, .int .i64 t213] 34 (0, 0)) (by (with_reducible repeat (first | refine blk_drewN ?_ _ | refine blk_drew ?_ | refine blk_alloc ?_ _)); exact BK216.out)) : gb223 ≠ gb216)); clear BK209; clear BK216; clear HB; have BK209 := n0_; have BK216 := n1_; have HB := n2_; have BK223 := n3_; have GW223 := n4_; have GE223 := n5_; have NB209_223 := n6_; have NB223_209 := n7_; have NB216_223 := n8_; have NB223_216 := n9_; clear n0_ n1_ n2_ n3_ n4_ n5_ n6_ n7_ n8_ n9_; clear hb hbox hg; have hnb21 := NB223_209.out; have hnc21 := NB209_223.out; have hnb22 := NB223_216.out; have hnc22 := NB216_223.out; have hcz23_0 : w20.cell? ⟨gb223, 0, none⟩ = some (.int .i64 0) := (blk_cell BK223.out 0).trans rfl; have hcz23_1 : w20.cell? ⟨gb223, 1, none⟩ = some (.int .i64 0) := (blk_cell BK223.out 1).trans rfl; have hfz23_0 := blk_frozen BK223.out 0; have hfz23_1 := blk_frozen BK223.out 1; have hcz24_0 : w20.cell? ⟨gb216, 0, none⟩ = some (.int .i64 t212) := (blk_cell BK216.out 0).trans rfl; have hcz24_1 : w20.cell? ⟨gb216, 1, none⟩ = some (.int .i64 t213) := (blk_cell BK216.out 1).trans rfl; have hfz24_0 := blk_frozen BK216.out 0; have hfz24_1 := blk_frozen BK216.out 1) | ((with_reducible refine gate_callee (f := 22) rfl ?_); refine goesL_ (some 25) rfl rfl Tryd.func22 (by kernel_rfl) rfl #[.agg #[.int .i64 t219, .int .i64 t220], .agg #[.int .i64 t212, .int .i64 t213]] rfl (by (try simp only [List.map_toArray, List.map_cons, List.map_nil]); first | done | rfl | (simp only [List.length_drop, List.length_take]; rfl)) ?_; (with_reducible refine (laws_eqPad.calls t219 t220 t212 t213 true _ A6.out).mono ?_); rintro e w25 ⟨rfl, hb⟩; refine ⟨_, rfl, ?_⟩; have n0_ := Aside0.mk (blk_below (g := gb209) (o := .cells #[.int .i64 a0_0, .int .i64 a0_1] 33 (0, 0)) (by (with_reducible repeat (first | refine blk_drewN ?_ _ | refine blk_drew ?_ | refine blk_alloc ?_ _)); refine blk_far ?_ NB209_223.out _; (with_reducible repeat (first | refine blk_drewN ?_ _ | refine blk_drew ?_ | refine blk_alloc ?_ _)); refine blk_far ?_ NB209_223.out _; (with_reducible repeat (first | refine blk_drewN ?_ _ | refine blk_drew ?_ | refine blk_alloc ?_ _)); exact BK209.out) hb); have n1_ := Aside0.mk (blk_below (g := gb216) (o := .cells #[.int .i64 t212, .int .i64 t213] 34 (0, 0)) (by (with_reducible repeat (first | refine blk_drewN ?_ _ | refine blk_drew ?_ | refine blk_alloc ?_ _)); refine blk_far ?_ NB216_223.out _; (with_reducible repeat (first | refine blk_drewN ?_ _ | refine blk_drew ?_ | refine blk_alloc ?_ _)); refine blk_far ?_ NB216_223.out _; (with_reducible repeat (first | refine blk_drewN ?_ _ | refine blk_drew ?_ | refine blk_alloc ?_ _)); exact BK216.out) hb); have n2_ := Aside0.mk (blk_below (g := gb223) (o := .cells #[.int .i64 t219, .int .i64 t220] 34 (0, 0)) (by (with_reducible repeat (first | refine blk_drewN ?_ _ | refine blk_drew ?_ | refine blk_alloc ?_ _)); refine blk_put (cs := #[.int .i64 t219, .int .i64 0]) ?_ 1 _ rfl; (with_reducible repeat (first | refine blk_drewN ?_ _ | refine blk_drew ?_ | refine blk_alloc ?_ _)); refine blk_put (cs := #[.int .i64 0, .int .i64 0]) ?_ 0 _ rfl; (with_reducible repeat (first | refine blk_drewN ?_ _ | refine blk_drew ?_ | refine blk_alloc ?_ _)); exact BK223.out) hb); have n3_ := Aside0.mk (below_step (by repeat (first | (with_reducible first | exact HB.out | apply below_alloc | apply pw_below_drewN | apply below_drew1 | refine below_set ?_ GE209.out | refine below_set ?_ GE216.out | refine below_set ?_ GE223.out) | exact HB.out)) hb); clear BK209; clear BK216; clear BK223; clear HB; have BK209 := n0_; have BK216 := n1_; have BK223 := n2_; have HB := n3_; clear n0_ n1_ n2_ n3_; (try clear hb); (try clear hb2); (try clear hk); (try clear hi)))
        go_ret
        exact ⟨by first | rfl | (simp [errW_none, errW_some] <;> rfl) | (simp [*, errW_none, errW_some] <;> rfl), by repeat (first | (with_reducible first | exact HB.out | apply below_alloc | apply pw_below_drewN | apply below_drew1 | refine below_set ?_ GE209.out | refine below_set ?_ GE216.out | refine below_set ?_ GE223.out) | exact HB.out)⟩
    · rw [if_neg c8] at H
      have c8b0 : (t221.toList == t214.toList) = false := beq_eq_false_iff_ne.mpr c8
      have c8b1 : (t221.toList != t214.toList) = true := bne_iff_ne.mpr c8
      exact absurd (Option.some.inj H) (by rw [hr_.out]; decide)
  · replace c7 := Bool.eq_false_iff.mpr c7
    subst c7
    have H1 : (some false) = some r := by rw [if_neg (show ¬ (false = true) by decide)] at H; exact H
    clear H
    have H := H1
    clear H1
    exact absurd (Option.some.inj H) (by rw [hr_.out]; decide)
end Go.Proofs.YtfoldjbcnlhipaaDoor.A

namespace Go.Proofs.YtfoldjbcnlhipaaDoor.A
open Go.ChangeShapes Go.WideShapes Go.ChangeAt Go.RowKit Go.Proofs.YtfoldjbcnlhipaaDoorW.PrintWords Go.Proofs.YtfoldjbcnlhipaaDoorW.PrintLast
set_option linter.unusedVariables false
set_option linter.unusedSimpArgs false
def Opn {α : Type} (P : Program) (t : TypeId) (d : Kd α) (ok : α → Prop) : Prop :=
  ∀ {H : Type} {enc : TypeId × Value → H} (w : World) (fuel : Nat) (cs : List Value) (x : DataW H × List MemPlace),
    DataW.trod enc P w 0 (fun _ => true) true fuel t cs = some x → ∃ a, d.K w a cs ∧ ok a
theorem opn_int {P : Program} {t : TypeId} {k : IntKind} (ht : P.underlying t = some (.int k)) : Opn P t (Kd.int k) (fun a => (Lit.int k a).wf = true) := by
  intro H enc w fuel cs x h
  obtain ⟨n, rfl, _, hw⟩ := DataW.trod_int ht h
  exact ⟨n, rfl, hw⟩
theorem opn_top {α : Type} {H : Type} {enc : TypeId × Value → H} {P : Program} {w : World} {t : TypeId} {d : Kd α} {ok : α → Prop} {v : Value} {x : DataW H} {ps : List MemPlace} (ho : Opn P t d ok)
    (h : DataW.Trod enc P w 0 (fun _ => true) true t v x ps) : ∃ a, d.K w a v.cells.toList ∧ ok a := by
  obtain ⟨fuel, hf⟩ := h
  exact ho w fuel _ _ hf
abbrev ok3 (a : Int) : Prop := (Lit.int .i64 a).wf = true
abbrev ok33 (x : S33) : Prop := ok3 x.f0 ∧ ok3 x.f1
theorem op3 : Opn Tryd.prog 3 (Kd.int .i64) ok3 := opn_int Tryd.underlying3
set_option maxRecDepth 100000 in
theorem op33 : Opn Tryd.prog 33 k33 ok33 := by
  intro H enc w fuel cs x h
  obtain ⟨xs, n, _, _, hl, hlen, hf⟩ := DataW.trod_struct Tryd.underlying33 h
  have hl' : cs.length = 2 := hl.trans (by kernel_rfl)
  match cs, hl' with
  | [c0, c1], _ =>
    match xs, hlen with
    | [y0, y1], _ =>
    obtain ⟨a0, q0, z0⟩ := op3 (H := H) (enc := enc) w n [c0] y0 (hf 0 _ rfl)
    obtain ⟨a1, q1, z1⟩ := op3 (H := H) (enc := enc) w n [c1] y1 (hf 1 _ rfl)
    exact ⟨⟨a0, a1⟩, ⟨[c0], [c1], rfl, q0, q1⟩, ⟨z0, z1⟩⟩
end Go.Proofs.YtfoldjbcnlhipaaDoor.A

namespace Go.Proofs.YtfoldjbcnlhipaaDoor.A
open Go.RowKit Go.Proofs.YtfoldjbcnlhipaaDoorW.PrintWords Go.Proofs.YtfoldjbcnlhipaaDoorW.PrintLast Go.Proofs.YtfoldjbcnlhipaaDoorW.PrintMore
set_option linter.unusedVariables false
set_option linter.unusedSimpArgs false
def Ev {α : Type} (F : Nat → Option α) (r : α) : Prop := ∃ K, ∀ k, K ≤ k → F k = some r
theorem Ev.mk {α : Type} {F : Nat → Option α} {r : α} (K : Nat) (h : ∀ k, K < k → F k = some r) : Ev F r := ⟨K + 1, fun k hk => h k hk⟩
theorem Ev.get {α : Type} {F : Nat → Option α} {r : α} (h : Ev F r) : ∃ k, F k = some r := by
  obtain ⟨K, h⟩ := h
  exact ⟨K, h K (Nat.le_refl _)⟩
theorem Ev.const {α : Type} {o : Option α} {r : α} (h : o = some r) : Ev (fun _ => o) r := ⟨0, fun _ _ => h⟩
theorem Ev.ret {α : Type} (r : α) : Ev (fun _ => some r) r := ⟨0, fun _ _ => rfl⟩
theorem Ev.bind {α β : Type} {F : Nat → Option α} {G : Nat → α → Option β} {a : α} {b : β} (h1 : Ev F a) (h2 : Ev (fun k => G k a) b) : Ev (fun k => (F k).bind (G k)) b := by
  obtain ⟨K1, h1⟩ := h1
  obtain ⟨K2, h2⟩ := h2
  refine ⟨max K1 K2, fun k hk => ?_⟩
  show (F k).bind (G k) = some b
  rw [h1 k (by omega)]
  exact h2 k (by omega)
theorem Ev.pos {α : Type} {c : Prop} [Decidable c] {A B : Nat → Option α} {r : α} (h : c) (hA : Ev A r) : Ev (fun k => if c then A k else B k) r := by
  obtain ⟨K, hA⟩ := hA
  exact ⟨K, fun k hk => by show (if c then A k else B k) = some r; rw [if_pos h]; exact hA k hk⟩
theorem Ev.neg {α : Type} {c : Prop} [Decidable c] {A B : Nat → Option α} {r : α} (h : ¬ c) (hB : Ev B r) : Ev (fun k => if c then A k else B k) r := by
  obtain ⟨K, hB⟩ := hB
  exact ⟨K, fun k hk => by show (if c then A k else B k) = some r; rw [if_neg h]; exact hB k hk⟩
theorem Ev.succ {α : Type} {F : Nat → Option α} {r : α} (h : Ev (fun k => F (k + 1)) r) : Ev F r := by
  obtain ⟨K, h⟩ := h
  refine ⟨K + 1, fun k hk => ?_⟩
  obtain ⟨m, rfl⟩ : ∃ m, k = m + 1 := ⟨k - 1, by omega⟩
  exact h m (by omega)
theorem Ev.of_eq {α : Type} {F G : Nat → Option α} {r : α} (h : Ev F r) (e : ∀ k, G k = F k) : Ev G r := by
  obtain ⟨K, h⟩ := h
  exact ⟨K, fun k hk => (e k).trans (h k hk)⟩
theorem Ev.to {α : Type} {F : Nat → Option α} {r s : α} (h : Ev F r) (e : r = s) : Ev F s := e ▸ h
theorem wid (x : Int) (h : -9223372036854775808 ≤ x) (h2 : x ≤ 9223372036854775807) : wrap64 x = x := by unfold wrap64; omega
theorem wsucc (i : Nat) (h : i < 9223372036854775807) : wrap64 ((i : Int) + 1) = ((i + 1 : Nat) : Int) := by unfold wrap64; omega
theorem nums_str (l : List UInt8) : strOfNums (l.map fun b => (b.toNat : Int)) = ⟨l.toArray⟩ := by
  unfold strOfNums
  have e : (l.map fun b => (b.toNat : Int)).map (fun z => UInt8.ofNat z.toNat) = l := by
    rw [List.map_map]
    conv => rhs; rw [← List.map_id l]
    apply List.map_congr_left
    intro b _
    simp
  exact congrArg (fun x => ByteArray.mk (List.toArray x)) e
abbrev mkS (l : List UInt8) : ByteArray := ⟨l.toArray⟩
theorem mkS_size (l : List UInt8) : (mkS l).size = l.length := by
  show l.toArray.size = l.length
  simp
theorem mkS_app (a b : List UInt8) : mkS a ++ mkS b = mkS (a ++ b) := by
  apply ByteArray.ext
  rw [ByteArray.data_append]
  simp
def digD (u : Nat) : List UInt8 := if u = 0 then [] else Go.Lib.decDigits u
theorem digD_step (u : Nat) (h : 0 < u) : digD u = digD (u / 10) ++ [UInt8.ofNat (48 + u % 10)] := by
  unfold digD
  rw [if_neg (by omega)]
  by_cases c : u < 10
  · rw [if_pos (by omega), Go.Lib.decDigits_one c, Nat.mod_eq_of_lt c]
    rfl
  · rw [if_neg (by omega), Go.Lib.decDigits, dif_neg c]
theorem fig_dig (n : Nat) (h : n < 10) : spec_l01Figure.f (n : Int) = some ((UInt8.ofNat (48 + n)).toNat : Int) := by
  have key : ∀ x : Fin 10, spec_l01Figure.f (x.val : Int) = some ((UInt8.ofNat (48 + x.val)).toNat : Int) := by decide +kernel
  exact key ⟨n, h⟩
theorem fmt_loop (b : Bool) : ∀ (m u : Nat) (x : Int) (l : List UInt8), u < 10 ^ m → l.length + m ≤ 60 → -9223372036854775808 ≤ x → x ≤ 9223372036854775807 → (x = u ∨ x = -(u : Int)) →
    Ev (fun k => spec_FormatInt.l0 k x b (mkS l)) (if b = true then mkS (45 :: (digD u ++ l)) else mkS (digD u ++ l))
  | m, 0, x, l, hu, hl, h0, h1, hx => by
    refine Ev.succ ?_
    simp only [spec_FormatInt.l0]
    refine Ev.pos (by omega) ?_
    have hs := mkS_size l
    cases b with
    | true =>
      refine Ev.pos rfl (Ev.pos (by omega) ((Ev.ret _).to ?_))
      show mkS [45] ++ mkS l = _
      rw [mkS_app]
      rfl
    | false => exact Ev.neg (by simp) (Ev.ret _)
  | 0, u + 1, x, l, hu, hl, h0, h1, hx => by simp at hu
  | m + 1, u + 1, x, l, hu, hl, h0, h1, hx => by
    have hs := mkS_size l
    have e := digD_step (u + 1) (by omega)
    have hlt : (u + 1) / 10 < 10 ^ m := by rw [Nat.pow_succ] at hu; omega
    have key : ∀ x' : Int, (x' = (((u + 1) / 10 : Nat) : Int) ∨ x' = -(((u + 1) / 10 : Nat) : Int)) → -9223372036854775808 ≤ x' → x' ≤ 9223372036854775807 → Ev (fun k => if (strOfNums [((UInt8.ofNat (48 + (u + 1) % 10)).toNat : Int)]).size + (mkS l).size ≤ 9223372036854775807 then spec_FormatInt.l0 k (wrap64 x') b (strOfNums [((UInt8.ofNat (48 + (u + 1) % 10)).toNat : Int)] ++ mkS l) else none) (if b = true then mkS (45 :: (digD (u + 1) ++ l)) else mkS (digD (u + 1) ++ l)) := by
      intro x' hx' h2 h3
      have es : strOfNums [((UInt8.ofNat (48 + (u + 1) % 10)).toNat : Int)] = mkS [UInt8.ofNat (48 + (u + 1) % 10)] := nums_str [UInt8.ofNat (48 + (u + 1) % 10)]
      rw [es, mkS_size, mkS_size, mkS_app, wid x' h2 h3]
      refine Ev.pos (by simp; omega) ?_
      refine (fmt_loop b m ((u + 1) / 10) x' (UInt8.ofNat (48 + (u + 1) % 10) :: l) hlt (by simp; omega) h2 h3 hx').to ?_
      rw [e, List.append_assoc]
      rfl
    refine Ev.succ ?_
    simp only [spec_FormatInt.l0]
    refine Ev.neg (by omega) ?_
    rcases hx with hx | hx
    · have ht : Int.tmod x 10 = ((u + 1) % 10 : Nat) := by rw [hx, Int.tmod_eq_emod_of_nonneg (by omega)]; omega
      have hd : Int.tdiv x 10 = ((u + 1) / 10 : Nat) := by rw [hx, Int.tdiv_eq_ediv_of_nonneg (by omega)]; omega
      rw [ht, hd]
      refine Ev.neg (by omega) (Ev.bind (Ev.const (fig_dig _ (by omega))) (Ev.bind (Ev.const rfl) ?_))
      exact key _ (Or.inl rfl) (by omega) (by omega)
    · have ht : Int.tmod x 10 = -(((u + 1) % 10 : Nat) : Int) := by rw [hx, Int.neg_tmod, Int.tmod_eq_emod_of_nonneg (by omega)]; omega
      have hd : Int.tdiv x 10 = -(((u + 1) / 10 : Nat) : Int) := by rw [hx, Int.neg_tdiv, Int.tdiv_eq_ediv_of_nonneg (by omega)]; omega
      rw [ht, hd, Int.neg_neg, wid (((u + 1) % 10 : Nat) : Int) (by omega) (by omega)]
      by_cases c : -(((u + 1) % 10 : Nat) : Int) < 0
      · refine Ev.pos c (Ev.bind (Ev.const (fig_dig _ (by omega))) (Ev.bind (Ev.const rfl) ?_))
        exact key _ (Or.inr rfl) (by omega) (by omega)
      · have hz : (u + 1) % 10 = 0 := by omega
        have e0 : spec_l01Figure.f (-(((u + 1) % 10 : Nat) : Int)) = some ((UInt8.ofNat (48 + (u + 1) % 10)).toNat : Int) := by
          rw [hz]
          exact fig_dig 0 (by omega)
        refine Ev.neg c (Ev.bind (Ev.const e0) (Ev.bind (Ev.const rfl) ?_))
        exact key _ (Or.inr rfl) (by omega) (by omega)
theorem fmtS_ev (n : Int) (h0 : -9223372036854775808 ≤ n) (h1 : n ≤ 9223372036854775807) : Ev (fun k => spec_FormatInt.f k n) (mkS (Go.Lib.itoa n)) := by
  unfold spec_FormatInt.f
  by_cases c : n = 0
  · refine Ev.pos c ((Ev.ret _).to ?_)
    subst c
    decide +kernel
  · refine Ev.neg c ?_
    have h := fmt_loop (decide (n < 0)) 20 n.natAbs n [] (by omega) (by simp) h0 h1 (by omega)
    refine h.to ?_
    have hd : digD n.natAbs = Go.Lib.decDigits n.natAbs := if_neg (by omega)
    rw [hd, List.append_nil]
    unfold Go.Lib.itoa
    by_cases cn : n < 0
    · rw [decide_eq_true cn, if_pos rfl, if_pos cn]
    · rw [decide_eq_false cn, if_neg (by simp), if_neg cn, show n.natAbs = n.toNat by omega]
theorem fmt_ev (n : Int) (h0 : -9223372036854775808 ≤ n) (h1 : n ≤ 9223372036854775807) : impl_FormatInt.f n = some (mkS (Go.Lib.itoa n)) := if_pos ⟨h0, h1⟩
end Go.Proofs.YtfoldjbcnlhipaaDoor.A

namespace Go.Proofs.YtfoldjbcnlhipaaDoor.A
open Go.RowKit Go.Proofs.YtfoldjbcnlhipaaDoorW.PrintWords Go.Proofs.YtfoldjbcnlhipaaDoorW.PrintLast Go.Proofs.YtfoldjbcnlhipaaDoorW.PrintMore
set_option linter.unusedVariables false
set_option linter.unusedSimpArgs false
theorem tmod_two (a M : Int) (h : 0 < M) : -M < Int.tmod a M ∧ Int.tmod a M < M := by
  rcases Int.lt_or_le a 0 with c | c
  · have e : Int.tmod a M = -(Int.tmod (-a) M) := by rw [Int.neg_tmod, Int.neg_neg]
    rw [e, Int.tmod_eq_emod_of_nonneg (by omega)]
    have h1 := Int.emod_nonneg (-a) (show M ≠ 0 by omega)
    have h2 := Int.emod_lt_of_pos (-a) h
    omega
  · rw [Int.tmod_eq_emod_of_nonneg c]
    have h1 := Int.emod_nonneg a (show M ≠ 0 by omega)
    have h2 := Int.emod_lt_of_pos a h
    omega
theorem pad_same : ∀ (k : Nat) (x : ByteArray), impl_CodeOf.l1 k x = spec_CodeOf.l1 k x
  | 0, _ => rfl
  | k + 1, x => by simp only [impl_CodeOf.l1, spec_CodeOf.l1, pad_same k]
theorem pad_ev : ∀ (d : Nat) (x : ByteArray), 6 ≤ x.size + d → x.size ≤ 100 → ∃ r, Ev (fun k => impl_CodeOf.l1 k x) r ∧ Ev (fun k => spec_CodeOf.l1 k x) r
  | 0, x, h, hs => by
    have e : Ev (fun k => impl_CodeOf.l1 k x) x := by
      refine Ev.succ ?_
      simp only [impl_CodeOf.l1]
      exact Ev.neg (by omega) (Ev.ret _)
    exact ⟨x, e, Ev.of_eq e (fun k => (pad_same k x).symm)⟩
  | d + 1, x, h, hs => by
    by_cases c : (x.size : Int) < 6
    · have hz : ((⟨#[48]⟩ : ByteArray) ++ x).size = 1 + x.size := by
        rw [ByteArray.size_append]
        rfl
      obtain ⟨r, h1, _⟩ := pad_ev d ((⟨#[48]⟩ : ByteArray) ++ x) (by omega) (by omega)
      have e : Ev (fun k => impl_CodeOf.l1 k x) r := by
        refine Ev.succ ?_
        simp only [impl_CodeOf.l1]
        exact Ev.pos c (Ev.pos (by omega) h1)
      exact ⟨r, e, Ev.of_eq e (fun k => (pad_same k x).symm)⟩
    · have e : Ev (fun k => impl_CodeOf.l1 k x) x := by
        refine Ev.succ ?_
        simp only [impl_CodeOf.l1]
        exact Ev.neg c (Ev.ret _)
      exact ⟨x, e, Ev.of_eq e (fun k => (pad_same k x).symm)⟩
theorem digits_len : ∀ (m u : Nat), u < 10 ^ (m + 1) → (Go.Lib.decDigits u).length ≤ m + 1
  | 0, u, h => by
    rw [Go.Lib.decDigits_one (by simpa using h)]
    simp
  | m + 1, u, h => by
    by_cases c : u < 10
    · rw [Go.Lib.decDigits_one c]; simp
    · rw [Go.Lib.decDigits, dif_neg c, List.length_append]
      have := digits_len m (u / 10) (by rw [Nat.pow_succ] at h; omega)
      simp
      omega
theorem itoa_len (n : Int) (h0 : -9223372036854775808 ≤ n) (h1 : n ≤ 9223372036854775807) : (Go.Lib.itoa n).length ≤ 21 := by
  unfold Go.Lib.itoa
  have e : (10 : Nat) ^ (19 + 1) = 100000000000000000000 := by decide
  split
  · have := digits_len 19 n.natAbs (by rw [e]; omega)
    simp
    omega
  · have := digits_len 19 n.toNat (by rw [e]; omega)
    omega
theorem code_loop : ∀ (d : Nat) (x : Int) (i : Nat), i + d = 3 → -9223372036854775808 ≤ x → x ≤ 9223372036854775807 → ∃ r, Ev (fun k => impl_CodeOf.l0 k x (i : Int)) r ∧ Ev (fun k => spec_CodeOf.l0 k x (i : Int)) r
  | 0, x, i, hi, h0, h1 => by
    have hm := tmod_two x 1000000 (by omega)
    have hl := itoa_len (Int.tmod x 1000000) (by omega) (by omega)
    obtain ⟨r, e1, e2⟩ := pad_ev 6 (mkS (Go.Lib.itoa (Int.tmod x 1000000))) (by omega) (by rw [mkS_size]; omega)
    refine ⟨r, Ev.succ ?_, Ev.succ ?_⟩
    · simp only [impl_CodeOf.l0]
      exact Ev.neg (by omega) (Ev.bind (Ev.const (fmt_ev _ (by omega) (by omega))) e1)
    · simp only [spec_CodeOf.l0]
      exact Ev.neg (by omega) (Ev.bind (fmtS_ev _ (by omega) (by omega)) e2)
  | d + 1, x, i, hi, h0, h1 => by
    have hm := tmod_two (wrap64 (48271 * x)) 2147483647 (by omega)
    obtain ⟨r, e1, e2⟩ := code_loop d (Int.tmod (wrap64 (48271 * x)) 2147483647) (i + 1) (by omega) (by omega) (by omega)
    refine ⟨r, Ev.succ ?_, Ev.succ ?_⟩
    · simp only [impl_CodeOf.l0]
      rw [wsucc i (by omega)]
      exact Ev.pos (by omega) e1
    · simp only [spec_CodeOf.l0]
      rw [wsucc i (by omega), Int.mul_comm x 48271]
      exact Ev.pos (by omega) e2
theorem in_some (a lo hi : Int) : ∃ b, spec_l01In.f a lo hi = some b := by
  unfold spec_l01In.f
  split <;> exact ⟨_, rfl⟩
theorem code_j (a0 a1 : Int) (c : Bool) : ∃ r, Ev (fun k => impl_CodeOf.j0 k a0 a1 c) r ∧ Ev (fun k => spec_CodeOf.j0 k a0 a1 c) r := by
  cases c with
  | true =>
    refine ⟨⟨#[]⟩, Ev.succ ?_, Ev.succ ?_⟩
    · simp only [impl_CodeOf.j0]
      exact Ev.pos trivial (Ev.ret _)
    · simp only [spec_CodeOf.j0]
      exact Ev.pos trivial (Ev.ret _)
  | false =>
    have hm := tmod_two (wrap64 (a0 + (wrap64 (65537 * a1)))) 2147483647 (by omega)
    obtain ⟨r, e1, e2⟩ := code_loop 3 (Int.tmod (wrap64 (a0 + (wrap64 (65537 * a1)))) 2147483647) 0 rfl (by omega) (by omega)
    refine ⟨r, Ev.succ ?_, Ev.succ ?_⟩
    · simp only [impl_CodeOf.j0]
      exact Ev.neg (by simp) e1
    · simp only [spec_CodeOf.j0]
      exact Ev.neg (by simp) e2
theorem code_ev (a0 a1 : Int) : ∃ r, Ev (fun k => impl_CodeOf.f k a0 a1) r ∧ Ev (fun k => spec_CodeOf.f k a0 a1) r := by
  obtain ⟨b1, e1⟩ := in_some a0 1 2147483646
  obtain ⟨b2, e2⟩ := in_some a1 0 1000000
  have s1 : spec_l03Secret.f a0 = some b1 := by unfold spec_l03Secret.f; rw [e1]; rfl
  have i1 : impl_secretOk.f a0 = some b1 := s1
  have i2 : impl_countOk.f a1 = some b2 := by
    show (spec_l01In.f a1 0 1000000).bind _ = _
    rw [e2]
    rfl
  unfold impl_CodeOf.f spec_CodeOf.f
  cases b1 with
  | false =>
    obtain ⟨r, h1, h2⟩ := code_j a0 a1 true
    exact ⟨r, Ev.bind (Ev.const i1) (Ev.neg (by simp) h1), Ev.bind (Ev.const s1) (Ev.neg (by simp) h2)⟩
  | true =>
    obtain ⟨r, h1, h2⟩ := code_j a0 a1 (!b2)
    exact ⟨r, Ev.bind (Ev.const i1) (Ev.pos rfl (Ev.bind (Ev.const i2) h1)), Ev.bind (Ev.const s1) (Ev.pos rfl (Ev.bind (Ev.const e2) h2))⟩
end Go.Proofs.YtfoldjbcnlhipaaDoor.A

namespace Go.Proofs.YtfoldjbcnlhipaaDoor.A
open Go.RowKit Go.Proofs.YtfoldjbcnlhipaaDoorW.PrintWords Go.Proofs.YtfoldjbcnlhipaaDoorW.PrintLast Go.Proofs.YtfoldjbcnlhipaaDoorW.PrintMore
set_option linter.unusedVariables false
set_option linter.unusedSimpArgs false
theorem padI (a b : Int) : impl_PadOk.f a b = spec_PadOk.f a b := rfl
theorem padS (a b : Int) : spec_PadOk.f a b = some true ∧ b ≤ 1000001 ∨ spec_PadOk.f a b = some false := by
  unfold spec_PadOk.f spec_l03Secret.f spec_l01In.f
  by_cases c1 : a ≥ 1
  · rw [if_pos c1]
    by_cases c2 : a ≤ 2147483646
    · rw [decide_eq_true c2]
      by_cases c3 : b ≥ 0
      · rw [if_pos c3]
        by_cases c4 : b ≤ 1000001
        · rw [decide_eq_true c4]
          exact Or.inl ⟨rfl, c4⟩
        · rw [decide_eq_false c4]
          exact Or.inr rfl
      · rw [if_neg c3]
        exact Or.inr rfl
    · rw [decide_eq_false c2]
      exact Or.inr rfl
  · rw [if_neg c1]
    exact Or.inr rfl
theorem pureFnExactPress : ∀ (a0 : S33), ok33 a0 → ∃ k, laws_FnExactPress.f k a0.f0 a0.f1 = some true := by
  intro a0 _
  refine Ev.get ?_
  have key : ∃ r, Ev (fun k => spec_Press.f k a0.f0 a0.f1) r ∧ Ev (fun k => impl_Press.f k a0.f0 a0.f1) r := by
    unfold spec_Press.f impl_Press.f
    rw [padI]
    rcases padS a0.f0 a0.f1 with ⟨h, hb⟩ | h
    · rw [h]
      by_cases c : a0.f1 > 1000000
      · exact ⟨_, Ev.bind (Ev.const rfl) (Ev.pos rfl (Ev.pos c (Ev.ret _))), Ev.bind (Ev.const rfl) (Ev.pos rfl (Ev.pos (by omega) (Ev.ret _)))⟩
      · obtain ⟨r, h1, h2⟩ := code_ev a0.f0 a0.f1
        exact ⟨_, Ev.bind (Ev.const rfl) (Ev.pos rfl (Ev.neg c (Ev.bind h2 (Ev.ret _)))), Ev.bind (Ev.const rfl) (Ev.pos rfl (Ev.neg (by omega) (Ev.bind h1 (Ev.ret _))))⟩
    · rw [h]
      exact ⟨_, Ev.bind (Ev.const rfl) (Ev.neg (by simp) (Ev.ret _)), Ev.bind (Ev.const rfl) (Ev.neg (by simp) (Ev.ret _))⟩
  obtain ⟨r, h1, h2⟩ := key
  unfold laws_FnExactPress.f
  refine Ev.bind (Ev.const rfl) (Ev.bind h1 (Ev.bind (Ev.const rfl) (Ev.bind h2 (Ev.bind (a := true) (Ev.const ?_) (Ev.pos rfl (Ev.pos rfl (Ev.neg (by simp) (Ev.ret _))))))))
  unfold laws_eqPad.f
  rw [if_pos rfl, if_pos rfl]
end Go.Proofs.YtfoldjbcnlhipaaDoor.A
