/- What the proof of the law FnExactGapsOf uses: lemmas, the Lean functions of the Go functions that it reaches, their contracts, and the pure statement's proof. -/
import Derived.Test.YtghfeapncmlihaaZFnExactGapsOfx11
import Derived.Test.YtghfeapncmlihaaZFnExactGapsOfx12
import Derived.Test.YtghfeapncmlihaaZFnExactGapsOfx13
import Derived.Test.YtghfeapncmlihaaZFnExactGapsOfx16
import Derived.Test.YtghfeapncmlihaaZFnExactGapsOfx18
import Derived.ProofKit
import Derived.OpenShut
import Derived.ShutString
import Derived.ChangeOld
import Derived.SizedLaws
import Derived.ChangeArms
namespace Go.Proofs.Ytghfeapncmlihaa.A
open Go.RowKit Go.Proofs.YtghfeapncmlihaaW.PrintWords Go.Proofs.YtghfeapncmlihaaW.PrintLast Go.Proofs.YtghfeapncmlihaaW.PrintMore
attribute [local go_sem] max2_int min2_int max_two min_two max_three min_three max_four min_four   
set_option linter.unusedVariables false
set_option linter.unusedSimpArgs false
def laws_FnExactGapsOf.j0 : Nat → List (S54) → List (S54) → Bool → Int → List Int → List (S93) → Option (Bool)
  | 0, _, _, _, _, _, _ => none
  | k + 1, x4, x6, x42, x703000, x703001, x703002 => if x42 = true then (some false) else ((laws_markGapS.f k x6 1).bind fun bt738 => ((laws_heldGapS.f k bt738.2 1).bind fun t740 => (if t740 < 0 then (some false) else (if t740 = bt738.1 then ((laws_toColumn.f k x703000 x703001 x703002).bind fun bt741 => ((impl_GapsOf.f k bt741.1 bt741.2.1 bt741.2.2).bind fun t748 => ((laws_eqGapS.f k t748 x4).bind fun t751 => (if t751 = true then ((laws_heldGapS.f k bt738.2 1).bind fun t752 => (if t752 < 0 then (some false) else (if t752 = bt738.1 then (some true) else (some false)))) else (some false))))) else (some false)))))
def laws_FnExactGapsOf.f (k : Nat) (a0_0 : Int) (l0_1 : List Int) (l0_2 : List (S93)) : Option (Bool) := (laws_szColumn.f a0_0 l0_1 l0_2 1048576).bind fun t703 => (if t703 < 0 then (some true) else ((laws_toColumn.f k a0_0 l0_1 l0_2).bind fun bt704 => ((spec_GapsOf.f k bt704.1 bt704.2.1 bt704.2.2).bind fun t711 => ((laws_toColumn.f k a0_0 l0_1 l0_2).bind fun bt714 => ((impl_GapsOf.f k bt714.1 bt714.2.1 bt714.2.2).bind fun t722 => ((laws_eqGapS.f k t722 t711).bind fun t725 => (if t725 = true then ((laws_toColumn.f k a0_0 l0_1 l0_2).bind fun bt726 => ((laws_eqColumn.f k bt714.1 bt714.2.1 bt714.2.2 bt726.1 bt726.2.1 bt726.2.2).bind fun t733 => (if t733 = true then ((laws_markColumn.f k bt714.1 bt714.2.1 bt714.2.2 1).bind fun bt734 => (if bt734.1 < 0 then (laws_FnExactGapsOf.j0 k t711 t722 true a0_0 l0_1 l0_2) else ((laws_eqGapS.f k t722 t711).bind fun t737 => (laws_FnExactGapsOf.j0 k t711 t722 (!t737) a0_0 l0_1 l0_2)))) else (some false)))) else (some false))))))))
set_option maxHeartbeats 8000000 in
set_option maxRecDepth 100000 in
theorem laws_FnExactGapsOf.calls (k : Nat) (a0_0 : Int) (A0_1 : Option Addr) (c0_1 : Nat) (l0_1 : List Int) (A0_2 : Option Addr) (c0_2 : Nat) (l0_2 : List (S93)) (r : Bool) (w : World) (hr0_1 : Kd.C (Kd.int .i64) w A0_1 l0_1.length l0_1) (hc0_1 : l0_1.length ≤ c0_1) (hr0_2 : Kd.C k93 w A0_2 l0_2.length l0_2) (hc0_2 : l0_2.length ≤ c0_2) (hr_ : Aside0 (r = true)) (h : laws_FnExactGapsOf.f k a0_0 l0_1 l0_2 = some r) :
    Calls Try.prog 10 #[.agg #[.int .i64 a0_0, .slice A0_1 l0_1.length c0_1, .slice A0_2 l0_2.length c0_2]] w fun e w' => e = .returned (.bool r) ∧ Below w.heap.size w w' := by
  have hu25 := Try.underlying25
  have hu30 := Try.underlying30
  have HR0_1 := Aside0.mk hr0_1
  have HC0_1 := Aside0.mk hc0_1
  clear hr0_1 hc0_1
  have HR0_2 := Aside0.mk hr0_2
  have HC0_2 := Aside0.mk hc0_2
  clear hr0_2 hc0_2
  have HB := Aside0.mk (Below.refl w.heap.size w)
  have H : ((laws_szColumn.f a0_0 l0_1 l0_2 1048576).bind fun t703 => (if t703 < 0 then (some true) else ((laws_toColumn.f k a0_0 l0_1 l0_2).bind fun bt704 => ((spec_GapsOf.f k bt704.1 bt704.2.1 bt704.2.2).bind fun t711 => ((laws_toColumn.f k a0_0 l0_1 l0_2).bind fun bt714 => ((impl_GapsOf.f k bt714.1 bt714.2.1 bt714.2.2).bind fun t722 => ((laws_eqGapS.f k t722 t711).bind fun t725 => (if t725 = true then ((laws_toColumn.f k a0_0 l0_1 l0_2).bind fun bt726 => ((laws_eqColumn.f k bt714.1 bt714.2.1 bt714.2.2 bt726.1 bt726.2.1 bt726.2.2).bind fun t733 => (if t733 = true then ((laws_markColumn.f k bt714.1 bt714.2.1 bt714.2.2 1).bind fun bt734 => (if bt734.1 < 0 then (laws_FnExactGapsOf.j0 k t711 t722 true a0_0 l0_1 l0_2) else ((laws_eqGapS.f k t722 t711).bind fun t737 => (laws_FnExactGapsOf.j0 k t711 t722 (!t737) a0_0 l0_1 l0_2)))) else (some false)))) else (some false))))))))) = some r := h
  clear h
  replace H := Option.bind_eq_some_iff.mp H
  obtain ⟨t703, A20, H⟩ := H
  replace H : (if t703 < 0 then (some true) else ((laws_toColumn.f k a0_0 l0_1 l0_2).bind fun bt704 => ((spec_GapsOf.f k bt704.1 bt704.2.1 bt704.2.2).bind fun t711 => ((laws_toColumn.f k a0_0 l0_1 l0_2).bind fun bt714 => ((impl_GapsOf.f k bt714.1 bt714.2.1 bt714.2.2).bind fun t722 => ((laws_eqGapS.f k t722 t711).bind fun t725 => (if t725 = true then ((laws_toColumn.f k a0_0 l0_1 l0_2).bind fun bt726 => ((laws_eqColumn.f k bt714.1 bt714.2.1 bt714.2.2 bt726.1 bt726.2.1 bt726.2.2).bind fun t733 => (if t733 = true then ((laws_markColumn.f k bt714.1 bt714.2.1 bt714.2.2 1).bind fun bt734 => (if bt734.1 < 0 then (laws_FnExactGapsOf.j0 k t711 t722 true a0_0 l0_1 l0_2) else ((laws_eqGapS.f k t722 t711).bind fun t737 => (laws_FnExactGapsOf.j0 k t711 t722 (!t737) a0_0 l0_1 l0_2)))) else (some false)))) else (some false)))))))) = some r := H
  have A2 := Aside0.mk A20
  clear A20
  by_cases c3 : t703 < 0
  · rw [if_pos c3] at H
    have c3b0 : decide (t703 < 0) = true := decide_eq_true c3
    clear c3
    obtain rfl := Option.some.inj H
    go_enter Try.func10, Try.ntmps10
    go_wp2_with (first | ((with_reducible refine gate_dst (N := 1) rfl ?_); refine box_event ?hg (N := 1) ?hd (cs := #[.int .i64 a0_0, .slice A0_1 l0_1.length c0_1, .slice A0_2 l0_2.length c0_2]) (t := 25) ?hr ?_; (case hd => rfl); (case hg => rfl); (case hr => first | (go_simp; done) | (go_simp; rfl)); intro gb702 hg w4 hbox hb; have n0_ := Aside0.mk (below_step (by repeat (first | (with_reducible first | exact HB.out | apply below_alloc | apply pw_below_drewN | apply below_drew1) | exact HB.out)) hb); have n1_ := Aside0.mk (hbox); have n2_ := Aside0.mk ((by rw [hg]; exact (below_size (by repeat (first | (with_reducible first | exact HB.out | apply below_alloc | apply pw_below_drewN | apply below_drew1) | exact HB.out))) : w.heap.size ≤ gb702)); have n3_ := Aside0.mk ((by rw [hg]; exact (below_size (by repeat (first | (with_reducible first | exact HB.out | apply below_alloc | apply pw_below_drewN | apply below_drew1) | exact HB.out))) : w.heap.size ≤ gb702)); clear HB; have HB := n0_; have BK702 := n1_; have GW702 := n2_; have GE702 := n3_; clear n0_ n1_ n2_ n3_; clear hb hbox hg; have hcz5_0 : w4.cell? ⟨gb702, 0, none⟩ = some (.int .i64 a0_0) := (blk_cell BK702.out 0).trans rfl; have hcz5_1 : w4.cell? ⟨gb702, 1, none⟩ = some (.slice A0_1 l0_1.length c0_1) := (blk_cell BK702.out 1).trans rfl; have hcz5_2 : w4.cell? ⟨gb702, 2, none⟩ = some (.slice A0_2 l0_2.length c0_2) := (blk_cell BK702.out 2).trans rfl; have hfz5_0 := blk_frozen BK702.out 0; have hfz5_1 := blk_frozen BK702.out 1; have hfz5_2 := blk_frozen BK702.out 2) | ((with_reducible refine gate_callee (f := 15) rfl ?_); refine goesL_ (some 13) rfl rfl Try.func15 (by kernel_rfl) rfl #[.agg #[.int .i64 a0_0, .slice A0_1 l0_1.length c0_1, .slice A0_2 l0_2.length c0_2], .int .i64 1048576] rfl (by (try simp only [List.map_toArray, List.map_cons, List.map_nil]); first | done | rfl | (simp only [List.length_drop, List.length_take]; rfl)) ?_; (with_reducible refine (laws_szColumn.calls a0_0 _ _ l0_1 _ _ l0_2 1048576 t703 _ ?side1 ?side2 ?side3 ?side4 A2.out).mono ?_); (case side1 => repeat (first | exact (Kd.C_below HR0_1.out HB.out) | (with_reducible refine Kd.C_alloc ?_ _) | (with_reducible refine Kd.C_drewN ?_ _) | (with_reducible refine Kd.C_drew ?_))); (case side2 => exact HC0_1.out); (case side3 => repeat (first | exact (Kd.C_below HR0_2.out HB.out) | (with_reducible refine Kd.C_alloc ?_ _) | (with_reducible refine Kd.C_drewN ?_ _) | (with_reducible refine Kd.C_drew ?_))); (case side4 => exact HC0_2.out); rintro e w6 ⟨rfl, hb⟩; refine ⟨_, rfl, ?_⟩; have n0_ := Aside0.mk (blk_below (g := gb702) (o := .cells #[.int .i64 a0_0, .slice A0_1 l0_1.length c0_1, .slice A0_2 l0_2.length c0_2] 25 (0, 0)) (by (with_reducible repeat (first | refine blk_drewN ?_ _ | refine blk_drew ?_ | refine blk_alloc ?_ _)); exact BK702.out) hb); have n1_ := Aside0.mk (below_step (by repeat (first | (with_reducible first | exact HB.out | apply below_alloc | apply pw_below_drewN | apply below_drew1 | refine below_set ?_ GE702.out) | exact HB.out)) hb); clear BK702; clear HB; have BK702 := n0_; have HB := n1_; clear n0_ n1_; (try clear hb); (try clear hb2); (try clear hk); (try clear hi)))
    go_ret
    exact ⟨by first | rfl | (simp [errW_none, errW_some] <;> rfl) | (simp [*, errW_none, errW_some] <;> rfl), by repeat (first | (with_reducible first | exact HB.out | apply below_alloc | apply pw_below_drewN | apply below_drew1 | refine below_set ?_ GE702.out) | exact HB.out)⟩
  · rw [if_neg c3] at H
    have c3b0 : decide (t703 < 0) = false := decide_eq_false c3
    clear c3
    replace H := Option.bind_eq_some_iff.mp H
    obtain ⟨⟨t704, t705, t708⟩, A70, H⟩ := H
    replace H : ((spec_GapsOf.f k t704 t705 t708).bind fun t711 => ((laws_toColumn.f k a0_0 l0_1 l0_2).bind fun bt714 => ((impl_GapsOf.f k bt714.1 bt714.2.1 bt714.2.2).bind fun t722 => ((laws_eqGapS.f k t722 t711).bind fun t725 => (if t725 = true then ((laws_toColumn.f k a0_0 l0_1 l0_2).bind fun bt726 => ((laws_eqColumn.f k bt714.1 bt714.2.1 bt714.2.2 bt726.1 bt726.2.1 bt726.2.2).bind fun t733 => (if t733 = true then ((laws_markColumn.f k bt714.1 bt714.2.1 bt714.2.2 1).bind fun bt734 => (if bt734.1 < 0 then (laws_FnExactGapsOf.j0 k t711 t722 true a0_0 l0_1 l0_2) else ((laws_eqGapS.f k t722 t711).bind fun t737 => (laws_FnExactGapsOf.j0 k t711 t722 (!t737) a0_0 l0_1 l0_2)))) else (some false)))) else (some false)))))) = some r := H
    have A7 := Aside0.mk A70
    clear A70
    replace H := Option.bind_eq_some_iff.mp H
    obtain ⟨t711, A80, H⟩ := H
    replace H : ((laws_toColumn.f k a0_0 l0_1 l0_2).bind fun bt714 => ((impl_GapsOf.f k bt714.1 bt714.2.1 bt714.2.2).bind fun t722 => ((laws_eqGapS.f k t722 t711).bind fun t725 => (if t725 = true then ((laws_toColumn.f k a0_0 l0_1 l0_2).bind fun bt726 => ((laws_eqColumn.f k bt714.1 bt714.2.1 bt714.2.2 bt726.1 bt726.2.1 bt726.2.2).bind fun t733 => (if t733 = true then ((laws_markColumn.f k bt714.1 bt714.2.1 bt714.2.2 1).bind fun bt734 => (if bt734.1 < 0 then (laws_FnExactGapsOf.j0 k t711 t722 true a0_0 l0_1 l0_2) else ((laws_eqGapS.f k t722 t711).bind fun t737 => (laws_FnExactGapsOf.j0 k t711 t722 (!t737) a0_0 l0_1 l0_2)))) else (some false)))) else (some false))))) = some r := H
    have A8 := Aside0.mk A80
    clear A80
    replace H := Option.bind_eq_some_iff.mp H
    obtain ⟨⟨t714, t715, t718⟩, A90, H⟩ := H
    replace H : ((impl_GapsOf.f k t714 t715 t718).bind fun t722 => ((laws_eqGapS.f k t722 t711).bind fun t725 => (if t725 = true then ((laws_toColumn.f k a0_0 l0_1 l0_2).bind fun bt726 => ((laws_eqColumn.f k t714 t715 t718 bt726.1 bt726.2.1 bt726.2.2).bind fun t733 => (if t733 = true then ((laws_markColumn.f k t714 t715 t718 1).bind fun bt734 => (if bt734.1 < 0 then (laws_FnExactGapsOf.j0 k t711 t722 true a0_0 l0_1 l0_2) else ((laws_eqGapS.f k t722 t711).bind fun t737 => (laws_FnExactGapsOf.j0 k t711 t722 (!t737) a0_0 l0_1 l0_2)))) else (some false)))) else (some false)))) = some r := H
    have A9 := Aside0.mk A90
    clear A90
    replace H := Option.bind_eq_some_iff.mp H
    obtain ⟨t722, A100, H⟩ := H
    replace H : ((laws_eqGapS.f k t722 t711).bind fun t725 => (if t725 = true then ((laws_toColumn.f k a0_0 l0_1 l0_2).bind fun bt726 => ((laws_eqColumn.f k t714 t715 t718 bt726.1 bt726.2.1 bt726.2.2).bind fun t733 => (if t733 = true then ((laws_markColumn.f k t714 t715 t718 1).bind fun bt734 => (if bt734.1 < 0 then (laws_FnExactGapsOf.j0 k t711 t722 true a0_0 l0_1 l0_2) else ((laws_eqGapS.f k t722 t711).bind fun t737 => (laws_FnExactGapsOf.j0 k t711 t722 (!t737) a0_0 l0_1 l0_2)))) else (some false)))) else (some false))) = some r := H
    have A10 := Aside0.mk A100
    clear A100
    replace H := Option.bind_eq_some_iff.mp H
    obtain ⟨t725, A110, H⟩ := H
    replace H : (if t725 = true then ((laws_toColumn.f k a0_0 l0_1 l0_2).bind fun bt726 => ((laws_eqColumn.f k t714 t715 t718 bt726.1 bt726.2.1 bt726.2.2).bind fun t733 => (if t733 = true then ((laws_markColumn.f k t714 t715 t718 1).bind fun bt734 => (if bt734.1 < 0 then (laws_FnExactGapsOf.j0 k t711 t722 true a0_0 l0_1 l0_2) else ((laws_eqGapS.f k t722 t711).bind fun t737 => (laws_FnExactGapsOf.j0 k t711 t722 (!t737) a0_0 l0_1 l0_2)))) else (some false)))) else (some false)) = some r := H
    have A11 := Aside0.mk A110
    clear A110
    by_cases c12 : t725 = true
    · subst c12
      have H1 : ((laws_toColumn.f k a0_0 l0_1 l0_2).bind fun bt726 => ((laws_eqColumn.f k t714 t715 t718 bt726.1 bt726.2.1 bt726.2.2).bind fun t733 => (if t733 = true then ((laws_markColumn.f k t714 t715 t718 1).bind fun bt734 => (if bt734.1 < 0 then (laws_FnExactGapsOf.j0 k t711 t722 true a0_0 l0_1 l0_2) else ((laws_eqGapS.f k t722 t711).bind fun t737 => (laws_FnExactGapsOf.j0 k t711 t722 (!t737) a0_0 l0_1 l0_2)))) else (some false)))) = some r := by rw [if_pos rfl] at H; exact H
      clear H
      have H := H1
      clear H1
      replace H := Option.bind_eq_some_iff.mp H
      obtain ⟨⟨t726, t727, t730⟩, A130, H⟩ := H
      replace H : ((laws_eqColumn.f k t714 t715 t718 t726 t727 t730).bind fun t733 => (if t733 = true then ((laws_markColumn.f k t714 t715 t718 1).bind fun bt734 => (if bt734.1 < 0 then (laws_FnExactGapsOf.j0 k t711 t722 true a0_0 l0_1 l0_2) else ((laws_eqGapS.f k t722 t711).bind fun t737 => (laws_FnExactGapsOf.j0 k t711 t722 (!t737) a0_0 l0_1 l0_2)))) else (some false))) = some r := H
      have A13 := Aside0.mk A130
      clear A130
      replace H := Option.bind_eq_some_iff.mp H
      obtain ⟨t733, A140, H⟩ := H
      replace H : (if t733 = true then ((laws_markColumn.f k t714 t715 t718 1).bind fun bt734 => (if bt734.1 < 0 then (laws_FnExactGapsOf.j0 k t711 t722 true a0_0 l0_1 l0_2) else ((laws_eqGapS.f k t722 t711).bind fun t737 => (laws_FnExactGapsOf.j0 k t711 t722 (!t737) a0_0 l0_1 l0_2)))) else (some false)) = some r := H
      have A14 := Aside0.mk A140
      clear A140
      by_cases c15 : t733 = true
      · subst c15
        have H1 : ((laws_markColumn.f k t714 t715 t718 1).bind fun bt734 => (if bt734.1 < 0 then (laws_FnExactGapsOf.j0 k t711 t722 true a0_0 l0_1 l0_2) else ((laws_eqGapS.f k t722 t711).bind fun t737 => (laws_FnExactGapsOf.j0 k t711 t722 (!t737) a0_0 l0_1 l0_2)))) = some r := by rw [if_pos rfl] at H; exact H
        clear H
        have H := H1
        clear H1
        replace H := Option.bind_eq_some_iff.mp H
        obtain ⟨⟨t734, t735, t736⟩, A160, H⟩ := H
        replace H : (if t734 < 0 then (laws_FnExactGapsOf.j0 k t711 t722 true a0_0 l0_1 l0_2) else ((laws_eqGapS.f k t722 t711).bind fun t737 => (laws_FnExactGapsOf.j0 k t711 t722 (!t737) a0_0 l0_1 l0_2))) = some r := H
        have A16 := Aside0.mk A160
        clear A160
        have HC17 := Aside0.mk H
        clear H
        go_enter Try.func10, Try.ntmps10
        try go_wp2_with (first | ((with_reducible refine gate_dst (N := 1) rfl ?_); refine box_event ?hg (N := 1) ?hd (cs := #[.int .i64 a0_0, .slice A0_1 l0_1.length c0_1, .slice A0_2 l0_2.length c0_2]) (t := 25) ?hr ?_; (case hd => rfl); (case hg => rfl); (case hr => first | (go_simp; done) | (go_simp; rfl)); intro gb702 hg w18 hbox hb; have n0_ := Aside0.mk (below_step (by repeat (first | (with_reducible first | exact HB.out | apply below_alloc | apply pw_below_drewN | apply below_drew1) | exact HB.out)) hb); have n1_ := Aside0.mk (hbox); have n2_ := Aside0.mk ((by rw [hg]; exact (below_size (by repeat (first | (with_reducible first | exact HB.out | apply below_alloc | apply pw_below_drewN | apply below_drew1) | exact HB.out))) : w.heap.size ≤ gb702)); have n3_ := Aside0.mk ((by rw [hg]; exact (below_size (by repeat (first | (with_reducible first | exact HB.out | apply below_alloc | apply pw_below_drewN | apply below_drew1) | exact HB.out))) : w.heap.size ≤ gb702)); clear HB; have HB := n0_; have BK702 := n1_; have GW702 := n2_; have GE702 := n3_; clear n0_ n1_ n2_ n3_; clear hb hbox hg; have hcz19_0 : w18.cell? ⟨gb702, 0, none⟩ = some (.int .i64 a0_0) := (blk_cell BK702.out 0).trans rfl; have hcz19_1 : w18.cell? ⟨gb702, 1, none⟩ = some (.slice A0_1 l0_1.length c0_1) := (blk_cell BK702.out 1).trans rfl; have hcz19_2 : w18.cell? ⟨gb702, 2, none⟩ = some (.slice A0_2 l0_2.length c0_2) := (blk_cell BK702.out 2).trans rfl; have hfz19_0 := blk_frozen BK702.out 0; have hfz19_1 := blk_frozen BK702.out 1; have hfz19_2 := blk_frozen BK702.out 2) | ((with_reducible refine gate_callee (f := 15) rfl ?_); refine goesL_ (some 13) rfl rfl Try.func15 (by kernel_rfl) rfl #[.agg #[.int .i64 a0_0, .slice A0_1 l0_1.length c0_1, .slice A0_2 l0_2.length c0_2], .int .i64 1048576] rfl (by (try simp only [List.map_toArray, List.map_cons, List.map_nil]); first | done | rfl | (simp only [List.length_drop, List.length_take]; rfl)) ?_; (with_reducible refine (laws_szColumn.calls a0_0 _ _ l0_1 _ _ l0_2 1048576 t703 _ ?side1 ?side2 ?side3 ?side4 A2.out).mono ?_); (case side1 => repeat (first | exact (Kd.C_below HR0_1.out HB.out) | (with_reducible refine Kd.C_alloc ?_ _) | (with_reducible refine Kd.C_drewN ?_ _) | (with_reducible refine Kd.C_drew ?_))); (case side2 => exact HC0_1.out); (case side3 => repeat (first | exact (Kd.C_below HR0_2.out HB.out) | (with_reducible refine Kd.C_alloc ?_ _) | (with_reducible refine Kd.C_drewN ?_ _) | (with_reducible refine Kd.C_drew ?_))); (case side4 => exact HC0_2.out); rintro e w20 ⟨rfl, hb⟩; refine ⟨_, rfl, ?_⟩; have n0_ := Aside0.mk (blk_below (g := gb702) (o := .cells #[.int .i64 a0_0, .slice A0_1 l0_1.length c0_1, .slice A0_2 l0_2.length c0_2] 25 (0, 0)) (by (with_reducible repeat (first | refine blk_drewN ?_ _ | refine blk_drew ?_ | refine blk_alloc ?_ _)); exact BK702.out) hb); have n1_ := Aside0.mk (below_step (by repeat (first | (with_reducible first | exact HB.out | apply below_alloc | apply pw_below_drewN | apply below_drew1 | refine below_set ?_ GE702.out) | exact HB.out)) hb); clear BK702; clear HB; have BK702 := n0_; have HB := n1_; clear n0_ n1_; (try clear hb); (try clear hb2); (try clear hk); (try clear hi); have hcz21_0 : w20.cell? ⟨gb702, 0, none⟩ = some (.int .i64 a0_0) := (blk_cell BK702.out 0).trans rfl; have hcz21_1 : w20.cell? ⟨gb702, 1, none⟩ = some (.slice A0_1 l0_1.length c0_1) := (blk_cell BK702.out 1).trans rfl; have hcz21_2 : w20.cell? ⟨gb702, 2, none⟩ = some (.slice A0_2 l0_2.length c0_2) := (blk_cell BK702.out 2).trans rfl; have hfz21_0 := blk_frozen BK702.out 0; have hfz21_1 := blk_frozen BK702.out 1; have hfz21_2 := blk_frozen BK702.out 2) | ((with_reducible refine gate_callee (f := 17) rfl ?_); refine goesL_ (some 17) rfl rfl Try.func17 (by kernel_rfl) rfl #[.agg #[.int .i64 a0_0, .slice A0_1 l0_1.length c0_1, .slice A0_2 l0_2.length c0_2]] rfl (by (try simp only [List.map_toArray, List.map_cons, List.map_nil]); first | done | rfl | (simp only [List.length_drop, List.length_take]; rfl)) ?_; (with_reducible refine (laws_toColumn.calls k a0_0 _ _ l0_1 _ _ l0_2 t704 t705 t708 _ ?side1 ?side2 ?side3 ?side4 A7.out).mono ?_); (case side1 => repeat (first | exact (Kd.C_below HR0_1.out HB.out) | (with_reducible refine Kd.C_alloc ?_ _) | (with_reducible refine Kd.C_drewN ?_ _) | (with_reducible refine Kd.C_drew ?_))); (case side2 => exact HC0_1.out); (case side3 => repeat (first | exact (Kd.C_below HR0_2.out HB.out) | (with_reducible refine Kd.C_alloc ?_ _) | (with_reducible refine Kd.C_drewN ?_ _) | (with_reducible refine Kd.C_drew ?_))); (case side4 => exact HC0_2.out); rintro e w22 ⟨v706, v709, rfl, ho0, ho1, hb⟩; refine ⟨_, rfl, ?_⟩; have n0_ := Aside0.mk (Kd.R_lower ho0 (below_size (by repeat (first | (with_reducible first | exact HB.out | apply below_alloc | apply pw_below_drewN | apply below_drew1 | refine below_set ?_ GE702.out) | exact HB.out)))); have n1_ := Aside0.mk (Kd.R_lower ho1 (below_size (by repeat (first | (with_reducible first | exact HB.out | apply below_alloc | apply pw_below_drewN | apply below_drew1 | refine below_set ?_ GE702.out) | exact HB.out)))); have n2_ := Aside0.mk (blk_below (g := gb702) (o := .cells #[.int .i64 a0_0, .slice A0_1 l0_1.length c0_1, .slice A0_2 l0_2.length c0_2] 25 (0, 0)) (by (with_reducible repeat (first | refine blk_drewN ?_ _ | refine blk_drew ?_ | refine blk_alloc ?_ _)); exact BK702.out) hb); have n3_ := Aside0.mk (below_step (by repeat (first | (with_reducible first | exact HB.out | apply below_alloc | apply pw_below_drewN | apply below_drew1 | refine below_set ?_ GE702.out) | exact HB.out)) hb); clear BK702; clear HB; have HO707 := n0_; have HO710 := n1_; have BK702 := n2_; have HB := n3_; clear n0_ n1_ n2_ n3_; (try clear hb); (try clear hb2); (try clear hk); (try clear hi); (try clear ho0); (try clear ho1); obtain ⟨Ao23, co23, eo23⟩ := Kd.R_slice HO707.out; subst eo23; obtain ⟨Ao24, co24, eo24⟩ := Kd.R_slice HO710.out; subst eo24) | ((with_reducible refine gate_callee (f := 41) rfl ?_); refine goesL_ (some 18) rfl rfl Try.func41 (by kernel_rfl) rfl #[.agg #[.int .i64 t704, .slice Ao23 t705.length co23, .slice Ao24 t708.length co24]] rfl (by (try simp only [List.map_toArray, List.map_cons, List.map_nil]); first | done | rfl | (simp only [List.length_drop, List.length_take]; rfl)) ?_; (with_reducible refine (spec_GapsOf.calls k t704 _ _ t705 _ _ t708 t711 _ ?side1 ?side2 ?side3 ?side4 A8.out).mono ?_); (case side1 => repeat (first | exact (Kd.R_reads' HO707.out).2.2 | (with_reducible refine Kd.C_alloc ?_ _) | (with_reducible refine Kd.C_drewN ?_ _) | (with_reducible refine Kd.C_drew ?_))); (case side2 => exact (Kd.R_reads' HO707.out).2.1); (case side3 => repeat (first | exact (Kd.R_reads' HO710.out).2.2 | (with_reducible refine Kd.C_alloc ?_ _) | (with_reducible refine Kd.C_drewN ?_ _) | (with_reducible refine Kd.C_drew ?_))); (case side4 => exact (Kd.R_reads' HO710.out).2.1); rintro e w25 ⟨v712, rfl, ho0, hb⟩; refine ⟨_, rfl, ?_⟩; have n0_ := Aside0.mk (Kd.R_below (by (with_reducible repeat (first | apply Kd.R_alloc | apply Kd.R_drewN | apply Kd.R_drew)); exact HO707.out) hb); have n1_ := Aside0.mk (Kd.R_below (by (with_reducible repeat (first | apply Kd.R_alloc | apply Kd.R_drewN | apply Kd.R_drew)); exact HO710.out) hb); have n2_ := Aside0.mk (Kd.R_lower ho0 (below_size (by repeat (first | (with_reducible first | exact HB.out | apply below_alloc | apply pw_below_drewN | apply below_drew1 | refine below_set ?_ GE702.out) | exact HB.out)))); have n3_ := Aside0.mk (blk_below (g := gb702) (o := .cells #[.int .i64 a0_0, .slice A0_1 l0_1.length c0_1, .slice A0_2 l0_2.length c0_2] 25 (0, 0)) (by (with_reducible repeat (first | refine blk_drewN ?_ _ | refine blk_drew ?_ | refine blk_alloc ?_ _)); exact BK702.out) hb); have n4_ := Aside0.mk (below_step (by repeat (first | (with_reducible first | exact HB.out | apply below_alloc | apply pw_below_drewN | apply below_drew1 | refine below_set ?_ GE702.out) | exact HB.out)) hb); clear HO707; clear HO710; clear BK702; clear HB; have HO707 := n0_; have HO710 := n1_; have HO713 := n2_; have BK702 := n3_; have HB := n4_; clear n0_ n1_ n2_ n3_ n4_; (try clear hb); (try clear hb2); (try clear hk); (try clear hi); (try clear ho0); have hcz26_0 : w25.cell? ⟨gb702, 0, none⟩ = some (.int .i64 a0_0) := (blk_cell BK702.out 0).trans rfl; have hcz26_1 : w25.cell? ⟨gb702, 1, none⟩ = some (.slice A0_1 l0_1.length c0_1) := (blk_cell BK702.out 1).trans rfl; have hcz26_2 : w25.cell? ⟨gb702, 2, none⟩ = some (.slice A0_2 l0_2.length c0_2) := (blk_cell BK702.out 2).trans rfl; have hfz26_0 := blk_frozen BK702.out 0; have hfz26_1 := blk_frozen BK702.out 1; have hfz26_2 := blk_frozen BK702.out 2) | ((with_reducible refine gate_callee (f := 17) rfl ?_); refine goesL_ (some 20) rfl rfl Try.func17 (by kernel_rfl) rfl #[.agg #[.int .i64 a0_0, .slice A0_1 l0_1.length c0_1, .slice A0_2 l0_2.length c0_2]] rfl (by (try simp only [List.map_toArray, List.map_cons, List.map_nil]); first | done | rfl | (simp only [List.length_drop, List.length_take]; rfl)) ?_; (with_reducible refine (laws_toColumn.calls k a0_0 _ _ l0_1 _ _ l0_2 t714 t715 t718 _ ?side1 ?side2 ?side3 ?side4 A9.out).mono ?_); (case side1 => repeat (first | exact (Kd.C_below HR0_1.out HB.out) | (with_reducible refine Kd.C_alloc ?_ _) | (with_reducible refine Kd.C_drewN ?_ _) | (with_reducible refine Kd.C_drew ?_))); (case side2 => exact HC0_1.out); (case side3 => repeat (first | exact (Kd.C_below HR0_2.out HB.out) | (with_reducible refine Kd.C_alloc ?_ _) | (with_reducible refine Kd.C_drewN ?_ _) | (with_reducible refine Kd.C_drew ?_))); (case side4 => exact HC0_2.out); rintro e w27 ⟨v716, v719, rfl, ho0, ho1, hb⟩; refine ⟨_, rfl, ?_⟩; have n0_ := Aside0.mk (Kd.R_elder' (by (with_reducible repeat (first | apply Kd.R_alloc | apply Kd.R_drewN | apply Kd.R_drew)); exact HO707.out) (Kd.R_base ho0) hb); have n1_ := Aside0.mk (Kd.R_elder' (by (with_reducible repeat (first | apply Kd.R_alloc | apply Kd.R_drewN | apply Kd.R_drew)); exact HO710.out) (Kd.R_base ho1) hb); have n2_ := Aside0.mk (Kd.R_below (by (with_reducible repeat (first | apply Kd.R_alloc | apply Kd.R_drewN | apply Kd.R_drew)); exact HO713.out) hb); have n3_ := Aside0.mk (Kd.R_lower (Kd.R_new' ho0 (Kd.R_lt (by (with_reducible repeat (first | apply Kd.R_alloc | apply Kd.R_drewN | apply Kd.R_drew)); exact HO707.out))) (below_size (by repeat (first | (with_reducible first | exact HB.out | apply below_alloc | apply pw_below_drewN | apply below_drew1 | refine below_set ?_ GE702.out) | exact HB.out)))); have n4_ := Aside0.mk (Kd.R_lower (Kd.R_new' ho1 (Kd.R_lt (by (with_reducible repeat (first | apply Kd.R_alloc | apply Kd.R_drewN | apply Kd.R_drew)); exact HO710.out))) (below_size (by repeat (first | (with_reducible first | exact HB.out | apply below_alloc | apply pw_below_drewN | apply below_drew1 | refine below_set ?_ GE702.out) | exact HB.out)))); have n5_ := Aside0.mk (blk_below (g := gb702) (o := .cells #[.int .i64 a0_0, .slice A0_1 l0_1.length c0_1, .slice A0_2 l0_2.length c0_2] 25 (0, 0)) (by (with_reducible repeat (first | refine blk_drewN ?_ _ | refine blk_drew ?_ | refine blk_alloc ?_ _)); exact BK702.out) hb); have n6_ := Aside0.mk (below_step (by repeat (first | (with_reducible first | exact HB.out | apply below_alloc | apply pw_below_drewN | apply below_drew1 | refine below_set ?_ GE702.out) | exact HB.out)) hb); clear HO707; clear HO710; clear HO713; clear BK702; clear HB; have HO707 := n0_; have HO710 := n1_; have HO713 := n2_; have HO717 := n3_; have HO720 := n4_; have BK702 := n5_; have HB := n6_; clear n0_ n1_ n2_ n3_ n4_ n5_ n6_; (try clear hb); (try clear hb2); (try clear hk); (try clear hi); (try clear ho0); (try clear ho1)) | ((with_reducible refine gate_dst (N := 5) rfl ?_); refine box_event ?hg (N := 5) ?hd (cs := #[.int .i64 0, .slice none 0 0, .slice none 0 0]) (t := 30) ?hr ?_; (case hd => rfl); (case hg => rfl); (case hr => first | (go_simp; done) | (go_simp; rfl)); intro gb721 hg w28 hbox hb; have n0_ := Aside0.mk (Kd.R_below (by (with_reducible repeat (first | apply Kd.R_alloc | apply Kd.R_drewN | apply Kd.R_drew)); exact HO707.out) hb); have n1_ := Aside0.mk (Kd.R_below (by (with_reducible repeat (first | apply Kd.R_alloc | apply Kd.R_drewN | apply Kd.R_drew)); exact HO710.out) hb); have n2_ := Aside0.mk (Kd.R_below (by (with_reducible repeat (first | apply Kd.R_alloc | apply Kd.R_drewN | apply Kd.R_drew)); exact HO713.out) hb); have n3_ := Aside0.mk (Kd.R_below (by (with_reducible repeat (first | apply Kd.R_alloc | apply Kd.R_drewN | apply Kd.R_drew)); exact HO717.out) hb); have n4_ := Aside0.mk (Kd.R_below (by (with_reducible repeat (first | apply Kd.R_alloc | apply Kd.R_drewN | apply Kd.R_drew)); exact HO720.out) hb); have n5_ := Aside0.mk (blk_below (g := gb702) (o := .cells #[.int .i64 a0_0, .slice A0_1 l0_1.length c0_1, .slice A0_2 l0_2.length c0_2] 25 (0, 0)) (by (with_reducible repeat (first | refine blk_drewN ?_ _ | refine blk_drew ?_ | refine blk_alloc ?_ _)); exact BK702.out) hb); have n6_ := Aside0.mk (below_step (by repeat (first | (with_reducible first | exact HB.out | apply below_alloc | apply pw_below_drewN | apply below_drew1 | refine below_set ?_ GE702.out) | exact HB.out)) hb); have n7_ := Aside0.mk (hbox); have n8_ := Aside0.mk ((by rw [hg]; exact (below_size (by repeat (first | (with_reducible first | exact HB.out | apply below_alloc | apply pw_below_drewN | apply below_drew1 | refine below_set ?_ GE702.out) | exact HB.out))) : w.heap.size ≤ gb721)); have n9_ := Aside0.mk ((by rw [hg]; exact (below_size (by repeat (first | (with_reducible first | exact HB.out | apply below_alloc | apply pw_below_drewN | apply below_drew1 | refine below_set ?_ GE702.out) | exact HB.out))) : w.heap.size ≤ gb721)); have n10_ := Aside0.mk ((by rw [hg]; exact Nat.ne_of_lt (blk_lt (g := gb702) (o := .cells #[.int .i64 a0_0, .slice A0_1 l0_1.length c0_1, .slice A0_2 l0_2.length c0_2] 25 (0, 0)) (by (with_reducible repeat (first | refine blk_drewN ?_ _ | refine blk_drew ?_ | refine blk_alloc ?_ _)); exact BK702.out)) : gb702 ≠ gb721)); have n11_ := Aside0.mk ((by rw [hg]; exact Nat.ne_of_gt (blk_lt (g := gb702) (o := .cells #[.int .i64 a0_0, .slice A0_1 l0_1.length c0_1, .slice A0_2 l0_2.length c0_2] 25 (0, 0)) (by (with_reducible repeat (first | refine blk_drewN ?_ _ | refine blk_drew ?_ | refine blk_alloc ?_ _)); exact BK702.out)) : gb721 ≠ gb702)); clear HO707; clear HO710; clear HO713; clear HO717; clear HO720; clear BK702; clear HB; have HO707 := n0_; have HO710 := n1_; have HO713 := n2_; have HO717 := n3_; have HO720 := n4_; have BK702 := n5_; have HB := n6_; have BK721 := n7_; have GW721 := n8_; have GE721 := n9_; have NB702_721 := n10_; have NB721_702 := n11_; clear n0_ n1_ n2_ n3_ n4_ n5_ n6_ n7_ n8_ n9_ n10_ n11_; clear hb hbox hg; have hnb29 := NB721_702.out; have hnc29 := NB702_721.out; have hcz30_0 : w28.cell? ⟨gb721, 0, none⟩ = some (.int .i64 0) := (blk_cell BK721.out 0).trans rfl; have hcz30_1 : w28.cell? ⟨gb721, 1, none⟩ = some (.slice none 0 0) := (blk_cell BK721.out 1).trans rfl; have hcz30_2 : w28.cell? ⟨gb721, 2, none⟩ = some (.slice none 0 0) := (blk_cell BK721.out 2).trans rfl; have hfz30_0 := blk_frozen BK721.out 0; have hfz30_1 := blk_frozen BK721.out 1; have hfz30_2 := blk_frozen BK721.out 2; obtain ⟨Ao31, co31, eo31⟩ := Kd.R_slice HO717.out; subst eo31; obtain ⟨Ao32, co32, eo32⟩ := Kd.R_slice HO720.out; subst eo32) | ((with_reducible refine gate_callee (f := 42) rfl ?_); refine goesL_ (some 22) rfl rfl Try.func42 (by kernel_rfl) rfl #[.agg #[.int .i64 t714, .slice Ao31 t715.length co31, .slice Ao32 t718.length co32]] rfl (by (try simp only [List.map_toArray, List.map_cons, List.map_nil]); first | done | rfl | (simp only [List.length_drop, List.length_take]; rfl)) ?_; (with_reducible refine (impl_GapsOf.calls k t714 _ _ t715 _ _ t718 t722 _ ?side1 ?side2 ?side3 ?side4 A10.out).mono ?_); (case side1 => refine (Kd.R_reads' (e := 3) (base := w.heap.size) (ok := fun k_ => (True ∧ some k_ ≠ (.slice Ao23 t705.length co23 : Value).ownBlock)) (n := t715.length) (c := co31) ?_).2.2; exact (by (with_reducible repeat (first | apply Kd.R_alloc | apply Kd.R_drewN | apply Kd.R_drew)); exact (Kd.R_mono (Kd.R_far (p := ⟨gb721, 2, none⟩) (Kd.R_far (p := ⟨gb721, 1, none⟩) (Kd.R_far (p := ⟨gb721, 0, none⟩) (Kd.R_types HO717.out BK721.out (by decide)) (fun _ hk => hk.2) (.int .i64 t714)) (fun _ hk => hk.2) (.slice Ao31 t715.length co31)) (fun _ hk => hk.2) (.slice Ao32 t718.length co32)) (fun _ h_ => h_.1)))); (case side2 => exact (Kd.R_reads' HO717.out).2.1); (case side3 => refine (Kd.R_reads' (e := 71) (base := w.heap.size) (ok := fun k_ => (True ∧ some k_ ≠ (.slice Ao24 t708.length co24 : Value).ownBlock)) (n := t718.length) (c := co32) ?_).2.2; exact (by (with_reducible repeat (first | apply Kd.R_alloc | apply Kd.R_drewN | apply Kd.R_drew)); exact (Kd.R_mono (Kd.R_far (p := ⟨gb721, 2, none⟩) (Kd.R_far (p := ⟨gb721, 1, none⟩) (Kd.R_far (p := ⟨gb721, 0, none⟩) (Kd.R_types HO720.out BK721.out (by decide)) (fun _ hk => hk.2) (.int .i64 t714)) (fun _ hk => hk.2) (.slice Ao31 t715.length co31)) (fun _ hk => hk.2) (.slice Ao32 t718.length co32)) (fun _ h_ => h_.1)))); (case side4 => exact (Kd.R_reads' HO720.out).2.1); rintro e w33 ⟨v723, rfl, ho0, hb⟩; refine ⟨_, rfl, ?_⟩; have n0_ := Aside0.mk (Kd.R_below (by (with_reducible repeat (first | apply Kd.R_alloc | apply Kd.R_drewN | apply Kd.R_drew)); exact (Kd.R_mono (Kd.R_far (p := ⟨gb721, 2, none⟩) (Kd.R_far (p := ⟨gb721, 1, none⟩) (Kd.R_far (p := ⟨gb721, 0, none⟩) (Kd.R_types HO707.out BK721.out (by decide)) (fun _ hk => hk.2) (.int .i64 t714)) (fun _ hk => hk.2) (.slice Ao31 t715.length co31)) (fun _ hk => hk.2) (.slice Ao32 t718.length co32)) (fun _ h_ => h_.1))) hb); have n1_ := Aside0.mk (Kd.R_below (by (with_reducible repeat (first | apply Kd.R_alloc | apply Kd.R_drewN | apply Kd.R_drew)); exact (Kd.R_mono (Kd.R_far (p := ⟨gb721, 2, none⟩) (Kd.R_far (p := ⟨gb721, 1, none⟩) (Kd.R_far (p := ⟨gb721, 0, none⟩) (Kd.R_types HO710.out BK721.out (by decide)) (fun _ hk => hk.2) (.int .i64 t714)) (fun _ hk => hk.2) (.slice Ao31 t715.length co31)) (fun _ hk => hk.2) (.slice Ao32 t718.length co32)) (fun _ h_ => h_.1))) hb); have n2_ := Aside0.mk (Kd.R_elder' (by (with_reducible repeat (first | apply Kd.R_alloc | apply Kd.R_drewN | apply Kd.R_drew)); exact (Kd.R_mono (Kd.R_far (p := ⟨gb721, 2, none⟩) (Kd.R_far (p := ⟨gb721, 1, none⟩) (Kd.R_far (p := ⟨gb721, 0, none⟩) (Kd.R_types HO713.out BK721.out (by decide)) (fun _ hk => hk.2) (.int .i64 t714)) (fun _ hk => hk.2) (.slice Ao31 t715.length co31)) (fun _ hk => hk.2) (.slice Ao32 t718.length co32)) (fun _ h_ => h_.1))) (Kd.R_base ho0) hb); have n3_ := Aside0.mk (Kd.R_below (by (with_reducible repeat (first | apply Kd.R_alloc | apply Kd.R_drewN | apply Kd.R_drew)); exact (Kd.R_mono (Kd.R_far (p := ⟨gb721, 2, none⟩) (Kd.R_far (p := ⟨gb721, 1, none⟩) (Kd.R_far (p := ⟨gb721, 0, none⟩) (Kd.R_types HO717.out BK721.out (by decide)) (fun _ hk => hk.2) (.int .i64 t714)) (fun _ hk => hk.2) (.slice Ao31 t715.length co31)) (fun _ hk => hk.2) (.slice Ao32 t718.length co32)) (fun _ h_ => h_.1))) hb); have n4_ := Aside0.mk (Kd.R_below (by (with_reducible repeat (first | apply Kd.R_alloc | apply Kd.R_drewN | apply Kd.R_drew)); exact (Kd.R_mono (Kd.R_far (p := ⟨gb721, 2, none⟩) (Kd.R_far (p := ⟨gb721, 1, none⟩) (Kd.R_far (p := ⟨gb721, 0, none⟩) (Kd.R_types HO720.out BK721.out (by decide)) (fun _ hk => hk.2) (.int .i64 t714)) (fun _ hk => hk.2) (.slice Ao31 t715.length co31)) (fun _ hk => hk.2) (.slice Ao32 t718.length co32)) (fun _ h_ => h_.1))) hb); have n5_ := Aside0.mk (Kd.R_lower (Kd.R_new' ho0 (Kd.R_lt (by (with_reducible repeat (first | apply Kd.R_alloc | apply Kd.R_drewN | apply Kd.R_drew)); exact (Kd.R_mono (Kd.R_far (p := ⟨gb721, 2, none⟩) (Kd.R_far (p := ⟨gb721, 1, none⟩) (Kd.R_far (p := ⟨gb721, 0, none⟩) (Kd.R_types HO713.out BK721.out (by decide)) (fun _ hk => hk.2) (.int .i64 t714)) (fun _ hk => hk.2) (.slice Ao31 t715.length co31)) (fun _ hk => hk.2) (.slice Ao32 t718.length co32)) (fun _ h_ => h_.1))))) (below_size (by repeat (first | (with_reducible first | exact HB.out | apply below_alloc | apply pw_below_drewN | apply below_drew1 | refine below_set ?_ GE702.out | refine below_set ?_ GE721.out) | exact HB.out)))); have n6_ := Aside0.mk (blk_below (g := gb702) (o := .cells #[.int .i64 a0_0, .slice A0_1 l0_1.length c0_1, .slice A0_2 l0_2.length c0_2] 25 (0, 0)) (by (with_reducible repeat (first | refine blk_drewN ?_ _ | refine blk_drew ?_ | refine blk_alloc ?_ _)); refine blk_far ?_ NB702_721.out _; (with_reducible repeat (first | refine blk_drewN ?_ _ | refine blk_drew ?_ | refine blk_alloc ?_ _)); refine blk_far ?_ NB702_721.out _; (with_reducible repeat (first | refine blk_drewN ?_ _ | refine blk_drew ?_ | refine blk_alloc ?_ _)); refine blk_far ?_ NB702_721.out _; (with_reducible repeat (first | refine blk_drewN ?_ _ | refine blk_drew ?_ | refine blk_alloc ?_ _)); exact BK702.out) hb); have n7_ := Aside0.mk (blk_below (g := gb721) (o := .cells #[.int .i64 t714, .slice Ao31 t715.length co31, .slice Ao32 t718.length co32] 30 (0, 0)) (by (with_reducible repeat (first | refine blk_drewN ?_ _ | refine blk_drew ?_ | refine blk_alloc ?_ _)); refine blk_put (cs := #[.int .i64 t714, .slice Ao31 t715.length co31, .slice none 0 0]) ?_ 2 _ rfl; (with_reducible repeat (first | refine blk_drewN ?_ _ | refine blk_drew ?_ | refine blk_alloc ?_ _)); refine blk_put (cs := #[.int .i64 t714, .slice none 0 0, .slice none 0 0]) ?_ 1 _ rfl; (with_reducible repeat (first | refine blk_drewN ?_ _ | refine blk_drew ?_ | refine blk_alloc ?_ _)); refine blk_put (cs := #[.int .i64 0, .slice none 0 0, .slice none 0 0]) ?_ 0 _ rfl; (with_reducible repeat (first | refine blk_drewN ?_ _ | refine blk_drew ?_ | refine blk_alloc ?_ _)); exact BK721.out) hb); have n8_ := Aside0.mk (below_step (by repeat (first | (with_reducible first | exact HB.out | apply below_alloc | apply pw_below_drewN | apply below_drew1 | refine below_set ?_ GE702.out | refine below_set ?_ GE721.out) | exact HB.out)) hb); clear HO707; clear HO710; clear HO713; clear HO717; clear HO720; clear BK702; clear BK721; clear HB; have HO707 := n0_; have HO710 := n1_; have HO713 := n2_; have HO717 := n3_; have HO720 := n4_; have HO724 := n5_; have BK702 := n6_; have BK721 := n7_; have HB := n8_; clear n0_ n1_ n2_ n3_ n4_ n5_ n6_ n7_ n8_; (try clear hb); (try clear hb2); (try clear hk); (try clear hi); (try clear ho0); obtain ⟨Ao34, co34, eo34⟩ := Kd.R_slice HO724.out; subst eo34; obtain ⟨Ao35, co35, eo35⟩ := Kd.R_slice HO713.out; subst eo35) | ((with_reducible refine gate_callee (f := 43) rfl ?_); refine goesL_ (some 25) rfl rfl Try.func43 (by kernel_rfl) rfl #[.slice Ao34 t722.length co34, .slice Ao35 t711.length co35] rfl (by (try simp only [List.map_toArray, List.map_cons, List.map_nil]); first | done | rfl | (simp only [List.length_drop, List.length_take]; rfl)) ?_; (with_reducible refine (laws_eqGapS.calls k _ _ t722 _ _ t711 true _ ?side1 ?side2 ?side3 ?side4 A11.out).mono ?_); (case side1 => repeat (first | exact (Kd.R_reads' HO724.out).2.2 | (with_reducible refine Kd.C_alloc ?_ _) | (with_reducible refine Kd.C_drewN ?_ _) | (with_reducible refine Kd.C_drew ?_))); (case side2 => exact (Kd.R_reads' HO724.out).2.1); (case side3 => repeat (first | exact (Kd.R_reads' HO713.out).2.2 | (with_reducible refine Kd.C_alloc ?_ _) | (with_reducible refine Kd.C_drewN ?_ _) | (with_reducible refine Kd.C_drew ?_))); (case side4 => exact (Kd.R_reads' HO713.out).2.1); rintro e w36 ⟨rfl, hb⟩; refine ⟨_, rfl, ?_⟩; have n0_ := Aside0.mk (Kd.R_below (by (with_reducible repeat (first | apply Kd.R_alloc | apply Kd.R_drewN | apply Kd.R_drew)); exact HO707.out) hb); have n1_ := Aside0.mk (Kd.R_below (by (with_reducible repeat (first | apply Kd.R_alloc | apply Kd.R_drewN | apply Kd.R_drew)); exact HO710.out) hb); have n2_ := Aside0.mk (Kd.R_below (by (with_reducible repeat (first | apply Kd.R_alloc | apply Kd.R_drewN | apply Kd.R_drew)); exact HO713.out) hb); have n3_ := Aside0.mk (Kd.R_below (by (with_reducible repeat (first | apply Kd.R_alloc | apply Kd.R_drewN | apply Kd.R_drew)); exact HO717.out) hb); have n4_ := Aside0.mk (Kd.R_below (by (with_reducible repeat (first | apply Kd.R_alloc | apply Kd.R_drewN | apply Kd.R_drew)); exact HO720.out) hb); have n5_ := Aside0.mk (Kd.R_below (by (with_reducible repeat (first | apply Kd.R_alloc | apply Kd.R_drewN | apply Kd.R_drew)); exact HO724.out) hb); have n6_ := Aside0.mk (blk_below (g := gb702) (o := .cells #[.int .i64 a0_0, .slice A0_1 l0_1.length c0_1, .slice A0_2 l0_2.length c0_2] 25 (0, 0)) (by (with_reducible repeat (first | refine blk_drewN ?_ _ | refine blk_drew ?_ | refine blk_alloc ?_ _)); exact BK702.out) hb); have n7_ := Aside0.mk (blk_below (g := gb721) (o := .cells #[.int .i64 t714, .slice Ao31 t715.length co31, .slice Ao32 t718.length co32] 30 (0, 0)) (by (with_reducible repeat (first | refine blk_drewN ?_ _ | refine blk_drew ?_ | refine blk_alloc ?_ _)); exact BK721.out) hb); have n8_ := Aside0.mk (below_step (by repeat (first | (with_reducible first | exact HB.out | apply below_alloc | apply pw_below_drewN | apply below_drew1 | refine below_set ?_ GE702.out | refine below_set ?_ GE721.out) | exact HB.out)) hb); clear HO707; clear HO710; clear HO713; clear HO717; clear HO720; clear HO724; clear BK702; clear BK721; clear HB; have HO707 := n0_; have HO710 := n1_; have HO713 := n2_; have HO717 := n3_; have HO720 := n4_; have HO724 := n5_; have BK702 := n6_; have BK721 := n7_; have HB := n8_; clear n0_ n1_ n2_ n3_ n4_ n5_ n6_ n7_ n8_; (try clear hb); (try clear hb2); (try clear hk); (try clear hi)))
        have n0_ := Aside0.mk (Kd.R_drew HO707.out)
        have n1_ := Aside0.mk (Kd.R_drew HO710.out)
        have n2_ := Aside0.mk (Kd.R_drew HO713.out)
        have n3_ := Aside0.mk (Kd.R_drew HO717.out)
        have n4_ := Aside0.mk (Kd.R_drew HO720.out)
        have n5_ := Aside0.mk (Kd.R_drew HO724.out)
        have n6_ := Aside0.mk (blk_drew BK702.out)
        have n7_ := Aside0.mk (blk_drew BK721.out)
        have n8_ := Aside0.mk (below_drew1 HB.out)
        clear HO707
        clear HO710
        clear HO713
        clear HO717
        clear HO720
        clear HO724
        clear BK702
        clear BK721
        clear HB
        have HO707 := n0_
        have HO710 := n1_
        have HO713 := n2_
        have HO717 := n3_
        have HO720 := n4_
        have HO724 := n5_
        have BK702 := n6_
        have BK721 := n7_
        have HB := n8_
        clear n0_ n1_ n2_ n3_ n4_ n5_ n6_ n7_ n8_
        refine start_ (n := 5) (S := fun w' => w'.cell? ⟨gb721, 0, none⟩ = some (.int .i64 t714) ∧ w'.cell? ⟨gb721, 1, none⟩ = some (.slice Ao31 t715.length co31) ∧ w'.cell? ⟨gb721, 2, none⟩ = some (.slice Ao32 t718.length co32) ∧ w'.cell? ⟨gb702, 0, none⟩ = some (.int .i64 a0_0) ∧ w'.cell? ⟨gb702, 1, none⟩ = some (.slice A0_1 l0_1.length c0_1) ∧ w'.cell? ⟨gb702, 2, none⟩ = some (.slice A0_2 l0_2.length c0_2)) (ds := []) #[false, false, false, false, false] (by kernel_rfl) rfl rfl ⟨(blk_cell BK721.out 0).trans rfl, (blk_cell BK721.out 1).trans rfl, (blk_cell BK721.out 2).trans rfl, (blk_cell BK702.out 0).trans rfl, (blk_cell BK702.out 1).trans rfl, (blk_cell BK702.out 2).trans rfl⟩ (fun hHeld => ?_)
        generalize w36.drew = w37 at HO707 HO710 HO713 HO717 HO720 HO724 BK702 BK721 HB hHeld ⊢
        refine take_ (i := 0) (N := some 27) (v := ?_) (a' := ?_) #[true, false, false, false, false] rfl rfl (by kernel_rfl) (fun _ _ _ h => h) (Or.inl ⟨by rfl, ?_⟩) hHeld ?_ ?_
        rotate_left
        · rintro w' ⟨s0, s1, s2, s3, s4, s5⟩
          go_simp
          with_reducible rfl
        rotate_left
        · simp only [Act.put, List.setIfInBounds_toArray, List.set_cons_zero, List.set_cons_succ, i64_w, i32_w]
          rfl
        refine take_ (i := 1) (N := some 28) (v := ?_) (a' := ?_) #[true, true, false, false, false] rfl rfl (by kernel_rfl) (fun _ _ _ h => h) (Or.inl ⟨by rfl, ?_⟩) hHeld ?_ ?_
        rotate_left
        · rintro w' ⟨s0, s1, s2, s3, s4, s5⟩
          go_simp
          with_reducible rfl
        rotate_left
        · simp only [Act.put, List.setIfInBounds_toArray, List.set_cons_zero, List.set_cons_succ, i64_w, i32_w]
          rfl
        refine one_ (i := 2) (N := some 29) #[true, true, true, false, false] rfl rfl (by kernel_rfl) (by decide) (fun K hK => ?_)
        refine goes_ Try.func17 (by kernel_rfl) rfl #[.agg #[.int .i64 a0_0, .slice A0_1 l0_1.length c0_1, .slice A0_2 l0_2.length c0_2]] (by rfl) rfl rfl (by (try simp only [List.map_toArray, List.map_cons, List.map_nil]); first | done | rfl | (simp only [List.length_drop, List.length_take]; rfl)) ?_
        with_reducible refine (laws_toColumn.calls k a0_0 _ _ l0_1 _ _ l0_2 t726 t727 t730 _ ?side1 ?side2 ?side3 ?side4 A13.out).mono ?_
        (case side1 => repeat (first | exact (Kd.C_below HR0_1.out HB.out) | (with_reducible refine Kd.C_alloc ?_ _) | (with_reducible refine Kd.C_drewN ?_ _) | (with_reducible refine Kd.C_drew ?_)))
        (case side2 => exact HC0_1.out)
        (case side3 => repeat (first | exact (Kd.C_below HR0_2.out HB.out) | (with_reducible refine Kd.C_alloc ?_ _) | (with_reducible refine Kd.C_drewN ?_ _) | (with_reducible refine Kd.C_drew ?_)))
        (case side4 => exact HC0_2.out)
        rintro e w38 ⟨v728, v731, rfl, ho0, ho1, hb⟩
        refine ⟨_, rfl, ?_⟩
        have n0_ := Aside0.mk (Kd.R_elder' (by (with_reducible repeat (first | apply Kd.R_alloc | apply Kd.R_drewN | apply Kd.R_drew)); exact HO707.out) (Kd.R_base ho0) hb)
        have n1_ := Aside0.mk (Kd.R_elder' (by (with_reducible repeat (first | apply Kd.R_alloc | apply Kd.R_drewN | apply Kd.R_drew)); exact HO710.out) (Kd.R_base ho1) hb)
        have n2_ := Aside0.mk (Kd.R_below (by (with_reducible repeat (first | apply Kd.R_alloc | apply Kd.R_drewN | apply Kd.R_drew)); exact HO713.out) hb)
        have n3_ := Aside0.mk (Kd.R_elder' (by (with_reducible repeat (first | apply Kd.R_alloc | apply Kd.R_drewN | apply Kd.R_drew)); exact HO717.out) (Kd.R_base ho0) hb)
        have n4_ := Aside0.mk (Kd.R_elder' (by (with_reducible repeat (first | apply Kd.R_alloc | apply Kd.R_drewN | apply Kd.R_drew)); exact HO720.out) (Kd.R_base ho1) hb)
        have n5_ := Aside0.mk (Kd.R_below (by (with_reducible repeat (first | apply Kd.R_alloc | apply Kd.R_drewN | apply Kd.R_drew)); exact HO724.out) hb)
        have n6_ := Aside0.mk (Kd.R_lower (Kd.R_new' (Kd.R_new' ho0 (Kd.R_lt (by (with_reducible repeat (first | apply Kd.R_alloc | apply Kd.R_drewN | apply Kd.R_drew)); exact HO707.out))) (Kd.R_lt (by (with_reducible repeat (first | apply Kd.R_alloc | apply Kd.R_drewN | apply Kd.R_drew)); exact HO717.out))) (below_size (by repeat (first | (with_reducible first | exact HB.out | apply below_alloc | apply pw_below_drewN | apply below_drew1 | refine below_set ?_ GE702.out | refine below_set ?_ GE721.out) | exact HB.out))))
        have n7_ := Aside0.mk (Kd.R_lower (Kd.R_new' (Kd.R_new' ho1 (Kd.R_lt (by (with_reducible repeat (first | apply Kd.R_alloc | apply Kd.R_drewN | apply Kd.R_drew)); exact HO710.out))) (Kd.R_lt (by (with_reducible repeat (first | apply Kd.R_alloc | apply Kd.R_drewN | apply Kd.R_drew)); exact HO720.out))) (below_size (by repeat (first | (with_reducible first | exact HB.out | apply below_alloc | apply pw_below_drewN | apply below_drew1 | refine below_set ?_ GE702.out | refine below_set ?_ GE721.out) | exact HB.out))))
        have n8_ := Aside0.mk (blk_below (g := gb702) (o := .cells #[.int .i64 a0_0, .slice A0_1 l0_1.length c0_1, .slice A0_2 l0_2.length c0_2] 25 (0, 0)) (by (with_reducible repeat (first | refine blk_drewN ?_ _ | refine blk_drew ?_ | refine blk_alloc ?_ _)); exact BK702.out) hb)
        have n9_ := Aside0.mk (blk_below (g := gb721) (o := .cells #[.int .i64 t714, .slice Ao31 t715.length co31, .slice Ao32 t718.length co32] 30 (0, 0)) (by (with_reducible repeat (first | refine blk_drewN ?_ _ | refine blk_drew ?_ | refine blk_alloc ?_ _)); exact BK721.out) hb)
        have n10_ := Aside0.mk (below_step (by repeat (first | (with_reducible first | exact HB.out | apply below_alloc | apply pw_below_drewN | apply below_drew1 | refine below_set ?_ GE702.out | refine below_set ?_ GE721.out) | exact HB.out)) hb)
        clear HO707
        clear HO710
        clear HO713
        clear HO717
        clear HO720
        clear HO724
        clear BK702
        clear BK721
        clear HB
        have HO707 := n0_
        have HO710 := n1_
        have HO713 := n2_
        have HO717 := n3_
        have HO720 := n4_
        have HO724 := n5_
        have HO729 := n6_
        have HO732 := n7_
        have BK702 := n8_
        have BK721 := n9_
        have HB := n10_
        clear n0_ n1_ n2_ n3_ n4_ n5_ n6_ n7_ n8_ n9_ n10_
        (try clear hb)
        (try clear hb2)
        (try clear hk)
        (try clear hi)
        (try clear ho0)
        (try clear ho1)
        obtain ⟨Ao39, co39, eo39⟩ := Kd.R_slice HO729.out
        (first | subst eo39 | (injection eo39 with f1_ f2_ f3_; have f4_ := f1_.symm; have f5_ := f3_.symm; clear f1_ f2_ f3_; subst f4_; subst f5_))
        obtain ⟨Ao40, co40, eo40⟩ := Kd.R_slice HO732.out
        (first | subst eo40 | (injection eo40 with f1_ f2_ f3_; have f4_ := f1_.symm; have f5_ := f3_.symm; clear f1_ f2_ f3_; subst f4_; subst f5_))
        refine hK.out _ _ ⟨(blk_cell BK721.out 0).trans rfl, (blk_cell BK721.out 1).trans rfl, (blk_cell BK721.out 2).trans rfl, (blk_cell BK702.out 0).trans rfl, (blk_cell BK702.out 1).trans rfl, (blk_cell BK702.out 2).trans rfl⟩ (fun hHeld => ?_)
        clear hK K
        refine norm_ (a' := ?_) ?_ ?_
        rotate_left
        · show Act.put _ (some 29) _ = _
          simp only [Act.put, List.setIfInBounds_toArray, List.set_cons_zero, List.set_cons_succ, i64_w, i32_w]
          rfl
        refine one_ (i := 3) (N := some 30) #[true, true, true, true, false] rfl rfl (by kernel_rfl) (by decide) (fun K hK => ?_)
        refine goes_ Try.func19 (by kernel_rfl) rfl #[.agg #[.int .i64 t714, .slice Ao31 t715.length co31, .slice Ao32 t718.length co32], .agg #[.int .i64 t726, .slice Ao39 t727.length co39, .slice Ao40 t730.length co40]] (by rfl) rfl rfl (by (try simp only [List.map_toArray, List.map_cons, List.map_nil]); first | done | rfl | (simp only [List.length_drop, List.length_take]; rfl)) ?_
        with_reducible refine (laws_eqColumn.calls k t714 _ _ t715 _ _ t718 t726 _ _ t727 _ _ t730 true _ ?side1 ?side2 ?side3 ?side4 ?side5 ?side6 ?side7 ?side8 A14.out).mono ?_
        (case side1 => repeat (first | exact (Kd.R_reads' HO717.out).2.2 | (with_reducible refine Kd.C_alloc ?_ _) | (with_reducible refine Kd.C_drewN ?_ _) | (with_reducible refine Kd.C_drew ?_)))
        (case side2 => exact (Kd.R_reads' HO717.out).2.1)
        (case side3 => repeat (first | exact (Kd.R_reads' HO720.out).2.2 | (with_reducible refine Kd.C_alloc ?_ _) | (with_reducible refine Kd.C_drewN ?_ _) | (with_reducible refine Kd.C_drew ?_)))
        (case side4 => exact (Kd.R_reads' HO720.out).2.1)
        (case side5 => repeat (first | exact (Kd.R_reads' HO729.out).2.2 | (with_reducible refine Kd.C_alloc ?_ _) | (with_reducible refine Kd.C_drewN ?_ _) | (with_reducible refine Kd.C_drew ?_)))
        (case side6 => exact (Kd.R_reads' HO729.out).2.1)
        (case side7 => repeat (first | exact (Kd.R_reads' HO732.out).2.2 | (with_reducible refine Kd.C_alloc ?_ _) | (with_reducible refine Kd.C_drewN ?_ _) | (with_reducible refine Kd.C_drew ?_)))
        (case side8 => exact (Kd.R_reads' HO732.out).2.1)
        rintro e w41 ⟨rfl, hb⟩
        refine ⟨_, rfl, ?_⟩
        have n0_ := Aside0.mk (Kd.R_below (by (with_reducible repeat (first | apply Kd.R_alloc | apply Kd.R_drewN | apply Kd.R_drew)); exact HO707.out) hb)
        have n1_ := Aside0.mk (Kd.R_below (by (with_reducible repeat (first | apply Kd.R_alloc | apply Kd.R_drewN | apply Kd.R_drew)); exact HO710.out) hb)
        have n2_ := Aside0.mk (Kd.R_below (by (with_reducible repeat (first | apply Kd.R_alloc | apply Kd.R_drewN | apply Kd.R_drew)); exact HO713.out) hb)
        have n3_ := Aside0.mk (Kd.R_below (by (with_reducible repeat (first | apply Kd.R_alloc | apply Kd.R_drewN | apply Kd.R_drew)); exact HO717.out) hb)
        have n4_ := Aside0.mk (Kd.R_below (by (with_reducible repeat (first | apply Kd.R_alloc | apply Kd.R_drewN | apply Kd.R_drew)); exact HO720.out) hb)
        have n5_ := Aside0.mk (Kd.R_below (by (with_reducible repeat (first | apply Kd.R_alloc | apply Kd.R_drewN | apply Kd.R_drew)); exact HO724.out) hb)
        have n6_ := Aside0.mk (Kd.R_below (by (with_reducible repeat (first | apply Kd.R_alloc | apply Kd.R_drewN | apply Kd.R_drew)); exact HO729.out) hb)
        have n7_ := Aside0.mk (Kd.R_below (by (with_reducible repeat (first | apply Kd.R_alloc | apply Kd.R_drewN | apply Kd.R_drew)); exact HO732.out) hb)
        have n8_ := Aside0.mk (blk_below (g := gb702) (o := .cells #[.int .i64 a0_0, .slice A0_1 l0_1.length c0_1, .slice A0_2 l0_2.length c0_2] 25 (0, 0)) (by (with_reducible repeat (first | refine blk_drewN ?_ _ | refine blk_drew ?_ | refine blk_alloc ?_ _)); exact BK702.out) hb)
        have n9_ := Aside0.mk (blk_below (g := gb721) (o := .cells #[.int .i64 t714, .slice Ao31 t715.length co31, .slice Ao32 t718.length co32] 30 (0, 0)) (by (with_reducible repeat (first | refine blk_drewN ?_ _ | refine blk_drew ?_ | refine blk_alloc ?_ _)); exact BK721.out) hb)
        have n10_ := Aside0.mk (below_step (by repeat (first | (with_reducible first | exact HB.out | apply below_alloc | apply pw_below_drewN | apply below_drew1 | refine below_set ?_ GE702.out | refine below_set ?_ GE721.out) | exact HB.out)) hb)
        clear HO707
        clear HO710
        clear HO713
        clear HO717
        clear HO720
        clear HO724
        clear HO729
        clear HO732
        clear BK702
        clear BK721
        clear HB
        have HO707 := n0_
        have HO710 := n1_
        have HO713 := n2_
        have HO717 := n3_
        have HO720 := n4_
        have HO724 := n5_
        have HO729 := n6_
        have HO732 := n7_
        have BK702 := n8_
        have BK721 := n9_
        have HB := n10_
        clear n0_ n1_ n2_ n3_ n4_ n5_ n6_ n7_ n8_ n9_ n10_
        (try clear hb)
        (try clear hb2)
        (try clear hk)
        (try clear hi)
        refine hK.out _ _ ⟨(blk_cell BK721.out 0).trans rfl, (blk_cell BK721.out 1).trans rfl, (blk_cell BK721.out 2).trans rfl, (blk_cell BK702.out 0).trans rfl, (blk_cell BK702.out 1).trans rfl, (blk_cell BK702.out 2).trans rfl⟩ (fun hHeld => ?_)
        clear hK K
        refine norm_ (a' := ?_) ?_ ?_
        rotate_left
        · show Act.put _ (some 30) _ = _
          simp only [Act.put, List.setIfInBounds_toArray, List.set_cons_zero, List.set_cons_succ, i64_w, i32_w]
          rfl
        refine pure_ (i := 4) (N := some 31) (v := ?_) (a' := ?_) #[true, true, true, true, true] rfl rfl (by kernel_rfl) (fun _ _ _ h => h) (Or.inl ⟨by rfl, ?_⟩) ?_ ?_
        rotate_left
        · intro w'
          go_simp
          with_reducible rfl
        rotate_left
        · simp only [Act.put, List.setIfInBounds_toArray, List.set_cons_zero, List.set_cons_succ, i64_w, i32_w]
          rfl
        refine done_ (by kernel_rfl) ?_
        have hcz42_0 : w41.cell? ⟨gb721, 0, none⟩ = some (.int .i64 t714) := (blk_cell BK721.out 0).trans rfl
        have hcz42_1 : w41.cell? ⟨gb721, 1, none⟩ = some (.slice Ao31 t715.length co31) := (blk_cell BK721.out 1).trans rfl
        have hcz42_2 : w41.cell? ⟨gb721, 2, none⟩ = some (.slice Ao32 t718.length co32) := (blk_cell BK721.out 2).trans rfl
        have hfz42_0 := blk_frozen BK721.out 0
        have hfz42_1 := blk_frozen BK721.out 1
        have hfz42_2 := blk_frozen BK721.out 2
        go_upto_region 14 with (first | ((with_reducible refine gate_callee (f := 25) rfl ?_); refine goesL_ (some 34) rfl rfl Try.func25 (by kernel_rfl) rfl #[.agg #[.int .i64 t714, .slice Ao31 t715.length co31, .slice Ao32 t718.length co32], .int .i64 1] rfl (by (try simp only [List.map_toArray, List.map_cons, List.map_nil]); first | done | rfl | (simp only [List.length_drop, List.length_take]; rfl)) ?_; (with_reducible refine (laws_markColumn.calls k t714 (fun k_ => some k_ = (.slice Ao31 t715.length co31 : Value).ownBlock) (.slice Ao31 t715.length co31) t715 (fun k_ => some k_ = (.slice Ao32 t718.length co32 : Value).ownBlock) (.slice Ao32 t718.length co32) t718 1 t734 t735 t736 w _ ?side1 ?side2 ?side3 A16.out).mono ?_); (case side1 => repeat (first | (with_reducible first | exact HB.out | apply below_alloc | apply pw_below_drewN | apply below_drew1 | refine below_set ?_ GE702.out | refine below_set ?_ GE721.out) | exact HB.out)); (case side2 => exact Kd.R_tight rfl HO717.out); (case side3 => exact Kd.R_tight rfl HO720.out); rintro e w43 ⟨rfl, hy0, hy1, hb, hkp⟩; refine ⟨_, rfl, ?_⟩; have n0_ := Aside0.mk (blk_kept (by (with_reducible repeat (first | refine blk_drewN ?_ _ | refine blk_drew ?_ | refine blk_alloc ?_ _)); exact BK702.out) hkp (fun hs_ => Or.elim hs_ (fun e_ => (fun e_ => (Kd.R_ne HO717.out BK702.out (by decide)) e_) e_) (fun e_ => (fun e_ => (Kd.R_ne HO720.out BK702.out (by decide)) e_) e_))); have n1_ := Aside0.mk (Kd.R_mono (ok' := fun k_ => some k_ ≠ (.slice Ao31 t715.length co31 : Value).ownBlock ∧ some k_ ≠ (.slice Ao39 t727.length co39 : Value).ownBlock) (Kd.R_keptB ((Kd.R_apart' HO707.out (Kd.R_typed HO720.out) (by decide))) hkp (fun k_ hk_ hs_ => Or.elim hs_ (fun e_ => (hk_.1.1.2) e_) (fun e_ => (hk_.2) e_))) (fun k_ hk_ => ⟨hk_.1.1.1.2, hk_.1.1.2⟩)); have n2_ := Aside0.mk (Kd.R_mono (ok' := fun k_ => some k_ ≠ (.slice Ao32 t718.length co32 : Value).ownBlock ∧ some k_ ≠ (.slice Ao40 t730.length co40 : Value).ownBlock) (Kd.R_keptB ((Kd.R_apart' HO710.out (Kd.R_typed HO717.out) (by decide))) hkp (fun k_ hk_ hs_ => Or.elim hs_ (fun e_ => (hk_.2) e_) (fun e_ => (hk_.1.1.2) e_))) (fun k_ hk_ => ⟨hk_.1.1.1.2, hk_.1.1.2⟩)); have n3_ := Aside0.mk (Kd.R_mono (ok' := fun k_ => some k_ ≠ (.slice Ao34 t722.length co34 : Value).ownBlock) (Kd.R_keptB ((Kd.R_apart' (Kd.R_apart' HO713.out (Kd.R_typed HO717.out) (by decide)) (Kd.R_typed HO720.out) (by decide))) hkp (fun k_ hk_ hs_ => Or.elim hs_ (fun e_ => (hk_.1.2) e_) (fun e_ => (hk_.2) e_))) (fun k_ hk_ => hk_.1.1.1.2)); have n4_ := Aside0.mk (Kd.R_reok rfl hy0 (fun k_ e_ => HO717.out.1 k_ e_)); have n5_ := Aside0.mk (Kd.R_reok rfl hy1 (fun k_ e_ => HO720.out.1 k_ e_)); have n6_ := Aside0.mk (blk_kept (by (with_reducible repeat (first | refine blk_drewN ?_ _ | refine blk_drew ?_ | refine blk_alloc ?_ _)); exact BK721.out) hkp (fun hs_ => Or.elim hs_ (fun e_ => (fun e_ => (Kd.R_ne HO717.out BK721.out (by decide)) e_) e_) (fun e_ => (fun e_ => (Kd.R_ne HO720.out BK721.out (by decide)) e_) e_))); have n7_ := Aside0.mk (Kd.R_mono (ok' := fun k_ => some k_ ≠ (.slice Ao35 t711.length co35 : Value).ownBlock) (Kd.R_keptB ((Kd.R_apart' (Kd.R_apart' HO724.out (Kd.R_typed HO717.out) (by decide)) (Kd.R_typed HO720.out) (by decide))) hkp (fun k_ hk_ hs_ => Or.elim hs_ (fun e_ => (hk_.1.2) e_) (fun e_ => (hk_.2) e_))) (fun k_ hk_ => hk_.1.1.1.2)); have n8_ := Aside0.mk (Kd.R_mono (ok' := fun k_ => some k_ ≠ (.slice Ao23 t705.length co23 : Value).ownBlock ∧ some k_ ≠ (.slice Ao31 t715.length co31 : Value).ownBlock) (Kd.R_keptB ((Kd.R_apart' HO729.out (Kd.R_typed HO720.out) (by decide))) hkp (fun k_ hk_ hs_ => Or.elim hs_ (fun e_ => (hk_.1.2) e_) (fun e_ => (hk_.2) e_))) (fun k_ hk_ => ⟨hk_.1.1.1.2, hk_.1.1.2⟩)); have n9_ := Aside0.mk (Kd.R_mono (ok' := fun k_ => some k_ ≠ (.slice Ao24 t708.length co24 : Value).ownBlock ∧ some k_ ≠ (.slice Ao32 t718.length co32 : Value).ownBlock) (Kd.R_keptB ((Kd.R_apart' HO732.out (Kd.R_typed HO717.out) (by decide))) hkp (fun k_ hk_ hs_ => Or.elim hs_ (fun e_ => (hk_.2) e_) (fun e_ => (hk_.1.2) e_))) (fun k_ hk_ => ⟨hk_.1.1.1.2, hk_.1.1.2⟩)); have n10_ := Aside0.mk (hb); clear BK702; clear HO707; clear HO710; clear HO713; clear HO717; clear HO720; clear BK721; clear HO724; clear HO729; clear HO732; clear HB; have BK702 := n0_; have HO707 := n1_; have HO710 := n2_; have HO713 := n3_; have HO717 := n4_; have HO720 := n5_; have BK721 := n6_; have HO724 := n7_; have HO729 := n8_; have HO732 := n9_; have HB := n10_; clear n0_ n1_ n2_ n3_ n4_ n5_ n6_ n7_ n8_ n9_ n10_; (try clear hb); (try clear hkp); (try clear hy0); (try clear hy1)))
        (try simp only [Act.put, List.setIfInBounds_toArray, List.set_cons_zero, List.set_cons_succ])
        go_cut [42] (fun v42 wc => ∃ (kq : Nat) (x42_16 : Bool), v42 = .bool x42_16 ∧ Aside0 (laws_FnExactGapsOf.j0 kq t711 t722 x42_16 a0_0 l0_1 l0_2 = some r) ∧ Aside0 (kq ≤ k) ∧ Aside0 (Kd.R k54 54 wc w.heap.size (fun k_ => some k_ ≠ ((.slice Ao34 t722.length co34) : Value).ownBlock) (.slice Ao35 t711.length co35) t711) ∧ Aside0 (Kd.R k54 54 wc w.heap.size (fun k_ => some k_ ≠ ((.slice Ao35 t711.length co35) : Value).ownBlock) (.slice Ao34 t722.length co34) t722) ∧ Aside0 (Kd.R (Kd.int .i64) 3 wc w.heap.size (fun _ => True) (.slice Ao31 t715.length co31) t735) ∧ Aside0 (Kd.R k71 71 wc w.heap.size (fun _ => True) (.slice Ao32 t718.length co32) t736) ∧ Aside0 (wc.heap[gb702]? = some (.cells #[.int .i64 a0_0, (.slice A0_1 l0_1.length c0_1), (.slice A0_2 l0_2.length c0_2)] 25 (0, 0))) ∧ Aside0 (wc.heap[gb721]? = some (.cells #[.int .i64 t714, (.slice Ao31 t715.length co31), (.slice Ao32 t718.length co32)] 30 (0, 0))) ∧ Aside0 (Below w.heap.size w wc))
        case first =>
          have H := HC17.out
          clear HC17
          by_cases c44 : t734 < 0
          · rw [if_pos c44] at H
            have c44b0 : decide (t734 < 0) = true := decide_eq_true c44
            clear c44
            (first | rw [c44b0] | (simp only [i64_w, i32_w]; rw [c44b0]) | skip)
            have H' := Aside0.mk H
            clear H
            go_wp2
            go_meet
            case rel => exact ⟨_, (true), (by first | rfl | (simp; done) | (simp [*]; done)), H', ⟨by first | omega | exact Nat.le_refl _⟩, ⟨by (with_reducible repeat (first | apply Kd.R_alloc | apply Kd.R_drewN | apply Kd.R_drew)); exact HO713.out⟩, ⟨by (with_reducible repeat (first | apply Kd.R_alloc | apply Kd.R_drewN | apply Kd.R_drew)); exact HO724.out⟩, ⟨by (with_reducible repeat (first | apply Kd.R_alloc | apply Kd.R_drewN | apply Kd.R_drew)); exact Kd.R_mono HO717.out (fun _ hk => trivial)⟩, ⟨by (with_reducible repeat (first | apply Kd.R_alloc | apply Kd.R_drewN | apply Kd.R_drew)); exact Kd.R_mono HO720.out (fun _ hk => trivial)⟩, ⟨by (with_reducible repeat (first | refine blk_drewN ?_ _ | refine blk_drew ?_ | refine blk_alloc ?_ _)); exact BK702.out⟩, ⟨by (with_reducible repeat (first | refine blk_drewN ?_ _ | refine blk_drew ?_ | refine blk_alloc ?_ _)); exact BK721.out⟩, ⟨by repeat (first | (with_reducible first | exact HB.out | apply below_alloc | apply pw_below_drewN | apply below_drew1 | refine below_set ?_ GE702.out | refine below_set ?_ GE721.out) | exact HB.out)⟩⟩
          · rw [if_neg c44] at H
            have c44b0 : decide (t734 < 0) = false := decide_eq_false c44
            clear c44
            (first | rw [c44b0] | (simp only [i64_w, i32_w]; rw [c44b0]) | skip)
            replace H := Option.bind_eq_some_iff.mp H
            obtain ⟨t737, A450, H⟩ := H
            replace H : (laws_FnExactGapsOf.j0 k t711 t722 (!t737) a0_0 l0_1 l0_2) = some r := H
            have A45 := Aside0.mk A450
            clear A450
            have H' := Aside0.mk H
            clear H
            go_wp2_with (first | (go_at_call 43; (with_reducible refine (laws_eqGapS.calls k _ _ t722 _ _ t711 t737 _ ?side1 ?side2 ?side3 ?side4 A45.out).mono ?_); (case side1 => repeat (first | exact (Kd.R_reads' HO724.out).2.2 | (with_reducible refine Kd.C_alloc ?_ _) | (with_reducible refine Kd.C_drewN ?_ _) | (with_reducible refine Kd.C_drew ?_))); (case side2 => exact (Kd.R_reads' HO724.out).2.1); (case side3 => repeat (first | exact (Kd.R_reads' HO713.out).2.2 | (with_reducible refine Kd.C_alloc ?_ _) | (with_reducible refine Kd.C_drewN ?_ _) | (with_reducible refine Kd.C_drew ?_))); (case side4 => exact (Kd.R_reads' HO713.out).2.1); rintro e w46 ⟨rfl, hb⟩; have n0_ := Aside0.mk (Kd.R_below (by (with_reducible repeat (first | apply Kd.R_alloc | apply Kd.R_drewN | apply Kd.R_drew)); exact HO707.out) hb); have n1_ := Aside0.mk (Kd.R_below (by (with_reducible repeat (first | apply Kd.R_alloc | apply Kd.R_drewN | apply Kd.R_drew)); exact HO710.out) hb); have n2_ := Aside0.mk (Kd.R_below (by (with_reducible repeat (first | apply Kd.R_alloc | apply Kd.R_drewN | apply Kd.R_drew)); exact HO713.out) hb); have n3_ := Aside0.mk (Kd.R_below (by (with_reducible repeat (first | apply Kd.R_alloc | apply Kd.R_drewN | apply Kd.R_drew)); exact HO717.out) hb); have n4_ := Aside0.mk (Kd.R_below (by (with_reducible repeat (first | apply Kd.R_alloc | apply Kd.R_drewN | apply Kd.R_drew)); exact HO720.out) hb); have n5_ := Aside0.mk (Kd.R_below (by (with_reducible repeat (first | apply Kd.R_alloc | apply Kd.R_drewN | apply Kd.R_drew)); exact HO724.out) hb); have n6_ := Aside0.mk (Kd.R_below (by (with_reducible repeat (first | apply Kd.R_alloc | apply Kd.R_drewN | apply Kd.R_drew)); exact HO729.out) hb); have n7_ := Aside0.mk (Kd.R_below (by (with_reducible repeat (first | apply Kd.R_alloc | apply Kd.R_drewN | apply Kd.R_drew)); exact HO732.out) hb); have n8_ := Aside0.mk (blk_below (g := gb702) (o := .cells #[.int .i64 a0_0, .slice A0_1 l0_1.length c0_1, .slice A0_2 l0_2.length c0_2] 25 (0, 0)) (by (with_reducible repeat (first | refine blk_drewN ?_ _ | refine blk_drew ?_ | refine blk_alloc ?_ _)); exact BK702.out) hb); have n9_ := Aside0.mk (blk_below (g := gb721) (o := .cells #[.int .i64 t714, .slice Ao31 t715.length co31, .slice Ao32 t718.length co32] 30 (0, 0)) (by (with_reducible repeat (first | refine blk_drewN ?_ _ | refine blk_drew ?_ | refine blk_alloc ?_ _)); exact BK721.out) hb); have n10_ := Aside0.mk (below_step (by repeat (first | (with_reducible first | exact HB.out | apply below_alloc | apply pw_below_drewN | apply below_drew1 | refine below_set ?_ GE702.out | refine below_set ?_ GE721.out) | exact HB.out)) hb); clear HO707; clear HO710; clear HO713; clear HO717; clear HO720; clear HO724; clear HO729; clear HO732; clear BK702; clear BK721; clear HB; have HO707 := n0_; have HO710 := n1_; have HO713 := n2_; have HO717 := n3_; have HO720 := n4_; have HO724 := n5_; have HO729 := n6_; have HO732 := n7_; have BK702 := n8_; have BK721 := n9_; have HB := n10_; clear n0_ n1_ n2_ n3_ n4_ n5_ n6_ n7_ n8_ n9_ n10_; (try clear hb); (try clear hb2); (try clear hk); (try clear hi)))
            go_meet
            case rel => exact ⟨_, (!t737), (by first | rfl | (simp; done) | (simp [*]; done)), H', ⟨by first | omega | exact Nat.le_refl _⟩, ⟨by (with_reducible repeat (first | apply Kd.R_alloc | apply Kd.R_drewN | apply Kd.R_drew)); exact HO713.out⟩, ⟨by (with_reducible repeat (first | apply Kd.R_alloc | apply Kd.R_drewN | apply Kd.R_drew)); exact HO724.out⟩, ⟨by (with_reducible repeat (first | apply Kd.R_alloc | apply Kd.R_drewN | apply Kd.R_drew)); exact Kd.R_mono HO717.out (fun _ hk => trivial)⟩, ⟨by (with_reducible repeat (first | apply Kd.R_alloc | apply Kd.R_drewN | apply Kd.R_drew)); exact Kd.R_mono HO720.out (fun _ hk => trivial)⟩, ⟨by (with_reducible repeat (first | refine blk_drewN ?_ _ | refine blk_drew ?_ | refine blk_alloc ?_ _)); exact BK702.out⟩, ⟨by (with_reducible repeat (first | refine blk_drewN ?_ _ | refine blk_drew ?_ | refine blk_alloc ?_ _)); exact BK721.out⟩, ⟨by repeat (first | (with_reducible first | exact HB.out | apply below_alloc | apply pw_below_drewN | apply below_drew1 | refine below_set ?_ GE702.out | refine below_set ?_ GE721.out) | exact HB.out)⟩⟩
        case rest =>
          clear HC17
          try clear c1
          try clear c2
          try clear p2
          try clear c3
          try clear c3b0
          try clear c4
          try clear c10
          try clear c12
          try clear c15
          try clear c17
          try clear c19
          try clear c25
          try clear c29
          try clear c41
          try clear c42
          try clear c43
          try clear c44
          try clear c44b0
          try clear hcz19_0
          try clear hcz19_1
          try clear hcz19_2
          try clear hcz21_0
          try clear hcz21_1
          try clear hcz21_2
          try clear hcz26_0
          try clear hcz26_1
          try clear hcz26_2
          try clear hcz30_0
          try clear hcz30_1
          try clear hcz30_2
          try clear hcz42_0
          try clear hcz42_1
          try clear hcz42_2
          try clear hcz5_0
          try clear hcz5_1
          try clear hcz5_2
          try clear hfz19_0
          try clear hfz19_1
          try clear hfz19_2
          try clear hfz21_0
          try clear hfz21_1
          try clear hfz21_2
          try clear hfz26_0
          try clear hfz26_1
          try clear hfz26_2
          try clear hfz30_0
          try clear hfz30_1
          try clear hfz30_2
          try clear hfz42_0
          try clear hfz42_1
          try clear hfz42_2
          try clear hfz5_0
          try clear hfz5_1
          try clear hfz5_2
          obtain ⟨kq, x42_16, rfl, HA, HJ16, HO_4, HO_6, HO_722001, HO_722002, BK702, BK721, HB⟩ := hcut
          have hl722001_16 := (Kd.R_reads' HO_722001.out).1
          rw [hl722001_16] at HO_722001
          (try simp only [hl722001_16])
          (try simp only [hl722001_16] at BK702)
          (try simp only [hl722001_16] at BK721)
          (try simp only [hl722001_16] at HO_4)
          (try simp only [hl722001_16] at HO_6)
          (try simp only [hl722001_16] at HO_722002)
          have hl722002_16 := (Kd.R_reads' HO_722002.out).1
          rw [hl722002_16] at HO_722002
          (try simp only [hl722002_16])
          (try simp only [hl722002_16] at BK702)
          (try simp only [hl722002_16] at BK721)
          (try simp only [hl722002_16] at HO_4)
          (try simp only [hl722002_16] at HO_6)
          (try simp only [hl722002_16] at HO_722001)
          cases kq with
          | zero => exact absurd HA.out (by simp [laws_FnExactGapsOf.j0])
          | succ kj16 =>
            have H := HA.out
            clear HA
            simp only [laws_FnExactGapsOf.j0] at H
            by_cases c47 : x42_16 = true
            · subst c47
              have H1 : (some false) = some r := by rw [if_pos rfl] at H; exact H
              clear H
              have H := H1
              clear H1
              exact absurd (Option.some.inj H) (by rw [hr_.out]; decide)
            · replace c47 := Bool.eq_false_iff.mpr c47
              subst c47
              have H1 : ((laws_markGapS.f kj16 t722 1).bind fun bt738 => ((laws_heldGapS.f kj16 bt738.2 1).bind fun t740 => (if t740 < 0 then (some false) else (if t740 = bt738.1 then ((laws_toColumn.f kj16 a0_0 l0_1 l0_2).bind fun bt741 => ((impl_GapsOf.f kj16 bt741.1 bt741.2.1 bt741.2.2).bind fun t748 => ((laws_eqGapS.f kj16 t748 t711).bind fun t751 => (if t751 = true then ((laws_heldGapS.f kj16 bt738.2 1).bind fun t752 => (if t752 < 0 then (some false) else (if t752 = bt738.1 then (some true) else (some false)))) else (some false))))) else (some false))))) = some r := by rw [if_neg (show ¬ (false = true) by decide)] at H; exact H
              clear H
              have H := H1
              clear H1
              replace H := Option.bind_eq_some_iff.mp H
              obtain ⟨⟨t738, t739⟩, A480, H⟩ := H
              replace H : ((laws_heldGapS.f kj16 t739 1).bind fun t740 => (if t740 < 0 then (some false) else (if t740 = t738 then ((laws_toColumn.f kj16 a0_0 l0_1 l0_2).bind fun bt741 => ((impl_GapsOf.f kj16 bt741.1 bt741.2.1 bt741.2.2).bind fun t748 => ((laws_eqGapS.f kj16 t748 t711).bind fun t751 => (if t751 = true then ((laws_heldGapS.f kj16 t739 1).bind fun t752 => (if t752 < 0 then (some false) else (if t752 = t738 then (some true) else (some false)))) else (some false))))) else (some false)))) = some r := H
              have A48 := Aside0.mk A480
              clear A480
              replace H := Option.bind_eq_some_iff.mp H
              obtain ⟨t740, A490, H⟩ := H
              replace H : (if t740 < 0 then (some false) else (if t740 = t738 then ((laws_toColumn.f kj16 a0_0 l0_1 l0_2).bind fun bt741 => ((impl_GapsOf.f kj16 bt741.1 bt741.2.1 bt741.2.2).bind fun t748 => ((laws_eqGapS.f kj16 t748 t711).bind fun t751 => (if t751 = true then ((laws_heldGapS.f kj16 t739 1).bind fun t752 => (if t752 < 0 then (some false) else (if t752 = t738 then (some true) else (some false)))) else (some false))))) else (some false))) = some r := H
              have A49 := Aside0.mk A490
              clear A490
              by_cases c50 : t740 < 0
              · rw [if_pos c50] at H
                have c50b0 : decide (t740 < 0) = true := decide_eq_true c50
                clear c50
                exact absurd (Option.some.inj H) (by rw [hr_.out]; decide)
              · rw [if_neg c50] at H
                have c50b0 : decide (t740 < 0) = false := decide_eq_false c50
                clear c50
                by_cases c51 : t740 = t738
                · rw [if_pos c51] at H
                  have c51b0 : (t740 == t738) = true := beq_iff_eq.mpr c51
                  have c51b1 : (t740 != t738) = false := bne_eq_false_iff_eq.mpr c51
                  clear c51
                  replace H := Option.bind_eq_some_iff.mp H
                  obtain ⟨⟨t741, t742, t745⟩, A520, H⟩ := H
                  replace H : ((impl_GapsOf.f kj16 t741 t742 t745).bind fun t748 => ((laws_eqGapS.f kj16 t748 t711).bind fun t751 => (if t751 = true then ((laws_heldGapS.f kj16 t739 1).bind fun t752 => (if t752 < 0 then (some false) else (if t752 = t738 then (some true) else (some false)))) else (some false)))) = some r := H
                  have A52 := Aside0.mk A520
                  clear A520
                  replace H := Option.bind_eq_some_iff.mp H
                  obtain ⟨t748, A530, H⟩ := H
                  replace H : ((laws_eqGapS.f kj16 t748 t711).bind fun t751 => (if t751 = true then ((laws_heldGapS.f kj16 t739 1).bind fun t752 => (if t752 < 0 then (some false) else (if t752 = t738 then (some true) else (some false)))) else (some false))) = some r := H
                  have A53 := Aside0.mk A530
                  clear A530
                  replace H := Option.bind_eq_some_iff.mp H
                  obtain ⟨t751, A540, H⟩ := H
                  replace H : (if t751 = true then ((laws_heldGapS.f kj16 t739 1).bind fun t752 => (if t752 < 0 then (some false) else (if t752 = t738 then (some true) else (some false)))) else (some false)) = some r := H
                  have A54 := Aside0.mk A540
                  clear A540
                  by_cases c55 : t751 = true
                  · subst c55
                    have H1 : ((laws_heldGapS.f kj16 t739 1).bind fun t752 => (if t752 < 0 then (some false) else (if t752 = t738 then (some true) else (some false)))) = some r := by rw [if_pos rfl] at H; exact H
                    clear H
                    have H := H1
                    clear H1
                    replace H := Option.bind_eq_some_iff.mp H
                    obtain ⟨t752, A560, H⟩ := H
                    replace H : (if t752 < 0 then (some false) else (if t752 = t738 then (some true) else (some false))) = some r := H
                    have A56 := Aside0.mk A560
                    clear A560
                    by_cases c57 : t752 < 0
                    · rw [if_pos c57] at H
                      have c57b0 : decide (t752 < 0) = true := decide_eq_true c57
                      clear c57
                      exact absurd (Option.some.inj H) (by rw [hr_.out]; decide)
                    · rw [if_neg c57] at H
                      have c57b0 : decide (t752 < 0) = false := decide_eq_false c57
                      clear c57
                      by_cases c58 : t752 = t738
                      · rw [if_pos c58] at H
                        have c58b0 : (t752 == t738) = true := beq_iff_eq.mpr c58
                        have c58b1 : (t752 != t738) = false := bne_eq_false_iff_eq.mpr c58
                        clear c58
                        obtain rfl := Option.some.inj H
                        go_wp2_with (first | ((with_reducible refine gate_callee (f := 44) rfl ?_); refine goesL_ (some 45) rfl rfl Try.func44 (by kernel_rfl) rfl #[.slice Ao34 t722.length co34, .int .i64 1] rfl (by (try simp only [List.map_toArray, List.map_cons, List.map_nil]); first | done | rfl | (simp only [List.length_drop, List.length_take]; rfl)) ?_; (with_reducible refine (laws_markGapS.calls kj16 (fun k_ => some k_ = (.slice Ao34 t722.length co34 : Value).ownBlock) (.slice Ao34 t722.length co34) t722 1 t738 t739 w _ ?side1 ?side2 A48.out).mono ?_); (case side1 => repeat (first | (with_reducible first | exact HB.out | apply below_alloc | apply pw_below_drewN | apply below_drew1 | refine below_set ?_ GE702.out | refine below_set ?_ GE721.out) | exact HB.out)); (case side2 => exact Kd.R_tight rfl HO_6.out); rintro e w59 ⟨rfl, hy0, hb, hkp⟩; refine ⟨_, rfl, ?_⟩; have n0_ := Aside0.mk (Kd.R_mono (ok' := fun k_ => some k_ ≠ (.slice Ao34 t722.length co34 : Value).ownBlock) (Kd.R_keptB (HO_4.out) hkp (fun k_ hk_ hs_ => (hk_) hs_)) (fun k_ hk_ => hk_.1)); have n1_ := Aside0.mk (Kd.R_reok rfl hy0 (fun k_ e_ => HO_6.out.1 k_ e_)); have n2_ := Aside0.mk (Kd.R_mono (ok' := fun k_ => True) (Kd.R_keptB ((Kd.R_apart' HO_722001.out (Kd.R_typed HO_6.out) (by decide))) hkp (fun k_ hk_ hs_ => (hk_.2) hs_)) (fun k_ hk_ => trivial)); have n3_ := Aside0.mk (Kd.R_mono (ok' := fun k_ => True) (Kd.R_keptB ((Kd.R_apart' HO_722002.out (Kd.R_typed HO_6.out) (by decide))) hkp (fun k_ hk_ hs_ => (hk_.2) hs_)) (fun k_ hk_ => trivial)); have n4_ := Aside0.mk (blk_kept (by (with_reducible repeat (first | refine blk_drewN ?_ _ | refine blk_drew ?_ | refine blk_alloc ?_ _)); exact BK702.out) hkp (fun hs_ => (fun e_ => (Kd.R_ne HO_6.out BK702.out (by decide)) e_) hs_)); have n5_ := Aside0.mk (blk_kept (by (with_reducible repeat (first | refine blk_drewN ?_ _ | refine blk_drew ?_ | refine blk_alloc ?_ _)); exact BK721.out) hkp (fun hs_ => (fun e_ => (Kd.R_ne HO_6.out BK721.out (by decide)) e_) hs_)); have n6_ := Aside0.mk (hb); clear HO_4; clear HO_6; clear HO_722001; clear HO_722002; clear BK702; clear BK721; clear HB; have HO_4 := n0_; have HO_6 := n1_; have HO_722001 := n2_; have HO_722002 := n3_; have BK702 := n4_; have BK721 := n5_; have HB := n6_; clear n0_ n1_ n2_ n3_ n4_ n5_ n6_; (try clear hb); (try clear hkp); (try clear hy0)) | ((with_reducible refine gate_callee (f := 45) rfl ?_); refine goesL_ (some 48) rfl rfl Try.func45 (by kernel_rfl) rfl #[.slice Ao34 t739.length co34, .int .i64 1] rfl (by (try simp only [List.map_toArray, List.map_cons, List.map_nil]); first | done | (rw [show t739.length = t722.length from (Kd.R_reads' HO_6.out).1.symm] <;> rfl) | rfl | (simp only [List.length_drop, List.length_take]; rfl)) ?_; (with_reducible refine (laws_heldGapS.calls kj16 _ _ t739 1 t740 _ ?side1 ?side2 A49.out).mono ?_); (case side1 => repeat (first | exact (Kd.R_reads' HO_6.out).2.2 | (with_reducible refine Kd.C_alloc ?_ _) | (with_reducible refine Kd.C_drewN ?_ _) | (with_reducible refine Kd.C_drew ?_))); (case side2 => rw [show t739.length = t722.length from (Kd.R_reads' HO_6.out).1.symm]; exact (Kd.R_reads' HO_6.out).2.1); rintro e w' ⟨rfl, ⟨nd, rfl⟩⟩; refine ⟨_, rfl, ?_⟩; have hnb60 := NB702_721.out; have hnc60 := NB721_702.out; have hcz61_0 : w59.cell? ⟨gb702, 0, none⟩ = some (.int .i64 a0_0) := (blk_cell BK702.out 0).trans rfl; have hcz61_1 : w59.cell? ⟨gb702, 1, none⟩ = some (.slice A0_1 l0_1.length c0_1) := (blk_cell BK702.out 1).trans rfl; have hcz61_2 : w59.cell? ⟨gb702, 2, none⟩ = some (.slice A0_2 l0_2.length c0_2) := (blk_cell BK702.out 2).trans rfl; have hfz61_0 := blk_frozen BK702.out 0; have hfz61_1 := blk_frozen BK702.out 1; have hfz61_2 := blk_frozen BK702.out 2) | ((with_reducible refine gate_callee (f := 17) rfl ?_); refine goesL_ (some 55) rfl rfl Try.func17 (by kernel_rfl) rfl #[.agg #[.int .i64 a0_0, .slice A0_1 l0_1.length c0_1, .slice A0_2 l0_2.length c0_2]] rfl (by (try simp only [List.map_toArray, List.map_cons, List.map_nil]); first | done | rfl | (simp only [List.length_drop, List.length_take]; rfl)) ?_; (with_reducible refine (laws_toColumn.calls kj16 a0_0 _ _ l0_1 _ _ l0_2 t741 t742 t745 _ ?side1 ?side2 ?side3 ?side4 A52.out).mono ?_); (case side1 => repeat (first | exact (Kd.C_below HR0_1.out (by repeat (first | (with_reducible first | exact HB.out | apply below_alloc | apply pw_below_drewN | apply below_drew1 | refine below_set ?_ GE702.out | refine below_set ?_ GE721.out) | exact HB.out))) | (with_reducible refine Kd.C_alloc ?_ _) | (with_reducible refine Kd.C_drewN ?_ _) | (with_reducible refine Kd.C_drew ?_))); (case side2 => exact HC0_1.out); (case side3 => repeat (first | exact (Kd.C_below HR0_2.out (by repeat (first | (with_reducible first | exact HB.out | apply below_alloc | apply pw_below_drewN | apply below_drew1 | refine below_set ?_ GE702.out | refine below_set ?_ GE721.out) | exact HB.out))) | (with_reducible refine Kd.C_alloc ?_ _) | (with_reducible refine Kd.C_drewN ?_ _) | (with_reducible refine Kd.C_drew ?_))); (case side4 => exact HC0_2.out); rintro e w62 ⟨v743, v746, rfl, ho0, ho1, hb⟩; refine ⟨_, rfl, ?_⟩; have n0_ := Aside0.mk (Kd.R_below (by (with_reducible repeat (first | apply Kd.R_alloc | apply Kd.R_drewN | apply Kd.R_drew)); exact HO_4.out) hb); have n1_ := Aside0.mk (Kd.R_below (by (with_reducible repeat (first | apply Kd.R_alloc | apply Kd.R_drewN | apply Kd.R_drew)); exact HO_6.out) hb); have n2_ := Aside0.mk (Kd.R_elder' (by (with_reducible repeat (first | apply Kd.R_alloc | apply Kd.R_drewN | apply Kd.R_drew)); exact HO_722001.out) (Kd.R_base ho0) hb); have n3_ := Aside0.mk (Kd.R_elder' (by (with_reducible repeat (first | apply Kd.R_alloc | apply Kd.R_drewN | apply Kd.R_drew)); exact HO_722002.out) (Kd.R_base ho1) hb); have n4_ := Aside0.mk (Kd.R_lower (Kd.R_new' ho0 (Kd.R_lt (by (with_reducible repeat (first | apply Kd.R_alloc | apply Kd.R_drewN | apply Kd.R_drew)); exact HO_722001.out))) (below_size (by repeat (first | (with_reducible first | exact HB.out | apply below_alloc | apply pw_below_drewN | apply below_drew1 | refine below_set ?_ GE702.out | refine below_set ?_ GE721.out) | exact HB.out)))); have n5_ := Aside0.mk (Kd.R_lower (Kd.R_new' ho1 (Kd.R_lt (by (with_reducible repeat (first | apply Kd.R_alloc | apply Kd.R_drewN | apply Kd.R_drew)); exact HO_722002.out))) (below_size (by repeat (first | (with_reducible first | exact HB.out | apply below_alloc | apply pw_below_drewN | apply below_drew1 | refine below_set ?_ GE702.out | refine below_set ?_ GE721.out) | exact HB.out)))); have n6_ := Aside0.mk (blk_below (g := gb702) (o := .cells #[.int .i64 a0_0, .slice A0_1 l0_1.length c0_1, .slice A0_2 l0_2.length c0_2] 25 (0, 0)) (by (with_reducible repeat (first | refine blk_drewN ?_ _ | refine blk_drew ?_ | refine blk_alloc ?_ _)); exact BK702.out) hb); have n7_ := Aside0.mk (blk_below (g := gb721) (o := .cells #[.int .i64 t714, .slice Ao31 t735.length co31, .slice Ao32 t736.length co32] 30 (0, 0)) (by (with_reducible repeat (first | refine blk_drewN ?_ _ | refine blk_drew ?_ | refine blk_alloc ?_ _)); exact BK721.out) hb); have n8_ := Aside0.mk (below_step (by repeat (first | (with_reducible first | exact HB.out | apply below_alloc | apply pw_below_drewN | apply below_drew1 | refine below_set ?_ GE702.out | refine below_set ?_ GE721.out) | exact HB.out)) hb); clear HO_4; clear HO_6; clear HO_722001; clear HO_722002; clear BK702; clear BK721; clear HB; have HO_4 := n0_; have HO_6 := n1_; have HO_722001 := n2_; have HO_722002 := n3_; have HO744 := n4_; have HO747 := n5_; have BK702 := n6_; have BK721 := n7_; have HB := n8_; clear n0_ n1_ n2_ n3_ n4_ n5_ n6_ n7_ n8_; (try clear hb); (try clear hb2); (try clear hk); (try clear hi); (try clear ho0); (try clear ho1); obtain ⟨Ao63, co63, eo63⟩ := Kd.R_slice HO744.out; subst eo63; obtain ⟨Ao64, co64, eo64⟩ := Kd.R_slice HO747.out; subst eo64) | ((with_reducible refine gate_callee (f := 42) rfl ?_); refine goesL_ (some 56) rfl rfl Try.func42 (by kernel_rfl) rfl #[.agg #[.int .i64 t741, .slice Ao63 t742.length co63, .slice Ao64 t745.length co64]] rfl (by (try simp only [List.map_toArray, List.map_cons, List.map_nil]); first | done | rfl | (simp only [List.length_drop, List.length_take]; rfl)) ?_; (with_reducible refine (impl_GapsOf.calls kj16 t741 _ _ t742 _ _ t745 t748 _ ?side1 ?side2 ?side3 ?side4 A53.out).mono ?_); (case side1 => repeat (first | exact (Kd.R_reads' HO744.out).2.2 | (with_reducible refine Kd.C_alloc ?_ _) | (with_reducible refine Kd.C_drewN ?_ _) | (with_reducible refine Kd.C_drew ?_))); (case side2 => exact (Kd.R_reads' HO744.out).2.1); (case side3 => repeat (first | exact (Kd.R_reads' HO747.out).2.2 | (with_reducible refine Kd.C_alloc ?_ _) | (with_reducible refine Kd.C_drewN ?_ _) | (with_reducible refine Kd.C_drew ?_))); (case side4 => exact (Kd.R_reads' HO747.out).2.1); rintro e w65 ⟨v749, rfl, ho0, hb⟩; refine ⟨_, rfl, ?_⟩; have n0_ := Aside0.mk (Kd.R_elder' (by (with_reducible repeat (first | apply Kd.R_alloc | apply Kd.R_drewN | apply Kd.R_drew)); exact HO_4.out) (Kd.R_base ho0) hb); have n1_ := Aside0.mk (Kd.R_elder' (by (with_reducible repeat (first | apply Kd.R_alloc | apply Kd.R_drewN | apply Kd.R_drew)); exact HO_6.out) (Kd.R_base ho0) hb); have n2_ := Aside0.mk (Kd.R_below (by (with_reducible repeat (first | apply Kd.R_alloc | apply Kd.R_drewN | apply Kd.R_drew)); exact HO_722001.out) hb); have n3_ := Aside0.mk (Kd.R_below (by (with_reducible repeat (first | apply Kd.R_alloc | apply Kd.R_drewN | apply Kd.R_drew)); exact HO_722002.out) hb); have n4_ := Aside0.mk (Kd.R_below (by (with_reducible repeat (first | apply Kd.R_alloc | apply Kd.R_drewN | apply Kd.R_drew)); exact HO744.out) hb); have n5_ := Aside0.mk (Kd.R_below (by (with_reducible repeat (first | apply Kd.R_alloc | apply Kd.R_drewN | apply Kd.R_drew)); exact HO747.out) hb); have n6_ := Aside0.mk (Kd.R_lower (Kd.R_new' (Kd.R_new' ho0 (Kd.R_lt (by (with_reducible repeat (first | apply Kd.R_alloc | apply Kd.R_drewN | apply Kd.R_drew)); exact HO_4.out))) (Kd.R_lt (by (with_reducible repeat (first | apply Kd.R_alloc | apply Kd.R_drewN | apply Kd.R_drew)); exact HO_6.out))) (below_size (by repeat (first | (with_reducible first | exact HB.out | apply below_alloc | apply pw_below_drewN | apply below_drew1 | refine below_set ?_ GE702.out | refine below_set ?_ GE721.out) | exact HB.out)))); have n7_ := Aside0.mk (blk_below (g := gb702) (o := .cells #[.int .i64 a0_0, .slice A0_1 l0_1.length c0_1, .slice A0_2 l0_2.length c0_2] 25 (0, 0)) (by (with_reducible repeat (first | refine blk_drewN ?_ _ | refine blk_drew ?_ | refine blk_alloc ?_ _)); exact BK702.out) hb); have n8_ := Aside0.mk (blk_below (g := gb721) (o := .cells #[.int .i64 t714, .slice Ao31 t735.length co31, .slice Ao32 t736.length co32] 30 (0, 0)) (by (with_reducible repeat (first | refine blk_drewN ?_ _ | refine blk_drew ?_ | refine blk_alloc ?_ _)); exact BK721.out) hb); have n9_ := Aside0.mk (below_step (by repeat (first | (with_reducible first | exact HB.out | apply below_alloc | apply pw_below_drewN | apply below_drew1 | refine below_set ?_ GE702.out | refine below_set ?_ GE721.out) | exact HB.out)) hb); clear HO_4; clear HO_6; clear HO_722001; clear HO_722002; clear HO744; clear HO747; clear BK702; clear BK721; clear HB; have HO_4 := n0_; have HO_6 := n1_; have HO_722001 := n2_; have HO_722002 := n3_; have HO744 := n4_; have HO747 := n5_; have HO750 := n6_; have BK702 := n7_; have BK721 := n8_; have HB := n9_; clear n0_ n1_ n2_ n3_ n4_ n5_ n6_ n7_ n8_ n9_; (try clear hb); (try clear hb2); (try clear hk); (try clear hi); (try clear ho0); obtain ⟨Ao66, co66, eo66⟩ := Kd.R_slice HO750.out; subst eo66) | ((with_reducible refine gate_callee (f := 43) rfl ?_); refine goesL_ (some 59) rfl rfl Try.func43 (by kernel_rfl) rfl #[.slice Ao66 t748.length co66, .slice Ao35 t711.length co35] rfl (by (try simp only [List.map_toArray, List.map_cons, List.map_nil]); first | done | rfl | (simp only [List.length_drop, List.length_take]; rfl)) ?_; (with_reducible refine (laws_eqGapS.calls kj16 _ _ t748 _ _ t711 true _ ?side1 ?side2 ?side3 ?side4 A54.out).mono ?_); (case side1 => repeat (first | exact (Kd.R_reads' HO750.out).2.2 | (with_reducible refine Kd.C_alloc ?_ _) | (with_reducible refine Kd.C_drewN ?_ _) | (with_reducible refine Kd.C_drew ?_))); (case side2 => exact (Kd.R_reads' HO750.out).2.1); (case side3 => repeat (first | exact (Kd.R_reads' HO_4.out).2.2 | (with_reducible refine Kd.C_alloc ?_ _) | (with_reducible refine Kd.C_drewN ?_ _) | (with_reducible refine Kd.C_drew ?_))); (case side4 => exact (Kd.R_reads' HO_4.out).2.1); rintro e w67 ⟨rfl, hb⟩; refine ⟨_, rfl, ?_⟩; have n0_ := Aside0.mk (Kd.R_below (by (with_reducible repeat (first | apply Kd.R_alloc | apply Kd.R_drewN | apply Kd.R_drew)); exact HO_4.out) hb); have n1_ := Aside0.mk (Kd.R_below (by (with_reducible repeat (first | apply Kd.R_alloc | apply Kd.R_drewN | apply Kd.R_drew)); exact HO_6.out) hb); have n2_ := Aside0.mk (Kd.R_below (by (with_reducible repeat (first | apply Kd.R_alloc | apply Kd.R_drewN | apply Kd.R_drew)); exact HO_722001.out) hb); have n3_ := Aside0.mk (Kd.R_below (by (with_reducible repeat (first | apply Kd.R_alloc | apply Kd.R_drewN | apply Kd.R_drew)); exact HO_722002.out) hb); have n4_ := Aside0.mk (Kd.R_below (by (with_reducible repeat (first | apply Kd.R_alloc | apply Kd.R_drewN | apply Kd.R_drew)); exact HO744.out) hb); have n5_ := Aside0.mk (Kd.R_below (by (with_reducible repeat (first | apply Kd.R_alloc | apply Kd.R_drewN | apply Kd.R_drew)); exact HO747.out) hb); have n6_ := Aside0.mk (Kd.R_below (by (with_reducible repeat (first | apply Kd.R_alloc | apply Kd.R_drewN | apply Kd.R_drew)); exact HO750.out) hb); have n7_ := Aside0.mk (blk_below (g := gb702) (o := .cells #[.int .i64 a0_0, .slice A0_1 l0_1.length c0_1, .slice A0_2 l0_2.length c0_2] 25 (0, 0)) (by (with_reducible repeat (first | refine blk_drewN ?_ _ | refine blk_drew ?_ | refine blk_alloc ?_ _)); exact BK702.out) hb); have n8_ := Aside0.mk (blk_below (g := gb721) (o := .cells #[.int .i64 t714, .slice Ao31 t735.length co31, .slice Ao32 t736.length co32] 30 (0, 0)) (by (with_reducible repeat (first | refine blk_drewN ?_ _ | refine blk_drew ?_ | refine blk_alloc ?_ _)); exact BK721.out) hb); have n9_ := Aside0.mk (below_step (by repeat (first | (with_reducible first | exact HB.out | apply below_alloc | apply pw_below_drewN | apply below_drew1 | refine below_set ?_ GE702.out | refine below_set ?_ GE721.out) | exact HB.out)) hb); clear HO_4; clear HO_6; clear HO_722001; clear HO_722002; clear HO744; clear HO747; clear HO750; clear BK702; clear BK721; clear HB; have HO_4 := n0_; have HO_6 := n1_; have HO_722001 := n2_; have HO_722002 := n3_; have HO744 := n4_; have HO747 := n5_; have HO750 := n6_; have BK702 := n7_; have BK721 := n8_; have HB := n9_; clear n0_ n1_ n2_ n3_ n4_ n5_ n6_ n7_ n8_ n9_; (try clear hb); (try clear hb2); (try clear hk); (try clear hi)) | ((with_reducible refine gate_callee (f := 45) rfl ?_); refine goesL_ (some 63) rfl rfl Try.func45 (by kernel_rfl) rfl #[.slice Ao34 t739.length co34, .int .i64 1] rfl (by (try simp only [List.map_toArray, List.map_cons, List.map_nil]); first | done | (rw [show t739.length = t722.length from (Kd.R_reads' HO_6.out).1.symm] <;> rfl) | rfl | (simp only [List.length_drop, List.length_take]; rfl)) ?_; (with_reducible refine (laws_heldGapS.calls kj16 _ _ t739 1 t752 _ ?side1 ?side2 A56.out).mono ?_); (case side1 => repeat (first | exact (Kd.R_reads' HO_6.out).2.2 | (with_reducible refine Kd.C_alloc ?_ _) | (with_reducible refine Kd.C_drewN ?_ _) | (with_reducible refine Kd.C_drew ?_))); (case side2 => rw [show t739.length = t722.length from (Kd.R_reads' HO_6.out).1.symm]; exact (Kd.R_reads' HO_6.out).2.1); rintro e w' ⟨rfl, ⟨nd, rfl⟩⟩; refine ⟨_, rfl, ?_⟩))
                        go_ret
                        exact ⟨by first | rfl | (simp [errW_none, errW_some] <;> rfl) | (simp [*, errW_none, errW_some] <;> rfl), by repeat (first | (with_reducible first | exact HB.out | apply below_alloc | apply pw_below_drewN | apply below_drew1 | refine below_set ?_ GE702.out | refine below_set ?_ GE721.out) | exact HB.out)⟩
                      · rw [if_neg c58] at H
                        have c58b0 : (t752 == t738) = false := beq_eq_false_iff_ne.mpr c58
                        have c58b1 : (t752 != t738) = true := bne_iff_ne.mpr c58
                        exact absurd (Option.some.inj H) (by rw [hr_.out]; decide)
                  · replace c55 := Bool.eq_false_iff.mpr c55
                    subst c55
                    have H1 : (some false) = some r := by rw [if_neg (show ¬ (false = true) by decide)] at H; exact H
                    clear H
                    have H := H1
                    clear H1
                    exact absurd (Option.some.inj H) (by rw [hr_.out]; decide)
                · rw [if_neg c51] at H
                  have c51b0 : (t740 == t738) = false := beq_eq_false_iff_ne.mpr c51
                  have c51b1 : (t740 != t738) = true := bne_iff_ne.mpr c51
                  exact absurd (Option.some.inj H) (by rw [hr_.out]; decide)
      · replace c15 := Bool.eq_false_iff.mpr c15
        subst c15
        have H1 : (some false) = some r := by rw [if_neg (show ¬ (false = true) by decide)] at H; exact H
        clear H
        have H := H1
        clear H1
        exact absurd (Option.some.inj H) (by rw [hr_.out]; decide)
    · replace c12 := Bool.eq_false_iff.mpr c12
      subst c12
      have H1 : (some false) = some r := by rw [if_neg (show ¬ (false = true) by decide)] at H; exact H
      clear H
      have H := H1
      clear H1
      exact absurd (Option.some.inj H) (by rw [hr_.out]; decide)
end Go.Proofs.Ytghfeapncmlihaa.A

namespace Go.Proofs.Ytghfeapncmlihaa.A
open Go.ChangeShapes Go.WideShapes Go.ChangeAt Go.RowKit Go.Proofs.YtghfeapncmlihaaW.PrintWords Go.Proofs.YtghfeapncmlihaaW.PrintLast
set_option linter.unusedVariables false
set_option linter.unusedSimpArgs false
def Opn {α : Type} (P : Program) (t : TypeId) (d : Kd α) (ok : α → Prop) : Prop :=
  ∀ {H : Type} {enc : TypeId × Value → H} (w : World) (fuel : Nat) (cs : List Value) (x : DataW H × List MemPlace),
    DataW.trod enc P w 0 (fun _ => true) true fuel t cs = some x → ∃ a, d.K w a cs ∧ ok a
theorem opn_int {P : Program} {t : TypeId} {k : IntKind} (ht : P.underlying t = some (.int k)) : Opn P t (Kd.int k) (fun a => (Lit.int k a).wf = true) := by
  intro H enc w fuel cs x h
  obtain ⟨n, rfl, _, hw⟩ := DataW.trod_int ht h
  exact ⟨n, rfl, hw⟩
theorem opn_bool {P : Program} {t : TypeId} (ht : P.underlying t = some .bool) : Opn P t Kd.bool (fun _ => True) := by
  intro H enc w fuel cs x h
  obtain ⟨b, rfl, _⟩ := DataW.trod_bool ht h
  exact ⟨b, rfl, trivial⟩
theorem add_add_ (a : Addr) (i j : Nat) : (a.add i).add j = a.add (i + j) := by
  unfold Addr.add
  by_cases hi : i = 0
  · subst hi; simp
  · by_cases hj : j = 0
    · subst hj; simp
    · rw [if_neg hi, if_neg hj, if_neg (by omega)]
      simp; omega
theorem cells_at {w : World} {base : Nat} {a : Addr} {n : Nat} {cs : List Value} (h : w.cells? base a n = some cs) : cs.length = n ∧ ∀ i u, cs[i]? = some u → w.cell? (a.add i) = some u := by
  unfold World.cells? at h
  split at h
  · have l := mapM_some_length h
    simp only [List.length_range] at l
    refine ⟨l, fun i u hu => ?_⟩
    have hi := (List.getElem?_eq_some_iff.1 hu).1
    have := mapM_some_get h i i (by simp [show i < n by omega])
    rw [this]; exact hu
  · cases h
theorem choose_list {α : Type} {Q : Nat → α → Prop} (m : Nat) (h : ∀ i, i < m → ∃ v, Q i v) : ∃ l : List α, l.length = m ∧ ∀ i v, l[i]? = some v → Q i v := by
  induction m with
  | zero => exact ⟨[], rfl, fun i v hv => by simp at hv⟩
  | succ m ih =>
    obtain ⟨l, hl, hq⟩ := ih (fun i hi => h i (by omega))
    obtain ⟨v, hv⟩ := h m (by omega)
    refine ⟨l ++ [v], by simp [hl], fun i u hu => ?_⟩
    rcases Nat.lt_trichotomy i m with hi | hi | hi
    · rw [List.getElem?_append_left (by omega)] at hu
      exact hq i u hu
    · subst hi
      rw [List.getElem?_append_right (by omega), hl, Nat.sub_self] at hu
      have : v = u := by simpa using hu
      exact this ▸ hv
    · rw [List.getElem?_eq_none (by simp; omega)] at hu
      cases hu
theorem opn_slice {α : Type} {P : Program} {t e : TypeId} {d : Kd α} {ok : α → Prop} (ht : P.underlying t = some (.slice e)) (hs : P.cellsOf e = d.sz) (ho : Opn P e d ok) :
    Opn P t (Kd.slice e d) (fun l => l.length ≤ maxLen ∧ ∀ x ∈ l, ok x) := by
  intro H enc w fuel cs x h
  rcases DataW.trod_slice ht h with ⟨rfl, _⟩ | ⟨a, len, cap, elems, rest, n, _, rfl, _, _, hl, hm, hlen, hel, _, _⟩
  · exact ⟨[], ⟨none, 0, rfl, Nat.le_refl _, rfl, Nat.zero_le _, fun h => absurd h (by simp)⟩, by simp, by simp⟩
  · have each : ∀ i, i < len → ∃ v, ok v ∧ ∃ c, c.length = d.sz ∧ d.K w v c ∧ ∀ j u, c[j]? = some u → w.cell? (a.add (i * d.sz + j)) = some u := by
      intro i hi
      have h1 := hel i hi
      rw [List.getElem?_eq_getElem (by omega)] at h1
      obtain ⟨c, hc, hr⟩ := Option.bind_eq_some_iff.1 h1
      obtain ⟨v, hk, hv⟩ := ho w n c _ hr
      obtain ⟨_, hcell⟩ := cells_at hc
      refine ⟨v, hv, c, d.K_len hk, hk, fun j u hu => ?_⟩
      have := hcell j u hu
      rw [hs, add_add_] at this
      exact this
    obtain ⟨l, hll, hq⟩ := choose_list len each
    subst hll
    have hm' : l.length ≤ maxLen := Nat.le_trans hl hm
    refine ⟨l, ⟨some a, cap, rfl, hl, rfl, by unfold maxLen at hm'; omega, fun _ => ⟨a, rfl, fun j p hp => ?_⟩⟩, hm', fun v hv => ?_⟩
    · obtain ⟨_, c, h1, h2, h3⟩ := hq j p hp
      exact ⟨c, h1, h2, h3⟩
    · obtain ⟨i, hi, rfl⟩ := List.getElem_of_mem hv
      exact (hq i _ (List.getElem?_eq_getElem hi)).1
theorem opn_top {α : Type} {H : Type} {enc : TypeId × Value → H} {P : Program} {w : World} {t : TypeId} {d : Kd α} {ok : α → Prop} {v : Value} {x : DataW H} {ps : List MemPlace} (ho : Opn P t d ok)
    (h : DataW.Trod enc P w 0 (fun _ => true) true t v x ps) : ∃ a, d.K w a v.cells.toList ∧ ok a := by
  obtain ⟨fuel, hf⟩ := h
  exact ho w fuel _ _ hf
abbrev ok3 (a : Int) : Prop := (Lit.int .i64 a).wf = true
abbrev ok4 (_ : Bool) : Prop := True
abbrev ok22 (l : List Int) : Prop := l.length ≤ maxLen ∧ ∀ x ∈ l, ok3 x
abbrev ok93 (x : S93) : Prop := ok3 x.f0 ∧ ok3 x.f1 ∧ ok3 x.f2 ∧ ok4 x.f3
abbrev ok23 (l : List (S93)) : Prop := l.length ≤ maxLen ∧ ∀ x ∈ l, ok93 x
abbrev ok25 (x : S25) : Prop := ok3 x.f0 ∧ ok22 x.f1 ∧ ok23 x.f2
theorem op3 : Opn Try.prog 3 (Kd.int .i64) ok3 := opn_int Try.underlying3
theorem op4 : Opn Try.prog 4 Kd.bool ok4 := opn_bool Try.underlying4
theorem op22 : Opn Try.prog 22 (Kd.slice 3 (Kd.int .i64)) ok22 := opn_slice Try.underlying22 (by kernel_rfl) op3
set_option maxRecDepth 100000 in
theorem op93 : Opn Try.prog 93 k93 ok93 := by
  intro H enc w fuel cs x h
  obtain ⟨xs, n, _, _, hl, hlen, hf⟩ := DataW.trod_struct Try.underlying93 h
  have hl' : cs.length = 4 := hl.trans (by kernel_rfl)
  match cs, hl' with
  | [c0, c1, c2, c3], _ =>
    match xs, hlen with
    | [y0, y1, y2, y3], _ =>
    obtain ⟨a0, q0, z0⟩ := op3 (H := H) (enc := enc) w n [c0] y0 (hf 0 _ rfl)
    obtain ⟨a1, q1, z1⟩ := op3 (H := H) (enc := enc) w n [c1] y1 (hf 1 _ rfl)
    obtain ⟨a2, q2, z2⟩ := op3 (H := H) (enc := enc) w n [c2] y2 (hf 2 _ rfl)
    obtain ⟨a3, q3, z3⟩ := op4 (H := H) (enc := enc) w n [c3] y3 (hf 3 _ rfl)
    exact ⟨⟨a0, a1, a2, a3⟩, ⟨[c0], [c1, c2, c3], rfl, q0, ⟨[c1], [c2, c3], rfl, q1, ⟨[c2], [c3], rfl, q2, q3⟩⟩⟩, ⟨z0, z1, z2, z3⟩⟩
theorem op23 : Opn Try.prog 23 (Kd.slice 93 k93) ok23 := opn_slice Try.underlying23 (by kernel_rfl) op93
set_option maxRecDepth 100000 in
theorem op25 : Opn Try.prog 25 k25 ok25 := by
  intro H enc w fuel cs x h
  obtain ⟨xs, n, _, _, hl, hlen, hf⟩ := DataW.trod_struct Try.underlying25 h
  have hl' : cs.length = 3 := hl.trans (by kernel_rfl)
  match cs, hl' with
  | [c0, c1, c2], _ =>
    match xs, hlen with
    | [y0, y1, y2], _ =>
    obtain ⟨a0, q0, z0⟩ := op3 (H := H) (enc := enc) w n [c0] y0 (hf 0 _ rfl)
    obtain ⟨a1, q1, z1⟩ := op22 (H := H) (enc := enc) w n [c1] y1 (hf 1 _ rfl)
    obtain ⟨a2, q2, z2⟩ := op23 (H := H) (enc := enc) w n [c2] y2 (hf 2 _ rfl)
    exact ⟨⟨a0, a1, a2⟩, ⟨[c0], [c1, c2], rfl, q0, ⟨[c1], [c2], rfl, q1, q2⟩⟩, ⟨z0, z1, z2⟩⟩
end Go.Proofs.Ytghfeapncmlihaa.A
