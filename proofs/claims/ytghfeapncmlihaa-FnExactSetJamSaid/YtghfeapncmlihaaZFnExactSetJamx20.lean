/- What the proof of the law FnExactSetJam uses: lemmas, the Lean functions of the Go functions that it reaches, their contracts, and the pure statement's proof. -/
import Derived.Test.YtghfeapncmlihaaZFnExactSetJamx12
import Derived.Test.YtghfeapncmlihaaZFnExactSetJamx13
import Derived.Test.YtghfeapncmlihaaZFnExactSetJamx15
import Derived.Test.YtghfeapncmlihaaZFnExactSetJamx18
import Derived.Test.YtghfeapncmlihaaZFnExactSetJamx19
namespace Go.Proofs.Ytghfeapncmlihaa.A
open Go.RowKit Go.Proofs.YtghfeapncmlihaaW.PrintWords Go.Proofs.YtghfeapncmlihaaW.PrintLast Go.Proofs.YtghfeapncmlihaaW.PrintMore
attribute [local go_sem] max2_int min2_int max_two min_two max_three min_three max_four min_four   
set_option linter.unusedVariables false
set_option linter.unusedSimpArgs false
mutual
def laws_FnExactSetJam.j0 : Nat → Int → Bool → Bool → Bool → Bool → Int → List Int → List (S93) → Int → List Int → List (S71) → Int → List Int → List (S71) → Int → List Int → List (S71) → Option (Bool)
  | 0, _, _, _, _, _, _, _, _, _, _, _, _, _, _, _, _, _ => none
  | k + 1, x1, x2, x9, x12, x48, x415000, x415001, x415002, x432000, x432001, x432002, x440000, x440001, x440002, x449000, x449001, x449002 => if x48 = true then (some false) else ((laws_toColumn.f k x415000 x415001 x415002).bind fun bt450 => ((laws_eqColumn.f k x440000 x440001 x440002 bt450.1 bt450.2.1 bt450.2.2).bind fun t457 => (if t457 = true then ((laws_markColumn.f k x440000 x440001 x440002 1).bind fun bt458 => (if bt458.1 < 0 then (laws_FnExactSetJam.j1 k x1 x2 x9 true x415000 x415001 x415002 x432000 x432001 x432002 x449000 x449001 x449002) else ((laws_eqColumn.f k x449000 x449001 x449002 x432000 x432001 x432002).bind fun t461 => (if t461 = true then (laws_FnExactSetJam.j1 k x1 x2 x9 (x12 != x9) x415000 x415001 x415002 x432000 x432001 x432002 x449000 x449001 x449002) else (laws_FnExactSetJam.j1 k x1 x2 x9 true x415000 x415001 x415002 x432000 x432001 x432002 x449000 x449001 x449002))))) else (some false))))
def laws_FnExactSetJam.j1 : Nat → Int → Bool → Bool → Bool → Int → List Int → List (S93) → Int → List Int → List (S71) → Int → List Int → List (S71) → Option (Bool)
  | 0, _, _, _, _, _, _, _, _, _, _, _, _, _ => none
  | k + 1, x1, x2, x9, x69, x415000, x415001, x415002, x432000, x432001, x432002, x449000, x449001, x449002 => if x69 = true then (some false) else ((laws_markColumn.f k x449000 x449001 x449002 1).bind fun bt462 => ((laws_heldColumn.f k x449000 bt462.2.1 bt462.2.2 1).bind fun t465 => (if t465 < 0 then (some false) else (if t465 = bt462.1 then ((laws_toColumn.f k x415000 x415001 x415002).bind fun bt466 => ((impl_SetJam.f k bt466.1 bt466.2.1 bt466.2.2 x1 x2).bind fun bt473 => ((laws_eqColumn.f k bt473.1 bt473.2.1 bt473.2.2.1 x432000 x432001 x432002).bind fun t482 => (if t482 = true then (laws_FnExactSetJam.j2 k bt462.1 (bt473.2.2.2 != x9) x449000 bt462.2.1 bt462.2.2) else (laws_FnExactSetJam.j2 k bt462.1 true x449000 bt462.2.1 bt462.2.2))))) else (some false)))))
def laws_FnExactSetJam.j2 : Nat → Int → Bool → Int → List Int → List (S71) → Option (Bool)
  | 0, _, _, _, _, _ => none
  | k + 1, x14, x97, x449000, x449001, x449002 => if x97 = true then (some false) else ((laws_heldColumn.f k x449000 x449001 x449002 1).bind fun t483 => (if t483 < 0 then (some false) else (if t483 = x14 then (some true) else (some false))))
end
def laws_FnExactSetJam.f (k : Nat) (a0_0 : Int) (l0_1 : List Int) (l0_2 : List (S93)) (a1 : Int) (a2 : Bool) : Option (Bool) := (laws_szColumn.f a0_0 l0_1 l0_2 1048576).bind fun t415 => (if t415 < 0 then (some true) else ((laws_toColumn.f k a0_0 l0_1 l0_2).bind fun bt416 => ((spec_SetJam.f k bt416.1 bt416.2.1 bt416.2.2 a1 a2).bind fun bt423 => ((laws_toColumn.f k a0_0 l0_1 l0_2).bind fun bt432 => ((impl_SetJam.f k bt432.1 bt432.2.1 bt432.2.2 a1 a2).bind fun bt440 => ((laws_eqColumn.f k bt440.1 bt440.2.1 bt440.2.2.1 bt423.1 bt423.2.1 bt423.2.2.1).bind fun t449 => (if t449 = true then (laws_FnExactSetJam.j0 k a1 a2 bt423.2.2.2 bt440.2.2.2 (bt440.2.2.2 != bt423.2.2.2) a0_0 l0_1 l0_2 bt423.1 bt423.2.1 bt423.2.2.1 bt432.1 bt432.2.1 bt432.2.2 bt440.1 bt440.2.1 bt440.2.2.1) else (laws_FnExactSetJam.j0 k a1 a2 bt423.2.2.2 bt440.2.2.2 true a0_0 l0_1 l0_2 bt423.1 bt423.2.1 bt423.2.2.1 bt432.1 bt432.2.1 bt432.2.2 bt440.1 bt440.2.1 bt440.2.2.1))))))))
set_option maxHeartbeats 8000000 in
set_option maxRecDepth 100000 in
theorem laws_FnExactSetJam.calls (k : Nat) (a0_0 : Int) (A0_1 : Option Addr) (c0_1 : Nat) (l0_1 : List Int) (A0_2 : Option Addr) (c0_2 : Nat) (l0_2 : List (S93)) (a1 : Int) (a2 : Bool) (r : Bool) (w : World) (hr0_1 : Kd.C (Kd.int .i64) w A0_1 l0_1.length l0_1) (hc0_1 : l0_1.length ≤ c0_1) (hr0_2 : Kd.C k93 w A0_2 l0_2.length l0_2) (hc0_2 : l0_2.length ≤ c0_2) (hr_ : Aside0 (r = true)) (h : laws_FnExactSetJam.f k a0_0 l0_1 l0_2 a1 a2 = some r) :
    Calls Try.prog 7 #[.agg #[.int .i64 a0_0, .slice A0_1 l0_1.length c0_1, .slice A0_2 l0_2.length c0_2], .int .i64 a1, .bool a2] w fun e w' => e = .returned (.bool r) ∧ Below w.heap.size w w' := by
  have hu25 := Try.underlying25
  have hu30 := Try.underlying30
  have HR0_1 := Aside0.mk hr0_1
  have HC0_1 := Aside0.mk hc0_1
  clear hr0_1 hc0_1
  have HR0_2 := Aside0.mk hr0_2
  have HC0_2 := Aside0.mk hc0_2
  clear hr0_2 hc0_2
  have HB := Aside0.mk (Below.refl w.heap.size w)
  have H : ((laws_szColumn.f a0_0 l0_1 l0_2 1048576).bind fun t415 => (if t415 < 0 then (some true) else ((laws_toColumn.f k a0_0 l0_1 l0_2).bind fun bt416 => ((spec_SetJam.f k bt416.1 bt416.2.1 bt416.2.2 a1 a2).bind fun bt423 => ((laws_toColumn.f k a0_0 l0_1 l0_2).bind fun bt432 => ((impl_SetJam.f k bt432.1 bt432.2.1 bt432.2.2 a1 a2).bind fun bt440 => ((laws_eqColumn.f k bt440.1 bt440.2.1 bt440.2.2.1 bt423.1 bt423.2.1 bt423.2.2.1).bind fun t449 => (if t449 = true then (laws_FnExactSetJam.j0 k a1 a2 bt423.2.2.2 bt440.2.2.2 (bt440.2.2.2 != bt423.2.2.2) a0_0 l0_1 l0_2 bt423.1 bt423.2.1 bt423.2.2.1 bt432.1 bt432.2.1 bt432.2.2 bt440.1 bt440.2.1 bt440.2.2.1) else (laws_FnExactSetJam.j0 k a1 a2 bt423.2.2.2 bt440.2.2.2 true a0_0 l0_1 l0_2 bt423.1 bt423.2.1 bt423.2.2.1 bt432.1 bt432.2.1 bt432.2.2 bt440.1 bt440.2.1 bt440.2.2.1))))))))) = some r := h
  clear h
  replace H := Option.bind_eq_some_iff.mp H
  obtain ⟨t415, A40, H⟩ := H
  replace H : (if t415 < 0 then (some true) else ((laws_toColumn.f k a0_0 l0_1 l0_2).bind fun bt416 => ((spec_SetJam.f k bt416.1 bt416.2.1 bt416.2.2 a1 a2).bind fun bt423 => ((laws_toColumn.f k a0_0 l0_1 l0_2).bind fun bt432 => ((impl_SetJam.f k bt432.1 bt432.2.1 bt432.2.2 a1 a2).bind fun bt440 => ((laws_eqColumn.f k bt440.1 bt440.2.1 bt440.2.2.1 bt423.1 bt423.2.1 bt423.2.2.1).bind fun t449 => (if t449 = true then (laws_FnExactSetJam.j0 k a1 a2 bt423.2.2.2 bt440.2.2.2 (bt440.2.2.2 != bt423.2.2.2) a0_0 l0_1 l0_2 bt423.1 bt423.2.1 bt423.2.2.1 bt432.1 bt432.2.1 bt432.2.2 bt440.1 bt440.2.1 bt440.2.2.1) else (laws_FnExactSetJam.j0 k a1 a2 bt423.2.2.2 bt440.2.2.2 true a0_0 l0_1 l0_2 bt423.1 bt423.2.1 bt423.2.2.1 bt432.1 bt432.2.1 bt432.2.2 bt440.1 bt440.2.1 bt440.2.2.1)))))))) = some r := H
  have A4 := Aside0.mk A40
  clear A40
  by_cases c5 : t415 < 0
  · rw [if_pos c5] at H
    have c5b0 : decide (t415 < 0) = true := decide_eq_true c5
    clear c5
    obtain rfl := Option.some.inj H
    go_enter Try.func7, Try.ntmps7
    go_wp2_with (first | ((with_reducible refine gate_dst (N := 3) rfl ?_); refine box_event ?hg (N := 3) ?hd (cs := #[.int .i64 a0_0, .slice A0_1 l0_1.length c0_1, .slice A0_2 l0_2.length c0_2]) (t := 25) ?hr ?_; (case hd => rfl); (case hg => rfl); (case hr => first | (go_simp; done) | (go_simp; rfl)); intro gb414 hg w6 hbox hb; have n0_ := Aside0.mk (below_step (by repeat (first | (with_reducible first | exact HB.out | apply below_alloc | apply pw_below_drewN | apply below_drew1) | exact HB.out)) hb); have n1_ := Aside0.mk (hbox); have n2_ := Aside0.mk ((by rw [hg]; exact (below_size (by repeat (first | (with_reducible first | exact HB.out | apply below_alloc | apply pw_below_drewN | apply below_drew1) | exact HB.out))) : w.heap.size ≤ gb414)); have n3_ := Aside0.mk ((by rw [hg]; exact (below_size (by repeat (first | (with_reducible first | exact HB.out | apply below_alloc | apply pw_below_drewN | apply below_drew1) | exact HB.out))) : w.heap.size ≤ gb414)); clear HB; have HB := n0_; have BK414 := n1_; have GW414 := n2_; have GE414 := n3_; clear n0_ n1_ n2_ n3_; clear hb hbox hg; have hcz7_0 : w6.cell? ⟨gb414, 0, none⟩ = some (.int .i64 a0_0) := (blk_cell BK414.out 0).trans rfl; have hcz7_1 : w6.cell? ⟨gb414, 1, none⟩ = some (.slice A0_1 l0_1.length c0_1) := (blk_cell BK414.out 1).trans rfl; have hcz7_2 : w6.cell? ⟨gb414, 2, none⟩ = some (.slice A0_2 l0_2.length c0_2) := (blk_cell BK414.out 2).trans rfl; have hfz7_0 := blk_frozen BK414.out 0; have hfz7_1 := blk_frozen BK414.out 1; have hfz7_2 := blk_frozen BK414.out 2) | ((with_reducible refine gate_callee (f := 15) rfl ?_); refine goesL_ (some 20) rfl rfl Try.func15 (by kernel_rfl) rfl #[.agg #[.int .i64 a0_0, .slice A0_1 l0_1.length c0_1, .slice A0_2 l0_2.length c0_2], .int .i64 1048576] rfl (by (try simp only [List.map_toArray, List.map_cons, List.map_nil]); first | done | rfl | (simp only [List.length_drop, List.length_take]; rfl)) ?_; (with_reducible refine (laws_szColumn.calls a0_0 _ _ l0_1 _ _ l0_2 1048576 t415 _ ?side1 ?side2 ?side3 ?side4 A4.out).mono ?_); (case side1 => repeat (first | exact (Kd.C_below HR0_1.out HB.out) | (with_reducible refine Kd.C_alloc ?_ _) | (with_reducible refine Kd.C_drewN ?_ _) | (with_reducible refine Kd.C_drew ?_))); (case side2 => exact HC0_1.out); (case side3 => repeat (first | exact (Kd.C_below HR0_2.out HB.out) | (with_reducible refine Kd.C_alloc ?_ _) | (with_reducible refine Kd.C_drewN ?_ _) | (with_reducible refine Kd.C_drew ?_))); (case side4 => exact HC0_2.out); rintro e w8 ⟨rfl, hb⟩; refine ⟨_, rfl, ?_⟩; have n0_ := Aside0.mk (blk_below (g := gb414) (o := .cells #[.int .i64 a0_0, .slice A0_1 l0_1.length c0_1, .slice A0_2 l0_2.length c0_2] 25 (0, 0)) (by (with_reducible repeat (first | refine blk_drewN ?_ _ | refine blk_drew ?_ | refine blk_alloc ?_ _)); exact BK414.out) hb); have n1_ := Aside0.mk (below_step (by repeat (first | (with_reducible first | exact HB.out | apply below_alloc | apply pw_below_drewN | apply below_drew1 | refine below_set ?_ GE414.out) | exact HB.out)) hb); clear BK414; clear HB; have BK414 := n0_; have HB := n1_; clear n0_ n1_; (try clear hb); (try clear hb2); (try clear hk); (try clear hi)))
    go_ret
    exact ⟨by first | rfl | (simp [errW_none, errW_some] <;> rfl) | (simp [*, errW_none, errW_some] <;> rfl), by repeat (first | (with_reducible first | exact HB.out | apply below_alloc | apply pw_below_drewN | apply below_drew1 | refine below_set ?_ GE414.out) | exact HB.out)⟩
  · rw [if_neg c5] at H
    have c5b0 : decide (t415 < 0) = false := decide_eq_false c5
    clear c5
    replace H := Option.bind_eq_some_iff.mp H
    obtain ⟨⟨t416, t417, t420⟩, A90, H⟩ := H
    replace H : ((spec_SetJam.f k t416 t417 t420 a1 a2).bind fun bt423 => ((laws_toColumn.f k a0_0 l0_1 l0_2).bind fun bt432 => ((impl_SetJam.f k bt432.1 bt432.2.1 bt432.2.2 a1 a2).bind fun bt440 => ((laws_eqColumn.f k bt440.1 bt440.2.1 bt440.2.2.1 bt423.1 bt423.2.1 bt423.2.2.1).bind fun t449 => (if t449 = true then (laws_FnExactSetJam.j0 k a1 a2 bt423.2.2.2 bt440.2.2.2 (bt440.2.2.2 != bt423.2.2.2) a0_0 l0_1 l0_2 bt423.1 bt423.2.1 bt423.2.2.1 bt432.1 bt432.2.1 bt432.2.2 bt440.1 bt440.2.1 bt440.2.2.1) else (laws_FnExactSetJam.j0 k a1 a2 bt423.2.2.2 bt440.2.2.2 true a0_0 l0_1 l0_2 bt423.1 bt423.2.1 bt423.2.2.1 bt432.1 bt432.2.1 bt432.2.2 bt440.1 bt440.2.1 bt440.2.2.1)))))) = some r := H
    have A9 := Aside0.mk A90
    clear A90
    replace H := Option.bind_eq_some_iff.mp H
    obtain ⟨⟨t423, t424, t427, t430⟩, A100, H⟩ := H
    replace H : ((laws_toColumn.f k a0_0 l0_1 l0_2).bind fun bt432 => ((impl_SetJam.f k bt432.1 bt432.2.1 bt432.2.2 a1 a2).bind fun bt440 => ((laws_eqColumn.f k bt440.1 bt440.2.1 bt440.2.2.1 t423 t424 t427).bind fun t449 => (if t449 = true then (laws_FnExactSetJam.j0 k a1 a2 t430 bt440.2.2.2 (bt440.2.2.2 != t430) a0_0 l0_1 l0_2 t423 t424 t427 bt432.1 bt432.2.1 bt432.2.2 bt440.1 bt440.2.1 bt440.2.2.1) else (laws_FnExactSetJam.j0 k a1 a2 t430 bt440.2.2.2 true a0_0 l0_1 l0_2 t423 t424 t427 bt432.1 bt432.2.1 bt432.2.2 bt440.1 bt440.2.1 bt440.2.2.1))))) = some r := H
    have A10 := Aside0.mk A100
    clear A100
    replace H := Option.bind_eq_some_iff.mp H
    obtain ⟨⟨t432, t433, t436⟩, A110, H⟩ := H
    replace H : ((impl_SetJam.f k t432 t433 t436 a1 a2).bind fun bt440 => ((laws_eqColumn.f k bt440.1 bt440.2.1 bt440.2.2.1 t423 t424 t427).bind fun t449 => (if t449 = true then (laws_FnExactSetJam.j0 k a1 a2 t430 bt440.2.2.2 (bt440.2.2.2 != t430) a0_0 l0_1 l0_2 t423 t424 t427 t432 t433 t436 bt440.1 bt440.2.1 bt440.2.2.1) else (laws_FnExactSetJam.j0 k a1 a2 t430 bt440.2.2.2 true a0_0 l0_1 l0_2 t423 t424 t427 t432 t433 t436 bt440.1 bt440.2.1 bt440.2.2.1)))) = some r := H
    have A11 := Aside0.mk A110
    clear A110
    replace H := Option.bind_eq_some_iff.mp H
    obtain ⟨⟨t440, t441, t444, t447⟩, A120, H⟩ := H
    replace H : ((laws_eqColumn.f k t440 t441 t444 t423 t424 t427).bind fun t449 => (if t449 = true then (laws_FnExactSetJam.j0 k a1 a2 t430 t447 (t447 != t430) a0_0 l0_1 l0_2 t423 t424 t427 t432 t433 t436 t440 t441 t444) else (laws_FnExactSetJam.j0 k a1 a2 t430 t447 true a0_0 l0_1 l0_2 t423 t424 t427 t432 t433 t436 t440 t441 t444))) = some r := H
    have A12 := Aside0.mk A120
    clear A120
    have HC13 := Aside0.mk H
    clear H
    go_enter Try.func7, Try.ntmps7
    go_upto_region 8 with (first | ((with_reducible refine gate_dst (N := 3) rfl ?_); refine box_event ?hg (N := 3) ?hd (cs := #[.int .i64 a0_0, .slice A0_1 l0_1.length c0_1, .slice A0_2 l0_2.length c0_2]) (t := 25) ?hr ?_; (case hd => rfl); (case hg => rfl); (case hr => first | (go_simp; done) | (go_simp; rfl)); intro gb414 hg w14 hbox hb; have n0_ := Aside0.mk (below_step (by repeat (first | (with_reducible first | exact HB.out | apply below_alloc | apply pw_below_drewN | apply below_drew1) | exact HB.out)) hb); have n1_ := Aside0.mk (hbox); have n2_ := Aside0.mk ((by rw [hg]; exact (below_size (by repeat (first | (with_reducible first | exact HB.out | apply below_alloc | apply pw_below_drewN | apply below_drew1) | exact HB.out))) : w.heap.size ≤ gb414)); have n3_ := Aside0.mk ((by rw [hg]; exact (below_size (by repeat (first | (with_reducible first | exact HB.out | apply below_alloc | apply pw_below_drewN | apply below_drew1) | exact HB.out))) : w.heap.size ≤ gb414)); clear HB; have HB := n0_; have BK414 := n1_; have GW414 := n2_; have GE414 := n3_; clear n0_ n1_ n2_ n3_; clear hb hbox hg; have hcz15_0 : w14.cell? ⟨gb414, 0, none⟩ = some (.int .i64 a0_0) := (blk_cell BK414.out 0).trans rfl; have hcz15_1 : w14.cell? ⟨gb414, 1, none⟩ = some (.slice A0_1 l0_1.length c0_1) := (blk_cell BK414.out 1).trans rfl; have hcz15_2 : w14.cell? ⟨gb414, 2, none⟩ = some (.slice A0_2 l0_2.length c0_2) := (blk_cell BK414.out 2).trans rfl; have hfz15_0 := blk_frozen BK414.out 0; have hfz15_1 := blk_frozen BK414.out 1; have hfz15_2 := blk_frozen BK414.out 2) | ((with_reducible refine gate_callee (f := 15) rfl ?_); refine goesL_ (some 20) rfl rfl Try.func15 (by kernel_rfl) rfl #[.agg #[.int .i64 a0_0, .slice A0_1 l0_1.length c0_1, .slice A0_2 l0_2.length c0_2], .int .i64 1048576] rfl (by (try simp only [List.map_toArray, List.map_cons, List.map_nil]); first | done | rfl | (simp only [List.length_drop, List.length_take]; rfl)) ?_; (with_reducible refine (laws_szColumn.calls a0_0 _ _ l0_1 _ _ l0_2 1048576 t415 _ ?side1 ?side2 ?side3 ?side4 A4.out).mono ?_); (case side1 => repeat (first | exact (Kd.C_below HR0_1.out HB.out) | (with_reducible refine Kd.C_alloc ?_ _) | (with_reducible refine Kd.C_drewN ?_ _) | (with_reducible refine Kd.C_drew ?_))); (case side2 => exact HC0_1.out); (case side3 => repeat (first | exact (Kd.C_below HR0_2.out HB.out) | (with_reducible refine Kd.C_alloc ?_ _) | (with_reducible refine Kd.C_drewN ?_ _) | (with_reducible refine Kd.C_drew ?_))); (case side4 => exact HC0_2.out); rintro e w16 ⟨rfl, hb⟩; refine ⟨_, rfl, ?_⟩; have n0_ := Aside0.mk (blk_below (g := gb414) (o := .cells #[.int .i64 a0_0, .slice A0_1 l0_1.length c0_1, .slice A0_2 l0_2.length c0_2] 25 (0, 0)) (by (with_reducible repeat (first | refine blk_drewN ?_ _ | refine blk_drew ?_ | refine blk_alloc ?_ _)); exact BK414.out) hb); have n1_ := Aside0.mk (below_step (by repeat (first | (with_reducible first | exact HB.out | apply below_alloc | apply pw_below_drewN | apply below_drew1 | refine below_set ?_ GE414.out) | exact HB.out)) hb); clear BK414; clear HB; have BK414 := n0_; have HB := n1_; clear n0_ n1_; (try clear hb); (try clear hb2); (try clear hk); (try clear hi); have hcz17_0 : w16.cell? ⟨gb414, 0, none⟩ = some (.int .i64 a0_0) := (blk_cell BK414.out 0).trans rfl; have hcz17_1 : w16.cell? ⟨gb414, 1, none⟩ = some (.slice A0_1 l0_1.length c0_1) := (blk_cell BK414.out 1).trans rfl; have hcz17_2 : w16.cell? ⟨gb414, 2, none⟩ = some (.slice A0_2 l0_2.length c0_2) := (blk_cell BK414.out 2).trans rfl; have hfz17_0 := blk_frozen BK414.out 0; have hfz17_1 := blk_frozen BK414.out 1; have hfz17_2 := blk_frozen BK414.out 2) | ((with_reducible refine gate_callee (f := 17) rfl ?_); refine goesL_ (some 25) rfl rfl Try.func17 (by kernel_rfl) rfl #[.agg #[.int .i64 a0_0, .slice A0_1 l0_1.length c0_1, .slice A0_2 l0_2.length c0_2]] rfl (by (try simp only [List.map_toArray, List.map_cons, List.map_nil]); first | done | rfl | (simp only [List.length_drop, List.length_take]; rfl)) ?_; (with_reducible refine (laws_toColumn.calls k a0_0 _ _ l0_1 _ _ l0_2 t416 t417 t420 _ ?side1 ?side2 ?side3 ?side4 A9.out).mono ?_); (case side1 => repeat (first | exact (Kd.C_below HR0_1.out HB.out) | (with_reducible refine Kd.C_alloc ?_ _) | (with_reducible refine Kd.C_drewN ?_ _) | (with_reducible refine Kd.C_drew ?_))); (case side2 => exact HC0_1.out); (case side3 => repeat (first | exact (Kd.C_below HR0_2.out HB.out) | (with_reducible refine Kd.C_alloc ?_ _) | (with_reducible refine Kd.C_drewN ?_ _) | (with_reducible refine Kd.C_drew ?_))); (case side4 => exact HC0_2.out); rintro e w18 ⟨v418, v421, rfl, ho0, ho1, hb⟩; refine ⟨_, rfl, ?_⟩; have n0_ := Aside0.mk (Kd.R_lower ho0 (below_size (by repeat (first | (with_reducible first | exact HB.out | apply below_alloc | apply pw_below_drewN | apply below_drew1 | refine below_set ?_ GE414.out) | exact HB.out)))); have n1_ := Aside0.mk (Kd.R_lower ho1 (below_size (by repeat (first | (with_reducible first | exact HB.out | apply below_alloc | apply pw_below_drewN | apply below_drew1 | refine below_set ?_ GE414.out) | exact HB.out)))); have n2_ := Aside0.mk (blk_below (g := gb414) (o := .cells #[.int .i64 a0_0, .slice A0_1 l0_1.length c0_1, .slice A0_2 l0_2.length c0_2] 25 (0, 0)) (by (with_reducible repeat (first | refine blk_drewN ?_ _ | refine blk_drew ?_ | refine blk_alloc ?_ _)); exact BK414.out) hb); have n3_ := Aside0.mk (below_step (by repeat (first | (with_reducible first | exact HB.out | apply below_alloc | apply pw_below_drewN | apply below_drew1 | refine below_set ?_ GE414.out) | exact HB.out)) hb); clear BK414; clear HB; have HO419 := n0_; have HO422 := n1_; have BK414 := n2_; have HB := n3_; clear n0_ n1_ n2_ n3_; (try clear hb); (try clear hb2); (try clear hk); (try clear hi); (try clear ho0); (try clear ho1); obtain ⟨Ao19, co19, eo19⟩ := Kd.R_slice HO419.out; subst eo19; obtain ⟨Ao20, co20, eo20⟩ := Kd.R_slice HO422.out; subst eo20) | ((with_reducible refine gate_callee (f := 34) rfl ?_); refine goesL_ (some 28) rfl rfl Try.func34 (by kernel_rfl) rfl #[.agg #[.int .i64 t416, .slice Ao19 t417.length co19, .slice Ao20 t420.length co20], .int .i64 a1, .bool a2] rfl (by (try simp only [List.map_toArray, List.map_cons, List.map_nil]); first | done | rfl | (simp only [List.length_drop, List.length_take]; rfl)) ?_; (with_reducible refine (spec_SetJam.calls k t416 _ _ t417 _ _ t420 a1 a2 t423 t424 t427 t430 _ ?side1 ?side2 ?side3 ?side4 A10.out).mono ?_); (case side1 => repeat (first | exact (Kd.R_reads' HO419.out).2.2 | (with_reducible refine Kd.C_alloc ?_ _) | (with_reducible refine Kd.C_drewN ?_ _) | (with_reducible refine Kd.C_drew ?_))); (case side2 => exact (Kd.R_reads' HO419.out).2.1); (case side3 => repeat (first | exact (Kd.R_reads' HO422.out).2.2 | (with_reducible refine Kd.C_alloc ?_ _) | (with_reducible refine Kd.C_drewN ?_ _) | (with_reducible refine Kd.C_drew ?_))); (case side4 => exact (Kd.R_reads' HO422.out).2.1); rintro e w21 ⟨v425, v428, rfl, ho0, ho1, hb⟩; refine ⟨_, rfl, ?_⟩; have n0_ := Aside0.mk (Kd.R_elder' (by (with_reducible repeat (first | apply Kd.R_alloc | apply Kd.R_drewN | apply Kd.R_drew)); exact HO419.out) (Kd.R_base ho0) hb); have n1_ := Aside0.mk (Kd.R_elder' (by (with_reducible repeat (first | apply Kd.R_alloc | apply Kd.R_drewN | apply Kd.R_drew)); exact HO422.out) (Kd.R_base ho1) hb); have n2_ := Aside0.mk (Kd.R_lower (Kd.R_new' ho0 (Kd.R_lt (by (with_reducible repeat (first | apply Kd.R_alloc | apply Kd.R_drewN | apply Kd.R_drew)); exact HO419.out))) (below_size (by repeat (first | (with_reducible first | exact HB.out | apply below_alloc | apply pw_below_drewN | apply below_drew1 | refine below_set ?_ GE414.out) | exact HB.out)))); have n3_ := Aside0.mk (Kd.R_lower (Kd.R_new' ho1 (Kd.R_lt (by (with_reducible repeat (first | apply Kd.R_alloc | apply Kd.R_drewN | apply Kd.R_drew)); exact HO422.out))) (below_size (by repeat (first | (with_reducible first | exact HB.out | apply below_alloc | apply pw_below_drewN | apply below_drew1 | refine below_set ?_ GE414.out) | exact HB.out)))); have n4_ := Aside0.mk (blk_below (g := gb414) (o := .cells #[.int .i64 a0_0, .slice A0_1 l0_1.length c0_1, .slice A0_2 l0_2.length c0_2] 25 (0, 0)) (by (with_reducible repeat (first | refine blk_drewN ?_ _ | refine blk_drew ?_ | refine blk_alloc ?_ _)); exact BK414.out) hb); have n5_ := Aside0.mk (below_step (by repeat (first | (with_reducible first | exact HB.out | apply below_alloc | apply pw_below_drewN | apply below_drew1 | refine below_set ?_ GE414.out) | exact HB.out)) hb); clear HO419; clear HO422; clear BK414; clear HB; have HO419 := n0_; have HO422 := n1_; have HO426 := n2_; have HO429 := n3_; have BK414 := n4_; have HB := n5_; clear n0_ n1_ n2_ n3_ n4_ n5_; (try clear hb); (try clear hb2); (try clear hk); (try clear hi); (try clear ho0); (try clear ho1)) | ((with_reducible refine gate_dst (N := 8) rfl ?_); refine box_event ?hg (N := 8) ?hd (cs := #[.int .i64 0, .slice none 0 0, .slice none 0 0]) (t := 30) ?hr ?_; (case hd => rfl); (case hg => rfl); (case hr => first | (go_simp; done) | (go_simp; rfl)); intro gb431 hg w22 hbox hb; have n0_ := Aside0.mk (Kd.R_below (by (with_reducible repeat (first | apply Kd.R_alloc | apply Kd.R_drewN | apply Kd.R_drew)); exact HO419.out) hb); have n1_ := Aside0.mk (Kd.R_below (by (with_reducible repeat (first | apply Kd.R_alloc | apply Kd.R_drewN | apply Kd.R_drew)); exact HO422.out) hb); have n2_ := Aside0.mk (Kd.R_below (by (with_reducible repeat (first | apply Kd.R_alloc | apply Kd.R_drewN | apply Kd.R_drew)); exact HO426.out) hb); have n3_ := Aside0.mk (Kd.R_below (by (with_reducible repeat (first | apply Kd.R_alloc | apply Kd.R_drewN | apply Kd.R_drew)); exact HO429.out) hb); have n4_ := Aside0.mk (blk_below (g := gb414) (o := .cells #[.int .i64 a0_0, .slice A0_1 l0_1.length c0_1, .slice A0_2 l0_2.length c0_2] 25 (0, 0)) (by (with_reducible repeat (first | refine blk_drewN ?_ _ | refine blk_drew ?_ | refine blk_alloc ?_ _)); exact BK414.out) hb); have n5_ := Aside0.mk (below_step (by repeat (first | (with_reducible first | exact HB.out | apply below_alloc | apply pw_below_drewN | apply below_drew1 | refine below_set ?_ GE414.out) | exact HB.out)) hb); have n6_ := Aside0.mk (hbox); have n7_ := Aside0.mk ((by rw [hg]; exact (below_size (by repeat (first | (with_reducible first | exact HB.out | apply below_alloc | apply pw_below_drewN | apply below_drew1 | refine below_set ?_ GE414.out) | exact HB.out))) : w.heap.size ≤ gb431)); have n8_ := Aside0.mk ((by rw [hg]; exact (below_size (by repeat (first | (with_reducible first | exact HB.out | apply below_alloc | apply pw_below_drewN | apply below_drew1 | refine below_set ?_ GE414.out) | exact HB.out))) : w.heap.size ≤ gb431)); have n9_ := Aside0.mk ((by rw [hg]; exact Nat.ne_of_lt (blk_lt (g := gb414) (o := .cells #[.int .i64 a0_0, .slice A0_1 l0_1.length c0_1, .slice A0_2 l0_2.length c0_2] 25 (0, 0)) (by (with_reducible repeat (first | refine blk_drewN ?_ _ | refine blk_drew ?_ | refine blk_alloc ?_ _)); exact BK414.out)) : gb414 ≠ gb431)); have n10_ := Aside0.mk ((by rw [hg]; exact Nat.ne_of_gt (blk_lt (g := gb414) (o := .cells #[.int .i64 a0_0, .slice A0_1 l0_1.length c0_1, .slice A0_2 l0_2.length c0_2] 25 (0, 0)) (by (with_reducible repeat (first | refine blk_drewN ?_ _ | refine blk_drew ?_ | refine blk_alloc ?_ _)); exact BK414.out)) : gb431 ≠ gb414)); clear HO419; clear HO422; clear HO426; clear HO429; clear BK414; clear HB; have HO419 := n0_; have HO422 := n1_; have HO426 := n2_; have HO429 := n3_; have BK414 := n4_; have HB := n5_; have BK431 := n6_; have GW431 := n7_; have GE431 := n8_; have NB414_431 := n9_; have NB431_414 := n10_; clear n0_ n1_ n2_ n3_ n4_ n5_ n6_ n7_ n8_ n9_ n10_; clear hb hbox hg; have hnb23 := NB431_414.out; have hnc23 := NB414_431.out; have hcz24_0 : w22.cell? ⟨gb431, 0, none⟩ = some (.int .i64 0) := (blk_cell BK431.out 0).trans rfl; have hcz24_1 : w22.cell? ⟨gb431, 1, none⟩ = some (.slice none 0 0) := (blk_cell BK431.out 1).trans rfl; have hcz24_2 : w22.cell? ⟨gb431, 2, none⟩ = some (.slice none 0 0) := (blk_cell BK431.out 2).trans rfl; have hfz24_0 := blk_frozen BK431.out 0; have hfz24_1 := blk_frozen BK431.out 1; have hfz24_2 := blk_frozen BK431.out 2; obtain ⟨Ao25, co25, eo25⟩ := Kd.R_slice HO426.out; subst eo25; obtain ⟨Ao26, co26, eo26⟩ := Kd.R_slice HO429.out; subst eo26; have hcz27_0 : w22.cell? ⟨gb414, 0, none⟩ = some (.int .i64 a0_0) := (blk_cell BK414.out 0).trans rfl; have hcz27_1 : w22.cell? ⟨gb414, 1, none⟩ = some (.slice A0_1 l0_1.length c0_1) := (blk_cell BK414.out 1).trans rfl; have hcz27_2 : w22.cell? ⟨gb414, 2, none⟩ = some (.slice A0_2 l0_2.length c0_2) := (blk_cell BK414.out 2).trans rfl; have hfz27_0 := blk_frozen BK414.out 0; have hfz27_1 := blk_frozen BK414.out 1; have hfz27_2 := blk_frozen BK414.out 2) | ((with_reducible refine gate_callee (f := 17) rfl ?_); refine goesL_ (some 32) rfl rfl Try.func17 (by kernel_rfl) rfl #[.agg #[.int .i64 a0_0, .slice A0_1 l0_1.length c0_1, .slice A0_2 l0_2.length c0_2]] rfl (by (try simp only [List.map_toArray, List.map_cons, List.map_nil]); first | done | rfl | (simp only [List.length_drop, List.length_take]; rfl)) ?_; (with_reducible refine (laws_toColumn.calls k a0_0 _ _ l0_1 _ _ l0_2 t432 t433 t436 _ ?side1 ?side2 ?side3 ?side4 A11.out).mono ?_); (case side1 => exact Kd.C_below HR0_1.out (by repeat (first | (with_reducible first | exact HB.out | apply below_alloc | apply pw_below_drewN | apply below_drew1 | refine below_set ?_ GE414.out | refine below_set ?_ GE431.out) | exact HB.out))); (case side2 => exact HC0_1.out); (case side3 => exact Kd.C_below HR0_2.out (by repeat (first | (with_reducible first | exact HB.out | apply below_alloc | apply pw_below_drewN | apply below_drew1 | refine below_set ?_ GE414.out | refine below_set ?_ GE431.out) | exact HB.out))); (case side4 => exact HC0_2.out); rintro e w28 ⟨v434, v437, rfl, ho0, ho1, hb⟩; refine ⟨_, rfl, ?_⟩; have n0_ := Aside0.mk (Kd.R_elder' (by (with_reducible repeat (first | apply Kd.R_alloc | apply Kd.R_drewN | apply Kd.R_drew)); exact (Kd.R_mono (Kd.R_far (p := ⟨gb431, 2, none⟩) (Kd.R_far (p := ⟨gb431, 1, none⟩) (Kd.R_far (p := ⟨gb431, 0, none⟩) (Kd.R_types HO419.out BK431.out (by decide)) (fun _ hk => hk.2) (.int .i64 t423)) (fun _ hk => hk.2) (.slice Ao25 t424.length co25)) (fun _ hk => hk.2) (.slice Ao26 t427.length co26)) (fun _ h_ => h_.1))) (Kd.R_base ho0) hb); have n1_ := Aside0.mk (Kd.R_elder' (by (with_reducible repeat (first | apply Kd.R_alloc | apply Kd.R_drewN | apply Kd.R_drew)); exact (Kd.R_mono (Kd.R_far (p := ⟨gb431, 2, none⟩) (Kd.R_far (p := ⟨gb431, 1, none⟩) (Kd.R_far (p := ⟨gb431, 0, none⟩) (Kd.R_types HO422.out BK431.out (by decide)) (fun _ hk => hk.2) (.int .i64 t423)) (fun _ hk => hk.2) (.slice Ao25 t424.length co25)) (fun _ hk => hk.2) (.slice Ao26 t427.length co26)) (fun _ h_ => h_.1))) (Kd.R_base ho1) hb); have n2_ := Aside0.mk (Kd.R_elder' (by (with_reducible repeat (first | apply Kd.R_alloc | apply Kd.R_drewN | apply Kd.R_drew)); exact (Kd.R_mono (Kd.R_far (p := ⟨gb431, 2, none⟩) (Kd.R_far (p := ⟨gb431, 1, none⟩) (Kd.R_far (p := ⟨gb431, 0, none⟩) (Kd.R_types HO426.out BK431.out (by decide)) (fun _ hk => hk.2) (.int .i64 t423)) (fun _ hk => hk.2) (.slice Ao25 t424.length co25)) (fun _ hk => hk.2) (.slice Ao26 t427.length co26)) (fun _ h_ => h_.1))) (Kd.R_base ho0) hb); have n3_ := Aside0.mk (Kd.R_elder' (by (with_reducible repeat (first | apply Kd.R_alloc | apply Kd.R_drewN | apply Kd.R_drew)); exact (Kd.R_mono (Kd.R_far (p := ⟨gb431, 2, none⟩) (Kd.R_far (p := ⟨gb431, 1, none⟩) (Kd.R_far (p := ⟨gb431, 0, none⟩) (Kd.R_types HO429.out BK431.out (by decide)) (fun _ hk => hk.2) (.int .i64 t423)) (fun _ hk => hk.2) (.slice Ao25 t424.length co25)) (fun _ hk => hk.2) (.slice Ao26 t427.length co26)) (fun _ h_ => h_.1))) (Kd.R_base ho1) hb); have n4_ := Aside0.mk (Kd.R_lower (Kd.R_new' (Kd.R_new' ho0 (Kd.R_lt (by (with_reducible repeat (first | apply Kd.R_alloc | apply Kd.R_drewN | apply Kd.R_drew)); exact (Kd.R_mono (Kd.R_far (p := ⟨gb431, 2, none⟩) (Kd.R_far (p := ⟨gb431, 1, none⟩) (Kd.R_far (p := ⟨gb431, 0, none⟩) (Kd.R_types HO419.out BK431.out (by decide)) (fun _ hk => hk.2) (.int .i64 t423)) (fun _ hk => hk.2) (.slice Ao25 t424.length co25)) (fun _ hk => hk.2) (.slice Ao26 t427.length co26)) (fun _ h_ => h_.1))))) (Kd.R_lt (by (with_reducible repeat (first | apply Kd.R_alloc | apply Kd.R_drewN | apply Kd.R_drew)); exact (Kd.R_mono (Kd.R_far (p := ⟨gb431, 2, none⟩) (Kd.R_far (p := ⟨gb431, 1, none⟩) (Kd.R_far (p := ⟨gb431, 0, none⟩) (Kd.R_types HO426.out BK431.out (by decide)) (fun _ hk => hk.2) (.int .i64 t423)) (fun _ hk => hk.2) (.slice Ao25 t424.length co25)) (fun _ hk => hk.2) (.slice Ao26 t427.length co26)) (fun _ h_ => h_.1))))) (below_size (by repeat (first | (with_reducible first | exact HB.out | apply below_alloc | apply pw_below_drewN | apply below_drew1 | refine below_set ?_ GE414.out | refine below_set ?_ GE431.out) | exact HB.out)))); have n5_ := Aside0.mk (Kd.R_lower (Kd.R_new' (Kd.R_new' ho1 (Kd.R_lt (by (with_reducible repeat (first | apply Kd.R_alloc | apply Kd.R_drewN | apply Kd.R_drew)); exact (Kd.R_mono (Kd.R_far (p := ⟨gb431, 2, none⟩) (Kd.R_far (p := ⟨gb431, 1, none⟩) (Kd.R_far (p := ⟨gb431, 0, none⟩) (Kd.R_types HO422.out BK431.out (by decide)) (fun _ hk => hk.2) (.int .i64 t423)) (fun _ hk => hk.2) (.slice Ao25 t424.length co25)) (fun _ hk => hk.2) (.slice Ao26 t427.length co26)) (fun _ h_ => h_.1))))) (Kd.R_lt (by (with_reducible repeat (first | apply Kd.R_alloc | apply Kd.R_drewN | apply Kd.R_drew)); exact (Kd.R_mono (Kd.R_far (p := ⟨gb431, 2, none⟩) (Kd.R_far (p := ⟨gb431, 1, none⟩) (Kd.R_far (p := ⟨gb431, 0, none⟩) (Kd.R_types HO429.out BK431.out (by decide)) (fun _ hk => hk.2) (.int .i64 t423)) (fun _ hk => hk.2) (.slice Ao25 t424.length co25)) (fun _ hk => hk.2) (.slice Ao26 t427.length co26)) (fun _ h_ => h_.1))))) (below_size (by repeat (first | (with_reducible first | exact HB.out | apply below_alloc | apply pw_below_drewN | apply below_drew1 | refine below_set ?_ GE414.out | refine below_set ?_ GE431.out) | exact HB.out)))); have n6_ := Aside0.mk (blk_below (g := gb414) (o := .cells #[.int .i64 a0_0, .slice A0_1 l0_1.length c0_1, .slice A0_2 l0_2.length c0_2] 25 (0, 0)) (by (with_reducible repeat (first | refine blk_drewN ?_ _ | refine blk_drew ?_ | refine blk_alloc ?_ _)); refine blk_far ?_ NB414_431.out _; (with_reducible repeat (first | refine blk_drewN ?_ _ | refine blk_drew ?_ | refine blk_alloc ?_ _)); refine blk_far ?_ NB414_431.out _; (with_reducible repeat (first | refine blk_drewN ?_ _ | refine blk_drew ?_ | refine blk_alloc ?_ _)); refine blk_far ?_ NB414_431.out _; (with_reducible repeat (first | refine blk_drewN ?_ _ | refine blk_drew ?_ | refine blk_alloc ?_ _)); exact BK414.out) hb); have n7_ := Aside0.mk (blk_below (g := gb431) (o := .cells #[.int .i64 t423, .slice Ao25 t424.length co25, .slice Ao26 t427.length co26] 30 (0, 0)) (by (with_reducible repeat (first | refine blk_drewN ?_ _ | refine blk_drew ?_ | refine blk_alloc ?_ _)); refine blk_put (cs := #[.int .i64 t423, .slice Ao25 t424.length co25, .slice none 0 0]) ?_ 2 _ rfl; (with_reducible repeat (first | refine blk_drewN ?_ _ | refine blk_drew ?_ | refine blk_alloc ?_ _)); refine blk_put (cs := #[.int .i64 t423, .slice none 0 0, .slice none 0 0]) ?_ 1 _ rfl; (with_reducible repeat (first | refine blk_drewN ?_ _ | refine blk_drew ?_ | refine blk_alloc ?_ _)); refine blk_put (cs := #[.int .i64 0, .slice none 0 0, .slice none 0 0]) ?_ 0 _ rfl; (with_reducible repeat (first | refine blk_drewN ?_ _ | refine blk_drew ?_ | refine blk_alloc ?_ _)); exact BK431.out) hb); have n8_ := Aside0.mk (below_step (by repeat (first | (with_reducible first | exact HB.out | apply below_alloc | apply pw_below_drewN | apply below_drew1 | refine below_set ?_ GE414.out | refine below_set ?_ GE431.out) | exact HB.out)) hb); clear HO419; clear HO422; clear HO426; clear HO429; clear BK414; clear BK431; clear HB; have HO419 := n0_; have HO422 := n1_; have HO426 := n2_; have HO429 := n3_; have HO435 := n4_; have HO438 := n5_; have BK414 := n6_; have BK431 := n7_; have HB := n8_; clear n0_ n1_ n2_ n3_ n4_ n5_ n6_ n7_ n8_; (try clear hb); (try clear hb2); (try clear hk); (try clear hi); (try clear ho0); (try clear ho1)) | ((with_reducible refine gate_dst (N := 10) rfl ?_); refine box_event ?hg (N := 10) ?hd (cs := #[.int .i64 0, .slice none 0 0, .slice none 0 0]) (t := 30) ?hr ?_; (case hd => rfl); (case hg => rfl); (case hr => first | (go_simp; done) | (go_simp; rfl)); intro gb439 hg w29 hbox hb; have n0_ := Aside0.mk (Kd.R_below (by (with_reducible repeat (first | apply Kd.R_alloc | apply Kd.R_drewN | apply Kd.R_drew)); exact HO419.out) hb); have n1_ := Aside0.mk (Kd.R_below (by (with_reducible repeat (first | apply Kd.R_alloc | apply Kd.R_drewN | apply Kd.R_drew)); exact HO422.out) hb); have n2_ := Aside0.mk (Kd.R_below (by (with_reducible repeat (first | apply Kd.R_alloc | apply Kd.R_drewN | apply Kd.R_drew)); exact HO426.out) hb); have n3_ := Aside0.mk (Kd.R_below (by (with_reducible repeat (first | apply Kd.R_alloc | apply Kd.R_drewN | apply Kd.R_drew)); exact HO429.out) hb); have n4_ := Aside0.mk (Kd.R_below (by (with_reducible repeat (first | apply Kd.R_alloc | apply Kd.R_drewN | apply Kd.R_drew)); exact HO435.out) hb); have n5_ := Aside0.mk (Kd.R_below (by (with_reducible repeat (first | apply Kd.R_alloc | apply Kd.R_drewN | apply Kd.R_drew)); exact HO438.out) hb); have n6_ := Aside0.mk (blk_below (g := gb414) (o := .cells #[.int .i64 a0_0, .slice A0_1 l0_1.length c0_1, .slice A0_2 l0_2.length c0_2] 25 (0, 0)) (by (with_reducible repeat (first | refine blk_drewN ?_ _ | refine blk_drew ?_ | refine blk_alloc ?_ _)); exact BK414.out) hb); have n7_ := Aside0.mk (blk_below (g := gb431) (o := .cells #[.int .i64 t423, .slice Ao25 t424.length co25, .slice Ao26 t427.length co26] 30 (0, 0)) (by (with_reducible repeat (first | refine blk_drewN ?_ _ | refine blk_drew ?_ | refine blk_alloc ?_ _)); exact BK431.out) hb); have n8_ := Aside0.mk (below_step (by repeat (first | (with_reducible first | exact HB.out | apply below_alloc | apply pw_below_drewN | apply below_drew1 | refine below_set ?_ GE414.out | refine below_set ?_ GE431.out) | exact HB.out)) hb); have n9_ := Aside0.mk (hbox); have n10_ := Aside0.mk ((by rw [hg]; exact (below_size (by repeat (first | (with_reducible first | exact HB.out | apply below_alloc | apply pw_below_drewN | apply below_drew1 | refine below_set ?_ GE414.out | refine below_set ?_ GE431.out) | exact HB.out))) : w.heap.size ≤ gb439)); have n11_ := Aside0.mk ((by rw [hg]; exact (below_size (by repeat (first | (with_reducible first | exact HB.out | apply below_alloc | apply pw_below_drewN | apply below_drew1 | refine below_set ?_ GE414.out | refine below_set ?_ GE431.out) | exact HB.out))) : w.heap.size ≤ gb439)); have n12_ := Aside0.mk ((by rw [hg]; exact Nat.ne_of_lt (blk_lt (g := gb414) (o := .cells #[.int .i64 a0_0, .slice A0_1 l0_1.length c0_1, .slice A0_2 l0_2.length c0_2] 25 (0, 0)) (by (with_reducible repeat (first | refine blk_drewN ?_ _ | refine blk_drew ?_ | refine blk_alloc ?_ _)); exact BK414.out)) : gb414 ≠ gb439)); have n13_ := Aside0.mk ((by rw [hg]; exact Nat.ne_of_gt (blk_lt (g := gb414) (o := .cells #[.int .i64 a0_0, .slice A0_1 l0_1.length c0_1, .slice A0_2 l0_2.length c0_2] 25 (0, 0)) (by (with_reducible repeat (first | refine blk_drewN ?_ _ | refine blk_drew ?_ | refine blk_alloc ?_ _)); exact BK414.out)) : gb439 ≠ gb414)); have n14_ := Aside0.mk ((by rw [hg]; exact Nat.ne_of_lt (blk_lt (g := gb431) (o := .cells #[.int .i64 t423, .slice Ao25 t424.length co25, .slice Ao26 t427.length co26] 30 (0, 0)) (by (with_reducible repeat (first | refine blk_drewN ?_ _ | refine blk_drew ?_ | refine blk_alloc ?_ _)); exact BK431.out)) : gb431 ≠ gb439)); have n15_ := Aside0.mk ((by rw [hg]; exact Nat.ne_of_gt (blk_lt (g := gb431) (o := .cells #[.int .i64 t423, .slice Ao25 t424.length co25, .slice Ao26 t427.length co26] 30 (0, 0)) (by (with_reducible repeat (first | refine blk_drewN ?_ _ | refine blk_drew ?_ | refine blk_alloc ?_ _)); exact BK431.out)) : gb439 ≠ gb431)); clear HO419; clear HO422; clear HO426; clear HO429; clear HO435; clear HO438; clear BK414; clear BK431; clear HB; have HO419 := n0_; have HO422 := n1_; have HO426 := n2_; have HO429 := n3_; have HO435 := n4_; have HO438 := n5_; have BK414 := n6_; have BK431 := n7_; have HB := n8_; have BK439 := n9_; have GW439 := n10_; have GE439 := n11_; have NB414_439 := n12_; have NB439_414 := n13_; have NB431_439 := n14_; have NB439_431 := n15_; clear n0_ n1_ n2_ n3_ n4_ n5_ n6_ n7_ n8_ n9_ n10_ n11_ n12_ n13_ n14_ n15_; clear hb hbox hg; have hnb30 := NB439_414.out; have hnc30 := NB414_439.out; have hnb31 := NB439_431.out; have hnc31 := NB431_439.out; have hcz32_0 : w29.cell? ⟨gb439, 0, none⟩ = some (.int .i64 0) := (blk_cell BK439.out 0).trans rfl; have hcz32_1 : w29.cell? ⟨gb439, 1, none⟩ = some (.slice none 0 0) := (blk_cell BK439.out 1).trans rfl; have hcz32_2 : w29.cell? ⟨gb439, 2, none⟩ = some (.slice none 0 0) := (blk_cell BK439.out 2).trans rfl; have hfz32_0 := blk_frozen BK439.out 0; have hfz32_1 := blk_frozen BK439.out 1; have hfz32_2 := blk_frozen BK439.out 2; obtain ⟨Ao33, co33, eo33⟩ := Kd.R_slice HO435.out; subst eo33; obtain ⟨Ao34, co34, eo34⟩ := Kd.R_slice HO438.out; subst eo34) | ((with_reducible refine gate_callee (f := 35) rfl ?_); refine goesL_ (some 37) rfl rfl Try.func35 (by kernel_rfl) rfl #[.agg #[.int .i64 t432, .slice Ao33 t433.length co33, .slice Ao34 t436.length co34], .int .i64 a1, .bool a2] rfl (by (try simp only [List.map_toArray, List.map_cons, List.map_nil]); first | done | rfl | (simp only [List.length_drop, List.length_take]; rfl)) ?_; (with_reducible refine (impl_SetJam.calls k t432 _ _ t433 _ _ t436 a1 a2 t440 t441 t444 t447 _ ?side1 ?side2 ?side3 ?side4 A12.out).mono ?_); (case side1 => refine (Kd.R_reads' (e := 3) (base := w.heap.size) (ok := fun k_ => ((True ∧ some k_ ≠ (.slice Ao19 t417.length co19 : Value).ownBlock) ∧ some k_ ≠ (.slice Ao25 t424.length co25 : Value).ownBlock)) (n := t433.length) (c := co33) ?_).2.2; exact (by (with_reducible repeat (first | apply Kd.R_alloc | apply Kd.R_drewN | apply Kd.R_drew)); exact (Kd.R_mono (Kd.R_far (p := ⟨gb439, 2, none⟩) (Kd.R_far (p := ⟨gb439, 1, none⟩) (Kd.R_far (p := ⟨gb439, 0, none⟩) (Kd.R_types HO435.out BK439.out (by decide)) (fun _ hk => hk.2) (.int .i64 t432)) (fun _ hk => hk.2) (.slice Ao33 t433.length co33)) (fun _ hk => hk.2) (.slice Ao34 t436.length co34)) (fun _ h_ => h_.1)))); (case side2 => exact (Kd.R_reads' HO435.out).2.1); (case side3 => refine (Kd.R_reads' (e := 71) (base := w.heap.size) (ok := fun k_ => ((True ∧ some k_ ≠ (.slice Ao20 t420.length co20 : Value).ownBlock) ∧ some k_ ≠ (.slice Ao26 t427.length co26 : Value).ownBlock)) (n := t436.length) (c := co34) ?_).2.2; exact (by (with_reducible repeat (first | apply Kd.R_alloc | apply Kd.R_drewN | apply Kd.R_drew)); exact (Kd.R_mono (Kd.R_far (p := ⟨gb439, 2, none⟩) (Kd.R_far (p := ⟨gb439, 1, none⟩) (Kd.R_far (p := ⟨gb439, 0, none⟩) (Kd.R_types HO438.out BK439.out (by decide)) (fun _ hk => hk.2) (.int .i64 t432)) (fun _ hk => hk.2) (.slice Ao33 t433.length co33)) (fun _ hk => hk.2) (.slice Ao34 t436.length co34)) (fun _ h_ => h_.1)))); (case side4 => exact (Kd.R_reads' HO438.out).2.1); rintro e w35 ⟨v442, v445, rfl, ho0, ho1, hb⟩; refine ⟨_, rfl, ?_⟩; have n0_ := Aside0.mk (Kd.R_elder' (by (with_reducible repeat (first | apply Kd.R_alloc | apply Kd.R_drewN | apply Kd.R_drew)); exact (Kd.R_mono (Kd.R_far (p := ⟨gb439, 2, none⟩) (Kd.R_far (p := ⟨gb439, 1, none⟩) (Kd.R_far (p := ⟨gb439, 0, none⟩) (Kd.R_types HO419.out BK439.out (by decide)) (fun _ hk => hk.2) (.int .i64 t432)) (fun _ hk => hk.2) (.slice Ao33 t433.length co33)) (fun _ hk => hk.2) (.slice Ao34 t436.length co34)) (fun _ h_ => h_.1))) (Kd.R_base ho0) hb); have n1_ := Aside0.mk (Kd.R_elder' (by (with_reducible repeat (first | apply Kd.R_alloc | apply Kd.R_drewN | apply Kd.R_drew)); exact (Kd.R_mono (Kd.R_far (p := ⟨gb439, 2, none⟩) (Kd.R_far (p := ⟨gb439, 1, none⟩) (Kd.R_far (p := ⟨gb439, 0, none⟩) (Kd.R_types HO422.out BK439.out (by decide)) (fun _ hk => hk.2) (.int .i64 t432)) (fun _ hk => hk.2) (.slice Ao33 t433.length co33)) (fun _ hk => hk.2) (.slice Ao34 t436.length co34)) (fun _ h_ => h_.1))) (Kd.R_base ho1) hb); have n2_ := Aside0.mk (Kd.R_elder' (by (with_reducible repeat (first | apply Kd.R_alloc | apply Kd.R_drewN | apply Kd.R_drew)); exact (Kd.R_mono (Kd.R_far (p := ⟨gb439, 2, none⟩) (Kd.R_far (p := ⟨gb439, 1, none⟩) (Kd.R_far (p := ⟨gb439, 0, none⟩) (Kd.R_types HO426.out BK439.out (by decide)) (fun _ hk => hk.2) (.int .i64 t432)) (fun _ hk => hk.2) (.slice Ao33 t433.length co33)) (fun _ hk => hk.2) (.slice Ao34 t436.length co34)) (fun _ h_ => h_.1))) (Kd.R_base ho0) hb); have n3_ := Aside0.mk (Kd.R_elder' (by (with_reducible repeat (first | apply Kd.R_alloc | apply Kd.R_drewN | apply Kd.R_drew)); exact (Kd.R_mono (Kd.R_far (p := ⟨gb439, 2, none⟩) (Kd.R_far (p := ⟨gb439, 1, none⟩) (Kd.R_far (p := ⟨gb439, 0, none⟩) (Kd.R_types HO429.out BK439.out (by decide)) (fun _ hk => hk.2) (.int .i64 t432)) (fun _ hk => hk.2) (.slice Ao33 t433.length co33)) (fun _ hk => hk.2) (.slice Ao34 t436.length co34)) (fun _ h_ => h_.1))) (Kd.R_base ho1) hb); have n4_ := Aside0.mk (Kd.R_elder' (by (with_reducible repeat (first | apply Kd.R_alloc | apply Kd.R_drewN | apply Kd.R_drew)); exact (Kd.R_mono (Kd.R_far (p := ⟨gb439, 2, none⟩) (Kd.R_far (p := ⟨gb439, 1, none⟩) (Kd.R_far (p := ⟨gb439, 0, none⟩) (Kd.R_types HO435.out BK439.out (by decide)) (fun _ hk => hk.2) (.int .i64 t432)) (fun _ hk => hk.2) (.slice Ao33 t433.length co33)) (fun _ hk => hk.2) (.slice Ao34 t436.length co34)) (fun _ h_ => h_.1))) (Kd.R_base ho0) hb); have n5_ := Aside0.mk (Kd.R_elder' (by (with_reducible repeat (first | apply Kd.R_alloc | apply Kd.R_drewN | apply Kd.R_drew)); exact (Kd.R_mono (Kd.R_far (p := ⟨gb439, 2, none⟩) (Kd.R_far (p := ⟨gb439, 1, none⟩) (Kd.R_far (p := ⟨gb439, 0, none⟩) (Kd.R_types HO438.out BK439.out (by decide)) (fun _ hk => hk.2) (.int .i64 t432)) (fun _ hk => hk.2) (.slice Ao33 t433.length co33)) (fun _ hk => hk.2) (.slice Ao34 t436.length co34)) (fun _ h_ => h_.1))) (Kd.R_base ho1) hb); have n6_ := Aside0.mk (Kd.R_lower (Kd.R_new' (Kd.R_new' (Kd.R_new' ho0 (Kd.R_lt (by (with_reducible repeat (first | apply Kd.R_alloc | apply Kd.R_drewN | apply Kd.R_drew)); exact (Kd.R_mono (Kd.R_far (p := ⟨gb439, 2, none⟩) (Kd.R_far (p := ⟨gb439, 1, none⟩) (Kd.R_far (p := ⟨gb439, 0, none⟩) (Kd.R_types HO419.out BK439.out (by decide)) (fun _ hk => hk.2) (.int .i64 t432)) (fun _ hk => hk.2) (.slice Ao33 t433.length co33)) (fun _ hk => hk.2) (.slice Ao34 t436.length co34)) (fun _ h_ => h_.1))))) (Kd.R_lt (by (with_reducible repeat (first | apply Kd.R_alloc | apply Kd.R_drewN | apply Kd.R_drew)); exact (Kd.R_mono (Kd.R_far (p := ⟨gb439, 2, none⟩) (Kd.R_far (p := ⟨gb439, 1, none⟩) (Kd.R_far (p := ⟨gb439, 0, none⟩) (Kd.R_types HO426.out BK439.out (by decide)) (fun _ hk => hk.2) (.int .i64 t432)) (fun _ hk => hk.2) (.slice Ao33 t433.length co33)) (fun _ hk => hk.2) (.slice Ao34 t436.length co34)) (fun _ h_ => h_.1))))) (Kd.R_lt (by (with_reducible repeat (first | apply Kd.R_alloc | apply Kd.R_drewN | apply Kd.R_drew)); exact (Kd.R_mono (Kd.R_far (p := ⟨gb439, 2, none⟩) (Kd.R_far (p := ⟨gb439, 1, none⟩) (Kd.R_far (p := ⟨gb439, 0, none⟩) (Kd.R_types HO435.out BK439.out (by decide)) (fun _ hk => hk.2) (.int .i64 t432)) (fun _ hk => hk.2) (.slice Ao33 t433.length co33)) (fun _ hk => hk.2) (.slice Ao34 t436.length co34)) (fun _ h_ => h_.1))))) (below_size (by repeat (first | (with_reducible first | exact HB.out | apply below_alloc | apply pw_below_drewN | apply below_drew1 | refine below_set ?_ GE414.out | refine below_set ?_ GE431.out | refine below_set ?_ GE439.out) | exact HB.out)))); have n7_ := Aside0.mk (Kd.R_lower (Kd.R_new' (Kd.R_new' (Kd.R_new' ho1 (Kd.R_lt (by (with_reducible repeat (first | apply Kd.R_alloc | apply Kd.R_drewN | apply Kd.R_drew)); exact (Kd.R_mono (Kd.R_far (p := ⟨gb439, 2, none⟩) (Kd.R_far (p := ⟨gb439, 1, none⟩) (Kd.R_far (p := ⟨gb439, 0, none⟩) (Kd.R_types HO422.out BK439.out (by decide)) (fun _ hk => hk.2) (.int .i64 t432)) (fun _ hk => hk.2) (.slice Ao33 t433.length co33)) (fun _ hk => hk.2) (.slice Ao34 t436.length co34)) (fun _ h_ => h_.1))))) (Kd.R_lt (by (with_reducible repeat (first | apply Kd.R_alloc | apply Kd.R_drewN | apply Kd.R_drew)); exact (Kd.R_mono (Kd.R_far (p := ⟨gb439, 2, none⟩) (Kd.R_far (p := ⟨gb439, 1, none⟩) (Kd.R_far (p := ⟨gb439, 0, none⟩) (Kd.R_types HO429.out BK439.out (by decide)) (fun _ hk => hk.2) (.int .i64 t432)) (fun _ hk => hk.2) (.slice Ao33 t433.length co33)) (fun _ hk => hk.2) (.slice Ao34 t436.length co34)) (fun _ h_ => h_.1))))) (Kd.R_lt (by (with_reducible repeat (first | apply Kd.R_alloc | apply Kd.R_drewN | apply Kd.R_drew)); exact (Kd.R_mono (Kd.R_far (p := ⟨gb439, 2, none⟩) (Kd.R_far (p := ⟨gb439, 1, none⟩) (Kd.R_far (p := ⟨gb439, 0, none⟩) (Kd.R_types HO438.out BK439.out (by decide)) (fun _ hk => hk.2) (.int .i64 t432)) (fun _ hk => hk.2) (.slice Ao33 t433.length co33)) (fun _ hk => hk.2) (.slice Ao34 t436.length co34)) (fun _ h_ => h_.1))))) (below_size (by repeat (first | (with_reducible first | exact HB.out | apply below_alloc | apply pw_below_drewN | apply below_drew1 | refine below_set ?_ GE414.out | refine below_set ?_ GE431.out | refine below_set ?_ GE439.out) | exact HB.out)))); have n8_ := Aside0.mk (blk_below (g := gb414) (o := .cells #[.int .i64 a0_0, .slice A0_1 l0_1.length c0_1, .slice A0_2 l0_2.length c0_2] 25 (0, 0)) (by (with_reducible repeat (first | refine blk_drewN ?_ _ | refine blk_drew ?_ | refine blk_alloc ?_ _)); refine blk_far ?_ NB414_439.out _; (with_reducible repeat (first | refine blk_drewN ?_ _ | refine blk_drew ?_ | refine blk_alloc ?_ _)); refine blk_far ?_ NB414_439.out _; (with_reducible repeat (first | refine blk_drewN ?_ _ | refine blk_drew ?_ | refine blk_alloc ?_ _)); refine blk_far ?_ NB414_439.out _; (with_reducible repeat (first | refine blk_drewN ?_ _ | refine blk_drew ?_ | refine blk_alloc ?_ _)); exact BK414.out) hb); have n9_ := Aside0.mk (blk_below (g := gb431) (o := .cells #[.int .i64 t423, .slice Ao25 t424.length co25, .slice Ao26 t427.length co26] 30 (0, 0)) (by (with_reducible repeat (first | refine blk_drewN ?_ _ | refine blk_drew ?_ | refine blk_alloc ?_ _)); refine blk_far ?_ NB431_439.out _; (with_reducible repeat (first | refine blk_drewN ?_ _ | refine blk_drew ?_ | refine blk_alloc ?_ _)); refine blk_far ?_ NB431_439.out _; (with_reducible repeat (first | refine blk_drewN ?_ _ | refine blk_drew ?_ | refine blk_alloc ?_ _)); refine blk_far ?_ NB431_439.out _; (with_reducible repeat (first | refine blk_drewN ?_ _ | refine blk_drew ?_ | refine blk_alloc ?_ _)); exact BK431.out) hb); have n10_ := Aside0.mk (blk_below (g := gb439) (o := .cells #[.int .i64 t432, .slice Ao33 t433.length co33, .slice Ao34 t436.length co34] 30 (0, 0)) (by (with_reducible repeat (first | refine blk_drewN ?_ _ | refine blk_drew ?_ | refine blk_alloc ?_ _)); refine blk_put (cs := #[.int .i64 t432, .slice Ao33 t433.length co33, .slice none 0 0]) ?_ 2 _ rfl; (with_reducible repeat (first | refine blk_drewN ?_ _ | refine blk_drew ?_ | refine blk_alloc ?_ _)); refine blk_put (cs := #[.int .i64 t432, .slice none 0 0, .slice none 0 0]) ?_ 1 _ rfl; (with_reducible repeat (first | refine blk_drewN ?_ _ | refine blk_drew ?_ | refine blk_alloc ?_ _)); refine blk_put (cs := #[.int .i64 0, .slice none 0 0, .slice none 0 0]) ?_ 0 _ rfl; (with_reducible repeat (first | refine blk_drewN ?_ _ | refine blk_drew ?_ | refine blk_alloc ?_ _)); exact BK439.out) hb); have n11_ := Aside0.mk (below_step (by repeat (first | (with_reducible first | exact HB.out | apply below_alloc | apply pw_below_drewN | apply below_drew1 | refine below_set ?_ GE414.out | refine below_set ?_ GE431.out | refine below_set ?_ GE439.out) | exact HB.out)) hb); clear HO419; clear HO422; clear HO426; clear HO429; clear HO435; clear HO438; clear BK414; clear BK431; clear BK439; clear HB; have HO419 := n0_; have HO422 := n1_; have HO426 := n2_; have HO429 := n3_; have HO435 := n4_; have HO438 := n5_; have HO443 := n6_; have HO446 := n7_; have BK414 := n8_; have BK431 := n9_; have BK439 := n10_; have HB := n11_; clear n0_ n1_ n2_ n3_ n4_ n5_ n6_ n7_ n8_ n9_ n10_ n11_; (try clear hb); (try clear hb2); (try clear hk); (try clear hi); (try clear ho0); (try clear ho1)) | ((with_reducible refine gate_dst (N := 11) rfl ?_); refine box_event ?hg (N := 11) ?hd (cs := #[.int .i64 0, .slice none 0 0, .slice none 0 0]) (t := 30) ?hr ?_; (case hd => rfl); (case hg => rfl); (case hr => first | (go_simp; done) | (go_simp; rfl)); intro gb448 hg w36 hbox hb; have n0_ := Aside0.mk (Kd.R_below (by (with_reducible repeat (first | apply Kd.R_alloc | apply Kd.R_drewN | apply Kd.R_drew)); exact HO419.out) hb); have n1_ := Aside0.mk (Kd.R_below (by (with_reducible repeat (first | apply Kd.R_alloc | apply Kd.R_drewN | apply Kd.R_drew)); exact HO422.out) hb); have n2_ := Aside0.mk (Kd.R_below (by (with_reducible repeat (first | apply Kd.R_alloc | apply Kd.R_drewN | apply Kd.R_drew)); exact HO426.out) hb); have n3_ := Aside0.mk (Kd.R_below (by (with_reducible repeat (first | apply Kd.R_alloc | apply Kd.R_drewN | apply Kd.R_drew)); exact HO429.out) hb); have n4_ := Aside0.mk (Kd.R_below (by (with_reducible repeat (first | apply Kd.R_alloc | apply Kd.R_drewN | apply Kd.R_drew)); exact HO435.out) hb); have n5_ := Aside0.mk (Kd.R_below (by (with_reducible repeat (first | apply Kd.R_alloc | apply Kd.R_drewN | apply Kd.R_drew)); exact HO438.out) hb); have n6_ := Aside0.mk (Kd.R_below (by (with_reducible repeat (first | apply Kd.R_alloc | apply Kd.R_drewN | apply Kd.R_drew)); exact HO443.out) hb); have n7_ := Aside0.mk (Kd.R_below (by (with_reducible repeat (first | apply Kd.R_alloc | apply Kd.R_drewN | apply Kd.R_drew)); exact HO446.out) hb); have n8_ := Aside0.mk (blk_below (g := gb414) (o := .cells #[.int .i64 a0_0, .slice A0_1 l0_1.length c0_1, .slice A0_2 l0_2.length c0_2] 25 (0, 0)) (by (with_reducible repeat (first | refine blk_drewN ?_ _ | refine blk_drew ?_ | refine blk_alloc ?_ _)); exact BK414.out) hb); have n9_ := Aside0.mk (blk_below (g := gb431) (o := .cells #[.int .i64 t423, .slice Ao25 t424.length co25, .slice Ao26 t427.length co26] 30 (0, 0)) (by (with_reducible repeat (first | refine blk_drewN ?_ _ | refine blk_drew ?_ | refine blk_alloc ?_ _)); exact BK431.out) hb); have n10_ := Aside0.mk (blk_below (g := gb439) (o := .cells #[.int .i64 t432, .slice Ao33 t433.length co33, .slice Ao34 t436.length co34] 30 (0, 0)) (by (with_reducible repeat (first | refine blk_drewN ?_ _ | refine blk_drew ?_ | refine blk_alloc ?_ _)); exact BK439.out) hb); have n11_ := Aside0.mk (below_step (by repeat (first | (with_reducible first | exact HB.out | apply below_alloc | apply pw_below_drewN | apply below_drew1 | refine below_set ?_ GE414.out | refine below_set ?_ GE431.out | refine below_set ?_ GE439.out) | exact HB.out)) hb); have n12_ := Aside0.mk (hbox); have n13_ := Aside0.mk ((by rw [hg]; exact (below_size (by repeat (first | (with_reducible first | exact HB.out | apply below_alloc | apply pw_below_drewN | apply below_drew1 | refine below_set ?_ GE414.out | refine below_set ?_ GE431.out | refine below_set ?_ GE439.out) | exact HB.out))) : w.heap.size ≤ gb448)); have n14_ := Aside0.mk ((by rw [hg]; exact (below_size (by repeat (first | (with_reducible first | exact HB.out | apply below_alloc | apply pw_below_drewN | apply below_drew1 | refine below_set ?_ GE414.out | refine below_set ?_ GE431.out | refine below_set ?_ GE439.out) | exact HB.out))) : w.heap.size ≤ gb448)); have n15_ := Aside0.mk ((by rw [hg]; exact Nat.ne_of_lt (blk_lt (g := gb414) (o := .cells #[.int .i64 a0_0, .slice A0_1 l0_1.length c0_1, .slice A0_2 l0_2.length c0_2] 25 (0, 0)) (by (with_reducible repeat (first | refine blk_drewN ?_ _ | refine blk_drew ?_ | refine blk_alloc ?_ _)); exact BK414.out)) : gb414 ≠ gb448)); have n16_ := Aside0.mk ((by rw [hg]; exact Nat.ne_of_gt (blk_lt (g := gb414) (o := .cells #[.int .i64 a0_0, .slice A0_1 l0_1.length c0_1, .slice A0_2 l0_2.length c0_2] 25 (0, 0)) (by (with_reducible repeat (first | refine blk_drewN ?_ _ | refine blk_drew ?_ | refine blk_alloc ?_ _)); exact BK414.out)) : gb448 ≠ gb414)); have n17_ := Aside0.mk ((by rw [hg]; exact Nat.ne_of_lt (blk_lt (g := gb431) (o := .cells #[.int .i64 t423, .slice Ao25 t424.length co25, .slice Ao26 t427.length co26] 30 (0, 0)) (by (with_reducible repeat (first | refine blk_drewN ?_ _ | refine blk_drew ?_ | refine blk_alloc ?_ _)); exact BK431.out)) : gb431 ≠ gb448)); have n18_ := Aside0.mk ((by rw [hg]; exact Nat.ne_of_gt (blk_lt (g := gb431) (o := .cells #[.int .i64 t423, .slice Ao25 t424.length co25, .slice Ao26 t427.length co26] 30 (0, 0)) (by (with_reducible repeat (first | refine blk_drewN ?_ _ | refine blk_drew ?_ | refine blk_alloc ?_ _)); exact BK431.out)) : gb448 ≠ gb431)); have n19_ := Aside0.mk ((by rw [hg]; exact Nat.ne_of_lt (blk_lt (g := gb439) (o := .cells #[.int .i64 t432, .slice Ao33 t433.length co33, .slice Ao34 t436.length co34] 30 (0, 0)) (by (with_reducible repeat (first | refine blk_drewN ?_ _ | refine blk_drew ?_ | refine blk_alloc ?_ _)); exact BK439.out)) : gb439 ≠ gb448)); have n20_ := Aside0.mk ((by rw [hg]; exact Nat.ne_of_gt (blk_lt (g := gb439) (o := .cells #[.int .i64 t432, .slice Ao33 t433.length co33, .slice Ao34 t436.length co34] 30 (0, 0)) (by (with_reducible repeat (first | refine blk_drewN ?_ _ | refine blk_drew ?_ | refine blk_alloc ?_ _)); exact BK439.out)) : gb448 ≠ gb439)); clear HO419; clear HO422; clear HO426; clear HO429; clear HO435; clear HO438; clear HO443; clear HO446; clear BK414; clear BK431; clear BK439; clear HB; have HO419 := n0_; have HO422 := n1_; have HO426 := n2_; have HO429 := n3_; have HO435 := n4_; have HO438 := n5_; have HO443 := n6_; have HO446 := n7_; have BK414 := n8_; have BK431 := n9_; have BK439 := n10_; have HB := n11_; have BK448 := n12_; have GW448 := n13_; have GE448 := n14_; have NB414_448 := n15_; have NB448_414 := n16_; have NB431_448 := n17_; have NB448_431 := n18_; have NB439_448 := n19_; have NB448_439 := n20_; clear n0_ n1_ n2_ n3_ n4_ n5_ n6_ n7_ n8_ n9_ n10_ n11_ n12_ n13_ n14_ n15_ n16_ n17_ n18_ n19_ n20_; clear hb hbox hg; have hnb37 := NB448_414.out; have hnc37 := NB414_448.out; have hnb38 := NB448_431.out; have hnc38 := NB431_448.out; have hnb39 := NB448_439.out; have hnc39 := NB439_448.out; have hcz40_0 : w36.cell? ⟨gb448, 0, none⟩ = some (.int .i64 0) := (blk_cell BK448.out 0).trans rfl; have hcz40_1 : w36.cell? ⟨gb448, 1, none⟩ = some (.slice none 0 0) := (blk_cell BK448.out 1).trans rfl; have hcz40_2 : w36.cell? ⟨gb448, 2, none⟩ = some (.slice none 0 0) := (blk_cell BK448.out 2).trans rfl; have hfz40_0 := blk_frozen BK448.out 0; have hfz40_1 := blk_frozen BK448.out 1; have hfz40_2 := blk_frozen BK448.out 2; obtain ⟨Ao41, co41, eo41⟩ := Kd.R_slice HO443.out; subst eo41; obtain ⟨Ao42, co42, eo42⟩ := Kd.R_slice HO446.out; subst eo42))
    (try simp only [Act.put, List.setIfInBounds_toArray, List.set_cons_zero, List.set_cons_succ])
    go_cut [48] (fun v48 wc => ∃ (kq : Nat) (x48_12 : Bool), v48 = .bool x48_12 ∧ Aside0 (laws_FnExactSetJam.j0 kq a1 a2 t430 t447 x48_12 a0_0 l0_1 l0_2 t423 t424 t427 t432 t433 t436 t440 t441 t444 = some r) ∧ Aside0 (kq ≤ k) ∧ Aside0 (Kd.R (Kd.int .i64) 3 wc w.heap.size (fun k_ => some k_ ≠ ((.slice Ao33 t433.length co33) : Value).ownBlock ∧ some k_ ≠ ((.slice Ao41 t441.length co41) : Value).ownBlock) (.slice Ao25 t424.length co25) t424) ∧ Aside0 (Kd.R k71 71 wc w.heap.size (fun k_ => some k_ ≠ ((.slice Ao34 t436.length co34) : Value).ownBlock ∧ some k_ ≠ ((.slice Ao42 t444.length co42) : Value).ownBlock) (.slice Ao26 t427.length co26) t427) ∧ Aside0 (Kd.R (Kd.int .i64) 3 wc w.heap.size (fun k_ => some k_ ≠ ((.slice Ao25 t424.length co25) : Value).ownBlock ∧ some k_ ≠ ((.slice Ao41 t441.length co41) : Value).ownBlock) (.slice Ao33 t433.length co33) t433) ∧ Aside0 (Kd.R k71 71 wc w.heap.size (fun k_ => some k_ ≠ ((.slice Ao26 t427.length co26) : Value).ownBlock ∧ some k_ ≠ ((.slice Ao42 t444.length co42) : Value).ownBlock) (.slice Ao34 t436.length co34) t436) ∧ Aside0 (Kd.R (Kd.int .i64) 3 wc w.heap.size (fun k_ => some k_ ≠ ((.slice Ao25 t424.length co25) : Value).ownBlock ∧ some k_ ≠ ((.slice Ao33 t433.length co33) : Value).ownBlock) (.slice Ao41 t441.length co41) t441) ∧ Aside0 (Kd.R k71 71 wc w.heap.size (fun k_ => some k_ ≠ ((.slice Ao26 t427.length co26) : Value).ownBlock ∧ some k_ ≠ ((.slice Ao34 t436.length co34) : Value).ownBlock) (.slice Ao42 t444.length co42) t444) ∧ Aside0 (wc.heap[gb414]? = some (.cells #[.int .i64 a0_0, (.slice A0_1 l0_1.length c0_1), (.slice A0_2 l0_2.length c0_2)] 25 (0, 0))) ∧ Aside0 (wc.heap[gb431]? = some (.cells #[.int .i64 t423, (.slice Ao25 t424.length co25), (.slice Ao26 t427.length co26)] 30 (0, 0))) ∧ Aside0 (wc.heap[gb439]? = some (.cells #[.int .i64 t432, (.slice Ao33 t433.length co33), (.slice Ao34 t436.length co34)] 30 (0, 0))) ∧ Aside0 (wc.heap[gb448]? = some (.cells #[.int .i64 t440, (.slice Ao41 t441.length co41), (.slice Ao42 t444.length co42)] 30 (0, 0))) ∧ Aside0 (Below w.heap.size w wc))
    case first =>
      have H := HC13.out
      clear HC13
      replace H := Option.bind_eq_some_iff.mp H
      obtain ⟨t449, A430, H⟩ := H
      replace H : (if t449 = true then (laws_FnExactSetJam.j0 k a1 a2 t430 t447 (t447 != t430) a0_0 l0_1 l0_2 t423 t424 t427 t432 t433 t436 t440 t441 t444) else (laws_FnExactSetJam.j0 k a1 a2 t430 t447 true a0_0 l0_1 l0_2 t423 t424 t427 t432 t433 t436 t440 t441 t444)) = some r := H
      have A43 := Aside0.mk A430
      clear A430
      by_cases c44 : t449 = true
      · subst c44
        have H1 : (laws_FnExactSetJam.j0 k a1 a2 t430 t447 (t447 != t430) a0_0 l0_1 l0_2 t423 t424 t427 t432 t433 t436 t440 t441 t444) = some r := by rw [if_pos rfl] at H; exact H
        clear H
        have H := H1
        clear H1
        have H' := Aside0.mk H
        clear H
        have hnb45 := NB448_414.out
        have hnc45 := NB414_448.out
        have hnb46 := NB448_431.out
        have hnc46 := NB431_448.out
        have hnb47 := NB448_439.out
        have hnc47 := NB439_448.out
        have hcz48_0 : w36.cell? ⟨gb448, 0, none⟩ = some (.int .i64 0) := (blk_cell BK448.out 0).trans rfl
        have hcz48_1 : w36.cell? ⟨gb448, 1, none⟩ = some (.slice none 0 0) := (blk_cell BK448.out 1).trans rfl
        have hcz48_2 : w36.cell? ⟨gb448, 2, none⟩ = some (.slice none 0 0) := (blk_cell BK448.out 2).trans rfl
        have hfz48_0 := blk_frozen BK448.out 0
        have hfz48_1 := blk_frozen BK448.out 1
        have hfz48_2 := blk_frozen BK448.out 2
        have hnb49 := NB431_414.out
        have hnc49 := NB414_431.out
        have hnb50 := NB431_439.out
        have hnc50 := NB439_431.out
        have hcz51_0 : w36.cell? ⟨gb431, 0, none⟩ = some (.int .i64 t423) := (blk_cell BK431.out 0).trans rfl
        have hcz51_1 : w36.cell? ⟨gb431, 1, none⟩ = some (.slice Ao25 t424.length co25) := (blk_cell BK431.out 1).trans rfl
        have hcz51_2 : w36.cell? ⟨gb431, 2, none⟩ = some (.slice Ao26 t427.length co26) := (blk_cell BK431.out 2).trans rfl
        have hfz51_0 := blk_frozen BK431.out 0
        have hfz51_1 := blk_frozen BK431.out 1
        have hfz51_2 := blk_frozen BK431.out 2
        go_wp2_with (first | ((with_reducible refine gate_callee (f := 19) rfl ?_); refine goesL_ (some 42) rfl rfl Try.func19 (by kernel_rfl) rfl #[.agg #[.int .i64 t440, .slice Ao41 t441.length co41, .slice Ao42 t444.length co42], .agg #[.int .i64 t423, .slice Ao25 t424.length co25, .slice Ao26 t427.length co26]] rfl (by (try simp only [List.map_toArray, List.map_cons, List.map_nil]); first | done | rfl | (simp only [List.length_drop, List.length_take]; rfl)) ?_; (with_reducible refine (laws_eqColumn.calls k t440 _ _ t441 _ _ t444 t423 _ _ t424 _ _ t427 true _ ?side1 ?side2 ?side3 ?side4 ?side5 ?side6 ?side7 ?side8 A43.out).mono ?_); (case side1 => refine (Kd.R_reads' (e := 3) (base := w.heap.size) (ok := fun k_ => (((True ∧ some k_ ≠ (.slice Ao19 t417.length co19 : Value).ownBlock) ∧ some k_ ≠ (.slice Ao25 t424.length co25 : Value).ownBlock) ∧ some k_ ≠ (.slice Ao33 t433.length co33 : Value).ownBlock)) (n := t441.length) (c := co41) ?_).2.2; exact (by (with_reducible repeat (first | apply Kd.R_alloc | apply Kd.R_drewN | apply Kd.R_drew)); exact (Kd.R_mono (Kd.R_far (p := ⟨gb448, 2, none⟩) (Kd.R_far (p := ⟨gb448, 1, none⟩) (Kd.R_far (p := ⟨gb448, 0, none⟩) (Kd.R_types HO443.out BK448.out (by decide)) (fun _ hk => hk.2) (.int .i64 t440)) (fun _ hk => hk.2) (.slice Ao41 t441.length co41)) (fun _ hk => hk.2) (.slice Ao42 t444.length co42)) (fun _ h_ => h_.1)))); (case side2 => exact (Kd.R_reads' HO443.out).2.1); (case side3 => refine (Kd.R_reads' (e := 71) (base := w.heap.size) (ok := fun k_ => (((True ∧ some k_ ≠ (.slice Ao20 t420.length co20 : Value).ownBlock) ∧ some k_ ≠ (.slice Ao26 t427.length co26 : Value).ownBlock) ∧ some k_ ≠ (.slice Ao34 t436.length co34 : Value).ownBlock)) (n := t444.length) (c := co42) ?_).2.2; exact (by (with_reducible repeat (first | apply Kd.R_alloc | apply Kd.R_drewN | apply Kd.R_drew)); exact (Kd.R_mono (Kd.R_far (p := ⟨gb448, 2, none⟩) (Kd.R_far (p := ⟨gb448, 1, none⟩) (Kd.R_far (p := ⟨gb448, 0, none⟩) (Kd.R_types HO446.out BK448.out (by decide)) (fun _ hk => hk.2) (.int .i64 t440)) (fun _ hk => hk.2) (.slice Ao41 t441.length co41)) (fun _ hk => hk.2) (.slice Ao42 t444.length co42)) (fun _ h_ => h_.1)))); (case side4 => exact (Kd.R_reads' HO446.out).2.1); (case side5 => refine (Kd.R_reads' (e := 3) (base := w.heap.size) (ok := fun k_ => (((True ∧ some k_ ≠ (.slice Ao19 t417.length co19 : Value).ownBlock) ∧ some k_ ≠ (.slice Ao33 t433.length co33 : Value).ownBlock) ∧ some k_ ≠ (.slice Ao41 t441.length co41 : Value).ownBlock)) (n := t424.length) (c := co25) ?_).2.2; exact (by (with_reducible repeat (first | apply Kd.R_alloc | apply Kd.R_drewN | apply Kd.R_drew)); exact (Kd.R_mono (Kd.R_far (p := ⟨gb448, 2, none⟩) (Kd.R_far (p := ⟨gb448, 1, none⟩) (Kd.R_far (p := ⟨gb448, 0, none⟩) (Kd.R_types HO426.out BK448.out (by decide)) (fun _ hk => hk.2) (.int .i64 t440)) (fun _ hk => hk.2) (.slice Ao41 t441.length co41)) (fun _ hk => hk.2) (.slice Ao42 t444.length co42)) (fun _ h_ => h_.1)))); (case side6 => exact (Kd.R_reads' HO426.out).2.1); (case side7 => refine (Kd.R_reads' (e := 71) (base := w.heap.size) (ok := fun k_ => (((True ∧ some k_ ≠ (.slice Ao20 t420.length co20 : Value).ownBlock) ∧ some k_ ≠ (.slice Ao34 t436.length co34 : Value).ownBlock) ∧ some k_ ≠ (.slice Ao42 t444.length co42 : Value).ownBlock)) (n := t427.length) (c := co26) ?_).2.2; exact (by (with_reducible repeat (first | apply Kd.R_alloc | apply Kd.R_drewN | apply Kd.R_drew)); exact (Kd.R_mono (Kd.R_far (p := ⟨gb448, 2, none⟩) (Kd.R_far (p := ⟨gb448, 1, none⟩) (Kd.R_far (p := ⟨gb448, 0, none⟩) (Kd.R_types HO429.out BK448.out (by decide)) (fun _ hk => hk.2) (.int .i64 t440)) (fun _ hk => hk.2) (.slice Ao41 t441.length co41)) (fun _ hk => hk.2) (.slice Ao42 t444.length co42)) (fun _ h_ => h_.1)))); (case side8 => exact (Kd.R_reads' HO429.out).2.1); rintro e w52 ⟨rfl, hb⟩; refine ⟨_, rfl, ?_⟩; have n0_ := Aside0.mk (Kd.R_below (by (with_reducible repeat (first | apply Kd.R_alloc | apply Kd.R_drewN | apply Kd.R_drew)); exact (Kd.R_mono (Kd.R_far (p := ⟨gb448, 2, none⟩) (Kd.R_far (p := ⟨gb448, 1, none⟩) (Kd.R_far (p := ⟨gb448, 0, none⟩) (Kd.R_types HO419.out BK448.out (by decide)) (fun _ hk => hk.2) (.int .i64 t440)) (fun _ hk => hk.2) (.slice Ao41 t441.length co41)) (fun _ hk => hk.2) (.slice Ao42 t444.length co42)) (fun _ h_ => h_.1))) hb); have n1_ := Aside0.mk (Kd.R_below (by (with_reducible repeat (first | apply Kd.R_alloc | apply Kd.R_drewN | apply Kd.R_drew)); exact (Kd.R_mono (Kd.R_far (p := ⟨gb448, 2, none⟩) (Kd.R_far (p := ⟨gb448, 1, none⟩) (Kd.R_far (p := ⟨gb448, 0, none⟩) (Kd.R_types HO422.out BK448.out (by decide)) (fun _ hk => hk.2) (.int .i64 t440)) (fun _ hk => hk.2) (.slice Ao41 t441.length co41)) (fun _ hk => hk.2) (.slice Ao42 t444.length co42)) (fun _ h_ => h_.1))) hb); have n2_ := Aside0.mk (Kd.R_below (by (with_reducible repeat (first | apply Kd.R_alloc | apply Kd.R_drewN | apply Kd.R_drew)); exact (Kd.R_mono (Kd.R_far (p := ⟨gb448, 2, none⟩) (Kd.R_far (p := ⟨gb448, 1, none⟩) (Kd.R_far (p := ⟨gb448, 0, none⟩) (Kd.R_types HO426.out BK448.out (by decide)) (fun _ hk => hk.2) (.int .i64 t440)) (fun _ hk => hk.2) (.slice Ao41 t441.length co41)) (fun _ hk => hk.2) (.slice Ao42 t444.length co42)) (fun _ h_ => h_.1))) hb); have n3_ := Aside0.mk (Kd.R_below (by (with_reducible repeat (first | apply Kd.R_alloc | apply Kd.R_drewN | apply Kd.R_drew)); exact (Kd.R_mono (Kd.R_far (p := ⟨gb448, 2, none⟩) (Kd.R_far (p := ⟨gb448, 1, none⟩) (Kd.R_far (p := ⟨gb448, 0, none⟩) (Kd.R_types HO429.out BK448.out (by decide)) (fun _ hk => hk.2) (.int .i64 t440)) (fun _ hk => hk.2) (.slice Ao41 t441.length co41)) (fun _ hk => hk.2) (.slice Ao42 t444.length co42)) (fun _ h_ => h_.1))) hb); have n4_ := Aside0.mk (Kd.R_below (by (with_reducible repeat (first | apply Kd.R_alloc | apply Kd.R_drewN | apply Kd.R_drew)); exact (Kd.R_mono (Kd.R_far (p := ⟨gb448, 2, none⟩) (Kd.R_far (p := ⟨gb448, 1, none⟩) (Kd.R_far (p := ⟨gb448, 0, none⟩) (Kd.R_types HO435.out BK448.out (by decide)) (fun _ hk => hk.2) (.int .i64 t440)) (fun _ hk => hk.2) (.slice Ao41 t441.length co41)) (fun _ hk => hk.2) (.slice Ao42 t444.length co42)) (fun _ h_ => h_.1))) hb); have n5_ := Aside0.mk (Kd.R_below (by (with_reducible repeat (first | apply Kd.R_alloc | apply Kd.R_drewN | apply Kd.R_drew)); exact (Kd.R_mono (Kd.R_far (p := ⟨gb448, 2, none⟩) (Kd.R_far (p := ⟨gb448, 1, none⟩) (Kd.R_far (p := ⟨gb448, 0, none⟩) (Kd.R_types HO438.out BK448.out (by decide)) (fun _ hk => hk.2) (.int .i64 t440)) (fun _ hk => hk.2) (.slice Ao41 t441.length co41)) (fun _ hk => hk.2) (.slice Ao42 t444.length co42)) (fun _ h_ => h_.1))) hb); have n6_ := Aside0.mk (Kd.R_below (by (with_reducible repeat (first | apply Kd.R_alloc | apply Kd.R_drewN | apply Kd.R_drew)); exact (Kd.R_mono (Kd.R_far (p := ⟨gb448, 2, none⟩) (Kd.R_far (p := ⟨gb448, 1, none⟩) (Kd.R_far (p := ⟨gb448, 0, none⟩) (Kd.R_types HO443.out BK448.out (by decide)) (fun _ hk => hk.2) (.int .i64 t440)) (fun _ hk => hk.2) (.slice Ao41 t441.length co41)) (fun _ hk => hk.2) (.slice Ao42 t444.length co42)) (fun _ h_ => h_.1))) hb); have n7_ := Aside0.mk (Kd.R_below (by (with_reducible repeat (first | apply Kd.R_alloc | apply Kd.R_drewN | apply Kd.R_drew)); exact (Kd.R_mono (Kd.R_far (p := ⟨gb448, 2, none⟩) (Kd.R_far (p := ⟨gb448, 1, none⟩) (Kd.R_far (p := ⟨gb448, 0, none⟩) (Kd.R_types HO446.out BK448.out (by decide)) (fun _ hk => hk.2) (.int .i64 t440)) (fun _ hk => hk.2) (.slice Ao41 t441.length co41)) (fun _ hk => hk.2) (.slice Ao42 t444.length co42)) (fun _ h_ => h_.1))) hb); have n8_ := Aside0.mk (blk_below (g := gb414) (o := .cells #[.int .i64 a0_0, .slice A0_1 l0_1.length c0_1, .slice A0_2 l0_2.length c0_2] 25 (0, 0)) (by (with_reducible repeat (first | refine blk_drewN ?_ _ | refine blk_drew ?_ | refine blk_alloc ?_ _)); refine blk_far ?_ NB414_448.out _; (with_reducible repeat (first | refine blk_drewN ?_ _ | refine blk_drew ?_ | refine blk_alloc ?_ _)); refine blk_far ?_ NB414_448.out _; (with_reducible repeat (first | refine blk_drewN ?_ _ | refine blk_drew ?_ | refine blk_alloc ?_ _)); refine blk_far ?_ NB414_448.out _; (with_reducible repeat (first | refine blk_drewN ?_ _ | refine blk_drew ?_ | refine blk_alloc ?_ _)); exact BK414.out) hb); have n9_ := Aside0.mk (blk_below (g := gb431) (o := .cells #[.int .i64 t423, .slice Ao25 t424.length co25, .slice Ao26 t427.length co26] 30 (0, 0)) (by (with_reducible repeat (first | refine blk_drewN ?_ _ | refine blk_drew ?_ | refine blk_alloc ?_ _)); refine blk_far ?_ NB431_448.out _; (with_reducible repeat (first | refine blk_drewN ?_ _ | refine blk_drew ?_ | refine blk_alloc ?_ _)); refine blk_far ?_ NB431_448.out _; (with_reducible repeat (first | refine blk_drewN ?_ _ | refine blk_drew ?_ | refine blk_alloc ?_ _)); refine blk_far ?_ NB431_448.out _; (with_reducible repeat (first | refine blk_drewN ?_ _ | refine blk_drew ?_ | refine blk_alloc ?_ _)); exact BK431.out) hb); have n10_ := Aside0.mk (blk_below (g := gb439) (o := .cells #[.int .i64 t432, .slice Ao33 t433.length co33, .slice Ao34 t436.length co34] 30 (0, 0)) (by (with_reducible repeat (first | refine blk_drewN ?_ _ | refine blk_drew ?_ | refine blk_alloc ?_ _)); refine blk_far ?_ NB439_448.out _; (with_reducible repeat (first | refine blk_drewN ?_ _ | refine blk_drew ?_ | refine blk_alloc ?_ _)); refine blk_far ?_ NB439_448.out _; (with_reducible repeat (first | refine blk_drewN ?_ _ | refine blk_drew ?_ | refine blk_alloc ?_ _)); refine blk_far ?_ NB439_448.out _; (with_reducible repeat (first | refine blk_drewN ?_ _ | refine blk_drew ?_ | refine blk_alloc ?_ _)); exact BK439.out) hb); have n11_ := Aside0.mk (blk_below (g := gb448) (o := .cells #[.int .i64 t440, .slice Ao41 t441.length co41, .slice Ao42 t444.length co42] 30 (0, 0)) (by (with_reducible repeat (first | refine blk_drewN ?_ _ | refine blk_drew ?_ | refine blk_alloc ?_ _)); refine blk_put (cs := #[.int .i64 t440, .slice Ao41 t441.length co41, .slice none 0 0]) ?_ 2 _ rfl; (with_reducible repeat (first | refine blk_drewN ?_ _ | refine blk_drew ?_ | refine blk_alloc ?_ _)); refine blk_put (cs := #[.int .i64 t440, .slice none 0 0, .slice none 0 0]) ?_ 1 _ rfl; (with_reducible repeat (first | refine blk_drewN ?_ _ | refine blk_drew ?_ | refine blk_alloc ?_ _)); refine blk_put (cs := #[.int .i64 0, .slice none 0 0, .slice none 0 0]) ?_ 0 _ rfl; (with_reducible repeat (first | refine blk_drewN ?_ _ | refine blk_drew ?_ | refine blk_alloc ?_ _)); exact BK448.out) hb); have n12_ := Aside0.mk (below_step (by repeat (first | (with_reducible first | exact HB.out | apply below_alloc | apply pw_below_drewN | apply below_drew1 | refine below_set ?_ GE414.out | refine below_set ?_ GE431.out | refine below_set ?_ GE439.out | refine below_set ?_ GE448.out) | exact HB.out)) hb); clear HO419; clear HO422; clear HO426; clear HO429; clear HO435; clear HO438; clear HO443; clear HO446; clear BK414; clear BK431; clear BK439; clear BK448; clear HB; have HO419 := n0_; have HO422 := n1_; have HO426 := n2_; have HO429 := n3_; have HO435 := n4_; have HO438 := n5_; have HO443 := n6_; have HO446 := n7_; have BK414 := n8_; have BK431 := n9_; have BK439 := n10_; have BK448 := n11_; have HB := n12_; clear n0_ n1_ n2_ n3_ n4_ n5_ n6_ n7_ n8_ n9_ n10_ n11_ n12_; (try clear hb); (try clear hb2); (try clear hk); (try clear hi)))
        go_meet
        case rel => exact ⟨_, ((t447 != t430)), (by first | rfl | (simp; done) | (simp [*]; done)), H', ⟨by first | omega | exact Nat.le_refl _⟩, ⟨by (with_reducible repeat (first | apply Kd.R_alloc | apply Kd.R_drewN | apply Kd.R_drew)); exact Kd.R_mono HO426.out (fun _ hk => ⟨hk.1.2, hk.2⟩)⟩, ⟨by (with_reducible repeat (first | apply Kd.R_alloc | apply Kd.R_drewN | apply Kd.R_drew)); exact Kd.R_mono HO429.out (fun _ hk => ⟨hk.1.2, hk.2⟩)⟩, ⟨by (with_reducible repeat (first | apply Kd.R_alloc | apply Kd.R_drewN | apply Kd.R_drew)); exact Kd.R_mono HO435.out (fun _ hk => ⟨hk.1.2, hk.2⟩)⟩, ⟨by (with_reducible repeat (first | apply Kd.R_alloc | apply Kd.R_drewN | apply Kd.R_drew)); exact Kd.R_mono HO438.out (fun _ hk => ⟨hk.1.2, hk.2⟩)⟩, ⟨by (with_reducible repeat (first | apply Kd.R_alloc | apply Kd.R_drewN | apply Kd.R_drew)); exact Kd.R_mono HO443.out (fun _ hk => ⟨hk.1.2, hk.2⟩)⟩, ⟨by (with_reducible repeat (first | apply Kd.R_alloc | apply Kd.R_drewN | apply Kd.R_drew)); exact Kd.R_mono HO446.out (fun _ hk => ⟨hk.1.2, hk.2⟩)⟩, ⟨by (with_reducible repeat (first | refine blk_drewN ?_ _ | refine blk_drew ?_ | refine blk_alloc ?_ _)); exact BK414.out⟩, ⟨by (with_reducible repeat (first | refine blk_drewN ?_ _ | refine blk_drew ?_ | refine blk_alloc ?_ _)); exact BK431.out⟩, ⟨by (with_reducible repeat (first | refine blk_drewN ?_ _ | refine blk_drew ?_ | refine blk_alloc ?_ _)); exact BK439.out⟩, ⟨by (with_reducible repeat (first | refine blk_drewN ?_ _ | refine blk_drew ?_ | refine blk_alloc ?_ _)); exact BK448.out⟩, ⟨by repeat (first | (with_reducible first | exact HB.out | apply below_alloc | apply pw_below_drewN | apply below_drew1 | refine below_set ?_ GE414.out | refine below_set ?_ GE431.out | refine below_set ?_ GE439.out | refine below_set ?_ GE448.out) | exact HB.out)⟩⟩
      · replace c44 := Bool.eq_false_iff.mpr c44
        subst c44
        have H1 : (laws_FnExactSetJam.j0 k a1 a2 t430 t447 true a0_0 l0_1 l0_2 t423 t424 t427 t432 t433 t436 t440 t441 t444) = some r := by rw [if_neg (show ¬ (false = true) by decide)] at H; exact H
        clear H
        have H := H1
        clear H1
        have H' := Aside0.mk H
        clear H
        have hnb53 := NB448_414.out
        have hnc53 := NB414_448.out
        have hnb54 := NB448_431.out
        have hnc54 := NB431_448.out
        have hnb55 := NB448_439.out
        have hnc55 := NB439_448.out
        have hcz56_0 : w36.cell? ⟨gb448, 0, none⟩ = some (.int .i64 0) := (blk_cell BK448.out 0).trans rfl
        have hcz56_1 : w36.cell? ⟨gb448, 1, none⟩ = some (.slice none 0 0) := (blk_cell BK448.out 1).trans rfl
        have hcz56_2 : w36.cell? ⟨gb448, 2, none⟩ = some (.slice none 0 0) := (blk_cell BK448.out 2).trans rfl
        have hfz56_0 := blk_frozen BK448.out 0
        have hfz56_1 := blk_frozen BK448.out 1
        have hfz56_2 := blk_frozen BK448.out 2
        have hnb57 := NB431_414.out
        have hnc57 := NB414_431.out
        have hnb58 := NB431_439.out
        have hnc58 := NB439_431.out
        have hcz59_0 : w36.cell? ⟨gb431, 0, none⟩ = some (.int .i64 t423) := (blk_cell BK431.out 0).trans rfl
        have hcz59_1 : w36.cell? ⟨gb431, 1, none⟩ = some (.slice Ao25 t424.length co25) := (blk_cell BK431.out 1).trans rfl
        have hcz59_2 : w36.cell? ⟨gb431, 2, none⟩ = some (.slice Ao26 t427.length co26) := (blk_cell BK431.out 2).trans rfl
        have hfz59_0 := blk_frozen BK431.out 0
        have hfz59_1 := blk_frozen BK431.out 1
        have hfz59_2 := blk_frozen BK431.out 2
        go_wp2_with (first | ((with_reducible refine gate_callee (f := 19) rfl ?_); refine goesL_ (some 42) rfl rfl Try.func19 (by kernel_rfl) rfl #[.agg #[.int .i64 t440, .slice Ao41 t441.length co41, .slice Ao42 t444.length co42], .agg #[.int .i64 t423, .slice Ao25 t424.length co25, .slice Ao26 t427.length co26]] rfl (by (try simp only [List.map_toArray, List.map_cons, List.map_nil]); first | done | rfl | (simp only [List.length_drop, List.length_take]; rfl)) ?_; (with_reducible refine (laws_eqColumn.calls k t440 _ _ t441 _ _ t444 t423 _ _ t424 _ _ t427 false _ ?side1 ?side2 ?side3 ?side4 ?side5 ?side6 ?side7 ?side8 A43.out).mono ?_); (case side1 => refine (Kd.R_reads' (e := 3) (base := w.heap.size) (ok := fun k_ => (((True ∧ some k_ ≠ (.slice Ao19 t417.length co19 : Value).ownBlock) ∧ some k_ ≠ (.slice Ao25 t424.length co25 : Value).ownBlock) ∧ some k_ ≠ (.slice Ao33 t433.length co33 : Value).ownBlock)) (n := t441.length) (c := co41) ?_).2.2; exact (by (with_reducible repeat (first | apply Kd.R_alloc | apply Kd.R_drewN | apply Kd.R_drew)); exact (Kd.R_mono (Kd.R_far (p := ⟨gb448, 2, none⟩) (Kd.R_far (p := ⟨gb448, 1, none⟩) (Kd.R_far (p := ⟨gb448, 0, none⟩) (Kd.R_types HO443.out BK448.out (by decide)) (fun _ hk => hk.2) (.int .i64 t440)) (fun _ hk => hk.2) (.slice Ao41 t441.length co41)) (fun _ hk => hk.2) (.slice Ao42 t444.length co42)) (fun _ h_ => h_.1)))); (case side2 => exact (Kd.R_reads' HO443.out).2.1); (case side3 => refine (Kd.R_reads' (e := 71) (base := w.heap.size) (ok := fun k_ => (((True ∧ some k_ ≠ (.slice Ao20 t420.length co20 : Value).ownBlock) ∧ some k_ ≠ (.slice Ao26 t427.length co26 : Value).ownBlock) ∧ some k_ ≠ (.slice Ao34 t436.length co34 : Value).ownBlock)) (n := t444.length) (c := co42) ?_).2.2; exact (by (with_reducible repeat (first | apply Kd.R_alloc | apply Kd.R_drewN | apply Kd.R_drew)); exact (Kd.R_mono (Kd.R_far (p := ⟨gb448, 2, none⟩) (Kd.R_far (p := ⟨gb448, 1, none⟩) (Kd.R_far (p := ⟨gb448, 0, none⟩) (Kd.R_types HO446.out BK448.out (by decide)) (fun _ hk => hk.2) (.int .i64 t440)) (fun _ hk => hk.2) (.slice Ao41 t441.length co41)) (fun _ hk => hk.2) (.slice Ao42 t444.length co42)) (fun _ h_ => h_.1)))); (case side4 => exact (Kd.R_reads' HO446.out).2.1); (case side5 => refine (Kd.R_reads' (e := 3) (base := w.heap.size) (ok := fun k_ => (((True ∧ some k_ ≠ (.slice Ao19 t417.length co19 : Value).ownBlock) ∧ some k_ ≠ (.slice Ao33 t433.length co33 : Value).ownBlock) ∧ some k_ ≠ (.slice Ao41 t441.length co41 : Value).ownBlock)) (n := t424.length) (c := co25) ?_).2.2; exact (by (with_reducible repeat (first | apply Kd.R_alloc | apply Kd.R_drewN | apply Kd.R_drew)); exact (Kd.R_mono (Kd.R_far (p := ⟨gb448, 2, none⟩) (Kd.R_far (p := ⟨gb448, 1, none⟩) (Kd.R_far (p := ⟨gb448, 0, none⟩) (Kd.R_types HO426.out BK448.out (by decide)) (fun _ hk => hk.2) (.int .i64 t440)) (fun _ hk => hk.2) (.slice Ao41 t441.length co41)) (fun _ hk => hk.2) (.slice Ao42 t444.length co42)) (fun _ h_ => h_.1)))); (case side6 => exact (Kd.R_reads' HO426.out).2.1); (case side7 => refine (Kd.R_reads' (e := 71) (base := w.heap.size) (ok := fun k_ => (((True ∧ some k_ ≠ (.slice Ao20 t420.length co20 : Value).ownBlock) ∧ some k_ ≠ (.slice Ao34 t436.length co34 : Value).ownBlock) ∧ some k_ ≠ (.slice Ao42 t444.length co42 : Value).ownBlock)) (n := t427.length) (c := co26) ?_).2.2; exact (by (with_reducible repeat (first | apply Kd.R_alloc | apply Kd.R_drewN | apply Kd.R_drew)); exact (Kd.R_mono (Kd.R_far (p := ⟨gb448, 2, none⟩) (Kd.R_far (p := ⟨gb448, 1, none⟩) (Kd.R_far (p := ⟨gb448, 0, none⟩) (Kd.R_types HO429.out BK448.out (by decide)) (fun _ hk => hk.2) (.int .i64 t440)) (fun _ hk => hk.2) (.slice Ao41 t441.length co41)) (fun _ hk => hk.2) (.slice Ao42 t444.length co42)) (fun _ h_ => h_.1)))); (case side8 => exact (Kd.R_reads' HO429.out).2.1); rintro e w60 ⟨rfl, hb⟩; refine ⟨_, rfl, ?_⟩; have n0_ := Aside0.mk (Kd.R_below (by (with_reducible repeat (first | apply Kd.R_alloc | apply Kd.R_drewN | apply Kd.R_drew)); exact (Kd.R_mono (Kd.R_far (p := ⟨gb448, 2, none⟩) (Kd.R_far (p := ⟨gb448, 1, none⟩) (Kd.R_far (p := ⟨gb448, 0, none⟩) (Kd.R_types HO419.out BK448.out (by decide)) (fun _ hk => hk.2) (.int .i64 t440)) (fun _ hk => hk.2) (.slice Ao41 t441.length co41)) (fun _ hk => hk.2) (.slice Ao42 t444.length co42)) (fun _ h_ => h_.1))) hb); have n1_ := Aside0.mk (Kd.R_below (by (with_reducible repeat (first | apply Kd.R_alloc | apply Kd.R_drewN | apply Kd.R_drew)); exact (Kd.R_mono (Kd.R_far (p := ⟨gb448, 2, none⟩) (Kd.R_far (p := ⟨gb448, 1, none⟩) (Kd.R_far (p := ⟨gb448, 0, none⟩) (Kd.R_types HO422.out BK448.out (by decide)) (fun _ hk => hk.2) (.int .i64 t440)) (fun _ hk => hk.2) (.slice Ao41 t441.length co41)) (fun _ hk => hk.2) (.slice Ao42 t444.length co42)) (fun _ h_ => h_.1))) hb); have n2_ := Aside0.mk (Kd.R_below (by (with_reducible repeat (first | apply Kd.R_alloc | apply Kd.R_drewN | apply Kd.R_drew)); exact (Kd.R_mono (Kd.R_far (p := ⟨gb448, 2, none⟩) (Kd.R_far (p := ⟨gb448, 1, none⟩) (Kd.R_far (p := ⟨gb448, 0, none⟩) (Kd.R_types HO426.out BK448.out (by decide)) (fun _ hk => hk.2) (.int .i64 t440)) (fun _ hk => hk.2) (.slice Ao41 t441.length co41)) (fun _ hk => hk.2) (.slice Ao42 t444.length co42)) (fun _ h_ => h_.1))) hb); have n3_ := Aside0.mk (Kd.R_below (by (with_reducible repeat (first | apply Kd.R_alloc | apply Kd.R_drewN | apply Kd.R_drew)); exact (Kd.R_mono (Kd.R_far (p := ⟨gb448, 2, none⟩) (Kd.R_far (p := ⟨gb448, 1, none⟩) (Kd.R_far (p := ⟨gb448, 0, none⟩) (Kd.R_types HO429.out BK448.out (by decide)) (fun _ hk => hk.2) (.int .i64 t440)) (fun _ hk => hk.2) (.slice Ao41 t441.length co41)) (fun _ hk => hk.2) (.slice Ao42 t444.length co42)) (fun _ h_ => h_.1))) hb); have n4_ := Aside0.mk (Kd.R_below (by (with_reducible repeat (first | apply Kd.R_alloc | apply Kd.R_drewN | apply Kd.R_drew)); exact (Kd.R_mono (Kd.R_far (p := ⟨gb448, 2, none⟩) (Kd.R_far (p := ⟨gb448, 1, none⟩) (Kd.R_far (p := ⟨gb448, 0, none⟩) (Kd.R_types HO435.out BK448.out (by decide)) (fun _ hk => hk.2) (.int .i64 t440)) (fun _ hk => hk.2) (.slice Ao41 t441.length co41)) (fun _ hk => hk.2) (.slice Ao42 t444.length co42)) (fun _ h_ => h_.1))) hb); have n5_ := Aside0.mk (Kd.R_below (by (with_reducible repeat (first | apply Kd.R_alloc | apply Kd.R_drewN | apply Kd.R_drew)); exact (Kd.R_mono (Kd.R_far (p := ⟨gb448, 2, none⟩) (Kd.R_far (p := ⟨gb448, 1, none⟩) (Kd.R_far (p := ⟨gb448, 0, none⟩) (Kd.R_types HO438.out BK448.out (by decide)) (fun _ hk => hk.2) (.int .i64 t440)) (fun _ hk => hk.2) (.slice Ao41 t441.length co41)) (fun _ hk => hk.2) (.slice Ao42 t444.length co42)) (fun _ h_ => h_.1))) hb); have n6_ := Aside0.mk (Kd.R_below (by (with_reducible repeat (first | apply Kd.R_alloc | apply Kd.R_drewN | apply Kd.R_drew)); exact (Kd.R_mono (Kd.R_far (p := ⟨gb448, 2, none⟩) (Kd.R_far (p := ⟨gb448, 1, none⟩) (Kd.R_far (p := ⟨gb448, 0, none⟩) (Kd.R_types HO443.out BK448.out (by decide)) (fun _ hk => hk.2) (.int .i64 t440)) (fun _ hk => hk.2) (.slice Ao41 t441.length co41)) (fun _ hk => hk.2) (.slice Ao42 t444.length co42)) (fun _ h_ => h_.1))) hb); have n7_ := Aside0.mk (Kd.R_below (by (with_reducible repeat (first | apply Kd.R_alloc | apply Kd.R_drewN | apply Kd.R_drew)); exact (Kd.R_mono (Kd.R_far (p := ⟨gb448, 2, none⟩) (Kd.R_far (p := ⟨gb448, 1, none⟩) (Kd.R_far (p := ⟨gb448, 0, none⟩) (Kd.R_types HO446.out BK448.out (by decide)) (fun _ hk => hk.2) (.int .i64 t440)) (fun _ hk => hk.2) (.slice Ao41 t441.length co41)) (fun _ hk => hk.2) (.slice Ao42 t444.length co42)) (fun _ h_ => h_.1))) hb); have n8_ := Aside0.mk (blk_below (g := gb414) (o := .cells #[.int .i64 a0_0, .slice A0_1 l0_1.length c0_1, .slice A0_2 l0_2.length c0_2] 25 (0, 0)) (by (with_reducible repeat (first | refine blk_drewN ?_ _ | refine blk_drew ?_ | refine blk_alloc ?_ _)); refine blk_far ?_ NB414_448.out _; (with_reducible repeat (first | refine blk_drewN ?_ _ | refine blk_drew ?_ | refine blk_alloc ?_ _)); refine blk_far ?_ NB414_448.out _; (with_reducible repeat (first | refine blk_drewN ?_ _ | refine blk_drew ?_ | refine blk_alloc ?_ _)); refine blk_far ?_ NB414_448.out _; (with_reducible repeat (first | refine blk_drewN ?_ _ | refine blk_drew ?_ | refine blk_alloc ?_ _)); exact BK414.out) hb); have n9_ := Aside0.mk (blk_below (g := gb431) (o := .cells #[.int .i64 t423, .slice Ao25 t424.length co25, .slice Ao26 t427.length co26] 30 (0, 0)) (by (with_reducible repeat (first | refine blk_drewN ?_ _ | refine blk_drew ?_ | refine blk_alloc ?_ _)); refine blk_far ?_ NB431_448.out _; (with_reducible repeat (first | refine blk_drewN ?_ _ | refine blk_drew ?_ | refine blk_alloc ?_ _)); refine blk_far ?_ NB431_448.out _; (with_reducible repeat (first | refine blk_drewN ?_ _ | refine blk_drew ?_ | refine blk_alloc ?_ _)); refine blk_far ?_ NB431_448.out _; (with_reducible repeat (first | refine blk_drewN ?_ _ | refine blk_drew ?_ | refine blk_alloc ?_ _)); exact BK431.out) hb); have n10_ := Aside0.mk (blk_below (g := gb439) (o := .cells #[.int .i64 t432, .slice Ao33 t433.length co33, .slice Ao34 t436.length co34] 30 (0, 0)) (by (with_reducible repeat (first | refine blk_drewN ?_ _ | refine blk_drew ?_ | refine blk_alloc ?_ _)); refine blk_far ?_ NB439_448.out _; (with_reducible repeat (first | refine blk_drewN ?_ _ | refine blk_drew ?_ | refine blk_alloc ?_ _)); refine blk_far ?_ NB439_448.out _; (with_reducible repeat (first | refine blk_drewN ?_ _ | refine blk_drew ?_ | refine blk_alloc ?_ _)); refine blk_far ?_ NB439_448.out _; (with_reducible repeat (first | refine blk_drewN ?_ _ | refine blk_drew ?_ | refine blk_alloc ?_ _)); exact BK439.out) hb); have n11_ := Aside0.mk (blk_below (g := gb448) (o := .cells #[.int .i64 t440, .slice Ao41 t441.length co41, .slice Ao42 t444.length co42] 30 (0, 0)) (by (with_reducible repeat (first | refine blk_drewN ?_ _ | refine blk_drew ?_ | refine blk_alloc ?_ _)); refine blk_put (cs := #[.int .i64 t440, .slice Ao41 t441.length co41, .slice none 0 0]) ?_ 2 _ rfl; (with_reducible repeat (first | refine blk_drewN ?_ _ | refine blk_drew ?_ | refine blk_alloc ?_ _)); refine blk_put (cs := #[.int .i64 t440, .slice none 0 0, .slice none 0 0]) ?_ 1 _ rfl; (with_reducible repeat (first | refine blk_drewN ?_ _ | refine blk_drew ?_ | refine blk_alloc ?_ _)); refine blk_put (cs := #[.int .i64 0, .slice none 0 0, .slice none 0 0]) ?_ 0 _ rfl; (with_reducible repeat (first | refine blk_drewN ?_ _ | refine blk_drew ?_ | refine blk_alloc ?_ _)); exact BK448.out) hb); have n12_ := Aside0.mk (below_step (by repeat (first | (with_reducible first | exact HB.out | apply below_alloc | apply pw_below_drewN | apply below_drew1 | refine below_set ?_ GE414.out | refine below_set ?_ GE431.out | refine below_set ?_ GE439.out | refine below_set ?_ GE448.out) | exact HB.out)) hb); clear HO419; clear HO422; clear HO426; clear HO429; clear HO435; clear HO438; clear HO443; clear HO446; clear BK414; clear BK431; clear BK439; clear BK448; clear HB; have HO419 := n0_; have HO422 := n1_; have HO426 := n2_; have HO429 := n3_; have HO435 := n4_; have HO438 := n5_; have HO443 := n6_; have HO446 := n7_; have BK414 := n8_; have BK431 := n9_; have BK439 := n10_; have BK448 := n11_; have HB := n12_; clear n0_ n1_ n2_ n3_ n4_ n5_ n6_ n7_ n8_ n9_ n10_ n11_ n12_; (try clear hb); (try clear hb2); (try clear hk); (try clear hi)))
        go_meet
        case rel => exact ⟨_, (true), (by first | rfl | (simp; done) | (simp [*]; done)), H', ⟨by first | omega | exact Nat.le_refl _⟩, ⟨by (with_reducible repeat (first | apply Kd.R_alloc | apply Kd.R_drewN | apply Kd.R_drew)); exact Kd.R_mono HO426.out (fun _ hk => ⟨hk.1.2, hk.2⟩)⟩, ⟨by (with_reducible repeat (first | apply Kd.R_alloc | apply Kd.R_drewN | apply Kd.R_drew)); exact Kd.R_mono HO429.out (fun _ hk => ⟨hk.1.2, hk.2⟩)⟩, ⟨by (with_reducible repeat (first | apply Kd.R_alloc | apply Kd.R_drewN | apply Kd.R_drew)); exact Kd.R_mono HO435.out (fun _ hk => ⟨hk.1.2, hk.2⟩)⟩, ⟨by (with_reducible repeat (first | apply Kd.R_alloc | apply Kd.R_drewN | apply Kd.R_drew)); exact Kd.R_mono HO438.out (fun _ hk => ⟨hk.1.2, hk.2⟩)⟩, ⟨by (with_reducible repeat (first | apply Kd.R_alloc | apply Kd.R_drewN | apply Kd.R_drew)); exact Kd.R_mono HO443.out (fun _ hk => ⟨hk.1.2, hk.2⟩)⟩, ⟨by (with_reducible repeat (first | apply Kd.R_alloc | apply Kd.R_drewN | apply Kd.R_drew)); exact Kd.R_mono HO446.out (fun _ hk => ⟨hk.1.2, hk.2⟩)⟩, ⟨by (with_reducible repeat (first | refine blk_drewN ?_ _ | refine blk_drew ?_ | refine blk_alloc ?_ _)); exact BK414.out⟩, ⟨by (with_reducible repeat (first | refine blk_drewN ?_ _ | refine blk_drew ?_ | refine blk_alloc ?_ _)); exact BK431.out⟩, ⟨by (with_reducible repeat (first | refine blk_drewN ?_ _ | refine blk_drew ?_ | refine blk_alloc ?_ _)); exact BK439.out⟩, ⟨by (with_reducible repeat (first | refine blk_drewN ?_ _ | refine blk_drew ?_ | refine blk_alloc ?_ _)); exact BK448.out⟩, ⟨by repeat (first | (with_reducible first | exact HB.out | apply below_alloc | apply pw_below_drewN | apply below_drew1 | refine below_set ?_ GE414.out | refine below_set ?_ GE431.out | refine below_set ?_ GE439.out | refine below_set ?_ GE448.out) | exact HB.out)⟩⟩
    case rest =>
      clear HC13
      try clear c1
      try clear c2
      try clear p2
      try clear c3
      try clear c4
      try clear c5
      try clear c5b0
      try clear c7
      try clear c15
      try clear c17
      try clear c19
      try clear c23
      try clear c30
      try clear c31
      try clear c34
      try clear c35
      try clear c37
      try clear c38
      try clear c39
      try clear c44
      try clear c45
      try clear c46
      try clear c47
      try clear c49
      try clear c50
      try clear c53
      try clear c54
      try clear c55
      try clear c57
      try clear c58
      try clear hcz15_0
      try clear hcz15_1
      try clear hcz15_2
      try clear hcz17_0
      try clear hcz17_1
      try clear hcz17_2
      try clear hcz24_0
      try clear hcz24_1
      try clear hcz24_2
      try clear hcz27_0
      try clear hcz27_1
      try clear hcz27_2
      try clear hcz32_0
      try clear hcz32_1
      try clear hcz32_2
      try clear hcz40_0
      try clear hcz40_1
      try clear hcz40_2
      try clear hcz48_0
      try clear hcz48_1
      try clear hcz48_2
      try clear hcz51_0
      try clear hcz51_1
      try clear hcz51_2
      try clear hcz56_0
      try clear hcz56_1
      try clear hcz56_2
      try clear hcz59_0
      try clear hcz59_1
      try clear hcz59_2
      try clear hcz7_0
      try clear hcz7_1
      try clear hcz7_2
      try clear hfz15_0
      try clear hfz15_1
      try clear hfz15_2
      try clear hfz17_0
      try clear hfz17_1
      try clear hfz17_2
      try clear hfz24_0
      try clear hfz24_1
      try clear hfz24_2
      try clear hfz27_0
      try clear hfz27_1
      try clear hfz27_2
      try clear hfz32_0
      try clear hfz32_1
      try clear hfz32_2
      try clear hfz40_0
      try clear hfz40_1
      try clear hfz40_2
      try clear hfz48_0
      try clear hfz48_1
      try clear hfz48_2
      try clear hfz51_0
      try clear hfz51_1
      try clear hfz51_2
      try clear hfz56_0
      try clear hfz56_1
      try clear hfz56_2
      try clear hfz59_0
      try clear hfz59_1
      try clear hfz59_2
      try clear hfz7_0
      try clear hfz7_1
      try clear hfz7_2
      obtain ⟨kq, x48_12, rfl, HA, HJ12, HO_432001, HO_432002, HO_440001, HO_440002, HO_449001, HO_449002, BK414, BK431, BK439, BK448, HB⟩ := hcut
      cases kq with
      | zero => exact absurd HA.out (by simp [laws_FnExactSetJam.j0])
      | succ kj12 =>
        have H := HA.out
        clear HA
        simp only [laws_FnExactSetJam.j0] at H
        by_cases c61 : x48_12 = true
        · subst c61
          have H1 : (some false) = some r := by rw [if_pos rfl] at H; exact H
          clear H
          have H := H1
          clear H1
          exact absurd (Option.some.inj H) (by rw [hr_.out]; decide)
        · replace c61 := Bool.eq_false_iff.mpr c61
          subst c61
          have H1 : ((laws_toColumn.f kj12 a0_0 l0_1 l0_2).bind fun bt450 => ((laws_eqColumn.f kj12 t432 t433 t436 bt450.1 bt450.2.1 bt450.2.2).bind fun t457 => (if t457 = true then ((laws_markColumn.f kj12 t432 t433 t436 1).bind fun bt458 => (if bt458.1 < 0 then (laws_FnExactSetJam.j1 kj12 a1 a2 t430 true a0_0 l0_1 l0_2 t423 t424 t427 t440 t441 t444) else ((laws_eqColumn.f kj12 t440 t441 t444 t423 t424 t427).bind fun t461 => (if t461 = true then (laws_FnExactSetJam.j1 kj12 a1 a2 t430 (t447 != t430) a0_0 l0_1 l0_2 t423 t424 t427 t440 t441 t444) else (laws_FnExactSetJam.j1 kj12 a1 a2 t430 true a0_0 l0_1 l0_2 t423 t424 t427 t440 t441 t444))))) else (some false)))) = some r := by rw [if_neg (show ¬ (false = true) by decide)] at H; exact H
          clear H
          have H := H1
          clear H1
          replace H := Option.bind_eq_some_iff.mp H
          obtain ⟨⟨t450, t451, t454⟩, A620, H⟩ := H
          replace H : ((laws_eqColumn.f kj12 t432 t433 t436 t450 t451 t454).bind fun t457 => (if t457 = true then ((laws_markColumn.f kj12 t432 t433 t436 1).bind fun bt458 => (if bt458.1 < 0 then (laws_FnExactSetJam.j1 kj12 a1 a2 t430 true a0_0 l0_1 l0_2 t423 t424 t427 t440 t441 t444) else ((laws_eqColumn.f kj12 t440 t441 t444 t423 t424 t427).bind fun t461 => (if t461 = true then (laws_FnExactSetJam.j1 kj12 a1 a2 t430 (t447 != t430) a0_0 l0_1 l0_2 t423 t424 t427 t440 t441 t444) else (laws_FnExactSetJam.j1 kj12 a1 a2 t430 true a0_0 l0_1 l0_2 t423 t424 t427 t440 t441 t444))))) else (some false))) = some r := H
          have A62 := Aside0.mk A620
          clear A620
          replace H := Option.bind_eq_some_iff.mp H
          obtain ⟨t457, A630, H⟩ := H
          replace H : (if t457 = true then ((laws_markColumn.f kj12 t432 t433 t436 1).bind fun bt458 => (if bt458.1 < 0 then (laws_FnExactSetJam.j1 kj12 a1 a2 t430 true a0_0 l0_1 l0_2 t423 t424 t427 t440 t441 t444) else ((laws_eqColumn.f kj12 t440 t441 t444 t423 t424 t427).bind fun t461 => (if t461 = true then (laws_FnExactSetJam.j1 kj12 a1 a2 t430 (t447 != t430) a0_0 l0_1 l0_2 t423 t424 t427 t440 t441 t444) else (laws_FnExactSetJam.j1 kj12 a1 a2 t430 true a0_0 l0_1 l0_2 t423 t424 t427 t440 t441 t444))))) else (some false)) = some r := H
          have A63 := Aside0.mk A630
          clear A630
          by_cases c64 : t457 = true
          · subst c64
            have H1 : ((laws_markColumn.f kj12 t432 t433 t436 1).bind fun bt458 => (if bt458.1 < 0 then (laws_FnExactSetJam.j1 kj12 a1 a2 t430 true a0_0 l0_1 l0_2 t423 t424 t427 t440 t441 t444) else ((laws_eqColumn.f kj12 t440 t441 t444 t423 t424 t427).bind fun t461 => (if t461 = true then (laws_FnExactSetJam.j1 kj12 a1 a2 t430 (t447 != t430) a0_0 l0_1 l0_2 t423 t424 t427 t440 t441 t444) else (laws_FnExactSetJam.j1 kj12 a1 a2 t430 true a0_0 l0_1 l0_2 t423 t424 t427 t440 t441 t444))))) = some r := by rw [if_pos rfl] at H; exact H
            clear H
            have H := H1
            clear H1
            replace H := Option.bind_eq_some_iff.mp H
            obtain ⟨⟨t458, t459, t460⟩, A650, H⟩ := H
            replace H : (if t458 < 0 then (laws_FnExactSetJam.j1 kj12 a1 a2 t430 true a0_0 l0_1 l0_2 t423 t424 t427 t440 t441 t444) else ((laws_eqColumn.f kj12 t440 t441 t444 t423 t424 t427).bind fun t461 => (if t461 = true then (laws_FnExactSetJam.j1 kj12 a1 a2 t430 (t447 != t430) a0_0 l0_1 l0_2 t423 t424 t427 t440 t441 t444) else (laws_FnExactSetJam.j1 kj12 a1 a2 t430 true a0_0 l0_1 l0_2 t423 t424 t427 t440 t441 t444)))) = some r := H
            have A65 := Aside0.mk A650
            clear A650
            have HC66 := Aside0.mk H
            clear H
            try go_wp2
            have n0_ := Aside0.mk (Kd.R_drew HO_432001.out)
            have n1_ := Aside0.mk (Kd.R_drew HO_432002.out)
            have n2_ := Aside0.mk (Kd.R_drew HO_440001.out)
            have n3_ := Aside0.mk (Kd.R_drew HO_440002.out)
            have n4_ := Aside0.mk (Kd.R_drew HO_449001.out)
            have n5_ := Aside0.mk (Kd.R_drew HO_449002.out)
            have n6_ := Aside0.mk (blk_drew BK414.out)
            have n7_ := Aside0.mk (blk_drew BK431.out)
            have n8_ := Aside0.mk (blk_drew BK439.out)
            have n9_ := Aside0.mk (blk_drew BK448.out)
            have n10_ := Aside0.mk (below_drew1 HB.out)
            clear HO_432001
            clear HO_432002
            clear HO_440001
            clear HO_440002
            clear HO_449001
            clear HO_449002
            clear BK414
            clear BK431
            clear BK439
            clear BK448
            clear HB
            have HO_432001 := n0_
            have HO_432002 := n1_
            have HO_440001 := n2_
            have HO_440002 := n3_
            have HO_449001 := n4_
            have HO_449002 := n5_
            have BK414 := n6_
            have BK431 := n7_
            have BK439 := n8_
            have BK448 := n9_
            have HB := n10_
            clear n0_ n1_ n2_ n3_ n4_ n5_ n6_ n7_ n8_ n9_ n10_
            refine start_ (n := 5) (S := fun w' => w'.cell? ⟨gb439, 0, none⟩ = some (.int .i64 t432) ∧ w'.cell? ⟨gb439, 1, none⟩ = some (.slice Ao33 t433.length co33) ∧ w'.cell? ⟨gb439, 2, none⟩ = some (.slice Ao34 t436.length co34) ∧ w'.cell? ⟨gb414, 0, none⟩ = some (.int .i64 a0_0) ∧ w'.cell? ⟨gb414, 1, none⟩ = some (.slice A0_1 l0_1.length c0_1) ∧ w'.cell? ⟨gb414, 2, none⟩ = some (.slice A0_2 l0_2.length c0_2)) (ds := []) #[false, false, false, false, false] (by kernel_rfl) rfl rfl ⟨(blk_cell BK439.out 0).trans rfl, (blk_cell BK439.out 1).trans rfl, (blk_cell BK439.out 2).trans rfl, (blk_cell BK414.out 0).trans rfl, (blk_cell BK414.out 1).trans rfl, (blk_cell BK414.out 2).trans rfl⟩ (fun hHeld => ?_)
            generalize wc.drew = w67 at HO_432001 HO_432002 HO_440001 HO_440002 HO_449001 HO_449002 BK414 BK431 BK439 BK448 HB hHeld ⊢
            refine take_ (i := 0) (N := some 49) (v := ?_) (a' := ?_) #[true, false, false, false, false] rfl rfl (by kernel_rfl) (fun _ _ _ h => h) (Or.inl ⟨by rfl, ?_⟩) hHeld ?_ ?_
            rotate_left
            · rintro w' ⟨s0, s1, s2, s3, s4, s5⟩
              go_simp
              with_reducible rfl
            rotate_left
            · simp only [Act.put, List.setIfInBounds_toArray, List.set_cons_zero, List.set_cons_succ, i64_w, i32_w]
              rfl
            refine take_ (i := 1) (N := some 50) (v := ?_) (a' := ?_) #[true, true, false, false, false] rfl rfl (by kernel_rfl) (fun _ _ _ h => h) (Or.inl ⟨by rfl, ?_⟩) hHeld ?_ ?_
            rotate_left
            · rintro w' ⟨s0, s1, s2, s3, s4, s5⟩
              go_simp
              with_reducible rfl
            rotate_left
            · simp only [Act.put, List.setIfInBounds_toArray, List.set_cons_zero, List.set_cons_succ, i64_w, i32_w]
              rfl
            refine one_ (i := 2) (N := some 51) #[true, true, true, false, false] rfl rfl (by kernel_rfl) (by decide) (fun K hK => ?_)
            refine goes_ Try.func17 (by kernel_rfl) rfl #[.agg #[.int .i64 a0_0, .slice A0_1 l0_1.length c0_1, .slice A0_2 l0_2.length c0_2]] (by rfl) rfl rfl (by (try simp only [List.map_toArray, List.map_cons, List.map_nil]); first | done | rfl | (simp only [List.length_drop, List.length_take]; rfl)) ?_
            with_reducible refine (laws_toColumn.calls kj12 a0_0 _ _ l0_1 _ _ l0_2 t450 t451 t454 _ ?side1 ?side2 ?side3 ?side4 A62.out).mono ?_
            (case side1 => repeat (first | exact (Kd.C_below HR0_1.out HB.out) | (with_reducible refine Kd.C_alloc ?_ _) | (with_reducible refine Kd.C_drewN ?_ _) | (with_reducible refine Kd.C_drew ?_)))
            (case side2 => exact HC0_1.out)
            (case side3 => repeat (first | exact (Kd.C_below HR0_2.out HB.out) | (with_reducible refine Kd.C_alloc ?_ _) | (with_reducible refine Kd.C_drewN ?_ _) | (with_reducible refine Kd.C_drew ?_)))
            (case side4 => exact HC0_2.out)
            rintro e w68 ⟨v452, v455, rfl, ho0, ho1, hb⟩
            refine ⟨_, rfl, ?_⟩
            have n0_ := Aside0.mk (Kd.R_elder' (by (with_reducible repeat (first | apply Kd.R_alloc | apply Kd.R_drewN | apply Kd.R_drew)); exact HO_432001.out) (Kd.R_base ho0) hb)
            have n1_ := Aside0.mk (Kd.R_elder' (by (with_reducible repeat (first | apply Kd.R_alloc | apply Kd.R_drewN | apply Kd.R_drew)); exact HO_432002.out) (Kd.R_base ho1) hb)
            have n2_ := Aside0.mk (Kd.R_elder' (by (with_reducible repeat (first | apply Kd.R_alloc | apply Kd.R_drewN | apply Kd.R_drew)); exact HO_440001.out) (Kd.R_base ho0) hb)
            have n3_ := Aside0.mk (Kd.R_elder' (by (with_reducible repeat (first | apply Kd.R_alloc | apply Kd.R_drewN | apply Kd.R_drew)); exact HO_440002.out) (Kd.R_base ho1) hb)
            have n4_ := Aside0.mk (Kd.R_elder' (by (with_reducible repeat (first | apply Kd.R_alloc | apply Kd.R_drewN | apply Kd.R_drew)); exact HO_449001.out) (Kd.R_base ho0) hb)
            have n5_ := Aside0.mk (Kd.R_elder' (by (with_reducible repeat (first | apply Kd.R_alloc | apply Kd.R_drewN | apply Kd.R_drew)); exact HO_449002.out) (Kd.R_base ho1) hb)
            have n6_ := Aside0.mk (Kd.R_lower (Kd.R_new' (Kd.R_new' (Kd.R_new' ho0 (Kd.R_lt (by (with_reducible repeat (first | apply Kd.R_alloc | apply Kd.R_drewN | apply Kd.R_drew)); exact HO_432001.out))) (Kd.R_lt (by (with_reducible repeat (first | apply Kd.R_alloc | apply Kd.R_drewN | apply Kd.R_drew)); exact HO_440001.out))) (Kd.R_lt (by (with_reducible repeat (first | apply Kd.R_alloc | apply Kd.R_drewN | apply Kd.R_drew)); exact HO_449001.out))) (below_size (by repeat (first | (with_reducible first | exact HB.out | apply below_alloc | apply pw_below_drewN | apply below_drew1 | refine below_set ?_ GE414.out | refine below_set ?_ GE431.out | refine below_set ?_ GE439.out | refine below_set ?_ GE448.out) | exact HB.out))))
            have n7_ := Aside0.mk (Kd.R_lower (Kd.R_new' (Kd.R_new' (Kd.R_new' ho1 (Kd.R_lt (by (with_reducible repeat (first | apply Kd.R_alloc | apply Kd.R_drewN | apply Kd.R_drew)); exact HO_432002.out))) (Kd.R_lt (by (with_reducible repeat (first | apply Kd.R_alloc | apply Kd.R_drewN | apply Kd.R_drew)); exact HO_440002.out))) (Kd.R_lt (by (with_reducible repeat (first | apply Kd.R_alloc | apply Kd.R_drewN | apply Kd.R_drew)); exact HO_449002.out))) (below_size (by repeat (first | (with_reducible first | exact HB.out | apply below_alloc | apply pw_below_drewN | apply below_drew1 | refine below_set ?_ GE414.out | refine below_set ?_ GE431.out | refine below_set ?_ GE439.out | refine below_set ?_ GE448.out) | exact HB.out))))
            have n8_ := Aside0.mk (blk_below (g := gb414) (o := .cells #[.int .i64 a0_0, .slice A0_1 l0_1.length c0_1, .slice A0_2 l0_2.length c0_2] 25 (0, 0)) (by (with_reducible repeat (first | refine blk_drewN ?_ _ | refine blk_drew ?_ | refine blk_alloc ?_ _)); exact BK414.out) hb)
            have n9_ := Aside0.mk (blk_below (g := gb431) (o := .cells #[.int .i64 t423, .slice Ao25 t424.length co25, .slice Ao26 t427.length co26] 30 (0, 0)) (by (with_reducible repeat (first | refine blk_drewN ?_ _ | refine blk_drew ?_ | refine blk_alloc ?_ _)); exact BK431.out) hb)
            have n10_ := Aside0.mk (blk_below (g := gb439) (o := .cells #[.int .i64 t432, .slice Ao33 t433.length co33, .slice Ao34 t436.length co34] 30 (0, 0)) (by (with_reducible repeat (first | refine blk_drewN ?_ _ | refine blk_drew ?_ | refine blk_alloc ?_ _)); exact BK439.out) hb)
            have n11_ := Aside0.mk (blk_below (g := gb448) (o := .cells #[.int .i64 t440, .slice Ao41 t441.length co41, .slice Ao42 t444.length co42] 30 (0, 0)) (by (with_reducible repeat (first | refine blk_drewN ?_ _ | refine blk_drew ?_ | refine blk_alloc ?_ _)); exact BK448.out) hb)
            have n12_ := Aside0.mk (below_step (by repeat (first | (with_reducible first | exact HB.out | apply below_alloc | apply pw_below_drewN | apply below_drew1 | refine below_set ?_ GE414.out | refine below_set ?_ GE431.out | refine below_set ?_ GE439.out | refine below_set ?_ GE448.out) | exact HB.out)) hb)
            clear HO_432001
            clear HO_432002
            clear HO_440001
            clear HO_440002
            clear HO_449001
            clear HO_449002
            clear BK414
            clear BK431
            clear BK439
            clear BK448
            clear HB
            have HO_432001 := n0_
            have HO_432002 := n1_
            have HO_440001 := n2_
            have HO_440002 := n3_
            have HO_449001 := n4_
            have HO_449002 := n5_
            have HO453 := n6_
            have HO456 := n7_
            have BK414 := n8_
            have BK431 := n9_
            have BK439 := n10_
            have BK448 := n11_
            have HB := n12_
            clear n0_ n1_ n2_ n3_ n4_ n5_ n6_ n7_ n8_ n9_ n10_ n11_ n12_
            (try clear hb)
            (try clear hb2)
            (try clear hk)
            (try clear hi)
            (try clear ho0)
            (try clear ho1)
            obtain ⟨Ao69, co69, eo69⟩ := Kd.R_slice HO453.out
            (first | subst eo69 | (injection eo69 with f1_ f2_ f3_; have f4_ := f1_.symm; have f5_ := f3_.symm; clear f1_ f2_ f3_; subst f4_; subst f5_))
            obtain ⟨Ao70, co70, eo70⟩ := Kd.R_slice HO456.out
            (first | subst eo70 | (injection eo70 with f1_ f2_ f3_; have f4_ := f1_.symm; have f5_ := f3_.symm; clear f1_ f2_ f3_; subst f4_; subst f5_))
            refine hK.out _ _ ⟨(blk_cell BK439.out 0).trans rfl, (blk_cell BK439.out 1).trans rfl, (blk_cell BK439.out 2).trans rfl, (blk_cell BK414.out 0).trans rfl, (blk_cell BK414.out 1).trans rfl, (blk_cell BK414.out 2).trans rfl⟩ (fun hHeld => ?_)
            clear hK K
            refine norm_ (a' := ?_) ?_ ?_
            rotate_left
            · show Act.put _ (some 51) _ = _
              simp only [Act.put, List.setIfInBounds_toArray, List.set_cons_zero, List.set_cons_succ, i64_w, i32_w]
              rfl
            refine one_ (i := 3) (N := some 52) #[true, true, true, true, false] rfl rfl (by kernel_rfl) (by decide) (fun K hK => ?_)
            refine goes_ Try.func19 (by kernel_rfl) rfl #[.agg #[.int .i64 t432, .slice Ao33 t433.length co33, .slice Ao34 t436.length co34], .agg #[.int .i64 t450, .slice Ao69 t451.length co69, .slice Ao70 t454.length co70]] (by rfl) rfl rfl (by (try simp only [List.map_toArray, List.map_cons, List.map_nil]); first | done | rfl | (simp only [List.length_drop, List.length_take]; rfl)) ?_
            with_reducible refine (laws_eqColumn.calls kj12 t432 _ _ t433 _ _ t436 t450 _ _ t451 _ _ t454 true _ ?side1 ?side2 ?side3 ?side4 ?side5 ?side6 ?side7 ?side8 A63.out).mono ?_
            (case side1 => repeat (first | exact (Kd.R_reads' HO_440001.out).2.2 | (with_reducible refine Kd.C_alloc ?_ _) | (with_reducible refine Kd.C_drewN ?_ _) | (with_reducible refine Kd.C_drew ?_)))
            (case side2 => exact (Kd.R_reads' HO_440001.out).2.1)
            (case side3 => repeat (first | exact (Kd.R_reads' HO_440002.out).2.2 | (with_reducible refine Kd.C_alloc ?_ _) | (with_reducible refine Kd.C_drewN ?_ _) | (with_reducible refine Kd.C_drew ?_)))
            (case side4 => exact (Kd.R_reads' HO_440002.out).2.1)
            (case side5 => repeat (first | exact (Kd.R_reads' HO453.out).2.2 | (with_reducible refine Kd.C_alloc ?_ _) | (with_reducible refine Kd.C_drewN ?_ _) | (with_reducible refine Kd.C_drew ?_)))
            (case side6 => exact (Kd.R_reads' HO453.out).2.1)
            (case side7 => repeat (first | exact (Kd.R_reads' HO456.out).2.2 | (with_reducible refine Kd.C_alloc ?_ _) | (with_reducible refine Kd.C_drewN ?_ _) | (with_reducible refine Kd.C_drew ?_)))
            (case side8 => exact (Kd.R_reads' HO456.out).2.1)
            rintro e w71 ⟨rfl, hb⟩
            refine ⟨_, rfl, ?_⟩
            have n0_ := Aside0.mk (Kd.R_below (by (with_reducible repeat (first | apply Kd.R_alloc | apply Kd.R_drewN | apply Kd.R_drew)); exact HO_432001.out) hb)
            have n1_ := Aside0.mk (Kd.R_below (by (with_reducible repeat (first | apply Kd.R_alloc | apply Kd.R_drewN | apply Kd.R_drew)); exact HO_432002.out) hb)
            have n2_ := Aside0.mk (Kd.R_below (by (with_reducible repeat (first | apply Kd.R_alloc | apply Kd.R_drewN | apply Kd.R_drew)); exact HO_440001.out) hb)
            have n3_ := Aside0.mk (Kd.R_below (by (with_reducible repeat (first | apply Kd.R_alloc | apply Kd.R_drewN | apply Kd.R_drew)); exact HO_440002.out) hb)
            have n4_ := Aside0.mk (Kd.R_below (by (with_reducible repeat (first | apply Kd.R_alloc | apply Kd.R_drewN | apply Kd.R_drew)); exact HO_449001.out) hb)
            have n5_ := Aside0.mk (Kd.R_below (by (with_reducible repeat (first | apply Kd.R_alloc | apply Kd.R_drewN | apply Kd.R_drew)); exact HO_449002.out) hb)
            have n6_ := Aside0.mk (Kd.R_below (by (with_reducible repeat (first | apply Kd.R_alloc | apply Kd.R_drewN | apply Kd.R_drew)); exact HO453.out) hb)
            have n7_ := Aside0.mk (Kd.R_below (by (with_reducible repeat (first | apply Kd.R_alloc | apply Kd.R_drewN | apply Kd.R_drew)); exact HO456.out) hb)
            have n8_ := Aside0.mk (blk_below (g := gb414) (o := .cells #[.int .i64 a0_0, .slice A0_1 l0_1.length c0_1, .slice A0_2 l0_2.length c0_2] 25 (0, 0)) (by (with_reducible repeat (first | refine blk_drewN ?_ _ | refine blk_drew ?_ | refine blk_alloc ?_ _)); exact BK414.out) hb)
            have n9_ := Aside0.mk (blk_below (g := gb431) (o := .cells #[.int .i64 t423, .slice Ao25 t424.length co25, .slice Ao26 t427.length co26] 30 (0, 0)) (by (with_reducible repeat (first | refine blk_drewN ?_ _ | refine blk_drew ?_ | refine blk_alloc ?_ _)); exact BK431.out) hb)
            have n10_ := Aside0.mk (blk_below (g := gb439) (o := .cells #[.int .i64 t432, .slice Ao33 t433.length co33, .slice Ao34 t436.length co34] 30 (0, 0)) (by (with_reducible repeat (first | refine blk_drewN ?_ _ | refine blk_drew ?_ | refine blk_alloc ?_ _)); exact BK439.out) hb)
            have n11_ := Aside0.mk (blk_below (g := gb448) (o := .cells #[.int .i64 t440, .slice Ao41 t441.length co41, .slice Ao42 t444.length co42] 30 (0, 0)) (by (with_reducible repeat (first | refine blk_drewN ?_ _ | refine blk_drew ?_ | refine blk_alloc ?_ _)); exact BK448.out) hb)
            have n12_ := Aside0.mk (below_step (by repeat (first | (with_reducible first | exact HB.out | apply below_alloc | apply pw_below_drewN | apply below_drew1 | refine below_set ?_ GE414.out | refine below_set ?_ GE431.out | refine below_set ?_ GE439.out | refine below_set ?_ GE448.out) | exact HB.out)) hb)
            clear HO_432001
            clear HO_432002
            clear HO_440001
            clear HO_440002
            clear HO_449001
            clear HO_449002
            clear HO453
            clear HO456
            clear BK414
            clear BK431
            clear BK439
            clear BK448
            clear HB
            have HO_432001 := n0_
            have HO_432002 := n1_
            have HO_440001 := n2_
            have HO_440002 := n3_
            have HO_449001 := n4_
            have HO_449002 := n5_
            have HO453 := n6_
            have HO456 := n7_
            have BK414 := n8_
            have BK431 := n9_
            have BK439 := n10_
            have BK448 := n11_
            have HB := n12_
            clear n0_ n1_ n2_ n3_ n4_ n5_ n6_ n7_ n8_ n9_ n10_ n11_ n12_
            (try clear hb)
            (try clear hb2)
            (try clear hk)
            (try clear hi)
            refine hK.out _ _ ⟨(blk_cell BK439.out 0).trans rfl, (blk_cell BK439.out 1).trans rfl, (blk_cell BK439.out 2).trans rfl, (blk_cell BK414.out 0).trans rfl, (blk_cell BK414.out 1).trans rfl, (blk_cell BK414.out 2).trans rfl⟩ (fun hHeld => ?_)
            clear hK K
            refine norm_ (a' := ?_) ?_ ?_
            rotate_left
            · show Act.put _ (some 52) _ = _
              simp only [Act.put, List.setIfInBounds_toArray, List.set_cons_zero, List.set_cons_succ, i64_w, i32_w]
              rfl
            refine pure_ (i := 4) (N := some 53) (v := ?_) (a' := ?_) #[true, true, true, true, true] rfl rfl (by kernel_rfl) (fun _ _ _ h => h) (Or.inl ⟨by rfl, ?_⟩) ?_ ?_
            rotate_left
            · intro w'
              go_simp
              with_reducible rfl
            rotate_left
            · simp only [Act.put, List.setIfInBounds_toArray, List.set_cons_zero, List.set_cons_succ, i64_w, i32_w]
              rfl
            refine done_ (by kernel_rfl) ?_
            have hnb72 := NB439_414.out
            have hnc72 := NB414_439.out
            have hnb73 := NB439_431.out
            have hnc73 := NB431_439.out
            have hnb74 := NB439_448.out
            have hnc74 := NB448_439.out
            have hcz75_0 : w71.cell? ⟨gb439, 0, none⟩ = some (.int .i64 t432) := (blk_cell BK439.out 0).trans rfl
            have hcz75_1 : w71.cell? ⟨gb439, 1, none⟩ = some (.slice Ao33 t433.length co33) := (blk_cell BK439.out 1).trans rfl
            have hcz75_2 : w71.cell? ⟨gb439, 2, none⟩ = some (.slice Ao34 t436.length co34) := (blk_cell BK439.out 2).trans rfl
            have hfz75_0 := blk_frozen BK439.out 0
            have hfz75_1 := blk_frozen BK439.out 1
            have hfz75_2 := blk_frozen BK439.out 2
            go_upto_region 14 with (first | ((with_reducible refine gate_callee (f := 25) rfl ?_); refine goesL_ (some 56) rfl rfl Try.func25 (by kernel_rfl) rfl #[.agg #[.int .i64 t432, .slice Ao33 t433.length co33, .slice Ao34 t436.length co34], .int .i64 1] rfl (by (try simp only [List.map_toArray, List.map_cons, List.map_nil]); first | done | rfl | (simp only [List.length_drop, List.length_take]; rfl)) ?_; (with_reducible refine (laws_markColumn.calls kj12 t432 (fun k_ => some k_ = (.slice Ao33 t433.length co33 : Value).ownBlock) (.slice Ao33 t433.length co33) t433 (fun k_ => some k_ = (.slice Ao34 t436.length co34 : Value).ownBlock) (.slice Ao34 t436.length co34) t436 1 t458 t459 t460 w _ ?side1 ?side2 ?side3 A65.out).mono ?_); (case side1 => repeat (first | (with_reducible first | exact HB.out | apply below_alloc | apply pw_below_drewN | apply below_drew1 | refine below_set ?_ GE414.out | refine below_set ?_ GE431.out | refine below_set ?_ GE439.out | refine below_set ?_ GE448.out) | exact HB.out)); (case side2 => exact Kd.R_tight rfl HO_440001.out); (case side3 => exact Kd.R_tight rfl HO_440002.out); rintro e w76 ⟨rfl, hy0, hy1, hb, hkp⟩; refine ⟨_, rfl, ?_⟩; have n0_ := Aside0.mk (Kd.R_mono (ok' := fun k_ => some k_ ≠ (.slice Ao33 t433.length co33 : Value).ownBlock ∧ some k_ ≠ (.slice Ao41 t441.length co41 : Value).ownBlock ∧ some k_ ≠ (.slice Ao69 t451.length co69 : Value).ownBlock) (Kd.R_keptB ((Kd.R_apart' HO_432001.out (Kd.R_typed HO_440002.out) (by decide))) hkp (fun k_ hk_ hs_ => Or.elim hs_ (fun e_ => (hk_.1.1.1) e_) (fun e_ => (hk_.2) e_))) (fun k_ hk_ => ⟨hk_.1.1.1.1, hk_.1.1.1.2, hk_.1.1.2⟩)); have n1_ := Aside0.mk (Kd.R_mono (ok' := fun k_ => some k_ ≠ (.slice Ao34 t436.length co34 : Value).ownBlock ∧ some k_ ≠ (.slice Ao42 t444.length co42 : Value).ownBlock ∧ some k_ ≠ (.slice Ao70 t454.length co70 : Value).ownBlock) (Kd.R_keptB ((Kd.R_apart' HO_432002.out (Kd.R_typed HO_440001.out) (by decide))) hkp (fun k_ hk_ hs_ => Or.elim hs_ (fun e_ => (hk_.2) e_) (fun e_ => (hk_.1.1.1) e_))) (fun k_ hk_ => ⟨hk_.1.1.1.1, hk_.1.1.1.2, hk_.1.1.2⟩)); have n2_ := Aside0.mk (Kd.R_reok rfl hy0 (fun k_ e_ => HO_440001.out.1 k_ e_)); have n3_ := Aside0.mk (Kd.R_reok rfl hy1 (fun k_ e_ => HO_440002.out.1 k_ e_)); have n4_ := Aside0.mk (Kd.R_mono (ok' := fun k_ => some k_ ≠ (.slice Ao25 t424.length co25 : Value).ownBlock ∧ some k_ ≠ (.slice Ao33 t433.length co33 : Value).ownBlock ∧ some k_ ≠ (.slice Ao69 t451.length co69 : Value).ownBlock) (Kd.R_keptB ((Kd.R_apart' HO_449001.out (Kd.R_typed HO_440002.out) (by decide))) hkp (fun k_ hk_ hs_ => Or.elim hs_ (fun e_ => (hk_.1.1.2) e_) (fun e_ => (hk_.2) e_))) (fun k_ hk_ => ⟨hk_.1.1.1.1, hk_.1.1.1.2, hk_.1.1.2⟩)); have n5_ := Aside0.mk (Kd.R_mono (ok' := fun k_ => some k_ ≠ (.slice Ao26 t427.length co26 : Value).ownBlock ∧ some k_ ≠ (.slice Ao34 t436.length co34 : Value).ownBlock ∧ some k_ ≠ (.slice Ao70 t454.length co70 : Value).ownBlock) (Kd.R_keptB ((Kd.R_apart' HO_449002.out (Kd.R_typed HO_440001.out) (by decide))) hkp (fun k_ hk_ hs_ => Or.elim hs_ (fun e_ => (hk_.2) e_) (fun e_ => (hk_.1.1.2) e_))) (fun k_ hk_ => ⟨hk_.1.1.1.1, hk_.1.1.1.2, hk_.1.1.2⟩)); have n6_ := Aside0.mk (blk_kept (by (with_reducible repeat (first | refine blk_drewN ?_ _ | refine blk_drew ?_ | refine blk_alloc ?_ _)); exact BK414.out) hkp (fun hs_ => Or.elim hs_ (fun e_ => (fun e_ => (Kd.R_ne HO_440001.out BK414.out (by decide)) e_) e_) (fun e_ => (fun e_ => (Kd.R_ne HO_440002.out BK414.out (by decide)) e_) e_))); have n7_ := Aside0.mk (blk_kept (by (with_reducible repeat (first | refine blk_drewN ?_ _ | refine blk_drew ?_ | refine blk_alloc ?_ _)); exact BK431.out) hkp (fun hs_ => Or.elim hs_ (fun e_ => (fun e_ => (Kd.R_ne HO_440001.out BK431.out (by decide)) e_) e_) (fun e_ => (fun e_ => (Kd.R_ne HO_440002.out BK431.out (by decide)) e_) e_))); have n8_ := Aside0.mk (blk_kept (by (with_reducible repeat (first | refine blk_drewN ?_ _ | refine blk_drew ?_ | refine blk_alloc ?_ _)); exact BK439.out) hkp (fun hs_ => Or.elim hs_ (fun e_ => (fun e_ => (Kd.R_ne HO_440001.out BK439.out (by decide)) e_) e_) (fun e_ => (fun e_ => (Kd.R_ne HO_440002.out BK439.out (by decide)) e_) e_))); have n9_ := Aside0.mk (blk_kept (by (with_reducible repeat (first | refine blk_drewN ?_ _ | refine blk_drew ?_ | refine blk_alloc ?_ _)); exact BK448.out) hkp (fun hs_ => Or.elim hs_ (fun e_ => (fun e_ => (Kd.R_ne HO_440001.out BK448.out (by decide)) e_) e_) (fun e_ => (fun e_ => (Kd.R_ne HO_440002.out BK448.out (by decide)) e_) e_))); have n10_ := Aside0.mk (Kd.R_mono (ok' := fun k_ => some k_ ≠ (.slice Ao25 t424.length co25 : Value).ownBlock ∧ some k_ ≠ (.slice Ao33 t433.length co33 : Value).ownBlock ∧ some k_ ≠ (.slice Ao41 t441.length co41 : Value).ownBlock) (Kd.R_keptB ((Kd.R_apart' HO453.out (Kd.R_typed HO_440002.out) (by decide))) hkp (fun k_ hk_ hs_ => Or.elim hs_ (fun e_ => (hk_.1.1.2) e_) (fun e_ => (hk_.2) e_))) (fun k_ hk_ => ⟨hk_.1.1.1.1.2, hk_.1.1.1.2, hk_.1.1.2⟩)); have n11_ := Aside0.mk (Kd.R_mono (ok' := fun k_ => some k_ ≠ (.slice Ao26 t427.length co26 : Value).ownBlock ∧ some k_ ≠ (.slice Ao34 t436.length co34 : Value).ownBlock ∧ some k_ ≠ (.slice Ao42 t444.length co42 : Value).ownBlock) (Kd.R_keptB ((Kd.R_apart' HO456.out (Kd.R_typed HO_440001.out) (by decide))) hkp (fun k_ hk_ hs_ => Or.elim hs_ (fun e_ => (hk_.2) e_) (fun e_ => (hk_.1.1.2) e_))) (fun k_ hk_ => ⟨hk_.1.1.1.1.2, hk_.1.1.1.2, hk_.1.1.2⟩)); have n12_ := Aside0.mk (hb); clear HO_432001; clear HO_432002; clear HO_440001; clear HO_440002; clear HO_449001; clear HO_449002; clear BK414; clear BK431; clear BK439; clear BK448; clear HO453; clear HO456; clear HB; have HO_432001 := n0_; have HO_432002 := n1_; have HO_440001 := n2_; have HO_440002 := n3_; have HO_449001 := n4_; have HO_449002 := n5_; have BK414 := n6_; have BK431 := n7_; have BK439 := n8_; have BK448 := n9_; have HO453 := n10_; have HO456 := n11_; have HB := n12_; clear n0_ n1_ n2_ n3_ n4_ n5_ n6_ n7_ n8_ n9_ n10_ n11_ n12_; (try clear hb); (try clear hkp); (try clear hy0); (try clear hy1)))
            (try simp only [Act.put, List.setIfInBounds_toArray, List.set_cons_zero, List.set_cons_succ])
            go_cut [69] (fun v69 wc => ∃ (kq : Nat) (x69_65 : Bool), v69 = .bool x69_65 ∧ Aside0 (laws_FnExactSetJam.j1 kq a1 a2 t430 x69_65 a0_0 l0_1 l0_2 t423 t424 t427 t440 t441 t444 = some r) ∧ Aside0 (kq ≤ kj12) ∧ Aside0 (Kd.R (Kd.int .i64) 3 wc w.heap.size (fun k_ => some k_ ≠ ((.slice Ao33 t433.length co33) : Value).ownBlock ∧ some k_ ≠ ((.slice Ao41 t441.length co41) : Value).ownBlock) (.slice Ao25 t424.length co25) t424) ∧ Aside0 (Kd.R k71 71 wc w.heap.size (fun k_ => some k_ ≠ ((.slice Ao34 t436.length co34) : Value).ownBlock ∧ some k_ ≠ ((.slice Ao42 t444.length co42) : Value).ownBlock) (.slice Ao26 t427.length co26) t427) ∧ Aside0 (Kd.R (Kd.int .i64) 3 wc w.heap.size (fun k_ => some k_ ≠ ((.slice Ao25 t424.length co25) : Value).ownBlock ∧ some k_ ≠ ((.slice Ao41 t441.length co41) : Value).ownBlock) (.slice Ao33 t433.length co33) t459) ∧ Aside0 (Kd.R k71 71 wc w.heap.size (fun k_ => some k_ ≠ ((.slice Ao26 t427.length co26) : Value).ownBlock ∧ some k_ ≠ ((.slice Ao42 t444.length co42) : Value).ownBlock) (.slice Ao34 t436.length co34) t460) ∧ Aside0 (Kd.R (Kd.int .i64) 3 wc w.heap.size (fun k_ => some k_ ≠ ((.slice Ao25 t424.length co25) : Value).ownBlock ∧ some k_ ≠ ((.slice Ao33 t433.length co33) : Value).ownBlock) (.slice Ao41 t441.length co41) t441) ∧ Aside0 (Kd.R k71 71 wc w.heap.size (fun k_ => some k_ ≠ ((.slice Ao26 t427.length co26) : Value).ownBlock ∧ some k_ ≠ ((.slice Ao34 t436.length co34) : Value).ownBlock) (.slice Ao42 t444.length co42) t444) ∧ Aside0 (wc.heap[gb414]? = some (.cells #[.int .i64 a0_0, (.slice A0_1 l0_1.length c0_1), (.slice A0_2 l0_2.length c0_2)] 25 (0, 0))) ∧ Aside0 (wc.heap[gb431]? = some (.cells #[.int .i64 t423, (.slice Ao25 t424.length co25), (.slice Ao26 t427.length co26)] 30 (0, 0))) ∧ Aside0 (wc.heap[gb439]? = some (.cells #[.int .i64 t432, (.slice Ao33 t433.length co33), (.slice Ao34 t436.length co34)] 30 (0, 0))) ∧ Aside0 (wc.heap[gb448]? = some (.cells #[.int .i64 t440, (.slice Ao41 t441.length co41), (.slice Ao42 t444.length co42)] 30 (0, 0))) ∧ Aside0 (Below w.heap.size w wc))
            case first =>
              have H := HC66.out
              clear HC66
              by_cases c77 : t458 < 0
              · rw [if_pos c77] at H
                have c77b0 : decide (t458 < 0) = true := decide_eq_true c77
                clear c77
                (first | rw [c77b0] | (simp only [i64_w, i32_w]; rw [c77b0]) | skip)
                have H' := Aside0.mk H
                clear H
                go_wp2
                go_meet
                case rel => exact ⟨_, (true), (by first | rfl | (simp; done) | (simp [*]; done)), H', ⟨by have := HJ12.out; first | omega | exact Nat.le_refl _⟩, ⟨by (with_reducible repeat (first | apply Kd.R_alloc | apply Kd.R_drewN | apply Kd.R_drew)); exact Kd.R_mono HO_432001.out (fun _ hk => ⟨hk.1, hk.2.1⟩)⟩, ⟨by (with_reducible repeat (first | apply Kd.R_alloc | apply Kd.R_drewN | apply Kd.R_drew)); exact Kd.R_mono HO_432002.out (fun _ hk => ⟨hk.1, hk.2.1⟩)⟩, ⟨by (with_reducible repeat (first | apply Kd.R_alloc | apply Kd.R_drewN | apply Kd.R_drew)); exact Kd.R_mono HO_440001.out (fun _ hk => ⟨hk.1.1, hk.1.2⟩)⟩, ⟨by (with_reducible repeat (first | apply Kd.R_alloc | apply Kd.R_drewN | apply Kd.R_drew)); exact Kd.R_mono HO_440002.out (fun _ hk => ⟨hk.1.1, hk.1.2⟩)⟩, ⟨by (with_reducible repeat (first | apply Kd.R_alloc | apply Kd.R_drewN | apply Kd.R_drew)); exact Kd.R_mono HO_449001.out (fun _ hk => ⟨hk.1, hk.2.1⟩)⟩, ⟨by (with_reducible repeat (first | apply Kd.R_alloc | apply Kd.R_drewN | apply Kd.R_drew)); exact Kd.R_mono HO_449002.out (fun _ hk => ⟨hk.1, hk.2.1⟩)⟩, ⟨by (with_reducible repeat (first | refine blk_drewN ?_ _ | refine blk_drew ?_ | refine blk_alloc ?_ _)); exact BK414.out⟩, ⟨by (with_reducible repeat (first | refine blk_drewN ?_ _ | refine blk_drew ?_ | refine blk_alloc ?_ _)); exact BK431.out⟩, ⟨by (with_reducible repeat (first | refine blk_drewN ?_ _ | refine blk_drew ?_ | refine blk_alloc ?_ _)); exact BK439.out⟩, ⟨by (with_reducible repeat (first | refine blk_drewN ?_ _ | refine blk_drew ?_ | refine blk_alloc ?_ _)); exact BK448.out⟩, ⟨by repeat (first | (with_reducible first | exact HB.out | apply below_alloc | apply pw_below_drewN | apply below_drew1 | refine below_set ?_ GE414.out | refine below_set ?_ GE431.out | refine below_set ?_ GE439.out | refine below_set ?_ GE448.out) | exact HB.out)⟩⟩
              · rw [if_neg c77] at H
                have c77b0 : decide (t458 < 0) = false := decide_eq_false c77
                clear c77
                (first | rw [c77b0] | (simp only [i64_w, i32_w]; rw [c77b0]) | skip)
                replace H := Option.bind_eq_some_iff.mp H
                obtain ⟨t461, A780, H⟩ := H
                replace H : (if t461 = true then (laws_FnExactSetJam.j1 kj12 a1 a2 t430 (t447 != t430) a0_0 l0_1 l0_2 t423 t424 t427 t440 t441 t444) else (laws_FnExactSetJam.j1 kj12 a1 a2 t430 true a0_0 l0_1 l0_2 t423 t424 t427 t440 t441 t444)) = some r := H
                have A78 := Aside0.mk A780
                clear A780
                by_cases c79 : t461 = true
                · subst c79
                  have H1 : (laws_FnExactSetJam.j1 kj12 a1 a2 t430 (t447 != t430) a0_0 l0_1 l0_2 t423 t424 t427 t440 t441 t444) = some r := by rw [if_pos rfl] at H; exact H
                  clear H
                  have H := H1
                  clear H1
                  have H' := Aside0.mk H
                  clear H
                  have hnb80 := NB448_414.out
                  have hnc80 := NB414_448.out
                  have hnb81 := NB448_431.out
                  have hnc81 := NB431_448.out
                  have hnb82 := NB448_439.out
                  have hnc82 := NB439_448.out
                  have hcz83_0 : w76.cell? ⟨gb448, 0, none⟩ = some (.int .i64 t440) := (blk_cell BK448.out 0).trans rfl
                  have hcz83_1 : w76.cell? ⟨gb448, 1, none⟩ = some (.slice Ao41 t441.length co41) := (blk_cell BK448.out 1).trans rfl
                  have hcz83_2 : w76.cell? ⟨gb448, 2, none⟩ = some (.slice Ao42 t444.length co42) := (blk_cell BK448.out 2).trans rfl
                  have hfz83_0 := blk_frozen BK448.out 0
                  have hfz83_1 := blk_frozen BK448.out 1
                  have hfz83_2 := blk_frozen BK448.out 2
                  have hnb84 := NB431_414.out
                  have hnc84 := NB414_431.out
                  have hnb85 := NB431_439.out
                  have hnc85 := NB439_431.out
                  have hcz86_0 : w76.cell? ⟨gb431, 0, none⟩ = some (.int .i64 t423) := (blk_cell BK431.out 0).trans rfl
                  have hcz86_1 : w76.cell? ⟨gb431, 1, none⟩ = some (.slice Ao25 t424.length co25) := (blk_cell BK431.out 1).trans rfl
                  have hcz86_2 : w76.cell? ⟨gb431, 2, none⟩ = some (.slice Ao26 t427.length co26) := (blk_cell BK431.out 2).trans rfl
                  have hfz86_0 := blk_frozen BK431.out 0
                  have hfz86_1 := blk_frozen BK431.out 1
                  have hfz86_2 := blk_frozen BK431.out 2
                  go_wp2_with (first | (go_at_call 19; (with_reducible refine (laws_eqColumn.calls kj12 t440 _ _ t441 _ _ t444 t423 _ _ t424 _ _ t427 true _ ?side1 ?side2 ?side3 ?side4 ?side5 ?side6 ?side7 ?side8 A78.out).mono ?_); (case side1 => repeat (first | exact (Kd.R_reads' HO_449001.out).2.2 | (with_reducible refine Kd.C_alloc ?_ _) | (with_reducible refine Kd.C_drewN ?_ _) | (with_reducible refine Kd.C_drew ?_))); (case side2 => exact (Kd.R_reads' HO_449001.out).2.1); (case side3 => repeat (first | exact (Kd.R_reads' HO_449002.out).2.2 | (with_reducible refine Kd.C_alloc ?_ _) | (with_reducible refine Kd.C_drewN ?_ _) | (with_reducible refine Kd.C_drew ?_))); (case side4 => exact (Kd.R_reads' HO_449002.out).2.1); (case side5 => repeat (first | exact (Kd.R_reads' HO_432001.out).2.2 | (with_reducible refine Kd.C_alloc ?_ _) | (with_reducible refine Kd.C_drewN ?_ _) | (with_reducible refine Kd.C_drew ?_))); (case side6 => exact (Kd.R_reads' HO_432001.out).2.1); (case side7 => repeat (first | exact (Kd.R_reads' HO_432002.out).2.2 | (with_reducible refine Kd.C_alloc ?_ _) | (with_reducible refine Kd.C_drewN ?_ _) | (with_reducible refine Kd.C_drew ?_))); (case side8 => exact (Kd.R_reads' HO_432002.out).2.1); rintro e w87 ⟨rfl, hb⟩; have n0_ := Aside0.mk (Kd.R_below (by (with_reducible repeat (first | apply Kd.R_alloc | apply Kd.R_drewN | apply Kd.R_drew)); exact HO_432001.out) hb); have n1_ := Aside0.mk (Kd.R_below (by (with_reducible repeat (first | apply Kd.R_alloc | apply Kd.R_drewN | apply Kd.R_drew)); exact HO_432002.out) hb); have n2_ := Aside0.mk (Kd.R_below (by (with_reducible repeat (first | apply Kd.R_alloc | apply Kd.R_drewN | apply Kd.R_drew)); exact HO_440001.out) hb); have n3_ := Aside0.mk (Kd.R_below (by (with_reducible repeat (first | apply Kd.R_alloc | apply Kd.R_drewN | apply Kd.R_drew)); exact HO_440002.out) hb); have n4_ := Aside0.mk (Kd.R_below (by (with_reducible repeat (first | apply Kd.R_alloc | apply Kd.R_drewN | apply Kd.R_drew)); exact HO_449001.out) hb); have n5_ := Aside0.mk (Kd.R_below (by (with_reducible repeat (first | apply Kd.R_alloc | apply Kd.R_drewN | apply Kd.R_drew)); exact HO_449002.out) hb); have n6_ := Aside0.mk (Kd.R_below (by (with_reducible repeat (first | apply Kd.R_alloc | apply Kd.R_drewN | apply Kd.R_drew)); exact HO453.out) hb); have n7_ := Aside0.mk (Kd.R_below (by (with_reducible repeat (first | apply Kd.R_alloc | apply Kd.R_drewN | apply Kd.R_drew)); exact HO456.out) hb); have n8_ := Aside0.mk (blk_below (g := gb414) (o := .cells #[.int .i64 a0_0, .slice A0_1 l0_1.length c0_1, .slice A0_2 l0_2.length c0_2] 25 (0, 0)) (by (with_reducible repeat (first | refine blk_drewN ?_ _ | refine blk_drew ?_ | refine blk_alloc ?_ _)); exact BK414.out) hb); have n9_ := Aside0.mk (blk_below (g := gb431) (o := .cells #[.int .i64 t423, .slice Ao25 t424.length co25, .slice Ao26 t427.length co26] 30 (0, 0)) (by (with_reducible repeat (first | refine blk_drewN ?_ _ | refine blk_drew ?_ | refine blk_alloc ?_ _)); exact BK431.out) hb); have n10_ := Aside0.mk (blk_below (g := gb439) (o := .cells #[.int .i64 t432, .slice Ao33 t433.length co33, .slice Ao34 t436.length co34] 30 (0, 0)) (by (with_reducible repeat (first | refine blk_drewN ?_ _ | refine blk_drew ?_ | refine blk_alloc ?_ _)); exact BK439.out) hb); have n11_ := Aside0.mk (blk_below (g := gb448) (o := .cells #[.int .i64 t440, .slice Ao41 t441.length co41, .slice Ao42 t444.length co42] 30 (0, 0)) (by (with_reducible repeat (first | refine blk_drewN ?_ _ | refine blk_drew ?_ | refine blk_alloc ?_ _)); exact BK448.out) hb); have n12_ := Aside0.mk (below_step (by repeat (first | (with_reducible first | exact HB.out | apply below_alloc | apply pw_below_drewN | apply below_drew1 | refine below_set ?_ GE414.out | refine below_set ?_ GE431.out | refine below_set ?_ GE439.out | refine below_set ?_ GE448.out) | exact HB.out)) hb); clear HO_432001; clear HO_432002; clear HO_440001; clear HO_440002; clear HO_449001; clear HO_449002; clear HO453; clear HO456; clear BK414; clear BK431; clear BK439; clear BK448; clear HB; have HO_432001 := n0_; have HO_432002 := n1_; have HO_440001 := n2_; have HO_440002 := n3_; have HO_449001 := n4_; have HO_449002 := n5_; have HO453 := n6_; have HO456 := n7_; have BK414 := n8_; have BK431 := n9_; have BK439 := n10_; have BK448 := n11_; have HB := n12_; clear n0_ n1_ n2_ n3_ n4_ n5_ n6_ n7_ n8_ n9_ n10_ n11_ n12_; (try clear hb); (try clear hb2); (try clear hk); (try clear hi)))
                  go_meet
                  case rel => exact ⟨_, ((t447 != t430)), (by first | rfl | (simp; done) | (simp [*]; done)), H', ⟨by have := HJ12.out; first | omega | exact Nat.le_refl _⟩, ⟨by (with_reducible repeat (first | apply Kd.R_alloc | apply Kd.R_drewN | apply Kd.R_drew)); exact Kd.R_mono HO_432001.out (fun _ hk => ⟨hk.1, hk.2.1⟩)⟩, ⟨by (with_reducible repeat (first | apply Kd.R_alloc | apply Kd.R_drewN | apply Kd.R_drew)); exact Kd.R_mono HO_432002.out (fun _ hk => ⟨hk.1, hk.2.1⟩)⟩, ⟨by (with_reducible repeat (first | apply Kd.R_alloc | apply Kd.R_drewN | apply Kd.R_drew)); exact Kd.R_mono HO_440001.out (fun _ hk => ⟨hk.1.1, hk.1.2⟩)⟩, ⟨by (with_reducible repeat (first | apply Kd.R_alloc | apply Kd.R_drewN | apply Kd.R_drew)); exact Kd.R_mono HO_440002.out (fun _ hk => ⟨hk.1.1, hk.1.2⟩)⟩, ⟨by (with_reducible repeat (first | apply Kd.R_alloc | apply Kd.R_drewN | apply Kd.R_drew)); exact Kd.R_mono HO_449001.out (fun _ hk => ⟨hk.1, hk.2.1⟩)⟩, ⟨by (with_reducible repeat (first | apply Kd.R_alloc | apply Kd.R_drewN | apply Kd.R_drew)); exact Kd.R_mono HO_449002.out (fun _ hk => ⟨hk.1, hk.2.1⟩)⟩, ⟨by (with_reducible repeat (first | refine blk_drewN ?_ _ | refine blk_drew ?_ | refine blk_alloc ?_ _)); exact BK414.out⟩, ⟨by (with_reducible repeat (first | refine blk_drewN ?_ _ | refine blk_drew ?_ | refine blk_alloc ?_ _)); exact BK431.out⟩, ⟨by (with_reducible repeat (first | refine blk_drewN ?_ _ | refine blk_drew ?_ | refine blk_alloc ?_ _)); exact BK439.out⟩, ⟨by (with_reducible repeat (first | refine blk_drewN ?_ _ | refine blk_drew ?_ | refine blk_alloc ?_ _)); exact BK448.out⟩, ⟨by repeat (first | (with_reducible first | exact HB.out | apply below_alloc | apply pw_below_drewN | apply below_drew1 | refine below_set ?_ GE414.out | refine below_set ?_ GE431.out | refine below_set ?_ GE439.out | refine below_set ?_ GE448.out) | exact HB.out)⟩⟩
                · replace c79 := Bool.eq_false_iff.mpr c79
                  subst c79
                  have H1 : (laws_FnExactSetJam.j1 kj12 a1 a2 t430 true a0_0 l0_1 l0_2 t423 t424 t427 t440 t441 t444) = some r := by rw [if_neg (show ¬ (false = true) by decide)] at H; exact H
                  clear H
                  have H := H1
                  clear H1
                  have H' := Aside0.mk H
                  clear H
                  have hnb88 := NB448_414.out
                  have hnc88 := NB414_448.out
                  have hnb89 := NB448_431.out
                  have hnc89 := NB431_448.out
                  have hnb90 := NB448_439.out
                  have hnc90 := NB439_448.out
                  have hcz91_0 : w76.cell? ⟨gb448, 0, none⟩ = some (.int .i64 t440) := (blk_cell BK448.out 0).trans rfl
                  have hcz91_1 : w76.cell? ⟨gb448, 1, none⟩ = some (.slice Ao41 t441.length co41) := (blk_cell BK448.out 1).trans rfl
                  have hcz91_2 : w76.cell? ⟨gb448, 2, none⟩ = some (.slice Ao42 t444.length co42) := (blk_cell BK448.out 2).trans rfl
                  have hfz91_0 := blk_frozen BK448.out 0
                  have hfz91_1 := blk_frozen BK448.out 1
                  have hfz91_2 := blk_frozen BK448.out 2
                  have hnb92 := NB431_414.out
                  have hnc92 := NB414_431.out
                  have hnb93 := NB431_439.out
                  have hnc93 := NB439_431.out
                  have hcz94_0 : w76.cell? ⟨gb431, 0, none⟩ = some (.int .i64 t423) := (blk_cell BK431.out 0).trans rfl
                  have hcz94_1 : w76.cell? ⟨gb431, 1, none⟩ = some (.slice Ao25 t424.length co25) := (blk_cell BK431.out 1).trans rfl
                  have hcz94_2 : w76.cell? ⟨gb431, 2, none⟩ = some (.slice Ao26 t427.length co26) := (blk_cell BK431.out 2).trans rfl
                  have hfz94_0 := blk_frozen BK431.out 0
                  have hfz94_1 := blk_frozen BK431.out 1
                  have hfz94_2 := blk_frozen BK431.out 2
                  go_wp2_with (first | (go_at_call 19; (with_reducible refine (laws_eqColumn.calls kj12 t440 _ _ t441 _ _ t444 t423 _ _ t424 _ _ t427 false _ ?side1 ?side2 ?side3 ?side4 ?side5 ?side6 ?side7 ?side8 A78.out).mono ?_); (case side1 => repeat (first | exact (Kd.R_reads' HO_449001.out).2.2 | (with_reducible refine Kd.C_alloc ?_ _) | (with_reducible refine Kd.C_drewN ?_ _) | (with_reducible refine Kd.C_drew ?_))); (case side2 => exact (Kd.R_reads' HO_449001.out).2.1); (case side3 => repeat (first | exact (Kd.R_reads' HO_449002.out).2.2 | (with_reducible refine Kd.C_alloc ?_ _) | (with_reducible refine Kd.C_drewN ?_ _) | (with_reducible refine Kd.C_drew ?_))); (case side4 => exact (Kd.R_reads' HO_449002.out).2.1); (case side5 => repeat (first | exact (Kd.R_reads' HO_432001.out).2.2 | (with_reducible refine Kd.C_alloc ?_ _) | (with_reducible refine Kd.C_drewN ?_ _) | (with_reducible refine Kd.C_drew ?_))); (case side6 => exact (Kd.R_reads' HO_432001.out).2.1); (case side7 => repeat (first | exact (Kd.R_reads' HO_432002.out).2.2 | (with_reducible refine Kd.C_alloc ?_ _) | (with_reducible refine Kd.C_drewN ?_ _) | (with_reducible refine Kd.C_drew ?_))); (case side8 => exact (Kd.R_reads' HO_432002.out).2.1); rintro e w95 ⟨rfl, hb⟩; have n0_ := Aside0.mk (Kd.R_below (by (with_reducible repeat (first | apply Kd.R_alloc | apply Kd.R_drewN | apply Kd.R_drew)); exact HO_432001.out) hb); have n1_ := Aside0.mk (Kd.R_below (by (with_reducible repeat (first | apply Kd.R_alloc | apply Kd.R_drewN | apply Kd.R_drew)); exact HO_432002.out) hb); have n2_ := Aside0.mk (Kd.R_below (by (with_reducible repeat (first | apply Kd.R_alloc | apply Kd.R_drewN | apply Kd.R_drew)); exact HO_440001.out) hb); have n3_ := Aside0.mk (Kd.R_below (by (with_reducible repeat (first | apply Kd.R_alloc | apply Kd.R_drewN | apply Kd.R_drew)); exact HO_440002.out) hb); have n4_ := Aside0.mk (Kd.R_below (by (with_reducible repeat (first | apply Kd.R_alloc | apply Kd.R_drewN | apply Kd.R_drew)); exact HO_449001.out) hb); have n5_ := Aside0.mk (Kd.R_below (by (with_reducible repeat (first | apply Kd.R_alloc | apply Kd.R_drewN | apply Kd.R_drew)); exact HO_449002.out) hb); have n6_ := Aside0.mk (Kd.R_below (by (with_reducible repeat (first | apply Kd.R_alloc | apply Kd.R_drewN | apply Kd.R_drew)); exact HO453.out) hb); have n7_ := Aside0.mk (Kd.R_below (by (with_reducible repeat (first | apply Kd.R_alloc | apply Kd.R_drewN | apply Kd.R_drew)); exact HO456.out) hb); have n8_ := Aside0.mk (blk_below (g := gb414) (o := .cells #[.int .i64 a0_0, .slice A0_1 l0_1.length c0_1, .slice A0_2 l0_2.length c0_2] 25 (0, 0)) (by (with_reducible repeat (first | refine blk_drewN ?_ _ | refine blk_drew ?_ | refine blk_alloc ?_ _)); exact BK414.out) hb); have n9_ := Aside0.mk (blk_below (g := gb431) (o := .cells #[.int .i64 t423, .slice Ao25 t424.length co25, .slice Ao26 t427.length co26] 30 (0, 0)) (by (with_reducible repeat (first | refine blk_drewN ?_ _ | refine blk_drew ?_ | refine blk_alloc ?_ _)); exact BK431.out) hb); have n10_ := Aside0.mk (blk_below (g := gb439) (o := .cells #[.int .i64 t432, .slice Ao33 t433.length co33, .slice Ao34 t436.length co34] 30 (0, 0)) (by (with_reducible repeat (first | refine blk_drewN ?_ _ | refine blk_drew ?_ | refine blk_alloc ?_ _)); exact BK439.out) hb); have n11_ := Aside0.mk (blk_below (g := gb448) (o := .cells #[.int .i64 t440, .slice Ao41 t441.length co41, .slice Ao42 t444.length co42] 30 (0, 0)) (by (with_reducible repeat (first | refine blk_drewN ?_ _ | refine blk_drew ?_ | refine blk_alloc ?_ _)); exact BK448.out) hb); have n12_ := Aside0.mk (below_step (by repeat (first | (with_reducible first | exact HB.out | apply below_alloc | apply pw_below_drewN | apply below_drew1 | refine below_set ?_ GE414.out | refine below_set ?_ GE431.out | refine below_set ?_ GE439.out | refine below_set ?_ GE448.out) | exact HB.out)) hb); clear HO_432001; clear HO_432002; clear HO_440001; clear HO_440002; clear HO_449001; clear HO_449002; clear HO453; clear HO456; clear BK414; clear BK431; clear BK439; clear BK448; clear HB; have HO_432001 := n0_; have HO_432002 := n1_; have HO_440001 := n2_; have HO_440002 := n3_; have HO_449001 := n4_; have HO_449002 := n5_; have HO453 := n6_; have HO456 := n7_; have BK414 := n8_; have BK431 := n9_; have BK439 := n10_; have BK448 := n11_; have HB := n12_; clear n0_ n1_ n2_ n3_ n4_ n5_ n6_ n7_ n8_ n9_ n10_ n11_ n12_; (try clear hb); (try clear hb2); (try clear hk); (try clear hi)))
                  go_meet
                  case rel => exact ⟨_, (true), (by first | rfl | (simp; done) | (simp [*]; done)), H', ⟨by have := HJ12.out; first | omega | exact Nat.le_refl _⟩, ⟨by (with_reducible repeat (first | apply Kd.R_alloc | apply Kd.R_drewN | apply Kd.R_drew)); exact Kd.R_mono HO_432001.out (fun _ hk => ⟨hk.1, hk.2.1⟩)⟩, ⟨by (with_reducible repeat (first | apply Kd.R_alloc | apply Kd.R_drewN | apply Kd.R_drew)); exact Kd.R_mono HO_432002.out (fun _ hk => ⟨hk.1, hk.2.1⟩)⟩, ⟨by (with_reducible repeat (first | apply Kd.R_alloc | apply Kd.R_drewN | apply Kd.R_drew)); exact Kd.R_mono HO_440001.out (fun _ hk => ⟨hk.1.1, hk.1.2⟩)⟩, ⟨by (with_reducible repeat (first | apply Kd.R_alloc | apply Kd.R_drewN | apply Kd.R_drew)); exact Kd.R_mono HO_440002.out (fun _ hk => ⟨hk.1.1, hk.1.2⟩)⟩, ⟨by (with_reducible repeat (first | apply Kd.R_alloc | apply Kd.R_drewN | apply Kd.R_drew)); exact Kd.R_mono HO_449001.out (fun _ hk => ⟨hk.1, hk.2.1⟩)⟩, ⟨by (with_reducible repeat (first | apply Kd.R_alloc | apply Kd.R_drewN | apply Kd.R_drew)); exact Kd.R_mono HO_449002.out (fun _ hk => ⟨hk.1, hk.2.1⟩)⟩, ⟨by (with_reducible repeat (first | refine blk_drewN ?_ _ | refine blk_drew ?_ | refine blk_alloc ?_ _)); exact BK414.out⟩, ⟨by (with_reducible repeat (first | refine blk_drewN ?_ _ | refine blk_drew ?_ | refine blk_alloc ?_ _)); exact BK431.out⟩, ⟨by (with_reducible repeat (first | refine blk_drewN ?_ _ | refine blk_drew ?_ | refine blk_alloc ?_ _)); exact BK439.out⟩, ⟨by (with_reducible repeat (first | refine blk_drewN ?_ _ | refine blk_drew ?_ | refine blk_alloc ?_ _)); exact BK448.out⟩, ⟨by repeat (first | (with_reducible first | exact HB.out | apply below_alloc | apply pw_below_drewN | apply below_drew1 | refine below_set ?_ GE414.out | refine below_set ?_ GE431.out | refine below_set ?_ GE439.out | refine below_set ?_ GE448.out) | exact HB.out)⟩⟩
            case rest =>
              clear HC66
              try clear c1
              try clear c2
              try clear p2
              try clear c3
              try clear c4
              try clear c5
              try clear c5b0
              try clear c6
              try clear c7
              try clear c8
              try clear c9
              try clear c15
              try clear c17
              try clear c19
              try clear c23
              try clear c25
              try clear c30
              try clear c31
              try clear c34
              try clear c35
              try clear c37
              try clear c38
              try clear c39
              try clear c44
              try clear c45
              try clear c46
              try clear c47
              try clear c49
              try clear c50
              try clear c53
              try clear c54
              try clear c55
              try clear c57
              try clear c58
              try clear c61
              try clear c64
              try clear c72
              try clear c73
              try clear c74
              try clear c77
              try clear c77b0
              try clear c79
              try clear c80
              try clear c81
              try clear c82
              try clear c84
              try clear c85
              try clear c88
              try clear c89
              try clear c90
              try clear c92
              try clear c93
              try clear hcz15_0
              try clear hcz15_1
              try clear hcz15_2
              try clear hcz17_0
              try clear hcz17_1
              try clear hcz17_2
              try clear hcz24_0
              try clear hcz24_1
              try clear hcz24_2
              try clear hcz27_0
              try clear hcz27_1
              try clear hcz27_2
              try clear hcz32_0
              try clear hcz32_1
              try clear hcz32_2
              try clear hcz40_0
              try clear hcz40_1
              try clear hcz40_2
              try clear hcz48_0
              try clear hcz48_1
              try clear hcz48_2
              try clear hcz51_0
              try clear hcz51_1
              try clear hcz51_2
              try clear hcz56_0
              try clear hcz56_1
              try clear hcz56_2
              try clear hcz59_0
              try clear hcz59_1
              try clear hcz59_2
              try clear hcz75_0
              try clear hcz75_1
              try clear hcz75_2
              try clear hcz7_0
              try clear hcz7_1
              try clear hcz7_2
              try clear hcz83_0
              try clear hcz83_1
              try clear hcz83_2
              try clear hcz86_0
              try clear hcz86_1
              try clear hcz86_2
              try clear hcz91_0
              try clear hcz91_1
              try clear hcz91_2
              try clear hcz94_0
              try clear hcz94_1
              try clear hcz94_2
              try clear hfz15_0
              try clear hfz15_1
              try clear hfz15_2
              try clear hfz17_0
              try clear hfz17_1
              try clear hfz17_2
              try clear hfz24_0
              try clear hfz24_1
              try clear hfz24_2
              try clear hfz27_0
              try clear hfz27_1
              try clear hfz27_2
              try clear hfz32_0
              try clear hfz32_1
              try clear hfz32_2
              try clear hfz40_0
              try clear hfz40_1
              try clear hfz40_2
              try clear hfz48_0
              try clear hfz48_1
              try clear hfz48_2
              try clear hfz51_0
              try clear hfz51_1
              try clear hfz51_2
              try clear hfz56_0
              try clear hfz56_1
              try clear hfz56_2
              try clear hfz59_0
              try clear hfz59_1
              try clear hfz59_2
              try clear hfz75_0
              try clear hfz75_1
              try clear hfz75_2
              try clear hfz7_0
              try clear hfz7_1
              try clear hfz7_2
              try clear hfz83_0
              try clear hfz83_1
              try clear hfz83_2
              try clear hfz86_0
              try clear hfz86_1
              try clear hfz86_2
              try clear hfz91_0
              try clear hfz91_1
              try clear hfz91_2
              try clear hfz94_0
              try clear hfz94_1
              try clear hfz94_2
              try clear p2
              obtain ⟨kq, x69_65, rfl, HA, HJ65, HO_432001, HO_432002, HO_440001, HO_440002, HO_449001, HO_449002, BK414, BK431, BK439, BK448, HB⟩ := hcut
              have hl440001_65 := (Kd.R_reads' HO_440001.out).1
              rw [hl440001_65] at HO_440001
              (try simp only [hl440001_65])
              (try simp only [hl440001_65] at BK414)
              (try simp only [hl440001_65] at BK431)
              (try simp only [hl440001_65] at BK439)
              (try simp only [hl440001_65] at BK448)
              (try simp only [hl440001_65] at HO_432001)
              (try simp only [hl440001_65] at HO_432002)
              (try simp only [hl440001_65] at HO_440002)
              (try simp only [hl440001_65] at HO_449001)
              (try simp only [hl440001_65] at HO_449002)
              have hl440002_65 := (Kd.R_reads' HO_440002.out).1
              rw [hl440002_65] at HO_440002
              (try simp only [hl440002_65])
              (try simp only [hl440002_65] at BK414)
              (try simp only [hl440002_65] at BK431)
              (try simp only [hl440002_65] at BK439)
              (try simp only [hl440002_65] at BK448)
              (try simp only [hl440002_65] at HO_432001)
              (try simp only [hl440002_65] at HO_432002)
              (try simp only [hl440002_65] at HO_440001)
              (try simp only [hl440002_65] at HO_449001)
              (try simp only [hl440002_65] at HO_449002)
              cases kq with
              | zero => exact absurd HA.out (by simp [laws_FnExactSetJam.j1])
              | succ kj65 =>
                have H := HA.out
                clear HA
                simp only [laws_FnExactSetJam.j1] at H
                by_cases c96 : x69_65 = true
                · subst c96
                  have H1 : (some false) = some r := by rw [if_pos rfl] at H; exact H
                  clear H
                  have H := H1
                  clear H1
                  exact absurd (Option.some.inj H) (by rw [hr_.out]; decide)
                · replace c96 := Bool.eq_false_iff.mpr c96
                  subst c96
                  have H1 : ((laws_markColumn.f kj65 t440 t441 t444 1).bind fun bt462 => ((laws_heldColumn.f kj65 t440 bt462.2.1 bt462.2.2 1).bind fun t465 => (if t465 < 0 then (some false) else (if t465 = bt462.1 then ((laws_toColumn.f kj65 a0_0 l0_1 l0_2).bind fun bt466 => ((impl_SetJam.f kj65 bt466.1 bt466.2.1 bt466.2.2 a1 a2).bind fun bt473 => ((laws_eqColumn.f kj65 bt473.1 bt473.2.1 bt473.2.2.1 t423 t424 t427).bind fun t482 => (if t482 = true then (laws_FnExactSetJam.j2 kj65 bt462.1 (bt473.2.2.2 != t430) t440 bt462.2.1 bt462.2.2) else (laws_FnExactSetJam.j2 kj65 bt462.1 true t440 bt462.2.1 bt462.2.2))))) else (some false))))) = some r := by rw [if_neg (show ¬ (false = true) by decide)] at H; exact H
                  clear H
                  have H := H1
                  clear H1
                  replace H := Option.bind_eq_some_iff.mp H
                  obtain ⟨⟨t462, t463, t464⟩, A970, H⟩ := H
                  replace H : ((laws_heldColumn.f kj65 t440 t463 t464 1).bind fun t465 => (if t465 < 0 then (some false) else (if t465 = t462 then ((laws_toColumn.f kj65 a0_0 l0_1 l0_2).bind fun bt466 => ((impl_SetJam.f kj65 bt466.1 bt466.2.1 bt466.2.2 a1 a2).bind fun bt473 => ((laws_eqColumn.f kj65 bt473.1 bt473.2.1 bt473.2.2.1 t423 t424 t427).bind fun t482 => (if t482 = true then (laws_FnExactSetJam.j2 kj65 t462 (bt473.2.2.2 != t430) t440 t463 t464) else (laws_FnExactSetJam.j2 kj65 t462 true t440 t463 t464))))) else (some false)))) = some r := H
                  have A97 := Aside0.mk A970
                  clear A970
                  replace H := Option.bind_eq_some_iff.mp H
                  obtain ⟨t465, A980, H⟩ := H
                  replace H : (if t465 < 0 then (some false) else (if t465 = t462 then ((laws_toColumn.f kj65 a0_0 l0_1 l0_2).bind fun bt466 => ((impl_SetJam.f kj65 bt466.1 bt466.2.1 bt466.2.2 a1 a2).bind fun bt473 => ((laws_eqColumn.f kj65 bt473.1 bt473.2.1 bt473.2.2.1 t423 t424 t427).bind fun t482 => (if t482 = true then (laws_FnExactSetJam.j2 kj65 t462 (bt473.2.2.2 != t430) t440 t463 t464) else (laws_FnExactSetJam.j2 kj65 t462 true t440 t463 t464))))) else (some false))) = some r := H
                  have A98 := Aside0.mk A980
                  clear A980
                  by_cases c99 : t465 < 0
                  · rw [if_pos c99] at H
                    have c99b0 : decide (t465 < 0) = true := decide_eq_true c99
                    clear c99
                    exact absurd (Option.some.inj H) (by rw [hr_.out]; decide)
                  · rw [if_neg c99] at H
                    have c99b0 : decide (t465 < 0) = false := decide_eq_false c99
                    clear c99
                    by_cases c100 : t465 = t462
                    · rw [if_pos c100] at H
                      have c100b0 : (t465 == t462) = true := beq_iff_eq.mpr c100
                      have c100b1 : (t465 != t462) = false := bne_eq_false_iff_eq.mpr c100
                      clear c100
                      replace H := Option.bind_eq_some_iff.mp H
                      obtain ⟨⟨t466, t467, t470⟩, A1010, H⟩ := H
                      replace H : ((impl_SetJam.f kj65 t466 t467 t470 a1 a2).bind fun bt473 => ((laws_eqColumn.f kj65 bt473.1 bt473.2.1 bt473.2.2.1 t423 t424 t427).bind fun t482 => (if t482 = true then (laws_FnExactSetJam.j2 kj65 t462 (bt473.2.2.2 != t430) t440 t463 t464) else (laws_FnExactSetJam.j2 kj65 t462 true t440 t463 t464)))) = some r := H
                      have A101 := Aside0.mk A1010
                      clear A1010
                      replace H := Option.bind_eq_some_iff.mp H
                      obtain ⟨⟨t473, t474, t477, t480⟩, A1020, H⟩ := H
                      replace H : ((laws_eqColumn.f kj65 t473 t474 t477 t423 t424 t427).bind fun t482 => (if t482 = true then (laws_FnExactSetJam.j2 kj65 t462 (t480 != t430) t440 t463 t464) else (laws_FnExactSetJam.j2 kj65 t462 true t440 t463 t464))) = some r := H
                      have A102 := Aside0.mk A1020
                      clear A1020
                      have HC103 := Aside0.mk H
                      clear H
                      have hnb104 := NB448_414.out
                      have hnc104 := NB414_448.out
                      have hnb105 := NB448_431.out
                      have hnc105 := NB431_448.out
                      have hnb106 := NB448_439.out
                      have hnc106 := NB439_448.out
                      have hcz107_0 : wc.cell? ⟨gb448, 0, none⟩ = some (.int .i64 t440) := (blk_cell BK448.out 0).trans rfl
                      have hcz107_1 : wc.cell? ⟨gb448, 1, none⟩ = some (.slice Ao41 t441.length co41) := (blk_cell BK448.out 1).trans rfl
                      have hcz107_2 : wc.cell? ⟨gb448, 2, none⟩ = some (.slice Ao42 t444.length co42) := (blk_cell BK448.out 2).trans rfl
                      have hfz107_0 := blk_frozen BK448.out 0
                      have hfz107_1 := blk_frozen BK448.out 1
                      have hfz107_2 := blk_frozen BK448.out 2
                      go_upto_region 25 with (first | ((with_reducible refine gate_callee (f := 25) rfl ?_); refine goesL_ (some 72) rfl rfl Try.func25 (by kernel_rfl) rfl #[.agg #[.int .i64 t440, .slice Ao41 t441.length co41, .slice Ao42 t444.length co42], .int .i64 1] rfl (by (try simp only [List.map_toArray, List.map_cons, List.map_nil]); first | done | rfl | (simp only [List.length_drop, List.length_take]; rfl)) ?_; (with_reducible refine (laws_markColumn.calls kj65 t440 (fun k_ => some k_ = (.slice Ao41 t441.length co41 : Value).ownBlock) (.slice Ao41 t441.length co41) t441 (fun k_ => some k_ = (.slice Ao42 t444.length co42 : Value).ownBlock) (.slice Ao42 t444.length co42) t444 1 t462 t463 t464 w _ ?side1 ?side2 ?side3 A97.out).mono ?_); (case side1 => repeat (first | (with_reducible first | exact HB.out | apply below_alloc | apply pw_below_drewN | apply below_drew1 | refine below_set ?_ GE414.out | refine below_set ?_ GE431.out | refine below_set ?_ GE439.out | refine below_set ?_ GE448.out) | exact HB.out)); (case side2 => exact Kd.R_tight rfl HO_449001.out); (case side3 => exact Kd.R_tight rfl HO_449002.out); rintro e w108 ⟨rfl, hy0, hy1, hb, hkp⟩; refine ⟨_, rfl, ?_⟩; have n0_ := Aside0.mk (Kd.R_mono (ok' := fun k_ => some k_ ≠ (.slice Ao33 t459.length co33 : Value).ownBlock ∧ some k_ ≠ (.slice Ao41 t441.length co41 : Value).ownBlock) (Kd.R_keptB ((Kd.R_apart' HO_432001.out (Kd.R_typed HO_449002.out) (by decide))) hkp (fun k_ hk_ hs_ => Or.elim hs_ (fun e_ => (hk_.1.2) e_) (fun e_ => (hk_.2) e_))) (fun k_ hk_ => ⟨hk_.1.1.1, hk_.1.1.2⟩)); have n1_ := Aside0.mk (Kd.R_mono (ok' := fun k_ => some k_ ≠ (.slice Ao34 t460.length co34 : Value).ownBlock ∧ some k_ ≠ (.slice Ao42 t444.length co42 : Value).ownBlock) (Kd.R_keptB ((Kd.R_apart' HO_432002.out (Kd.R_typed HO_449001.out) (by decide))) hkp (fun k_ hk_ hs_ => Or.elim hs_ (fun e_ => (hk_.2) e_) (fun e_ => (hk_.1.2) e_))) (fun k_ hk_ => ⟨hk_.1.1.1, hk_.1.1.2⟩)); have n2_ := Aside0.mk (Kd.R_mono (ok' := fun k_ => some k_ ≠ (.slice Ao25 t424.length co25 : Value).ownBlock ∧ some k_ ≠ (.slice Ao41 t441.length co41 : Value).ownBlock) (Kd.R_keptB ((Kd.R_apart' HO_440001.out (Kd.R_typed HO_449002.out) (by decide))) hkp (fun k_ hk_ hs_ => Or.elim hs_ (fun e_ => (hk_.1.2) e_) (fun e_ => (hk_.2) e_))) (fun k_ hk_ => ⟨hk_.1.1.1, hk_.1.1.2⟩)); have n3_ := Aside0.mk (Kd.R_mono (ok' := fun k_ => some k_ ≠ (.slice Ao26 t427.length co26 : Value).ownBlock ∧ some k_ ≠ (.slice Ao42 t444.length co42 : Value).ownBlock) (Kd.R_keptB ((Kd.R_apart' HO_440002.out (Kd.R_typed HO_449001.out) (by decide))) hkp (fun k_ hk_ hs_ => Or.elim hs_ (fun e_ => (hk_.2) e_) (fun e_ => (hk_.1.2) e_))) (fun k_ hk_ => ⟨hk_.1.1.1, hk_.1.1.2⟩)); have n4_ := Aside0.mk (Kd.R_reok rfl hy0 (fun k_ e_ => HO_449001.out.1 k_ e_)); have n5_ := Aside0.mk (Kd.R_reok rfl hy1 (fun k_ e_ => HO_449002.out.1 k_ e_)); have n6_ := Aside0.mk (blk_kept (by (with_reducible repeat (first | refine blk_drewN ?_ _ | refine blk_drew ?_ | refine blk_alloc ?_ _)); exact BK414.out) hkp (fun hs_ => Or.elim hs_ (fun e_ => (fun e_ => (Kd.R_ne HO_449001.out BK414.out (by decide)) e_) e_) (fun e_ => (fun e_ => (Kd.R_ne HO_449002.out BK414.out (by decide)) e_) e_))); have n7_ := Aside0.mk (blk_kept (by (with_reducible repeat (first | refine blk_drewN ?_ _ | refine blk_drew ?_ | refine blk_alloc ?_ _)); exact BK431.out) hkp (fun hs_ => Or.elim hs_ (fun e_ => (fun e_ => (Kd.R_ne HO_449001.out BK431.out (by decide)) e_) e_) (fun e_ => (fun e_ => (Kd.R_ne HO_449002.out BK431.out (by decide)) e_) e_))); have n8_ := Aside0.mk (blk_kept (by (with_reducible repeat (first | refine blk_drewN ?_ _ | refine blk_drew ?_ | refine blk_alloc ?_ _)); exact BK439.out) hkp (fun hs_ => Or.elim hs_ (fun e_ => (fun e_ => (Kd.R_ne HO_449001.out BK439.out (by decide)) e_) e_) (fun e_ => (fun e_ => (Kd.R_ne HO_449002.out BK439.out (by decide)) e_) e_))); have n9_ := Aside0.mk (blk_kept (by (with_reducible repeat (first | refine blk_drewN ?_ _ | refine blk_drew ?_ | refine blk_alloc ?_ _)); exact BK448.out) hkp (fun hs_ => Or.elim hs_ (fun e_ => (fun e_ => (Kd.R_ne HO_449001.out BK448.out (by decide)) e_) e_) (fun e_ => (fun e_ => (Kd.R_ne HO_449002.out BK448.out (by decide)) e_) e_))); have n10_ := Aside0.mk (hb); clear HO_432001; clear HO_432002; clear HO_440001; clear HO_440002; clear HO_449001; clear HO_449002; clear BK414; clear BK431; clear BK439; clear BK448; clear HB; have HO_432001 := n0_; have HO_432002 := n1_; have HO_440001 := n2_; have HO_440002 := n3_; have HO_449001 := n4_; have HO_449002 := n5_; have BK414 := n6_; have BK431 := n7_; have BK439 := n8_; have BK448 := n9_; have HB := n10_; clear n0_ n1_ n2_ n3_ n4_ n5_ n6_ n7_ n8_ n9_ n10_; (try clear hb); (try clear hkp); (try clear hy0); (try clear hy1); have hcz109_0 : w108.cell? ⟨gb448, 0, none⟩ = some (.int .i64 t440) := (blk_cell BK448.out 0).trans rfl; have hcz109_1 : w108.cell? ⟨gb448, 1, none⟩ = some (.slice Ao41 t441.length co41) := (blk_cell BK448.out 1).trans rfl; have hcz109_2 : w108.cell? ⟨gb448, 2, none⟩ = some (.slice Ao42 t444.length co42) := (blk_cell BK448.out 2).trans rfl; have hfz109_0 := blk_frozen BK448.out 0; have hfz109_1 := blk_frozen BK448.out 1; have hfz109_2 := blk_frozen BK448.out 2) | ((with_reducible refine gate_callee (f := 26) rfl ?_); refine goesL_ (some 75) rfl rfl Try.func26 (by kernel_rfl) rfl #[.agg #[.int .i64 t440, .slice Ao41 t463.length co41, .slice Ao42 t464.length co42], .int .i64 1] rfl (by (try simp only [List.map_toArray, List.map_cons, List.map_nil]); first | done | (rw [show t463.length = t441.length from (Kd.R_reads' HO_449001.out).1.symm, show t464.length = t444.length from (Kd.R_reads' HO_449002.out).1.symm] <;> rfl) | rfl | (simp only [List.length_drop, List.length_take]; rfl)) ?_; (with_reducible refine (laws_heldColumn.calls kj65 t440 _ _ t463 _ _ t464 1 t465 _ ?side1 ?side2 ?side3 ?side4 A98.out).mono ?_); (case side1 => repeat (first | exact (Kd.R_reads' HO_449001.out).2.2 | (with_reducible refine Kd.C_alloc ?_ _) | (with_reducible refine Kd.C_drewN ?_ _) | (with_reducible refine Kd.C_drew ?_))); (case side2 => rw [show t463.length = t441.length from (Kd.R_reads' HO_449001.out).1.symm]; exact (Kd.R_reads' HO_449001.out).2.1); (case side3 => repeat (first | exact (Kd.R_reads' HO_449002.out).2.2 | (with_reducible refine Kd.C_alloc ?_ _) | (with_reducible refine Kd.C_drewN ?_ _) | (with_reducible refine Kd.C_drew ?_))); (case side4 => rw [show t464.length = t444.length from (Kd.R_reads' HO_449002.out).1.symm]; exact (Kd.R_reads' HO_449002.out).2.1); rintro e w110 ⟨rfl, hb⟩; refine ⟨_, rfl, ?_⟩; have n0_ := Aside0.mk (Kd.R_below (by (with_reducible repeat (first | apply Kd.R_alloc | apply Kd.R_drewN | apply Kd.R_drew)); exact HO_432001.out) hb); have n1_ := Aside0.mk (Kd.R_below (by (with_reducible repeat (first | apply Kd.R_alloc | apply Kd.R_drewN | apply Kd.R_drew)); exact HO_432002.out) hb); have n2_ := Aside0.mk (Kd.R_below (by (with_reducible repeat (first | apply Kd.R_alloc | apply Kd.R_drewN | apply Kd.R_drew)); exact HO_440001.out) hb); have n3_ := Aside0.mk (Kd.R_below (by (with_reducible repeat (first | apply Kd.R_alloc | apply Kd.R_drewN | apply Kd.R_drew)); exact HO_440002.out) hb); have n4_ := Aside0.mk (Kd.R_below (by (with_reducible repeat (first | apply Kd.R_alloc | apply Kd.R_drewN | apply Kd.R_drew)); exact HO_449001.out) hb); have n5_ := Aside0.mk (Kd.R_below (by (with_reducible repeat (first | apply Kd.R_alloc | apply Kd.R_drewN | apply Kd.R_drew)); exact HO_449002.out) hb); have n6_ := Aside0.mk (blk_below (g := gb414) (o := .cells #[.int .i64 a0_0, .slice A0_1 l0_1.length c0_1, .slice A0_2 l0_2.length c0_2] 25 (0, 0)) (by (with_reducible repeat (first | refine blk_drewN ?_ _ | refine blk_drew ?_ | refine blk_alloc ?_ _)); exact BK414.out) hb); have n7_ := Aside0.mk (blk_below (g := gb431) (o := .cells #[.int .i64 t423, .slice Ao25 t424.length co25, .slice Ao26 t427.length co26] 30 (0, 0)) (by (with_reducible repeat (first | refine blk_drewN ?_ _ | refine blk_drew ?_ | refine blk_alloc ?_ _)); exact BK431.out) hb); have n8_ := Aside0.mk (blk_below (g := gb439) (o := .cells #[.int .i64 t432, .slice Ao33 t459.length co33, .slice Ao34 t460.length co34] 30 (0, 0)) (by (with_reducible repeat (first | refine blk_drewN ?_ _ | refine blk_drew ?_ | refine blk_alloc ?_ _)); exact BK439.out) hb); have n9_ := Aside0.mk (blk_below (g := gb448) (o := .cells #[.int .i64 t440, .slice Ao41 t441.length co41, .slice Ao42 t444.length co42] 30 (0, 0)) (by (with_reducible repeat (first | refine blk_drewN ?_ _ | refine blk_drew ?_ | refine blk_alloc ?_ _)); exact BK448.out) hb); have n10_ := Aside0.mk (below_step (by repeat (first | (with_reducible first | exact HB.out | apply below_alloc | apply pw_below_drewN | apply below_drew1 | refine below_set ?_ GE414.out | refine below_set ?_ GE431.out | refine below_set ?_ GE439.out | refine below_set ?_ GE448.out) | exact HB.out)) hb); clear HO_432001; clear HO_432002; clear HO_440001; clear HO_440002; clear HO_449001; clear HO_449002; clear BK414; clear BK431; clear BK439; clear BK448; clear HB; have HO_432001 := n0_; have HO_432002 := n1_; have HO_440001 := n2_; have HO_440002 := n3_; have HO_449001 := n4_; have HO_449002 := n5_; have BK414 := n6_; have BK431 := n7_; have BK439 := n8_; have BK448 := n9_; have HB := n10_; clear n0_ n1_ n2_ n3_ n4_ n5_ n6_ n7_ n8_ n9_ n10_; (try clear hb); (try clear hb2); (try clear hk); (try clear hi); have hnb111 := NB414_431.out; have hnc111 := NB431_414.out; have hnb112 := NB414_439.out; have hnc112 := NB439_414.out; have hcz113_0 : w110.cell? ⟨gb414, 0, none⟩ = some (.int .i64 a0_0) := (blk_cell BK414.out 0).trans rfl; have hcz113_1 : w110.cell? ⟨gb414, 1, none⟩ = some (.slice A0_1 l0_1.length c0_1) := (blk_cell BK414.out 1).trans rfl; have hcz113_2 : w110.cell? ⟨gb414, 2, none⟩ = some (.slice A0_2 l0_2.length c0_2) := (blk_cell BK414.out 2).trans rfl; have hfz113_0 := blk_frozen BK414.out 0; have hfz113_1 := blk_frozen BK414.out 1; have hfz113_2 := blk_frozen BK414.out 2) | ((with_reducible refine gate_callee (f := 17) rfl ?_); refine goesL_ (some 83) rfl rfl Try.func17 (by kernel_rfl) rfl #[.agg #[.int .i64 a0_0, .slice A0_1 l0_1.length c0_1, .slice A0_2 l0_2.length c0_2]] rfl (by (try simp only [List.map_toArray, List.map_cons, List.map_nil]); first | done | rfl | (simp only [List.length_drop, List.length_take]; rfl)) ?_; (with_reducible refine (laws_toColumn.calls kj65 a0_0 _ _ l0_1 _ _ l0_2 t466 t467 t470 _ ?side1 ?side2 ?side3 ?side4 A101.out).mono ?_); (case side1 => repeat (first | exact (Kd.C_below HR0_1.out HB.out) | (with_reducible refine Kd.C_alloc ?_ _) | (with_reducible refine Kd.C_drewN ?_ _) | (with_reducible refine Kd.C_drew ?_))); (case side2 => exact HC0_1.out); (case side3 => repeat (first | exact (Kd.C_below HR0_2.out HB.out) | (with_reducible refine Kd.C_alloc ?_ _) | (with_reducible refine Kd.C_drewN ?_ _) | (with_reducible refine Kd.C_drew ?_))); (case side4 => exact HC0_2.out); rintro e w114 ⟨v468, v471, rfl, ho0, ho1, hb⟩; refine ⟨_, rfl, ?_⟩; have n0_ := Aside0.mk (Kd.R_elder' (by (with_reducible repeat (first | apply Kd.R_alloc | apply Kd.R_drewN | apply Kd.R_drew)); exact HO_432001.out) (Kd.R_base ho0) hb); have n1_ := Aside0.mk (Kd.R_elder' (by (with_reducible repeat (first | apply Kd.R_alloc | apply Kd.R_drewN | apply Kd.R_drew)); exact HO_432002.out) (Kd.R_base ho1) hb); have n2_ := Aside0.mk (Kd.R_elder' (by (with_reducible repeat (first | apply Kd.R_alloc | apply Kd.R_drewN | apply Kd.R_drew)); exact HO_440001.out) (Kd.R_base ho0) hb); have n3_ := Aside0.mk (Kd.R_elder' (by (with_reducible repeat (first | apply Kd.R_alloc | apply Kd.R_drewN | apply Kd.R_drew)); exact HO_440002.out) (Kd.R_base ho1) hb); have n4_ := Aside0.mk (Kd.R_elder' (by (with_reducible repeat (first | apply Kd.R_alloc | apply Kd.R_drewN | apply Kd.R_drew)); exact HO_449001.out) (Kd.R_base ho0) hb); have n5_ := Aside0.mk (Kd.R_elder' (by (with_reducible repeat (first | apply Kd.R_alloc | apply Kd.R_drewN | apply Kd.R_drew)); exact HO_449002.out) (Kd.R_base ho1) hb); have n6_ := Aside0.mk (Kd.R_lower (Kd.R_new' (Kd.R_new' (Kd.R_new' ho0 (Kd.R_lt (by (with_reducible repeat (first | apply Kd.R_alloc | apply Kd.R_drewN | apply Kd.R_drew)); exact HO_432001.out))) (Kd.R_lt (by (with_reducible repeat (first | apply Kd.R_alloc | apply Kd.R_drewN | apply Kd.R_drew)); exact HO_440001.out))) (Kd.R_lt (by (with_reducible repeat (first | apply Kd.R_alloc | apply Kd.R_drewN | apply Kd.R_drew)); exact HO_449001.out))) (below_size (by repeat (first | (with_reducible first | exact HB.out | apply below_alloc | apply pw_below_drewN | apply below_drew1 | refine below_set ?_ GE414.out | refine below_set ?_ GE431.out | refine below_set ?_ GE439.out | refine below_set ?_ GE448.out) | exact HB.out)))); have n7_ := Aside0.mk (Kd.R_lower (Kd.R_new' (Kd.R_new' (Kd.R_new' ho1 (Kd.R_lt (by (with_reducible repeat (first | apply Kd.R_alloc | apply Kd.R_drewN | apply Kd.R_drew)); exact HO_432002.out))) (Kd.R_lt (by (with_reducible repeat (first | apply Kd.R_alloc | apply Kd.R_drewN | apply Kd.R_drew)); exact HO_440002.out))) (Kd.R_lt (by (with_reducible repeat (first | apply Kd.R_alloc | apply Kd.R_drewN | apply Kd.R_drew)); exact HO_449002.out))) (below_size (by repeat (first | (with_reducible first | exact HB.out | apply below_alloc | apply pw_below_drewN | apply below_drew1 | refine below_set ?_ GE414.out | refine below_set ?_ GE431.out | refine below_set ?_ GE439.out | refine below_set ?_ GE448.out) | exact HB.out)))); have n8_ := Aside0.mk (blk_below (g := gb414) (o := .cells #[.int .i64 a0_0, .slice A0_1 l0_1.length c0_1, .slice A0_2 l0_2.length c0_2] 25 (0, 0)) (by (with_reducible repeat (first | refine blk_drewN ?_ _ | refine blk_drew ?_ | refine blk_alloc ?_ _)); exact BK414.out) hb); have n9_ := Aside0.mk (blk_below (g := gb431) (o := .cells #[.int .i64 t423, .slice Ao25 t424.length co25, .slice Ao26 t427.length co26] 30 (0, 0)) (by (with_reducible repeat (first | refine blk_drewN ?_ _ | refine blk_drew ?_ | refine blk_alloc ?_ _)); exact BK431.out) hb); have n10_ := Aside0.mk (blk_below (g := gb439) (o := .cells #[.int .i64 t432, .slice Ao33 t459.length co33, .slice Ao34 t460.length co34] 30 (0, 0)) (by (with_reducible repeat (first | refine blk_drewN ?_ _ | refine blk_drew ?_ | refine blk_alloc ?_ _)); exact BK439.out) hb); have n11_ := Aside0.mk (blk_below (g := gb448) (o := .cells #[.int .i64 t440, .slice Ao41 t441.length co41, .slice Ao42 t444.length co42] 30 (0, 0)) (by (with_reducible repeat (first | refine blk_drewN ?_ _ | refine blk_drew ?_ | refine blk_alloc ?_ _)); exact BK448.out) hb); have n12_ := Aside0.mk (below_step (by repeat (first | (with_reducible first | exact HB.out | apply below_alloc | apply pw_below_drewN | apply below_drew1 | refine below_set ?_ GE414.out | refine below_set ?_ GE431.out | refine below_set ?_ GE439.out | refine below_set ?_ GE448.out) | exact HB.out)) hb); clear HO_432001; clear HO_432002; clear HO_440001; clear HO_440002; clear HO_449001; clear HO_449002; clear BK414; clear BK431; clear BK439; clear BK448; clear HB; have HO_432001 := n0_; have HO_432002 := n1_; have HO_440001 := n2_; have HO_440002 := n3_; have HO_449001 := n4_; have HO_449002 := n5_; have HO469 := n6_; have HO472 := n7_; have BK414 := n8_; have BK431 := n9_; have BK439 := n10_; have BK448 := n11_; have HB := n12_; clear n0_ n1_ n2_ n3_ n4_ n5_ n6_ n7_ n8_ n9_ n10_ n11_ n12_; (try clear hb); (try clear hb2); (try clear hk); (try clear hi); (try clear ho0); (try clear ho1); obtain ⟨Ao115, co115, eo115⟩ := Kd.R_slice HO469.out; subst eo115; obtain ⟨Ao116, co116, eo116⟩ := Kd.R_slice HO472.out; subst eo116) | ((with_reducible refine gate_callee (f := 35) rfl ?_); refine goesL_ (some 86) rfl rfl Try.func35 (by kernel_rfl) rfl #[.agg #[.int .i64 t466, .slice Ao115 t467.length co115, .slice Ao116 t470.length co116], .int .i64 a1, .bool a2] rfl (by (try simp only [List.map_toArray, List.map_cons, List.map_nil]); first | done | rfl | (simp only [List.length_drop, List.length_take]; rfl)) ?_; (with_reducible refine (impl_SetJam.calls kj65 t466 _ _ t467 _ _ t470 a1 a2 t473 t474 t477 t480 _ ?side1 ?side2 ?side3 ?side4 A102.out).mono ?_); (case side1 => repeat (first | exact (Kd.R_reads' HO469.out).2.2 | (with_reducible refine Kd.C_alloc ?_ _) | (with_reducible refine Kd.C_drewN ?_ _) | (with_reducible refine Kd.C_drew ?_))); (case side2 => exact (Kd.R_reads' HO469.out).2.1); (case side3 => repeat (first | exact (Kd.R_reads' HO472.out).2.2 | (with_reducible refine Kd.C_alloc ?_ _) | (with_reducible refine Kd.C_drewN ?_ _) | (with_reducible refine Kd.C_drew ?_))); (case side4 => exact (Kd.R_reads' HO472.out).2.1); rintro e w117 ⟨v475, v478, rfl, ho0, ho1, hb⟩; refine ⟨_, rfl, ?_⟩; have n0_ := Aside0.mk (Kd.R_elder' (by (with_reducible repeat (first | apply Kd.R_alloc | apply Kd.R_drewN | apply Kd.R_drew)); exact HO_432001.out) (Kd.R_base ho0) hb); have n1_ := Aside0.mk (Kd.R_elder' (by (with_reducible repeat (first | apply Kd.R_alloc | apply Kd.R_drewN | apply Kd.R_drew)); exact HO_432002.out) (Kd.R_base ho1) hb); have n2_ := Aside0.mk (Kd.R_elder' (by (with_reducible repeat (first | apply Kd.R_alloc | apply Kd.R_drewN | apply Kd.R_drew)); exact HO_440001.out) (Kd.R_base ho0) hb); have n3_ := Aside0.mk (Kd.R_elder' (by (with_reducible repeat (first | apply Kd.R_alloc | apply Kd.R_drewN | apply Kd.R_drew)); exact HO_440002.out) (Kd.R_base ho1) hb); have n4_ := Aside0.mk (Kd.R_elder' (by (with_reducible repeat (first | apply Kd.R_alloc | apply Kd.R_drewN | apply Kd.R_drew)); exact HO_449001.out) (Kd.R_base ho0) hb); have n5_ := Aside0.mk (Kd.R_elder' (by (with_reducible repeat (first | apply Kd.R_alloc | apply Kd.R_drewN | apply Kd.R_drew)); exact HO_449002.out) (Kd.R_base ho1) hb); have n6_ := Aside0.mk (Kd.R_elder' (by (with_reducible repeat (first | apply Kd.R_alloc | apply Kd.R_drewN | apply Kd.R_drew)); exact HO469.out) (Kd.R_base ho0) hb); have n7_ := Aside0.mk (Kd.R_elder' (by (with_reducible repeat (first | apply Kd.R_alloc | apply Kd.R_drewN | apply Kd.R_drew)); exact HO472.out) (Kd.R_base ho1) hb); have n8_ := Aside0.mk (Kd.R_lower (Kd.R_new' (Kd.R_new' (Kd.R_new' (Kd.R_new' ho0 (Kd.R_lt (by (with_reducible repeat (first | apply Kd.R_alloc | apply Kd.R_drewN | apply Kd.R_drew)); exact HO_432001.out))) (Kd.R_lt (by (with_reducible repeat (first | apply Kd.R_alloc | apply Kd.R_drewN | apply Kd.R_drew)); exact HO_440001.out))) (Kd.R_lt (by (with_reducible repeat (first | apply Kd.R_alloc | apply Kd.R_drewN | apply Kd.R_drew)); exact HO_449001.out))) (Kd.R_lt (by (with_reducible repeat (first | apply Kd.R_alloc | apply Kd.R_drewN | apply Kd.R_drew)); exact HO469.out))) (below_size (by repeat (first | (with_reducible first | exact HB.out | apply below_alloc | apply pw_below_drewN | apply below_drew1 | refine below_set ?_ GE414.out | refine below_set ?_ GE431.out | refine below_set ?_ GE439.out | refine below_set ?_ GE448.out) | exact HB.out)))); have n9_ := Aside0.mk (Kd.R_lower (Kd.R_new' (Kd.R_new' (Kd.R_new' (Kd.R_new' ho1 (Kd.R_lt (by (with_reducible repeat (first | apply Kd.R_alloc | apply Kd.R_drewN | apply Kd.R_drew)); exact HO_432002.out))) (Kd.R_lt (by (with_reducible repeat (first | apply Kd.R_alloc | apply Kd.R_drewN | apply Kd.R_drew)); exact HO_440002.out))) (Kd.R_lt (by (with_reducible repeat (first | apply Kd.R_alloc | apply Kd.R_drewN | apply Kd.R_drew)); exact HO_449002.out))) (Kd.R_lt (by (with_reducible repeat (first | apply Kd.R_alloc | apply Kd.R_drewN | apply Kd.R_drew)); exact HO472.out))) (below_size (by repeat (first | (with_reducible first | exact HB.out | apply below_alloc | apply pw_below_drewN | apply below_drew1 | refine below_set ?_ GE414.out | refine below_set ?_ GE431.out | refine below_set ?_ GE439.out | refine below_set ?_ GE448.out) | exact HB.out)))); have n10_ := Aside0.mk (blk_below (g := gb414) (o := .cells #[.int .i64 a0_0, .slice A0_1 l0_1.length c0_1, .slice A0_2 l0_2.length c0_2] 25 (0, 0)) (by (with_reducible repeat (first | refine blk_drewN ?_ _ | refine blk_drew ?_ | refine blk_alloc ?_ _)); exact BK414.out) hb); have n11_ := Aside0.mk (blk_below (g := gb431) (o := .cells #[.int .i64 t423, .slice Ao25 t424.length co25, .slice Ao26 t427.length co26] 30 (0, 0)) (by (with_reducible repeat (first | refine blk_drewN ?_ _ | refine blk_drew ?_ | refine blk_alloc ?_ _)); exact BK431.out) hb); have n12_ := Aside0.mk (blk_below (g := gb439) (o := .cells #[.int .i64 t432, .slice Ao33 t459.length co33, .slice Ao34 t460.length co34] 30 (0, 0)) (by (with_reducible repeat (first | refine blk_drewN ?_ _ | refine blk_drew ?_ | refine blk_alloc ?_ _)); exact BK439.out) hb); have n13_ := Aside0.mk (blk_below (g := gb448) (o := .cells #[.int .i64 t440, .slice Ao41 t441.length co41, .slice Ao42 t444.length co42] 30 (0, 0)) (by (with_reducible repeat (first | refine blk_drewN ?_ _ | refine blk_drew ?_ | refine blk_alloc ?_ _)); exact BK448.out) hb); have n14_ := Aside0.mk (below_step (by repeat (first | (with_reducible first | exact HB.out | apply below_alloc | apply pw_below_drewN | apply below_drew1 | refine below_set ?_ GE414.out | refine below_set ?_ GE431.out | refine below_set ?_ GE439.out | refine below_set ?_ GE448.out) | exact HB.out)) hb); clear HO_432001; clear HO_432002; clear HO_440001; clear HO_440002; clear HO_449001; clear HO_449002; clear HO469; clear HO472; clear BK414; clear BK431; clear BK439; clear BK448; clear HB; have HO_432001 := n0_; have HO_432002 := n1_; have HO_440001 := n2_; have HO_440002 := n3_; have HO_449001 := n4_; have HO_449002 := n5_; have HO469 := n6_; have HO472 := n7_; have HO476 := n8_; have HO479 := n9_; have BK414 := n10_; have BK431 := n11_; have BK439 := n12_; have BK448 := n13_; have HB := n14_; clear n0_ n1_ n2_ n3_ n4_ n5_ n6_ n7_ n8_ n9_ n10_ n11_ n12_ n13_ n14_; (try clear hb); (try clear hb2); (try clear hk); (try clear hi); (try clear ho0); (try clear ho1)) | ((with_reducible refine gate_dst (N := 16) rfl ?_); refine box_event ?hg (N := 16) ?hd (cs := #[.int .i64 0, .slice none 0 0, .slice none 0 0]) (t := 30) ?hr ?_; (case hd => rfl); (case hg => rfl); (case hr => first | (go_simp; done) | (go_simp; rfl)); intro gb481 hg w118 hbox hb; have n0_ := Aside0.mk (Kd.R_below (by (with_reducible repeat (first | apply Kd.R_alloc | apply Kd.R_drewN | apply Kd.R_drew)); exact HO_432001.out) hb); have n1_ := Aside0.mk (Kd.R_below (by (with_reducible repeat (first | apply Kd.R_alloc | apply Kd.R_drewN | apply Kd.R_drew)); exact HO_432002.out) hb); have n2_ := Aside0.mk (Kd.R_below (by (with_reducible repeat (first | apply Kd.R_alloc | apply Kd.R_drewN | apply Kd.R_drew)); exact HO_440001.out) hb); have n3_ := Aside0.mk (Kd.R_below (by (with_reducible repeat (first | apply Kd.R_alloc | apply Kd.R_drewN | apply Kd.R_drew)); exact HO_440002.out) hb); have n4_ := Aside0.mk (Kd.R_below (by (with_reducible repeat (first | apply Kd.R_alloc | apply Kd.R_drewN | apply Kd.R_drew)); exact HO_449001.out) hb); have n5_ := Aside0.mk (Kd.R_below (by (with_reducible repeat (first | apply Kd.R_alloc | apply Kd.R_drewN | apply Kd.R_drew)); exact HO_449002.out) hb); have n6_ := Aside0.mk (Kd.R_below (by (with_reducible repeat (first | apply Kd.R_alloc | apply Kd.R_drewN | apply Kd.R_drew)); exact HO469.out) hb); have n7_ := Aside0.mk (Kd.R_below (by (with_reducible repeat (first | apply Kd.R_alloc | apply Kd.R_drewN | apply Kd.R_drew)); exact HO472.out) hb); have n8_ := Aside0.mk (Kd.R_below (by (with_reducible repeat (first | apply Kd.R_alloc | apply Kd.R_drewN | apply Kd.R_drew)); exact HO476.out) hb); have n9_ := Aside0.mk (Kd.R_below (by (with_reducible repeat (first | apply Kd.R_alloc | apply Kd.R_drewN | apply Kd.R_drew)); exact HO479.out) hb); have n10_ := Aside0.mk (blk_below (g := gb414) (o := .cells #[.int .i64 a0_0, .slice A0_1 l0_1.length c0_1, .slice A0_2 l0_2.length c0_2] 25 (0, 0)) (by (with_reducible repeat (first | refine blk_drewN ?_ _ | refine blk_drew ?_ | refine blk_alloc ?_ _)); exact BK414.out) hb); have n11_ := Aside0.mk (blk_below (g := gb431) (o := .cells #[.int .i64 t423, .slice Ao25 t424.length co25, .slice Ao26 t427.length co26] 30 (0, 0)) (by (with_reducible repeat (first | refine blk_drewN ?_ _ | refine blk_drew ?_ | refine blk_alloc ?_ _)); exact BK431.out) hb); have n12_ := Aside0.mk (blk_below (g := gb439) (o := .cells #[.int .i64 t432, .slice Ao33 t459.length co33, .slice Ao34 t460.length co34] 30 (0, 0)) (by (with_reducible repeat (first | refine blk_drewN ?_ _ | refine blk_drew ?_ | refine blk_alloc ?_ _)); exact BK439.out) hb); have n13_ := Aside0.mk (blk_below (g := gb448) (o := .cells #[.int .i64 t440, .slice Ao41 t441.length co41, .slice Ao42 t444.length co42] 30 (0, 0)) (by (with_reducible repeat (first | refine blk_drewN ?_ _ | refine blk_drew ?_ | refine blk_alloc ?_ _)); exact BK448.out) hb); have n14_ := Aside0.mk (below_step (by repeat (first | (with_reducible first | exact HB.out | apply below_alloc | apply pw_below_drewN | apply below_drew1 | refine below_set ?_ GE414.out | refine below_set ?_ GE431.out | refine below_set ?_ GE439.out | refine below_set ?_ GE448.out) | exact HB.out)) hb); have n15_ := Aside0.mk (hbox); have n16_ := Aside0.mk ((by rw [hg]; exact (below_size (by repeat (first | (with_reducible first | exact HB.out | apply below_alloc | apply pw_below_drewN | apply below_drew1 | refine below_set ?_ GE414.out | refine below_set ?_ GE431.out | refine below_set ?_ GE439.out | refine below_set ?_ GE448.out) | exact HB.out))) : w.heap.size ≤ gb481)); have n17_ := Aside0.mk ((by rw [hg]; exact (below_size (by repeat (first | (with_reducible first | exact HB.out | apply below_alloc | apply pw_below_drewN | apply below_drew1 | refine below_set ?_ GE414.out | refine below_set ?_ GE431.out | refine below_set ?_ GE439.out | refine below_set ?_ GE448.out) | exact HB.out))) : w.heap.size ≤ gb481)); have n18_ := Aside0.mk ((by rw [hg]; exact Nat.ne_of_lt (blk_lt (g := gb414) (o := .cells #[.int .i64 a0_0, .slice A0_1 l0_1.length c0_1, .slice A0_2 l0_2.length c0_2] 25 (0, 0)) (by (with_reducible repeat (first | refine blk_drewN ?_ _ | refine blk_drew ?_ | refine blk_alloc ?_ _)); exact BK414.out)) : gb414 ≠ gb481)); have n19_ := Aside0.mk ((by rw [hg]; exact Nat.ne_of_gt (blk_lt (g := gb414) (o := .cells #[.int .i64 a0_0, .slice A0_1 l0_1.length c0_1, .slice A0_2 l0_2.length c0_2] 25 (0, 0)) (by (with_reducible repeat (first | refine blk_drewN ?_ _ | refine blk_drew ?_ | refine blk_alloc ?_ _)); exact BK414.out)) : gb481 ≠ gb414)); have n20_ := Aside0.mk ((by rw [hg]; exact Nat.ne_of_lt (blk_lt (g := gb431) (o := .cells #[.int .i64 t423, .slice Ao25 t424.length co25, .slice Ao26 t427.length co26] 30 (0, 0)) (by (with_reducible repeat (first | refine blk_drewN ?_ _ | refine blk_drew ?_ | refine blk_alloc ?_ _)); exact BK431.out)) : gb431 ≠ gb481)); have n21_ := Aside0.mk ((by rw [hg]; exact Nat.ne_of_gt (blk_lt (g := gb431) (o := .cells #[.int .i64 t423, .slice Ao25 t424.length co25, .slice Ao26 t427.length co26] 30 (0, 0)) (by (with_reducible repeat (first | refine blk_drewN ?_ _ | refine blk_drew ?_ | refine blk_alloc ?_ _)); exact BK431.out)) : gb481 ≠ gb431)); have n22_ := Aside0.mk ((by rw [hg]; exact Nat.ne_of_lt (blk_lt (g := gb439) (o := .cells #[.int .i64 t432, .slice Ao33 t459.length co33, .slice Ao34 t460.length co34] 30 (0, 0)) (by (with_reducible repeat (first | refine blk_drewN ?_ _ | refine blk_drew ?_ | refine blk_alloc ?_ _)); exact BK439.out)) : gb439 ≠ gb481)); have n23_ := Aside0.mk ((by rw [hg]; exact Nat.ne_of_gt (blk_lt (g := gb439) (o := .cells #[.int .i64 t432, .slice Ao33 t459.length co33, .slice Ao34 t460.length co34] 30 (0, 0)) (by (with_reducible repeat (first | refine blk_drewN ?_ _ | refine blk_drew ?_ | refine blk_alloc ?_ _)); exact BK439.out)) : gb481 ≠ gb439)); have n24_ := Aside0.mk ((by rw [hg]; exact Nat.ne_of_lt (blk_lt (g := gb448) (o := .cells #[.int .i64 t440, .slice Ao41 t441.length co41, .slice Ao42 t444.length co42] 30 (0, 0)) (by (with_reducible repeat (first | refine blk_drewN ?_ _ | refine blk_drew ?_ | refine blk_alloc ?_ _)); exact BK448.out)) : gb448 ≠ gb481)); have n25_ := Aside0.mk ((by rw [hg]; exact Nat.ne_of_gt (blk_lt (g := gb448) (o := .cells #[.int .i64 t440, .slice Ao41 t441.length co41, .slice Ao42 t444.length co42] 30 (0, 0)) (by (with_reducible repeat (first | refine blk_drewN ?_ _ | refine blk_drew ?_ | refine blk_alloc ?_ _)); exact BK448.out)) : gb481 ≠ gb448)); clear HO_432001; clear HO_432002; clear HO_440001; clear HO_440002; clear HO_449001; clear HO_449002; clear HO469; clear HO472; clear HO476; clear HO479; clear BK414; clear BK431; clear BK439; clear BK448; clear HB; have HO_432001 := n0_; have HO_432002 := n1_; have HO_440001 := n2_; have HO_440002 := n3_; have HO_449001 := n4_; have HO_449002 := n5_; have HO469 := n6_; have HO472 := n7_; have HO476 := n8_; have HO479 := n9_; have BK414 := n10_; have BK431 := n11_; have BK439 := n12_; have BK448 := n13_; have HB := n14_; have BK481 := n15_; have GW481 := n16_; have GE481 := n17_; have NB414_481 := n18_; have NB481_414 := n19_; have NB431_481 := n20_; have NB481_431 := n21_; have NB439_481 := n22_; have NB481_439 := n23_; have NB448_481 := n24_; have NB481_448 := n25_; clear n0_ n1_ n2_ n3_ n4_ n5_ n6_ n7_ n8_ n9_ n10_ n11_ n12_ n13_ n14_ n15_ n16_ n17_ n18_ n19_ n20_ n21_ n22_ n23_ n24_ n25_; clear hb hbox hg; have hnb119 := NB481_414.out; have hnc119 := NB414_481.out; have hnb120 := NB481_431.out; have hnc120 := NB431_481.out; have hnb121 := NB481_439.out; have hnc121 := NB439_481.out; have hnb122 := NB481_448.out; have hnc122 := NB448_481.out; have hcz123_0 : w118.cell? ⟨gb481, 0, none⟩ = some (.int .i64 0) := (blk_cell BK481.out 0).trans rfl; have hcz123_1 : w118.cell? ⟨gb481, 1, none⟩ = some (.slice none 0 0) := (blk_cell BK481.out 1).trans rfl; have hcz123_2 : w118.cell? ⟨gb481, 2, none⟩ = some (.slice none 0 0) := (blk_cell BK481.out 2).trans rfl; have hfz123_0 := blk_frozen BK481.out 0; have hfz123_1 := blk_frozen BK481.out 1; have hfz123_2 := blk_frozen BK481.out 2; obtain ⟨Ao124, co124, eo124⟩ := Kd.R_slice HO476.out; subst eo124; obtain ⟨Ao125, co125, eo125⟩ := Kd.R_slice HO479.out; subst eo125))
                      (try simp only [Act.put, List.setIfInBounds_toArray, List.set_cons_zero, List.set_cons_succ])
                      go_cut [97] (fun v97 wc => ∃ (kq : Nat) (x97_102 : Bool), v97 = .bool x97_102 ∧ Aside0 (laws_FnExactSetJam.j2 kq t462 x97_102 t440 t463 t464 = some r) ∧ Aside0 (kq ≤ kj65) ∧ Aside0 (Kd.R (Kd.int .i64) 3 wc w.heap.size (fun k_ => some k_ ≠ ((.slice Ao33 t459.length co33) : Value).ownBlock ∧ some k_ ≠ ((.slice Ao41 t441.length co41) : Value).ownBlock ∧ some k_ ≠ ((.slice Ao124 t474.length co124) : Value).ownBlock) (.slice Ao25 t424.length co25) t424) ∧ Aside0 (Kd.R k71 71 wc w.heap.size (fun k_ => some k_ ≠ ((.slice Ao34 t460.length co34) : Value).ownBlock ∧ some k_ ≠ ((.slice Ao42 t444.length co42) : Value).ownBlock ∧ some k_ ≠ ((.slice Ao125 t477.length co125) : Value).ownBlock) (.slice Ao26 t427.length co26) t427) ∧ Aside0 (Kd.R (Kd.int .i64) 3 wc w.heap.size (fun k_ => some k_ ≠ ((.slice Ao25 t424.length co25) : Value).ownBlock ∧ some k_ ≠ ((.slice Ao41 t441.length co41) : Value).ownBlock ∧ some k_ ≠ ((.slice Ao124 t474.length co124) : Value).ownBlock) (.slice Ao33 t459.length co33) t459) ∧ Aside0 (Kd.R k71 71 wc w.heap.size (fun k_ => some k_ ≠ ((.slice Ao26 t427.length co26) : Value).ownBlock ∧ some k_ ≠ ((.slice Ao42 t444.length co42) : Value).ownBlock ∧ some k_ ≠ ((.slice Ao125 t477.length co125) : Value).ownBlock) (.slice Ao34 t460.length co34) t460) ∧ Aside0 (Kd.R (Kd.int .i64) 3 wc w.heap.size (fun k_ => some k_ ≠ ((.slice Ao25 t424.length co25) : Value).ownBlock ∧ some k_ ≠ ((.slice Ao33 t459.length co33) : Value).ownBlock ∧ some k_ ≠ ((.slice Ao124 t474.length co124) : Value).ownBlock) (.slice Ao41 t441.length co41) t463) ∧ Aside0 (Kd.R k71 71 wc w.heap.size (fun k_ => some k_ ≠ ((.slice Ao26 t427.length co26) : Value).ownBlock ∧ some k_ ≠ ((.slice Ao34 t460.length co34) : Value).ownBlock ∧ some k_ ≠ ((.slice Ao125 t477.length co125) : Value).ownBlock) (.slice Ao42 t444.length co42) t464) ∧ Aside0 (Kd.R (Kd.int .i64) 3 wc w.heap.size (fun k_ => some k_ ≠ ((.slice Ao25 t424.length co25) : Value).ownBlock ∧ some k_ ≠ ((.slice Ao33 t459.length co33) : Value).ownBlock ∧ some k_ ≠ ((.slice Ao41 t441.length co41) : Value).ownBlock) (.slice Ao124 t474.length co124) t474) ∧ Aside0 (Kd.R k71 71 wc w.heap.size (fun k_ => some k_ ≠ ((.slice Ao26 t427.length co26) : Value).ownBlock ∧ some k_ ≠ ((.slice Ao34 t460.length co34) : Value).ownBlock ∧ some k_ ≠ ((.slice Ao42 t444.length co42) : Value).ownBlock) (.slice Ao125 t477.length co125) t477) ∧ Aside0 (wc.heap[gb414]? = some (.cells #[.int .i64 a0_0, (.slice A0_1 l0_1.length c0_1), (.slice A0_2 l0_2.length c0_2)] 25 (0, 0))) ∧ Aside0 (wc.heap[gb431]? = some (.cells #[.int .i64 t423, (.slice Ao25 t424.length co25), (.slice Ao26 t427.length co26)] 30 (0, 0))) ∧ Aside0 (wc.heap[gb439]? = some (.cells #[.int .i64 t432, (.slice Ao33 t459.length co33), (.slice Ao34 t460.length co34)] 30 (0, 0))) ∧ Aside0 (wc.heap[gb448]? = some (.cells #[.int .i64 t440, (.slice Ao41 t441.length co41), (.slice Ao42 t444.length co42)] 30 (0, 0))) ∧ Aside0 (wc.heap[gb481]? = some (.cells #[.int .i64 t473, (.slice Ao124 t474.length co124), (.slice Ao125 t477.length co125)] 30 (0, 0))) ∧ Aside0 (Below w.heap.size w wc))
                      case first =>
                        have H := HC103.out
                        clear HC103
                        replace H := Option.bind_eq_some_iff.mp H
                        obtain ⟨t482, A1260, H⟩ := H
                        replace H : (if t482 = true then (laws_FnExactSetJam.j2 kj65 t462 (t480 != t430) t440 t463 t464) else (laws_FnExactSetJam.j2 kj65 t462 true t440 t463 t464)) = some r := H
                        have A126 := Aside0.mk A1260
                        clear A1260
                        by_cases c127 : t482 = true
                        · subst c127
                          have H1 : (laws_FnExactSetJam.j2 kj65 t462 (t480 != t430) t440 t463 t464) = some r := by rw [if_pos rfl] at H; exact H
                          clear H
                          have H := H1
                          clear H1
                          have H' := Aside0.mk H
                          clear H
                          have hnb128 := NB481_414.out
                          have hnc128 := NB414_481.out
                          have hnb129 := NB481_431.out
                          have hnc129 := NB431_481.out
                          have hnb130 := NB481_439.out
                          have hnc130 := NB439_481.out
                          have hnb131 := NB481_448.out
                          have hnc131 := NB448_481.out
                          have hcz132_0 : w118.cell? ⟨gb481, 0, none⟩ = some (.int .i64 0) := (blk_cell BK481.out 0).trans rfl
                          have hcz132_1 : w118.cell? ⟨gb481, 1, none⟩ = some (.slice none 0 0) := (blk_cell BK481.out 1).trans rfl
                          have hcz132_2 : w118.cell? ⟨gb481, 2, none⟩ = some (.slice none 0 0) := (blk_cell BK481.out 2).trans rfl
                          have hfz132_0 := blk_frozen BK481.out 0
                          have hfz132_1 := blk_frozen BK481.out 1
                          have hfz132_2 := blk_frozen BK481.out 2
                          have hnb133 := NB431_414.out
                          have hnc133 := NB414_431.out
                          have hnb134 := NB431_439.out
                          have hnc134 := NB439_431.out
                          have hnb135 := NB431_448.out
                          have hnc135 := NB448_431.out
                          have hcz136_0 : w118.cell? ⟨gb431, 0, none⟩ = some (.int .i64 t423) := (blk_cell BK431.out 0).trans rfl
                          have hcz136_1 : w118.cell? ⟨gb431, 1, none⟩ = some (.slice Ao25 t424.length co25) := (blk_cell BK431.out 1).trans rfl
                          have hcz136_2 : w118.cell? ⟨gb431, 2, none⟩ = some (.slice Ao26 t427.length co26) := (blk_cell BK431.out 2).trans rfl
                          have hfz136_0 := blk_frozen BK431.out 0
                          have hfz136_1 := blk_frozen BK431.out 1
                          have hfz136_2 := blk_frozen BK431.out 2
                          go_wp2_with (first | ((with_reducible refine gate_callee (f := 19) rfl ?_); refine goesL_ (some 91) rfl rfl Try.func19 (by kernel_rfl) rfl #[.agg #[.int .i64 t473, .slice Ao124 t474.length co124, .slice Ao125 t477.length co125], .agg #[.int .i64 t423, .slice Ao25 t424.length co25, .slice Ao26 t427.length co26]] rfl (by (try simp only [List.map_toArray, List.map_cons, List.map_nil]); first | done | rfl | (simp only [List.length_drop, List.length_take]; rfl)) ?_; (with_reducible refine (laws_eqColumn.calls kj65 t473 _ _ t474 _ _ t477 t423 _ _ t424 _ _ t427 true _ ?side1 ?side2 ?side3 ?side4 ?side5 ?side6 ?side7 ?side8 A126.out).mono ?_); (case side1 => refine (Kd.R_reads' (e := 3) (base := w.heap.size) (ok := fun k_ => ((((True ∧ some k_ ≠ (.slice Ao25 t424.length co25 : Value).ownBlock) ∧ some k_ ≠ (.slice Ao33 t459.length co33 : Value).ownBlock) ∧ some k_ ≠ (.slice Ao41 t441.length co41 : Value).ownBlock) ∧ some k_ ≠ (.slice Ao115 t467.length co115 : Value).ownBlock)) (n := t474.length) (c := co124) ?_).2.2; exact (by (with_reducible repeat (first | apply Kd.R_alloc | apply Kd.R_drewN | apply Kd.R_drew)); exact (Kd.R_mono (Kd.R_far (p := ⟨gb481, 2, none⟩) (Kd.R_far (p := ⟨gb481, 1, none⟩) (Kd.R_far (p := ⟨gb481, 0, none⟩) (Kd.R_types HO476.out BK481.out (by decide)) (fun _ hk => hk.2) (.int .i64 t473)) (fun _ hk => hk.2) (.slice Ao124 t474.length co124)) (fun _ hk => hk.2) (.slice Ao125 t477.length co125)) (fun _ h_ => h_.1)))); (case side2 => exact (Kd.R_reads' HO476.out).2.1); (case side3 => refine (Kd.R_reads' (e := 71) (base := w.heap.size) (ok := fun k_ => ((((True ∧ some k_ ≠ (.slice Ao26 t427.length co26 : Value).ownBlock) ∧ some k_ ≠ (.slice Ao34 t460.length co34 : Value).ownBlock) ∧ some k_ ≠ (.slice Ao42 t444.length co42 : Value).ownBlock) ∧ some k_ ≠ (.slice Ao116 t470.length co116 : Value).ownBlock)) (n := t477.length) (c := co125) ?_).2.2; exact (by (with_reducible repeat (first | apply Kd.R_alloc | apply Kd.R_drewN | apply Kd.R_drew)); exact (Kd.R_mono (Kd.R_far (p := ⟨gb481, 2, none⟩) (Kd.R_far (p := ⟨gb481, 1, none⟩) (Kd.R_far (p := ⟨gb481, 0, none⟩) (Kd.R_types HO479.out BK481.out (by decide)) (fun _ hk => hk.2) (.int .i64 t473)) (fun _ hk => hk.2) (.slice Ao124 t474.length co124)) (fun _ hk => hk.2) (.slice Ao125 t477.length co125)) (fun _ h_ => h_.1)))); (case side4 => exact (Kd.R_reads' HO479.out).2.1); (case side5 => refine (Kd.R_reads' (e := 3) (base := w.heap.size) (ok := fun k_ => (((some k_ ≠ (.slice Ao33 t459.length co33 : Value).ownBlock ∧ some k_ ≠ (.slice Ao41 t441.length co41 : Value).ownBlock) ∧ some k_ ≠ (.slice Ao115 t467.length co115 : Value).ownBlock) ∧ some k_ ≠ (.slice Ao124 t474.length co124 : Value).ownBlock)) (n := t424.length) (c := co25) ?_).2.2; exact (by (with_reducible repeat (first | apply Kd.R_alloc | apply Kd.R_drewN | apply Kd.R_drew)); exact (Kd.R_mono (Kd.R_far (p := ⟨gb481, 2, none⟩) (Kd.R_far (p := ⟨gb481, 1, none⟩) (Kd.R_far (p := ⟨gb481, 0, none⟩) (Kd.R_types HO_432001.out BK481.out (by decide)) (fun _ hk => hk.2) (.int .i64 t473)) (fun _ hk => hk.2) (.slice Ao124 t474.length co124)) (fun _ hk => hk.2) (.slice Ao125 t477.length co125)) (fun _ h_ => h_.1)))); (case side6 => exact (Kd.R_reads' HO_432001.out).2.1); (case side7 => refine (Kd.R_reads' (e := 71) (base := w.heap.size) (ok := fun k_ => (((some k_ ≠ (.slice Ao34 t460.length co34 : Value).ownBlock ∧ some k_ ≠ (.slice Ao42 t444.length co42 : Value).ownBlock) ∧ some k_ ≠ (.slice Ao116 t470.length co116 : Value).ownBlock) ∧ some k_ ≠ (.slice Ao125 t477.length co125 : Value).ownBlock)) (n := t427.length) (c := co26) ?_).2.2; exact (by (with_reducible repeat (first | apply Kd.R_alloc | apply Kd.R_drewN | apply Kd.R_drew)); exact (Kd.R_mono (Kd.R_far (p := ⟨gb481, 2, none⟩) (Kd.R_far (p := ⟨gb481, 1, none⟩) (Kd.R_far (p := ⟨gb481, 0, none⟩) (Kd.R_types HO_432002.out BK481.out (by decide)) (fun _ hk => hk.2) (.int .i64 t473)) (fun _ hk => hk.2) (.slice Ao124 t474.length co124)) (fun _ hk => hk.2) (.slice Ao125 t477.length co125)) (fun _ h_ => h_.1)))); (case side8 => exact (Kd.R_reads' HO_432002.out).2.1); rintro e w137 ⟨rfl, hb⟩; refine ⟨_, rfl, ?_⟩; have n0_ := Aside0.mk (Kd.R_below (by (with_reducible repeat (first | apply Kd.R_alloc | apply Kd.R_drewN | apply Kd.R_drew)); exact (Kd.R_mono (Kd.R_far (p := ⟨gb481, 2, none⟩) (Kd.R_far (p := ⟨gb481, 1, none⟩) (Kd.R_far (p := ⟨gb481, 0, none⟩) (Kd.R_types HO_432001.out BK481.out (by decide)) (fun _ hk => hk.2) (.int .i64 t473)) (fun _ hk => hk.2) (.slice Ao124 t474.length co124)) (fun _ hk => hk.2) (.slice Ao125 t477.length co125)) (fun _ h_ => h_.1))) hb); have n1_ := Aside0.mk (Kd.R_below (by (with_reducible repeat (first | apply Kd.R_alloc | apply Kd.R_drewN | apply Kd.R_drew)); exact (Kd.R_mono (Kd.R_far (p := ⟨gb481, 2, none⟩) (Kd.R_far (p := ⟨gb481, 1, none⟩) (Kd.R_far (p := ⟨gb481, 0, none⟩) (Kd.R_types HO_432002.out BK481.out (by decide)) (fun _ hk => hk.2) (.int .i64 t473)) (fun _ hk => hk.2) (.slice Ao124 t474.length co124)) (fun _ hk => hk.2) (.slice Ao125 t477.length co125)) (fun _ h_ => h_.1))) hb); have n2_ := Aside0.mk (Kd.R_below (by (with_reducible repeat (first | apply Kd.R_alloc | apply Kd.R_drewN | apply Kd.R_drew)); exact (Kd.R_mono (Kd.R_far (p := ⟨gb481, 2, none⟩) (Kd.R_far (p := ⟨gb481, 1, none⟩) (Kd.R_far (p := ⟨gb481, 0, none⟩) (Kd.R_types HO_440001.out BK481.out (by decide)) (fun _ hk => hk.2) (.int .i64 t473)) (fun _ hk => hk.2) (.slice Ao124 t474.length co124)) (fun _ hk => hk.2) (.slice Ao125 t477.length co125)) (fun _ h_ => h_.1))) hb); have n3_ := Aside0.mk (Kd.R_below (by (with_reducible repeat (first | apply Kd.R_alloc | apply Kd.R_drewN | apply Kd.R_drew)); exact (Kd.R_mono (Kd.R_far (p := ⟨gb481, 2, none⟩) (Kd.R_far (p := ⟨gb481, 1, none⟩) (Kd.R_far (p := ⟨gb481, 0, none⟩) (Kd.R_types HO_440002.out BK481.out (by decide)) (fun _ hk => hk.2) (.int .i64 t473)) (fun _ hk => hk.2) (.slice Ao124 t474.length co124)) (fun _ hk => hk.2) (.slice Ao125 t477.length co125)) (fun _ h_ => h_.1))) hb); have n4_ := Aside0.mk (Kd.R_below (by (with_reducible repeat (first | apply Kd.R_alloc | apply Kd.R_drewN | apply Kd.R_drew)); exact (Kd.R_mono (Kd.R_far (p := ⟨gb481, 2, none⟩) (Kd.R_far (p := ⟨gb481, 1, none⟩) (Kd.R_far (p := ⟨gb481, 0, none⟩) (Kd.R_types HO_449001.out BK481.out (by decide)) (fun _ hk => hk.2) (.int .i64 t473)) (fun _ hk => hk.2) (.slice Ao124 t474.length co124)) (fun _ hk => hk.2) (.slice Ao125 t477.length co125)) (fun _ h_ => h_.1))) hb); have n5_ := Aside0.mk (Kd.R_below (by (with_reducible repeat (first | apply Kd.R_alloc | apply Kd.R_drewN | apply Kd.R_drew)); exact (Kd.R_mono (Kd.R_far (p := ⟨gb481, 2, none⟩) (Kd.R_far (p := ⟨gb481, 1, none⟩) (Kd.R_far (p := ⟨gb481, 0, none⟩) (Kd.R_types HO_449002.out BK481.out (by decide)) (fun _ hk => hk.2) (.int .i64 t473)) (fun _ hk => hk.2) (.slice Ao124 t474.length co124)) (fun _ hk => hk.2) (.slice Ao125 t477.length co125)) (fun _ h_ => h_.1))) hb); have n6_ := Aside0.mk (Kd.R_below (by (with_reducible repeat (first | apply Kd.R_alloc | apply Kd.R_drewN | apply Kd.R_drew)); exact (Kd.R_mono (Kd.R_far (p := ⟨gb481, 2, none⟩) (Kd.R_far (p := ⟨gb481, 1, none⟩) (Kd.R_far (p := ⟨gb481, 0, none⟩) (Kd.R_types HO469.out BK481.out (by decide)) (fun _ hk => hk.2) (.int .i64 t473)) (fun _ hk => hk.2) (.slice Ao124 t474.length co124)) (fun _ hk => hk.2) (.slice Ao125 t477.length co125)) (fun _ h_ => h_.1))) hb); have n7_ := Aside0.mk (Kd.R_below (by (with_reducible repeat (first | apply Kd.R_alloc | apply Kd.R_drewN | apply Kd.R_drew)); exact (Kd.R_mono (Kd.R_far (p := ⟨gb481, 2, none⟩) (Kd.R_far (p := ⟨gb481, 1, none⟩) (Kd.R_far (p := ⟨gb481, 0, none⟩) (Kd.R_types HO472.out BK481.out (by decide)) (fun _ hk => hk.2) (.int .i64 t473)) (fun _ hk => hk.2) (.slice Ao124 t474.length co124)) (fun _ hk => hk.2) (.slice Ao125 t477.length co125)) (fun _ h_ => h_.1))) hb); have n8_ := Aside0.mk (Kd.R_below (by (with_reducible repeat (first | apply Kd.R_alloc | apply Kd.R_drewN | apply Kd.R_drew)); exact (Kd.R_mono (Kd.R_far (p := ⟨gb481, 2, none⟩) (Kd.R_far (p := ⟨gb481, 1, none⟩) (Kd.R_far (p := ⟨gb481, 0, none⟩) (Kd.R_types HO476.out BK481.out (by decide)) (fun _ hk => hk.2) (.int .i64 t473)) (fun _ hk => hk.2) (.slice Ao124 t474.length co124)) (fun _ hk => hk.2) (.slice Ao125 t477.length co125)) (fun _ h_ => h_.1))) hb); have n9_ := Aside0.mk (Kd.R_below (by (with_reducible repeat (first | apply Kd.R_alloc | apply Kd.R_drewN | apply Kd.R_drew)); exact (Kd.R_mono (Kd.R_far (p := ⟨gb481, 2, none⟩) (Kd.R_far (p := ⟨gb481, 1, none⟩) (Kd.R_far (p := ⟨gb481, 0, none⟩) (Kd.R_types HO479.out BK481.out (by decide)) (fun _ hk => hk.2) (.int .i64 t473)) (fun _ hk => hk.2) (.slice Ao124 t474.length co124)) (fun _ hk => hk.2) (.slice Ao125 t477.length co125)) (fun _ h_ => h_.1))) hb); have n10_ := Aside0.mk (blk_below (g := gb414) (o := .cells #[.int .i64 a0_0, .slice A0_1 l0_1.length c0_1, .slice A0_2 l0_2.length c0_2] 25 (0, 0)) (by (with_reducible repeat (first | refine blk_drewN ?_ _ | refine blk_drew ?_ | refine blk_alloc ?_ _)); refine blk_far ?_ NB414_481.out _; (with_reducible repeat (first | refine blk_drewN ?_ _ | refine blk_drew ?_ | refine blk_alloc ?_ _)); refine blk_far ?_ NB414_481.out _; (with_reducible repeat (first | refine blk_drewN ?_ _ | refine blk_drew ?_ | refine blk_alloc ?_ _)); refine blk_far ?_ NB414_481.out _; (with_reducible repeat (first | refine blk_drewN ?_ _ | refine blk_drew ?_ | refine blk_alloc ?_ _)); exact BK414.out) hb); have n11_ := Aside0.mk (blk_below (g := gb431) (o := .cells #[.int .i64 t423, .slice Ao25 t424.length co25, .slice Ao26 t427.length co26] 30 (0, 0)) (by (with_reducible repeat (first | refine blk_drewN ?_ _ | refine blk_drew ?_ | refine blk_alloc ?_ _)); refine blk_far ?_ NB431_481.out _; (with_reducible repeat (first | refine blk_drewN ?_ _ | refine blk_drew ?_ | refine blk_alloc ?_ _)); refine blk_far ?_ NB431_481.out _; (with_reducible repeat (first | refine blk_drewN ?_ _ | refine blk_drew ?_ | refine blk_alloc ?_ _)); refine blk_far ?_ NB431_481.out _; (with_reducible repeat (first | refine blk_drewN ?_ _ | refine blk_drew ?_ | refine blk_alloc ?_ _)); exact BK431.out) hb); have n12_ := Aside0.mk (blk_below (g := gb439) (o := .cells #[.int .i64 t432, .slice Ao33 t459.length co33, .slice Ao34 t460.length co34] 30 (0, 0)) (by (with_reducible repeat (first | refine blk_drewN ?_ _ | refine blk_drew ?_ | refine blk_alloc ?_ _)); refine blk_far ?_ NB439_481.out _; (with_reducible repeat (first | refine blk_drewN ?_ _ | refine blk_drew ?_ | refine blk_alloc ?_ _)); refine blk_far ?_ NB439_481.out _; (with_reducible repeat (first | refine blk_drewN ?_ _ | refine blk_drew ?_ | refine blk_alloc ?_ _)); refine blk_far ?_ NB439_481.out _; (with_reducible repeat (first | refine blk_drewN ?_ _ | refine blk_drew ?_ | refine blk_alloc ?_ _)); exact BK439.out) hb); have n13_ := Aside0.mk (blk_below (g := gb448) (o := .cells #[.int .i64 t440, .slice Ao41 t441.length co41, .slice Ao42 t444.length co42] 30 (0, 0)) (by (with_reducible repeat (first | refine blk_drewN ?_ _ | refine blk_drew ?_ | refine blk_alloc ?_ _)); refine blk_far ?_ NB448_481.out _; (with_reducible repeat (first | refine blk_drewN ?_ _ | refine blk_drew ?_ | refine blk_alloc ?_ _)); refine blk_far ?_ NB448_481.out _; (with_reducible repeat (first | refine blk_drewN ?_ _ | refine blk_drew ?_ | refine blk_alloc ?_ _)); refine blk_far ?_ NB448_481.out _; (with_reducible repeat (first | refine blk_drewN ?_ _ | refine blk_drew ?_ | refine blk_alloc ?_ _)); exact BK448.out) hb); have n14_ := Aside0.mk (blk_below (g := gb481) (o := .cells #[.int .i64 t473, .slice Ao124 t474.length co124, .slice Ao125 t477.length co125] 30 (0, 0)) (by (with_reducible repeat (first | refine blk_drewN ?_ _ | refine blk_drew ?_ | refine blk_alloc ?_ _)); refine blk_put (cs := #[.int .i64 t473, .slice Ao124 t474.length co124, .slice none 0 0]) ?_ 2 _ rfl; (with_reducible repeat (first | refine blk_drewN ?_ _ | refine blk_drew ?_ | refine blk_alloc ?_ _)); refine blk_put (cs := #[.int .i64 t473, .slice none 0 0, .slice none 0 0]) ?_ 1 _ rfl; (with_reducible repeat (first | refine blk_drewN ?_ _ | refine blk_drew ?_ | refine blk_alloc ?_ _)); refine blk_put (cs := #[.int .i64 0, .slice none 0 0, .slice none 0 0]) ?_ 0 _ rfl; (with_reducible repeat (first | refine blk_drewN ?_ _ | refine blk_drew ?_ | refine blk_alloc ?_ _)); exact BK481.out) hb); have n15_ := Aside0.mk (below_step (by repeat (first | (with_reducible first | exact HB.out | apply below_alloc | apply pw_below_drewN | apply below_drew1 | refine below_set ?_ GE414.out | refine below_set ?_ GE431.out | refine below_set ?_ GE439.out | refine below_set ?_ GE448.out | refine below_set ?_ GE481.out) | exact HB.out)) hb); clear HO_432001; clear HO_432002; clear HO_440001; clear HO_440002; clear HO_449001; clear HO_449002; clear HO469; clear HO472; clear HO476; clear HO479; clear BK414; clear BK431; clear BK439; clear BK448; clear BK481; clear HB; have HO_432001 := n0_; have HO_432002 := n1_; have HO_440001 := n2_; have HO_440002 := n3_; have HO_449001 := n4_; have HO_449002 := n5_; have HO469 := n6_; have HO472 := n7_; have HO476 := n8_; have HO479 := n9_; have BK414 := n10_; have BK431 := n11_; have BK439 := n12_; have BK448 := n13_; have BK481 := n14_; have HB := n15_; clear n0_ n1_ n2_ n3_ n4_ n5_ n6_ n7_ n8_ n9_ n10_ n11_ n12_ n13_ n14_ n15_; (try clear hb); (try clear hb2); (try clear hk); (try clear hi)))
                          go_meet
                          case rel => exact ⟨_, ((t480 != t430)), (by first | rfl | (simp; done) | (simp [*]; done)), H', ⟨by have := HJ12.out; have := HJ65.out; first | omega | exact Nat.le_refl _⟩, ⟨by (try simp only [hl440001_65]); (try simp only [hl440002_65]); (with_reducible repeat (first | apply Kd.R_alloc | apply Kd.R_drewN | apply Kd.R_drew)); exact Kd.R_mono HO_432001.out (fun _ hk => ⟨hk.1.1.1, ⟨hk.1.1.2, hk.2⟩⟩)⟩, ⟨by (try simp only [hl440001_65]); (try simp only [hl440002_65]); (with_reducible repeat (first | apply Kd.R_alloc | apply Kd.R_drewN | apply Kd.R_drew)); exact Kd.R_mono HO_432002.out (fun _ hk => ⟨hk.1.1.1, ⟨hk.1.1.2, hk.2⟩⟩)⟩, ⟨by (try simp only [hl440001_65]); (try simp only [hl440002_65]); (with_reducible repeat (first | apply Kd.R_alloc | apply Kd.R_drewN | apply Kd.R_drew)); exact Kd.R_mono HO_440001.out (fun _ hk => ⟨hk.1.1.1, ⟨hk.1.1.2, hk.2⟩⟩)⟩, ⟨by (try simp only [hl440001_65]); (try simp only [hl440002_65]); (with_reducible repeat (first | apply Kd.R_alloc | apply Kd.R_drewN | apply Kd.R_drew)); exact Kd.R_mono HO_440002.out (fun _ hk => ⟨hk.1.1.1, ⟨hk.1.1.2, hk.2⟩⟩)⟩, ⟨by (try simp only [hl440001_65]); (try simp only [hl440002_65]); (with_reducible repeat (first | apply Kd.R_alloc | apply Kd.R_drewN | apply Kd.R_drew)); exact Kd.R_mono HO_449001.out (fun _ hk => ⟨hk.1.1.1, ⟨hk.1.1.2, hk.2⟩⟩)⟩, ⟨by (try simp only [hl440001_65]); (try simp only [hl440002_65]); (with_reducible repeat (first | apply Kd.R_alloc | apply Kd.R_drewN | apply Kd.R_drew)); exact Kd.R_mono HO_449002.out (fun _ hk => ⟨hk.1.1.1, ⟨hk.1.1.2, hk.2⟩⟩)⟩, ⟨by (try simp only [hl440001_65]); (try simp only [hl440002_65]); (with_reducible repeat (first | apply Kd.R_alloc | apply Kd.R_drewN | apply Kd.R_drew)); exact Kd.R_mono HO476.out (fun _ hk => ⟨hk.1.1.1.2, ⟨hk.1.1.2, hk.1.2⟩⟩)⟩, ⟨by (try simp only [hl440001_65]); (try simp only [hl440002_65]); (with_reducible repeat (first | apply Kd.R_alloc | apply Kd.R_drewN | apply Kd.R_drew)); exact Kd.R_mono HO479.out (fun _ hk => ⟨hk.1.1.1.2, ⟨hk.1.1.2, hk.1.2⟩⟩)⟩, ⟨by (try simp only [hl440001_65]); (try simp only [hl440002_65]); (with_reducible repeat (first | refine blk_drewN ?_ _ | refine blk_drew ?_ | refine blk_alloc ?_ _)); exact BK414.out⟩, ⟨by (try simp only [hl440001_65]); (try simp only [hl440002_65]); (with_reducible repeat (first | refine blk_drewN ?_ _ | refine blk_drew ?_ | refine blk_alloc ?_ _)); exact BK431.out⟩, ⟨by (try simp only [hl440001_65]); (try simp only [hl440002_65]); (with_reducible repeat (first | refine blk_drewN ?_ _ | refine blk_drew ?_ | refine blk_alloc ?_ _)); exact BK439.out⟩, ⟨by (try simp only [hl440001_65]); (try simp only [hl440002_65]); (with_reducible repeat (first | refine blk_drewN ?_ _ | refine blk_drew ?_ | refine blk_alloc ?_ _)); exact BK448.out⟩, ⟨by (try simp only [hl440001_65]); (try simp only [hl440002_65]); (with_reducible repeat (first | refine blk_drewN ?_ _ | refine blk_drew ?_ | refine blk_alloc ?_ _)); exact BK481.out⟩, ⟨by repeat (first | (with_reducible first | exact HB.out | apply below_alloc | apply pw_below_drewN | apply below_drew1 | refine below_set ?_ GE414.out | refine below_set ?_ GE431.out | refine below_set ?_ GE439.out | refine below_set ?_ GE448.out | refine below_set ?_ GE481.out) | exact HB.out)⟩⟩
                        · replace c127 := Bool.eq_false_iff.mpr c127
                          subst c127
                          have H1 : (laws_FnExactSetJam.j2 kj65 t462 true t440 t463 t464) = some r := by rw [if_neg (show ¬ (false = true) by decide)] at H; exact H
                          clear H
                          have H := H1
                          clear H1
                          have H' := Aside0.mk H
                          clear H
                          have hnb138 := NB481_414.out
                          have hnc138 := NB414_481.out
                          have hnb139 := NB481_431.out
                          have hnc139 := NB431_481.out
                          have hnb140 := NB481_439.out
                          have hnc140 := NB439_481.out
                          have hnb141 := NB481_448.out
                          have hnc141 := NB448_481.out
                          have hcz142_0 : w118.cell? ⟨gb481, 0, none⟩ = some (.int .i64 0) := (blk_cell BK481.out 0).trans rfl
                          have hcz142_1 : w118.cell? ⟨gb481, 1, none⟩ = some (.slice none 0 0) := (blk_cell BK481.out 1).trans rfl
                          have hcz142_2 : w118.cell? ⟨gb481, 2, none⟩ = some (.slice none 0 0) := (blk_cell BK481.out 2).trans rfl
                          have hfz142_0 := blk_frozen BK481.out 0
                          have hfz142_1 := blk_frozen BK481.out 1
                          have hfz142_2 := blk_frozen BK481.out 2
                          have hnb143 := NB431_414.out
                          have hnc143 := NB414_431.out
                          have hnb144 := NB431_439.out
                          have hnc144 := NB439_431.out
                          have hnb145 := NB431_448.out
                          have hnc145 := NB448_431.out
                          have hcz146_0 : w118.cell? ⟨gb431, 0, none⟩ = some (.int .i64 t423) := (blk_cell BK431.out 0).trans rfl
                          have hcz146_1 : w118.cell? ⟨gb431, 1, none⟩ = some (.slice Ao25 t424.length co25) := (blk_cell BK431.out 1).trans rfl
                          have hcz146_2 : w118.cell? ⟨gb431, 2, none⟩ = some (.slice Ao26 t427.length co26) := (blk_cell BK431.out 2).trans rfl
                          have hfz146_0 := blk_frozen BK431.out 0
                          have hfz146_1 := blk_frozen BK431.out 1
                          have hfz146_2 := blk_frozen BK431.out 2
                          go_wp2_with (first | ((with_reducible refine gate_callee (f := 19) rfl ?_); refine goesL_ (some 91) rfl rfl Try.func19 (by kernel_rfl) rfl #[.agg #[.int .i64 t473, .slice Ao124 t474.length co124, .slice Ao125 t477.length co125], .agg #[.int .i64 t423, .slice Ao25 t424.length co25, .slice Ao26 t427.length co26]] rfl (by (try simp only [List.map_toArray, List.map_cons, List.map_nil]); first | done | rfl | (simp only [List.length_drop, List.length_take]; rfl)) ?_; (with_reducible refine (laws_eqColumn.calls kj65 t473 _ _ t474 _ _ t477 t423 _ _ t424 _ _ t427 false _ ?side1 ?side2 ?side3 ?side4 ?side5 ?side6 ?side7 ?side8 A126.out).mono ?_); (case side1 => refine (Kd.R_reads' (e := 3) (base := w.heap.size) (ok := fun k_ => ((((True ∧ some k_ ≠ (.slice Ao25 t424.length co25 : Value).ownBlock) ∧ some k_ ≠ (.slice Ao33 t459.length co33 : Value).ownBlock) ∧ some k_ ≠ (.slice Ao41 t441.length co41 : Value).ownBlock) ∧ some k_ ≠ (.slice Ao115 t467.length co115 : Value).ownBlock)) (n := t474.length) (c := co124) ?_).2.2; exact (by (with_reducible repeat (first | apply Kd.R_alloc | apply Kd.R_drewN | apply Kd.R_drew)); exact (Kd.R_mono (Kd.R_far (p := ⟨gb481, 2, none⟩) (Kd.R_far (p := ⟨gb481, 1, none⟩) (Kd.R_far (p := ⟨gb481, 0, none⟩) (Kd.R_types HO476.out BK481.out (by decide)) (fun _ hk => hk.2) (.int .i64 t473)) (fun _ hk => hk.2) (.slice Ao124 t474.length co124)) (fun _ hk => hk.2) (.slice Ao125 t477.length co125)) (fun _ h_ => h_.1)))); (case side2 => exact (Kd.R_reads' HO476.out).2.1); (case side3 => refine (Kd.R_reads' (e := 71) (base := w.heap.size) (ok := fun k_ => ((((True ∧ some k_ ≠ (.slice Ao26 t427.length co26 : Value).ownBlock) ∧ some k_ ≠ (.slice Ao34 t460.length co34 : Value).ownBlock) ∧ some k_ ≠ (.slice Ao42 t444.length co42 : Value).ownBlock) ∧ some k_ ≠ (.slice Ao116 t470.length co116 : Value).ownBlock)) (n := t477.length) (c := co125) ?_).2.2; exact (by (with_reducible repeat (first | apply Kd.R_alloc | apply Kd.R_drewN | apply Kd.R_drew)); exact (Kd.R_mono (Kd.R_far (p := ⟨gb481, 2, none⟩) (Kd.R_far (p := ⟨gb481, 1, none⟩) (Kd.R_far (p := ⟨gb481, 0, none⟩) (Kd.R_types HO479.out BK481.out (by decide)) (fun _ hk => hk.2) (.int .i64 t473)) (fun _ hk => hk.2) (.slice Ao124 t474.length co124)) (fun _ hk => hk.2) (.slice Ao125 t477.length co125)) (fun _ h_ => h_.1)))); (case side4 => exact (Kd.R_reads' HO479.out).2.1); (case side5 => refine (Kd.R_reads' (e := 3) (base := w.heap.size) (ok := fun k_ => (((some k_ ≠ (.slice Ao33 t459.length co33 : Value).ownBlock ∧ some k_ ≠ (.slice Ao41 t441.length co41 : Value).ownBlock) ∧ some k_ ≠ (.slice Ao115 t467.length co115 : Value).ownBlock) ∧ some k_ ≠ (.slice Ao124 t474.length co124 : Value).ownBlock)) (n := t424.length) (c := co25) ?_).2.2; exact (by (with_reducible repeat (first | apply Kd.R_alloc | apply Kd.R_drewN | apply Kd.R_drew)); exact (Kd.R_mono (Kd.R_far (p := ⟨gb481, 2, none⟩) (Kd.R_far (p := ⟨gb481, 1, none⟩) (Kd.R_far (p := ⟨gb481, 0, none⟩) (Kd.R_types HO_432001.out BK481.out (by decide)) (fun _ hk => hk.2) (.int .i64 t473)) (fun _ hk => hk.2) (.slice Ao124 t474.length co124)) (fun _ hk => hk.2) (.slice Ao125 t477.length co125)) (fun _ h_ => h_.1)))); (case side6 => exact (Kd.R_reads' HO_432001.out).2.1); (case side7 => refine (Kd.R_reads' (e := 71) (base := w.heap.size) (ok := fun k_ => (((some k_ ≠ (.slice Ao34 t460.length co34 : Value).ownBlock ∧ some k_ ≠ (.slice Ao42 t444.length co42 : Value).ownBlock) ∧ some k_ ≠ (.slice Ao116 t470.length co116 : Value).ownBlock) ∧ some k_ ≠ (.slice Ao125 t477.length co125 : Value).ownBlock)) (n := t427.length) (c := co26) ?_).2.2; exact (by (with_reducible repeat (first | apply Kd.R_alloc | apply Kd.R_drewN | apply Kd.R_drew)); exact (Kd.R_mono (Kd.R_far (p := ⟨gb481, 2, none⟩) (Kd.R_far (p := ⟨gb481, 1, none⟩) (Kd.R_far (p := ⟨gb481, 0, none⟩) (Kd.R_types HO_432002.out BK481.out (by decide)) (fun _ hk => hk.2) (.int .i64 t473)) (fun _ hk => hk.2) (.slice Ao124 t474.length co124)) (fun _ hk => hk.2) (.slice Ao125 t477.length co125)) (fun _ h_ => h_.1)))); (case side8 => exact (Kd.R_reads' HO_432002.out).2.1); rintro e w147 ⟨rfl, hb⟩; refine ⟨_, rfl, ?_⟩; have n0_ := Aside0.mk (Kd.R_below (by (with_reducible repeat (first | apply Kd.R_alloc | apply Kd.R_drewN | apply Kd.R_drew)); exact (Kd.R_mono (Kd.R_far (p := ⟨gb481, 2, none⟩) (Kd.R_far (p := ⟨gb481, 1, none⟩) (Kd.R_far (p := ⟨gb481, 0, none⟩) (Kd.R_types HO_432001.out BK481.out (by decide)) (fun _ hk => hk.2) (.int .i64 t473)) (fun _ hk => hk.2) (.slice Ao124 t474.length co124)) (fun _ hk => hk.2) (.slice Ao125 t477.length co125)) (fun _ h_ => h_.1))) hb); have n1_ := Aside0.mk (Kd.R_below (by (with_reducible repeat (first | apply Kd.R_alloc | apply Kd.R_drewN | apply Kd.R_drew)); exact (Kd.R_mono (Kd.R_far (p := ⟨gb481, 2, none⟩) (Kd.R_far (p := ⟨gb481, 1, none⟩) (Kd.R_far (p := ⟨gb481, 0, none⟩) (Kd.R_types HO_432002.out BK481.out (by decide)) (fun _ hk => hk.2) (.int .i64 t473)) (fun _ hk => hk.2) (.slice Ao124 t474.length co124)) (fun _ hk => hk.2) (.slice Ao125 t477.length co125)) (fun _ h_ => h_.1))) hb); have n2_ := Aside0.mk (Kd.R_below (by (with_reducible repeat (first | apply Kd.R_alloc | apply Kd.R_drewN | apply Kd.R_drew)); exact (Kd.R_mono (Kd.R_far (p := ⟨gb481, 2, none⟩) (Kd.R_far (p := ⟨gb481, 1, none⟩) (Kd.R_far (p := ⟨gb481, 0, none⟩) (Kd.R_types HO_440001.out BK481.out (by decide)) (fun _ hk => hk.2) (.int .i64 t473)) (fun _ hk => hk.2) (.slice Ao124 t474.length co124)) (fun _ hk => hk.2) (.slice Ao125 t477.length co125)) (fun _ h_ => h_.1))) hb); have n3_ := Aside0.mk (Kd.R_below (by (with_reducible repeat (first | apply Kd.R_alloc | apply Kd.R_drewN | apply Kd.R_drew)); exact (Kd.R_mono (Kd.R_far (p := ⟨gb481, 2, none⟩) (Kd.R_far (p := ⟨gb481, 1, none⟩) (Kd.R_far (p := ⟨gb481, 0, none⟩) (Kd.R_types HO_440002.out BK481.out (by decide)) (fun _ hk => hk.2) (.int .i64 t473)) (fun _ hk => hk.2) (.slice Ao124 t474.length co124)) (fun _ hk => hk.2) (.slice Ao125 t477.length co125)) (fun _ h_ => h_.1))) hb); have n4_ := Aside0.mk (Kd.R_below (by (with_reducible repeat (first | apply Kd.R_alloc | apply Kd.R_drewN | apply Kd.R_drew)); exact (Kd.R_mono (Kd.R_far (p := ⟨gb481, 2, none⟩) (Kd.R_far (p := ⟨gb481, 1, none⟩) (Kd.R_far (p := ⟨gb481, 0, none⟩) (Kd.R_types HO_449001.out BK481.out (by decide)) (fun _ hk => hk.2) (.int .i64 t473)) (fun _ hk => hk.2) (.slice Ao124 t474.length co124)) (fun _ hk => hk.2) (.slice Ao125 t477.length co125)) (fun _ h_ => h_.1))) hb); have n5_ := Aside0.mk (Kd.R_below (by (with_reducible repeat (first | apply Kd.R_alloc | apply Kd.R_drewN | apply Kd.R_drew)); exact (Kd.R_mono (Kd.R_far (p := ⟨gb481, 2, none⟩) (Kd.R_far (p := ⟨gb481, 1, none⟩) (Kd.R_far (p := ⟨gb481, 0, none⟩) (Kd.R_types HO_449002.out BK481.out (by decide)) (fun _ hk => hk.2) (.int .i64 t473)) (fun _ hk => hk.2) (.slice Ao124 t474.length co124)) (fun _ hk => hk.2) (.slice Ao125 t477.length co125)) (fun _ h_ => h_.1))) hb); have n6_ := Aside0.mk (Kd.R_below (by (with_reducible repeat (first | apply Kd.R_alloc | apply Kd.R_drewN | apply Kd.R_drew)); exact (Kd.R_mono (Kd.R_far (p := ⟨gb481, 2, none⟩) (Kd.R_far (p := ⟨gb481, 1, none⟩) (Kd.R_far (p := ⟨gb481, 0, none⟩) (Kd.R_types HO469.out BK481.out (by decide)) (fun _ hk => hk.2) (.int .i64 t473)) (fun _ hk => hk.2) (.slice Ao124 t474.length co124)) (fun _ hk => hk.2) (.slice Ao125 t477.length co125)) (fun _ h_ => h_.1))) hb); have n7_ := Aside0.mk (Kd.R_below (by (with_reducible repeat (first | apply Kd.R_alloc | apply Kd.R_drewN | apply Kd.R_drew)); exact (Kd.R_mono (Kd.R_far (p := ⟨gb481, 2, none⟩) (Kd.R_far (p := ⟨gb481, 1, none⟩) (Kd.R_far (p := ⟨gb481, 0, none⟩) (Kd.R_types HO472.out BK481.out (by decide)) (fun _ hk => hk.2) (.int .i64 t473)) (fun _ hk => hk.2) (.slice Ao124 t474.length co124)) (fun _ hk => hk.2) (.slice Ao125 t477.length co125)) (fun _ h_ => h_.1))) hb); have n8_ := Aside0.mk (Kd.R_below (by (with_reducible repeat (first | apply Kd.R_alloc | apply Kd.R_drewN | apply Kd.R_drew)); exact (Kd.R_mono (Kd.R_far (p := ⟨gb481, 2, none⟩) (Kd.R_far (p := ⟨gb481, 1, none⟩) (Kd.R_far (p := ⟨gb481, 0, none⟩) (Kd.R_types HO476.out BK481.out (by decide)) (fun _ hk => hk.2) (.int .i64 t473)) (fun _ hk => hk.2) (.slice Ao124 t474.length co124)) (fun _ hk => hk.2) (.slice Ao125 t477.length co125)) (fun _ h_ => h_.1))) hb); have n9_ := Aside0.mk (Kd.R_below (by (with_reducible repeat (first | apply Kd.R_alloc | apply Kd.R_drewN | apply Kd.R_drew)); exact (Kd.R_mono (Kd.R_far (p := ⟨gb481, 2, none⟩) (Kd.R_far (p := ⟨gb481, 1, none⟩) (Kd.R_far (p := ⟨gb481, 0, none⟩) (Kd.R_types HO479.out BK481.out (by decide)) (fun _ hk => hk.2) (.int .i64 t473)) (fun _ hk => hk.2) (.slice Ao124 t474.length co124)) (fun _ hk => hk.2) (.slice Ao125 t477.length co125)) (fun _ h_ => h_.1))) hb); have n10_ := Aside0.mk (blk_below (g := gb414) (o := .cells #[.int .i64 a0_0, .slice A0_1 l0_1.length c0_1, .slice A0_2 l0_2.length c0_2] 25 (0, 0)) (by (with_reducible repeat (first | refine blk_drewN ?_ _ | refine blk_drew ?_ | refine blk_alloc ?_ _)); refine blk_far ?_ NB414_481.out _; (with_reducible repeat (first | refine blk_drewN ?_ _ | refine blk_drew ?_ | refine blk_alloc ?_ _)); refine blk_far ?_ NB414_481.out _; (with_reducible repeat (first | refine blk_drewN ?_ _ | refine blk_drew ?_ | refine blk_alloc ?_ _)); refine blk_far ?_ NB414_481.out _; (with_reducible repeat (first | refine blk_drewN ?_ _ | refine blk_drew ?_ | refine blk_alloc ?_ _)); exact BK414.out) hb); have n11_ := Aside0.mk (blk_below (g := gb431) (o := .cells #[.int .i64 t423, .slice Ao25 t424.length co25, .slice Ao26 t427.length co26] 30 (0, 0)) (by (with_reducible repeat (first | refine blk_drewN ?_ _ | refine blk_drew ?_ | refine blk_alloc ?_ _)); refine blk_far ?_ NB431_481.out _; (with_reducible repeat (first | refine blk_drewN ?_ _ | refine blk_drew ?_ | refine blk_alloc ?_ _)); refine blk_far ?_ NB431_481.out _; (with_reducible repeat (first | refine blk_drewN ?_ _ | refine blk_drew ?_ | refine blk_alloc ?_ _)); refine blk_far ?_ NB431_481.out _; (with_reducible repeat (first | refine blk_drewN ?_ _ | refine blk_drew ?_ | refine blk_alloc ?_ _)); exact BK431.out) hb); have n12_ := Aside0.mk (blk_below (g := gb439) (o := .cells #[.int .i64 t432, .slice Ao33 t459.length co33, .slice Ao34 t460.length co34] 30 (0, 0)) (by (with_reducible repeat (first | refine blk_drewN ?_ _ | refine blk_drew ?_ | refine blk_alloc ?_ _)); refine blk_far ?_ NB439_481.out _; (with_reducible repeat (first | refine blk_drewN ?_ _ | refine blk_drew ?_ | refine blk_alloc ?_ _)); refine blk_far ?_ NB439_481.out _; (with_reducible repeat (first | refine blk_drewN ?_ _ | refine blk_drew ?_ | refine blk_alloc ?_ _)); refine blk_far ?_ NB439_481.out _; (with_reducible repeat (first | refine blk_drewN ?_ _ | refine blk_drew ?_ | refine blk_alloc ?_ _)); exact BK439.out) hb); have n13_ := Aside0.mk (blk_below (g := gb448) (o := .cells #[.int .i64 t440, .slice Ao41 t441.length co41, .slice Ao42 t444.length co42] 30 (0, 0)) (by (with_reducible repeat (first | refine blk_drewN ?_ _ | refine blk_drew ?_ | refine blk_alloc ?_ _)); refine blk_far ?_ NB448_481.out _; (with_reducible repeat (first | refine blk_drewN ?_ _ | refine blk_drew ?_ | refine blk_alloc ?_ _)); refine blk_far ?_ NB448_481.out _; (with_reducible repeat (first | refine blk_drewN ?_ _ | refine blk_drew ?_ | refine blk_alloc ?_ _)); refine blk_far ?_ NB448_481.out _; (with_reducible repeat (first | refine blk_drewN ?_ _ | refine blk_drew ?_ | refine blk_alloc ?_ _)); exact BK448.out) hb); have n14_ := Aside0.mk (blk_below (g := gb481) (o := .cells #[.int .i64 t473, .slice Ao124 t474.length co124, .slice Ao125 t477.length co125] 30 (0, 0)) (by (with_reducible repeat (first | refine blk_drewN ?_ _ | refine blk_drew ?_ | refine blk_alloc ?_ _)); refine blk_put (cs := #[.int .i64 t473, .slice Ao124 t474.length co124, .slice none 0 0]) ?_ 2 _ rfl; (with_reducible repeat (first | refine blk_drewN ?_ _ | refine blk_drew ?_ | refine blk_alloc ?_ _)); refine blk_put (cs := #[.int .i64 t473, .slice none 0 0, .slice none 0 0]) ?_ 1 _ rfl; (with_reducible repeat (first | refine blk_drewN ?_ _ | refine blk_drew ?_ | refine blk_alloc ?_ _)); refine blk_put (cs := #[.int .i64 0, .slice none 0 0, .slice none 0 0]) ?_ 0 _ rfl; (with_reducible repeat (first | refine blk_drewN ?_ _ | refine blk_drew ?_ | refine blk_alloc ?_ _)); exact BK481.out) hb); have n15_ := Aside0.mk (below_step (by repeat (first | (with_reducible first | exact HB.out | apply below_alloc | apply pw_below_drewN | apply below_drew1 | refine below_set ?_ GE414.out | refine below_set ?_ GE431.out | refine below_set ?_ GE439.out | refine below_set ?_ GE448.out | refine below_set ?_ GE481.out) | exact HB.out)) hb); clear HO_432001; clear HO_432002; clear HO_440001; clear HO_440002; clear HO_449001; clear HO_449002; clear HO469; clear HO472; clear HO476; clear HO479; clear BK414; clear BK431; clear BK439; clear BK448; clear BK481; clear HB; have HO_432001 := n0_; have HO_432002 := n1_; have HO_440001 := n2_; have HO_440002 := n3_; have HO_449001 := n4_; have HO_449002 := n5_; have HO469 := n6_; have HO472 := n7_; have HO476 := n8_; have HO479 := n9_; have BK414 := n10_; have BK431 := n11_; have BK439 := n12_; have BK448 := n13_; have BK481 := n14_; have HB := n15_; clear n0_ n1_ n2_ n3_ n4_ n5_ n6_ n7_ n8_ n9_ n10_ n11_ n12_ n13_ n14_ n15_; (try clear hb); (try clear hb2); (try clear hk); (try clear hi)))
                          go_meet
                          case rel => exact ⟨_, (true), (by first | rfl | (simp; done) | (simp [*]; done)), H', ⟨by have := HJ12.out; have := HJ65.out; first | omega | exact Nat.le_refl _⟩, ⟨by (try simp only [hl440001_65]); (try simp only [hl440002_65]); (with_reducible repeat (first | apply Kd.R_alloc | apply Kd.R_drewN | apply Kd.R_drew)); exact Kd.R_mono HO_432001.out (fun _ hk => ⟨hk.1.1.1, ⟨hk.1.1.2, hk.2⟩⟩)⟩, ⟨by (try simp only [hl440001_65]); (try simp only [hl440002_65]); (with_reducible repeat (first | apply Kd.R_alloc | apply Kd.R_drewN | apply Kd.R_drew)); exact Kd.R_mono HO_432002.out (fun _ hk => ⟨hk.1.1.1, ⟨hk.1.1.2, hk.2⟩⟩)⟩, ⟨by (try simp only [hl440001_65]); (try simp only [hl440002_65]); (with_reducible repeat (first | apply Kd.R_alloc | apply Kd.R_drewN | apply Kd.R_drew)); exact Kd.R_mono HO_440001.out (fun _ hk => ⟨hk.1.1.1, ⟨hk.1.1.2, hk.2⟩⟩)⟩, ⟨by (try simp only [hl440001_65]); (try simp only [hl440002_65]); (with_reducible repeat (first | apply Kd.R_alloc | apply Kd.R_drewN | apply Kd.R_drew)); exact Kd.R_mono HO_440002.out (fun _ hk => ⟨hk.1.1.1, ⟨hk.1.1.2, hk.2⟩⟩)⟩, ⟨by (try simp only [hl440001_65]); (try simp only [hl440002_65]); (with_reducible repeat (first | apply Kd.R_alloc | apply Kd.R_drewN | apply Kd.R_drew)); exact Kd.R_mono HO_449001.out (fun _ hk => ⟨hk.1.1.1, ⟨hk.1.1.2, hk.2⟩⟩)⟩, ⟨by (try simp only [hl440001_65]); (try simp only [hl440002_65]); (with_reducible repeat (first | apply Kd.R_alloc | apply Kd.R_drewN | apply Kd.R_drew)); exact Kd.R_mono HO_449002.out (fun _ hk => ⟨hk.1.1.1, ⟨hk.1.1.2, hk.2⟩⟩)⟩, ⟨by (try simp only [hl440001_65]); (try simp only [hl440002_65]); (with_reducible repeat (first | apply Kd.R_alloc | apply Kd.R_drewN | apply Kd.R_drew)); exact Kd.R_mono HO476.out (fun _ hk => ⟨hk.1.1.1.2, ⟨hk.1.1.2, hk.1.2⟩⟩)⟩, ⟨by (try simp only [hl440001_65]); (try simp only [hl440002_65]); (with_reducible repeat (first | apply Kd.R_alloc | apply Kd.R_drewN | apply Kd.R_drew)); exact Kd.R_mono HO479.out (fun _ hk => ⟨hk.1.1.1.2, ⟨hk.1.1.2, hk.1.2⟩⟩)⟩, ⟨by (try simp only [hl440001_65]); (try simp only [hl440002_65]); (with_reducible repeat (first | refine blk_drewN ?_ _ | refine blk_drew ?_ | refine blk_alloc ?_ _)); exact BK414.out⟩, ⟨by (try simp only [hl440001_65]); (try simp only [hl440002_65]); (with_reducible repeat (first | refine blk_drewN ?_ _ | refine blk_drew ?_ | refine blk_alloc ?_ _)); exact BK431.out⟩, ⟨by (try simp only [hl440001_65]); (try simp only [hl440002_65]); (with_reducible repeat (first | refine blk_drewN ?_ _ | refine blk_drew ?_ | refine blk_alloc ?_ _)); exact BK439.out⟩, ⟨by (try simp only [hl440001_65]); (try simp only [hl440002_65]); (with_reducible repeat (first | refine blk_drewN ?_ _ | refine blk_drew ?_ | refine blk_alloc ?_ _)); exact BK448.out⟩, ⟨by (try simp only [hl440001_65]); (try simp only [hl440002_65]); (with_reducible repeat (first | refine blk_drewN ?_ _ | refine blk_drew ?_ | refine blk_alloc ?_ _)); exact BK481.out⟩, ⟨by repeat (first | (with_reducible first | exact HB.out | apply below_alloc | apply pw_below_drewN | apply below_drew1 | refine below_set ?_ GE414.out | refine below_set ?_ GE431.out | refine below_set ?_ GE439.out | refine below_set ?_ GE448.out | refine below_set ?_ GE481.out) | exact HB.out)⟩⟩
                      case rest =>
                        clear HC103
                        try clear c1
                        try clear c2
                        try clear p2
                        try clear c3
                        try clear c4
                        try clear c5
                        try clear c5b0
                        try clear c6
                        try clear c7
                        try clear c8
                        try clear c9
                        try clear c10
                        try clear c11
                        try clear c12
                        try clear c13
                        try clear c14
                        try clear c15
                        try clear c17
                        try clear c19
                        try clear c23
                        try clear c25
                        try clear c26
                        try clear c30
                        try clear c31
                        try clear c34
                        try clear c35
                        try clear c37
                        try clear c38
                        try clear c39
                        try clear c44
                        try clear c45
                        try clear c46
                        try clear c47
                        try clear c49
                        try clear c50
                        try clear c53
                        try clear c54
                        try clear c55
                        try clear c57
                        try clear c58
                        try clear c61
                        try clear c64
                        try clear c72
                        try clear c73
                        try clear c74
                        try clear c77
                        try clear c77b0
                        try clear c79
                        try clear c80
                        try clear c81
                        try clear c82
                        try clear c84
                        try clear c85
                        try clear c88
                        try clear c89
                        try clear c90
                        try clear c92
                        try clear c93
                        try clear c96
                        try clear c99
                        try clear c99b0
                        try clear c100
                        try clear c100b0
                        try clear c100b1
                        try clear c104
                        try clear c105
                        try clear c106
                        try clear c111
                        try clear c112
                        try clear c119
                        try clear c120
                        try clear c121
                        try clear c122
                        try clear c127
                        try clear c128
                        try clear c129
                        try clear c130
                        try clear c131
                        try clear c133
                        try clear c134
                        try clear c135
                        try clear c138
                        try clear c139
                        try clear c140
                        try clear c141
                        try clear c143
                        try clear c144
                        try clear c145
                        try clear hcz107_0
                        try clear hcz107_1
                        try clear hcz107_2
                        try clear hcz109_0
                        try clear hcz109_1
                        try clear hcz109_2
                        try clear hcz113_0
                        try clear hcz113_1
                        try clear hcz113_2
                        try clear hcz123_0
                        try clear hcz123_1
                        try clear hcz123_2
                        try clear hcz132_0
                        try clear hcz132_1
                        try clear hcz132_2
                        try clear hcz136_0
                        try clear hcz136_1
                        try clear hcz136_2
                        try clear hcz142_0
                        try clear hcz142_1
                        try clear hcz142_2
                        try clear hcz146_0
                        try clear hcz146_1
                        try clear hcz146_2
                        try clear hcz15_0
                        try clear hcz15_1
                        try clear hcz15_2
                        try clear hcz17_0
                        try clear hcz17_1
                        try clear hcz17_2
                        try clear hcz24_0
                        try clear hcz24_1
                        try clear hcz24_2
                        try clear hcz27_0
                        try clear hcz27_1
                        try clear hcz27_2
                        try clear hcz32_0
                        try clear hcz32_1
                        try clear hcz32_2
                        try clear hcz40_0
                        try clear hcz40_1
                        try clear hcz40_2
                        try clear hcz48_0
                        try clear hcz48_1
                        try clear hcz48_2
                        try clear hcz51_0
                        try clear hcz51_1
                        try clear hcz51_2
                        try clear hcz56_0
                        try clear hcz56_1
                        try clear hcz56_2
                        try clear hcz59_0
                        try clear hcz59_1
                        try clear hcz59_2
                        try clear hcz75_0
                        try clear hcz75_1
                        try clear hcz75_2
                        try clear hcz7_0
                        try clear hcz7_1
                        try clear hcz7_2
                        try clear hcz83_0
                        try clear hcz83_1
                        try clear hcz83_2
                        try clear hcz86_0
                        try clear hcz86_1
                        try clear hcz86_2
                        try clear hcz91_0
                        try clear hcz91_1
                        try clear hcz91_2
                        try clear hcz94_0
                        try clear hcz94_1
                        try clear hcz94_2
                        try clear hfz107_0
                        try clear hfz107_1
                        try clear hfz107_2
                        try clear hfz109_0
                        try clear hfz109_1
                        try clear hfz109_2
                        try clear hfz113_0
                        try clear hfz113_1
                        try clear hfz113_2
                        try clear hfz123_0
                        try clear hfz123_1
                        try clear hfz123_2
                        try clear hfz132_0
                        try clear hfz132_1
                        try clear hfz132_2
                        try clear hfz136_0
                        try clear hfz136_1
                        try clear hfz136_2
                        try clear hfz142_0
                        try clear hfz142_1
                        try clear hfz142_2
                        try clear hfz146_0
                        try clear hfz146_1
                        try clear hfz146_2
                        try clear hfz15_0
                        try clear hfz15_1
                        try clear hfz15_2
                        try clear hfz17_0
                        try clear hfz17_1
                        try clear hfz17_2
                        try clear hfz24_0
                        try clear hfz24_1
                        try clear hfz24_2
                        try clear hfz27_0
                        try clear hfz27_1
                        try clear hfz27_2
                        try clear hfz32_0
                        try clear hfz32_1
                        try clear hfz32_2
                        try clear hfz40_0
                        try clear hfz40_1
                        try clear hfz40_2
                        try clear hfz48_0
                        try clear hfz48_1
                        try clear hfz48_2
                        try clear hfz51_0
                        try clear hfz51_1
                        try clear hfz51_2
                        try clear hfz56_0
                        try clear hfz56_1
                        try clear hfz56_2
                        try clear hfz59_0
                        try clear hfz59_1
                        try clear hfz59_2
                        try clear hfz75_0
                        try clear hfz75_1
                        try clear hfz75_2
                        try clear hfz7_0
                        try clear hfz7_1
                        try clear hfz7_2
                        try clear hfz83_0
                        try clear hfz83_1
                        try clear hfz83_2
                        try clear hfz86_0
                        try clear hfz86_1
                        try clear hfz86_2
                        try clear hfz91_0
                        try clear hfz91_1
                        try clear hfz91_2
                        try clear hfz94_0
                        try clear hfz94_1
                        try clear hfz94_2
                        try clear p2
                        obtain ⟨kq, x97_102, rfl, HA, HJ102, HO_432001, HO_432002, HO_440001, HO_440002, HO_449001, HO_449002, HO_482001, HO_482002, BK414, BK431, BK439, BK448, BK481, HB⟩ := hcut
                        have hl449001_102 := (Kd.R_reads' HO_449001.out).1
                        rw [hl449001_102] at HO_449001
                        (try simp only [hl449001_102])
                        (try simp only [hl449001_102] at BK414)
                        (try simp only [hl449001_102] at BK431)
                        (try simp only [hl449001_102] at BK439)
                        (try simp only [hl449001_102] at BK448)
                        (try simp only [hl449001_102] at BK481)
                        (try simp only [hl449001_102] at HO_432001)
                        (try simp only [hl449001_102] at HO_432002)
                        (try simp only [hl449001_102] at HO_440001)
                        (try simp only [hl449001_102] at HO_440002)
                        (try simp only [hl449001_102] at HO_449002)
                        (try simp only [hl449001_102] at HO_482001)
                        (try simp only [hl449001_102] at HO_482002)
                        have hl449002_102 := (Kd.R_reads' HO_449002.out).1
                        rw [hl449002_102] at HO_449002
                        (try simp only [hl449002_102])
                        (try simp only [hl449002_102] at BK414)
                        (try simp only [hl449002_102] at BK431)
                        (try simp only [hl449002_102] at BK439)
                        (try simp only [hl449002_102] at BK448)
                        (try simp only [hl449002_102] at BK481)
                        (try simp only [hl449002_102] at HO_432001)
                        (try simp only [hl449002_102] at HO_432002)
                        (try simp only [hl449002_102] at HO_440001)
                        (try simp only [hl449002_102] at HO_440002)
                        (try simp only [hl449002_102] at HO_449001)
                        (try simp only [hl449002_102] at HO_482001)
                        (try simp only [hl449002_102] at HO_482002)
                        cases kq with
                        | zero => exact absurd HA.out (by simp [laws_FnExactSetJam.j2])
                        | succ kj102 =>
                          have H := HA.out
                          clear HA
                          simp only [laws_FnExactSetJam.j2] at H
                          by_cases c148 : x97_102 = true
                          · subst c148
                            have H1 : (some false) = some r := by rw [if_pos rfl] at H; exact H
                            clear H
                            have H := H1
                            clear H1
                            exact absurd (Option.some.inj H) (by rw [hr_.out]; decide)
                          · replace c148 := Bool.eq_false_iff.mpr c148
                            subst c148
                            have H1 : ((laws_heldColumn.f kj102 t440 t463 t464 1).bind fun t483 => (if t483 < 0 then (some false) else (if t483 = t462 then (some true) else (some false)))) = some r := by rw [if_neg (show ¬ (false = true) by decide)] at H; exact H
                            clear H
                            have H := H1
                            clear H1
                            replace H := Option.bind_eq_some_iff.mp H
                            obtain ⟨t483, A1490, H⟩ := H
                            replace H : (if t483 < 0 then (some false) else (if t483 = t462 then (some true) else (some false))) = some r := H
                            have A149 := Aside0.mk A1490
                            clear A1490
                            by_cases c150 : t483 < 0
                            · rw [if_pos c150] at H
                              have c150b0 : decide (t483 < 0) = true := decide_eq_true c150
                              clear c150
                              exact absurd (Option.some.inj H) (by rw [hr_.out]; decide)
                            · rw [if_neg c150] at H
                              have c150b0 : decide (t483 < 0) = false := decide_eq_false c150
                              clear c150
                              by_cases c151 : t483 = t462
                              · rw [if_pos c151] at H
                                have c151b0 : (t483 == t462) = true := beq_iff_eq.mpr c151
                                have c151b1 : (t483 != t462) = false := bne_eq_false_iff_eq.mpr c151
                                clear c151
                                obtain rfl := Option.some.inj H
                                have hnb152 := NB448_414.out
                                have hnc152 := NB414_448.out
                                have hnb153 := NB448_431.out
                                have hnc153 := NB431_448.out
                                have hnb154 := NB448_439.out
                                have hnc154 := NB439_448.out
                                have hnb155 := NB448_481.out
                                have hnc155 := NB481_448.out
                                have hcz156_0 : wc.cell? ⟨gb448, 0, none⟩ = some (.int .i64 t440) := (blk_cell BK448.out 0).trans rfl
                                have hcz156_1 : wc.cell? ⟨gb448, 1, none⟩ = some (.slice Ao41 t463.length co41) := (blk_cell BK448.out 1).trans rfl
                                have hcz156_2 : wc.cell? ⟨gb448, 2, none⟩ = some (.slice Ao42 t464.length co42) := (blk_cell BK448.out 2).trans rfl
                                have hfz156_0 := blk_frozen BK448.out 0
                                have hfz156_1 := blk_frozen BK448.out 1
                                have hfz156_2 := blk_frozen BK448.out 2
                                go_wp2_with (first | ((with_reducible refine gate_callee (f := 26) rfl ?_); refine goesL_ (some 100) rfl rfl Try.func26 (by kernel_rfl) rfl #[.agg #[.int .i64 t440, .slice Ao41 t463.length co41, .slice Ao42 t464.length co42], .int .i64 1] rfl (by (try simp only [List.map_toArray, List.map_cons, List.map_nil]); first | done | rfl | (simp only [List.length_drop, List.length_take]; rfl)) ?_; (with_reducible refine (laws_heldColumn.calls kj102 t440 _ _ t463 _ _ t464 1 t483 _ ?side1 ?side2 ?side3 ?side4 A149.out).mono ?_); (case side1 => repeat (first | exact (Kd.R_reads' HO_449001.out).2.2 | (with_reducible refine Kd.C_alloc ?_ _) | (with_reducible refine Kd.C_drewN ?_ _) | (with_reducible refine Kd.C_drew ?_))); (case side2 => exact (Kd.R_reads' HO_449001.out).2.1); (case side3 => repeat (first | exact (Kd.R_reads' HO_449002.out).2.2 | (with_reducible refine Kd.C_alloc ?_ _) | (with_reducible refine Kd.C_drewN ?_ _) | (with_reducible refine Kd.C_drew ?_))); (case side4 => exact (Kd.R_reads' HO_449002.out).2.1); rintro e w157 ⟨rfl, hb⟩; refine ⟨_, rfl, ?_⟩; have n0_ := Aside0.mk (Kd.R_below (by (with_reducible repeat (first | apply Kd.R_alloc | apply Kd.R_drewN | apply Kd.R_drew)); exact HO_432001.out) hb); have n1_ := Aside0.mk (Kd.R_below (by (with_reducible repeat (first | apply Kd.R_alloc | apply Kd.R_drewN | apply Kd.R_drew)); exact HO_432002.out) hb); have n2_ := Aside0.mk (Kd.R_below (by (with_reducible repeat (first | apply Kd.R_alloc | apply Kd.R_drewN | apply Kd.R_drew)); exact HO_440001.out) hb); have n3_ := Aside0.mk (Kd.R_below (by (with_reducible repeat (first | apply Kd.R_alloc | apply Kd.R_drewN | apply Kd.R_drew)); exact HO_440002.out) hb); have n4_ := Aside0.mk (Kd.R_below (by (with_reducible repeat (first | apply Kd.R_alloc | apply Kd.R_drewN | apply Kd.R_drew)); exact HO_449001.out) hb); have n5_ := Aside0.mk (Kd.R_below (by (with_reducible repeat (first | apply Kd.R_alloc | apply Kd.R_drewN | apply Kd.R_drew)); exact HO_449002.out) hb); have n6_ := Aside0.mk (Kd.R_below (by (with_reducible repeat (first | apply Kd.R_alloc | apply Kd.R_drewN | apply Kd.R_drew)); exact HO_482001.out) hb); have n7_ := Aside0.mk (Kd.R_below (by (with_reducible repeat (first | apply Kd.R_alloc | apply Kd.R_drewN | apply Kd.R_drew)); exact HO_482002.out) hb); have n8_ := Aside0.mk (blk_below (g := gb414) (o := .cells #[.int .i64 a0_0, .slice A0_1 l0_1.length c0_1, .slice A0_2 l0_2.length c0_2] 25 (0, 0)) (by (with_reducible repeat (first | refine blk_drewN ?_ _ | refine blk_drew ?_ | refine blk_alloc ?_ _)); exact BK414.out) hb); have n9_ := Aside0.mk (blk_below (g := gb431) (o := .cells #[.int .i64 t423, .slice Ao25 t424.length co25, .slice Ao26 t427.length co26] 30 (0, 0)) (by (with_reducible repeat (first | refine blk_drewN ?_ _ | refine blk_drew ?_ | refine blk_alloc ?_ _)); exact BK431.out) hb); have n10_ := Aside0.mk (blk_below (g := gb439) (o := .cells #[.int .i64 t432, .slice Ao33 t459.length co33, .slice Ao34 t460.length co34] 30 (0, 0)) (by (with_reducible repeat (first | refine blk_drewN ?_ _ | refine blk_drew ?_ | refine blk_alloc ?_ _)); exact BK439.out) hb); have n11_ := Aside0.mk (blk_below (g := gb448) (o := .cells #[.int .i64 t440, .slice Ao41 t463.length co41, .slice Ao42 t464.length co42] 30 (0, 0)) (by (with_reducible repeat (first | refine blk_drewN ?_ _ | refine blk_drew ?_ | refine blk_alloc ?_ _)); exact BK448.out) hb); have n12_ := Aside0.mk (blk_below (g := gb481) (o := .cells #[.int .i64 t473, .slice Ao124 t474.length co124, .slice Ao125 t477.length co125] 30 (0, 0)) (by (with_reducible repeat (first | refine blk_drewN ?_ _ | refine blk_drew ?_ | refine blk_alloc ?_ _)); exact BK481.out) hb); have n13_ := Aside0.mk (below_step (by repeat (first | (with_reducible first | exact HB.out | apply below_alloc | apply pw_below_drewN | apply below_drew1 | refine below_set ?_ GE414.out | refine below_set ?_ GE431.out | refine below_set ?_ GE439.out | refine below_set ?_ GE448.out | refine below_set ?_ GE481.out) | exact HB.out)) hb); clear HO_432001; clear HO_432002; clear HO_440001; clear HO_440002; clear HO_449001; clear HO_449002; clear HO_482001; clear HO_482002; clear BK414; clear BK431; clear BK439; clear BK448; clear BK481; clear HB; have HO_432001 := n0_; have HO_432002 := n1_; have HO_440001 := n2_; have HO_440002 := n3_; have HO_449001 := n4_; have HO_449002 := n5_; have HO_482001 := n6_; have HO_482002 := n7_; have BK414 := n8_; have BK431 := n9_; have BK439 := n10_; have BK448 := n11_; have BK481 := n12_; have HB := n13_; clear n0_ n1_ n2_ n3_ n4_ n5_ n6_ n7_ n8_ n9_ n10_ n11_ n12_ n13_; (try clear hb); (try clear hb2); (try clear hk); (try clear hi)))
                                go_ret
                                exact ⟨by first | rfl | (simp [errW_none, errW_some] <;> rfl) | (simp [*, errW_none, errW_some] <;> rfl), by repeat (first | (with_reducible first | exact HB.out | apply below_alloc | apply pw_below_drewN | apply below_drew1 | refine below_set ?_ GE414.out | refine below_set ?_ GE431.out | refine below_set ?_ GE439.out | refine below_set ?_ GE448.out | refine below_set ?_ GE481.out) | exact HB.out)⟩
                              · rw [if_neg c151] at H
                                have c151b0 : (t483 == t462) = false := beq_eq_false_iff_ne.mpr c151
                                have c151b1 : (t483 != t462) = true := bne_iff_ne.mpr c151
                                exact absurd (Option.some.inj H) (by rw [hr_.out]; decide)
                    · rw [if_neg c100] at H
                      have c100b0 : (t465 == t462) = false := beq_eq_false_iff_ne.mpr c100
                      have c100b1 : (t465 != t462) = true := bne_iff_ne.mpr c100
                      exact absurd (Option.some.inj H) (by rw [hr_.out]; decide)
          · replace c64 := Bool.eq_false_iff.mpr c64
            subst c64
            have H1 : (some false) = some r := by rw [if_neg (show ¬ (false = true) by decide)] at H; exact H
            clear H
            have H := H1
            clear H1
            exact absurd (Option.some.inj H) (by rw [hr_.out]; decide)
end Go.Proofs.Ytghfeapncmlihaa.A
