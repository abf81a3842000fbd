/- What the proof of the law FnExactTakeOut uses: lemmas, the Lean functions of the Go functions that it reaches, their contracts, and the pure statement's proof. -/
import Derived.Test.YtghfeapncmlihaaZFnExactTakeOutx11
import Derived.Test.YtghfeapncmlihaaZFnExactTakeOutx12
import Derived.Test.YtghfeapncmlihaaZFnExactTakeOutx14
import Derived.Test.YtghfeapncmlihaaZFnExactTakeOutx18
namespace Go.Proofs.Ytghfeapncmlihaa.A
open Go.RowKit Go.Proofs.YtghfeapncmlihaaW.PrintWords Go.Proofs.YtghfeapncmlihaaW.PrintLast Go.Proofs.YtghfeapncmlihaaW.PrintMore
attribute [local go_sem] max2_int min2_int max_two min_two max_three min_three max_four min_four   
set_option linter.unusedVariables false
set_option linter.unusedSimpArgs false
mutual
def laws_FnExactTakeOut.j0 : Nat → Int → Bool → Bool → Bool → Int → List Int → List (S93) → Int → List Int → List (S71) → Int → List Int → List (S71) → Int → List Int → List (S71) → Option (Bool)
  | 0, _, _, _, _, _, _, _, _, _, _, _, _, _, _, _, _ => none
  | k + 1, x1, x7, x10, x44, x624000, x624001, x624002, x641000, x641001, x641002, x649000, x649001, x649002, x658000, x658001, x658002 => if x44 = true then (some false) else ((laws_toColumn.f k x624000 x624001 x624002).bind fun bt659 => ((laws_eqColumn.f k x649000 x649001 x649002 bt659.1 bt659.2.1 bt659.2.2).bind fun t666 => (if t666 = true then ((laws_markColumn.f k x649000 x649001 x649002 1).bind fun bt667 => (if bt667.1 < 0 then (laws_FnExactTakeOut.j1 k x1 x7 true x624000 x624001 x624002 x641000 x641001 x641002 x658000 x658001 x658002) else ((laws_eqColumn.f k x658000 x658001 x658002 x641000 x641001 x641002).bind fun t670 => (if t670 = true then (laws_FnExactTakeOut.j1 k x1 x7 (x10 != x7) x624000 x624001 x624002 x641000 x641001 x641002 x658000 x658001 x658002) else (laws_FnExactTakeOut.j1 k x1 x7 true x624000 x624001 x624002 x641000 x641001 x641002 x658000 x658001 x658002))))) else (some false))))
def laws_FnExactTakeOut.j1 : Nat → Int → Bool → Bool → Int → List Int → List (S93) → Int → List Int → List (S71) → Int → List Int → List (S71) → Option (Bool)
  | 0, _, _, _, _, _, _, _, _, _, _, _, _ => none
  | k + 1, x1, x7, x65, x624000, x624001, x624002, x641000, x641001, x641002, x658000, x658001, x658002 => if x65 = true then (some false) else ((laws_markColumn.f k x658000 x658001 x658002 1).bind fun bt671 => ((laws_heldColumn.f k x658000 bt671.2.1 bt671.2.2 1).bind fun t674 => (if t674 < 0 then (some false) else (if t674 = bt671.1 then ((laws_toColumn.f k x624000 x624001 x624002).bind fun bt675 => ((impl_TakeOut.f bt675.1 bt675.2.1 bt675.2.2 x1).bind fun bt682 => ((laws_eqColumn.f k bt682.1 bt682.2.1 bt682.2.2.1 x641000 x641001 x641002).bind fun t691 => (if t691 = true then (laws_FnExactTakeOut.j2 k bt671.1 (bt682.2.2.2 != x7) x658000 bt671.2.1 bt671.2.2) else (laws_FnExactTakeOut.j2 k bt671.1 true x658000 bt671.2.1 bt671.2.2))))) else (some false)))))
def laws_FnExactTakeOut.j2 : Nat → Int → Bool → Int → List Int → List (S71) → Option (Bool)
  | 0, _, _, _, _, _ => none
  | k + 1, x12, x92, x658000, x658001, x658002 => if x92 = true then (some false) else ((laws_heldColumn.f k x658000 x658001 x658002 1).bind fun t692 => (if t692 < 0 then (some false) else (if t692 = x12 then (some true) else (some false))))
end
def laws_FnExactTakeOut.f (k : Nat) (a0_0 : Int) (l0_1 : List Int) (l0_2 : List (S93)) (a1 : Int) : Option (Bool) := (laws_szColumn.f a0_0 l0_1 l0_2 1048576).bind fun t624 => (if t624 < 0 then (some true) else ((laws_toColumn.f k a0_0 l0_1 l0_2).bind fun bt625 => ((spec_TakeOut.f k bt625.1 bt625.2.1 bt625.2.2 a1).bind fun bt632 => ((laws_toColumn.f k a0_0 l0_1 l0_2).bind fun bt641 => ((impl_TakeOut.f bt641.1 bt641.2.1 bt641.2.2 a1).bind fun bt649 => ((laws_eqColumn.f k bt649.1 bt649.2.1 bt649.2.2.1 bt632.1 bt632.2.1 bt632.2.2.1).bind fun t658 => (if t658 = true then (laws_FnExactTakeOut.j0 k a1 bt632.2.2.2 bt649.2.2.2 (bt649.2.2.2 != bt632.2.2.2) a0_0 l0_1 l0_2 bt632.1 bt632.2.1 bt632.2.2.1 bt641.1 bt641.2.1 bt641.2.2 bt649.1 bt649.2.1 bt649.2.2.1) else (laws_FnExactTakeOut.j0 k a1 bt632.2.2.2 bt649.2.2.2 true a0_0 l0_1 l0_2 bt632.1 bt632.2.1 bt632.2.2.1 bt641.1 bt641.2.1 bt641.2.2 bt649.1 bt649.2.1 bt649.2.2.1))))))))
set_option maxHeartbeats 8000000 in
set_option maxRecDepth 100000 in
theorem laws_FnExactTakeOut.calls (k : Nat) (a0_0 : Int) (A0_1 : Option Addr) (c0_1 : Nat) (l0_1 : List Int) (A0_2 : Option Addr) (c0_2 : Nat) (l0_2 : List (S93)) (a1 : Int) (r : Bool) (w : World) (hr0_1 : Kd.C (Kd.int .i64) w A0_1 l0_1.length l0_1) (hc0_1 : l0_1.length ≤ c0_1) (hr0_2 : Kd.C k93 w A0_2 l0_2.length l0_2) (hc0_2 : l0_2.length ≤ c0_2) (hr_ : Aside0 (r = true)) (h : laws_FnExactTakeOut.f k a0_0 l0_1 l0_2 a1 = some r) :
    Calls Try.prog 9 #[.agg #[.int .i64 a0_0, .slice A0_1 l0_1.length c0_1, .slice A0_2 l0_2.length c0_2], .int .i64 a1] w fun e w' => e = .returned (.bool r) ∧ Below w.heap.size w w' := by
  have hu25 := Try.underlying25
  have hu30 := Try.underlying30
  have HR0_1 := Aside0.mk hr0_1
  have HC0_1 := Aside0.mk hc0_1
  clear hr0_1 hc0_1
  have HR0_2 := Aside0.mk hr0_2
  have HC0_2 := Aside0.mk hc0_2
  clear hr0_2 hc0_2
  have HB := Aside0.mk (Below.refl w.heap.size w)
  have H : ((laws_szColumn.f a0_0 l0_1 l0_2 1048576).bind fun t624 => (if t624 < 0 then (some true) else ((laws_toColumn.f k a0_0 l0_1 l0_2).bind fun bt625 => ((spec_TakeOut.f k bt625.1 bt625.2.1 bt625.2.2 a1).bind fun bt632 => ((laws_toColumn.f k a0_0 l0_1 l0_2).bind fun bt641 => ((impl_TakeOut.f bt641.1 bt641.2.1 bt641.2.2 a1).bind fun bt649 => ((laws_eqColumn.f k bt649.1 bt649.2.1 bt649.2.2.1 bt632.1 bt632.2.1 bt632.2.2.1).bind fun t658 => (if t658 = true then (laws_FnExactTakeOut.j0 k a1 bt632.2.2.2 bt649.2.2.2 (bt649.2.2.2 != bt632.2.2.2) a0_0 l0_1 l0_2 bt632.1 bt632.2.1 bt632.2.2.1 bt641.1 bt641.2.1 bt641.2.2 bt649.1 bt649.2.1 bt649.2.2.1) else (laws_FnExactTakeOut.j0 k a1 bt632.2.2.2 bt649.2.2.2 true a0_0 l0_1 l0_2 bt632.1 bt632.2.1 bt632.2.2.1 bt641.1 bt641.2.1 bt641.2.2 bt649.1 bt649.2.1 bt649.2.2.1))))))))) = some r := h
  clear h
  replace H := Option.bind_eq_some_iff.mp H
  obtain ⟨t624, A30, H⟩ := H
  replace H : (if t624 < 0 then (some true) else ((laws_toColumn.f k a0_0 l0_1 l0_2).bind fun bt625 => ((spec_TakeOut.f k bt625.1 bt625.2.1 bt625.2.2 a1).bind fun bt632 => ((laws_toColumn.f k a0_0 l0_1 l0_2).bind fun bt641 => ((impl_TakeOut.f bt641.1 bt641.2.1 bt641.2.2 a1).bind fun bt649 => ((laws_eqColumn.f k bt649.1 bt649.2.1 bt649.2.2.1 bt632.1 bt632.2.1 bt632.2.2.1).bind fun t658 => (if t658 = true then (laws_FnExactTakeOut.j0 k a1 bt632.2.2.2 bt649.2.2.2 (bt649.2.2.2 != bt632.2.2.2) a0_0 l0_1 l0_2 bt632.1 bt632.2.1 bt632.2.2.1 bt641.1 bt641.2.1 bt641.2.2 bt649.1 bt649.2.1 bt649.2.2.1) else (laws_FnExactTakeOut.j0 k a1 bt632.2.2.2 bt649.2.2.2 true a0_0 l0_1 l0_2 bt632.1 bt632.2.1 bt632.2.2.1 bt641.1 bt641.2.1 bt641.2.2 bt649.1 bt649.2.1 bt649.2.2.1)))))))) = some r := H
  have A3 := Aside0.mk A30
  clear A30
  by_cases c4 : t624 < 0
  · rw [if_pos c4] at H
    have c4b0 : decide (t624 < 0) = true := decide_eq_true c4
    clear c4
    obtain rfl := Option.some.inj H
    go_enter Try.func9, Try.ntmps9
    go_wp2_with (first | ((with_reducible refine gate_dst (N := 2) rfl ?_); refine box_event ?hg (N := 2) ?hd (cs := #[.int .i64 a0_0, .slice A0_1 l0_1.length c0_1, .slice A0_2 l0_2.length c0_2]) (t := 25) ?hr ?_; (case hd => rfl); (case hg => rfl); (case hr => first | (go_simp; done) | (go_simp; rfl)); intro gb623 hg w5 hbox hb; have n0_ := Aside0.mk (below_step (by repeat (first | (with_reducible first | exact HB.out | apply below_alloc | apply pw_below_drewN | apply below_drew1) | exact HB.out)) hb); have n1_ := Aside0.mk (hbox); have n2_ := Aside0.mk ((by rw [hg]; exact (below_size (by repeat (first | (with_reducible first | exact HB.out | apply below_alloc | apply pw_below_drewN | apply below_drew1) | exact HB.out))) : w.heap.size ≤ gb623)); have n3_ := Aside0.mk ((by rw [hg]; exact (below_size (by repeat (first | (with_reducible first | exact HB.out | apply below_alloc | apply pw_below_drewN | apply below_drew1) | exact HB.out))) : w.heap.size ≤ gb623)); clear HB; have HB := n0_; have BK623 := n1_; have GW623 := n2_; have GE623 := n3_; clear n0_ n1_ n2_ n3_; clear hb hbox hg; have hcz6_0 : w5.cell? ⟨gb623, 0, none⟩ = some (.int .i64 a0_0) := (blk_cell BK623.out 0).trans rfl; have hcz6_1 : w5.cell? ⟨gb623, 1, none⟩ = some (.slice A0_1 l0_1.length c0_1) := (blk_cell BK623.out 1).trans rfl; have hcz6_2 : w5.cell? ⟨gb623, 2, none⟩ = some (.slice A0_2 l0_2.length c0_2) := (blk_cell BK623.out 2).trans rfl; have hfz6_0 := blk_frozen BK623.out 0; have hfz6_1 := blk_frozen BK623.out 1; have hfz6_2 := blk_frozen BK623.out 2) | ((with_reducible refine gate_callee (f := 15) rfl ?_); refine goesL_ (some 18) rfl rfl Try.func15 (by kernel_rfl) rfl #[.agg #[.int .i64 a0_0, .slice A0_1 l0_1.length c0_1, .slice A0_2 l0_2.length c0_2], .int .i64 1048576] rfl (by (try simp only [List.map_toArray, List.map_cons, List.map_nil]); first | done | rfl | (simp only [List.length_drop, List.length_take]; rfl)) ?_; (with_reducible refine (laws_szColumn.calls a0_0 _ _ l0_1 _ _ l0_2 1048576 t624 _ ?side1 ?side2 ?side3 ?side4 A3.out).mono ?_); (case side1 => repeat (first | exact (Kd.C_below HR0_1.out HB.out) | (with_reducible refine Kd.C_alloc ?_ _) | (with_reducible refine Kd.C_drewN ?_ _) | (with_reducible refine Kd.C_drew ?_))); (case side2 => exact HC0_1.out); (case side3 => repeat (first | exact (Kd.C_below HR0_2.out HB.out) | (with_reducible refine Kd.C_alloc ?_ _) | (with_reducible refine Kd.C_drewN ?_ _) | (with_reducible refine Kd.C_drew ?_))); (case side4 => exact HC0_2.out); rintro e w7 ⟨rfl, hb⟩; refine ⟨_, rfl, ?_⟩; have n0_ := Aside0.mk (blk_below (g := gb623) (o := .cells #[.int .i64 a0_0, .slice A0_1 l0_1.length c0_1, .slice A0_2 l0_2.length c0_2] 25 (0, 0)) (by (with_reducible repeat (first | refine blk_drewN ?_ _ | refine blk_drew ?_ | refine blk_alloc ?_ _)); exact BK623.out) hb); have n1_ := Aside0.mk (below_step (by repeat (first | (with_reducible first | exact HB.out | apply below_alloc | apply pw_below_drewN | apply below_drew1 | refine below_set ?_ GE623.out) | exact HB.out)) hb); clear BK623; clear HB; have BK623 := n0_; have HB := n1_; clear n0_ n1_; (try clear hb); (try clear hb2); (try clear hk); (try clear hi)))
    go_ret
    exact ⟨by first | rfl | (simp [errW_none, errW_some] <;> rfl) | (simp [*, errW_none, errW_some] <;> rfl), by repeat (first | (with_reducible first | exact HB.out | apply below_alloc | apply pw_below_drewN | apply below_drew1 | refine below_set ?_ GE623.out) | exact HB.out)⟩
  · rw [if_neg c4] at H
    have c4b0 : decide (t624 < 0) = false := decide_eq_false c4
    clear c4
    replace H := Option.bind_eq_some_iff.mp H
    obtain ⟨⟨t625, t626, t629⟩, A80, H⟩ := H
    replace H : ((spec_TakeOut.f k t625 t626 t629 a1).bind fun bt632 => ((laws_toColumn.f k a0_0 l0_1 l0_2).bind fun bt641 => ((impl_TakeOut.f bt641.1 bt641.2.1 bt641.2.2 a1).bind fun bt649 => ((laws_eqColumn.f k bt649.1 bt649.2.1 bt649.2.2.1 bt632.1 bt632.2.1 bt632.2.2.1).bind fun t658 => (if t658 = true then (laws_FnExactTakeOut.j0 k a1 bt632.2.2.2 bt649.2.2.2 (bt649.2.2.2 != bt632.2.2.2) a0_0 l0_1 l0_2 bt632.1 bt632.2.1 bt632.2.2.1 bt641.1 bt641.2.1 bt641.2.2 bt649.1 bt649.2.1 bt649.2.2.1) else (laws_FnExactTakeOut.j0 k a1 bt632.2.2.2 bt649.2.2.2 true a0_0 l0_1 l0_2 bt632.1 bt632.2.1 bt632.2.2.1 bt641.1 bt641.2.1 bt641.2.2 bt649.1 bt649.2.1 bt649.2.2.1)))))) = some r := H
    have A8 := Aside0.mk A80
    clear A80
    replace H := Option.bind_eq_some_iff.mp H
    obtain ⟨⟨t632, t633, t636, t639⟩, A90, H⟩ := H
    replace H : ((laws_toColumn.f k a0_0 l0_1 l0_2).bind fun bt641 => ((impl_TakeOut.f bt641.1 bt641.2.1 bt641.2.2 a1).bind fun bt649 => ((laws_eqColumn.f k bt649.1 bt649.2.1 bt649.2.2.1 t632 t633 t636).bind fun t658 => (if t658 = true then (laws_FnExactTakeOut.j0 k a1 t639 bt649.2.2.2 (bt649.2.2.2 != t639) a0_0 l0_1 l0_2 t632 t633 t636 bt641.1 bt641.2.1 bt641.2.2 bt649.1 bt649.2.1 bt649.2.2.1) else (laws_FnExactTakeOut.j0 k a1 t639 bt649.2.2.2 true a0_0 l0_1 l0_2 t632 t633 t636 bt641.1 bt641.2.1 bt641.2.2 bt649.1 bt649.2.1 bt649.2.2.1))))) = some r := H
    have A9 := Aside0.mk A90
    clear A90
    replace H := Option.bind_eq_some_iff.mp H
    obtain ⟨⟨t641, t642, t645⟩, A100, H⟩ := H
    replace H : ((impl_TakeOut.f t641 t642 t645 a1).bind fun bt649 => ((laws_eqColumn.f k bt649.1 bt649.2.1 bt649.2.2.1 t632 t633 t636).bind fun t658 => (if t658 = true then (laws_FnExactTakeOut.j0 k a1 t639 bt649.2.2.2 (bt649.2.2.2 != t639) a0_0 l0_1 l0_2 t632 t633 t636 t641 t642 t645 bt649.1 bt649.2.1 bt649.2.2.1) else (laws_FnExactTakeOut.j0 k a1 t639 bt649.2.2.2 true a0_0 l0_1 l0_2 t632 t633 t636 t641 t642 t645 bt649.1 bt649.2.1 bt649.2.2.1)))) = some r := H
    have A10 := Aside0.mk A100
    clear A100
    replace H := Option.bind_eq_some_iff.mp H
    obtain ⟨⟨t649, t650, t653, t656⟩, A110, H⟩ := H
    replace H : ((laws_eqColumn.f k t649 t650 t653 t632 t633 t636).bind fun t658 => (if t658 = true then (laws_FnExactTakeOut.j0 k a1 t639 t656 (t656 != t639) a0_0 l0_1 l0_2 t632 t633 t636 t641 t642 t645 t649 t650 t653) else (laws_FnExactTakeOut.j0 k a1 t639 t656 true a0_0 l0_1 l0_2 t632 t633 t636 t641 t642 t645 t649 t650 t653))) = some r := H
    have A11 := Aside0.mk A110
    clear A110
    have HC12 := Aside0.mk H
    clear H
    go_enter Try.func9, Try.ntmps9
    go_upto_region 8 with (first | ((with_reducible refine gate_dst (N := 2) rfl ?_); refine box_event ?hg (N := 2) ?hd (cs := #[.int .i64 a0_0, .slice A0_1 l0_1.length c0_1, .slice A0_2 l0_2.length c0_2]) (t := 25) ?hr ?_; (case hd => rfl); (case hg => rfl); (case hr => first | (go_simp; done) | (go_simp; rfl)); intro gb623 hg w13 hbox hb; have n0_ := Aside0.mk (below_step (by repeat (first | (with_reducible first | exact HB.out | apply below_alloc | apply pw_below_drewN | apply below_drew1) | exact HB.out)) hb); have n1_ := Aside0.mk (hbox); have n2_ := Aside0.mk ((by rw [hg]; exact (below_size (by repeat (first | (with_reducible first | exact HB.out | apply below_alloc | apply pw_below_drewN | apply below_drew1) | exact HB.out))) : w.heap.size ≤ gb623)); have n3_ := Aside0.mk ((by rw [hg]; exact (below_size (by repeat (first | (with_reducible first | exact HB.out | apply below_alloc | apply pw_below_drewN | apply below_drew1) | exact HB.out))) : w.heap.size ≤ gb623)); clear HB; have HB := n0_; have BK623 := n1_; have GW623 := n2_; have GE623 := n3_; clear n0_ n1_ n2_ n3_; clear hb hbox hg; have hcz14_0 : w13.cell? ⟨gb623, 0, none⟩ = some (.int .i64 a0_0) := (blk_cell BK623.out 0).trans rfl; have hcz14_1 : w13.cell? ⟨gb623, 1, none⟩ = some (.slice A0_1 l0_1.length c0_1) := (blk_cell BK623.out 1).trans rfl; have hcz14_2 : w13.cell? ⟨gb623, 2, none⟩ = some (.slice A0_2 l0_2.length c0_2) := (blk_cell BK623.out 2).trans rfl; have hfz14_0 := blk_frozen BK623.out 0; have hfz14_1 := blk_frozen BK623.out 1; have hfz14_2 := blk_frozen BK623.out 2) | ((with_reducible refine gate_callee (f := 15) rfl ?_); refine goesL_ (some 18) rfl rfl Try.func15 (by kernel_rfl) rfl #[.agg #[.int .i64 a0_0, .slice A0_1 l0_1.length c0_1, .slice A0_2 l0_2.length c0_2], .int .i64 1048576] rfl (by (try simp only [List.map_toArray, List.map_cons, List.map_nil]); first | done | rfl | (simp only [List.length_drop, List.length_take]; rfl)) ?_; (with_reducible refine (laws_szColumn.calls a0_0 _ _ l0_1 _ _ l0_2 1048576 t624 _ ?side1 ?side2 ?side3 ?side4 A3.out).mono ?_); (case side1 => repeat (first | exact (Kd.C_below HR0_1.out HB.out) | (with_reducible refine Kd.C_alloc ?_ _) | (with_reducible refine Kd.C_drewN ?_ _) | (with_reducible refine Kd.C_drew ?_))); (case side2 => exact HC0_1.out); (case side3 => repeat (first | exact (Kd.C_below HR0_2.out HB.out) | (with_reducible refine Kd.C_alloc ?_ _) | (with_reducible refine Kd.C_drewN ?_ _) | (with_reducible refine Kd.C_drew ?_))); (case side4 => exact HC0_2.out); rintro e w15 ⟨rfl, hb⟩; refine ⟨_, rfl, ?_⟩; have n0_ := Aside0.mk (blk_below (g := gb623) (o := .cells #[.int .i64 a0_0, .slice A0_1 l0_1.length c0_1, .slice A0_2 l0_2.length c0_2] 25 (0, 0)) (by (with_reducible repeat (first | refine blk_drewN ?_ _ | refine blk_drew ?_ | refine blk_alloc ?_ _)); exact BK623.out) hb); have n1_ := Aside0.mk (below_step (by repeat (first | (with_reducible first | exact HB.out | apply below_alloc | apply pw_below_drewN | apply below_drew1 | refine below_set ?_ GE623.out) | exact HB.out)) hb); clear BK623; clear HB; have BK623 := n0_; have HB := n1_; clear n0_ n1_; (try clear hb); (try clear hb2); (try clear hk); (try clear hi); have hcz16_0 : w15.cell? ⟨gb623, 0, none⟩ = some (.int .i64 a0_0) := (blk_cell BK623.out 0).trans rfl; have hcz16_1 : w15.cell? ⟨gb623, 1, none⟩ = some (.slice A0_1 l0_1.length c0_1) := (blk_cell BK623.out 1).trans rfl; have hcz16_2 : w15.cell? ⟨gb623, 2, none⟩ = some (.slice A0_2 l0_2.length c0_2) := (blk_cell BK623.out 2).trans rfl; have hfz16_0 := blk_frozen BK623.out 0; have hfz16_1 := blk_frozen BK623.out 1; have hfz16_2 := blk_frozen BK623.out 2) | ((with_reducible refine gate_callee (f := 17) rfl ?_); refine goesL_ (some 23) rfl rfl Try.func17 (by kernel_rfl) rfl #[.agg #[.int .i64 a0_0, .slice A0_1 l0_1.length c0_1, .slice A0_2 l0_2.length c0_2]] rfl (by (try simp only [List.map_toArray, List.map_cons, List.map_nil]); first | done | rfl | (simp only [List.length_drop, List.length_take]; rfl)) ?_; (with_reducible refine (laws_toColumn.calls k a0_0 _ _ l0_1 _ _ l0_2 t625 t626 t629 _ ?side1 ?side2 ?side3 ?side4 A8.out).mono ?_); (case side1 => repeat (first | exact (Kd.C_below HR0_1.out HB.out) | (with_reducible refine Kd.C_alloc ?_ _) | (with_reducible refine Kd.C_drewN ?_ _) | (with_reducible refine Kd.C_drew ?_))); (case side2 => exact HC0_1.out); (case side3 => repeat (first | exact (Kd.C_below HR0_2.out HB.out) | (with_reducible refine Kd.C_alloc ?_ _) | (with_reducible refine Kd.C_drewN ?_ _) | (with_reducible refine Kd.C_drew ?_))); (case side4 => exact HC0_2.out); rintro e w17 ⟨v627, v630, rfl, ho0, ho1, hb⟩; refine ⟨_, rfl, ?_⟩; have n0_ := Aside0.mk (Kd.R_lower ho0 (below_size (by repeat (first | (with_reducible first | exact HB.out | apply below_alloc | apply pw_below_drewN | apply below_drew1 | refine below_set ?_ GE623.out) | exact HB.out)))); have n1_ := Aside0.mk (Kd.R_lower ho1 (below_size (by repeat (first | (with_reducible first | exact HB.out | apply below_alloc | apply pw_below_drewN | apply below_drew1 | refine below_set ?_ GE623.out) | exact HB.out)))); have n2_ := Aside0.mk (blk_below (g := gb623) (o := .cells #[.int .i64 a0_0, .slice A0_1 l0_1.length c0_1, .slice A0_2 l0_2.length c0_2] 25 (0, 0)) (by (with_reducible repeat (first | refine blk_drewN ?_ _ | refine blk_drew ?_ | refine blk_alloc ?_ _)); exact BK623.out) hb); have n3_ := Aside0.mk (below_step (by repeat (first | (with_reducible first | exact HB.out | apply below_alloc | apply pw_below_drewN | apply below_drew1 | refine below_set ?_ GE623.out) | exact HB.out)) hb); clear BK623; clear HB; have HO628 := n0_; have HO631 := n1_; have BK623 := n2_; have HB := n3_; clear n0_ n1_ n2_ n3_; (try clear hb); (try clear hb2); (try clear hk); (try clear hi); (try clear ho0); (try clear ho1); obtain ⟨Ao18, co18, eo18⟩ := Kd.R_slice HO628.out; subst eo18; obtain ⟨Ao19, co19, eo19⟩ := Kd.R_slice HO631.out; subst eo19) | ((with_reducible refine gate_callee (f := 39) rfl ?_); refine goesL_ (some 25) rfl rfl Try.func39 (by kernel_rfl) rfl #[.agg #[.int .i64 t625, .slice Ao18 t626.length co18, .slice Ao19 t629.length co19], .int .i64 a1] rfl (by (try simp only [List.map_toArray, List.map_cons, List.map_nil]); first | done | rfl | (simp only [List.length_drop, List.length_take]; rfl)) ?_; (with_reducible refine (spec_TakeOut.calls k t625 _ _ t626 _ _ t629 a1 t632 t633 t636 t639 _ ?side1 ?side2 ?side3 ?side4 A9.out).mono ?_); (case side1 => repeat (first | exact (Kd.R_reads' HO628.out).2.2 | (with_reducible refine Kd.C_alloc ?_ _) | (with_reducible refine Kd.C_drewN ?_ _) | (with_reducible refine Kd.C_drew ?_))); (case side2 => exact (Kd.R_reads' HO628.out).2.1); (case side3 => repeat (first | exact (Kd.R_reads' HO631.out).2.2 | (with_reducible refine Kd.C_alloc ?_ _) | (with_reducible refine Kd.C_drewN ?_ _) | (with_reducible refine Kd.C_drew ?_))); (case side4 => exact (Kd.R_reads' HO631.out).2.1); rintro e w20 ⟨v634, v637, rfl, ho0, ho1, hb⟩; refine ⟨_, rfl, ?_⟩; have n0_ := Aside0.mk (Kd.R_elder' (by (with_reducible repeat (first | apply Kd.R_alloc | apply Kd.R_drewN | apply Kd.R_drew)); exact HO628.out) (Kd.R_base ho0) hb); have n1_ := Aside0.mk (Kd.R_elder' (by (with_reducible repeat (first | apply Kd.R_alloc | apply Kd.R_drewN | apply Kd.R_drew)); exact HO631.out) (Kd.R_base ho1) hb); have n2_ := Aside0.mk (Kd.R_lower (Kd.R_new' ho0 (Kd.R_lt (by (with_reducible repeat (first | apply Kd.R_alloc | apply Kd.R_drewN | apply Kd.R_drew)); exact HO628.out))) (below_size (by repeat (first | (with_reducible first | exact HB.out | apply below_alloc | apply pw_below_drewN | apply below_drew1 | refine below_set ?_ GE623.out) | exact HB.out)))); have n3_ := Aside0.mk (Kd.R_lower (Kd.R_new' ho1 (Kd.R_lt (by (with_reducible repeat (first | apply Kd.R_alloc | apply Kd.R_drewN | apply Kd.R_drew)); exact HO631.out))) (below_size (by repeat (first | (with_reducible first | exact HB.out | apply below_alloc | apply pw_below_drewN | apply below_drew1 | refine below_set ?_ GE623.out) | exact HB.out)))); have n4_ := Aside0.mk (blk_below (g := gb623) (o := .cells #[.int .i64 a0_0, .slice A0_1 l0_1.length c0_1, .slice A0_2 l0_2.length c0_2] 25 (0, 0)) (by (with_reducible repeat (first | refine blk_drewN ?_ _ | refine blk_drew ?_ | refine blk_alloc ?_ _)); exact BK623.out) hb); have n5_ := Aside0.mk (below_step (by repeat (first | (with_reducible first | exact HB.out | apply below_alloc | apply pw_below_drewN | apply below_drew1 | refine below_set ?_ GE623.out) | exact HB.out)) hb); clear HO628; clear HO631; clear BK623; clear HB; have HO628 := n0_; have HO631 := n1_; have HO635 := n2_; have HO638 := n3_; have BK623 := n4_; have HB := n5_; clear n0_ n1_ n2_ n3_ n4_ n5_; (try clear hb); (try clear hb2); (try clear hk); (try clear hi); (try clear ho0); (try clear ho1)) | ((with_reducible refine gate_dst (N := 6) rfl ?_); refine box_event ?hg (N := 6) ?hd (cs := #[.int .i64 0, .slice none 0 0, .slice none 0 0]) (t := 30) ?hr ?_; (case hd => rfl); (case hg => rfl); (case hr => first | (go_simp; done) | (go_simp; rfl)); intro gb640 hg w21 hbox hb; have n0_ := Aside0.mk (Kd.R_below (by (with_reducible repeat (first | apply Kd.R_alloc | apply Kd.R_drewN | apply Kd.R_drew)); exact HO628.out) hb); have n1_ := Aside0.mk (Kd.R_below (by (with_reducible repeat (first | apply Kd.R_alloc | apply Kd.R_drewN | apply Kd.R_drew)); exact HO631.out) hb); have n2_ := Aside0.mk (Kd.R_below (by (with_reducible repeat (first | apply Kd.R_alloc | apply Kd.R_drewN | apply Kd.R_drew)); exact HO635.out) hb); have n3_ := Aside0.mk (Kd.R_below (by (with_reducible repeat (first | apply Kd.R_alloc | apply Kd.R_drewN | apply Kd.R_drew)); exact HO638.out) hb); have n4_ := Aside0.mk (blk_below (g := gb623) (o := .cells #[.int .i64 a0_0, .slice A0_1 l0_1.length c0_1, .slice A0_2 l0_2.length c0_2] 25 (0, 0)) (by (with_reducible repeat (first | refine blk_drewN ?_ _ | refine blk_drew ?_ | refine blk_alloc ?_ _)); exact BK623.out) hb); have n5_ := Aside0.mk (below_step (by repeat (first | (with_reducible first | exact HB.out | apply below_alloc | apply pw_below_drewN | apply below_drew1 | refine below_set ?_ GE623.out) | exact HB.out)) hb); have n6_ := Aside0.mk (hbox); have n7_ := Aside0.mk ((by rw [hg]; exact (below_size (by repeat (first | (with_reducible first | exact HB.out | apply below_alloc | apply pw_below_drewN | apply below_drew1 | refine below_set ?_ GE623.out) | exact HB.out))) : w.heap.size ≤ gb640)); have n8_ := Aside0.mk ((by rw [hg]; exact (below_size (by repeat (first | (with_reducible first | exact HB.out | apply below_alloc | apply pw_below_drewN | apply below_drew1 | refine below_set ?_ GE623.out) | exact HB.out))) : w.heap.size ≤ gb640)); have n9_ := Aside0.mk ((by rw [hg]; exact Nat.ne_of_lt (blk_lt (g := gb623) (o := .cells #[.int .i64 a0_0, .slice A0_1 l0_1.length c0_1, .slice A0_2 l0_2.length c0_2] 25 (0, 0)) (by (with_reducible repeat (first | refine blk_drewN ?_ _ | refine blk_drew ?_ | refine blk_alloc ?_ _)); exact BK623.out)) : gb623 ≠ gb640)); have n10_ := Aside0.mk ((by rw [hg]; exact Nat.ne_of_gt (blk_lt (g := gb623) (o := .cells #[.int .i64 a0_0, .slice A0_1 l0_1.length c0_1, .slice A0_2 l0_2.length c0_2] 25 (0, 0)) (by (with_reducible repeat (first | refine blk_drewN ?_ _ | refine blk_drew ?_ | refine blk_alloc ?_ _)); exact BK623.out)) : gb640 ≠ gb623)); clear HO628; clear HO631; clear HO635; clear HO638; clear BK623; clear HB; have HO628 := n0_; have HO631 := n1_; have HO635 := n2_; have HO638 := n3_; have BK623 := n4_; have HB := n5_; have BK640 := n6_; have GW640 := n7_; have GE640 := n8_; have NB623_640 := n9_; have NB640_623 := n10_; clear n0_ n1_ n2_ n3_ n4_ n5_ n6_ n7_ n8_ n9_ n10_; clear hb hbox hg; have hnb22 := NB640_623.out; have hnc22 := NB623_640.out; have hcz23_0 : w21.cell? ⟨gb640, 0, none⟩ = some (.int .i64 0) := (blk_cell BK640.out 0).trans rfl; have hcz23_1 : w21.cell? ⟨gb640, 1, none⟩ = some (.slice none 0 0) := (blk_cell BK640.out 1).trans rfl; have hcz23_2 : w21.cell? ⟨gb640, 2, none⟩ = some (.slice none 0 0) := (blk_cell BK640.out 2).trans rfl; have hfz23_0 := blk_frozen BK640.out 0; have hfz23_1 := blk_frozen BK640.out 1; have hfz23_2 := blk_frozen BK640.out 2; obtain ⟨Ao24, co24, eo24⟩ := Kd.R_slice HO635.out; subst eo24; obtain ⟨Ao25, co25, eo25⟩ := Kd.R_slice HO638.out; subst eo25; have hcz26_0 : w21.cell? ⟨gb623, 0, none⟩ = some (.int .i64 a0_0) := (blk_cell BK623.out 0).trans rfl; have hcz26_1 : w21.cell? ⟨gb623, 1, none⟩ = some (.slice A0_1 l0_1.length c0_1) := (blk_cell BK623.out 1).trans rfl; have hcz26_2 : w21.cell? ⟨gb623, 2, none⟩ = some (.slice A0_2 l0_2.length c0_2) := (blk_cell BK623.out 2).trans rfl; have hfz26_0 := blk_frozen BK623.out 0; have hfz26_1 := blk_frozen BK623.out 1; have hfz26_2 := blk_frozen BK623.out 2) | ((with_reducible refine gate_callee (f := 17) rfl ?_); refine goesL_ (some 29) rfl rfl Try.func17 (by kernel_rfl) rfl #[.agg #[.int .i64 a0_0, .slice A0_1 l0_1.length c0_1, .slice A0_2 l0_2.length c0_2]] rfl (by (try simp only [List.map_toArray, List.map_cons, List.map_nil]); first | done | rfl | (simp only [List.length_drop, List.length_take]; rfl)) ?_; (with_reducible refine (laws_toColumn.calls k a0_0 _ _ l0_1 _ _ l0_2 t641 t642 t645 _ ?side1 ?side2 ?side3 ?side4 A10.out).mono ?_); (case side1 => exact Kd.C_below HR0_1.out (by repeat (first | (with_reducible first | exact HB.out | apply below_alloc | apply pw_below_drewN | apply below_drew1 | refine below_set ?_ GE623.out | refine below_set ?_ GE640.out) | exact HB.out))); (case side2 => exact HC0_1.out); (case side3 => exact Kd.C_below HR0_2.out (by repeat (first | (with_reducible first | exact HB.out | apply below_alloc | apply pw_below_drewN | apply below_drew1 | refine below_set ?_ GE623.out | refine below_set ?_ GE640.out) | exact HB.out))); (case side4 => exact HC0_2.out); rintro e w27 ⟨v643, v646, rfl, ho0, ho1, hb⟩; refine ⟨_, rfl, ?_⟩; have n0_ := Aside0.mk (Kd.R_elder' (by (with_reducible repeat (first | apply Kd.R_alloc | apply Kd.R_drewN | apply Kd.R_drew)); exact (Kd.R_mono (Kd.R_far (p := ⟨gb640, 2, none⟩) (Kd.R_far (p := ⟨gb640, 1, none⟩) (Kd.R_far (p := ⟨gb640, 0, none⟩) (Kd.R_types HO628.out BK640.out (by decide)) (fun _ hk => hk.2) (.int .i64 t632)) (fun _ hk => hk.2) (.slice Ao24 t633.length co24)) (fun _ hk => hk.2) (.slice Ao25 t636.length co25)) (fun _ h_ => h_.1))) (Kd.R_base ho0) hb); have n1_ := Aside0.mk (Kd.R_elder' (by (with_reducible repeat (first | apply Kd.R_alloc | apply Kd.R_drewN | apply Kd.R_drew)); exact (Kd.R_mono (Kd.R_far (p := ⟨gb640, 2, none⟩) (Kd.R_far (p := ⟨gb640, 1, none⟩) (Kd.R_far (p := ⟨gb640, 0, none⟩) (Kd.R_types HO631.out BK640.out (by decide)) (fun _ hk => hk.2) (.int .i64 t632)) (fun _ hk => hk.2) (.slice Ao24 t633.length co24)) (fun _ hk => hk.2) (.slice Ao25 t636.length co25)) (fun _ h_ => h_.1))) (Kd.R_base ho1) hb); have n2_ := Aside0.mk (Kd.R_elder' (by (with_reducible repeat (first | apply Kd.R_alloc | apply Kd.R_drewN | apply Kd.R_drew)); exact (Kd.R_mono (Kd.R_far (p := ⟨gb640, 2, none⟩) (Kd.R_far (p := ⟨gb640, 1, none⟩) (Kd.R_far (p := ⟨gb640, 0, none⟩) (Kd.R_types HO635.out BK640.out (by decide)) (fun _ hk => hk.2) (.int .i64 t632)) (fun _ hk => hk.2) (.slice Ao24 t633.length co24)) (fun _ hk => hk.2) (.slice Ao25 t636.length co25)) (fun _ h_ => h_.1))) (Kd.R_base ho0) hb); have n3_ := Aside0.mk (Kd.R_elder' (by (with_reducible repeat (first | apply Kd.R_alloc | apply Kd.R_drewN | apply Kd.R_drew)); exact (Kd.R_mono (Kd.R_far (p := ⟨gb640, 2, none⟩) (Kd.R_far (p := ⟨gb640, 1, none⟩) (Kd.R_far (p := ⟨gb640, 0, none⟩) (Kd.R_types HO638.out BK640.out (by decide)) (fun _ hk => hk.2) (.int .i64 t632)) (fun _ hk => hk.2) (.slice Ao24 t633.length co24)) (fun _ hk => hk.2) (.slice Ao25 t636.length co25)) (fun _ h_ => h_.1))) (Kd.R_base ho1) hb); have n4_ := Aside0.mk (Kd.R_lower (Kd.R_new' (Kd.R_new' ho0 (Kd.R_lt (by (with_reducible repeat (first | apply Kd.R_alloc | apply Kd.R_drewN | apply Kd.R_drew)); exact (Kd.R_mono (Kd.R_far (p := ⟨gb640, 2, none⟩) (Kd.R_far (p := ⟨gb640, 1, none⟩) (Kd.R_far (p := ⟨gb640, 0, none⟩) (Kd.R_types HO628.out BK640.out (by decide)) (fun _ hk => hk.2) (.int .i64 t632)) (fun _ hk => hk.2) (.slice Ao24 t633.length co24)) (fun _ hk => hk.2) (.slice Ao25 t636.length co25)) (fun _ h_ => h_.1))))) (Kd.R_lt (by (with_reducible repeat (first | apply Kd.R_alloc | apply Kd.R_drewN | apply Kd.R_drew)); exact (Kd.R_mono (Kd.R_far (p := ⟨gb640, 2, none⟩) (Kd.R_far (p := ⟨gb640, 1, none⟩) (Kd.R_far (p := ⟨gb640, 0, none⟩) (Kd.R_types HO635.out BK640.out (by decide)) (fun _ hk => hk.2) (.int .i64 t632)) (fun _ hk => hk.2) (.slice Ao24 t633.length co24)) (fun _ hk => hk.2) (.slice Ao25 t636.length co25)) (fun _ h_ => h_.1))))) (below_size (by repeat (first | (with_reducible first | exact HB.out | apply below_alloc | apply pw_below_drewN | apply below_drew1 | refine below_set ?_ GE623.out | refine below_set ?_ GE640.out) | exact HB.out)))); have n5_ := Aside0.mk (Kd.R_lower (Kd.R_new' (Kd.R_new' ho1 (Kd.R_lt (by (with_reducible repeat (first | apply Kd.R_alloc | apply Kd.R_drewN | apply Kd.R_drew)); exact (Kd.R_mono (Kd.R_far (p := ⟨gb640, 2, none⟩) (Kd.R_far (p := ⟨gb640, 1, none⟩) (Kd.R_far (p := ⟨gb640, 0, none⟩) (Kd.R_types HO631.out BK640.out (by decide)) (fun _ hk => hk.2) (.int .i64 t632)) (fun _ hk => hk.2) (.slice Ao24 t633.length co24)) (fun _ hk => hk.2) (.slice Ao25 t636.length co25)) (fun _ h_ => h_.1))))) (Kd.R_lt (by (with_reducible repeat (first | apply Kd.R_alloc | apply Kd.R_drewN | apply Kd.R_drew)); exact (Kd.R_mono (Kd.R_far (p := ⟨gb640, 2, none⟩) (Kd.R_far (p := ⟨gb640, 1, none⟩) (Kd.R_far (p := ⟨gb640, 0, none⟩) (Kd.R_types HO638.out BK640.out (by decide)) (fun _ hk => hk.2) (.int .i64 t632)) (fun _ hk => hk.2) (.slice Ao24 t633.length co24)) (fun _ hk => hk.2) (.slice Ao25 t636.length co25)) (fun _ h_ => h_.1))))) (below_size (by repeat (first | (with_reducible first | exact HB.out | apply below_alloc | apply pw_below_drewN | apply below_drew1 | refine below_set ?_ GE623.out | refine below_set ?_ GE640.out) | exact HB.out)))); have n6_ := Aside0.mk (blk_below (g := gb623) (o := .cells #[.int .i64 a0_0, .slice A0_1 l0_1.length c0_1, .slice A0_2 l0_2.length c0_2] 25 (0, 0)) (by (with_reducible repeat (first | refine blk_drewN ?_ _ | refine blk_drew ?_ | refine blk_alloc ?_ _)); refine blk_far ?_ NB623_640.out _; (with_reducible repeat (first | refine blk_drewN ?_ _ | refine blk_drew ?_ | refine blk_alloc ?_ _)); refine blk_far ?_ NB623_640.out _; (with_reducible repeat (first | refine blk_drewN ?_ _ | refine blk_drew ?_ | refine blk_alloc ?_ _)); refine blk_far ?_ NB623_640.out _; (with_reducible repeat (first | refine blk_drewN ?_ _ | refine blk_drew ?_ | refine blk_alloc ?_ _)); exact BK623.out) hb); have n7_ := Aside0.mk (blk_below (g := gb640) (o := .cells #[.int .i64 t632, .slice Ao24 t633.length co24, .slice Ao25 t636.length co25] 30 (0, 0)) (by (with_reducible repeat (first | refine blk_drewN ?_ _ | refine blk_drew ?_ | refine blk_alloc ?_ _)); refine blk_put (cs := #[.int .i64 t632, .slice Ao24 t633.length co24, .slice none 0 0]) ?_ 2 _ rfl; (with_reducible repeat (first | refine blk_drewN ?_ _ | refine blk_drew ?_ | refine blk_alloc ?_ _)); refine blk_put (cs := #[.int .i64 t632, .slice none 0 0, .slice none 0 0]) ?_ 1 _ rfl; (with_reducible repeat (first | refine blk_drewN ?_ _ | refine blk_drew ?_ | refine blk_alloc ?_ _)); refine blk_put (cs := #[.int .i64 0, .slice none 0 0, .slice none 0 0]) ?_ 0 _ rfl; (with_reducible repeat (first | refine blk_drewN ?_ _ | refine blk_drew ?_ | refine blk_alloc ?_ _)); exact BK640.out) hb); have n8_ := Aside0.mk (below_step (by repeat (first | (with_reducible first | exact HB.out | apply below_alloc | apply pw_below_drewN | apply below_drew1 | refine below_set ?_ GE623.out | refine below_set ?_ GE640.out) | exact HB.out)) hb); clear HO628; clear HO631; clear HO635; clear HO638; clear BK623; clear BK640; clear HB; have HO628 := n0_; have HO631 := n1_; have HO635 := n2_; have HO638 := n3_; have HO644 := n4_; have HO647 := n5_; have BK623 := n6_; have BK640 := n7_; have HB := n8_; clear n0_ n1_ n2_ n3_ n4_ n5_ n6_ n7_ n8_; (try clear hb); (try clear hb2); (try clear hk); (try clear hi); (try clear ho0); (try clear ho1)) | ((with_reducible refine gate_dst (N := 8) rfl ?_); refine box_event ?hg (N := 8) ?hd (cs := #[.int .i64 0, .slice none 0 0, .slice none 0 0]) (t := 30) ?hr ?_; (case hd => rfl); (case hg => rfl); (case hr => first | (go_simp; done) | (go_simp; rfl)); intro gb648 hg w28 hbox hb; have n0_ := Aside0.mk (Kd.R_below (by (with_reducible repeat (first | apply Kd.R_alloc | apply Kd.R_drewN | apply Kd.R_drew)); exact HO628.out) hb); have n1_ := Aside0.mk (Kd.R_below (by (with_reducible repeat (first | apply Kd.R_alloc | apply Kd.R_drewN | apply Kd.R_drew)); exact HO631.out) hb); have n2_ := Aside0.mk (Kd.R_below (by (with_reducible repeat (first | apply Kd.R_alloc | apply Kd.R_drewN | apply Kd.R_drew)); exact HO635.out) hb); have n3_ := Aside0.mk (Kd.R_below (by (with_reducible repeat (first | apply Kd.R_alloc | apply Kd.R_drewN | apply Kd.R_drew)); exact HO638.out) hb); have n4_ := Aside0.mk (Kd.R_below (by (with_reducible repeat (first | apply Kd.R_alloc | apply Kd.R_drewN | apply Kd.R_drew)); exact HO644.out) hb); have n5_ := Aside0.mk (Kd.R_below (by (with_reducible repeat (first | apply Kd.R_alloc | apply Kd.R_drewN | apply Kd.R_drew)); exact HO647.out) hb); have n6_ := Aside0.mk (blk_below (g := gb623) (o := .cells #[.int .i64 a0_0, .slice A0_1 l0_1.length c0_1, .slice A0_2 l0_2.length c0_2] 25 (0, 0)) (by (with_reducible repeat (first | refine blk_drewN ?_ _ | refine blk_drew ?_ | refine blk_alloc ?_ _)); exact BK623.out) hb); have n7_ := Aside0.mk (blk_below (g := gb640) (o := .cells #[.int .i64 t632, .slice Ao24 t633.length co24, .slice Ao25 t636.length co25] 30 (0, 0)) (by (with_reducible repeat (first | refine blk_drewN ?_ _ | refine blk_drew ?_ | refine blk_alloc ?_ _)); exact BK640.out) hb); have n8_ := Aside0.mk (below_step (by repeat (first | (with_reducible first | exact HB.out | apply below_alloc | apply pw_below_drewN | apply below_drew1 | refine below_set ?_ GE623.out | refine below_set ?_ GE640.out) | exact HB.out)) hb); have n9_ := Aside0.mk (hbox); have n10_ := Aside0.mk ((by rw [hg]; exact (below_size (by repeat (first | (with_reducible first | exact HB.out | apply below_alloc | apply pw_below_drewN | apply below_drew1 | refine below_set ?_ GE623.out | refine below_set ?_ GE640.out) | exact HB.out))) : w.heap.size ≤ gb648)); have n11_ := Aside0.mk ((by rw [hg]; exact (below_size (by repeat (first | (with_reducible first | exact HB.out | apply below_alloc | apply pw_below_drewN | apply below_drew1 | refine below_set ?_ GE623.out | refine below_set ?_ GE640.out) | exact HB.out))) : w.heap.size ≤ gb648)); have n12_ := Aside0.mk ((by rw [hg]; exact Nat.ne_of_lt (blk_lt (g := gb623) (o := .cells #[.int .i64 a0_0, .slice A0_1 l0_1.length c0_1, .slice A0_2 l0_2.length c0_2] 25 (0, 0)) (by (with_reducible repeat (first | refine blk_drewN ?_ _ | refine blk_drew ?_ | refine blk_alloc ?_ _)); exact BK623.out)) : gb623 ≠ gb648)); have n13_ := Aside0.mk ((by rw [hg]; exact Nat.ne_of_gt (blk_lt (g := gb623) (o := .cells #[.int .i64 a0_0, .slice A0_1 l0_1.length c0_1, .slice A0_2 l0_2.length c0_2] 25 (0, 0)) (by (with_reducible repeat (first | refine blk_drewN ?_ _ | refine blk_drew ?_ | refine blk_alloc ?_ _)); exact BK623.out)) : gb648 ≠ gb623)); have n14_ := Aside0.mk ((by rw [hg]; exact Nat.ne_of_lt (blk_lt (g := gb640) (o := .cells #[.int .i64 t632, .slice Ao24 t633.length co24, .slice Ao25 t636.length co25] 30 (0, 0)) (by (with_reducible repeat (first | refine blk_drewN ?_ _ | refine blk_drew ?_ | refine blk_alloc ?_ _)); exact BK640.out)) : gb640 ≠ gb648)); have n15_ := Aside0.mk ((by rw [hg]; exact Nat.ne_of_gt (blk_lt (g := gb640) (o := .cells #[.int .i64 t632, .slice Ao24 t633.length co24, .slice Ao25 t636.length co25] 30 (0, 0)) (by (with_reducible repeat (first | refine blk_drewN ?_ _ | refine blk_drew ?_ | refine blk_alloc ?_ _)); exact BK640.out)) : gb648 ≠ gb640)); clear HO628; clear HO631; clear HO635; clear HO638; clear HO644; clear HO647; clear BK623; clear BK640; clear HB; have HO628 := n0_; have HO631 := n1_; have HO635 := n2_; have HO638 := n3_; have HO644 := n4_; have HO647 := n5_; have BK623 := n6_; have BK640 := n7_; have HB := n8_; have BK648 := n9_; have GW648 := n10_; have GE648 := n11_; have NB623_648 := n12_; have NB648_623 := n13_; have NB640_648 := n14_; have NB648_640 := n15_; clear n0_ n1_ n2_ n3_ n4_ n5_ n6_ n7_ n8_ n9_ n10_ n11_ n12_ n13_ n14_ n15_; clear hb hbox hg; have hnb29 := NB648_623.out; have hnc29 := NB623_648.out; have hnb30 := NB648_640.out; have hnc30 := NB640_648.out; have hcz31_0 : w28.cell? ⟨gb648, 0, none⟩ = some (.int .i64 0) := (blk_cell BK648.out 0).trans rfl; have hcz31_1 : w28.cell? ⟨gb648, 1, none⟩ = some (.slice none 0 0) := (blk_cell BK648.out 1).trans rfl; have hcz31_2 : w28.cell? ⟨gb648, 2, none⟩ = some (.slice none 0 0) := (blk_cell BK648.out 2).trans rfl; have hfz31_0 := blk_frozen BK648.out 0; have hfz31_1 := blk_frozen BK648.out 1; have hfz31_2 := blk_frozen BK648.out 2; obtain ⟨Ao32, co32, eo32⟩ := Kd.R_slice HO644.out; subst eo32; obtain ⟨Ao33, co33, eo33⟩ := Kd.R_slice HO647.out; subst eo33) | ((with_reducible refine gate_callee (f := 40) rfl ?_); refine goesL_ (some 33) rfl rfl Try.func40 (by kernel_rfl) rfl #[.agg #[.int .i64 t641, .slice Ao32 t642.length co32, .slice Ao33 t645.length co33], .int .i64 a1] rfl (by (try simp only [List.map_toArray, List.map_cons, List.map_nil]); first | done | rfl | (simp only [List.length_drop, List.length_take]; rfl)) ?_; (with_reducible refine (impl_TakeOut.calls t641 _ _ t642 _ _ t645 a1 t649 t650 t653 t656 _ ?side1 ?side2 ?side3 ?side4 A11.out).mono ?_); (case side1 => refine (Kd.R_reads' (e := 3) (base := w.heap.size) (ok := fun k_ => ((True ∧ some k_ ≠ (.slice Ao18 t626.length co18 : Value).ownBlock) ∧ some k_ ≠ (.slice Ao24 t633.length co24 : Value).ownBlock)) (n := t642.length) (c := co32) ?_).2.2; exact (by (with_reducible repeat (first | apply Kd.R_alloc | apply Kd.R_drewN | apply Kd.R_drew)); exact (Kd.R_mono (Kd.R_far (p := ⟨gb648, 2, none⟩) (Kd.R_far (p := ⟨gb648, 1, none⟩) (Kd.R_far (p := ⟨gb648, 0, none⟩) (Kd.R_types HO644.out BK648.out (by decide)) (fun _ hk => hk.2) (.int .i64 t641)) (fun _ hk => hk.2) (.slice Ao32 t642.length co32)) (fun _ hk => hk.2) (.slice Ao33 t645.length co33)) (fun _ h_ => h_.1)))); (case side2 => exact (Kd.R_reads' HO644.out).2.1); (case side3 => refine (Kd.R_reads' (e := 71) (base := w.heap.size) (ok := fun k_ => ((True ∧ some k_ ≠ (.slice Ao19 t629.length co19 : Value).ownBlock) ∧ some k_ ≠ (.slice Ao25 t636.length co25 : Value).ownBlock)) (n := t645.length) (c := co33) ?_).2.2; exact (by (with_reducible repeat (first | apply Kd.R_alloc | apply Kd.R_drewN | apply Kd.R_drew)); exact (Kd.R_mono (Kd.R_far (p := ⟨gb648, 2, none⟩) (Kd.R_far (p := ⟨gb648, 1, none⟩) (Kd.R_far (p := ⟨gb648, 0, none⟩) (Kd.R_types HO647.out BK648.out (by decide)) (fun _ hk => hk.2) (.int .i64 t641)) (fun _ hk => hk.2) (.slice Ao32 t642.length co32)) (fun _ hk => hk.2) (.slice Ao33 t645.length co33)) (fun _ h_ => h_.1)))); (case side4 => exact (Kd.R_reads' HO647.out).2.1); rintro e w34 ⟨v651, v654, rfl, ho0, ho1, hb⟩; refine ⟨_, rfl, ?_⟩; have n0_ := Aside0.mk (Kd.R_elder' (by (with_reducible repeat (first | apply Kd.R_alloc | apply Kd.R_drewN | apply Kd.R_drew)); exact (Kd.R_mono (Kd.R_far (p := ⟨gb648, 2, none⟩) (Kd.R_far (p := ⟨gb648, 1, none⟩) (Kd.R_far (p := ⟨gb648, 0, none⟩) (Kd.R_types HO628.out BK648.out (by decide)) (fun _ hk => hk.2) (.int .i64 t641)) (fun _ hk => hk.2) (.slice Ao32 t642.length co32)) (fun _ hk => hk.2) (.slice Ao33 t645.length co33)) (fun _ h_ => h_.1))) (Kd.R_base ho0) hb); have n1_ := Aside0.mk (Kd.R_elder' (by (with_reducible repeat (first | apply Kd.R_alloc | apply Kd.R_drewN | apply Kd.R_drew)); exact (Kd.R_mono (Kd.R_far (p := ⟨gb648, 2, none⟩) (Kd.R_far (p := ⟨gb648, 1, none⟩) (Kd.R_far (p := ⟨gb648, 0, none⟩) (Kd.R_types HO631.out BK648.out (by decide)) (fun _ hk => hk.2) (.int .i64 t641)) (fun _ hk => hk.2) (.slice Ao32 t642.length co32)) (fun _ hk => hk.2) (.slice Ao33 t645.length co33)) (fun _ h_ => h_.1))) (Kd.R_base ho1) hb); have n2_ := Aside0.mk (Kd.R_elder' (by (with_reducible repeat (first | apply Kd.R_alloc | apply Kd.R_drewN | apply Kd.R_drew)); exact (Kd.R_mono (Kd.R_far (p := ⟨gb648, 2, none⟩) (Kd.R_far (p := ⟨gb648, 1, none⟩) (Kd.R_far (p := ⟨gb648, 0, none⟩) (Kd.R_types HO635.out BK648.out (by decide)) (fun _ hk => hk.2) (.int .i64 t641)) (fun _ hk => hk.2) (.slice Ao32 t642.length co32)) (fun _ hk => hk.2) (.slice Ao33 t645.length co33)) (fun _ h_ => h_.1))) (Kd.R_base ho0) hb); have n3_ := Aside0.mk (Kd.R_elder' (by (with_reducible repeat (first | apply Kd.R_alloc | apply Kd.R_drewN | apply Kd.R_drew)); exact (Kd.R_mono (Kd.R_far (p := ⟨gb648, 2, none⟩) (Kd.R_far (p := ⟨gb648, 1, none⟩) (Kd.R_far (p := ⟨gb648, 0, none⟩) (Kd.R_types HO638.out BK648.out (by decide)) (fun _ hk => hk.2) (.int .i64 t641)) (fun _ hk => hk.2) (.slice Ao32 t642.length co32)) (fun _ hk => hk.2) (.slice Ao33 t645.length co33)) (fun _ h_ => h_.1))) (Kd.R_base ho1) hb); have n4_ := Aside0.mk (Kd.R_elder' (by (with_reducible repeat (first | apply Kd.R_alloc | apply Kd.R_drewN | apply Kd.R_drew)); exact (Kd.R_mono (Kd.R_far (p := ⟨gb648, 2, none⟩) (Kd.R_far (p := ⟨gb648, 1, none⟩) (Kd.R_far (p := ⟨gb648, 0, none⟩) (Kd.R_types HO644.out BK648.out (by decide)) (fun _ hk => hk.2) (.int .i64 t641)) (fun _ hk => hk.2) (.slice Ao32 t642.length co32)) (fun _ hk => hk.2) (.slice Ao33 t645.length co33)) (fun _ h_ => h_.1))) (Kd.R_base ho0) hb); have n5_ := Aside0.mk (Kd.R_elder' (by (with_reducible repeat (first | apply Kd.R_alloc | apply Kd.R_drewN | apply Kd.R_drew)); exact (Kd.R_mono (Kd.R_far (p := ⟨gb648, 2, none⟩) (Kd.R_far (p := ⟨gb648, 1, none⟩) (Kd.R_far (p := ⟨gb648, 0, none⟩) (Kd.R_types HO647.out BK648.out (by decide)) (fun _ hk => hk.2) (.int .i64 t641)) (fun _ hk => hk.2) (.slice Ao32 t642.length co32)) (fun _ hk => hk.2) (.slice Ao33 t645.length co33)) (fun _ h_ => h_.1))) (Kd.R_base ho1) hb); have n6_ := Aside0.mk (Kd.R_lower (Kd.R_new' (Kd.R_new' (Kd.R_new' ho0 (Kd.R_lt (by (with_reducible repeat (first | apply Kd.R_alloc | apply Kd.R_drewN | apply Kd.R_drew)); exact (Kd.R_mono (Kd.R_far (p := ⟨gb648, 2, none⟩) (Kd.R_far (p := ⟨gb648, 1, none⟩) (Kd.R_far (p := ⟨gb648, 0, none⟩) (Kd.R_types HO628.out BK648.out (by decide)) (fun _ hk => hk.2) (.int .i64 t641)) (fun _ hk => hk.2) (.slice Ao32 t642.length co32)) (fun _ hk => hk.2) (.slice Ao33 t645.length co33)) (fun _ h_ => h_.1))))) (Kd.R_lt (by (with_reducible repeat (first | apply Kd.R_alloc | apply Kd.R_drewN | apply Kd.R_drew)); exact (Kd.R_mono (Kd.R_far (p := ⟨gb648, 2, none⟩) (Kd.R_far (p := ⟨gb648, 1, none⟩) (Kd.R_far (p := ⟨gb648, 0, none⟩) (Kd.R_types HO635.out BK648.out (by decide)) (fun _ hk => hk.2) (.int .i64 t641)) (fun _ hk => hk.2) (.slice Ao32 t642.length co32)) (fun _ hk => hk.2) (.slice Ao33 t645.length co33)) (fun _ h_ => h_.1))))) (Kd.R_lt (by (with_reducible repeat (first | apply Kd.R_alloc | apply Kd.R_drewN | apply Kd.R_drew)); exact (Kd.R_mono (Kd.R_far (p := ⟨gb648, 2, none⟩) (Kd.R_far (p := ⟨gb648, 1, none⟩) (Kd.R_far (p := ⟨gb648, 0, none⟩) (Kd.R_types HO644.out BK648.out (by decide)) (fun _ hk => hk.2) (.int .i64 t641)) (fun _ hk => hk.2) (.slice Ao32 t642.length co32)) (fun _ hk => hk.2) (.slice Ao33 t645.length co33)) (fun _ h_ => h_.1))))) (below_size (by repeat (first | (with_reducible first | exact HB.out | apply below_alloc | apply pw_below_drewN | apply below_drew1 | refine below_set ?_ GE623.out | refine below_set ?_ GE640.out | refine below_set ?_ GE648.out) | exact HB.out)))); have n7_ := Aside0.mk (Kd.R_lower (Kd.R_new' (Kd.R_new' (Kd.R_new' ho1 (Kd.R_lt (by (with_reducible repeat (first | apply Kd.R_alloc | apply Kd.R_drewN | apply Kd.R_drew)); exact (Kd.R_mono (Kd.R_far (p := ⟨gb648, 2, none⟩) (Kd.R_far (p := ⟨gb648, 1, none⟩) (Kd.R_far (p := ⟨gb648, 0, none⟩) (Kd.R_types HO631.out BK648.out (by decide)) (fun _ hk => hk.2) (.int .i64 t641)) (fun _ hk => hk.2) (.slice Ao32 t642.length co32)) (fun _ hk => hk.2) (.slice Ao33 t645.length co33)) (fun _ h_ => h_.1))))) (Kd.R_lt (by (with_reducible repeat (first | apply Kd.R_alloc | apply Kd.R_drewN | apply Kd.R_drew)); exact (Kd.R_mono (Kd.R_far (p := ⟨gb648, 2, none⟩) (Kd.R_far (p := ⟨gb648, 1, none⟩) (Kd.R_far (p := ⟨gb648, 0, none⟩) (Kd.R_types HO638.out BK648.out (by decide)) (fun _ hk => hk.2) (.int .i64 t641)) (fun _ hk => hk.2) (.slice Ao32 t642.length co32)) (fun _ hk => hk.2) (.slice Ao33 t645.length co33)) (fun _ h_ => h_.1))))) (Kd.R_lt (by (with_reducible repeat (first | apply Kd.R_alloc | apply Kd.R_drewN | apply Kd.R_drew)); exact (Kd.R_mono (Kd.R_far (p := ⟨gb648, 2, none⟩) (Kd.R_far (p := ⟨gb648, 1, none⟩) (Kd.R_far (p := ⟨gb648, 0, none⟩) (Kd.R_types HO647.out BK648.out (by decide)) (fun _ hk => hk.2) (.int .i64 t641)) (fun _ hk => hk.2) (.slice Ao32 t642.length co32)) (fun _ hk => hk.2) (.slice Ao33 t645.length co33)) (fun _ h_ => h_.1))))) (below_size (by repeat (first | (with_reducible first | exact HB.out | apply below_alloc | apply pw_below_drewN | apply below_drew1 | refine below_set ?_ GE623.out | refine below_set ?_ GE640.out | refine below_set ?_ GE648.out) | exact HB.out)))); have n8_ := Aside0.mk (blk_below (g := gb623) (o := .cells #[.int .i64 a0_0, .slice A0_1 l0_1.length c0_1, .slice A0_2 l0_2.length c0_2] 25 (0, 0)) (by (with_reducible repeat (first | refine blk_drewN ?_ _ | refine blk_drew ?_ | refine blk_alloc ?_ _)); refine blk_far ?_ NB623_648.out _; (with_reducible repeat (first | refine blk_drewN ?_ _ | refine blk_drew ?_ | refine blk_alloc ?_ _)); refine blk_far ?_ NB623_648.out _; (with_reducible repeat (first | refine blk_drewN ?_ _ | refine blk_drew ?_ | refine blk_alloc ?_ _)); refine blk_far ?_ NB623_648.out _; (with_reducible repeat (first | refine blk_drewN ?_ _ | refine blk_drew ?_ | refine blk_alloc ?_ _)); exact BK623.out) hb); have n9_ := Aside0.mk (blk_below (g := gb640) (o := .cells #[.int .i64 t632, .slice Ao24 t633.length co24, .slice Ao25 t636.length co25] 30 (0, 0)) (by (with_reducible repeat (first | refine blk_drewN ?_ _ | refine blk_drew ?_ | refine blk_alloc ?_ _)); refine blk_far ?_ NB640_648.out _; (with_reducible repeat (first | refine blk_drewN ?_ _ | refine blk_drew ?_ | refine blk_alloc ?_ _)); refine blk_far ?_ NB640_648.out _; (with_reducible repeat (first | refine blk_drewN ?_ _ | refine blk_drew ?_ | refine blk_alloc ?_ _)); refine blk_far ?_ NB640_648.out _; (with_reducible repeat (first | refine blk_drewN ?_ _ | refine blk_drew ?_ | refine blk_alloc ?_ _)); exact BK640.out) hb); have n10_ := Aside0.mk (blk_below (g := gb648) (o := .cells #[.int .i64 t641, .slice Ao32 t642.length co32, .slice Ao33 t645.length co33] 30 (0, 0)) (by (with_reducible repeat (first | refine blk_drewN ?_ _ | refine blk_drew ?_ | refine blk_alloc ?_ _)); refine blk_put (cs := #[.int .i64 t641, .slice Ao32 t642.length co32, .slice none 0 0]) ?_ 2 _ rfl; (with_reducible repeat (first | refine blk_drewN ?_ _ | refine blk_drew ?_ | refine blk_alloc ?_ _)); refine blk_put (cs := #[.int .i64 t641, .slice none 0 0, .slice none 0 0]) ?_ 1 _ rfl; (with_reducible repeat (first | refine blk_drewN ?_ _ | refine blk_drew ?_ | refine blk_alloc ?_ _)); refine blk_put (cs := #[.int .i64 0, .slice none 0 0, .slice none 0 0]) ?_ 0 _ rfl; (with_reducible repeat (first | refine blk_drewN ?_ _ | refine blk_drew ?_ | refine blk_alloc ?_ _)); exact BK648.out) hb); have n11_ := Aside0.mk (below_step (by repeat (first | (with_reducible first | exact HB.out | apply below_alloc | apply pw_below_drewN | apply below_drew1 | refine below_set ?_ GE623.out | refine below_set ?_ GE640.out | refine below_set ?_ GE648.out) | exact HB.out)) hb); clear HO628; clear HO631; clear HO635; clear HO638; clear HO644; clear HO647; clear BK623; clear BK640; clear BK648; clear HB; have HO628 := n0_; have HO631 := n1_; have HO635 := n2_; have HO638 := n3_; have HO644 := n4_; have HO647 := n5_; have HO652 := n6_; have HO655 := n7_; have BK623 := n8_; have BK640 := n9_; have BK648 := n10_; have HB := n11_; clear n0_ n1_ n2_ n3_ n4_ n5_ n6_ n7_ n8_ n9_ n10_ n11_; (try clear hb); (try clear hb2); (try clear hk); (try clear hi); (try clear ho0); (try clear ho1)) | ((with_reducible refine gate_dst (N := 9) rfl ?_); refine box_event ?hg (N := 9) ?hd (cs := #[.int .i64 0, .slice none 0 0, .slice none 0 0]) (t := 30) ?hr ?_; (case hd => rfl); (case hg => rfl); (case hr => first | (go_simp; done) | (go_simp; rfl)); intro gb657 hg w35 hbox hb; have n0_ := Aside0.mk (Kd.R_below (by (with_reducible repeat (first | apply Kd.R_alloc | apply Kd.R_drewN | apply Kd.R_drew)); exact HO628.out) hb); have n1_ := Aside0.mk (Kd.R_below (by (with_reducible repeat (first | apply Kd.R_alloc | apply Kd.R_drewN | apply Kd.R_drew)); exact HO631.out) hb); have n2_ := Aside0.mk (Kd.R_below (by (with_reducible repeat (first | apply Kd.R_alloc | apply Kd.R_drewN | apply Kd.R_drew)); exact HO635.out) hb); have n3_ := Aside0.mk (Kd.R_below (by (with_reducible repeat (first | apply Kd.R_alloc | apply Kd.R_drewN | apply Kd.R_drew)); exact HO638.out) hb); have n4_ := Aside0.mk (Kd.R_below (by (with_reducible repeat (first | apply Kd.R_alloc | apply Kd.R_drewN | apply Kd.R_drew)); exact HO644.out) hb); have n5_ := Aside0.mk (Kd.R_below (by (with_reducible repeat (first | apply Kd.R_alloc | apply Kd.R_drewN | apply Kd.R_drew)); exact HO647.out) hb); have n6_ := Aside0.mk (Kd.R_below (by (with_reducible repeat (first | apply Kd.R_alloc | apply Kd.R_drewN | apply Kd.R_drew)); exact HO652.out) hb); have n7_ := Aside0.mk (Kd.R_below (by (with_reducible repeat (first | apply Kd.R_alloc | apply Kd.R_drewN | apply Kd.R_drew)); exact HO655.out) hb); have n8_ := Aside0.mk (blk_below (g := gb623) (o := .cells #[.int .i64 a0_0, .slice A0_1 l0_1.length c0_1, .slice A0_2 l0_2.length c0_2] 25 (0, 0)) (by (with_reducible repeat (first | refine blk_drewN ?_ _ | refine blk_drew ?_ | refine blk_alloc ?_ _)); exact BK623.out) hb); have n9_ := Aside0.mk (blk_below (g := gb640) (o := .cells #[.int .i64 t632, .slice Ao24 t633.length co24, .slice Ao25 t636.length co25] 30 (0, 0)) (by (with_reducible repeat (first | refine blk_drewN ?_ _ | refine blk_drew ?_ | refine blk_alloc ?_ _)); exact BK640.out) hb); have n10_ := Aside0.mk (blk_below (g := gb648) (o := .cells #[.int .i64 t641, .slice Ao32 t642.length co32, .slice Ao33 t645.length co33] 30 (0, 0)) (by (with_reducible repeat (first | refine blk_drewN ?_ _ | refine blk_drew ?_ | refine blk_alloc ?_ _)); exact BK648.out) hb); have n11_ := Aside0.mk (below_step (by repeat (first | (with_reducible first | exact HB.out | apply below_alloc | apply pw_below_drewN | apply below_drew1 | refine below_set ?_ GE623.out | refine below_set ?_ GE640.out | refine below_set ?_ GE648.out) | exact HB.out)) hb); have n12_ := Aside0.mk (hbox); have n13_ := Aside0.mk ((by rw [hg]; exact (below_size (by repeat (first | (with_reducible first | exact HB.out | apply below_alloc | apply pw_below_drewN | apply below_drew1 | refine below_set ?_ GE623.out | refine below_set ?_ GE640.out | refine below_set ?_ GE648.out) | exact HB.out))) : w.heap.size ≤ gb657)); have n14_ := Aside0.mk ((by rw [hg]; exact (below_size (by repeat (first | (with_reducible first | exact HB.out | apply below_alloc | apply pw_below_drewN | apply below_drew1 | refine below_set ?_ GE623.out | refine below_set ?_ GE640.out | refine below_set ?_ GE648.out) | exact HB.out))) : w.heap.size ≤ gb657)); have n15_ := Aside0.mk ((by rw [hg]; exact Nat.ne_of_lt (blk_lt (g := gb623) (o := .cells #[.int .i64 a0_0, .slice A0_1 l0_1.length c0_1, .slice A0_2 l0_2.length c0_2] 25 (0, 0)) (by (with_reducible repeat (first | refine blk_drewN ?_ _ | refine blk_drew ?_ | refine blk_alloc ?_ _)); exact BK623.out)) : gb623 ≠ gb657)); have n16_ := Aside0.mk ((by rw [hg]; exact Nat.ne_of_gt (blk_lt (g := gb623) (o := .cells #[.int .i64 a0_0, .slice A0_1 l0_1.length c0_1, .slice A0_2 l0_2.length c0_2] 25 (0, 0)) (by (with_reducible repeat (first | refine blk_drewN ?_ _ | refine blk_drew ?_ | refine blk_alloc ?_ _)); exact BK623.out)) : gb657 ≠ gb623)); have n17_ := Aside0.mk ((by rw [hg]; exact Nat.ne_of_lt (blk_lt (g := gb640) (o := .cells #[.int .i64 t632, .slice Ao24 t633.length co24, .slice Ao25 t636.length co25] 30 (0, 0)) (by (with_reducible repeat (first | refine blk_drewN ?_ _ | refine blk_drew ?_ | refine blk_alloc ?_ _)); exact BK640.out)) : gb640 ≠ gb657)); have n18_ := Aside0.mk ((by rw [hg]; exact Nat.ne_of_gt (blk_lt (g := gb640) (o := .cells #[.int .i64 t632, .slice Ao24 t633.length co24, .slice Ao25 t636.length co25] 30 (0, 0)) (by (with_reducible repeat (first | refine blk_drewN ?_ _ | refine blk_drew ?_ | refine blk_alloc ?_ _)); exact BK640.out)) : gb657 ≠ gb640)); have n19_ := Aside0.mk ((by rw [hg]; exact Nat.ne_of_lt (blk_lt (g := gb648) (o := .cells #[.int .i64 t641, .slice Ao32 t642.length co32, .slice Ao33 t645.length co33] 30 (0, 0)) (by (with_reducible repeat (first | refine blk_drewN ?_ _ | refine blk_drew ?_ | refine blk_alloc ?_ _)); exact BK648.out)) : gb648 ≠ gb657)); have n20_ := Aside0.mk ((by rw [hg]; exact Nat.ne_of_gt (blk_lt (g := gb648) (o := .cells #[.int .i64 t641, .slice Ao32 t642.length co32, .slice Ao33 t645.length co33] 30 (0, 0)) (by (with_reducible repeat (first | refine blk_drewN ?_ _ | refine blk_drew ?_ | refine blk_alloc ?_ _)); exact BK648.out)) : gb657 ≠ gb648)); clear HO628; clear HO631; clear HO635; clear HO638; clear HO644; clear HO647; clear HO652; clear HO655; clear BK623; clear BK640; clear BK648; clear HB; have HO628 := n0_; have HO631 := n1_; have HO635 := n2_; have HO638 := n3_; have HO644 := n4_; have HO647 := n5_; have HO652 := n6_; have HO655 := n7_; have BK623 := n8_; have BK640 := n9_; have BK648 := n10_; have HB := n11_; have BK657 := n12_; have GW657 := n13_; have GE657 := n14_; have NB623_657 := n15_; have NB657_623 := n16_; have NB640_657 := n17_; have NB657_640 := n18_; have NB648_657 := n19_; have NB657_648 := n20_; clear n0_ n1_ n2_ n3_ n4_ n5_ n6_ n7_ n8_ n9_ n10_ n11_ n12_ n13_ n14_ n15_ n16_ n17_ n18_ n19_ n20_; clear hb hbox hg; have hnb36 := NB657_623.out; have hnc36 := NB623_657.out; have hnb37 := NB657_640.out; have hnc37 := NB640_657.out; have hnb38 := NB657_648.out; have hnc38 := NB648_657.out; have hcz39_0 : w35.cell? ⟨gb657, 0, none⟩ = some (.int .i64 0) := (blk_cell BK657.out 0).trans rfl; have hcz39_1 : w35.cell? ⟨gb657, 1, none⟩ = some (.slice none 0 0) := (blk_cell BK657.out 1).trans rfl; have hcz39_2 : w35.cell? ⟨gb657, 2, none⟩ = some (.slice none 0 0) := (blk_cell BK657.out 2).trans rfl; have hfz39_0 := blk_frozen BK657.out 0; have hfz39_1 := blk_frozen BK657.out 1; have hfz39_2 := blk_frozen BK657.out 2; obtain ⟨Ao40, co40, eo40⟩ := Kd.R_slice HO652.out; subst eo40; obtain ⟨Ao41, co41, eo41⟩ := Kd.R_slice HO655.out; subst eo41))
    (try simp only [Act.put, List.setIfInBounds_toArray, List.set_cons_zero, List.set_cons_succ])
    go_cut [44] (fun v44 wc => ∃ (kq : Nat) (x44_11 : Bool), v44 = .bool x44_11 ∧ Aside0 (laws_FnExactTakeOut.j0 kq a1 t639 t656 x44_11 a0_0 l0_1 l0_2 t632 t633 t636 t641 t642 t645 t649 t650 t653 = some r) ∧ Aside0 (kq ≤ k) ∧ Aside0 (Kd.R (Kd.int .i64) 3 wc w.heap.size (fun k_ => some k_ ≠ ((.slice Ao32 t642.length co32) : Value).ownBlock ∧ some k_ ≠ ((.slice Ao40 t650.length co40) : Value).ownBlock) (.slice Ao24 t633.length co24) t633) ∧ Aside0 (Kd.R k71 71 wc w.heap.size (fun k_ => some k_ ≠ ((.slice Ao33 t645.length co33) : Value).ownBlock ∧ some k_ ≠ ((.slice Ao41 t653.length co41) : Value).ownBlock) (.slice Ao25 t636.length co25) t636) ∧ Aside0 (Kd.R (Kd.int .i64) 3 wc w.heap.size (fun k_ => some k_ ≠ ((.slice Ao24 t633.length co24) : Value).ownBlock ∧ some k_ ≠ ((.slice Ao40 t650.length co40) : Value).ownBlock) (.slice Ao32 t642.length co32) t642) ∧ Aside0 (Kd.R k71 71 wc w.heap.size (fun k_ => some k_ ≠ ((.slice Ao25 t636.length co25) : Value).ownBlock ∧ some k_ ≠ ((.slice Ao41 t653.length co41) : Value).ownBlock) (.slice Ao33 t645.length co33) t645) ∧ Aside0 (Kd.R (Kd.int .i64) 3 wc w.heap.size (fun k_ => some k_ ≠ ((.slice Ao24 t633.length co24) : Value).ownBlock ∧ some k_ ≠ ((.slice Ao32 t642.length co32) : Value).ownBlock) (.slice Ao40 t650.length co40) t650) ∧ Aside0 (Kd.R k71 71 wc w.heap.size (fun k_ => some k_ ≠ ((.slice Ao25 t636.length co25) : Value).ownBlock ∧ some k_ ≠ ((.slice Ao33 t645.length co33) : Value).ownBlock) (.slice Ao41 t653.length co41) t653) ∧ Aside0 (wc.heap[gb623]? = some (.cells #[.int .i64 a0_0, (.slice A0_1 l0_1.length c0_1), (.slice A0_2 l0_2.length c0_2)] 25 (0, 0))) ∧ Aside0 (wc.heap[gb640]? = some (.cells #[.int .i64 t632, (.slice Ao24 t633.length co24), (.slice Ao25 t636.length co25)] 30 (0, 0))) ∧ Aside0 (wc.heap[gb648]? = some (.cells #[.int .i64 t641, (.slice Ao32 t642.length co32), (.slice Ao33 t645.length co33)] 30 (0, 0))) ∧ Aside0 (wc.heap[gb657]? = some (.cells #[.int .i64 t649, (.slice Ao40 t650.length co40), (.slice Ao41 t653.length co41)] 30 (0, 0))) ∧ Aside0 (Below w.heap.size w wc))
    case first =>
      have H := HC12.out
      clear HC12
      replace H := Option.bind_eq_some_iff.mp H
      obtain ⟨t658, A420, H⟩ := H
      replace H : (if t658 = true then (laws_FnExactTakeOut.j0 k a1 t639 t656 (t656 != t639) a0_0 l0_1 l0_2 t632 t633 t636 t641 t642 t645 t649 t650 t653) else (laws_FnExactTakeOut.j0 k a1 t639 t656 true a0_0 l0_1 l0_2 t632 t633 t636 t641 t642 t645 t649 t650 t653)) = some r := H
      have A42 := Aside0.mk A420
      clear A420
      by_cases c43 : t658 = true
      · subst c43
        have H1 : (laws_FnExactTakeOut.j0 k a1 t639 t656 (t656 != t639) a0_0 l0_1 l0_2 t632 t633 t636 t641 t642 t645 t649 t650 t653) = some r := by rw [if_pos rfl] at H; exact H
        clear H
        have H := H1
        clear H1
        have H' := Aside0.mk H
        clear H
        have hnb44 := NB657_623.out
        have hnc44 := NB623_657.out
        have hnb45 := NB657_640.out
        have hnc45 := NB640_657.out
        have hnb46 := NB657_648.out
        have hnc46 := NB648_657.out
        have hcz47_0 : w35.cell? ⟨gb657, 0, none⟩ = some (.int .i64 0) := (blk_cell BK657.out 0).trans rfl
        have hcz47_1 : w35.cell? ⟨gb657, 1, none⟩ = some (.slice none 0 0) := (blk_cell BK657.out 1).trans rfl
        have hcz47_2 : w35.cell? ⟨gb657, 2, none⟩ = some (.slice none 0 0) := (blk_cell BK657.out 2).trans rfl
        have hfz47_0 := blk_frozen BK657.out 0
        have hfz47_1 := blk_frozen BK657.out 1
        have hfz47_2 := blk_frozen BK657.out 2
        have hnb48 := NB640_623.out
        have hnc48 := NB623_640.out
        have hnb49 := NB640_648.out
        have hnc49 := NB648_640.out
        have hcz50_0 : w35.cell? ⟨gb640, 0, none⟩ = some (.int .i64 t632) := (blk_cell BK640.out 0).trans rfl
        have hcz50_1 : w35.cell? ⟨gb640, 1, none⟩ = some (.slice Ao24 t633.length co24) := (blk_cell BK640.out 1).trans rfl
        have hcz50_2 : w35.cell? ⟨gb640, 2, none⟩ = some (.slice Ao25 t636.length co25) := (blk_cell BK640.out 2).trans rfl
        have hfz50_0 := blk_frozen BK640.out 0
        have hfz50_1 := blk_frozen BK640.out 1
        have hfz50_2 := blk_frozen BK640.out 2
        go_wp2_with (first | ((with_reducible refine gate_callee (f := 19) rfl ?_); refine goesL_ (some 38) rfl rfl Try.func19 (by kernel_rfl) rfl #[.agg #[.int .i64 t649, .slice Ao40 t650.length co40, .slice Ao41 t653.length co41], .agg #[.int .i64 t632, .slice Ao24 t633.length co24, .slice Ao25 t636.length co25]] rfl (by (try simp only [List.map_toArray, List.map_cons, List.map_nil]); first | done | rfl | (simp only [List.length_drop, List.length_take]; rfl)) ?_; (with_reducible refine (laws_eqColumn.calls k t649 _ _ t650 _ _ t653 t632 _ _ t633 _ _ t636 true _ ?side1 ?side2 ?side3 ?side4 ?side5 ?side6 ?side7 ?side8 A42.out).mono ?_); (case side1 => refine (Kd.R_reads' (e := 3) (base := w.heap.size) (ok := fun k_ => (((True ∧ some k_ ≠ (.slice Ao18 t626.length co18 : Value).ownBlock) ∧ some k_ ≠ (.slice Ao24 t633.length co24 : Value).ownBlock) ∧ some k_ ≠ (.slice Ao32 t642.length co32 : Value).ownBlock)) (n := t650.length) (c := co40) ?_).2.2; exact (by (with_reducible repeat (first | apply Kd.R_alloc | apply Kd.R_drewN | apply Kd.R_drew)); exact (Kd.R_mono (Kd.R_far (p := ⟨gb657, 2, none⟩) (Kd.R_far (p := ⟨gb657, 1, none⟩) (Kd.R_far (p := ⟨gb657, 0, none⟩) (Kd.R_types HO652.out BK657.out (by decide)) (fun _ hk => hk.2) (.int .i64 t649)) (fun _ hk => hk.2) (.slice Ao40 t650.length co40)) (fun _ hk => hk.2) (.slice Ao41 t653.length co41)) (fun _ h_ => h_.1)))); (case side2 => exact (Kd.R_reads' HO652.out).2.1); (case side3 => refine (Kd.R_reads' (e := 71) (base := w.heap.size) (ok := fun k_ => (((True ∧ some k_ ≠ (.slice Ao19 t629.length co19 : Value).ownBlock) ∧ some k_ ≠ (.slice Ao25 t636.length co25 : Value).ownBlock) ∧ some k_ ≠ (.slice Ao33 t645.length co33 : Value).ownBlock)) (n := t653.length) (c := co41) ?_).2.2; exact (by (with_reducible repeat (first | apply Kd.R_alloc | apply Kd.R_drewN | apply Kd.R_drew)); exact (Kd.R_mono (Kd.R_far (p := ⟨gb657, 2, none⟩) (Kd.R_far (p := ⟨gb657, 1, none⟩) (Kd.R_far (p := ⟨gb657, 0, none⟩) (Kd.R_types HO655.out BK657.out (by decide)) (fun _ hk => hk.2) (.int .i64 t649)) (fun _ hk => hk.2) (.slice Ao40 t650.length co40)) (fun _ hk => hk.2) (.slice Ao41 t653.length co41)) (fun _ h_ => h_.1)))); (case side4 => exact (Kd.R_reads' HO655.out).2.1); (case side5 => refine (Kd.R_reads' (e := 3) (base := w.heap.size) (ok := fun k_ => (((True ∧ some k_ ≠ (.slice Ao18 t626.length co18 : Value).ownBlock) ∧ some k_ ≠ (.slice Ao32 t642.length co32 : Value).ownBlock) ∧ some k_ ≠ (.slice Ao40 t650.length co40 : Value).ownBlock)) (n := t633.length) (c := co24) ?_).2.2; exact (by (with_reducible repeat (first | apply Kd.R_alloc | apply Kd.R_drewN | apply Kd.R_drew)); exact (Kd.R_mono (Kd.R_far (p := ⟨gb657, 2, none⟩) (Kd.R_far (p := ⟨gb657, 1, none⟩) (Kd.R_far (p := ⟨gb657, 0, none⟩) (Kd.R_types HO635.out BK657.out (by decide)) (fun _ hk => hk.2) (.int .i64 t649)) (fun _ hk => hk.2) (.slice Ao40 t650.length co40)) (fun _ hk => hk.2) (.slice Ao41 t653.length co41)) (fun _ h_ => h_.1)))); (case side6 => exact (Kd.R_reads' HO635.out).2.1); (case side7 => refine (Kd.R_reads' (e := 71) (base := w.heap.size) (ok := fun k_ => (((True ∧ some k_ ≠ (.slice Ao19 t629.length co19 : Value).ownBlock) ∧ some k_ ≠ (.slice Ao33 t645.length co33 : Value).ownBlock) ∧ some k_ ≠ (.slice Ao41 t653.length co41 : Value).ownBlock)) (n := t636.length) (c := co25) ?_).2.2; exact (by (with_reducible repeat (first | apply Kd.R_alloc | apply Kd.R_drewN | apply Kd.R_drew)); exact (Kd.R_mono (Kd.R_far (p := ⟨gb657, 2, none⟩) (Kd.R_far (p := ⟨gb657, 1, none⟩) (Kd.R_far (p := ⟨gb657, 0, none⟩) (Kd.R_types HO638.out BK657.out (by decide)) (fun _ hk => hk.2) (.int .i64 t649)) (fun _ hk => hk.2) (.slice Ao40 t650.length co40)) (fun _ hk => hk.2) (.slice Ao41 t653.length co41)) (fun _ h_ => h_.1)))); (case side8 => exact (Kd.R_reads' HO638.out).2.1); rintro e w51 ⟨rfl, hb⟩; refine ⟨_, rfl, ?_⟩; have n0_ := Aside0.mk (Kd.R_below (by (with_reducible repeat (first | apply Kd.R_alloc | apply Kd.R_drewN | apply Kd.R_drew)); exact (Kd.R_mono (Kd.R_far (p := ⟨gb657, 2, none⟩) (Kd.R_far (p := ⟨gb657, 1, none⟩) (Kd.R_far (p := ⟨gb657, 0, none⟩) (Kd.R_types HO628.out BK657.out (by decide)) (fun _ hk => hk.2) (.int .i64 t649)) (fun _ hk => hk.2) (.slice Ao40 t650.length co40)) (fun _ hk => hk.2) (.slice Ao41 t653.length co41)) (fun _ h_ => h_.1))) hb); have n1_ := Aside0.mk (Kd.R_below (by (with_reducible repeat (first | apply Kd.R_alloc | apply Kd.R_drewN | apply Kd.R_drew)); exact (Kd.R_mono (Kd.R_far (p := ⟨gb657, 2, none⟩) (Kd.R_far (p := ⟨gb657, 1, none⟩) (Kd.R_far (p := ⟨gb657, 0, none⟩) (Kd.R_types HO631.out BK657.out (by decide)) (fun _ hk => hk.2) (.int .i64 t649)) (fun _ hk => hk.2) (.slice Ao40 t650.length co40)) (fun _ hk => hk.2) (.slice Ao41 t653.length co41)) (fun _ h_ => h_.1))) hb); have n2_ := Aside0.mk (Kd.R_below (by (with_reducible repeat (first | apply Kd.R_alloc | apply Kd.R_drewN | apply Kd.R_drew)); exact (Kd.R_mono (Kd.R_far (p := ⟨gb657, 2, none⟩) (Kd.R_far (p := ⟨gb657, 1, none⟩) (Kd.R_far (p := ⟨gb657, 0, none⟩) (Kd.R_types HO635.out BK657.out (by decide)) (fun _ hk => hk.2) (.int .i64 t649)) (fun _ hk => hk.2) (.slice Ao40 t650.length co40)) (fun _ hk => hk.2) (.slice Ao41 t653.length co41)) (fun _ h_ => h_.1))) hb); have n3_ := Aside0.mk (Kd.R_below (by (with_reducible repeat (first | apply Kd.R_alloc | apply Kd.R_drewN | apply Kd.R_drew)); exact (Kd.R_mono (Kd.R_far (p := ⟨gb657, 2, none⟩) (Kd.R_far (p := ⟨gb657, 1, none⟩) (Kd.R_far (p := ⟨gb657, 0, none⟩) (Kd.R_types HO638.out BK657.out (by decide)) (fun _ hk => hk.2) (.int .i64 t649)) (fun _ hk => hk.2) (.slice Ao40 t650.length co40)) (fun _ hk => hk.2) (.slice Ao41 t653.length co41)) (fun _ h_ => h_.1))) hb); have n4_ := Aside0.mk (Kd.R_below (by (with_reducible repeat (first | apply Kd.R_alloc | apply Kd.R_drewN | apply Kd.R_drew)); exact (Kd.R_mono (Kd.R_far (p := ⟨gb657, 2, none⟩) (Kd.R_far (p := ⟨gb657, 1, none⟩) (Kd.R_far (p := ⟨gb657, 0, none⟩) (Kd.R_types HO644.out BK657.out (by decide)) (fun _ hk => hk.2) (.int .i64 t649)) (fun _ hk => hk.2) (.slice Ao40 t650.length co40)) (fun _ hk => hk.2) (.slice Ao41 t653.length co41)) (fun _ h_ => h_.1))) hb); have n5_ := Aside0.mk (Kd.R_below (by (with_reducible repeat (first | apply Kd.R_alloc | apply Kd.R_drewN | apply Kd.R_drew)); exact (Kd.R_mono (Kd.R_far (p := ⟨gb657, 2, none⟩) (Kd.R_far (p := ⟨gb657, 1, none⟩) (Kd.R_far (p := ⟨gb657, 0, none⟩) (Kd.R_types HO647.out BK657.out (by decide)) (fun _ hk => hk.2) (.int .i64 t649)) (fun _ hk => hk.2) (.slice Ao40 t650.length co40)) (fun _ hk => hk.2) (.slice Ao41 t653.length co41)) (fun _ h_ => h_.1))) hb); have n6_ := Aside0.mk (Kd.R_below (by (with_reducible repeat (first | apply Kd.R_alloc | apply Kd.R_drewN | apply Kd.R_drew)); exact (Kd.R_mono (Kd.R_far (p := ⟨gb657, 2, none⟩) (Kd.R_far (p := ⟨gb657, 1, none⟩) (Kd.R_far (p := ⟨gb657, 0, none⟩) (Kd.R_types HO652.out BK657.out (by decide)) (fun _ hk => hk.2) (.int .i64 t649)) (fun _ hk => hk.2) (.slice Ao40 t650.length co40)) (fun _ hk => hk.2) (.slice Ao41 t653.length co41)) (fun _ h_ => h_.1))) hb); have n7_ := Aside0.mk (Kd.R_below (by (with_reducible repeat (first | apply Kd.R_alloc | apply Kd.R_drewN | apply Kd.R_drew)); exact (Kd.R_mono (Kd.R_far (p := ⟨gb657, 2, none⟩) (Kd.R_far (p := ⟨gb657, 1, none⟩) (Kd.R_far (p := ⟨gb657, 0, none⟩) (Kd.R_types HO655.out BK657.out (by decide)) (fun _ hk => hk.2) (.int .i64 t649)) (fun _ hk => hk.2) (.slice Ao40 t650.length co40)) (fun _ hk => hk.2) (.slice Ao41 t653.length co41)) (fun _ h_ => h_.1))) hb); have n8_ := Aside0.mk (blk_below (g := gb623) (o := .cells #[.int .i64 a0_0, .slice A0_1 l0_1.length c0_1, .slice A0_2 l0_2.length c0_2] 25 (0, 0)) (by (with_reducible repeat (first | refine blk_drewN ?_ _ | refine blk_drew ?_ | refine blk_alloc ?_ _)); refine blk_far ?_ NB623_657.out _; (with_reducible repeat (first | refine blk_drewN ?_ _ | refine blk_drew ?_ | refine blk_alloc ?_ _)); refine blk_far ?_ NB623_657.out _; (with_reducible repeat (first | refine blk_drewN ?_ _ | refine blk_drew ?_ | refine blk_alloc ?_ _)); refine blk_far ?_ NB623_657.out _; (with_reducible repeat (first | refine blk_drewN ?_ _ | refine blk_drew ?_ | refine blk_alloc ?_ _)); exact BK623.out) hb); have n9_ := Aside0.mk (blk_below (g := gb640) (o := .cells #[.int .i64 t632, .slice Ao24 t633.length co24, .slice Ao25 t636.length co25] 30 (0, 0)) (by (with_reducible repeat (first | refine blk_drewN ?_ _ | refine blk_drew ?_ | refine blk_alloc ?_ _)); refine blk_far ?_ NB640_657.out _; (with_reducible repeat (first | refine blk_drewN ?_ _ | refine blk_drew ?_ | refine blk_alloc ?_ _)); refine blk_far ?_ NB640_657.out _; (with_reducible repeat (first | refine blk_drewN ?_ _ | refine blk_drew ?_ | refine blk_alloc ?_ _)); refine blk_far ?_ NB640_657.out _; (with_reducible repeat (first | refine blk_drewN ?_ _ | refine blk_drew ?_ | refine blk_alloc ?_ _)); exact BK640.out) hb); have n10_ := Aside0.mk (blk_below (g := gb648) (o := .cells #[.int .i64 t641, .slice Ao32 t642.length co32, .slice Ao33 t645.length co33] 30 (0, 0)) (by (with_reducible repeat (first | refine blk_drewN ?_ _ | refine blk_drew ?_ | refine blk_alloc ?_ _)); refine blk_far ?_ NB648_657.out _; (with_reducible repeat (first | refine blk_drewN ?_ _ | refine blk_drew ?_ | refine blk_alloc ?_ _)); refine blk_far ?_ NB648_657.out _; (with_reducible repeat (first | refine blk_drewN ?_ _ | refine blk_drew ?_ | refine blk_alloc ?_ _)); refine blk_far ?_ NB648_657.out _; (with_reducible repeat (first | refine blk_drewN ?_ _ | refine blk_drew ?_ | refine blk_alloc ?_ _)); exact BK648.out) hb); have n11_ := Aside0.mk (blk_below (g := gb657) (o := .cells #[.int .i64 t649, .slice Ao40 t650.length co40, .slice Ao41 t653.length co41] 30 (0, 0)) (by (with_reducible repeat (first | refine blk_drewN ?_ _ | refine blk_drew ?_ | refine blk_alloc ?_ _)); refine blk_put (cs := #[.int .i64 t649, .slice Ao40 t650.length co40, .slice none 0 0]) ?_ 2 _ rfl; (with_reducible repeat (first | refine blk_drewN ?_ _ | refine blk_drew ?_ | refine blk_alloc ?_ _)); refine blk_put (cs := #[.int .i64 t649, .slice none 0 0, .slice none 0 0]) ?_ 1 _ rfl; (with_reducible repeat (first | refine blk_drewN ?_ _ | refine blk_drew ?_ | refine blk_alloc ?_ _)); refine blk_put (cs := #[.int .i64 0, .slice none 0 0, .slice none 0 0]) ?_ 0 _ rfl; (with_reducible repeat (first | refine blk_drewN ?_ _ | refine blk_drew ?_ | refine blk_alloc ?_ _)); exact BK657.out) hb); have n12_ := Aside0.mk (below_step (by repeat (first | (with_reducible first | exact HB.out | apply below_alloc | apply pw_below_drewN | apply below_drew1 | refine below_set ?_ GE623.out | refine below_set ?_ GE640.out | refine below_set ?_ GE648.out | refine below_set ?_ GE657.out) | exact HB.out)) hb); clear HO628; clear HO631; clear HO635; clear HO638; clear HO644; clear HO647; clear HO652; clear HO655; clear BK623; clear BK640; clear BK648; clear BK657; clear HB; have HO628 := n0_; have HO631 := n1_; have HO635 := n2_; have HO638 := n3_; have HO644 := n4_; have HO647 := n5_; have HO652 := n6_; have HO655 := n7_; have BK623 := n8_; have BK640 := n9_; have BK648 := n10_; have BK657 := n11_; have HB := n12_; clear n0_ n1_ n2_ n3_ n4_ n5_ n6_ n7_ n8_ n9_ n10_ n11_ n12_; (try clear hb); (try clear hb2); (try clear hk); (try clear hi)))
        go_meet
        case rel => exact ⟨_, ((t656 != t639)), (by first | rfl | (simp; done) | (simp [*]; done)), H', ⟨by first | omega | exact Nat.le_refl _⟩, ⟨by (with_reducible repeat (first | apply Kd.R_alloc | apply Kd.R_drewN | apply Kd.R_drew)); exact Kd.R_mono HO635.out (fun _ hk => ⟨hk.1.2, hk.2⟩)⟩, ⟨by (with_reducible repeat (first | apply Kd.R_alloc | apply Kd.R_drewN | apply Kd.R_drew)); exact Kd.R_mono HO638.out (fun _ hk => ⟨hk.1.2, hk.2⟩)⟩, ⟨by (with_reducible repeat (first | apply Kd.R_alloc | apply Kd.R_drewN | apply Kd.R_drew)); exact Kd.R_mono HO644.out (fun _ hk => ⟨hk.1.2, hk.2⟩)⟩, ⟨by (with_reducible repeat (first | apply Kd.R_alloc | apply Kd.R_drewN | apply Kd.R_drew)); exact Kd.R_mono HO647.out (fun _ hk => ⟨hk.1.2, hk.2⟩)⟩, ⟨by (with_reducible repeat (first | apply Kd.R_alloc | apply Kd.R_drewN | apply Kd.R_drew)); exact Kd.R_mono HO652.out (fun _ hk => ⟨hk.1.2, hk.2⟩)⟩, ⟨by (with_reducible repeat (first | apply Kd.R_alloc | apply Kd.R_drewN | apply Kd.R_drew)); exact Kd.R_mono HO655.out (fun _ hk => ⟨hk.1.2, hk.2⟩)⟩, ⟨by (with_reducible repeat (first | refine blk_drewN ?_ _ | refine blk_drew ?_ | refine blk_alloc ?_ _)); exact BK623.out⟩, ⟨by (with_reducible repeat (first | refine blk_drewN ?_ _ | refine blk_drew ?_ | refine blk_alloc ?_ _)); exact BK640.out⟩, ⟨by (with_reducible repeat (first | refine blk_drewN ?_ _ | refine blk_drew ?_ | refine blk_alloc ?_ _)); exact BK648.out⟩, ⟨by (with_reducible repeat (first | refine blk_drewN ?_ _ | refine blk_drew ?_ | refine blk_alloc ?_ _)); exact BK657.out⟩, ⟨by repeat (first | (with_reducible first | exact HB.out | apply below_alloc | apply pw_below_drewN | apply below_drew1 | refine below_set ?_ GE623.out | refine below_set ?_ GE640.out | refine below_set ?_ GE648.out | refine below_set ?_ GE657.out) | exact HB.out)⟩⟩
      · replace c43 := Bool.eq_false_iff.mpr c43
        subst c43
        have H1 : (laws_FnExactTakeOut.j0 k a1 t639 t656 true a0_0 l0_1 l0_2 t632 t633 t636 t641 t642 t645 t649 t650 t653) = some r := by rw [if_neg (show ¬ (false = true) by decide)] at H; exact H
        clear H
        have H := H1
        clear H1
        have H' := Aside0.mk H
        clear H
        have hnb52 := NB657_623.out
        have hnc52 := NB623_657.out
        have hnb53 := NB657_640.out
        have hnc53 := NB640_657.out
        have hnb54 := NB657_648.out
        have hnc54 := NB648_657.out
        have hcz55_0 : w35.cell? ⟨gb657, 0, none⟩ = some (.int .i64 0) := (blk_cell BK657.out 0).trans rfl
        have hcz55_1 : w35.cell? ⟨gb657, 1, none⟩ = some (.slice none 0 0) := (blk_cell BK657.out 1).trans rfl
        have hcz55_2 : w35.cell? ⟨gb657, 2, none⟩ = some (.slice none 0 0) := (blk_cell BK657.out 2).trans rfl
        have hfz55_0 := blk_frozen BK657.out 0
        have hfz55_1 := blk_frozen BK657.out 1
        have hfz55_2 := blk_frozen BK657.out 2
        have hnb56 := NB640_623.out
        have hnc56 := NB623_640.out
        have hnb57 := NB640_648.out
        have hnc57 := NB648_640.out
        have hcz58_0 : w35.cell? ⟨gb640, 0, none⟩ = some (.int .i64 t632) := (blk_cell BK640.out 0).trans rfl
        have hcz58_1 : w35.cell? ⟨gb640, 1, none⟩ = some (.slice Ao24 t633.length co24) := (blk_cell BK640.out 1).trans rfl
        have hcz58_2 : w35.cell? ⟨gb640, 2, none⟩ = some (.slice Ao25 t636.length co25) := (blk_cell BK640.out 2).trans rfl
        have hfz58_0 := blk_frozen BK640.out 0
        have hfz58_1 := blk_frozen BK640.out 1
        have hfz58_2 := blk_frozen BK640.out 2
        go_wp2_with (first | ((with_reducible refine gate_callee (f := 19) rfl ?_); refine goesL_ (some 38) rfl rfl Try.func19 (by kernel_rfl) rfl #[.agg #[.int .i64 t649, .slice Ao40 t650.length co40, .slice Ao41 t653.length co41], .agg #[.int .i64 t632, .slice Ao24 t633.length co24, .slice Ao25 t636.length co25]] rfl (by (try simp only [List.map_toArray, List.map_cons, List.map_nil]); first | done | rfl | (simp only [List.length_drop, List.length_take]; rfl)) ?_; (with_reducible refine (laws_eqColumn.calls k t649 _ _ t650 _ _ t653 t632 _ _ t633 _ _ t636 false _ ?side1 ?side2 ?side3 ?side4 ?side5 ?side6 ?side7 ?side8 A42.out).mono ?_); (case side1 => refine (Kd.R_reads' (e := 3) (base := w.heap.size) (ok := fun k_ => (((True ∧ some k_ ≠ (.slice Ao18 t626.length co18 : Value).ownBlock) ∧ some k_ ≠ (.slice Ao24 t633.length co24 : Value).ownBlock) ∧ some k_ ≠ (.slice Ao32 t642.length co32 : Value).ownBlock)) (n := t650.length) (c := co40) ?_).2.2; exact (by (with_reducible repeat (first | apply Kd.R_alloc | apply Kd.R_drewN | apply Kd.R_drew)); exact (Kd.R_mono (Kd.R_far (p := ⟨gb657, 2, none⟩) (Kd.R_far (p := ⟨gb657, 1, none⟩) (Kd.R_far (p := ⟨gb657, 0, none⟩) (Kd.R_types HO652.out BK657.out (by decide)) (fun _ hk => hk.2) (.int .i64 t649)) (fun _ hk => hk.2) (.slice Ao40 t650.length co40)) (fun _ hk => hk.2) (.slice Ao41 t653.length co41)) (fun _ h_ => h_.1)))); (case side2 => exact (Kd.R_reads' HO652.out).2.1); (case side3 => refine (Kd.R_reads' (e := 71) (base := w.heap.size) (ok := fun k_ => (((True ∧ some k_ ≠ (.slice Ao19 t629.length co19 : Value).ownBlock) ∧ some k_ ≠ (.slice Ao25 t636.length co25 : Value).ownBlock) ∧ some k_ ≠ (.slice Ao33 t645.length co33 : Value).ownBlock)) (n := t653.length) (c := co41) ?_).2.2; exact (by (with_reducible repeat (first | apply Kd.R_alloc | apply Kd.R_drewN | apply Kd.R_drew)); exact (Kd.R_mono (Kd.R_far (p := ⟨gb657, 2, none⟩) (Kd.R_far (p := ⟨gb657, 1, none⟩) (Kd.R_far (p := ⟨gb657, 0, none⟩) (Kd.R_types HO655.out BK657.out (by decide)) (fun _ hk => hk.2) (.int .i64 t649)) (fun _ hk => hk.2) (.slice Ao40 t650.length co40)) (fun _ hk => hk.2) (.slice Ao41 t653.length co41)) (fun _ h_ => h_.1)))); (case side4 => exact (Kd.R_reads' HO655.out).2.1); (case side5 => refine (Kd.R_reads' (e := 3) (base := w.heap.size) (ok := fun k_ => (((True ∧ some k_ ≠ (.slice Ao18 t626.length co18 : Value).ownBlock) ∧ some k_ ≠ (.slice Ao32 t642.length co32 : Value).ownBlock) ∧ some k_ ≠ (.slice Ao40 t650.length co40 : Value).ownBlock)) (n := t633.length) (c := co24) ?_).2.2; exact (by (with_reducible repeat (first | apply Kd.R_alloc | apply Kd.R_drewN | apply Kd.R_drew)); exact (Kd.R_mono (Kd.R_far (p := ⟨gb657, 2, none⟩) (Kd.R_far (p := ⟨gb657, 1, none⟩) (Kd.R_far (p := ⟨gb657, 0, none⟩) (Kd.R_types HO635.out BK657.out (by decide)) (fun _ hk => hk.2) (.int .i64 t649)) (fun _ hk => hk.2) (.slice Ao40 t650.length co40)) (fun _ hk => hk.2) (.slice Ao41 t653.length co41)) (fun _ h_ => h_.1)))); (case side6 => exact (Kd.R_reads' HO635.out).2.1); (case side7 => refine (Kd.R_reads' (e := 71) (base := w.heap.size) (ok := fun k_ => (((True ∧ some k_ ≠ (.slice Ao19 t629.length co19 : Value).ownBlock) ∧ some k_ ≠ (.slice Ao33 t645.length co33 : Value).ownBlock) ∧ some k_ ≠ (.slice Ao41 t653.length co41 : Value).ownBlock)) (n := t636.length) (c := co25) ?_).2.2; exact (by (with_reducible repeat (first | apply Kd.R_alloc | apply Kd.R_drewN | apply Kd.R_drew)); exact (Kd.R_mono (Kd.R_far (p := ⟨gb657, 2, none⟩) (Kd.R_far (p := ⟨gb657, 1, none⟩) (Kd.R_far (p := ⟨gb657, 0, none⟩) (Kd.R_types HO638.out BK657.out (by decide)) (fun _ hk => hk.2) (.int .i64 t649)) (fun _ hk => hk.2) (.slice Ao40 t650.length co40)) (fun _ hk => hk.2) (.slice Ao41 t653.length co41)) (fun _ h_ => h_.1)))); (case side8 => exact (Kd.R_reads' HO638.out).2.1); rintro e w59 ⟨rfl, hb⟩; refine ⟨_, rfl, ?_⟩; have n0_ := Aside0.mk (Kd.R_below (by (with_reducible repeat (first | apply Kd.R_alloc | apply Kd.R_drewN | apply Kd.R_drew)); exact (Kd.R_mono (Kd.R_far (p := ⟨gb657, 2, none⟩) (Kd.R_far (p := ⟨gb657, 1, none⟩) (Kd.R_far (p := ⟨gb657, 0, none⟩) (Kd.R_types HO628.out BK657.out (by decide)) (fun _ hk => hk.2) (.int .i64 t649)) (fun _ hk => hk.2) (.slice Ao40 t650.length co40)) (fun _ hk => hk.2) (.slice Ao41 t653.length co41)) (fun _ h_ => h_.1))) hb); have n1_ := Aside0.mk (Kd.R_below (by (with_reducible repeat (first | apply Kd.R_alloc | apply Kd.R_drewN | apply Kd.R_drew)); exact (Kd.R_mono (Kd.R_far (p := ⟨gb657, 2, none⟩) (Kd.R_far (p := ⟨gb657, 1, none⟩) (Kd.R_far (p := ⟨gb657, 0, none⟩) (Kd.R_types HO631.out BK657.out (by decide)) (fun _ hk => hk.2) (.int .i64 t649)) (fun _ hk => hk.2) (.slice Ao40 t650.length co40)) (fun _ hk => hk.2) (.slice Ao41 t653.length co41)) (fun _ h_ => h_.1))) hb); have n2_ := Aside0.mk (Kd.R_below (by (with_reducible repeat (first | apply Kd.R_alloc | apply Kd.R_drewN | apply Kd.R_drew)); exact (Kd.R_mono (Kd.R_far (p := ⟨gb657, 2, none⟩) (Kd.R_far (p := ⟨gb657, 1, none⟩) (Kd.R_far (p := ⟨gb657, 0, none⟩) (Kd.R_types HO635.out BK657.out (by decide)) (fun _ hk => hk.2) (.int .i64 t649)) (fun _ hk => hk.2) (.slice Ao40 t650.length co40)) (fun _ hk => hk.2) (.slice Ao41 t653.length co41)) (fun _ h_ => h_.1))) hb); have n3_ := Aside0.mk (Kd.R_below (by (with_reducible repeat (first | apply Kd.R_alloc | apply Kd.R_drewN | apply Kd.R_drew)); exact (Kd.R_mono (Kd.R_far (p := ⟨gb657, 2, none⟩) (Kd.R_far (p := ⟨gb657, 1, none⟩) (Kd.R_far (p := ⟨gb657, 0, none⟩) (Kd.R_types HO638.out BK657.out (by decide)) (fun _ hk => hk.2) (.int .i64 t649)) (fun _ hk => hk.2) (.slice Ao40 t650.length co40)) (fun _ hk => hk.2) (.slice Ao41 t653.length co41)) (fun _ h_ => h_.1))) hb); have n4_ := Aside0.mk (Kd.R_below (by (with_reducible repeat (first | apply Kd.R_alloc | apply Kd.R_drewN | apply Kd.R_drew)); exact (Kd.R_mono (Kd.R_far (p := ⟨gb657, 2, none⟩) (Kd.R_far (p := ⟨gb657, 1, none⟩) (Kd.R_far (p := ⟨gb657, 0, none⟩) (Kd.R_types HO644.out BK657.out (by decide)) (fun _ hk => hk.2) (.int .i64 t649)) (fun _ hk => hk.2) (.slice Ao40 t650.length co40)) (fun _ hk => hk.2) (.slice Ao41 t653.length co41)) (fun _ h_ => h_.1))) hb); have n5_ := Aside0.mk (Kd.R_below (by (with_reducible repeat (first | apply Kd.R_alloc | apply Kd.R_drewN | apply Kd.R_drew)); exact (Kd.R_mono (Kd.R_far (p := ⟨gb657, 2, none⟩) (Kd.R_far (p := ⟨gb657, 1, none⟩) (Kd.R_far (p := ⟨gb657, 0, none⟩) (Kd.R_types HO647.out BK657.out (by decide)) (fun _ hk => hk.2) (.int .i64 t649)) (fun _ hk => hk.2) (.slice Ao40 t650.length co40)) (fun _ hk => hk.2) (.slice Ao41 t653.length co41)) (fun _ h_ => h_.1))) hb); have n6_ := Aside0.mk (Kd.R_below (by (with_reducible repeat (first | apply Kd.R_alloc | apply Kd.R_drewN | apply Kd.R_drew)); exact (Kd.R_mono (Kd.R_far (p := ⟨gb657, 2, none⟩) (Kd.R_far (p := ⟨gb657, 1, none⟩) (Kd.R_far (p := ⟨gb657, 0, none⟩) (Kd.R_types HO652.out BK657.out (by decide)) (fun _ hk => hk.2) (.int .i64 t649)) (fun _ hk => hk.2) (.slice Ao40 t650.length co40)) (fun _ hk => hk.2) (.slice Ao41 t653.length co41)) (fun _ h_ => h_.1))) hb); have n7_ := Aside0.mk (Kd.R_below (by (with_reducible repeat (first | apply Kd.R_alloc | apply Kd.R_drewN | apply Kd.R_drew)); exact (Kd.R_mono (Kd.R_far (p := ⟨gb657, 2, none⟩) (Kd.R_far (p := ⟨gb657, 1, none⟩) (Kd.R_far (p := ⟨gb657, 0, none⟩) (Kd.R_types HO655.out BK657.out (by decide)) (fun _ hk => hk.2) (.int .i64 t649)) (fun _ hk => hk.2) (.slice Ao40 t650.length co40)) (fun _ hk => hk.2) (.slice Ao41 t653.length co41)) (fun _ h_ => h_.1))) hb); have n8_ := Aside0.mk (blk_below (g := gb623) (o := .cells #[.int .i64 a0_0, .slice A0_1 l0_1.length c0_1, .slice A0_2 l0_2.length c0_2] 25 (0, 0)) (by (with_reducible repeat (first | refine blk_drewN ?_ _ | refine blk_drew ?_ | refine blk_alloc ?_ _)); refine blk_far ?_ NB623_657.out _; (with_reducible repeat (first | refine blk_drewN ?_ _ | refine blk_drew ?_ | refine blk_alloc ?_ _)); refine blk_far ?_ NB623_657.out _; (with_reducible repeat (first | refine blk_drewN ?_ _ | refine blk_drew ?_ | refine blk_alloc ?_ _)); refine blk_far ?_ NB623_657.out _; (with_reducible repeat (first | refine blk_drewN ?_ _ | refine blk_drew ?_ | refine blk_alloc ?_ _)); exact BK623.out) hb); have n9_ := Aside0.mk (blk_below (g := gb640) (o := .cells #[.int .i64 t632, .slice Ao24 t633.length co24, .slice Ao25 t636.length co25] 30 (0, 0)) (by (with_reducible repeat (first | refine blk_drewN ?_ _ | refine blk_drew ?_ | refine blk_alloc ?_ _)); refine blk_far ?_ NB640_657.out _; (with_reducible repeat (first | refine blk_drewN ?_ _ | refine blk_drew ?_ | refine blk_alloc ?_ _)); refine blk_far ?_ NB640_657.out _; (with_reducible repeat (first | refine blk_drewN ?_ _ | refine blk_drew ?_ | refine blk_alloc ?_ _)); refine blk_far ?_ NB640_657.out _; (with_reducible repeat (first | refine blk_drewN ?_ _ | refine blk_drew ?_ | refine blk_alloc ?_ _)); exact BK640.out) hb); have n10_ := Aside0.mk (blk_below (g := gb648) (o := .cells #[.int .i64 t641, .slice Ao32 t642.length co32, .slice Ao33 t645.length co33] 30 (0, 0)) (by (with_reducible repeat (first | refine blk_drewN ?_ _ | refine blk_drew ?_ | refine blk_alloc ?_ _)); refine blk_far ?_ NB648_657.out _; (with_reducible repeat (first | refine blk_drewN ?_ _ | refine blk_drew ?_ | refine blk_alloc ?_ _)); refine blk_far ?_ NB648_657.out _; (with_reducible repeat (first | refine blk_drewN ?_ _ | refine blk_drew ?_ | refine blk_alloc ?_ _)); refine blk_far ?_ NB648_657.out _; (with_reducible repeat (first | refine blk_drewN ?_ _ | refine blk_drew ?_ | refine blk_alloc ?_ _)); exact BK648.out) hb); have n11_ := Aside0.mk (blk_below (g := gb657) (o := .cells #[.int .i64 t649, .slice Ao40 t650.length co40, .slice Ao41 t653.length co41] 30 (0, 0)) (by (with_reducible repeat (first | refine blk_drewN ?_ _ | refine blk_drew ?_ | refine blk_alloc ?_ _)); refine blk_put (cs := #[.int .i64 t649, .slice Ao40 t650.length co40, .slice none 0 0]) ?_ 2 _ rfl; (with_reducible repeat (first | refine blk_drewN ?_ _ | refine blk_drew ?_ | refine blk_alloc ?_ _)); refine blk_put (cs := #[.int .i64 t649, .slice none 0 0, .slice none 0 0]) ?_ 1 _ rfl; (with_reducible repeat (first | refine blk_drewN ?_ _ | refine blk_drew ?_ | refine blk_alloc ?_ _)); refine blk_put (cs := #[.int .i64 0, .slice none 0 0, .slice none 0 0]) ?_ 0 _ rfl; (with_reducible repeat (first | refine blk_drewN ?_ _ | refine blk_drew ?_ | refine blk_alloc ?_ _)); exact BK657.out) hb); have n12_ := Aside0.mk (below_step (by repeat (first | (with_reducible first | exact HB.out | apply below_alloc | apply pw_below_drewN | apply below_drew1 | refine below_set ?_ GE623.out | refine below_set ?_ GE640.out | refine below_set ?_ GE648.out | refine below_set ?_ GE657.out) | exact HB.out)) hb); clear HO628; clear HO631; clear HO635; clear HO638; clear HO644; clear HO647; clear HO652; clear HO655; clear BK623; clear BK640; clear BK648; clear BK657; clear HB; have HO628 := n0_; have HO631 := n1_; have HO635 := n2_; have HO638 := n3_; have HO644 := n4_; have HO647 := n5_; have HO652 := n6_; have HO655 := n7_; have BK623 := n8_; have BK640 := n9_; have BK648 := n10_; have BK657 := n11_; have HB := n12_; clear n0_ n1_ n2_ n3_ n4_ n5_ n6_ n7_ n8_ n9_ n10_ n11_ n12_; (try clear hb); (try clear hb2); (try clear hk); (try clear hi)))
        go_meet
        case rel => exact ⟨_, (true), (by first | rfl | (simp; done) | (simp [*]; done)), H', ⟨by first | omega | exact Nat.le_refl _⟩, ⟨by (with_reducible repeat (first | apply Kd.R_alloc | apply Kd.R_drewN | apply Kd.R_drew)); exact Kd.R_mono HO635.out (fun _ hk => ⟨hk.1.2, hk.2⟩)⟩, ⟨by (with_reducible repeat (first | apply Kd.R_alloc | apply Kd.R_drewN | apply Kd.R_drew)); exact Kd.R_mono HO638.out (fun _ hk => ⟨hk.1.2, hk.2⟩)⟩, ⟨by (with_reducible repeat (first | apply Kd.R_alloc | apply Kd.R_drewN | apply Kd.R_drew)); exact Kd.R_mono HO644.out (fun _ hk => ⟨hk.1.2, hk.2⟩)⟩, ⟨by (with_reducible repeat (first | apply Kd.R_alloc | apply Kd.R_drewN | apply Kd.R_drew)); exact Kd.R_mono HO647.out (fun _ hk => ⟨hk.1.2, hk.2⟩)⟩, ⟨by (with_reducible repeat (first | apply Kd.R_alloc | apply Kd.R_drewN | apply Kd.R_drew)); exact Kd.R_mono HO652.out (fun _ hk => ⟨hk.1.2, hk.2⟩)⟩, ⟨by (with_reducible repeat (first | apply Kd.R_alloc | apply Kd.R_drewN | apply Kd.R_drew)); exact Kd.R_mono HO655.out (fun _ hk => ⟨hk.1.2, hk.2⟩)⟩, ⟨by (with_reducible repeat (first | refine blk_drewN ?_ _ | refine blk_drew ?_ | refine blk_alloc ?_ _)); exact BK623.out⟩, ⟨by (with_reducible repeat (first | refine blk_drewN ?_ _ | refine blk_drew ?_ | refine blk_alloc ?_ _)); exact BK640.out⟩, ⟨by (with_reducible repeat (first | refine blk_drewN ?_ _ | refine blk_drew ?_ | refine blk_alloc ?_ _)); exact BK648.out⟩, ⟨by (with_reducible repeat (first | refine blk_drewN ?_ _ | refine blk_drew ?_ | refine blk_alloc ?_ _)); exact BK657.out⟩, ⟨by repeat (first | (with_reducible first | exact HB.out | apply below_alloc | apply pw_below_drewN | apply below_drew1 | refine below_set ?_ GE623.out | refine below_set ?_ GE640.out | refine below_set ?_ GE648.out | refine below_set ?_ GE657.out) | exact HB.out)⟩⟩
    case rest =>
      clear HC12
      try clear c1
      try clear c2
      try clear p2
      try clear c3
      try clear c4
      try clear c4b0
      try clear c5
      try clear c9
      try clear c15
      try clear c17
      try clear c19
      try clear c22
      try clear c29
      try clear c30
      try clear c36
      try clear c37
      try clear c38
      try clear c39
      try clear c40
      try clear c43
      try clear c44
      try clear c45
      try clear c46
      try clear c48
      try clear c49
      try clear c52
      try clear c53
      try clear c54
      try clear c56
      try clear c57
      try clear hcz14_0
      try clear hcz14_1
      try clear hcz14_2
      try clear hcz16_0
      try clear hcz16_1
      try clear hcz16_2
      try clear hcz23_0
      try clear hcz23_1
      try clear hcz23_2
      try clear hcz26_0
      try clear hcz26_1
      try clear hcz26_2
      try clear hcz31_0
      try clear hcz31_1
      try clear hcz31_2
      try clear hcz39_0
      try clear hcz39_1
      try clear hcz39_2
      try clear hcz47_0
      try clear hcz47_1
      try clear hcz47_2
      try clear hcz50_0
      try clear hcz50_1
      try clear hcz50_2
      try clear hcz55_0
      try clear hcz55_1
      try clear hcz55_2
      try clear hcz58_0
      try clear hcz58_1
      try clear hcz58_2
      try clear hcz6_0
      try clear hcz6_1
      try clear hcz6_2
      try clear hfz14_0
      try clear hfz14_1
      try clear hfz14_2
      try clear hfz16_0
      try clear hfz16_1
      try clear hfz16_2
      try clear hfz23_0
      try clear hfz23_1
      try clear hfz23_2
      try clear hfz26_0
      try clear hfz26_1
      try clear hfz26_2
      try clear hfz31_0
      try clear hfz31_1
      try clear hfz31_2
      try clear hfz39_0
      try clear hfz39_1
      try clear hfz39_2
      try clear hfz47_0
      try clear hfz47_1
      try clear hfz47_2
      try clear hfz50_0
      try clear hfz50_1
      try clear hfz50_2
      try clear hfz55_0
      try clear hfz55_1
      try clear hfz55_2
      try clear hfz58_0
      try clear hfz58_1
      try clear hfz58_2
      try clear hfz6_0
      try clear hfz6_1
      try clear hfz6_2
      obtain ⟨kq, x44_11, rfl, HA, HJ11, HO_641001, HO_641002, HO_649001, HO_649002, HO_658001, HO_658002, BK623, BK640, BK648, BK657, HB⟩ := hcut
      cases kq with
      | zero => exact absurd HA.out (by simp [laws_FnExactTakeOut.j0])
      | succ kj11 =>
        have H := HA.out
        clear HA
        simp only [laws_FnExactTakeOut.j0] at H
        by_cases c60 : x44_11 = true
        · subst c60
          have H1 : (some false) = some r := by rw [if_pos rfl] at H; exact H
          clear H
          have H := H1
          clear H1
          exact absurd (Option.some.inj H) (by rw [hr_.out]; decide)
        · replace c60 := Bool.eq_false_iff.mpr c60
          subst c60
          have H1 : ((laws_toColumn.f kj11 a0_0 l0_1 l0_2).bind fun bt659 => ((laws_eqColumn.f kj11 t641 t642 t645 bt659.1 bt659.2.1 bt659.2.2).bind fun t666 => (if t666 = true then ((laws_markColumn.f kj11 t641 t642 t645 1).bind fun bt667 => (if bt667.1 < 0 then (laws_FnExactTakeOut.j1 kj11 a1 t639 true a0_0 l0_1 l0_2 t632 t633 t636 t649 t650 t653) else ((laws_eqColumn.f kj11 t649 t650 t653 t632 t633 t636).bind fun t670 => (if t670 = true then (laws_FnExactTakeOut.j1 kj11 a1 t639 (t656 != t639) a0_0 l0_1 l0_2 t632 t633 t636 t649 t650 t653) else (laws_FnExactTakeOut.j1 kj11 a1 t639 true a0_0 l0_1 l0_2 t632 t633 t636 t649 t650 t653))))) else (some false)))) = some r := by rw [if_neg (show ¬ (false = true) by decide)] at H; exact H
          clear H
          have H := H1
          clear H1
          replace H := Option.bind_eq_some_iff.mp H
          obtain ⟨⟨t659, t660, t663⟩, A610, H⟩ := H
          replace H : ((laws_eqColumn.f kj11 t641 t642 t645 t659 t660 t663).bind fun t666 => (if t666 = true then ((laws_markColumn.f kj11 t641 t642 t645 1).bind fun bt667 => (if bt667.1 < 0 then (laws_FnExactTakeOut.j1 kj11 a1 t639 true a0_0 l0_1 l0_2 t632 t633 t636 t649 t650 t653) else ((laws_eqColumn.f kj11 t649 t650 t653 t632 t633 t636).bind fun t670 => (if t670 = true then (laws_FnExactTakeOut.j1 kj11 a1 t639 (t656 != t639) a0_0 l0_1 l0_2 t632 t633 t636 t649 t650 t653) else (laws_FnExactTakeOut.j1 kj11 a1 t639 true a0_0 l0_1 l0_2 t632 t633 t636 t649 t650 t653))))) else (some false))) = some r := H
          have A61 := Aside0.mk A610
          clear A610
          replace H := Option.bind_eq_some_iff.mp H
          obtain ⟨t666, A620, H⟩ := H
          replace H : (if t666 = true then ((laws_markColumn.f kj11 t641 t642 t645 1).bind fun bt667 => (if bt667.1 < 0 then (laws_FnExactTakeOut.j1 kj11 a1 t639 true a0_0 l0_1 l0_2 t632 t633 t636 t649 t650 t653) else ((laws_eqColumn.f kj11 t649 t650 t653 t632 t633 t636).bind fun t670 => (if t670 = true then (laws_FnExactTakeOut.j1 kj11 a1 t639 (t656 != t639) a0_0 l0_1 l0_2 t632 t633 t636 t649 t650 t653) else (laws_FnExactTakeOut.j1 kj11 a1 t639 true a0_0 l0_1 l0_2 t632 t633 t636 t649 t650 t653))))) else (some false)) = some r := H
          have A62 := Aside0.mk A620
          clear A620
          by_cases c63 : t666 = true
          · subst c63
            have H1 : ((laws_markColumn.f kj11 t641 t642 t645 1).bind fun bt667 => (if bt667.1 < 0 then (laws_FnExactTakeOut.j1 kj11 a1 t639 true a0_0 l0_1 l0_2 t632 t633 t636 t649 t650 t653) else ((laws_eqColumn.f kj11 t649 t650 t653 t632 t633 t636).bind fun t670 => (if t670 = true then (laws_FnExactTakeOut.j1 kj11 a1 t639 (t656 != t639) a0_0 l0_1 l0_2 t632 t633 t636 t649 t650 t653) else (laws_FnExactTakeOut.j1 kj11 a1 t639 true a0_0 l0_1 l0_2 t632 t633 t636 t649 t650 t653))))) = some r := by rw [if_pos rfl] at H; exact H
            clear H
            have H := H1
            clear H1
            replace H := Option.bind_eq_some_iff.mp H
            obtain ⟨⟨t667, t668, t669⟩, A640, H⟩ := H
            replace H : (if t667 < 0 then (laws_FnExactTakeOut.j1 kj11 a1 t639 true a0_0 l0_1 l0_2 t632 t633 t636 t649 t650 t653) else ((laws_eqColumn.f kj11 t649 t650 t653 t632 t633 t636).bind fun t670 => (if t670 = true then (laws_FnExactTakeOut.j1 kj11 a1 t639 (t656 != t639) a0_0 l0_1 l0_2 t632 t633 t636 t649 t650 t653) else (laws_FnExactTakeOut.j1 kj11 a1 t639 true a0_0 l0_1 l0_2 t632 t633 t636 t649 t650 t653)))) = some r := H
            have A64 := Aside0.mk A640
            clear A640
            have HC65 := Aside0.mk H
            clear H
            try go_wp2
            have n0_ := Aside0.mk (Kd.R_drew HO_641001.out)
            have n1_ := Aside0.mk (Kd.R_drew HO_641002.out)
            have n2_ := Aside0.mk (Kd.R_drew HO_649001.out)
            have n3_ := Aside0.mk (Kd.R_drew HO_649002.out)
            have n4_ := Aside0.mk (Kd.R_drew HO_658001.out)
            have n5_ := Aside0.mk (Kd.R_drew HO_658002.out)
            have n6_ := Aside0.mk (blk_drew BK623.out)
            have n7_ := Aside0.mk (blk_drew BK640.out)
            have n8_ := Aside0.mk (blk_drew BK648.out)
            have n9_ := Aside0.mk (blk_drew BK657.out)
            have n10_ := Aside0.mk (below_drew1 HB.out)
            clear HO_641001
            clear HO_641002
            clear HO_649001
            clear HO_649002
            clear HO_658001
            clear HO_658002
            clear BK623
            clear BK640
            clear BK648
            clear BK657
            clear HB
            have HO_641001 := n0_
            have HO_641002 := n1_
            have HO_649001 := n2_
            have HO_649002 := n3_
            have HO_658001 := n4_
            have HO_658002 := n5_
            have BK623 := n6_
            have BK640 := n7_
            have BK648 := n8_
            have BK657 := n9_
            have HB := n10_
            clear n0_ n1_ n2_ n3_ n4_ n5_ n6_ n7_ n8_ n9_ n10_
            refine start_ (n := 5) (S := fun w' => w'.cell? ⟨gb648, 0, none⟩ = some (.int .i64 t641) ∧ w'.cell? ⟨gb648, 1, none⟩ = some (.slice Ao32 t642.length co32) ∧ w'.cell? ⟨gb648, 2, none⟩ = some (.slice Ao33 t645.length co33) ∧ w'.cell? ⟨gb623, 0, none⟩ = some (.int .i64 a0_0) ∧ w'.cell? ⟨gb623, 1, none⟩ = some (.slice A0_1 l0_1.length c0_1) ∧ w'.cell? ⟨gb623, 2, none⟩ = some (.slice A0_2 l0_2.length c0_2)) (ds := []) #[false, false, false, false, false] (by kernel_rfl) rfl rfl ⟨(blk_cell BK648.out 0).trans rfl, (blk_cell BK648.out 1).trans rfl, (blk_cell BK648.out 2).trans rfl, (blk_cell BK623.out 0).trans rfl, (blk_cell BK623.out 1).trans rfl, (blk_cell BK623.out 2).trans rfl⟩ (fun hHeld => ?_)
            generalize wc.drew = w66 at HO_641001 HO_641002 HO_649001 HO_649002 HO_658001 HO_658002 BK623 BK640 BK648 BK657 HB hHeld ⊢
            refine take_ (i := 0) (N := some 45) (v := ?_) (a' := ?_) #[true, false, false, false, false] rfl rfl (by kernel_rfl) (fun _ _ _ h => h) (Or.inl ⟨by rfl, ?_⟩) hHeld ?_ ?_
            rotate_left
            · rintro w' ⟨s0, s1, s2, s3, s4, s5⟩
              go_simp
              with_reducible rfl
            rotate_left
            · simp only [Act.put, List.setIfInBounds_toArray, List.set_cons_zero, List.set_cons_succ, i64_w, i32_w]
              rfl
            refine take_ (i := 1) (N := some 46) (v := ?_) (a' := ?_) #[true, true, false, false, false] rfl rfl (by kernel_rfl) (fun _ _ _ h => h) (Or.inl ⟨by rfl, ?_⟩) hHeld ?_ ?_
            rotate_left
            · rintro w' ⟨s0, s1, s2, s3, s4, s5⟩
              go_simp
              with_reducible rfl
            rotate_left
            · simp only [Act.put, List.setIfInBounds_toArray, List.set_cons_zero, List.set_cons_succ, i64_w, i32_w]
              rfl
            refine one_ (i := 2) (N := some 47) #[true, true, true, false, false] rfl rfl (by kernel_rfl) (by decide) (fun K hK => ?_)
            refine goes_ Try.func17 (by kernel_rfl) rfl #[.agg #[.int .i64 a0_0, .slice A0_1 l0_1.length c0_1, .slice A0_2 l0_2.length c0_2]] (by rfl) rfl rfl (by (try simp only [List.map_toArray, List.map_cons, List.map_nil]); first | done | rfl | (simp only [List.length_drop, List.length_take]; rfl)) ?_
            with_reducible refine (laws_toColumn.calls kj11 a0_0 _ _ l0_1 _ _ l0_2 t659 t660 t663 _ ?side1 ?side2 ?side3 ?side4 A61.out).mono ?_
            (case side1 => repeat (first | exact (Kd.C_below HR0_1.out HB.out) | (with_reducible refine Kd.C_alloc ?_ _) | (with_reducible refine Kd.C_drewN ?_ _) | (with_reducible refine Kd.C_drew ?_)))
            (case side2 => exact HC0_1.out)
            (case side3 => repeat (first | exact (Kd.C_below HR0_2.out HB.out) | (with_reducible refine Kd.C_alloc ?_ _) | (with_reducible refine Kd.C_drewN ?_ _) | (with_reducible refine Kd.C_drew ?_)))
            (case side4 => exact HC0_2.out)
            rintro e w67 ⟨v661, v664, rfl, ho0, ho1, hb⟩
            refine ⟨_, rfl, ?_⟩
            have n0_ := Aside0.mk (Kd.R_elder' (by (with_reducible repeat (first | apply Kd.R_alloc | apply Kd.R_drewN | apply Kd.R_drew)); exact HO_641001.out) (Kd.R_base ho0) hb)
            have n1_ := Aside0.mk (Kd.R_elder' (by (with_reducible repeat (first | apply Kd.R_alloc | apply Kd.R_drewN | apply Kd.R_drew)); exact HO_641002.out) (Kd.R_base ho1) hb)
            have n2_ := Aside0.mk (Kd.R_elder' (by (with_reducible repeat (first | apply Kd.R_alloc | apply Kd.R_drewN | apply Kd.R_drew)); exact HO_649001.out) (Kd.R_base ho0) hb)
            have n3_ := Aside0.mk (Kd.R_elder' (by (with_reducible repeat (first | apply Kd.R_alloc | apply Kd.R_drewN | apply Kd.R_drew)); exact HO_649002.out) (Kd.R_base ho1) hb)
            have n4_ := Aside0.mk (Kd.R_elder' (by (with_reducible repeat (first | apply Kd.R_alloc | apply Kd.R_drewN | apply Kd.R_drew)); exact HO_658001.out) (Kd.R_base ho0) hb)
            have n5_ := Aside0.mk (Kd.R_elder' (by (with_reducible repeat (first | apply Kd.R_alloc | apply Kd.R_drewN | apply Kd.R_drew)); exact HO_658002.out) (Kd.R_base ho1) hb)
            have n6_ := Aside0.mk (Kd.R_lower (Kd.R_new' (Kd.R_new' (Kd.R_new' ho0 (Kd.R_lt (by (with_reducible repeat (first | apply Kd.R_alloc | apply Kd.R_drewN | apply Kd.R_drew)); exact HO_641001.out))) (Kd.R_lt (by (with_reducible repeat (first | apply Kd.R_alloc | apply Kd.R_drewN | apply Kd.R_drew)); exact HO_649001.out))) (Kd.R_lt (by (with_reducible repeat (first | apply Kd.R_alloc | apply Kd.R_drewN | apply Kd.R_drew)); exact HO_658001.out))) (below_size (by repeat (first | (with_reducible first | exact HB.out | apply below_alloc | apply pw_below_drewN | apply below_drew1 | refine below_set ?_ GE623.out | refine below_set ?_ GE640.out | refine below_set ?_ GE648.out | refine below_set ?_ GE657.out) | exact HB.out))))
            have n7_ := Aside0.mk (Kd.R_lower (Kd.R_new' (Kd.R_new' (Kd.R_new' ho1 (Kd.R_lt (by (with_reducible repeat (first | apply Kd.R_alloc | apply Kd.R_drewN | apply Kd.R_drew)); exact HO_641002.out))) (Kd.R_lt (by (with_reducible repeat (first | apply Kd.R_alloc | apply Kd.R_drewN | apply Kd.R_drew)); exact HO_649002.out))) (Kd.R_lt (by (with_reducible repeat (first | apply Kd.R_alloc | apply Kd.R_drewN | apply Kd.R_drew)); exact HO_658002.out))) (below_size (by repeat (first | (with_reducible first | exact HB.out | apply below_alloc | apply pw_below_drewN | apply below_drew1 | refine below_set ?_ GE623.out | refine below_set ?_ GE640.out | refine below_set ?_ GE648.out | refine below_set ?_ GE657.out) | exact HB.out))))
            have n8_ := Aside0.mk (blk_below (g := gb623) (o := .cells #[.int .i64 a0_0, .slice A0_1 l0_1.length c0_1, .slice A0_2 l0_2.length c0_2] 25 (0, 0)) (by (with_reducible repeat (first | refine blk_drewN ?_ _ | refine blk_drew ?_ | refine blk_alloc ?_ _)); exact BK623.out) hb)
            have n9_ := Aside0.mk (blk_below (g := gb640) (o := .cells #[.int .i64 t632, .slice Ao24 t633.length co24, .slice Ao25 t636.length co25] 30 (0, 0)) (by (with_reducible repeat (first | refine blk_drewN ?_ _ | refine blk_drew ?_ | refine blk_alloc ?_ _)); exact BK640.out) hb)
            have n10_ := Aside0.mk (blk_below (g := gb648) (o := .cells #[.int .i64 t641, .slice Ao32 t642.length co32, .slice Ao33 t645.length co33] 30 (0, 0)) (by (with_reducible repeat (first | refine blk_drewN ?_ _ | refine blk_drew ?_ | refine blk_alloc ?_ _)); exact BK648.out) hb)
            have n11_ := Aside0.mk (blk_below (g := gb657) (o := .cells #[.int .i64 t649, .slice Ao40 t650.length co40, .slice Ao41 t653.length co41] 30 (0, 0)) (by (with_reducible repeat (first | refine blk_drewN ?_ _ | refine blk_drew ?_ | refine blk_alloc ?_ _)); exact BK657.out) hb)
            have n12_ := Aside0.mk (below_step (by repeat (first | (with_reducible first | exact HB.out | apply below_alloc | apply pw_below_drewN | apply below_drew1 | refine below_set ?_ GE623.out | refine below_set ?_ GE640.out | refine below_set ?_ GE648.out | refine below_set ?_ GE657.out) | exact HB.out)) hb)
            clear HO_641001
            clear HO_641002
            clear HO_649001
            clear HO_649002
            clear HO_658001
            clear HO_658002
            clear BK623
            clear BK640
            clear BK648
            clear BK657
            clear HB
            have HO_641001 := n0_
            have HO_641002 := n1_
            have HO_649001 := n2_
            have HO_649002 := n3_
            have HO_658001 := n4_
            have HO_658002 := n5_
            have HO662 := n6_
            have HO665 := n7_
            have BK623 := n8_
            have BK640 := n9_
            have BK648 := n10_
            have BK657 := n11_
            have HB := n12_
            clear n0_ n1_ n2_ n3_ n4_ n5_ n6_ n7_ n8_ n9_ n10_ n11_ n12_
            (try clear hb)
            (try clear hb2)
            (try clear hk)
            (try clear hi)
            (try clear ho0)
            (try clear ho1)
            obtain ⟨Ao68, co68, eo68⟩ := Kd.R_slice HO662.out
            (first | subst eo68 | (injection eo68 with f1_ f2_ f3_; have f4_ := f1_.symm; have f5_ := f3_.symm; clear f1_ f2_ f3_; subst f4_; subst f5_))
            obtain ⟨Ao69, co69, eo69⟩ := Kd.R_slice HO665.out
            (first | subst eo69 | (injection eo69 with f1_ f2_ f3_; have f4_ := f1_.symm; have f5_ := f3_.symm; clear f1_ f2_ f3_; subst f4_; subst f5_))
            refine hK.out _ _ ⟨(blk_cell BK648.out 0).trans rfl, (blk_cell BK648.out 1).trans rfl, (blk_cell BK648.out 2).trans rfl, (blk_cell BK623.out 0).trans rfl, (blk_cell BK623.out 1).trans rfl, (blk_cell BK623.out 2).trans rfl⟩ (fun hHeld => ?_)
            clear hK K
            refine norm_ (a' := ?_) ?_ ?_
            rotate_left
            · show Act.put _ (some 47) _ = _
              simp only [Act.put, List.setIfInBounds_toArray, List.set_cons_zero, List.set_cons_succ, i64_w, i32_w]
              rfl
            refine one_ (i := 3) (N := some 48) #[true, true, true, true, false] rfl rfl (by kernel_rfl) (by decide) (fun K hK => ?_)
            refine goes_ Try.func19 (by kernel_rfl) rfl #[.agg #[.int .i64 t641, .slice Ao32 t642.length co32, .slice Ao33 t645.length co33], .agg #[.int .i64 t659, .slice Ao68 t660.length co68, .slice Ao69 t663.length co69]] (by rfl) rfl rfl (by (try simp only [List.map_toArray, List.map_cons, List.map_nil]); first | done | rfl | (simp only [List.length_drop, List.length_take]; rfl)) ?_
            with_reducible refine (laws_eqColumn.calls kj11 t641 _ _ t642 _ _ t645 t659 _ _ t660 _ _ t663 true _ ?side1 ?side2 ?side3 ?side4 ?side5 ?side6 ?side7 ?side8 A62.out).mono ?_
            (case side1 => repeat (first | exact (Kd.R_reads' HO_649001.out).2.2 | (with_reducible refine Kd.C_alloc ?_ _) | (with_reducible refine Kd.C_drewN ?_ _) | (with_reducible refine Kd.C_drew ?_)))
            (case side2 => exact (Kd.R_reads' HO_649001.out).2.1)
            (case side3 => repeat (first | exact (Kd.R_reads' HO_649002.out).2.2 | (with_reducible refine Kd.C_alloc ?_ _) | (with_reducible refine Kd.C_drewN ?_ _) | (with_reducible refine Kd.C_drew ?_)))
            (case side4 => exact (Kd.R_reads' HO_649002.out).2.1)
            (case side5 => repeat (first | exact (Kd.R_reads' HO662.out).2.2 | (with_reducible refine Kd.C_alloc ?_ _) | (with_reducible refine Kd.C_drewN ?_ _) | (with_reducible refine Kd.C_drew ?_)))
            (case side6 => exact (Kd.R_reads' HO662.out).2.1)
            (case side7 => repeat (first | exact (Kd.R_reads' HO665.out).2.2 | (with_reducible refine Kd.C_alloc ?_ _) | (with_reducible refine Kd.C_drewN ?_ _) | (with_reducible refine Kd.C_drew ?_)))
            (case side8 => exact (Kd.R_reads' HO665.out).2.1)
            rintro e w70 ⟨rfl, hb⟩
            refine ⟨_, rfl, ?_⟩
            have n0_ := Aside0.mk (Kd.R_below (by (with_reducible repeat (first | apply Kd.R_alloc | apply Kd.R_drewN | apply Kd.R_drew)); exact HO_641001.out) hb)
            have n1_ := Aside0.mk (Kd.R_below (by (with_reducible repeat (first | apply Kd.R_alloc | apply Kd.R_drewN | apply Kd.R_drew)); exact HO_641002.out) hb)
            have n2_ := Aside0.mk (Kd.R_below (by (with_reducible repeat (first | apply Kd.R_alloc | apply Kd.R_drewN | apply Kd.R_drew)); exact HO_649001.out) hb)
            have n3_ := Aside0.mk (Kd.R_below (by (with_reducible repeat (first | apply Kd.R_alloc | apply Kd.R_drewN | apply Kd.R_drew)); exact HO_649002.out) hb)
            have n4_ := Aside0.mk (Kd.R_below (by (with_reducible repeat (first | apply Kd.R_alloc | apply Kd.R_drewN | apply Kd.R_drew)); exact HO_658001.out) hb)
            have n5_ := Aside0.mk (Kd.R_below (by (with_reducible repeat (first | apply Kd.R_alloc | apply Kd.R_drewN | apply Kd.R_drew)); exact HO_658002.out) hb)
            have n6_ := Aside0.mk (Kd.R_below (by (with_reducible repeat (first | apply Kd.R_alloc | apply Kd.R_drewN | apply Kd.R_drew)); exact HO662.out) hb)
            have n7_ := Aside0.mk (Kd.R_below (by (with_reducible repeat (first | apply Kd.R_alloc | apply Kd.R_drewN | apply Kd.R_drew)); exact HO665.out) hb)
            have n8_ := Aside0.mk (blk_below (g := gb623) (o := .cells #[.int .i64 a0_0, .slice A0_1 l0_1.length c0_1, .slice A0_2 l0_2.length c0_2] 25 (0, 0)) (by (with_reducible repeat (first | refine blk_drewN ?_ _ | refine blk_drew ?_ | refine blk_alloc ?_ _)); exact BK623.out) hb)
            have n9_ := Aside0.mk (blk_below (g := gb640) (o := .cells #[.int .i64 t632, .slice Ao24 t633.length co24, .slice Ao25 t636.length co25] 30 (0, 0)) (by (with_reducible repeat (first | refine blk_drewN ?_ _ | refine blk_drew ?_ | refine blk_alloc ?_ _)); exact BK640.out) hb)
            have n10_ := Aside0.mk (blk_below (g := gb648) (o := .cells #[.int .i64 t641, .slice Ao32 t642.length co32, .slice Ao33 t645.length co33] 30 (0, 0)) (by (with_reducible repeat (first | refine blk_drewN ?_ _ | refine blk_drew ?_ | refine blk_alloc ?_ _)); exact BK648.out) hb)
            have n11_ := Aside0.mk (blk_below (g := gb657) (o := .cells #[.int .i64 t649, .slice Ao40 t650.length co40, .slice Ao41 t653.length co41] 30 (0, 0)) (by (with_reducible repeat (first | refine blk_drewN ?_ _ | refine blk_drew ?_ | refine blk_alloc ?_ _)); exact BK657.out) hb)
            have n12_ := Aside0.mk (below_step (by repeat (first | (with_reducible first | exact HB.out | apply below_alloc | apply pw_below_drewN | apply below_drew1 | refine below_set ?_ GE623.out | refine below_set ?_ GE640.out | refine below_set ?_ GE648.out | refine below_set ?_ GE657.out) | exact HB.out)) hb)
            clear HO_641001
            clear HO_641002
            clear HO_649001
            clear HO_649002
            clear HO_658001
            clear HO_658002
            clear HO662
            clear HO665
            clear BK623
            clear BK640
            clear BK648
            clear BK657
            clear HB
            have HO_641001 := n0_
            have HO_641002 := n1_
            have HO_649001 := n2_
            have HO_649002 := n3_
            have HO_658001 := n4_
            have HO_658002 := n5_
            have HO662 := n6_
            have HO665 := n7_
            have BK623 := n8_
            have BK640 := n9_
            have BK648 := n10_
            have BK657 := n11_
            have HB := n12_
            clear n0_ n1_ n2_ n3_ n4_ n5_ n6_ n7_ n8_ n9_ n10_ n11_ n12_
            (try clear hb)
            (try clear hb2)
            (try clear hk)
            (try clear hi)
            refine hK.out _ _ ⟨(blk_cell BK648.out 0).trans rfl, (blk_cell BK648.out 1).trans rfl, (blk_cell BK648.out 2).trans rfl, (blk_cell BK623.out 0).trans rfl, (blk_cell BK623.out 1).trans rfl, (blk_cell BK623.out 2).trans rfl⟩ (fun hHeld => ?_)
            clear hK K
            refine norm_ (a' := ?_) ?_ ?_
            rotate_left
            · show Act.put _ (some 48) _ = _
              simp only [Act.put, List.setIfInBounds_toArray, List.set_cons_zero, List.set_cons_succ, i64_w, i32_w]
              rfl
            refine pure_ (i := 4) (N := some 49) (v := ?_) (a' := ?_) #[true, true, true, true, true] rfl rfl (by kernel_rfl) (fun _ _ _ h => h) (Or.inl ⟨by rfl, ?_⟩) ?_ ?_
            rotate_left
            · intro w'
              go_simp
              with_reducible rfl
            rotate_left
            · simp only [Act.put, List.setIfInBounds_toArray, List.set_cons_zero, List.set_cons_succ, i64_w, i32_w]
              rfl
            refine done_ (by kernel_rfl) ?_
            have hnb71 := NB648_623.out
            have hnc71 := NB623_648.out
            have hnb72 := NB648_640.out
            have hnc72 := NB640_648.out
            have hnb73 := NB648_657.out
            have hnc73 := NB657_648.out
            have hcz74_0 : w70.cell? ⟨gb648, 0, none⟩ = some (.int .i64 t641) := (blk_cell BK648.out 0).trans rfl
            have hcz74_1 : w70.cell? ⟨gb648, 1, none⟩ = some (.slice Ao32 t642.length co32) := (blk_cell BK648.out 1).trans rfl
            have hcz74_2 : w70.cell? ⟨gb648, 2, none⟩ = some (.slice Ao33 t645.length co33) := (blk_cell BK648.out 2).trans rfl
            have hfz74_0 := blk_frozen BK648.out 0
            have hfz74_1 := blk_frozen BK648.out 1
            have hfz74_2 := blk_frozen BK648.out 2
            go_upto_region 14 with (first | ((with_reducible refine gate_callee (f := 25) rfl ?_); refine goesL_ (some 52) rfl rfl Try.func25 (by kernel_rfl) rfl #[.agg #[.int .i64 t641, .slice Ao32 t642.length co32, .slice Ao33 t645.length co33], .int .i64 1] rfl (by (try simp only [List.map_toArray, List.map_cons, List.map_nil]); first | done | rfl | (simp only [List.length_drop, List.length_take]; rfl)) ?_; (with_reducible refine (laws_markColumn.calls kj11 t641 (fun k_ => some k_ = (.slice Ao32 t642.length co32 : Value).ownBlock) (.slice Ao32 t642.length co32) t642 (fun k_ => some k_ = (.slice Ao33 t645.length co33 : Value).ownBlock) (.slice Ao33 t645.length co33) t645 1 t667 t668 t669 w _ ?side1 ?side2 ?side3 A64.out).mono ?_); (case side1 => repeat (first | (with_reducible first | exact HB.out | apply below_alloc | apply pw_below_drewN | apply below_drew1 | refine below_set ?_ GE623.out | refine below_set ?_ GE640.out | refine below_set ?_ GE648.out | refine below_set ?_ GE657.out) | exact HB.out)); (case side2 => exact Kd.R_tight rfl HO_649001.out); (case side3 => exact Kd.R_tight rfl HO_649002.out); rintro e w75 ⟨rfl, hy0, hy1, hb, hkp⟩; refine ⟨_, rfl, ?_⟩; have n0_ := Aside0.mk (Kd.R_mono (ok' := fun k_ => some k_ ≠ (.slice Ao32 t642.length co32 : Value).ownBlock ∧ some k_ ≠ (.slice Ao40 t650.length co40 : Value).ownBlock ∧ some k_ ≠ (.slice Ao68 t660.length co68 : Value).ownBlock) (Kd.R_keptB ((Kd.R_apart' HO_641001.out (Kd.R_typed HO_649002.out) (by decide))) hkp (fun k_ hk_ hs_ => Or.elim hs_ (fun e_ => (hk_.1.1.1) e_) (fun e_ => (hk_.2) e_))) (fun k_ hk_ => ⟨hk_.1.1.1.1, hk_.1.1.1.2, hk_.1.1.2⟩)); have n1_ := Aside0.mk (Kd.R_mono (ok' := fun k_ => some k_ ≠ (.slice Ao33 t645.length co33 : Value).ownBlock ∧ some k_ ≠ (.slice Ao41 t653.length co41 : Value).ownBlock ∧ some k_ ≠ (.slice Ao69 t663.length co69 : Value).ownBlock) (Kd.R_keptB ((Kd.R_apart' HO_641002.out (Kd.R_typed HO_649001.out) (by decide))) hkp (fun k_ hk_ hs_ => Or.elim hs_ (fun e_ => (hk_.2) e_) (fun e_ => (hk_.1.1.1) e_))) (fun k_ hk_ => ⟨hk_.1.1.1.1, hk_.1.1.1.2, hk_.1.1.2⟩)); have n2_ := Aside0.mk (Kd.R_reok rfl hy0 (fun k_ e_ => HO_649001.out.1 k_ e_)); have n3_ := Aside0.mk (Kd.R_reok rfl hy1 (fun k_ e_ => HO_649002.out.1 k_ e_)); have n4_ := Aside0.mk (Kd.R_mono (ok' := fun k_ => some k_ ≠ (.slice Ao24 t633.length co24 : Value).ownBlock ∧ some k_ ≠ (.slice Ao32 t642.length co32 : Value).ownBlock ∧ some k_ ≠ (.slice Ao68 t660.length co68 : Value).ownBlock) (Kd.R_keptB ((Kd.R_apart' HO_658001.out (Kd.R_typed HO_649002.out) (by decide))) hkp (fun k_ hk_ hs_ => Or.elim hs_ (fun e_ => (hk_.1.1.2) e_) (fun e_ => (hk_.2) e_))) (fun k_ hk_ => ⟨hk_.1.1.1.1, hk_.1.1.1.2, hk_.1.1.2⟩)); have n5_ := Aside0.mk (Kd.R_mono (ok' := fun k_ => some k_ ≠ (.slice Ao25 t636.length co25 : Value).ownBlock ∧ some k_ ≠ (.slice Ao33 t645.length co33 : Value).ownBlock ∧ some k_ ≠ (.slice Ao69 t663.length co69 : Value).ownBlock) (Kd.R_keptB ((Kd.R_apart' HO_658002.out (Kd.R_typed HO_649001.out) (by decide))) hkp (fun k_ hk_ hs_ => Or.elim hs_ (fun e_ => (hk_.2) e_) (fun e_ => (hk_.1.1.2) e_))) (fun k_ hk_ => ⟨hk_.1.1.1.1, hk_.1.1.1.2, hk_.1.1.2⟩)); have n6_ := Aside0.mk (blk_kept (by (with_reducible repeat (first | refine blk_drewN ?_ _ | refine blk_drew ?_ | refine blk_alloc ?_ _)); exact BK623.out) hkp (fun hs_ => Or.elim hs_ (fun e_ => (fun e_ => (Kd.R_ne HO_649001.out BK623.out (by decide)) e_) e_) (fun e_ => (fun e_ => (Kd.R_ne HO_649002.out BK623.out (by decide)) e_) e_))); have n7_ := Aside0.mk (blk_kept (by (with_reducible repeat (first | refine blk_drewN ?_ _ | refine blk_drew ?_ | refine blk_alloc ?_ _)); exact BK640.out) hkp (fun hs_ => Or.elim hs_ (fun e_ => (fun e_ => (Kd.R_ne HO_649001.out BK640.out (by decide)) e_) e_) (fun e_ => (fun e_ => (Kd.R_ne HO_649002.out BK640.out (by decide)) e_) e_))); have n8_ := Aside0.mk (blk_kept (by (with_reducible repeat (first | refine blk_drewN ?_ _ | refine blk_drew ?_ | refine blk_alloc ?_ _)); exact BK648.out) hkp (fun hs_ => Or.elim hs_ (fun e_ => (fun e_ => (Kd.R_ne HO_649001.out BK648.out (by decide)) e_) e_) (fun e_ => (fun e_ => (Kd.R_ne HO_649002.out BK648.out (by decide)) e_) e_))); have n9_ := Aside0.mk (blk_kept (by (with_reducible repeat (first | refine blk_drewN ?_ _ | refine blk_drew ?_ | refine blk_alloc ?_ _)); exact BK657.out) hkp (fun hs_ => Or.elim hs_ (fun e_ => (fun e_ => (Kd.R_ne HO_649001.out BK657.out (by decide)) e_) e_) (fun e_ => (fun e_ => (Kd.R_ne HO_649002.out BK657.out (by decide)) e_) e_))); have n10_ := Aside0.mk (Kd.R_mono (ok' := fun k_ => some k_ ≠ (.slice Ao24 t633.length co24 : Value).ownBlock ∧ some k_ ≠ (.slice Ao32 t642.length co32 : Value).ownBlock ∧ some k_ ≠ (.slice Ao40 t650.length co40 : Value).ownBlock) (Kd.R_keptB ((Kd.R_apart' HO662.out (Kd.R_typed HO_649002.out) (by decide))) hkp (fun k_ hk_ hs_ => Or.elim hs_ (fun e_ => (hk_.1.1.2) e_) (fun e_ => (hk_.2) e_))) (fun k_ hk_ => ⟨hk_.1.1.1.1.2, hk_.1.1.1.2, hk_.1.1.2⟩)); have n11_ := Aside0.mk (Kd.R_mono (ok' := fun k_ => some k_ ≠ (.slice Ao25 t636.length co25 : Value).ownBlock ∧ some k_ ≠ (.slice Ao33 t645.length co33 : Value).ownBlock ∧ some k_ ≠ (.slice Ao41 t653.length co41 : Value).ownBlock) (Kd.R_keptB ((Kd.R_apart' HO665.out (Kd.R_typed HO_649001.out) (by decide))) hkp (fun k_ hk_ hs_ => Or.elim hs_ (fun e_ => (hk_.2) e_) (fun e_ => (hk_.1.1.2) e_))) (fun k_ hk_ => ⟨hk_.1.1.1.1.2, hk_.1.1.1.2, hk_.1.1.2⟩)); have n12_ := Aside0.mk (hb); clear HO_641001; clear HO_641002; clear HO_649001; clear HO_649002; clear HO_658001; clear HO_658002; clear BK623; clear BK640; clear BK648; clear BK657; clear HO662; clear HO665; clear HB; have HO_641001 := n0_; have HO_641002 := n1_; have HO_649001 := n2_; have HO_649002 := n3_; have HO_658001 := n4_; have HO_658002 := n5_; have BK623 := n6_; have BK640 := n7_; have BK648 := n8_; have BK657 := n9_; have HO662 := n10_; have HO665 := n11_; have HB := n12_; clear n0_ n1_ n2_ n3_ n4_ n5_ n6_ n7_ n8_ n9_ n10_ n11_ n12_; (try clear hb); (try clear hkp); (try clear hy0); (try clear hy1)))
            (try simp only [Act.put, List.setIfInBounds_toArray, List.set_cons_zero, List.set_cons_succ])
            go_cut [65] (fun v65 wc => ∃ (kq : Nat) (x65_64 : Bool), v65 = .bool x65_64 ∧ Aside0 (laws_FnExactTakeOut.j1 kq a1 t639 x65_64 a0_0 l0_1 l0_2 t632 t633 t636 t649 t650 t653 = some r) ∧ Aside0 (kq ≤ kj11) ∧ Aside0 (Kd.R (Kd.int .i64) 3 wc w.heap.size (fun k_ => some k_ ≠ ((.slice Ao32 t642.length co32) : Value).ownBlock ∧ some k_ ≠ ((.slice Ao40 t650.length co40) : Value).ownBlock) (.slice Ao24 t633.length co24) t633) ∧ Aside0 (Kd.R k71 71 wc w.heap.size (fun k_ => some k_ ≠ ((.slice Ao33 t645.length co33) : Value).ownBlock ∧ some k_ ≠ ((.slice Ao41 t653.length co41) : Value).ownBlock) (.slice Ao25 t636.length co25) t636) ∧ Aside0 (Kd.R (Kd.int .i64) 3 wc w.heap.size (fun k_ => some k_ ≠ ((.slice Ao24 t633.length co24) : Value).ownBlock ∧ some k_ ≠ ((.slice Ao40 t650.length co40) : Value).ownBlock) (.slice Ao32 t642.length co32) t668) ∧ Aside0 (Kd.R k71 71 wc w.heap.size (fun k_ => some k_ ≠ ((.slice Ao25 t636.length co25) : Value).ownBlock ∧ some k_ ≠ ((.slice Ao41 t653.length co41) : Value).ownBlock) (.slice Ao33 t645.length co33) t669) ∧ Aside0 (Kd.R (Kd.int .i64) 3 wc w.heap.size (fun k_ => some k_ ≠ ((.slice Ao24 t633.length co24) : Value).ownBlock ∧ some k_ ≠ ((.slice Ao32 t642.length co32) : Value).ownBlock) (.slice Ao40 t650.length co40) t650) ∧ Aside0 (Kd.R k71 71 wc w.heap.size (fun k_ => some k_ ≠ ((.slice Ao25 t636.length co25) : Value).ownBlock ∧ some k_ ≠ ((.slice Ao33 t645.length co33) : Value).ownBlock) (.slice Ao41 t653.length co41) t653) ∧ Aside0 (wc.heap[gb623]? = some (.cells #[.int .i64 a0_0, (.slice A0_1 l0_1.length c0_1), (.slice A0_2 l0_2.length c0_2)] 25 (0, 0))) ∧ Aside0 (wc.heap[gb640]? = some (.cells #[.int .i64 t632, (.slice Ao24 t633.length co24), (.slice Ao25 t636.length co25)] 30 (0, 0))) ∧ Aside0 (wc.heap[gb648]? = some (.cells #[.int .i64 t641, (.slice Ao32 t642.length co32), (.slice Ao33 t645.length co33)] 30 (0, 0))) ∧ Aside0 (wc.heap[gb657]? = some (.cells #[.int .i64 t649, (.slice Ao40 t650.length co40), (.slice Ao41 t653.length co41)] 30 (0, 0))) ∧ Aside0 (Below w.heap.size w wc))
            case first =>
              have H := HC65.out
              clear HC65
              by_cases c76 : t667 < 0
              · rw [if_pos c76] at H
                have c76b0 : decide (t667 < 0) = true := decide_eq_true c76
                clear c76
                (first | rw [c76b0] | (simp only [i64_w, i32_w]; rw [c76b0]) | skip)
                have H' := Aside0.mk H
                clear H
                go_wp2
                go_meet
                case rel => exact ⟨_, (true), (by first | rfl | (simp; done) | (simp [*]; done)), H', ⟨by have := HJ11.out; first | omega | exact Nat.le_refl _⟩, ⟨by (with_reducible repeat (first | apply Kd.R_alloc | apply Kd.R_drewN | apply Kd.R_drew)); exact Kd.R_mono HO_641001.out (fun _ hk => ⟨hk.1, hk.2.1⟩)⟩, ⟨by (with_reducible repeat (first | apply Kd.R_alloc | apply Kd.R_drewN | apply Kd.R_drew)); exact Kd.R_mono HO_641002.out (fun _ hk => ⟨hk.1, hk.2.1⟩)⟩, ⟨by (with_reducible repeat (first | apply Kd.R_alloc | apply Kd.R_drewN | apply Kd.R_drew)); exact Kd.R_mono HO_649001.out (fun _ hk => ⟨hk.1.1, hk.1.2⟩)⟩, ⟨by (with_reducible repeat (first | apply Kd.R_alloc | apply Kd.R_drewN | apply Kd.R_drew)); exact Kd.R_mono HO_649002.out (fun _ hk => ⟨hk.1.1, hk.1.2⟩)⟩, ⟨by (with_reducible repeat (first | apply Kd.R_alloc | apply Kd.R_drewN | apply Kd.R_drew)); exact Kd.R_mono HO_658001.out (fun _ hk => ⟨hk.1, hk.2.1⟩)⟩, ⟨by (with_reducible repeat (first | apply Kd.R_alloc | apply Kd.R_drewN | apply Kd.R_drew)); exact Kd.R_mono HO_658002.out (fun _ hk => ⟨hk.1, hk.2.1⟩)⟩, ⟨by (with_reducible repeat (first | refine blk_drewN ?_ _ | refine blk_drew ?_ | refine blk_alloc ?_ _)); exact BK623.out⟩, ⟨by (with_reducible repeat (first | refine blk_drewN ?_ _ | refine blk_drew ?_ | refine blk_alloc ?_ _)); exact BK640.out⟩, ⟨by (with_reducible repeat (first | refine blk_drewN ?_ _ | refine blk_drew ?_ | refine blk_alloc ?_ _)); exact BK648.out⟩, ⟨by (with_reducible repeat (first | refine blk_drewN ?_ _ | refine blk_drew ?_ | refine blk_alloc ?_ _)); exact BK657.out⟩, ⟨by repeat (first | (with_reducible first | exact HB.out | apply below_alloc | apply pw_below_drewN | apply below_drew1 | refine below_set ?_ GE623.out | refine below_set ?_ GE640.out | refine below_set ?_ GE648.out | refine below_set ?_ GE657.out) | exact HB.out)⟩⟩
              · rw [if_neg c76] at H
                have c76b0 : decide (t667 < 0) = false := decide_eq_false c76
                clear c76
                (first | rw [c76b0] | (simp only [i64_w, i32_w]; rw [c76b0]) | skip)
                replace H := Option.bind_eq_some_iff.mp H
                obtain ⟨t670, A770, H⟩ := H
                replace H : (if t670 = true then (laws_FnExactTakeOut.j1 kj11 a1 t639 (t656 != t639) a0_0 l0_1 l0_2 t632 t633 t636 t649 t650 t653) else (laws_FnExactTakeOut.j1 kj11 a1 t639 true a0_0 l0_1 l0_2 t632 t633 t636 t649 t650 t653)) = some r := H
                have A77 := Aside0.mk A770
                clear A770
                by_cases c78 : t670 = true
                · subst c78
                  have H1 : (laws_FnExactTakeOut.j1 kj11 a1 t639 (t656 != t639) a0_0 l0_1 l0_2 t632 t633 t636 t649 t650 t653) = some r := by rw [if_pos rfl] at H; exact H
                  clear H
                  have H := H1
                  clear H1
                  have H' := Aside0.mk H
                  clear H
                  have hnb79 := NB657_623.out
                  have hnc79 := NB623_657.out
                  have hnb80 := NB657_640.out
                  have hnc80 := NB640_657.out
                  have hnb81 := NB657_648.out
                  have hnc81 := NB648_657.out
                  have hcz82_0 : w75.cell? ⟨gb657, 0, none⟩ = some (.int .i64 t649) := (blk_cell BK657.out 0).trans rfl
                  have hcz82_1 : w75.cell? ⟨gb657, 1, none⟩ = some (.slice Ao40 t650.length co40) := (blk_cell BK657.out 1).trans rfl
                  have hcz82_2 : w75.cell? ⟨gb657, 2, none⟩ = some (.slice Ao41 t653.length co41) := (blk_cell BK657.out 2).trans rfl
                  have hfz82_0 := blk_frozen BK657.out 0
                  have hfz82_1 := blk_frozen BK657.out 1
                  have hfz82_2 := blk_frozen BK657.out 2
                  have hnb83 := NB640_623.out
                  have hnc83 := NB623_640.out
                  have hnb84 := NB640_648.out
                  have hnc84 := NB648_640.out
                  have hcz85_0 : w75.cell? ⟨gb640, 0, none⟩ = some (.int .i64 t632) := (blk_cell BK640.out 0).trans rfl
                  have hcz85_1 : w75.cell? ⟨gb640, 1, none⟩ = some (.slice Ao24 t633.length co24) := (blk_cell BK640.out 1).trans rfl
                  have hcz85_2 : w75.cell? ⟨gb640, 2, none⟩ = some (.slice Ao25 t636.length co25) := (blk_cell BK640.out 2).trans rfl
                  have hfz85_0 := blk_frozen BK640.out 0
                  have hfz85_1 := blk_frozen BK640.out 1
                  have hfz85_2 := blk_frozen BK640.out 2
                  go_wp2_with (first | (go_at_call 19; (with_reducible refine (laws_eqColumn.calls kj11 t649 _ _ t650 _ _ t653 t632 _ _ t633 _ _ t636 true _ ?side1 ?side2 ?side3 ?side4 ?side5 ?side6 ?side7 ?side8 A77.out).mono ?_); (case side1 => repeat (first | exact (Kd.R_reads' HO_658001.out).2.2 | (with_reducible refine Kd.C_alloc ?_ _) | (with_reducible refine Kd.C_drewN ?_ _) | (with_reducible refine Kd.C_drew ?_))); (case side2 => exact (Kd.R_reads' HO_658001.out).2.1); (case side3 => repeat (first | exact (Kd.R_reads' HO_658002.out).2.2 | (with_reducible refine Kd.C_alloc ?_ _) | (with_reducible refine Kd.C_drewN ?_ _) | (with_reducible refine Kd.C_drew ?_))); (case side4 => exact (Kd.R_reads' HO_658002.out).2.1); (case side5 => repeat (first | exact (Kd.R_reads' HO_641001.out).2.2 | (with_reducible refine Kd.C_alloc ?_ _) | (with_reducible refine Kd.C_drewN ?_ _) | (with_reducible refine Kd.C_drew ?_))); (case side6 => exact (Kd.R_reads' HO_641001.out).2.1); (case side7 => repeat (first | exact (Kd.R_reads' HO_641002.out).2.2 | (with_reducible refine Kd.C_alloc ?_ _) | (with_reducible refine Kd.C_drewN ?_ _) | (with_reducible refine Kd.C_drew ?_))); (case side8 => exact (Kd.R_reads' HO_641002.out).2.1); rintro e w86 ⟨rfl, hb⟩; have n0_ := Aside0.mk (Kd.R_below (by (with_reducible repeat (first | apply Kd.R_alloc | apply Kd.R_drewN | apply Kd.R_drew)); exact HO_641001.out) hb); have n1_ := Aside0.mk (Kd.R_below (by (with_reducible repeat (first | apply Kd.R_alloc | apply Kd.R_drewN | apply Kd.R_drew)); exact HO_641002.out) hb); have n2_ := Aside0.mk (Kd.R_below (by (with_reducible repeat (first | apply Kd.R_alloc | apply Kd.R_drewN | apply Kd.R_drew)); exact HO_649001.out) hb); have n3_ := Aside0.mk (Kd.R_below (by (with_reducible repeat (first | apply Kd.R_alloc | apply Kd.R_drewN | apply Kd.R_drew)); exact HO_649002.out) hb); have n4_ := Aside0.mk (Kd.R_below (by (with_reducible repeat (first | apply Kd.R_alloc | apply Kd.R_drewN | apply Kd.R_drew)); exact HO_658001.out) hb); have n5_ := Aside0.mk (Kd.R_below (by (with_reducible repeat (first | apply Kd.R_alloc | apply Kd.R_drewN | apply Kd.R_drew)); exact HO_658002.out) hb); have n6_ := Aside0.mk (Kd.R_below (by (with_reducible repeat (first | apply Kd.R_alloc | apply Kd.R_drewN | apply Kd.R_drew)); exact HO662.out) hb); have n7_ := Aside0.mk (Kd.R_below (by (with_reducible repeat (first | apply Kd.R_alloc | apply Kd.R_drewN | apply Kd.R_drew)); exact HO665.out) hb); have n8_ := Aside0.mk (blk_below (g := gb623) (o := .cells #[.int .i64 a0_0, .slice A0_1 l0_1.length c0_1, .slice A0_2 l0_2.length c0_2] 25 (0, 0)) (by (with_reducible repeat (first | refine blk_drewN ?_ _ | refine blk_drew ?_ | refine blk_alloc ?_ _)); exact BK623.out) hb); have n9_ := Aside0.mk (blk_below (g := gb640) (o := .cells #[.int .i64 t632, .slice Ao24 t633.length co24, .slice Ao25 t636.length co25] 30 (0, 0)) (by (with_reducible repeat (first | refine blk_drewN ?_ _ | refine blk_drew ?_ | refine blk_alloc ?_ _)); exact BK640.out) hb); have n10_ := Aside0.mk (blk_below (g := gb648) (o := .cells #[.int .i64 t641, .slice Ao32 t642.length co32, .slice Ao33 t645.length co33] 30 (0, 0)) (by (with_reducible repeat (first | refine blk_drewN ?_ _ | refine blk_drew ?_ | refine blk_alloc ?_ _)); exact BK648.out) hb); have n11_ := Aside0.mk (blk_below (g := gb657) (o := .cells #[.int .i64 t649, .slice Ao40 t650.length co40, .slice Ao41 t653.length co41] 30 (0, 0)) (by (with_reducible repeat (first | refine blk_drewN ?_ _ | refine blk_drew ?_ | refine blk_alloc ?_ _)); exact BK657.out) hb); have n12_ := Aside0.mk (below_step (by repeat (first | (with_reducible first | exact HB.out | apply below_alloc | apply pw_below_drewN | apply below_drew1 | refine below_set ?_ GE623.out | refine below_set ?_ GE640.out | refine below_set ?_ GE648.out | refine below_set ?_ GE657.out) | exact HB.out)) hb); clear HO_641001; clear HO_641002; clear HO_649001; clear HO_649002; clear HO_658001; clear HO_658002; clear HO662; clear HO665; clear BK623; clear BK640; clear BK648; clear BK657; clear HB; have HO_641001 := n0_; have HO_641002 := n1_; have HO_649001 := n2_; have HO_649002 := n3_; have HO_658001 := n4_; have HO_658002 := n5_; have HO662 := n6_; have HO665 := n7_; have BK623 := n8_; have BK640 := n9_; have BK648 := n10_; have BK657 := n11_; have HB := n12_; clear n0_ n1_ n2_ n3_ n4_ n5_ n6_ n7_ n8_ n9_ n10_ n11_ n12_; (try clear hb); (try clear hb2); (try clear hk); (try clear hi)))
                  go_meet
                  case rel => exact ⟨_, ((t656 != t639)), (by first | rfl | (simp; done) | (simp [*]; done)), H', ⟨by have := HJ11.out; first | omega | exact Nat.le_refl _⟩, ⟨by (with_reducible repeat (first | apply Kd.R_alloc | apply Kd.R_drewN | apply Kd.R_drew)); exact Kd.R_mono HO_641001.out (fun _ hk => ⟨hk.1, hk.2.1⟩)⟩, ⟨by (with_reducible repeat (first | apply Kd.R_alloc | apply Kd.R_drewN | apply Kd.R_drew)); exact Kd.R_mono HO_641002.out (fun _ hk => ⟨hk.1, hk.2.1⟩)⟩, ⟨by (with_reducible repeat (first | apply Kd.R_alloc | apply Kd.R_drewN | apply Kd.R_drew)); exact Kd.R_mono HO_649001.out (fun _ hk => ⟨hk.1.1, hk.1.2⟩)⟩, ⟨by (with_reducible repeat (first | apply Kd.R_alloc | apply Kd.R_drewN | apply Kd.R_drew)); exact Kd.R_mono HO_649002.out (fun _ hk => ⟨hk.1.1, hk.1.2⟩)⟩, ⟨by (with_reducible repeat (first | apply Kd.R_alloc | apply Kd.R_drewN | apply Kd.R_drew)); exact Kd.R_mono HO_658001.out (fun _ hk => ⟨hk.1, hk.2.1⟩)⟩, ⟨by (with_reducible repeat (first | apply Kd.R_alloc | apply Kd.R_drewN | apply Kd.R_drew)); exact Kd.R_mono HO_658002.out (fun _ hk => ⟨hk.1, hk.2.1⟩)⟩, ⟨by (with_reducible repeat (first | refine blk_drewN ?_ _ | refine blk_drew ?_ | refine blk_alloc ?_ _)); exact BK623.out⟩, ⟨by (with_reducible repeat (first | refine blk_drewN ?_ _ | refine blk_drew ?_ | refine blk_alloc ?_ _)); exact BK640.out⟩, ⟨by (with_reducible repeat (first | refine blk_drewN ?_ _ | refine blk_drew ?_ | refine blk_alloc ?_ _)); exact BK648.out⟩, ⟨by (with_reducible repeat (first | refine blk_drewN ?_ _ | refine blk_drew ?_ | refine blk_alloc ?_ _)); exact BK657.out⟩, ⟨by repeat (first | (with_reducible first | exact HB.out | apply below_alloc | apply pw_below_drewN | apply below_drew1 | refine below_set ?_ GE623.out | refine below_set ?_ GE640.out | refine below_set ?_ GE648.out | refine below_set ?_ GE657.out) | exact HB.out)⟩⟩
                · replace c78 := Bool.eq_false_iff.mpr c78
                  subst c78
                  have H1 : (laws_FnExactTakeOut.j1 kj11 a1 t639 true a0_0 l0_1 l0_2 t632 t633 t636 t649 t650 t653) = some r := by rw [if_neg (show ¬ (false = true) by decide)] at H; exact H
                  clear H
                  have H := H1
                  clear H1
                  have H' := Aside0.mk H
                  clear H
                  have hnb87 := NB657_623.out
                  have hnc87 := NB623_657.out
                  have hnb88 := NB657_640.out
                  have hnc88 := NB640_657.out
                  have hnb89 := NB657_648.out
                  have hnc89 := NB648_657.out
                  have hcz90_0 : w75.cell? ⟨gb657, 0, none⟩ = some (.int .i64 t649) := (blk_cell BK657.out 0).trans rfl
                  have hcz90_1 : w75.cell? ⟨gb657, 1, none⟩ = some (.slice Ao40 t650.length co40) := (blk_cell BK657.out 1).trans rfl
                  have hcz90_2 : w75.cell? ⟨gb657, 2, none⟩ = some (.slice Ao41 t653.length co41) := (blk_cell BK657.out 2).trans rfl
                  have hfz90_0 := blk_frozen BK657.out 0
                  have hfz90_1 := blk_frozen BK657.out 1
                  have hfz90_2 := blk_frozen BK657.out 2
                  have hnb91 := NB640_623.out
                  have hnc91 := NB623_640.out
                  have hnb92 := NB640_648.out
                  have hnc92 := NB648_640.out
                  have hcz93_0 : w75.cell? ⟨gb640, 0, none⟩ = some (.int .i64 t632) := (blk_cell BK640.out 0).trans rfl
                  have hcz93_1 : w75.cell? ⟨gb640, 1, none⟩ = some (.slice Ao24 t633.length co24) := (blk_cell BK640.out 1).trans rfl
                  have hcz93_2 : w75.cell? ⟨gb640, 2, none⟩ = some (.slice Ao25 t636.length co25) := (blk_cell BK640.out 2).trans rfl
                  have hfz93_0 := blk_frozen BK640.out 0
                  have hfz93_1 := blk_frozen BK640.out 1
                  have hfz93_2 := blk_frozen BK640.out 2
                  go_wp2_with (first | (go_at_call 19; (with_reducible refine (laws_eqColumn.calls kj11 t649 _ _ t650 _ _ t653 t632 _ _ t633 _ _ t636 false _ ?side1 ?side2 ?side3 ?side4 ?side5 ?side6 ?side7 ?side8 A77.out).mono ?_); (case side1 => repeat (first | exact (Kd.R_reads' HO_658001.out).2.2 | (with_reducible refine Kd.C_alloc ?_ _) | (with_reducible refine Kd.C_drewN ?_ _) | (with_reducible refine Kd.C_drew ?_))); (case side2 => exact (Kd.R_reads' HO_658001.out).2.1); (case side3 => repeat (first | exact (Kd.R_reads' HO_658002.out).2.2 | (with_reducible refine Kd.C_alloc ?_ _) | (with_reducible refine Kd.C_drewN ?_ _) | (with_reducible refine Kd.C_drew ?_))); (case side4 => exact (Kd.R_reads' HO_658002.out).2.1); (case side5 => repeat (first | exact (Kd.R_reads' HO_641001.out).2.2 | (with_reducible refine Kd.C_alloc ?_ _) | (with_reducible refine Kd.C_drewN ?_ _) | (with_reducible refine Kd.C_drew ?_))); (case side6 => exact (Kd.R_reads' HO_641001.out).2.1); (case side7 => repeat (first | exact (Kd.R_reads' HO_641002.out).2.2 | (with_reducible refine Kd.C_alloc ?_ _) | (with_reducible refine Kd.C_drewN ?_ _) | (with_reducible refine Kd.C_drew ?_))); (case side8 => exact (Kd.R_reads' HO_641002.out).2.1); rintro e w94 ⟨rfl, hb⟩; have n0_ := Aside0.mk (Kd.R_below (by (with_reducible repeat (first | apply Kd.R_alloc | apply Kd.R_drewN | apply Kd.R_drew)); exact HO_641001.out) hb); have n1_ := Aside0.mk (Kd.R_below (by (with_reducible repeat (first | apply Kd.R_alloc | apply Kd.R_drewN | apply Kd.R_drew)); exact HO_641002.out) hb); have n2_ := Aside0.mk (Kd.R_below (by (with_reducible repeat (first | apply Kd.R_alloc | apply Kd.R_drewN | apply Kd.R_drew)); exact HO_649001.out) hb); have n3_ := Aside0.mk (Kd.R_below (by (with_reducible repeat (first | apply Kd.R_alloc | apply Kd.R_drewN | apply Kd.R_drew)); exact HO_649002.out) hb); have n4_ := Aside0.mk (Kd.R_below (by (with_reducible repeat (first | apply Kd.R_alloc | apply Kd.R_drewN | apply Kd.R_drew)); exact HO_658001.out) hb); have n5_ := Aside0.mk (Kd.R_below (by (with_reducible repeat (first | apply Kd.R_alloc | apply Kd.R_drewN | apply Kd.R_drew)); exact HO_658002.out) hb); have n6_ := Aside0.mk (Kd.R_below (by (with_reducible repeat (first | apply Kd.R_alloc | apply Kd.R_drewN | apply Kd.R_drew)); exact HO662.out) hb); have n7_ := Aside0.mk (Kd.R_below (by (with_reducible repeat (first | apply Kd.R_alloc | apply Kd.R_drewN | apply Kd.R_drew)); exact HO665.out) hb); have n8_ := Aside0.mk (blk_below (g := gb623) (o := .cells #[.int .i64 a0_0, .slice A0_1 l0_1.length c0_1, .slice A0_2 l0_2.length c0_2] 25 (0, 0)) (by (with_reducible repeat (first | refine blk_drewN ?_ _ | refine blk_drew ?_ | refine blk_alloc ?_ _)); exact BK623.out) hb); have n9_ := Aside0.mk (blk_below (g := gb640) (o := .cells #[.int .i64 t632, .slice Ao24 t633.length co24, .slice Ao25 t636.length co25] 30 (0, 0)) (by (with_reducible repeat (first | refine blk_drewN ?_ _ | refine blk_drew ?_ | refine blk_alloc ?_ _)); exact BK640.out) hb); have n10_ := Aside0.mk (blk_below (g := gb648) (o := .cells #[.int .i64 t641, .slice Ao32 t642.length co32, .slice Ao33 t645.length co33] 30 (0, 0)) (by (with_reducible repeat (first | refine blk_drewN ?_ _ | refine blk_drew ?_ | refine blk_alloc ?_ _)); exact BK648.out) hb); have n11_ := Aside0.mk (blk_below (g := gb657) (o := .cells #[.int .i64 t649, .slice Ao40 t650.length co40, .slice Ao41 t653.length co41] 30 (0, 0)) (by (with_reducible repeat (first | refine blk_drewN ?_ _ | refine blk_drew ?_ | refine blk_alloc ?_ _)); exact BK657.out) hb); have n12_ := Aside0.mk (below_step (by repeat (first | (with_reducible first | exact HB.out | apply below_alloc | apply pw_below_drewN | apply below_drew1 | refine below_set ?_ GE623.out | refine below_set ?_ GE640.out | refine below_set ?_ GE648.out | refine below_set ?_ GE657.out) | exact HB.out)) hb); clear HO_641001; clear HO_641002; clear HO_649001; clear HO_649002; clear HO_658001; clear HO_658002; clear HO662; clear HO665; clear BK623; clear BK640; clear BK648; clear BK657; clear HB; have HO_641001 := n0_; have HO_641002 := n1_; have HO_649001 := n2_; have HO_649002 := n3_; have HO_658001 := n4_; have HO_658002 := n5_; have HO662 := n6_; have HO665 := n7_; have BK623 := n8_; have BK640 := n9_; have BK648 := n10_; have BK657 := n11_; have HB := n12_; clear n0_ n1_ n2_ n3_ n4_ n5_ n6_ n7_ n8_ n9_ n10_ n11_ n12_; (try clear hb); (try clear hb2); (try clear hk); (try clear hi)))
                  go_meet
                  case rel => exact ⟨_, (true), (by first | rfl | (simp; done) | (simp [*]; done)), H', ⟨by have := HJ11.out; first | omega | exact Nat.le_refl _⟩, ⟨by (with_reducible repeat (first | apply Kd.R_alloc | apply Kd.R_drewN | apply Kd.R_drew)); exact Kd.R_mono HO_641001.out (fun _ hk => ⟨hk.1, hk.2.1⟩)⟩, ⟨by (with_reducible repeat (first | apply Kd.R_alloc | apply Kd.R_drewN | apply Kd.R_drew)); exact Kd.R_mono HO_641002.out (fun _ hk => ⟨hk.1, hk.2.1⟩)⟩, ⟨by (with_reducible repeat (first | apply Kd.R_alloc | apply Kd.R_drewN | apply Kd.R_drew)); exact Kd.R_mono HO_649001.out (fun _ hk => ⟨hk.1.1, hk.1.2⟩)⟩, ⟨by (with_reducible repeat (first | apply Kd.R_alloc | apply Kd.R_drewN | apply Kd.R_drew)); exact Kd.R_mono HO_649002.out (fun _ hk => ⟨hk.1.1, hk.1.2⟩)⟩, ⟨by (with_reducible repeat (first | apply Kd.R_alloc | apply Kd.R_drewN | apply Kd.R_drew)); exact Kd.R_mono HO_658001.out (fun _ hk => ⟨hk.1, hk.2.1⟩)⟩, ⟨by (with_reducible repeat (first | apply Kd.R_alloc | apply Kd.R_drewN | apply Kd.R_drew)); exact Kd.R_mono HO_658002.out (fun _ hk => ⟨hk.1, hk.2.1⟩)⟩, ⟨by (with_reducible repeat (first | refine blk_drewN ?_ _ | refine blk_drew ?_ | refine blk_alloc ?_ _)); exact BK623.out⟩, ⟨by (with_reducible repeat (first | refine blk_drewN ?_ _ | refine blk_drew ?_ | refine blk_alloc ?_ _)); exact BK640.out⟩, ⟨by (with_reducible repeat (first | refine blk_drewN ?_ _ | refine blk_drew ?_ | refine blk_alloc ?_ _)); exact BK648.out⟩, ⟨by (with_reducible repeat (first | refine blk_drewN ?_ _ | refine blk_drew ?_ | refine blk_alloc ?_ _)); exact BK657.out⟩, ⟨by repeat (first | (with_reducible first | exact HB.out | apply below_alloc | apply pw_below_drewN | apply below_drew1 | refine below_set ?_ GE623.out | refine below_set ?_ GE640.out | refine below_set ?_ GE648.out | refine below_set ?_ GE657.out) | exact HB.out)⟩⟩
            case rest =>
              clear HC65
              try clear c1
              try clear c2
              try clear p2
              try clear c3
              try clear c4
              try clear c4b0
              try clear c5
              try clear c6
              try clear c7
              try clear c8
              try clear c9
              try clear c15
              try clear c17
              try clear c19
              try clear c22
              try clear c25
              try clear c29
              try clear c30
              try clear c36
              try clear c37
              try clear c38
              try clear c39
              try clear c40
              try clear c43
              try clear c44
              try clear c45
              try clear c46
              try clear c48
              try clear c49
              try clear c52
              try clear c53
              try clear c54
              try clear c56
              try clear c57
              try clear c60
              try clear c63
              try clear c71
              try clear c72
              try clear c73
              try clear c76
              try clear c76b0
              try clear c78
              try clear c79
              try clear c80
              try clear c81
              try clear c83
              try clear c84
              try clear c87
              try clear c88
              try clear c89
              try clear c91
              try clear c92
              try clear hcz14_0
              try clear hcz14_1
              try clear hcz14_2
              try clear hcz16_0
              try clear hcz16_1
              try clear hcz16_2
              try clear hcz23_0
              try clear hcz23_1
              try clear hcz23_2
              try clear hcz26_0
              try clear hcz26_1
              try clear hcz26_2
              try clear hcz31_0
              try clear hcz31_1
              try clear hcz31_2
              try clear hcz39_0
              try clear hcz39_1
              try clear hcz39_2
              try clear hcz47_0
              try clear hcz47_1
              try clear hcz47_2
              try clear hcz50_0
              try clear hcz50_1
              try clear hcz50_2
              try clear hcz55_0
              try clear hcz55_1
              try clear hcz55_2
              try clear hcz58_0
              try clear hcz58_1
              try clear hcz58_2
              try clear hcz6_0
              try clear hcz6_1
              try clear hcz6_2
              try clear hcz74_0
              try clear hcz74_1
              try clear hcz74_2
              try clear hcz82_0
              try clear hcz82_1
              try clear hcz82_2
              try clear hcz85_0
              try clear hcz85_1
              try clear hcz85_2
              try clear hcz90_0
              try clear hcz90_1
              try clear hcz90_2
              try clear hcz93_0
              try clear hcz93_1
              try clear hcz93_2
              try clear hfz14_0
              try clear hfz14_1
              try clear hfz14_2
              try clear hfz16_0
              try clear hfz16_1
              try clear hfz16_2
              try clear hfz23_0
              try clear hfz23_1
              try clear hfz23_2
              try clear hfz26_0
              try clear hfz26_1
              try clear hfz26_2
              try clear hfz31_0
              try clear hfz31_1
              try clear hfz31_2
              try clear hfz39_0
              try clear hfz39_1
              try clear hfz39_2
              try clear hfz47_0
              try clear hfz47_1
              try clear hfz47_2
              try clear hfz50_0
              try clear hfz50_1
              try clear hfz50_2
              try clear hfz55_0
              try clear hfz55_1
              try clear hfz55_2
              try clear hfz58_0
              try clear hfz58_1
              try clear hfz58_2
              try clear hfz6_0
              try clear hfz6_1
              try clear hfz6_2
              try clear hfz74_0
              try clear hfz74_1
              try clear hfz74_2
              try clear hfz82_0
              try clear hfz82_1
              try clear hfz82_2
              try clear hfz85_0
              try clear hfz85_1
              try clear hfz85_2
              try clear hfz90_0
              try clear hfz90_1
              try clear hfz90_2
              try clear hfz93_0
              try clear hfz93_1
              try clear hfz93_2
              try clear p2
              obtain ⟨kq, x65_64, rfl, HA, HJ64, HO_641001, HO_641002, HO_649001, HO_649002, HO_658001, HO_658002, BK623, BK640, BK648, BK657, HB⟩ := hcut
              have hl649001_64 := (Kd.R_reads' HO_649001.out).1
              rw [hl649001_64] at HO_649001
              (try simp only [hl649001_64])
              (try simp only [hl649001_64] at BK623)
              (try simp only [hl649001_64] at BK640)
              (try simp only [hl649001_64] at BK648)
              (try simp only [hl649001_64] at BK657)
              (try simp only [hl649001_64] at HO_641001)
              (try simp only [hl649001_64] at HO_641002)
              (try simp only [hl649001_64] at HO_649002)
              (try simp only [hl649001_64] at HO_658001)
              (try simp only [hl649001_64] at HO_658002)
              have hl649002_64 := (Kd.R_reads' HO_649002.out).1
              rw [hl649002_64] at HO_649002
              (try simp only [hl649002_64])
              (try simp only [hl649002_64] at BK623)
              (try simp only [hl649002_64] at BK640)
              (try simp only [hl649002_64] at BK648)
              (try simp only [hl649002_64] at BK657)
              (try simp only [hl649002_64] at HO_641001)
              (try simp only [hl649002_64] at HO_641002)
              (try simp only [hl649002_64] at HO_649001)
              (try simp only [hl649002_64] at HO_658001)
              (try simp only [hl649002_64] at HO_658002)
              cases kq with
              | zero => exact absurd HA.out (by simp [laws_FnExactTakeOut.j1])
              | succ kj64 =>
                have H := HA.out
                clear HA
                simp only [laws_FnExactTakeOut.j1] at H
                by_cases c95 : x65_64 = true
                · subst c95
                  have H1 : (some false) = some r := by rw [if_pos rfl] at H; exact H
                  clear H
                  have H := H1
                  clear H1
                  exact absurd (Option.some.inj H) (by rw [hr_.out]; decide)
                · replace c95 := Bool.eq_false_iff.mpr c95
                  subst c95
                  have H1 : ((laws_markColumn.f kj64 t649 t650 t653 1).bind fun bt671 => ((laws_heldColumn.f kj64 t649 bt671.2.1 bt671.2.2 1).bind fun t674 => (if t674 < 0 then (some false) else (if t674 = bt671.1 then ((laws_toColumn.f kj64 a0_0 l0_1 l0_2).bind fun bt675 => ((impl_TakeOut.f bt675.1 bt675.2.1 bt675.2.2 a1).bind fun bt682 => ((laws_eqColumn.f kj64 bt682.1 bt682.2.1 bt682.2.2.1 t632 t633 t636).bind fun t691 => (if t691 = true then (laws_FnExactTakeOut.j2 kj64 bt671.1 (bt682.2.2.2 != t639) t649 bt671.2.1 bt671.2.2) else (laws_FnExactTakeOut.j2 kj64 bt671.1 true t649 bt671.2.1 bt671.2.2))))) else (some false))))) = some r := by rw [if_neg (show ¬ (false = true) by decide)] at H; exact H
                  clear H
                  have H := H1
                  clear H1
                  replace H := Option.bind_eq_some_iff.mp H
                  obtain ⟨⟨t671, t672, t673⟩, A960, H⟩ := H
                  replace H : ((laws_heldColumn.f kj64 t649 t672 t673 1).bind fun t674 => (if t674 < 0 then (some false) else (if t674 = t671 then ((laws_toColumn.f kj64 a0_0 l0_1 l0_2).bind fun bt675 => ((impl_TakeOut.f bt675.1 bt675.2.1 bt675.2.2 a1).bind fun bt682 => ((laws_eqColumn.f kj64 bt682.1 bt682.2.1 bt682.2.2.1 t632 t633 t636).bind fun t691 => (if t691 = true then (laws_FnExactTakeOut.j2 kj64 t671 (bt682.2.2.2 != t639) t649 t672 t673) else (laws_FnExactTakeOut.j2 kj64 t671 true t649 t672 t673))))) else (some false)))) = some r := H
                  have A96 := Aside0.mk A960
                  clear A960
                  replace H := Option.bind_eq_some_iff.mp H
                  obtain ⟨t674, A970, H⟩ := H
                  replace H : (if t674 < 0 then (some false) else (if t674 = t671 then ((laws_toColumn.f kj64 a0_0 l0_1 l0_2).bind fun bt675 => ((impl_TakeOut.f bt675.1 bt675.2.1 bt675.2.2 a1).bind fun bt682 => ((laws_eqColumn.f kj64 bt682.1 bt682.2.1 bt682.2.2.1 t632 t633 t636).bind fun t691 => (if t691 = true then (laws_FnExactTakeOut.j2 kj64 t671 (bt682.2.2.2 != t639) t649 t672 t673) else (laws_FnExactTakeOut.j2 kj64 t671 true t649 t672 t673))))) else (some false))) = some r := H
                  have A97 := Aside0.mk A970
                  clear A970
                  by_cases c98 : t674 < 0
                  · rw [if_pos c98] at H
                    have c98b0 : decide (t674 < 0) = true := decide_eq_true c98
                    clear c98
                    exact absurd (Option.some.inj H) (by rw [hr_.out]; decide)
                  · rw [if_neg c98] at H
                    have c98b0 : decide (t674 < 0) = false := decide_eq_false c98
                    clear c98
                    by_cases c99 : t674 = t671
                    · rw [if_pos c99] at H
                      have c99b0 : (t674 == t671) = true := beq_iff_eq.mpr c99
                      have c99b1 : (t674 != t671) = false := bne_eq_false_iff_eq.mpr c99
                      clear c99
                      replace H := Option.bind_eq_some_iff.mp H
                      obtain ⟨⟨t675, t676, t679⟩, A1000, H⟩ := H
                      replace H : ((impl_TakeOut.f t675 t676 t679 a1).bind fun bt682 => ((laws_eqColumn.f kj64 bt682.1 bt682.2.1 bt682.2.2.1 t632 t633 t636).bind fun t691 => (if t691 = true then (laws_FnExactTakeOut.j2 kj64 t671 (bt682.2.2.2 != t639) t649 t672 t673) else (laws_FnExactTakeOut.j2 kj64 t671 true t649 t672 t673)))) = some r := H
                      have A100 := Aside0.mk A1000
                      clear A1000
                      replace H := Option.bind_eq_some_iff.mp H
                      obtain ⟨⟨t682, t683, t686, t689⟩, A1010, H⟩ := H
                      replace H : ((laws_eqColumn.f kj64 t682 t683 t686 t632 t633 t636).bind fun t691 => (if t691 = true then (laws_FnExactTakeOut.j2 kj64 t671 (t689 != t639) t649 t672 t673) else (laws_FnExactTakeOut.j2 kj64 t671 true t649 t672 t673))) = some r := H
                      have A101 := Aside0.mk A1010
                      clear A1010
                      have HC102 := Aside0.mk H
                      clear H
                      have hnb103 := NB657_623.out
                      have hnc103 := NB623_657.out
                      have hnb104 := NB657_640.out
                      have hnc104 := NB640_657.out
                      have hnb105 := NB657_648.out
                      have hnc105 := NB648_657.out
                      have hcz106_0 : wc.cell? ⟨gb657, 0, none⟩ = some (.int .i64 t649) := (blk_cell BK657.out 0).trans rfl
                      have hcz106_1 : wc.cell? ⟨gb657, 1, none⟩ = some (.slice Ao40 t650.length co40) := (blk_cell BK657.out 1).trans rfl
                      have hcz106_2 : wc.cell? ⟨gb657, 2, none⟩ = some (.slice Ao41 t653.length co41) := (blk_cell BK657.out 2).trans rfl
                      have hfz106_0 := blk_frozen BK657.out 0
                      have hfz106_1 := blk_frozen BK657.out 1
                      have hfz106_2 := blk_frozen BK657.out 2
                      go_upto_region 25 with (first | ((with_reducible refine gate_callee (f := 25) rfl ?_); refine goesL_ (some 68) rfl rfl Try.func25 (by kernel_rfl) rfl #[.agg #[.int .i64 t649, .slice Ao40 t650.length co40, .slice Ao41 t653.length co41], .int .i64 1] rfl (by (try simp only [List.map_toArray, List.map_cons, List.map_nil]); first | done | rfl | (simp only [List.length_drop, List.length_take]; rfl)) ?_; (with_reducible refine (laws_markColumn.calls kj64 t649 (fun k_ => some k_ = (.slice Ao40 t650.length co40 : Value).ownBlock) (.slice Ao40 t650.length co40) t650 (fun k_ => some k_ = (.slice Ao41 t653.length co41 : Value).ownBlock) (.slice Ao41 t653.length co41) t653 1 t671 t672 t673 w _ ?side1 ?side2 ?side3 A96.out).mono ?_); (case side1 => repeat (first | (with_reducible first | exact HB.out | apply below_alloc | apply pw_below_drewN | apply below_drew1 | refine below_set ?_ GE623.out | refine below_set ?_ GE640.out | refine below_set ?_ GE648.out | refine below_set ?_ GE657.out) | exact HB.out)); (case side2 => exact Kd.R_tight rfl HO_658001.out); (case side3 => exact Kd.R_tight rfl HO_658002.out); rintro e w107 ⟨rfl, hy0, hy1, hb, hkp⟩; refine ⟨_, rfl, ?_⟩; have n0_ := Aside0.mk (Kd.R_mono (ok' := fun k_ => some k_ ≠ (.slice Ao32 t668.length co32 : Value).ownBlock ∧ some k_ ≠ (.slice Ao40 t650.length co40 : Value).ownBlock) (Kd.R_keptB ((Kd.R_apart' HO_641001.out (Kd.R_typed HO_658002.out) (by decide))) hkp (fun k_ hk_ hs_ => Or.elim hs_ (fun e_ => (hk_.1.2) e_) (fun e_ => (hk_.2) e_))) (fun k_ hk_ => ⟨hk_.1.1.1, hk_.1.1.2⟩)); have n1_ := Aside0.mk (Kd.R_mono (ok' := fun k_ => some k_ ≠ (.slice Ao33 t669.length co33 : Value).ownBlock ∧ some k_ ≠ (.slice Ao41 t653.length co41 : Value).ownBlock) (Kd.R_keptB ((Kd.R_apart' HO_641002.out (Kd.R_typed HO_658001.out) (by decide))) hkp (fun k_ hk_ hs_ => Or.elim hs_ (fun e_ => (hk_.2) e_) (fun e_ => (hk_.1.2) e_))) (fun k_ hk_ => ⟨hk_.1.1.1, hk_.1.1.2⟩)); have n2_ := Aside0.mk (Kd.R_mono (ok' := fun k_ => some k_ ≠ (.slice Ao24 t633.length co24 : Value).ownBlock ∧ some k_ ≠ (.slice Ao40 t650.length co40 : Value).ownBlock) (Kd.R_keptB ((Kd.R_apart' HO_649001.out (Kd.R_typed HO_658002.out) (by decide))) hkp (fun k_ hk_ hs_ => Or.elim hs_ (fun e_ => (hk_.1.2) e_) (fun e_ => (hk_.2) e_))) (fun k_ hk_ => ⟨hk_.1.1.1, hk_.1.1.2⟩)); have n3_ := Aside0.mk (Kd.R_mono (ok' := fun k_ => some k_ ≠ (.slice Ao25 t636.length co25 : Value).ownBlock ∧ some k_ ≠ (.slice Ao41 t653.length co41 : Value).ownBlock) (Kd.R_keptB ((Kd.R_apart' HO_649002.out (Kd.R_typed HO_658001.out) (by decide))) hkp (fun k_ hk_ hs_ => Or.elim hs_ (fun e_ => (hk_.2) e_) (fun e_ => (hk_.1.2) e_))) (fun k_ hk_ => ⟨hk_.1.1.1, hk_.1.1.2⟩)); have n4_ := Aside0.mk (Kd.R_reok rfl hy0 (fun k_ e_ => HO_658001.out.1 k_ e_)); have n5_ := Aside0.mk (Kd.R_reok rfl hy1 (fun k_ e_ => HO_658002.out.1 k_ e_)); have n6_ := Aside0.mk (blk_kept (by (with_reducible repeat (first | refine blk_drewN ?_ _ | refine blk_drew ?_ | refine blk_alloc ?_ _)); exact BK623.out) hkp (fun hs_ => Or.elim hs_ (fun e_ => (fun e_ => (Kd.R_ne HO_658001.out BK623.out (by decide)) e_) e_) (fun e_ => (fun e_ => (Kd.R_ne HO_658002.out BK623.out (by decide)) e_) e_))); have n7_ := Aside0.mk (blk_kept (by (with_reducible repeat (first | refine blk_drewN ?_ _ | refine blk_drew ?_ | refine blk_alloc ?_ _)); exact BK640.out) hkp (fun hs_ => Or.elim hs_ (fun e_ => (fun e_ => (Kd.R_ne HO_658001.out BK640.out (by decide)) e_) e_) (fun e_ => (fun e_ => (Kd.R_ne HO_658002.out BK640.out (by decide)) e_) e_))); have n8_ := Aside0.mk (blk_kept (by (with_reducible repeat (first | refine blk_drewN ?_ _ | refine blk_drew ?_ | refine blk_alloc ?_ _)); exact BK648.out) hkp (fun hs_ => Or.elim hs_ (fun e_ => (fun e_ => (Kd.R_ne HO_658001.out BK648.out (by decide)) e_) e_) (fun e_ => (fun e_ => (Kd.R_ne HO_658002.out BK648.out (by decide)) e_) e_))); have n9_ := Aside0.mk (blk_kept (by (with_reducible repeat (first | refine blk_drewN ?_ _ | refine blk_drew ?_ | refine blk_alloc ?_ _)); exact BK657.out) hkp (fun hs_ => Or.elim hs_ (fun e_ => (fun e_ => (Kd.R_ne HO_658001.out BK657.out (by decide)) e_) e_) (fun e_ => (fun e_ => (Kd.R_ne HO_658002.out BK657.out (by decide)) e_) e_))); have n10_ := Aside0.mk (hb); clear HO_641001; clear HO_641002; clear HO_649001; clear HO_649002; clear HO_658001; clear HO_658002; clear BK623; clear BK640; clear BK648; clear BK657; clear HB; have HO_641001 := n0_; have HO_641002 := n1_; have HO_649001 := n2_; have HO_649002 := n3_; have HO_658001 := n4_; have HO_658002 := n5_; have BK623 := n6_; have BK640 := n7_; have BK648 := n8_; have BK657 := n9_; have HB := n10_; clear n0_ n1_ n2_ n3_ n4_ n5_ n6_ n7_ n8_ n9_ n10_; (try clear hb); (try clear hkp); (try clear hy0); (try clear hy1); have hcz108_0 : w107.cell? ⟨gb657, 0, none⟩ = some (.int .i64 t649) := (blk_cell BK657.out 0).trans rfl; have hcz108_1 : w107.cell? ⟨gb657, 1, none⟩ = some (.slice Ao40 t650.length co40) := (blk_cell BK657.out 1).trans rfl; have hcz108_2 : w107.cell? ⟨gb657, 2, none⟩ = some (.slice Ao41 t653.length co41) := (blk_cell BK657.out 2).trans rfl; have hfz108_0 := blk_frozen BK657.out 0; have hfz108_1 := blk_frozen BK657.out 1; have hfz108_2 := blk_frozen BK657.out 2) | ((with_reducible refine gate_callee (f := 26) rfl ?_); refine goesL_ (some 71) rfl rfl Try.func26 (by kernel_rfl) rfl #[.agg #[.int .i64 t649, .slice Ao40 t672.length co40, .slice Ao41 t673.length co41], .int .i64 1] rfl (by (try simp only [List.map_toArray, List.map_cons, List.map_nil]); first | done | (rw [show t672.length = t650.length from (Kd.R_reads' HO_658001.out).1.symm, show t673.length = t653.length from (Kd.R_reads' HO_658002.out).1.symm] <;> rfl) | rfl | (simp only [List.length_drop, List.length_take]; rfl)) ?_; (with_reducible refine (laws_heldColumn.calls kj64 t649 _ _ t672 _ _ t673 1 t674 _ ?side1 ?side2 ?side3 ?side4 A97.out).mono ?_); (case side1 => repeat (first | exact (Kd.R_reads' HO_658001.out).2.2 | (with_reducible refine Kd.C_alloc ?_ _) | (with_reducible refine Kd.C_drewN ?_ _) | (with_reducible refine Kd.C_drew ?_))); (case side2 => rw [show t672.length = t650.length from (Kd.R_reads' HO_658001.out).1.symm]; exact (Kd.R_reads' HO_658001.out).2.1); (case side3 => repeat (first | exact (Kd.R_reads' HO_658002.out).2.2 | (with_reducible refine Kd.C_alloc ?_ _) | (with_reducible refine Kd.C_drewN ?_ _) | (with_reducible refine Kd.C_drew ?_))); (case side4 => rw [show t673.length = t653.length from (Kd.R_reads' HO_658002.out).1.symm]; exact (Kd.R_reads' HO_658002.out).2.1); rintro e w109 ⟨rfl, hb⟩; refine ⟨_, rfl, ?_⟩; have n0_ := Aside0.mk (Kd.R_below (by (with_reducible repeat (first | apply Kd.R_alloc | apply Kd.R_drewN | apply Kd.R_drew)); exact HO_641001.out) hb); have n1_ := Aside0.mk (Kd.R_below (by (with_reducible repeat (first | apply Kd.R_alloc | apply Kd.R_drewN | apply Kd.R_drew)); exact HO_641002.out) hb); have n2_ := Aside0.mk (Kd.R_below (by (with_reducible repeat (first | apply Kd.R_alloc | apply Kd.R_drewN | apply Kd.R_drew)); exact HO_649001.out) hb); have n3_ := Aside0.mk (Kd.R_below (by (with_reducible repeat (first | apply Kd.R_alloc | apply Kd.R_drewN | apply Kd.R_drew)); exact HO_649002.out) hb); have n4_ := Aside0.mk (Kd.R_below (by (with_reducible repeat (first | apply Kd.R_alloc | apply Kd.R_drewN | apply Kd.R_drew)); exact HO_658001.out) hb); have n5_ := Aside0.mk (Kd.R_below (by (with_reducible repeat (first | apply Kd.R_alloc | apply Kd.R_drewN | apply Kd.R_drew)); exact HO_658002.out) hb); have n6_ := Aside0.mk (blk_below (g := gb623) (o := .cells #[.int .i64 a0_0, .slice A0_1 l0_1.length c0_1, .slice A0_2 l0_2.length c0_2] 25 (0, 0)) (by (with_reducible repeat (first | refine blk_drewN ?_ _ | refine blk_drew ?_ | refine blk_alloc ?_ _)); exact BK623.out) hb); have n7_ := Aside0.mk (blk_below (g := gb640) (o := .cells #[.int .i64 t632, .slice Ao24 t633.length co24, .slice Ao25 t636.length co25] 30 (0, 0)) (by (with_reducible repeat (first | refine blk_drewN ?_ _ | refine blk_drew ?_ | refine blk_alloc ?_ _)); exact BK640.out) hb); have n8_ := Aside0.mk (blk_below (g := gb648) (o := .cells #[.int .i64 t641, .slice Ao32 t668.length co32, .slice Ao33 t669.length co33] 30 (0, 0)) (by (with_reducible repeat (first | refine blk_drewN ?_ _ | refine blk_drew ?_ | refine blk_alloc ?_ _)); exact BK648.out) hb); have n9_ := Aside0.mk (blk_below (g := gb657) (o := .cells #[.int .i64 t649, .slice Ao40 t650.length co40, .slice Ao41 t653.length co41] 30 (0, 0)) (by (with_reducible repeat (first | refine blk_drewN ?_ _ | refine blk_drew ?_ | refine blk_alloc ?_ _)); exact BK657.out) hb); have n10_ := Aside0.mk (below_step (by repeat (first | (with_reducible first | exact HB.out | apply below_alloc | apply pw_below_drewN | apply below_drew1 | refine below_set ?_ GE623.out | refine below_set ?_ GE640.out | refine below_set ?_ GE648.out | refine below_set ?_ GE657.out) | exact HB.out)) hb); clear HO_641001; clear HO_641002; clear HO_649001; clear HO_649002; clear HO_658001; clear HO_658002; clear BK623; clear BK640; clear BK648; clear BK657; clear HB; have HO_641001 := n0_; have HO_641002 := n1_; have HO_649001 := n2_; have HO_649002 := n3_; have HO_658001 := n4_; have HO_658002 := n5_; have BK623 := n6_; have BK640 := n7_; have BK648 := n8_; have BK657 := n9_; have HB := n10_; clear n0_ n1_ n2_ n3_ n4_ n5_ n6_ n7_ n8_ n9_ n10_; (try clear hb); (try clear hb2); (try clear hk); (try clear hi); have hnb110 := NB623_640.out; have hnc110 := NB640_623.out; have hnb111 := NB623_648.out; have hnc111 := NB648_623.out; have hcz112_0 : w109.cell? ⟨gb623, 0, none⟩ = some (.int .i64 a0_0) := (blk_cell BK623.out 0).trans rfl; have hcz112_1 : w109.cell? ⟨gb623, 1, none⟩ = some (.slice A0_1 l0_1.length c0_1) := (blk_cell BK623.out 1).trans rfl; have hcz112_2 : w109.cell? ⟨gb623, 2, none⟩ = some (.slice A0_2 l0_2.length c0_2) := (blk_cell BK623.out 2).trans rfl; have hfz112_0 := blk_frozen BK623.out 0; have hfz112_1 := blk_frozen BK623.out 1; have hfz112_2 := blk_frozen BK623.out 2) | ((with_reducible refine gate_callee (f := 17) rfl ?_); refine goesL_ (some 79) rfl rfl Try.func17 (by kernel_rfl) rfl #[.agg #[.int .i64 a0_0, .slice A0_1 l0_1.length c0_1, .slice A0_2 l0_2.length c0_2]] rfl (by (try simp only [List.map_toArray, List.map_cons, List.map_nil]); first | done | rfl | (simp only [List.length_drop, List.length_take]; rfl)) ?_; (with_reducible refine (laws_toColumn.calls kj64 a0_0 _ _ l0_1 _ _ l0_2 t675 t676 t679 _ ?side1 ?side2 ?side3 ?side4 A100.out).mono ?_); (case side1 => repeat (first | exact (Kd.C_below HR0_1.out HB.out) | (with_reducible refine Kd.C_alloc ?_ _) | (with_reducible refine Kd.C_drewN ?_ _) | (with_reducible refine Kd.C_drew ?_))); (case side2 => exact HC0_1.out); (case side3 => repeat (first | exact (Kd.C_below HR0_2.out HB.out) | (with_reducible refine Kd.C_alloc ?_ _) | (with_reducible refine Kd.C_drewN ?_ _) | (with_reducible refine Kd.C_drew ?_))); (case side4 => exact HC0_2.out); rintro e w113 ⟨v677, v680, rfl, ho0, ho1, hb⟩; refine ⟨_, rfl, ?_⟩; have n0_ := Aside0.mk (Kd.R_elder' (by (with_reducible repeat (first | apply Kd.R_alloc | apply Kd.R_drewN | apply Kd.R_drew)); exact HO_641001.out) (Kd.R_base ho0) hb); have n1_ := Aside0.mk (Kd.R_elder' (by (with_reducible repeat (first | apply Kd.R_alloc | apply Kd.R_drewN | apply Kd.R_drew)); exact HO_641002.out) (Kd.R_base ho1) hb); have n2_ := Aside0.mk (Kd.R_elder' (by (with_reducible repeat (first | apply Kd.R_alloc | apply Kd.R_drewN | apply Kd.R_drew)); exact HO_649001.out) (Kd.R_base ho0) hb); have n3_ := Aside0.mk (Kd.R_elder' (by (with_reducible repeat (first | apply Kd.R_alloc | apply Kd.R_drewN | apply Kd.R_drew)); exact HO_649002.out) (Kd.R_base ho1) hb); have n4_ := Aside0.mk (Kd.R_elder' (by (with_reducible repeat (first | apply Kd.R_alloc | apply Kd.R_drewN | apply Kd.R_drew)); exact HO_658001.out) (Kd.R_base ho0) hb); have n5_ := Aside0.mk (Kd.R_elder' (by (with_reducible repeat (first | apply Kd.R_alloc | apply Kd.R_drewN | apply Kd.R_drew)); exact HO_658002.out) (Kd.R_base ho1) hb); have n6_ := Aside0.mk (Kd.R_lower (Kd.R_new' (Kd.R_new' (Kd.R_new' ho0 (Kd.R_lt (by (with_reducible repeat (first | apply Kd.R_alloc | apply Kd.R_drewN | apply Kd.R_drew)); exact HO_641001.out))) (Kd.R_lt (by (with_reducible repeat (first | apply Kd.R_alloc | apply Kd.R_drewN | apply Kd.R_drew)); exact HO_649001.out))) (Kd.R_lt (by (with_reducible repeat (first | apply Kd.R_alloc | apply Kd.R_drewN | apply Kd.R_drew)); exact HO_658001.out))) (below_size (by repeat (first | (with_reducible first | exact HB.out | apply below_alloc | apply pw_below_drewN | apply below_drew1 | refine below_set ?_ GE623.out | refine below_set ?_ GE640.out | refine below_set ?_ GE648.out | refine below_set ?_ GE657.out) | exact HB.out)))); have n7_ := Aside0.mk (Kd.R_lower (Kd.R_new' (Kd.R_new' (Kd.R_new' ho1 (Kd.R_lt (by (with_reducible repeat (first | apply Kd.R_alloc | apply Kd.R_drewN | apply Kd.R_drew)); exact HO_641002.out))) (Kd.R_lt (by (with_reducible repeat (first | apply Kd.R_alloc | apply Kd.R_drewN | apply Kd.R_drew)); exact HO_649002.out))) (Kd.R_lt (by (with_reducible repeat (first | apply Kd.R_alloc | apply Kd.R_drewN | apply Kd.R_drew)); exact HO_658002.out))) (below_size (by repeat (first | (with_reducible first | exact HB.out | apply below_alloc | apply pw_below_drewN | apply below_drew1 | refine below_set ?_ GE623.out | refine below_set ?_ GE640.out | refine below_set ?_ GE648.out | refine below_set ?_ GE657.out) | exact HB.out)))); have n8_ := Aside0.mk (blk_below (g := gb623) (o := .cells #[.int .i64 a0_0, .slice A0_1 l0_1.length c0_1, .slice A0_2 l0_2.length c0_2] 25 (0, 0)) (by (with_reducible repeat (first | refine blk_drewN ?_ _ | refine blk_drew ?_ | refine blk_alloc ?_ _)); exact BK623.out) hb); have n9_ := Aside0.mk (blk_below (g := gb640) (o := .cells #[.int .i64 t632, .slice Ao24 t633.length co24, .slice Ao25 t636.length co25] 30 (0, 0)) (by (with_reducible repeat (first | refine blk_drewN ?_ _ | refine blk_drew ?_ | refine blk_alloc ?_ _)); exact BK640.out) hb); have n10_ := Aside0.mk (blk_below (g := gb648) (o := .cells #[.int .i64 t641, .slice Ao32 t668.length co32, .slice Ao33 t669.length co33] 30 (0, 0)) (by (with_reducible repeat (first | refine blk_drewN ?_ _ | refine blk_drew ?_ | refine blk_alloc ?_ _)); exact BK648.out) hb); have n11_ := Aside0.mk (blk_below (g := gb657) (o := .cells #[.int .i64 t649, .slice Ao40 t650.length co40, .slice Ao41 t653.length co41] 30 (0, 0)) (by (with_reducible repeat (first | refine blk_drewN ?_ _ | refine blk_drew ?_ | refine blk_alloc ?_ _)); exact BK657.out) hb); have n12_ := Aside0.mk (below_step (by repeat (first | (with_reducible first | exact HB.out | apply below_alloc | apply pw_below_drewN | apply below_drew1 | refine below_set ?_ GE623.out | refine below_set ?_ GE640.out | refine below_set ?_ GE648.out | refine below_set ?_ GE657.out) | exact HB.out)) hb); clear HO_641001; clear HO_641002; clear HO_649001; clear HO_649002; clear HO_658001; clear HO_658002; clear BK623; clear BK640; clear BK648; clear BK657; clear HB; have HO_641001 := n0_; have HO_641002 := n1_; have HO_649001 := n2_; have HO_649002 := n3_; have HO_658001 := n4_; have HO_658002 := n5_; have HO678 := n6_; have HO681 := n7_; have BK623 := n8_; have BK640 := n9_; have BK648 := n10_; have BK657 := n11_; have HB := n12_; clear n0_ n1_ n2_ n3_ n4_ n5_ n6_ n7_ n8_ n9_ n10_ n11_ n12_; (try clear hb); (try clear hb2); (try clear hk); (try clear hi); (try clear ho0); (try clear ho1); obtain ⟨Ao114, co114, eo114⟩ := Kd.R_slice HO678.out; subst eo114; obtain ⟨Ao115, co115, eo115⟩ := Kd.R_slice HO681.out; subst eo115) | ((with_reducible refine gate_callee (f := 40) rfl ?_); refine goesL_ (some 81) rfl rfl Try.func40 (by kernel_rfl) rfl #[.agg #[.int .i64 t675, .slice Ao114 t676.length co114, .slice Ao115 t679.length co115], .int .i64 a1] rfl (by (try simp only [List.map_toArray, List.map_cons, List.map_nil]); first | done | rfl | (simp only [List.length_drop, List.length_take]; rfl)) ?_; (with_reducible refine (impl_TakeOut.calls t675 _ _ t676 _ _ t679 a1 t682 t683 t686 t689 _ ?side1 ?side2 ?side3 ?side4 A101.out).mono ?_); (case side1 => repeat (first | exact (Kd.R_reads' HO678.out).2.2 | (with_reducible refine Kd.C_alloc ?_ _) | (with_reducible refine Kd.C_drewN ?_ _) | (with_reducible refine Kd.C_drew ?_))); (case side2 => exact (Kd.R_reads' HO678.out).2.1); (case side3 => repeat (first | exact (Kd.R_reads' HO681.out).2.2 | (with_reducible refine Kd.C_alloc ?_ _) | (with_reducible refine Kd.C_drewN ?_ _) | (with_reducible refine Kd.C_drew ?_))); (case side4 => exact (Kd.R_reads' HO681.out).2.1); rintro e w116 ⟨v684, v687, rfl, ho0, ho1, hb⟩; refine ⟨_, rfl, ?_⟩; have n0_ := Aside0.mk (Kd.R_elder' (by (with_reducible repeat (first | apply Kd.R_alloc | apply Kd.R_drewN | apply Kd.R_drew)); exact HO_641001.out) (Kd.R_base ho0) hb); have n1_ := Aside0.mk (Kd.R_elder' (by (with_reducible repeat (first | apply Kd.R_alloc | apply Kd.R_drewN | apply Kd.R_drew)); exact HO_641002.out) (Kd.R_base ho1) hb); have n2_ := Aside0.mk (Kd.R_elder' (by (with_reducible repeat (first | apply Kd.R_alloc | apply Kd.R_drewN | apply Kd.R_drew)); exact HO_649001.out) (Kd.R_base ho0) hb); have n3_ := Aside0.mk (Kd.R_elder' (by (with_reducible repeat (first | apply Kd.R_alloc | apply Kd.R_drewN | apply Kd.R_drew)); exact HO_649002.out) (Kd.R_base ho1) hb); have n4_ := Aside0.mk (Kd.R_elder' (by (with_reducible repeat (first | apply Kd.R_alloc | apply Kd.R_drewN | apply Kd.R_drew)); exact HO_658001.out) (Kd.R_base ho0) hb); have n5_ := Aside0.mk (Kd.R_elder' (by (with_reducible repeat (first | apply Kd.R_alloc | apply Kd.R_drewN | apply Kd.R_drew)); exact HO_658002.out) (Kd.R_base ho1) hb); have n6_ := Aside0.mk (Kd.R_elder' (by (with_reducible repeat (first | apply Kd.R_alloc | apply Kd.R_drewN | apply Kd.R_drew)); exact HO678.out) (Kd.R_base ho0) hb); have n7_ := Aside0.mk (Kd.R_elder' (by (with_reducible repeat (first | apply Kd.R_alloc | apply Kd.R_drewN | apply Kd.R_drew)); exact HO681.out) (Kd.R_base ho1) hb); have n8_ := Aside0.mk (Kd.R_lower (Kd.R_new' (Kd.R_new' (Kd.R_new' (Kd.R_new' ho0 (Kd.R_lt (by (with_reducible repeat (first | apply Kd.R_alloc | apply Kd.R_drewN | apply Kd.R_drew)); exact HO_641001.out))) (Kd.R_lt (by (with_reducible repeat (first | apply Kd.R_alloc | apply Kd.R_drewN | apply Kd.R_drew)); exact HO_649001.out))) (Kd.R_lt (by (with_reducible repeat (first | apply Kd.R_alloc | apply Kd.R_drewN | apply Kd.R_drew)); exact HO_658001.out))) (Kd.R_lt (by (with_reducible repeat (first | apply Kd.R_alloc | apply Kd.R_drewN | apply Kd.R_drew)); exact HO678.out))) (below_size (by repeat (first | (with_reducible first | exact HB.out | apply below_alloc | apply pw_below_drewN | apply below_drew1 | refine below_set ?_ GE623.out | refine below_set ?_ GE640.out | refine below_set ?_ GE648.out | refine below_set ?_ GE657.out) | exact HB.out)))); have n9_ := Aside0.mk (Kd.R_lower (Kd.R_new' (Kd.R_new' (Kd.R_new' (Kd.R_new' ho1 (Kd.R_lt (by (with_reducible repeat (first | apply Kd.R_alloc | apply Kd.R_drewN | apply Kd.R_drew)); exact HO_641002.out))) (Kd.R_lt (by (with_reducible repeat (first | apply Kd.R_alloc | apply Kd.R_drewN | apply Kd.R_drew)); exact HO_649002.out))) (Kd.R_lt (by (with_reducible repeat (first | apply Kd.R_alloc | apply Kd.R_drewN | apply Kd.R_drew)); exact HO_658002.out))) (Kd.R_lt (by (with_reducible repeat (first | apply Kd.R_alloc | apply Kd.R_drewN | apply Kd.R_drew)); exact HO681.out))) (below_size (by repeat (first | (with_reducible first | exact HB.out | apply below_alloc | apply pw_below_drewN | apply below_drew1 | refine below_set ?_ GE623.out | refine below_set ?_ GE640.out | refine below_set ?_ GE648.out | refine below_set ?_ GE657.out) | exact HB.out)))); have n10_ := Aside0.mk (blk_below (g := gb623) (o := .cells #[.int .i64 a0_0, .slice A0_1 l0_1.length c0_1, .slice A0_2 l0_2.length c0_2] 25 (0, 0)) (by (with_reducible repeat (first | refine blk_drewN ?_ _ | refine blk_drew ?_ | refine blk_alloc ?_ _)); exact BK623.out) hb); have n11_ := Aside0.mk (blk_below (g := gb640) (o := .cells #[.int .i64 t632, .slice Ao24 t633.length co24, .slice Ao25 t636.length co25] 30 (0, 0)) (by (with_reducible repeat (first | refine blk_drewN ?_ _ | refine blk_drew ?_ | refine blk_alloc ?_ _)); exact BK640.out) hb); have n12_ := Aside0.mk (blk_below (g := gb648) (o := .cells #[.int .i64 t641, .slice Ao32 t668.length co32, .slice Ao33 t669.length co33] 30 (0, 0)) (by (with_reducible repeat (first | refine blk_drewN ?_ _ | refine blk_drew ?_ | refine blk_alloc ?_ _)); exact BK648.out) hb); have n13_ := Aside0.mk (blk_below (g := gb657) (o := .cells #[.int .i64 t649, .slice Ao40 t650.length co40, .slice Ao41 t653.length co41] 30 (0, 0)) (by (with_reducible repeat (first | refine blk_drewN ?_ _ | refine blk_drew ?_ | refine blk_alloc ?_ _)); exact BK657.out) hb); have n14_ := Aside0.mk (below_step (by repeat (first | (with_reducible first | exact HB.out | apply below_alloc | apply pw_below_drewN | apply below_drew1 | refine below_set ?_ GE623.out | refine below_set ?_ GE640.out | refine below_set ?_ GE648.out | refine below_set ?_ GE657.out) | exact HB.out)) hb); clear HO_641001; clear HO_641002; clear HO_649001; clear HO_649002; clear HO_658001; clear HO_658002; clear HO678; clear HO681; clear BK623; clear BK640; clear BK648; clear BK657; clear HB; have HO_641001 := n0_; have HO_641002 := n1_; have HO_649001 := n2_; have HO_649002 := n3_; have HO_658001 := n4_; have HO_658002 := n5_; have HO678 := n6_; have HO681 := n7_; have HO685 := n8_; have HO688 := n9_; have BK623 := n10_; have BK640 := n11_; have BK648 := n12_; have BK657 := n13_; have HB := n14_; clear n0_ n1_ n2_ n3_ n4_ n5_ n6_ n7_ n8_ n9_ n10_ n11_ n12_ n13_ n14_; (try clear hb); (try clear hb2); (try clear hk); (try clear hi); (try clear ho0); (try clear ho1)) | ((with_reducible refine gate_dst (N := 14) rfl ?_); refine box_event ?hg (N := 14) ?hd (cs := #[.int .i64 0, .slice none 0 0, .slice none 0 0]) (t := 30) ?hr ?_; (case hd => rfl); (case hg => rfl); (case hr => first | (go_simp; done) | (go_simp; rfl)); intro gb690 hg w117 hbox hb; have n0_ := Aside0.mk (Kd.R_below (by (with_reducible repeat (first | apply Kd.R_alloc | apply Kd.R_drewN | apply Kd.R_drew)); exact HO_641001.out) hb); have n1_ := Aside0.mk (Kd.R_below (by (with_reducible repeat (first | apply Kd.R_alloc | apply Kd.R_drewN | apply Kd.R_drew)); exact HO_641002.out) hb); have n2_ := Aside0.mk (Kd.R_below (by (with_reducible repeat (first | apply Kd.R_alloc | apply Kd.R_drewN | apply Kd.R_drew)); exact HO_649001.out) hb); have n3_ := Aside0.mk (Kd.R_below (by (with_reducible repeat (first | apply Kd.R_alloc | apply Kd.R_drewN | apply Kd.R_drew)); exact HO_649002.out) hb); have n4_ := Aside0.mk (Kd.R_below (by (with_reducible repeat (first | apply Kd.R_alloc | apply Kd.R_drewN | apply Kd.R_drew)); exact HO_658001.out) hb); have n5_ := Aside0.mk (Kd.R_below (by (with_reducible repeat (first | apply Kd.R_alloc | apply Kd.R_drewN | apply Kd.R_drew)); exact HO_658002.out) hb); have n6_ := Aside0.mk (Kd.R_below (by (with_reducible repeat (first | apply Kd.R_alloc | apply Kd.R_drewN | apply Kd.R_drew)); exact HO678.out) hb); have n7_ := Aside0.mk (Kd.R_below (by (with_reducible repeat (first | apply Kd.R_alloc | apply Kd.R_drewN | apply Kd.R_drew)); exact HO681.out) hb); have n8_ := Aside0.mk (Kd.R_below (by (with_reducible repeat (first | apply Kd.R_alloc | apply Kd.R_drewN | apply Kd.R_drew)); exact HO685.out) hb); have n9_ := Aside0.mk (Kd.R_below (by (with_reducible repeat (first | apply Kd.R_alloc | apply Kd.R_drewN | apply Kd.R_drew)); exact HO688.out) hb); have n10_ := Aside0.mk (blk_below (g := gb623) (o := .cells #[.int .i64 a0_0, .slice A0_1 l0_1.length c0_1, .slice A0_2 l0_2.length c0_2] 25 (0, 0)) (by (with_reducible repeat (first | refine blk_drewN ?_ _ | refine blk_drew ?_ | refine blk_alloc ?_ _)); exact BK623.out) hb); have n11_ := Aside0.mk (blk_below (g := gb640) (o := .cells #[.int .i64 t632, .slice Ao24 t633.length co24, .slice Ao25 t636.length co25] 30 (0, 0)) (by (with_reducible repeat (first | refine blk_drewN ?_ _ | refine blk_drew ?_ | refine blk_alloc ?_ _)); exact BK640.out) hb); have n12_ := Aside0.mk (blk_below (g := gb648) (o := .cells #[.int .i64 t641, .slice Ao32 t668.length co32, .slice Ao33 t669.length co33] 30 (0, 0)) (by (with_reducible repeat (first | refine blk_drewN ?_ _ | refine blk_drew ?_ | refine blk_alloc ?_ _)); exact BK648.out) hb); have n13_ := Aside0.mk (blk_below (g := gb657) (o := .cells #[.int .i64 t649, .slice Ao40 t650.length co40, .slice Ao41 t653.length co41] 30 (0, 0)) (by (with_reducible repeat (first | refine blk_drewN ?_ _ | refine blk_drew ?_ | refine blk_alloc ?_ _)); exact BK657.out) hb); have n14_ := Aside0.mk (below_step (by repeat (first | (with_reducible first | exact HB.out | apply below_alloc | apply pw_below_drewN | apply below_drew1 | refine below_set ?_ GE623.out | refine below_set ?_ GE640.out | refine below_set ?_ GE648.out | refine below_set ?_ GE657.out) | exact HB.out)) hb); have n15_ := Aside0.mk (hbox); have n16_ := Aside0.mk ((by rw [hg]; exact (below_size (by repeat (first | (with_reducible first | exact HB.out | apply below_alloc | apply pw_below_drewN | apply below_drew1 | refine below_set ?_ GE623.out | refine below_set ?_ GE640.out | refine below_set ?_ GE648.out | refine below_set ?_ GE657.out) | exact HB.out))) : w.heap.size ≤ gb690)); have n17_ := Aside0.mk ((by rw [hg]; exact (below_size (by repeat (first | (with_reducible first | exact HB.out | apply below_alloc | apply pw_below_drewN | apply below_drew1 | refine below_set ?_ GE623.out | refine below_set ?_ GE640.out | refine below_set ?_ GE648.out | refine below_set ?_ GE657.out) | exact HB.out))) : w.heap.size ≤ gb690)); have n18_ := Aside0.mk ((by rw [hg]; exact Nat.ne_of_lt (blk_lt (g := gb623) (o := .cells #[.int .i64 a0_0, .slice A0_1 l0_1.length c0_1, .slice A0_2 l0_2.length c0_2] 25 (0, 0)) (by (with_reducible repeat (first | refine blk_drewN ?_ _ | refine blk_drew ?_ | refine blk_alloc ?_ _)); exact BK623.out)) : gb623 ≠ gb690)); have n19_ := Aside0.mk ((by rw [hg]; exact Nat.ne_of_gt (blk_lt (g := gb623) (o := .cells #[.int .i64 a0_0, .slice A0_1 l0_1.length c0_1, .slice A0_2 l0_2.length c0_2] 25 (0, 0)) (by (with_reducible repeat (first | refine blk_drewN ?_ _ | refine blk_drew ?_ | refine blk_alloc ?_ _)); exact BK623.out)) : gb690 ≠ gb623)); have n20_ := Aside0.mk ((by rw [hg]; exact Nat.ne_of_lt (blk_lt (g := gb640) (o := .cells #[.int .i64 t632, .slice Ao24 t633.length co24, .slice Ao25 t636.length co25] 30 (0, 0)) (by (with_reducible repeat (first | refine blk_drewN ?_ _ | refine blk_drew ?_ | refine blk_alloc ?_ _)); exact BK640.out)) : gb640 ≠ gb690)); have n21_ := Aside0.mk ((by rw [hg]; exact Nat.ne_of_gt (blk_lt (g := gb640) (o := .cells #[.int .i64 t632, .slice Ao24 t633.length co24, .slice Ao25 t636.length co25] 30 (0, 0)) (by (with_reducible repeat (first | refine blk_drewN ?_ _ | refine blk_drew ?_ | refine blk_alloc ?_ _)); exact BK640.out)) : gb690 ≠ gb640)); have n22_ := Aside0.mk ((by rw [hg]; exact Nat.ne_of_lt (blk_lt (g := gb648) (o := .cells #[.int .i64 t641, .slice Ao32 t668.length co32, .slice Ao33 t669.length co33] 30 (0, 0)) (by (with_reducible repeat (first | refine blk_drewN ?_ _ | refine blk_drew ?_ | refine blk_alloc ?_ _)); exact BK648.out)) : gb648 ≠ gb690)); have n23_ := Aside0.mk ((by rw [hg]; exact Nat.ne_of_gt (blk_lt (g := gb648) (o := .cells #[.int .i64 t641, .slice Ao32 t668.length co32, .slice Ao33 t669.length co33] 30 (0, 0)) (by (with_reducible repeat (first | refine blk_drewN ?_ _ | refine blk_drew ?_ | refine blk_alloc ?_ _)); exact BK648.out)) : gb690 ≠ gb648)); have n24_ := Aside0.mk ((by rw [hg]; exact Nat.ne_of_lt (blk_lt (g := gb657) (o := .cells #[.int .i64 t649, .slice Ao40 t650.length co40, .slice Ao41 t653.length co41] 30 (0, 0)) (by (with_reducible repeat (first | refine blk_drewN ?_ _ | refine blk_drew ?_ | refine blk_alloc ?_ _)); exact BK657.out)) : gb657 ≠ gb690)); have n25_ := Aside0.mk ((by rw [hg]; exact Nat.ne_of_gt (blk_lt (g := gb657) (o := .cells #[.int .i64 t649, .slice Ao40 t650.length co40, .slice Ao41 t653.length co41] 30 (0, 0)) (by (with_reducible repeat (first | refine blk_drewN ?_ _ | refine blk_drew ?_ | refine blk_alloc ?_ _)); exact BK657.out)) : gb690 ≠ gb657)); clear HO_641001; clear HO_641002; clear HO_649001; clear HO_649002; clear HO_658001; clear HO_658002; clear HO678; clear HO681; clear HO685; clear HO688; clear BK623; clear BK640; clear BK648; clear BK657; clear HB; have HO_641001 := n0_; have HO_641002 := n1_; have HO_649001 := n2_; have HO_649002 := n3_; have HO_658001 := n4_; have HO_658002 := n5_; have HO678 := n6_; have HO681 := n7_; have HO685 := n8_; have HO688 := n9_; have BK623 := n10_; have BK640 := n11_; have BK648 := n12_; have BK657 := n13_; have HB := n14_; have BK690 := n15_; have GW690 := n16_; have GE690 := n17_; have NB623_690 := n18_; have NB690_623 := n19_; have NB640_690 := n20_; have NB690_640 := n21_; have NB648_690 := n22_; have NB690_648 := n23_; have NB657_690 := n24_; have NB690_657 := n25_; clear n0_ n1_ n2_ n3_ n4_ n5_ n6_ n7_ n8_ n9_ n10_ n11_ n12_ n13_ n14_ n15_ n16_ n17_ n18_ n19_ n20_ n21_ n22_ n23_ n24_ n25_; clear hb hbox hg; have hnb118 := NB690_623.out; have hnc118 := NB623_690.out; have hnb119 := NB690_640.out; have hnc119 := NB640_690.out; have hnb120 := NB690_648.out; have hnc120 := NB648_690.out; have hnb121 := NB690_657.out; have hnc121 := NB657_690.out; have hcz122_0 : w117.cell? ⟨gb690, 0, none⟩ = some (.int .i64 0) := (blk_cell BK690.out 0).trans rfl; have hcz122_1 : w117.cell? ⟨gb690, 1, none⟩ = some (.slice none 0 0) := (blk_cell BK690.out 1).trans rfl; have hcz122_2 : w117.cell? ⟨gb690, 2, none⟩ = some (.slice none 0 0) := (blk_cell BK690.out 2).trans rfl; have hfz122_0 := blk_frozen BK690.out 0; have hfz122_1 := blk_frozen BK690.out 1; have hfz122_2 := blk_frozen BK690.out 2; obtain ⟨Ao123, co123, eo123⟩ := Kd.R_slice HO685.out; subst eo123; obtain ⟨Ao124, co124, eo124⟩ := Kd.R_slice HO688.out; subst eo124))
                      (try simp only [Act.put, List.setIfInBounds_toArray, List.set_cons_zero, List.set_cons_succ])
                      go_cut [92] (fun v92 wc => ∃ (kq : Nat) (x92_101 : Bool), v92 = .bool x92_101 ∧ Aside0 (laws_FnExactTakeOut.j2 kq t671 x92_101 t649 t672 t673 = some r) ∧ Aside0 (kq ≤ kj64) ∧ Aside0 (Kd.R (Kd.int .i64) 3 wc w.heap.size (fun k_ => some k_ ≠ ((.slice Ao32 t668.length co32) : Value).ownBlock ∧ some k_ ≠ ((.slice Ao40 t650.length co40) : Value).ownBlock ∧ some k_ ≠ ((.slice Ao123 t683.length co123) : Value).ownBlock) (.slice Ao24 t633.length co24) t633) ∧ Aside0 (Kd.R k71 71 wc w.heap.size (fun k_ => some k_ ≠ ((.slice Ao33 t669.length co33) : Value).ownBlock ∧ some k_ ≠ ((.slice Ao41 t653.length co41) : Value).ownBlock ∧ some k_ ≠ ((.slice Ao124 t686.length co124) : Value).ownBlock) (.slice Ao25 t636.length co25) t636) ∧ Aside0 (Kd.R (Kd.int .i64) 3 wc w.heap.size (fun k_ => some k_ ≠ ((.slice Ao24 t633.length co24) : Value).ownBlock ∧ some k_ ≠ ((.slice Ao40 t650.length co40) : Value).ownBlock ∧ some k_ ≠ ((.slice Ao123 t683.length co123) : Value).ownBlock) (.slice Ao32 t668.length co32) t668) ∧ Aside0 (Kd.R k71 71 wc w.heap.size (fun k_ => some k_ ≠ ((.slice Ao25 t636.length co25) : Value).ownBlock ∧ some k_ ≠ ((.slice Ao41 t653.length co41) : Value).ownBlock ∧ some k_ ≠ ((.slice Ao124 t686.length co124) : Value).ownBlock) (.slice Ao33 t669.length co33) t669) ∧ Aside0 (Kd.R (Kd.int .i64) 3 wc w.heap.size (fun k_ => some k_ ≠ ((.slice Ao24 t633.length co24) : Value).ownBlock ∧ some k_ ≠ ((.slice Ao32 t668.length co32) : Value).ownBlock ∧ some k_ ≠ ((.slice Ao123 t683.length co123) : Value).ownBlock) (.slice Ao40 t650.length co40) t672) ∧ Aside0 (Kd.R k71 71 wc w.heap.size (fun k_ => some k_ ≠ ((.slice Ao25 t636.length co25) : Value).ownBlock ∧ some k_ ≠ ((.slice Ao33 t669.length co33) : Value).ownBlock ∧ some k_ ≠ ((.slice Ao124 t686.length co124) : Value).ownBlock) (.slice Ao41 t653.length co41) t673) ∧ Aside0 (Kd.R (Kd.int .i64) 3 wc w.heap.size (fun k_ => some k_ ≠ ((.slice Ao24 t633.length co24) : Value).ownBlock ∧ some k_ ≠ ((.slice Ao32 t668.length co32) : Value).ownBlock ∧ some k_ ≠ ((.slice Ao40 t650.length co40) : Value).ownBlock) (.slice Ao123 t683.length co123) t683) ∧ Aside0 (Kd.R k71 71 wc w.heap.size (fun k_ => some k_ ≠ ((.slice Ao25 t636.length co25) : Value).ownBlock ∧ some k_ ≠ ((.slice Ao33 t669.length co33) : Value).ownBlock ∧ some k_ ≠ ((.slice Ao41 t653.length co41) : Value).ownBlock) (.slice Ao124 t686.length co124) t686) ∧ Aside0 (wc.heap[gb623]? = some (.cells #[.int .i64 a0_0, (.slice A0_1 l0_1.length c0_1), (.slice A0_2 l0_2.length c0_2)] 25 (0, 0))) ∧ Aside0 (wc.heap[gb640]? = some (.cells #[.int .i64 t632, (.slice Ao24 t633.length co24), (.slice Ao25 t636.length co25)] 30 (0, 0))) ∧ Aside0 (wc.heap[gb648]? = some (.cells #[.int .i64 t641, (.slice Ao32 t668.length co32), (.slice Ao33 t669.length co33)] 30 (0, 0))) ∧ Aside0 (wc.heap[gb657]? = some (.cells #[.int .i64 t649, (.slice Ao40 t650.length co40), (.slice Ao41 t653.length co41)] 30 (0, 0))) ∧ Aside0 (wc.heap[gb690]? = some (.cells #[.int .i64 t682, (.slice Ao123 t683.length co123), (.slice Ao124 t686.length co124)] 30 (0, 0))) ∧ Aside0 (Below w.heap.size w wc))
                      case first =>
                        have H := HC102.out
                        clear HC102
                        replace H := Option.bind_eq_some_iff.mp H
                        obtain ⟨t691, A1250, H⟩ := H
                        replace H : (if t691 = true then (laws_FnExactTakeOut.j2 kj64 t671 (t689 != t639) t649 t672 t673) else (laws_FnExactTakeOut.j2 kj64 t671 true t649 t672 t673)) = some r := H
                        have A125 := Aside0.mk A1250
                        clear A1250
                        by_cases c126 : t691 = true
                        · subst c126
                          have H1 : (laws_FnExactTakeOut.j2 kj64 t671 (t689 != t639) t649 t672 t673) = some r := by rw [if_pos rfl] at H; exact H
                          clear H
                          have H := H1
                          clear H1
                          have H' := Aside0.mk H
                          clear H
                          have hnb127 := NB690_623.out
                          have hnc127 := NB623_690.out
                          have hnb128 := NB690_640.out
                          have hnc128 := NB640_690.out
                          have hnb129 := NB690_648.out
                          have hnc129 := NB648_690.out
                          have hnb130 := NB690_657.out
                          have hnc130 := NB657_690.out
                          have hcz131_0 : w117.cell? ⟨gb690, 0, none⟩ = some (.int .i64 0) := (blk_cell BK690.out 0).trans rfl
                          have hcz131_1 : w117.cell? ⟨gb690, 1, none⟩ = some (.slice none 0 0) := (blk_cell BK690.out 1).trans rfl
                          have hcz131_2 : w117.cell? ⟨gb690, 2, none⟩ = some (.slice none 0 0) := (blk_cell BK690.out 2).trans rfl
                          have hfz131_0 := blk_frozen BK690.out 0
                          have hfz131_1 := blk_frozen BK690.out 1
                          have hfz131_2 := blk_frozen BK690.out 2
                          have hnb132 := NB640_623.out
                          have hnc132 := NB623_640.out
                          have hnb133 := NB640_648.out
                          have hnc133 := NB648_640.out
                          have hnb134 := NB640_657.out
                          have hnc134 := NB657_640.out
                          have hcz135_0 : w117.cell? ⟨gb640, 0, none⟩ = some (.int .i64 t632) := (blk_cell BK640.out 0).trans rfl
                          have hcz135_1 : w117.cell? ⟨gb640, 1, none⟩ = some (.slice Ao24 t633.length co24) := (blk_cell BK640.out 1).trans rfl
                          have hcz135_2 : w117.cell? ⟨gb640, 2, none⟩ = some (.slice Ao25 t636.length co25) := (blk_cell BK640.out 2).trans rfl
                          have hfz135_0 := blk_frozen BK640.out 0
                          have hfz135_1 := blk_frozen BK640.out 1
                          have hfz135_2 := blk_frozen BK640.out 2
                          go_wp2_with (first | ((with_reducible refine gate_callee (f := 19) rfl ?_); refine goesL_ (some 86) rfl rfl Try.func19 (by kernel_rfl) rfl #[.agg #[.int .i64 t682, .slice Ao123 t683.length co123, .slice Ao124 t686.length co124], .agg #[.int .i64 t632, .slice Ao24 t633.length co24, .slice Ao25 t636.length co25]] rfl (by (try simp only [List.map_toArray, List.map_cons, List.map_nil]); first | done | rfl | (simp only [List.length_drop, List.length_take]; rfl)) ?_; (with_reducible refine (laws_eqColumn.calls kj64 t682 _ _ t683 _ _ t686 t632 _ _ t633 _ _ t636 true _ ?side1 ?side2 ?side3 ?side4 ?side5 ?side6 ?side7 ?side8 A125.out).mono ?_); (case side1 => refine (Kd.R_reads' (e := 3) (base := w.heap.size) (ok := fun k_ => ((((True ∧ some k_ ≠ (.slice Ao24 t633.length co24 : Value).ownBlock) ∧ some k_ ≠ (.slice Ao32 t668.length co32 : Value).ownBlock) ∧ some k_ ≠ (.slice Ao40 t650.length co40 : Value).ownBlock) ∧ some k_ ≠ (.slice Ao114 t676.length co114 : Value).ownBlock)) (n := t683.length) (c := co123) ?_).2.2; exact (by (with_reducible repeat (first | apply Kd.R_alloc | apply Kd.R_drewN | apply Kd.R_drew)); exact (Kd.R_mono (Kd.R_far (p := ⟨gb690, 2, none⟩) (Kd.R_far (p := ⟨gb690, 1, none⟩) (Kd.R_far (p := ⟨gb690, 0, none⟩) (Kd.R_types HO685.out BK690.out (by decide)) (fun _ hk => hk.2) (.int .i64 t682)) (fun _ hk => hk.2) (.slice Ao123 t683.length co123)) (fun _ hk => hk.2) (.slice Ao124 t686.length co124)) (fun _ h_ => h_.1)))); (case side2 => exact (Kd.R_reads' HO685.out).2.1); (case side3 => refine (Kd.R_reads' (e := 71) (base := w.heap.size) (ok := fun k_ => ((((True ∧ some k_ ≠ (.slice Ao25 t636.length co25 : Value).ownBlock) ∧ some k_ ≠ (.slice Ao33 t669.length co33 : Value).ownBlock) ∧ some k_ ≠ (.slice Ao41 t653.length co41 : Value).ownBlock) ∧ some k_ ≠ (.slice Ao115 t679.length co115 : Value).ownBlock)) (n := t686.length) (c := co124) ?_).2.2; exact (by (with_reducible repeat (first | apply Kd.R_alloc | apply Kd.R_drewN | apply Kd.R_drew)); exact (Kd.R_mono (Kd.R_far (p := ⟨gb690, 2, none⟩) (Kd.R_far (p := ⟨gb690, 1, none⟩) (Kd.R_far (p := ⟨gb690, 0, none⟩) (Kd.R_types HO688.out BK690.out (by decide)) (fun _ hk => hk.2) (.int .i64 t682)) (fun _ hk => hk.2) (.slice Ao123 t683.length co123)) (fun _ hk => hk.2) (.slice Ao124 t686.length co124)) (fun _ h_ => h_.1)))); (case side4 => exact (Kd.R_reads' HO688.out).2.1); (case side5 => refine (Kd.R_reads' (e := 3) (base := w.heap.size) (ok := fun k_ => (((some k_ ≠ (.slice Ao32 t668.length co32 : Value).ownBlock ∧ some k_ ≠ (.slice Ao40 t650.length co40 : Value).ownBlock) ∧ some k_ ≠ (.slice Ao114 t676.length co114 : Value).ownBlock) ∧ some k_ ≠ (.slice Ao123 t683.length co123 : Value).ownBlock)) (n := t633.length) (c := co24) ?_).2.2; exact (by (with_reducible repeat (first | apply Kd.R_alloc | apply Kd.R_drewN | apply Kd.R_drew)); exact (Kd.R_mono (Kd.R_far (p := ⟨gb690, 2, none⟩) (Kd.R_far (p := ⟨gb690, 1, none⟩) (Kd.R_far (p := ⟨gb690, 0, none⟩) (Kd.R_types HO_641001.out BK690.out (by decide)) (fun _ hk => hk.2) (.int .i64 t682)) (fun _ hk => hk.2) (.slice Ao123 t683.length co123)) (fun _ hk => hk.2) (.slice Ao124 t686.length co124)) (fun _ h_ => h_.1)))); (case side6 => exact (Kd.R_reads' HO_641001.out).2.1); (case side7 => refine (Kd.R_reads' (e := 71) (base := w.heap.size) (ok := fun k_ => (((some k_ ≠ (.slice Ao33 t669.length co33 : Value).ownBlock ∧ some k_ ≠ (.slice Ao41 t653.length co41 : Value).ownBlock) ∧ some k_ ≠ (.slice Ao115 t679.length co115 : Value).ownBlock) ∧ some k_ ≠ (.slice Ao124 t686.length co124 : Value).ownBlock)) (n := t636.length) (c := co25) ?_).2.2; exact (by (with_reducible repeat (first | apply Kd.R_alloc | apply Kd.R_drewN | apply Kd.R_drew)); exact (Kd.R_mono (Kd.R_far (p := ⟨gb690, 2, none⟩) (Kd.R_far (p := ⟨gb690, 1, none⟩) (Kd.R_far (p := ⟨gb690, 0, none⟩) (Kd.R_types HO_641002.out BK690.out (by decide)) (fun _ hk => hk.2) (.int .i64 t682)) (fun _ hk => hk.2) (.slice Ao123 t683.length co123)) (fun _ hk => hk.2) (.slice Ao124 t686.length co124)) (fun _ h_ => h_.1)))); (case side8 => exact (Kd.R_reads' HO_641002.out).2.1); rintro e w136 ⟨rfl, hb⟩; refine ⟨_, rfl, ?_⟩; have n0_ := Aside0.mk (Kd.R_below (by (with_reducible repeat (first | apply Kd.R_alloc | apply Kd.R_drewN | apply Kd.R_drew)); exact (Kd.R_mono (Kd.R_far (p := ⟨gb690, 2, none⟩) (Kd.R_far (p := ⟨gb690, 1, none⟩) (Kd.R_far (p := ⟨gb690, 0, none⟩) (Kd.R_types HO_641001.out BK690.out (by decide)) (fun _ hk => hk.2) (.int .i64 t682)) (fun _ hk => hk.2) (.slice Ao123 t683.length co123)) (fun _ hk => hk.2) (.slice Ao124 t686.length co124)) (fun _ h_ => h_.1))) hb); have n1_ := Aside0.mk (Kd.R_below (by (with_reducible repeat (first | apply Kd.R_alloc | apply Kd.R_drewN | apply Kd.R_drew)); exact (Kd.R_mono (Kd.R_far (p := ⟨gb690, 2, none⟩) (Kd.R_far (p := ⟨gb690, 1, none⟩) (Kd.R_far (p := ⟨gb690, 0, none⟩) (Kd.R_types HO_641002.out BK690.out (by decide)) (fun _ hk => hk.2) (.int .i64 t682)) (fun _ hk => hk.2) (.slice Ao123 t683.length co123)) (fun _ hk => hk.2) (.slice Ao124 t686.length co124)) (fun _ h_ => h_.1))) hb); have n2_ := Aside0.mk (Kd.R_below (by (with_reducible repeat (first | apply Kd.R_alloc | apply Kd.R_drewN | apply Kd.R_drew)); exact (Kd.R_mono (Kd.R_far (p := ⟨gb690, 2, none⟩) (Kd.R_far (p := ⟨gb690, 1, none⟩) (Kd.R_far (p := ⟨gb690, 0, none⟩) (Kd.R_types HO_649001.out BK690.out (by decide)) (fun _ hk => hk.2) (.int .i64 t682)) (fun _ hk => hk.2) (.slice Ao123 t683.length co123)) (fun _ hk => hk.2) (.slice Ao124 t686.length co124)) (fun _ h_ => h_.1))) hb); have n3_ := Aside0.mk (Kd.R_below (by (with_reducible repeat (first | apply Kd.R_alloc | apply Kd.R_drewN | apply Kd.R_drew)); exact (Kd.R_mono (Kd.R_far (p := ⟨gb690, 2, none⟩) (Kd.R_far (p := ⟨gb690, 1, none⟩) (Kd.R_far (p := ⟨gb690, 0, none⟩) (Kd.R_types HO_649002.out BK690.out (by decide)) (fun _ hk => hk.2) (.int .i64 t682)) (fun _ hk => hk.2) (.slice Ao123 t683.length co123)) (fun _ hk => hk.2) (.slice Ao124 t686.length co124)) (fun _ h_ => h_.1))) hb); have n4_ := Aside0.mk (Kd.R_below (by (with_reducible repeat (first | apply Kd.R_alloc | apply Kd.R_drewN | apply Kd.R_drew)); exact (Kd.R_mono (Kd.R_far (p := ⟨gb690, 2, none⟩) (Kd.R_far (p := ⟨gb690, 1, none⟩) (Kd.R_far (p := ⟨gb690, 0, none⟩) (Kd.R_types HO_658001.out BK690.out (by decide)) (fun _ hk => hk.2) (.int .i64 t682)) (fun _ hk => hk.2) (.slice Ao123 t683.length co123)) (fun _ hk => hk.2) (.slice Ao124 t686.length co124)) (fun _ h_ => h_.1))) hb); have n5_ := Aside0.mk (Kd.R_below (by (with_reducible repeat (first | apply Kd.R_alloc | apply Kd.R_drewN | apply Kd.R_drew)); exact (Kd.R_mono (Kd.R_far (p := ⟨gb690, 2, none⟩) (Kd.R_far (p := ⟨gb690, 1, none⟩) (Kd.R_far (p := ⟨gb690, 0, none⟩) (Kd.R_types HO_658002.out BK690.out (by decide)) (fun _ hk => hk.2) (.int .i64 t682)) (fun _ hk => hk.2) (.slice Ao123 t683.length co123)) (fun _ hk => hk.2) (.slice Ao124 t686.length co124)) (fun _ h_ => h_.1))) hb); have n6_ := Aside0.mk (Kd.R_below (by (with_reducible repeat (first | apply Kd.R_alloc | apply Kd.R_drewN | apply Kd.R_drew)); exact (Kd.R_mono (Kd.R_far (p := ⟨gb690, 2, none⟩) (Kd.R_far (p := ⟨gb690, 1, none⟩) (Kd.R_far (p := ⟨gb690, 0, none⟩) (Kd.R_types HO678.out BK690.out (by decide)) (fun _ hk => hk.2) (.int .i64 t682)) (fun _ hk => hk.2) (.slice Ao123 t683.length co123)) (fun _ hk => hk.2) (.slice Ao124 t686.length co124)) (fun _ h_ => h_.1))) hb); have n7_ := Aside0.mk (Kd.R_below (by (with_reducible repeat (first | apply Kd.R_alloc | apply Kd.R_drewN | apply Kd.R_drew)); exact (Kd.R_mono (Kd.R_far (p := ⟨gb690, 2, none⟩) (Kd.R_far (p := ⟨gb690, 1, none⟩) (Kd.R_far (p := ⟨gb690, 0, none⟩) (Kd.R_types HO681.out BK690.out (by decide)) (fun _ hk => hk.2) (.int .i64 t682)) (fun _ hk => hk.2) (.slice Ao123 t683.length co123)) (fun _ hk => hk.2) (.slice Ao124 t686.length co124)) (fun _ h_ => h_.1))) hb); have n8_ := Aside0.mk (Kd.R_below (by (with_reducible repeat (first | apply Kd.R_alloc | apply Kd.R_drewN | apply Kd.R_drew)); exact (Kd.R_mono (Kd.R_far (p := ⟨gb690, 2, none⟩) (Kd.R_far (p := ⟨gb690, 1, none⟩) (Kd.R_far (p := ⟨gb690, 0, none⟩) (Kd.R_types HO685.out BK690.out (by decide)) (fun _ hk => hk.2) (.int .i64 t682)) (fun _ hk => hk.2) (.slice Ao123 t683.length co123)) (fun _ hk => hk.2) (.slice Ao124 t686.length co124)) (fun _ h_ => h_.1))) hb); have n9_ := Aside0.mk (Kd.R_below (by (with_reducible repeat (first | apply Kd.R_alloc | apply Kd.R_drewN | apply Kd.R_drew)); exact (Kd.R_mono (Kd.R_far (p := ⟨gb690, 2, none⟩) (Kd.R_far (p := ⟨gb690, 1, none⟩) (Kd.R_far (p := ⟨gb690, 0, none⟩) (Kd.R_types HO688.out BK690.out (by decide)) (fun _ hk => hk.2) (.int .i64 t682)) (fun _ hk => hk.2) (.slice Ao123 t683.length co123)) (fun _ hk => hk.2) (.slice Ao124 t686.length co124)) (fun _ h_ => h_.1))) hb); have n10_ := Aside0.mk (blk_below (g := gb623) (o := .cells #[.int .i64 a0_0, .slice A0_1 l0_1.length c0_1, .slice A0_2 l0_2.length c0_2] 25 (0, 0)) (by (with_reducible repeat (first | refine blk_drewN ?_ _ | refine blk_drew ?_ | refine blk_alloc ?_ _)); refine blk_far ?_ NB623_690.out _; (with_reducible repeat (first | refine blk_drewN ?_ _ | refine blk_drew ?_ | refine blk_alloc ?_ _)); refine blk_far ?_ NB623_690.out _; (with_reducible repeat (first | refine blk_drewN ?_ _ | refine blk_drew ?_ | refine blk_alloc ?_ _)); refine blk_far ?_ NB623_690.out _; (with_reducible repeat (first | refine blk_drewN ?_ _ | refine blk_drew ?_ | refine blk_alloc ?_ _)); exact BK623.out) hb); have n11_ := Aside0.mk (blk_below (g := gb640) (o := .cells #[.int .i64 t632, .slice Ao24 t633.length co24, .slice Ao25 t636.length co25] 30 (0, 0)) (by (with_reducible repeat (first | refine blk_drewN ?_ _ | refine blk_drew ?_ | refine blk_alloc ?_ _)); refine blk_far ?_ NB640_690.out _; (with_reducible repeat (first | refine blk_drewN ?_ _ | refine blk_drew ?_ | refine blk_alloc ?_ _)); refine blk_far ?_ NB640_690.out _; (with_reducible repeat (first | refine blk_drewN ?_ _ | refine blk_drew ?_ | refine blk_alloc ?_ _)); refine blk_far ?_ NB640_690.out _; (with_reducible repeat (first | refine blk_drewN ?_ _ | refine blk_drew ?_ | refine blk_alloc ?_ _)); exact BK640.out) hb); have n12_ := Aside0.mk (blk_below (g := gb648) (o := .cells #[.int .i64 t641, .slice Ao32 t668.length co32, .slice Ao33 t669.length co33] 30 (0, 0)) (by (with_reducible repeat (first | refine blk_drewN ?_ _ | refine blk_drew ?_ | refine blk_alloc ?_ _)); refine blk_far ?_ NB648_690.out _; (with_reducible repeat (first | refine blk_drewN ?_ _ | refine blk_drew ?_ | refine blk_alloc ?_ _)); refine blk_far ?_ NB648_690.out _; (with_reducible repeat (first | refine blk_drewN ?_ _ | refine blk_drew ?_ | refine blk_alloc ?_ _)); refine blk_far ?_ NB648_690.out _; (with_reducible repeat (first | refine blk_drewN ?_ _ | refine blk_drew ?_ | refine blk_alloc ?_ _)); exact BK648.out) hb); have n13_ := Aside0.mk (blk_below (g := gb657) (o := .cells #[.int .i64 t649, .slice Ao40 t650.length co40, .slice Ao41 t653.length co41] 30 (0, 0)) (by (with_reducible repeat (first | refine blk_drewN ?_ _ | refine blk_drew ?_ | refine blk_alloc ?_ _)); refine blk_far ?_ NB657_690.out _; (with_reducible repeat (first | refine blk_drewN ?_ _ | refine blk_drew ?_ | refine blk_alloc ?_ _)); refine blk_far ?_ NB657_690.out _; (with_reducible repeat (first | refine blk_drewN ?_ _ | refine blk_drew ?_ | refine blk_alloc ?_ _)); refine blk_far ?_ NB657_690.out _; (with_reducible repeat (first | refine blk_drewN ?_ _ | refine blk_drew ?_ | refine blk_alloc ?_ _)); exact BK657.out) hb); have n14_ := Aside0.mk (blk_below (g := gb690) (o := .cells #[.int .i64 t682, .slice Ao123 t683.length co123, .slice Ao124 t686.length co124] 30 (0, 0)) (by (with_reducible repeat (first | refine blk_drewN ?_ _ | refine blk_drew ?_ | refine blk_alloc ?_ _)); refine blk_put (cs := #[.int .i64 t682, .slice Ao123 t683.length co123, .slice none 0 0]) ?_ 2 _ rfl; (with_reducible repeat (first | refine blk_drewN ?_ _ | refine blk_drew ?_ | refine blk_alloc ?_ _)); refine blk_put (cs := #[.int .i64 t682, .slice none 0 0, .slice none 0 0]) ?_ 1 _ rfl; (with_reducible repeat (first | refine blk_drewN ?_ _ | refine blk_drew ?_ | refine blk_alloc ?_ _)); refine blk_put (cs := #[.int .i64 0, .slice none 0 0, .slice none 0 0]) ?_ 0 _ rfl; (with_reducible repeat (first | refine blk_drewN ?_ _ | refine blk_drew ?_ | refine blk_alloc ?_ _)); exact BK690.out) hb); have n15_ := Aside0.mk (below_step (by repeat (first | (with_reducible first | exact HB.out | apply below_alloc | apply pw_below_drewN | apply below_drew1 | refine below_set ?_ GE623.out | refine below_set ?_ GE640.out | refine below_set ?_ GE648.out | refine below_set ?_ GE657.out | refine below_set ?_ GE690.out) | exact HB.out)) hb); clear HO_641001; clear HO_641002; clear HO_649001; clear HO_649002; clear HO_658001; clear HO_658002; clear HO678; clear HO681; clear HO685; clear HO688; clear BK623; clear BK640; clear BK648; clear BK657; clear BK690; clear HB; have HO_641001 := n0_; have HO_641002 := n1_; have HO_649001 := n2_; have HO_649002 := n3_; have HO_658001 := n4_; have HO_658002 := n5_; have HO678 := n6_; have HO681 := n7_; have HO685 := n8_; have HO688 := n9_; have BK623 := n10_; have BK640 := n11_; have BK648 := n12_; have BK657 := n13_; have BK690 := n14_; have HB := n15_; clear n0_ n1_ n2_ n3_ n4_ n5_ n6_ n7_ n8_ n9_ n10_ n11_ n12_ n13_ n14_ n15_; (try clear hb); (try clear hb2); (try clear hk); (try clear hi)))
                          go_meet
                          case rel => exact ⟨_, ((t689 != t639)), (by first | rfl | (simp; done) | (simp [*]; done)), H', ⟨by have := HJ11.out; have := HJ64.out; first | omega | exact Nat.le_refl _⟩, ⟨by (try simp only [hl649001_64]); (try simp only [hl649002_64]); (with_reducible repeat (first | apply Kd.R_alloc | apply Kd.R_drewN | apply Kd.R_drew)); exact Kd.R_mono HO_641001.out (fun _ hk => ⟨hk.1.1.1, ⟨hk.1.1.2, hk.2⟩⟩)⟩, ⟨by (try simp only [hl649001_64]); (try simp only [hl649002_64]); (with_reducible repeat (first | apply Kd.R_alloc | apply Kd.R_drewN | apply Kd.R_drew)); exact Kd.R_mono HO_641002.out (fun _ hk => ⟨hk.1.1.1, ⟨hk.1.1.2, hk.2⟩⟩)⟩, ⟨by (try simp only [hl649001_64]); (try simp only [hl649002_64]); (with_reducible repeat (first | apply Kd.R_alloc | apply Kd.R_drewN | apply Kd.R_drew)); exact Kd.R_mono HO_649001.out (fun _ hk => ⟨hk.1.1.1, ⟨hk.1.1.2, hk.2⟩⟩)⟩, ⟨by (try simp only [hl649001_64]); (try simp only [hl649002_64]); (with_reducible repeat (first | apply Kd.R_alloc | apply Kd.R_drewN | apply Kd.R_drew)); exact Kd.R_mono HO_649002.out (fun _ hk => ⟨hk.1.1.1, ⟨hk.1.1.2, hk.2⟩⟩)⟩, ⟨by (try simp only [hl649001_64]); (try simp only [hl649002_64]); (with_reducible repeat (first | apply Kd.R_alloc | apply Kd.R_drewN | apply Kd.R_drew)); exact Kd.R_mono HO_658001.out (fun _ hk => ⟨hk.1.1.1, ⟨hk.1.1.2, hk.2⟩⟩)⟩, ⟨by (try simp only [hl649001_64]); (try simp only [hl649002_64]); (with_reducible repeat (first | apply Kd.R_alloc | apply Kd.R_drewN | apply Kd.R_drew)); exact Kd.R_mono HO_658002.out (fun _ hk => ⟨hk.1.1.1, ⟨hk.1.1.2, hk.2⟩⟩)⟩, ⟨by (try simp only [hl649001_64]); (try simp only [hl649002_64]); (with_reducible repeat (first | apply Kd.R_alloc | apply Kd.R_drewN | apply Kd.R_drew)); exact Kd.R_mono HO685.out (fun _ hk => ⟨hk.1.1.1.2, ⟨hk.1.1.2, hk.1.2⟩⟩)⟩, ⟨by (try simp only [hl649001_64]); (try simp only [hl649002_64]); (with_reducible repeat (first | apply Kd.R_alloc | apply Kd.R_drewN | apply Kd.R_drew)); exact Kd.R_mono HO688.out (fun _ hk => ⟨hk.1.1.1.2, ⟨hk.1.1.2, hk.1.2⟩⟩)⟩, ⟨by (try simp only [hl649001_64]); (try simp only [hl649002_64]); (with_reducible repeat (first | refine blk_drewN ?_ _ | refine blk_drew ?_ | refine blk_alloc ?_ _)); exact BK623.out⟩, ⟨by (try simp only [hl649001_64]); (try simp only [hl649002_64]); (with_reducible repeat (first | refine blk_drewN ?_ _ | refine blk_drew ?_ | refine blk_alloc ?_ _)); exact BK640.out⟩, ⟨by (try simp only [hl649001_64]); (try simp only [hl649002_64]); (with_reducible repeat (first | refine blk_drewN ?_ _ | refine blk_drew ?_ | refine blk_alloc ?_ _)); exact BK648.out⟩, ⟨by (try simp only [hl649001_64]); (try simp only [hl649002_64]); (with_reducible repeat (first | refine blk_drewN ?_ _ | refine blk_drew ?_ | refine blk_alloc ?_ _)); exact BK657.out⟩, ⟨by (try simp only [hl649001_64]); (try simp only [hl649002_64]); (with_reducible repeat (first | refine blk_drewN ?_ _ | refine blk_drew ?_ | refine blk_alloc ?_ _)); exact BK690.out⟩, ⟨by repeat (first | (with_reducible first | exact HB.out | apply below_alloc | apply pw_below_drewN | apply below_drew1 | refine below_set ?_ GE623.out | refine below_set ?_ GE640.out | refine below_set ?_ GE648.out | refine below_set ?_ GE657.out | refine below_set ?_ GE690.out) | exact HB.out)⟩⟩
                        · replace c126 := Bool.eq_false_iff.mpr c126
                          subst c126
                          have H1 : (laws_FnExactTakeOut.j2 kj64 t671 true t649 t672 t673) = some r := by rw [if_neg (show ¬ (false = true) by decide)] at H; exact H
                          clear H
                          have H := H1
                          clear H1
                          have H' := Aside0.mk H
                          clear H
                          have hnb137 := NB690_623.out
                          have hnc137 := NB623_690.out
                          have hnb138 := NB690_640.out
                          have hnc138 := NB640_690.out
                          have hnb139 := NB690_648.out
                          have hnc139 := NB648_690.out
                          have hnb140 := NB690_657.out
                          have hnc140 := NB657_690.out
                          have hcz141_0 : w117.cell? ⟨gb690, 0, none⟩ = some (.int .i64 0) := (blk_cell BK690.out 0).trans rfl
                          have hcz141_1 : w117.cell? ⟨gb690, 1, none⟩ = some (.slice none 0 0) := (blk_cell BK690.out 1).trans rfl
                          have hcz141_2 : w117.cell? ⟨gb690, 2, none⟩ = some (.slice none 0 0) := (blk_cell BK690.out 2).trans rfl
                          have hfz141_0 := blk_frozen BK690.out 0
                          have hfz141_1 := blk_frozen BK690.out 1
                          have hfz141_2 := blk_frozen BK690.out 2
                          have hnb142 := NB640_623.out
                          have hnc142 := NB623_640.out
                          have hnb143 := NB640_648.out
                          have hnc143 := NB648_640.out
                          have hnb144 := NB640_657.out
                          have hnc144 := NB657_640.out
                          have hcz145_0 : w117.cell? ⟨gb640, 0, none⟩ = some (.int .i64 t632) := (blk_cell BK640.out 0).trans rfl
                          have hcz145_1 : w117.cell? ⟨gb640, 1, none⟩ = some (.slice Ao24 t633.length co24) := (blk_cell BK640.out 1).trans rfl
                          have hcz145_2 : w117.cell? ⟨gb640, 2, none⟩ = some (.slice Ao25 t636.length co25) := (blk_cell BK640.out 2).trans rfl
                          have hfz145_0 := blk_frozen BK640.out 0
                          have hfz145_1 := blk_frozen BK640.out 1
                          have hfz145_2 := blk_frozen BK640.out 2
                          go_wp2_with (first | ((with_reducible refine gate_callee (f := 19) rfl ?_); refine goesL_ (some 86) rfl rfl Try.func19 (by kernel_rfl) rfl #[.agg #[.int .i64 t682, .slice Ao123 t683.length co123, .slice Ao124 t686.length co124], .agg #[.int .i64 t632, .slice Ao24 t633.length co24, .slice Ao25 t636.length co25]] rfl (by (try simp only [List.map_toArray, List.map_cons, List.map_nil]); first | done | rfl | (simp only [List.length_drop, List.length_take]; rfl)) ?_; (with_reducible refine (laws_eqColumn.calls kj64 t682 _ _ t683 _ _ t686 t632 _ _ t633 _ _ t636 false _ ?side1 ?side2 ?side3 ?side4 ?side5 ?side6 ?side7 ?side8 A125.out).mono ?_); (case side1 => refine (Kd.R_reads' (e := 3) (base := w.heap.size) (ok := fun k_ => ((((True ∧ some k_ ≠ (.slice Ao24 t633.length co24 : Value).ownBlock) ∧ some k_ ≠ (.slice Ao32 t668.length co32 : Value).ownBlock) ∧ some k_ ≠ (.slice Ao40 t650.length co40 : Value).ownBlock) ∧ some k_ ≠ (.slice Ao114 t676.length co114 : Value).ownBlock)) (n := t683.length) (c := co123) ?_).2.2; exact (by (with_reducible repeat (first | apply Kd.R_alloc | apply Kd.R_drewN | apply Kd.R_drew)); exact (Kd.R_mono (Kd.R_far (p := ⟨gb690, 2, none⟩) (Kd.R_far (p := ⟨gb690, 1, none⟩) (Kd.R_far (p := ⟨gb690, 0, none⟩) (Kd.R_types HO685.out BK690.out (by decide)) (fun _ hk => hk.2) (.int .i64 t682)) (fun _ hk => hk.2) (.slice Ao123 t683.length co123)) (fun _ hk => hk.2) (.slice Ao124 t686.length co124)) (fun _ h_ => h_.1)))); (case side2 => exact (Kd.R_reads' HO685.out).2.1); (case side3 => refine (Kd.R_reads' (e := 71) (base := w.heap.size) (ok := fun k_ => ((((True ∧ some k_ ≠ (.slice Ao25 t636.length co25 : Value).ownBlock) ∧ some k_ ≠ (.slice Ao33 t669.length co33 : Value).ownBlock) ∧ some k_ ≠ (.slice Ao41 t653.length co41 : Value).ownBlock) ∧ some k_ ≠ (.slice Ao115 t679.length co115 : Value).ownBlock)) (n := t686.length) (c := co124) ?_).2.2; exact (by (with_reducible repeat (first | apply Kd.R_alloc | apply Kd.R_drewN | apply Kd.R_drew)); exact (Kd.R_mono (Kd.R_far (p := ⟨gb690, 2, none⟩) (Kd.R_far (p := ⟨gb690, 1, none⟩) (Kd.R_far (p := ⟨gb690, 0, none⟩) (Kd.R_types HO688.out BK690.out (by decide)) (fun _ hk => hk.2) (.int .i64 t682)) (fun _ hk => hk.2) (.slice Ao123 t683.length co123)) (fun _ hk => hk.2) (.slice Ao124 t686.length co124)) (fun _ h_ => h_.1)))); (case side4 => exact (Kd.R_reads' HO688.out).2.1); (case side5 => refine (Kd.R_reads' (e := 3) (base := w.heap.size) (ok := fun k_ => (((some k_ ≠ (.slice Ao32 t668.length co32 : Value).ownBlock ∧ some k_ ≠ (.slice Ao40 t650.length co40 : Value).ownBlock) ∧ some k_ ≠ (.slice Ao114 t676.length co114 : Value).ownBlock) ∧ some k_ ≠ (.slice Ao123 t683.length co123 : Value).ownBlock)) (n := t633.length) (c := co24) ?_).2.2; exact (by (with_reducible repeat (first | apply Kd.R_alloc | apply Kd.R_drewN | apply Kd.R_drew)); exact (Kd.R_mono (Kd.R_far (p := ⟨gb690, 2, none⟩) (Kd.R_far (p := ⟨gb690, 1, none⟩) (Kd.R_far (p := ⟨gb690, 0, none⟩) (Kd.R_types HO_641001.out BK690.out (by decide)) (fun _ hk => hk.2) (.int .i64 t682)) (fun _ hk => hk.2) (.slice Ao123 t683.length co123)) (fun _ hk => hk.2) (.slice Ao124 t686.length co124)) (fun _ h_ => h_.1)))); (case side6 => exact (Kd.R_reads' HO_641001.out).2.1); (case side7 => refine (Kd.R_reads' (e := 71) (base := w.heap.size) (ok := fun k_ => (((some k_ ≠ (.slice Ao33 t669.length co33 : Value).ownBlock ∧ some k_ ≠ (.slice Ao41 t653.length co41 : Value).ownBlock) ∧ some k_ ≠ (.slice Ao115 t679.length co115 : Value).ownBlock) ∧ some k_ ≠ (.slice Ao124 t686.length co124 : Value).ownBlock)) (n := t636.length) (c := co25) ?_).2.2; exact (by (with_reducible repeat (first | apply Kd.R_alloc | apply Kd.R_drewN | apply Kd.R_drew)); exact (Kd.R_mono (Kd.R_far (p := ⟨gb690, 2, none⟩) (Kd.R_far (p := ⟨gb690, 1, none⟩) (Kd.R_far (p := ⟨gb690, 0, none⟩) (Kd.R_types HO_641002.out BK690.out (by decide)) (fun _ hk => hk.2) (.int .i64 t682)) (fun _ hk => hk.2) (.slice Ao123 t683.length co123)) (fun _ hk => hk.2) (.slice Ao124 t686.length co124)) (fun _ h_ => h_.1)))); (case side8 => exact (Kd.R_reads' HO_641002.out).2.1); rintro e w146 ⟨rfl, hb⟩; refine ⟨_, rfl, ?_⟩; have n0_ := Aside0.mk (Kd.R_below (by (with_reducible repeat (first | apply Kd.R_alloc | apply Kd.R_drewN | apply Kd.R_drew)); exact (Kd.R_mono (Kd.R_far (p := ⟨gb690, 2, none⟩) (Kd.R_far (p := ⟨gb690, 1, none⟩) (Kd.R_far (p := ⟨gb690, 0, none⟩) (Kd.R_types HO_641001.out BK690.out (by decide)) (fun _ hk => hk.2) (.int .i64 t682)) (fun _ hk => hk.2) (.slice Ao123 t683.length co123)) (fun _ hk => hk.2) (.slice Ao124 t686.length co124)) (fun _ h_ => h_.1))) hb); have n1_ := Aside0.mk (Kd.R_below (by (with_reducible repeat (first | apply Kd.R_alloc | apply Kd.R_drewN | apply Kd.R_drew)); exact (Kd.R_mono (Kd.R_far (p := ⟨gb690, 2, none⟩) (Kd.R_far (p := ⟨gb690, 1, none⟩) (Kd.R_far (p := ⟨gb690, 0, none⟩) (Kd.R_types HO_641002.out BK690.out (by decide)) (fun _ hk => hk.2) (.int .i64 t682)) (fun _ hk => hk.2) (.slice Ao123 t683.length co123)) (fun _ hk => hk.2) (.slice Ao124 t686.length co124)) (fun _ h_ => h_.1))) hb); have n2_ := Aside0.mk (Kd.R_below (by (with_reducible repeat (first | apply Kd.R_alloc | apply Kd.R_drewN | apply Kd.R_drew)); exact (Kd.R_mono (Kd.R_far (p := ⟨gb690, 2, none⟩) (Kd.R_far (p := ⟨gb690, 1, none⟩) (Kd.R_far (p := ⟨gb690, 0, none⟩) (Kd.R_types HO_649001.out BK690.out (by decide)) (fun _ hk => hk.2) (.int .i64 t682)) (fun _ hk => hk.2) (.slice Ao123 t683.length co123)) (fun _ hk => hk.2) (.slice Ao124 t686.length co124)) (fun _ h_ => h_.1))) hb); have n3_ := Aside0.mk (Kd.R_below (by (with_reducible repeat (first | apply Kd.R_alloc | apply Kd.R_drewN | apply Kd.R_drew)); exact (Kd.R_mono (Kd.R_far (p := ⟨gb690, 2, none⟩) (Kd.R_far (p := ⟨gb690, 1, none⟩) (Kd.R_far (p := ⟨gb690, 0, none⟩) (Kd.R_types HO_649002.out BK690.out (by decide)) (fun _ hk => hk.2) (.int .i64 t682)) (fun _ hk => hk.2) (.slice Ao123 t683.length co123)) (fun _ hk => hk.2) (.slice Ao124 t686.length co124)) (fun _ h_ => h_.1))) hb); have n4_ := Aside0.mk (Kd.R_below (by (with_reducible repeat (first | apply Kd.R_alloc | apply Kd.R_drewN | apply Kd.R_drew)); exact (Kd.R_mono (Kd.R_far (p := ⟨gb690, 2, none⟩) (Kd.R_far (p := ⟨gb690, 1, none⟩) (Kd.R_far (p := ⟨gb690, 0, none⟩) (Kd.R_types HO_658001.out BK690.out (by decide)) (fun _ hk => hk.2) (.int .i64 t682)) (fun _ hk => hk.2) (.slice Ao123 t683.length co123)) (fun _ hk => hk.2) (.slice Ao124 t686.length co124)) (fun _ h_ => h_.1))) hb); have n5_ := Aside0.mk (Kd.R_below (by (with_reducible repeat (first | apply Kd.R_alloc | apply Kd.R_drewN | apply Kd.R_drew)); exact (Kd.R_mono (Kd.R_far (p := ⟨gb690, 2, none⟩) (Kd.R_far (p := ⟨gb690, 1, none⟩) (Kd.R_far (p := ⟨gb690, 0, none⟩) (Kd.R_types HO_658002.out BK690.out (by decide)) (fun _ hk => hk.2) (.int .i64 t682)) (fun _ hk => hk.2) (.slice Ao123 t683.length co123)) (fun _ hk => hk.2) (.slice Ao124 t686.length co124)) (fun _ h_ => h_.1))) hb); have n6_ := Aside0.mk (Kd.R_below (by (with_reducible repeat (first | apply Kd.R_alloc | apply Kd.R_drewN | apply Kd.R_drew)); exact (Kd.R_mono (Kd.R_far (p := ⟨gb690, 2, none⟩) (Kd.R_far (p := ⟨gb690, 1, none⟩) (Kd.R_far (p := ⟨gb690, 0, none⟩) (Kd.R_types HO678.out BK690.out (by decide)) (fun _ hk => hk.2) (.int .i64 t682)) (fun _ hk => hk.2) (.slice Ao123 t683.length co123)) (fun _ hk => hk.2) (.slice Ao124 t686.length co124)) (fun _ h_ => h_.1))) hb); have n7_ := Aside0.mk (Kd.R_below (by (with_reducible repeat (first | apply Kd.R_alloc | apply Kd.R_drewN | apply Kd.R_drew)); exact (Kd.R_mono (Kd.R_far (p := ⟨gb690, 2, none⟩) (Kd.R_far (p := ⟨gb690, 1, none⟩) (Kd.R_far (p := ⟨gb690, 0, none⟩) (Kd.R_types HO681.out BK690.out (by decide)) (fun _ hk => hk.2) (.int .i64 t682)) (fun _ hk => hk.2) (.slice Ao123 t683.length co123)) (fun _ hk => hk.2) (.slice Ao124 t686.length co124)) (fun _ h_ => h_.1))) hb); have n8_ := Aside0.mk (Kd.R_below (by (with_reducible repeat (first | apply Kd.R_alloc | apply Kd.R_drewN | apply Kd.R_drew)); exact (Kd.R_mono (Kd.R_far (p := ⟨gb690, 2, none⟩) (Kd.R_far (p := ⟨gb690, 1, none⟩) (Kd.R_far (p := ⟨gb690, 0, none⟩) (Kd.R_types HO685.out BK690.out (by decide)) (fun _ hk => hk.2) (.int .i64 t682)) (fun _ hk => hk.2) (.slice Ao123 t683.length co123)) (fun _ hk => hk.2) (.slice Ao124 t686.length co124)) (fun _ h_ => h_.1))) hb); have n9_ := Aside0.mk (Kd.R_below (by (with_reducible repeat (first | apply Kd.R_alloc | apply Kd.R_drewN | apply Kd.R_drew)); exact (Kd.R_mono (Kd.R_far (p := ⟨gb690, 2, none⟩) (Kd.R_far (p := ⟨gb690, 1, none⟩) (Kd.R_far (p := ⟨gb690, 0, none⟩) (Kd.R_types HO688.out BK690.out (by decide)) (fun _ hk => hk.2) (.int .i64 t682)) (fun _ hk => hk.2) (.slice Ao123 t683.length co123)) (fun _ hk => hk.2) (.slice Ao124 t686.length co124)) (fun _ h_ => h_.1))) hb); have n10_ := Aside0.mk (blk_below (g := gb623) (o := .cells #[.int .i64 a0_0, .slice A0_1 l0_1.length c0_1, .slice A0_2 l0_2.length c0_2] 25 (0, 0)) (by (with_reducible repeat (first | refine blk_drewN ?_ _ | refine blk_drew ?_ | refine blk_alloc ?_ _)); refine blk_far ?_ NB623_690.out _; (with_reducible repeat (first | refine blk_drewN ?_ _ | refine blk_drew ?_ | refine blk_alloc ?_ _)); refine blk_far ?_ NB623_690.out _; (with_reducible repeat (first | refine blk_drewN ?_ _ | refine blk_drew ?_ | refine blk_alloc ?_ _)); refine blk_far ?_ NB623_690.out _; (with_reducible repeat (first | refine blk_drewN ?_ _ | refine blk_drew ?_ | refine blk_alloc ?_ _)); exact BK623.out) hb); have n11_ := Aside0.mk (blk_below (g := gb640) (o := .cells #[.int .i64 t632, .slice Ao24 t633.length co24, .slice Ao25 t636.length co25] 30 (0, 0)) (by (with_reducible repeat (first | refine blk_drewN ?_ _ | refine blk_drew ?_ | refine blk_alloc ?_ _)); refine blk_far ?_ NB640_690.out _; (with_reducible repeat (first | refine blk_drewN ?_ _ | refine blk_drew ?_ | refine blk_alloc ?_ _)); refine blk_far ?_ NB640_690.out _; (with_reducible repeat (first | refine blk_drewN ?_ _ | refine blk_drew ?_ | refine blk_alloc ?_ _)); refine blk_far ?_ NB640_690.out _; (with_reducible repeat (first | refine blk_drewN ?_ _ | refine blk_drew ?_ | refine blk_alloc ?_ _)); exact BK640.out) hb); have n12_ := Aside0.mk (blk_below (g := gb648) (o := .cells #[.int .i64 t641, .slice Ao32 t668.length co32, .slice Ao33 t669.length co33] 30 (0, 0)) (by (with_reducible repeat (first | refine blk_drewN ?_ _ | refine blk_drew ?_ | refine blk_alloc ?_ _)); refine blk_far ?_ NB648_690.out _; (with_reducible repeat (first | refine blk_drewN ?_ _ | refine blk_drew ?_ | refine blk_alloc ?_ _)); refine blk_far ?_ NB648_690.out _; (with_reducible repeat (first | refine blk_drewN ?_ _ | refine blk_drew ?_ | refine blk_alloc ?_ _)); refine blk_far ?_ NB648_690.out _; (with_reducible repeat (first | refine blk_drewN ?_ _ | refine blk_drew ?_ | refine blk_alloc ?_ _)); exact BK648.out) hb); have n13_ := Aside0.mk (blk_below (g := gb657) (o := .cells #[.int .i64 t649, .slice Ao40 t650.length co40, .slice Ao41 t653.length co41] 30 (0, 0)) (by (with_reducible repeat (first | refine blk_drewN ?_ _ | refine blk_drew ?_ | refine blk_alloc ?_ _)); refine blk_far ?_ NB657_690.out _; (with_reducible repeat (first | refine blk_drewN ?_ _ | refine blk_drew ?_ | refine blk_alloc ?_ _)); refine blk_far ?_ NB657_690.out _; (with_reducible repeat (first | refine blk_drewN ?_ _ | refine blk_drew ?_ | refine blk_alloc ?_ _)); refine blk_far ?_ NB657_690.out _; (with_reducible repeat (first | refine blk_drewN ?_ _ | refine blk_drew ?_ | refine blk_alloc ?_ _)); exact BK657.out) hb); have n14_ := Aside0.mk (blk_below (g := gb690) (o := .cells #[.int .i64 t682, .slice Ao123 t683.length co123, .slice Ao124 t686.length co124] 30 (0, 0)) (by (with_reducible repeat (first | refine blk_drewN ?_ _ | refine blk_drew ?_ | refine blk_alloc ?_ _)); refine blk_put (cs := #[.int .i64 t682, .slice Ao123 t683.length co123, .slice none 0 0]) ?_ 2 _ rfl; (with_reducible repeat (first | refine blk_drewN ?_ _ | refine blk_drew ?_ | refine blk_alloc ?_ _)); refine blk_put (cs := #[.int .i64 t682, .slice none 0 0, .slice none 0 0]) ?_ 1 _ rfl; (with_reducible repeat (first | refine blk_drewN ?_ _ | refine blk_drew ?_ | refine blk_alloc ?_ _)); refine blk_put (cs := #[.int .i64 0, .slice none 0 0, .slice none 0 0]) ?_ 0 _ rfl; (with_reducible repeat (first | refine blk_drewN ?_ _ | refine blk_drew ?_ | refine blk_alloc ?_ _)); exact BK690.out) hb); have n15_ := Aside0.mk (below_step (by repeat (first | (with_reducible first | exact HB.out | apply below_alloc | apply pw_below_drewN | apply below_drew1 | refine below_set ?_ GE623.out | refine below_set ?_ GE640.out | refine below_set ?_ GE648.out | refine below_set ?_ GE657.out | refine below_set ?_ GE690.out) | exact HB.out)) hb); clear HO_641001; clear HO_641002; clear HO_649001; clear HO_649002; clear HO_658001; clear HO_658002; clear HO678; clear HO681; clear HO685; clear HO688; clear BK623; clear BK640; clear BK648; clear BK657; clear BK690; clear HB; have HO_641001 := n0_; have HO_641002 := n1_; have HO_649001 := n2_; have HO_649002 := n3_; have HO_658001 := n4_; have HO_658002 := n5_; have HO678 := n6_; have HO681 := n7_; have HO685 := n8_; have HO688 := n9_; have BK623 := n10_; have BK640 := n11_; have BK648 := n12_; have BK657 := n13_; have BK690 := n14_; have HB := n15_; clear n0_ n1_ n2_ n3_ n4_ n5_ n6_ n7_ n8_ n9_ n10_ n11_ n12_ n13_ n14_ n15_; (try clear hb); (try clear hb2); (try clear hk); (try clear hi)))
                          go_meet
                          case rel => exact ⟨_, (true), (by first | rfl | (simp; done) | (simp [*]; done)), H', ⟨by have := HJ11.out; have := HJ64.out; first | omega | exact Nat.le_refl _⟩, ⟨by (try simp only [hl649001_64]); (try simp only [hl649002_64]); (with_reducible repeat (first | apply Kd.R_alloc | apply Kd.R_drewN | apply Kd.R_drew)); exact Kd.R_mono HO_641001.out (fun _ hk => ⟨hk.1.1.1, ⟨hk.1.1.2, hk.2⟩⟩)⟩, ⟨by (try simp only [hl649001_64]); (try simp only [hl649002_64]); (with_reducible repeat (first | apply Kd.R_alloc | apply Kd.R_drewN | apply Kd.R_drew)); exact Kd.R_mono HO_641002.out (fun _ hk => ⟨hk.1.1.1, ⟨hk.1.1.2, hk.2⟩⟩)⟩, ⟨by (try simp only [hl649001_64]); (try simp only [hl649002_64]); (with_reducible repeat (first | apply Kd.R_alloc | apply Kd.R_drewN | apply Kd.R_drew)); exact Kd.R_mono HO_649001.out (fun _ hk => ⟨hk.1.1.1, ⟨hk.1.1.2, hk.2⟩⟩)⟩, ⟨by (try simp only [hl649001_64]); (try simp only [hl649002_64]); (with_reducible repeat (first | apply Kd.R_alloc | apply Kd.R_drewN | apply Kd.R_drew)); exact Kd.R_mono HO_649002.out (fun _ hk => ⟨hk.1.1.1, ⟨hk.1.1.2, hk.2⟩⟩)⟩, ⟨by (try simp only [hl649001_64]); (try simp only [hl649002_64]); (with_reducible repeat (first | apply Kd.R_alloc | apply Kd.R_drewN | apply Kd.R_drew)); exact Kd.R_mono HO_658001.out (fun _ hk => ⟨hk.1.1.1, ⟨hk.1.1.2, hk.2⟩⟩)⟩, ⟨by (try simp only [hl649001_64]); (try simp only [hl649002_64]); (with_reducible repeat (first | apply Kd.R_alloc | apply Kd.R_drewN | apply Kd.R_drew)); exact Kd.R_mono HO_658002.out (fun _ hk => ⟨hk.1.1.1, ⟨hk.1.1.2, hk.2⟩⟩)⟩, ⟨by (try simp only [hl649001_64]); (try simp only [hl649002_64]); (with_reducible repeat (first | apply Kd.R_alloc | apply Kd.R_drewN | apply Kd.R_drew)); exact Kd.R_mono HO685.out (fun _ hk => ⟨hk.1.1.1.2, ⟨hk.1.1.2, hk.1.2⟩⟩)⟩, ⟨by (try simp only [hl649001_64]); (try simp only [hl649002_64]); (with_reducible repeat (first | apply Kd.R_alloc | apply Kd.R_drewN | apply Kd.R_drew)); exact Kd.R_mono HO688.out (fun _ hk => ⟨hk.1.1.1.2, ⟨hk.1.1.2, hk.1.2⟩⟩)⟩, ⟨by (try simp only [hl649001_64]); (try simp only [hl649002_64]); (with_reducible repeat (first | refine blk_drewN ?_ _ | refine blk_drew ?_ | refine blk_alloc ?_ _)); exact BK623.out⟩, ⟨by (try simp only [hl649001_64]); (try simp only [hl649002_64]); (with_reducible repeat (first | refine blk_drewN ?_ _ | refine blk_drew ?_ | refine blk_alloc ?_ _)); exact BK640.out⟩, ⟨by (try simp only [hl649001_64]); (try simp only [hl649002_64]); (with_reducible repeat (first | refine blk_drewN ?_ _ | refine blk_drew ?_ | refine blk_alloc ?_ _)); exact BK648.out⟩, ⟨by (try simp only [hl649001_64]); (try simp only [hl649002_64]); (with_reducible repeat (first | refine blk_drewN ?_ _ | refine blk_drew ?_ | refine blk_alloc ?_ _)); exact BK657.out⟩, ⟨by (try simp only [hl649001_64]); (try simp only [hl649002_64]); (with_reducible repeat (first | refine blk_drewN ?_ _ | refine blk_drew ?_ | refine blk_alloc ?_ _)); exact BK690.out⟩, ⟨by repeat (first | (with_reducible first | exact HB.out | apply below_alloc | apply pw_below_drewN | apply below_drew1 | refine below_set ?_ GE623.out | refine below_set ?_ GE640.out | refine below_set ?_ GE648.out | refine below_set ?_ GE657.out | refine below_set ?_ GE690.out) | exact HB.out)⟩⟩
                      case rest =>
                        clear HC102
                        try clear c1
                        try clear c2
                        try clear p2
                        try clear c3
                        try clear c4
                        try clear c4b0
                        try clear c5
                        try clear c6
                        try clear c7
                        try clear c8
                        try clear c9
                        try clear c10
                        try clear c11
                        try clear c12
                        try clear c13
                        try clear c14
                        try clear c15
                        try clear c17
                        try clear c19
                        try clear c22
                        try clear c25
                        try clear c26
                        try clear c29
                        try clear c30
                        try clear c36
                        try clear c37
                        try clear c38
                        try clear c39
                        try clear c40
                        try clear c43
                        try clear c44
                        try clear c45
                        try clear c46
                        try clear c48
                        try clear c49
                        try clear c52
                        try clear c53
                        try clear c54
                        try clear c56
                        try clear c57
                        try clear c60
                        try clear c63
                        try clear c71
                        try clear c72
                        try clear c73
                        try clear c76
                        try clear c76b0
                        try clear c78
                        try clear c79
                        try clear c80
                        try clear c81
                        try clear c83
                        try clear c84
                        try clear c87
                        try clear c88
                        try clear c89
                        try clear c91
                        try clear c92
                        try clear c95
                        try clear c98
                        try clear c98b0
                        try clear c99
                        try clear c99b0
                        try clear c99b1
                        try clear c103
                        try clear c104
                        try clear c105
                        try clear c110
                        try clear c111
                        try clear c118
                        try clear c119
                        try clear c120
                        try clear c121
                        try clear c126
                        try clear c127
                        try clear c128
                        try clear c129
                        try clear c130
                        try clear c132
                        try clear c133
                        try clear c134
                        try clear c137
                        try clear c138
                        try clear c139
                        try clear c140
                        try clear c142
                        try clear c143
                        try clear c144
                        try clear hcz106_0
                        try clear hcz106_1
                        try clear hcz106_2
                        try clear hcz108_0
                        try clear hcz108_1
                        try clear hcz108_2
                        try clear hcz112_0
                        try clear hcz112_1
                        try clear hcz112_2
                        try clear hcz122_0
                        try clear hcz122_1
                        try clear hcz122_2
                        try clear hcz131_0
                        try clear hcz131_1
                        try clear hcz131_2
                        try clear hcz135_0
                        try clear hcz135_1
                        try clear hcz135_2
                        try clear hcz141_0
                        try clear hcz141_1
                        try clear hcz141_2
                        try clear hcz145_0
                        try clear hcz145_1
                        try clear hcz145_2
                        try clear hcz14_0
                        try clear hcz14_1
                        try clear hcz14_2
                        try clear hcz16_0
                        try clear hcz16_1
                        try clear hcz16_2
                        try clear hcz23_0
                        try clear hcz23_1
                        try clear hcz23_2
                        try clear hcz26_0
                        try clear hcz26_1
                        try clear hcz26_2
                        try clear hcz31_0
                        try clear hcz31_1
                        try clear hcz31_2
                        try clear hcz39_0
                        try clear hcz39_1
                        try clear hcz39_2
                        try clear hcz47_0
                        try clear hcz47_1
                        try clear hcz47_2
                        try clear hcz50_0
                        try clear hcz50_1
                        try clear hcz50_2
                        try clear hcz55_0
                        try clear hcz55_1
                        try clear hcz55_2
                        try clear hcz58_0
                        try clear hcz58_1
                        try clear hcz58_2
                        try clear hcz6_0
                        try clear hcz6_1
                        try clear hcz6_2
                        try clear hcz74_0
                        try clear hcz74_1
                        try clear hcz74_2
                        try clear hcz82_0
                        try clear hcz82_1
                        try clear hcz82_2
                        try clear hcz85_0
                        try clear hcz85_1
                        try clear hcz85_2
                        try clear hcz90_0
                        try clear hcz90_1
                        try clear hcz90_2
                        try clear hcz93_0
                        try clear hcz93_1
                        try clear hcz93_2
                        try clear hfz106_0
                        try clear hfz106_1
                        try clear hfz106_2
                        try clear hfz108_0
                        try clear hfz108_1
                        try clear hfz108_2
                        try clear hfz112_0
                        try clear hfz112_1
                        try clear hfz112_2
                        try clear hfz122_0
                        try clear hfz122_1
                        try clear hfz122_2
                        try clear hfz131_0
                        try clear hfz131_1
                        try clear hfz131_2
                        try clear hfz135_0
                        try clear hfz135_1
                        try clear hfz135_2
                        try clear hfz141_0
                        try clear hfz141_1
                        try clear hfz141_2
                        try clear hfz145_0
                        try clear hfz145_1
                        try clear hfz145_2
                        try clear hfz14_0
                        try clear hfz14_1
                        try clear hfz14_2
                        try clear hfz16_0
                        try clear hfz16_1
                        try clear hfz16_2
                        try clear hfz23_0
                        try clear hfz23_1
                        try clear hfz23_2
                        try clear hfz26_0
                        try clear hfz26_1
                        try clear hfz26_2
                        try clear hfz31_0
                        try clear hfz31_1
                        try clear hfz31_2
                        try clear hfz39_0
                        try clear hfz39_1
                        try clear hfz39_2
                        try clear hfz47_0
                        try clear hfz47_1
                        try clear hfz47_2
                        try clear hfz50_0
                        try clear hfz50_1
                        try clear hfz50_2
                        try clear hfz55_0
                        try clear hfz55_1
                        try clear hfz55_2
                        try clear hfz58_0
                        try clear hfz58_1
                        try clear hfz58_2
                        try clear hfz6_0
                        try clear hfz6_1
                        try clear hfz6_2
                        try clear hfz74_0
                        try clear hfz74_1
                        try clear hfz74_2
                        try clear hfz82_0
                        try clear hfz82_1
                        try clear hfz82_2
                        try clear hfz85_0
                        try clear hfz85_1
                        try clear hfz85_2
                        try clear hfz90_0
                        try clear hfz90_1
                        try clear hfz90_2
                        try clear hfz93_0
                        try clear hfz93_1
                        try clear hfz93_2
                        try clear p2
                        obtain ⟨kq, x92_101, rfl, HA, HJ101, HO_641001, HO_641002, HO_649001, HO_649002, HO_658001, HO_658002, HO_691001, HO_691002, BK623, BK640, BK648, BK657, BK690, HB⟩ := hcut
                        have hl658001_101 := (Kd.R_reads' HO_658001.out).1
                        rw [hl658001_101] at HO_658001
                        (try simp only [hl658001_101])
                        (try simp only [hl658001_101] at BK623)
                        (try simp only [hl658001_101] at BK640)
                        (try simp only [hl658001_101] at BK648)
                        (try simp only [hl658001_101] at BK657)
                        (try simp only [hl658001_101] at BK690)
                        (try simp only [hl658001_101] at HO_641001)
                        (try simp only [hl658001_101] at HO_641002)
                        (try simp only [hl658001_101] at HO_649001)
                        (try simp only [hl658001_101] at HO_649002)
                        (try simp only [hl658001_101] at HO_658002)
                        (try simp only [hl658001_101] at HO_691001)
                        (try simp only [hl658001_101] at HO_691002)
                        have hl658002_101 := (Kd.R_reads' HO_658002.out).1
                        rw [hl658002_101] at HO_658002
                        (try simp only [hl658002_101])
                        (try simp only [hl658002_101] at BK623)
                        (try simp only [hl658002_101] at BK640)
                        (try simp only [hl658002_101] at BK648)
                        (try simp only [hl658002_101] at BK657)
                        (try simp only [hl658002_101] at BK690)
                        (try simp only [hl658002_101] at HO_641001)
                        (try simp only [hl658002_101] at HO_641002)
                        (try simp only [hl658002_101] at HO_649001)
                        (try simp only [hl658002_101] at HO_649002)
                        (try simp only [hl658002_101] at HO_658001)
                        (try simp only [hl658002_101] at HO_691001)
                        (try simp only [hl658002_101] at HO_691002)
                        cases kq with
                        | zero => exact absurd HA.out (by simp [laws_FnExactTakeOut.j2])
                        | succ kj101 =>
                          have H := HA.out
                          clear HA
                          simp only [laws_FnExactTakeOut.j2] at H
                          by_cases c147 : x92_101 = true
                          · subst c147
                            have H1 : (some false) = some r := by rw [if_pos rfl] at H; exact H
                            clear H
                            have H := H1
                            clear H1
                            exact absurd (Option.some.inj H) (by rw [hr_.out]; decide)
                          · replace c147 := Bool.eq_false_iff.mpr c147
                            subst c147
                            have H1 : ((laws_heldColumn.f kj101 t649 t672 t673 1).bind fun t692 => (if t692 < 0 then (some false) else (if t692 = t671 then (some true) else (some false)))) = some r := by rw [if_neg (show ¬ (false = true) by decide)] at H; exact H
                            clear H
                            have H := H1
                            clear H1
                            replace H := Option.bind_eq_some_iff.mp H
                            obtain ⟨t692, A1480, H⟩ := H
                            replace H : (if t692 < 0 then (some false) else (if t692 = t671 then (some true) else (some false))) = some r := H
                            have A148 := Aside0.mk A1480
                            clear A1480
                            by_cases c149 : t692 < 0
                            · rw [if_pos c149] at H
                              have c149b0 : decide (t692 < 0) = true := decide_eq_true c149
                              clear c149
                              exact absurd (Option.some.inj H) (by rw [hr_.out]; decide)
                            · rw [if_neg c149] at H
                              have c149b0 : decide (t692 < 0) = false := decide_eq_false c149
                              clear c149
                              by_cases c150 : t692 = t671
                              · rw [if_pos c150] at H
                                have c150b0 : (t692 == t671) = true := beq_iff_eq.mpr c150
                                have c150b1 : (t692 != t671) = false := bne_eq_false_iff_eq.mpr c150
                                clear c150
                                obtain rfl := Option.some.inj H
                                have hnb151 := NB657_623.out
                                have hnc151 := NB623_657.out
                                have hnb152 := NB657_640.out
                                have hnc152 := NB640_657.out
                                have hnb153 := NB657_648.out
                                have hnc153 := NB648_657.out
                                have hnb154 := NB657_690.out
                                have hnc154 := NB690_657.out
                                have hcz155_0 : wc.cell? ⟨gb657, 0, none⟩ = some (.int .i64 t649) := (blk_cell BK657.out 0).trans rfl
                                have hcz155_1 : wc.cell? ⟨gb657, 1, none⟩ = some (.slice Ao40 t672.length co40) := (blk_cell BK657.out 1).trans rfl
                                have hcz155_2 : wc.cell? ⟨gb657, 2, none⟩ = some (.slice Ao41 t673.length co41) := (blk_cell BK657.out 2).trans rfl
                                have hfz155_0 := blk_frozen BK657.out 0
                                have hfz155_1 := blk_frozen BK657.out 1
                                have hfz155_2 := blk_frozen BK657.out 2
                                go_wp2_with (first | ((with_reducible refine gate_callee (f := 26) rfl ?_); refine goesL_ (some 95) rfl rfl Try.func26 (by kernel_rfl) rfl #[.agg #[.int .i64 t649, .slice Ao40 t672.length co40, .slice Ao41 t673.length co41], .int .i64 1] rfl (by (try simp only [List.map_toArray, List.map_cons, List.map_nil]); first | done | rfl | (simp only [List.length_drop, List.length_take]; rfl)) ?_; (with_reducible refine (laws_heldColumn.calls kj101 t649 _ _ t672 _ _ t673 1 t692 _ ?side1 ?side2 ?side3 ?side4 A148.out).mono ?_); (case side1 => repeat (first | exact (Kd.R_reads' HO_658001.out).2.2 | (with_reducible refine Kd.C_alloc ?_ _) | (with_reducible refine Kd.C_drewN ?_ _) | (with_reducible refine Kd.C_drew ?_))); (case side2 => exact (Kd.R_reads' HO_658001.out).2.1); (case side3 => repeat (first | exact (Kd.R_reads' HO_658002.out).2.2 | (with_reducible refine Kd.C_alloc ?_ _) | (with_reducible refine Kd.C_drewN ?_ _) | (with_reducible refine Kd.C_drew ?_))); (case side4 => exact (Kd.R_reads' HO_658002.out).2.1); rintro e w156 ⟨rfl, hb⟩; refine ⟨_, rfl, ?_⟩; have n0_ := Aside0.mk (Kd.R_below (by (with_reducible repeat (first | apply Kd.R_alloc | apply Kd.R_drewN | apply Kd.R_drew)); exact HO_641001.out) hb); have n1_ := Aside0.mk (Kd.R_below (by (with_reducible repeat (first | apply Kd.R_alloc | apply Kd.R_drewN | apply Kd.R_drew)); exact HO_641002.out) hb); have n2_ := Aside0.mk (Kd.R_below (by (with_reducible repeat (first | apply Kd.R_alloc | apply Kd.R_drewN | apply Kd.R_drew)); exact HO_649001.out) hb); have n3_ := Aside0.mk (Kd.R_below (by (with_reducible repeat (first | apply Kd.R_alloc | apply Kd.R_drewN | apply Kd.R_drew)); exact HO_649002.out) hb); have n4_ := Aside0.mk (Kd.R_below (by (with_reducible repeat (first | apply Kd.R_alloc | apply Kd.R_drewN | apply Kd.R_drew)); exact HO_658001.out) hb); have n5_ := Aside0.mk (Kd.R_below (by (with_reducible repeat (first | apply Kd.R_alloc | apply Kd.R_drewN | apply Kd.R_drew)); exact HO_658002.out) hb); have n6_ := Aside0.mk (Kd.R_below (by (with_reducible repeat (first | apply Kd.R_alloc | apply Kd.R_drewN | apply Kd.R_drew)); exact HO_691001.out) hb); have n7_ := Aside0.mk (Kd.R_below (by (with_reducible repeat (first | apply Kd.R_alloc | apply Kd.R_drewN | apply Kd.R_drew)); exact HO_691002.out) hb); have n8_ := Aside0.mk (blk_below (g := gb623) (o := .cells #[.int .i64 a0_0, .slice A0_1 l0_1.length c0_1, .slice A0_2 l0_2.length c0_2] 25 (0, 0)) (by (with_reducible repeat (first | refine blk_drewN ?_ _ | refine blk_drew ?_ | refine blk_alloc ?_ _)); exact BK623.out) hb); have n9_ := Aside0.mk (blk_below (g := gb640) (o := .cells #[.int .i64 t632, .slice Ao24 t633.length co24, .slice Ao25 t636.length co25] 30 (0, 0)) (by (with_reducible repeat (first | refine blk_drewN ?_ _ | refine blk_drew ?_ | refine blk_alloc ?_ _)); exact BK640.out) hb); have n10_ := Aside0.mk (blk_below (g := gb648) (o := .cells #[.int .i64 t641, .slice Ao32 t668.length co32, .slice Ao33 t669.length co33] 30 (0, 0)) (by (with_reducible repeat (first | refine blk_drewN ?_ _ | refine blk_drew ?_ | refine blk_alloc ?_ _)); exact BK648.out) hb); have n11_ := Aside0.mk (blk_below (g := gb657) (o := .cells #[.int .i64 t649, .slice Ao40 t672.length co40, .slice Ao41 t673.length co41] 30 (0, 0)) (by (with_reducible repeat (first | refine blk_drewN ?_ _ | refine blk_drew ?_ | refine blk_alloc ?_ _)); exact BK657.out) hb); have n12_ := Aside0.mk (blk_below (g := gb690) (o := .cells #[.int .i64 t682, .slice Ao123 t683.length co123, .slice Ao124 t686.length co124] 30 (0, 0)) (by (with_reducible repeat (first | refine blk_drewN ?_ _ | refine blk_drew ?_ | refine blk_alloc ?_ _)); exact BK690.out) hb); have n13_ := Aside0.mk (below_step (by repeat (first | (with_reducible first | exact HB.out | apply below_alloc | apply pw_below_drewN | apply below_drew1 | refine below_set ?_ GE623.out | refine below_set ?_ GE640.out | refine below_set ?_ GE648.out | refine below_set ?_ GE657.out | refine below_set ?_ GE690.out) | exact HB.out)) hb); clear HO_641001; clear HO_641002; clear HO_649001; clear HO_649002; clear HO_658001; clear HO_658002; clear HO_691001; clear HO_691002; clear BK623; clear BK640; clear BK648; clear BK657; clear BK690; clear HB; have HO_641001 := n0_; have HO_641002 := n1_; have HO_649001 := n2_; have HO_649002 := n3_; have HO_658001 := n4_; have HO_658002 := n5_; have HO_691001 := n6_; have HO_691002 := n7_; have BK623 := n8_; have BK640 := n9_; have BK648 := n10_; have BK657 := n11_; have BK690 := n12_; have HB := n13_; clear n0_ n1_ n2_ n3_ n4_ n5_ n6_ n7_ n8_ n9_ n10_ n11_ n12_ n13_; (try clear hb); (try clear hb2); (try clear hk); (try clear hi)))
                                go_ret
                                exact ⟨by first | rfl | (simp [errW_none, errW_some] <;> rfl) | (simp [*, errW_none, errW_some] <;> rfl), by repeat (first | (with_reducible first | exact HB.out | apply below_alloc | apply pw_below_drewN | apply below_drew1 | refine below_set ?_ GE623.out | refine below_set ?_ GE640.out | refine below_set ?_ GE648.out | refine below_set ?_ GE657.out | refine below_set ?_ GE690.out) | exact HB.out)⟩
                              · rw [if_neg c150] at H
                                have c150b0 : (t692 == t671) = false := beq_eq_false_iff_ne.mpr c150
                                have c150b1 : (t692 != t671) = true := bne_iff_ne.mpr c150
                                exact absurd (Option.some.inj H) (by rw [hr_.out]; decide)
                    · rw [if_neg c99] at H
                      have c99b0 : (t674 == t671) = false := beq_eq_false_iff_ne.mpr c99
                      have c99b1 : (t674 != t671) = true := bne_iff_ne.mpr c99
                      exact absurd (Option.some.inj H) (by rw [hr_.out]; decide)
          · replace c63 := Bool.eq_false_iff.mpr c63
            subst c63
            have H1 : (some false) = some r := by rw [if_neg (show ¬ (false = true) by decide)] at H; exact H
            clear H
            have H := H1
            clear H1
            exact absurd (Option.some.inj H) (by rw [hr_.out]; decide)
end Go.Proofs.Ytghfeapncmlihaa.A
