/- What the proof of the law FnExactBankFit uses: lemmas, the Lean functions of the Go functions that it reaches, their contracts, and the pure statement's proof. -/
import Derived.Test.YtghfeapncmlihaaZFnExactBankFitx11
import Derived.Test.YtghfeapncmlihaaZFnExactBankFitx14
import Derived.Test.YtghfeapncmlihaaZFnExactBankFitx18
import Derived.Test.YtghfeapncmlihaaZFnExactBankFitx22
import Derived.Test.YtghfeapncmlihaaZFnExactBankFitx23
import Derived.ProofKit
import Derived.OpenShut
import Derived.ShutString
import Derived.ChangeOld
import Derived.SizedLaws
import Derived.ChangeArms
import Derived.Test.YtghfeapncmlihaaZFnExactBankFitx13
import Derived.Test.YtghfeapncmlihaaZFnExactBankFitx17
import Derived.Test.YtghfeapncmlihaaZFnExactBankFitx12
import Derived.Test.YtghfeapncmlihaaZFnExactBankFitx15
namespace Go.Proofs.Ytghfeapncmlihaa.A
open Go.RowKit Go.Proofs.YtghfeapncmlihaaW.PrintWords Go.Proofs.YtghfeapncmlihaaW.PrintLast Go.Proofs.YtghfeapncmlihaaW.PrintMore
attribute [local go_sem] max2_int min2_int max_two min_two max_three min_three max_four min_four   
set_option linter.unusedVariables false
set_option linter.unusedSimpArgs false
def impl_BankFit.f (k : Nat) (l0 : List (S30)) (a1 : Int) : Option (Int × Int × Int × Bool) := (impl_BankGaps.f k l0).bind fun t810 => ((impl_least.f k t810 a1).bind fun bt813 => (some (bt813.1, bt813.2.1, bt813.2.2.1, bt813.2.2.2)))
set_option maxHeartbeats 8000000 in
set_option maxRecDepth 100000 in
theorem impl_BankFit.calls (k : Nat) (A0 : Option Addr) (c0 : Nat) (l0 : List (S30)) (a1 : Int) (r1 : Int) (r2 : Int) (r3 : Int) (r4 : Bool) (w : World) (hr0 : Kd.C k30 w A0 l0.length l0) (hc0 : l0.length ≤ c0) (h : impl_BankFit.f k l0 a1 = some (r1, r2, r3, r4)) :
    Calls Try.prog 49 #[.slice A0 l0.length c0, .int .i64 a1] w fun e w' => e = .returned (.tuple #[.agg #[.int .i64 r1, .int .i64 r2, .int .i64 r3], .bool r4]) ∧ Below w.heap.size w w' := by
  have hu54 := Try.underlying54
  have HR0 := Aside0.mk hr0
  have HC0 := Aside0.mk hc0
  clear hr0 hc0
  have HB := Aside0.mk (Below.refl w.heap.size w)
  have H : ((impl_BankGaps.f k l0).bind fun t810 => ((impl_least.f k t810 a1).bind fun bt813 => (some (bt813.1, bt813.2.1, bt813.2.2.1, bt813.2.2.2)))) = some (r1, r2, r3, r4) := h
  clear h
  replace H := Option.bind_eq_some_iff.mp H
  obtain ⟨t810, A30, H⟩ := H
  replace H : ((impl_least.f k t810 a1).bind fun bt813 => (some (bt813.1, bt813.2.1, bt813.2.2.1, bt813.2.2.2))) = some (r1, r2, r3, r4) := H
  have A3 := Aside0.mk A30
  clear A30
  replace H := Option.bind_eq_some_iff.mp H
  obtain ⟨⟨t813, t814, t815, t816⟩, A40, H⟩ := H
  replace H : (some (t813, t814, t815, t816)) = some (r1, r2, r3, r4) := H
  have A4 := Aside0.mk A40
  clear A40
  simp only [Option.some.injEq, Prod.mk.injEq] at H
  obtain ⟨rfl, rfl, rfl, rfl⟩ := H
  go_enter Try.func49, Try.ntmps49
  go_wp2_with (first | ((with_reducible refine gate_dst (N := 4) rfl ?_); refine box_event ?hg (N := 4) ?hd (cs := #[.int .i64 0, .int .i64 0, .int .i64 0]) (t := 54) ?hr ?_; (case hd => rfl); (case hg => rfl); (case hr => first | (go_simp; done) | (go_simp; rfl)); intro gb809 hg w5 hbox hb; have n0_ := Aside0.mk (below_step (by repeat (first | (with_reducible first | exact HB.out | apply below_alloc | apply pw_below_drewN | apply below_drew1) | exact HB.out)) hb); have n1_ := Aside0.mk (hbox); have n2_ := Aside0.mk ((by rw [hg]; exact (below_size (by repeat (first | (with_reducible first | exact HB.out | apply below_alloc | apply pw_below_drewN | apply below_drew1) | exact HB.out))) : w.heap.size ≤ gb809)); have n3_ := Aside0.mk ((by rw [hg]; exact (below_size (by repeat (first | (with_reducible first | exact HB.out | apply below_alloc | apply pw_below_drewN | apply below_drew1) | exact HB.out))) : w.heap.size ≤ gb809)); clear HB; have HB := n0_; have BK809 := n1_; have GW809 := n2_; have GE809 := n3_; clear n0_ n1_ n2_ n3_; clear hb hbox hg) | ((with_reducible refine gate_callee (f := 79) rfl ?_); refine goesL_ (some 7) rfl rfl Try.func79 (by kernel_rfl) rfl #[.slice A0 l0.length c0] rfl (by (try simp only [List.map_toArray, List.map_cons, List.map_nil]); first | done | rfl | (simp only [List.length_drop, List.length_take]; rfl)) ?_; (with_reducible refine (impl_BankGaps.calls k _ _ l0 t810 _ ?side1 ?side2 A3.out).mono ?_); (case side1 => repeat (first | exact (Kd.C_below HR0.out HB.out) | (with_reducible refine Kd.C_alloc ?_ _) | (with_reducible refine Kd.C_drewN ?_ _) | (with_reducible refine Kd.C_drew ?_))); (case side2 => exact HC0.out); rintro e w6 ⟨v811, rfl, ho0, hb⟩; refine ⟨_, rfl, ?_⟩; have n0_ := Aside0.mk (Kd.R_lower (Kd.R_newB ho0 (g := gb809) (o := .cells #[.int .i64 0, .int .i64 0, .int .i64 0] 54 (0, 0)) (by (with_reducible repeat (first | refine blk_drewN ?_ _ | refine blk_drew ?_ | refine blk_alloc ?_ _)); exact BK809.out)) (below_size (by repeat (first | (with_reducible first | exact HB.out | apply below_alloc | apply pw_below_drewN | apply below_drew1 | refine below_set ?_ GE809.out) | exact HB.out)))); have n1_ := Aside0.mk (blk_below (g := gb809) (o := .cells #[.int .i64 0, .int .i64 0, .int .i64 0] 54 (0, 0)) (by (with_reducible repeat (first | refine blk_drewN ?_ _ | refine blk_drew ?_ | refine blk_alloc ?_ _)); exact BK809.out) hb); have n2_ := Aside0.mk (below_step (by repeat (first | (with_reducible first | exact HB.out | apply below_alloc | apply pw_below_drewN | apply below_drew1 | refine below_set ?_ GE809.out) | exact HB.out)) hb); clear BK809; clear HB; have HO812 := n0_; have BK809 := n1_; have HB := n2_; clear n0_ n1_ n2_; (try clear hb); (try clear hb2); (try clear hk); (try clear hi); (try clear ho0); obtain ⟨Ao7, co7, eo7⟩ := Kd.R_slice HO812.out; subst eo7) | ((with_reducible refine gate_callee (f := 74) rfl ?_); refine goesL_ (some 9) rfl rfl Try.func74 (by kernel_rfl) rfl #[.slice Ao7 t810.length co7, .int .i64 a1] rfl (by (try simp only [List.map_toArray, List.map_cons, List.map_nil]); first | done | rfl | (simp only [List.length_drop, List.length_take]; rfl)) ?_; (with_reducible refine (impl_least.calls k _ _ t810 a1 t813 t814 t815 t816 _ ?side1 ?side2 A4.out).mono ?_); (case side1 => repeat (first | exact (Kd.R_reads' HO812.out).2.2 | (with_reducible refine Kd.C_alloc ?_ _) | (with_reducible refine Kd.C_drewN ?_ _) | (with_reducible refine Kd.C_drew ?_))); (case side2 => exact (Kd.R_reads' HO812.out).2.1); rintro e w8 ⟨rfl, hb⟩; refine ⟨_, rfl, ?_⟩; have n0_ := Aside0.mk (Kd.R_below (by (with_reducible repeat (first | apply Kd.R_alloc | apply Kd.R_drewN | apply Kd.R_drew)); exact HO812.out) hb); have n1_ := Aside0.mk (blk_below (g := gb809) (o := .cells #[.int .i64 0, .int .i64 0, .int .i64 0] 54 (0, 0)) (by (with_reducible repeat (first | refine blk_drewN ?_ _ | refine blk_drew ?_ | refine blk_alloc ?_ _)); exact BK809.out) hb); have n2_ := Aside0.mk (below_step (by repeat (first | (with_reducible first | exact HB.out | apply below_alloc | apply pw_below_drewN | apply below_drew1 | refine below_set ?_ GE809.out) | exact HB.out)) hb); clear HO812; clear BK809; clear HB; have HO812 := n0_; have BK809 := n1_; have HB := n2_; clear n0_ n1_ n2_; (try clear hb); (try clear hb2); (try clear hk); (try clear hi); have hcz9_0 : w8.cell? ⟨gb809, 0, none⟩ = some (.int .i64 0) := (blk_cell BK809.out 0).trans rfl; have hcz9_1 : w8.cell? ⟨gb809, 1, none⟩ = some (.int .i64 0) := (blk_cell BK809.out 1).trans rfl; have hcz9_2 : w8.cell? ⟨gb809, 2, none⟩ = some (.int .i64 0) := (blk_cell BK809.out 2).trans rfl; have hfz9_0 := blk_frozen BK809.out 0; have hfz9_1 := blk_frozen BK809.out 1; have hfz9_2 := blk_frozen BK809.out 2))
  refine bodyPost_ret (results_ct rfl _ _ gb809 54 #[.int .i64 t813, .int .i64 t814, .int .i64 t815] (0, 0) _ rfl (by (with_reducible repeat (first | refine blk_drewN ?_ _ | refine blk_drew ?_ | refine blk_alloc ?_ _)); refine blk_put (cs := #[.int .i64 t813, .int .i64 t814, .int .i64 0]) ?_ 2 _ rfl; (with_reducible repeat (first | refine blk_drewN ?_ _ | refine blk_drew ?_ | refine blk_alloc ?_ _)); refine blk_put (cs := #[.int .i64 t813, .int .i64 0, .int .i64 0]) ?_ 1 _ rfl; (with_reducible repeat (first | refine blk_drewN ?_ _ | refine blk_drew ?_ | refine blk_alloc ?_ _)); refine blk_put (cs := #[.int .i64 0, .int .i64 0, .int .i64 0]) ?_ 0 _ rfl; (with_reducible repeat (first | refine blk_drewN ?_ _ | refine blk_drew ?_ | refine blk_alloc ?_ _)); exact BK809.out) Try.underlying54 rfl (by kernel_rfl)) rfl ?_
  exact ⟨by first | rfl | (simp [errW_none, errW_some] <;> rfl) | (simp [*, errW_none, errW_some] <;> rfl), by repeat (first | (with_reducible first | exact HB.out | apply below_alloc | apply pw_below_drewN | apply below_drew1 | refine below_set ?_ GE809.out) | exact HB.out)⟩
def laws_FnExactBankFit.j0 : Nat → List (S25) → List (S30) → Bool → Option (Bool)
  | 0, _, _, _ => none
  | k + 1, x0, x8, x39 => if x39 = true then (some false) else ((laws_toColumnS.f k x0).bind fun t835 => ((laws_eqColumnS.f k x8 t835).bind fun t838 => (if t838 = true then (some true) else (some false))))
def laws_FnExactBankFit.f (k : Nat) (l0 : List (S25)) (a1 : Int) : Option (Bool) := (laws_szColumnS.f k l0 1048576).bind fun t817 => (if t817 < 0 then (some true) else ((laws_toColumnS.f k l0).bind fun t818 => ((spec_BankFit.f k t818 a1).bind fun bt821 => ((laws_toColumnS.f k l0).bind fun t826 => ((impl_BankFit.f k t826 a1).bind fun bt829 => ((laws_eqGap.f bt829.1 bt829.2.1 bt829.2.2.1 bt821.1 bt821.2.1 bt821.2.2.1).bind fun t834 => (if t834 = true then (laws_FnExactBankFit.j0 k l0 t826 (bt829.2.2.2 != bt821.2.2.2)) else (laws_FnExactBankFit.j0 k l0 t826 true))))))))
set_option maxHeartbeats 8000000 in
set_option maxRecDepth 100000 in
theorem laws_FnExactBankFit.calls (k : Nat) (A0 : Option Addr) (c0 : Nat) (l0 : List (S25)) (a1 : Int) (r : Bool) (w : World) (hr0 : Kd.C k25 w A0 l0.length l0) (hc0 : l0.length ≤ c0) (hr_ : Aside0 (r = true)) (h : laws_FnExactBankFit.f k l0 a1 = some r) :
    Calls Try.prog 12 #[.slice A0 l0.length c0, .int .i64 a1] w fun e w' => e = .returned (.bool r) ∧ Below w.heap.size w w' := by
  have hu54 := Try.underlying54
  have HR0 := Aside0.mk hr0
  have HC0 := Aside0.mk hc0
  clear hr0 hc0
  have HB := Aside0.mk (Below.refl w.heap.size w)
  have H : ((laws_szColumnS.f k l0 1048576).bind fun t817 => (if t817 < 0 then (some true) else ((laws_toColumnS.f k l0).bind fun t818 => ((spec_BankFit.f k t818 a1).bind fun bt821 => ((laws_toColumnS.f k l0).bind fun t826 => ((impl_BankFit.f k t826 a1).bind fun bt829 => ((laws_eqGap.f bt829.1 bt829.2.1 bt829.2.2.1 bt821.1 bt821.2.1 bt821.2.2.1).bind fun t834 => (if t834 = true then (laws_FnExactBankFit.j0 k l0 t826 (bt829.2.2.2 != bt821.2.2.2)) else (laws_FnExactBankFit.j0 k l0 t826 true))))))))) = some r := h
  clear h
  replace H := Option.bind_eq_some_iff.mp H
  obtain ⟨t817, A30, H⟩ := H
  replace H : (if t817 < 0 then (some true) else ((laws_toColumnS.f k l0).bind fun t818 => ((spec_BankFit.f k t818 a1).bind fun bt821 => ((laws_toColumnS.f k l0).bind fun t826 => ((impl_BankFit.f k t826 a1).bind fun bt829 => ((laws_eqGap.f bt829.1 bt829.2.1 bt829.2.2.1 bt821.1 bt821.2.1 bt821.2.2.1).bind fun t834 => (if t834 = true then (laws_FnExactBankFit.j0 k l0 t826 (bt829.2.2.2 != bt821.2.2.2)) else (laws_FnExactBankFit.j0 k l0 t826 true)))))))) = some r := H
  have A3 := Aside0.mk A30
  clear A30
  by_cases c4 : t817 < 0
  · rw [if_pos c4] at H
    have c4b0 : decide (t817 < 0) = true := decide_eq_true c4
    clear c4
    obtain rfl := Option.some.inj H
    go_enter Try.func12, Try.ntmps12
    go_wp2_with (first | ((with_reducible refine gate_callee (f := 27) rfl ?_); refine goesL_ (some 13) rfl rfl Try.func27 (by kernel_rfl) rfl #[.slice A0 l0.length c0, .int .i64 1048576] rfl (by (try simp only [List.map_toArray, List.map_cons, List.map_nil]); first | done | rfl | (simp only [List.length_drop, List.length_take]; rfl)) ?_; (with_reducible refine (laws_szColumnS.calls k _ _ l0 1048576 t817 _ ?side1 ?side2 A3.out).mono ?_); (case side1 => repeat (first | exact HR0.out | (with_reducible refine Kd.C_alloc ?_ _) | (with_reducible refine Kd.C_drewN ?_ _) | (with_reducible refine Kd.C_drew ?_))); (case side2 => exact HC0.out); rintro e w5 ⟨rfl, hb⟩; refine ⟨_, rfl, ?_⟩; have n0_ := Aside0.mk (below_step (by repeat (first | (with_reducible first | exact HB.out | apply below_alloc | apply pw_below_drewN | apply below_drew1) | exact HB.out)) hb); clear HB; have HB := n0_; clear n0_; (try clear hb); (try clear hb2); (try clear hk); (try clear hi)))
    go_ret
    exact ⟨by first | rfl | (simp [errW_none, errW_some] <;> rfl) | (simp [*, errW_none, errW_some] <;> rfl), by repeat (first | (with_reducible first | exact HB.out | apply below_alloc | apply pw_below_drewN | apply below_drew1) | exact HB.out)⟩
  · rw [if_neg c4] at H
    have c4b0 : decide (t817 < 0) = false := decide_eq_false c4
    clear c4
    replace H := Option.bind_eq_some_iff.mp H
    obtain ⟨t818, A60, H⟩ := H
    replace H : ((spec_BankFit.f k t818 a1).bind fun bt821 => ((laws_toColumnS.f k l0).bind fun t826 => ((impl_BankFit.f k t826 a1).bind fun bt829 => ((laws_eqGap.f bt829.1 bt829.2.1 bt829.2.2.1 bt821.1 bt821.2.1 bt821.2.2.1).bind fun t834 => (if t834 = true then (laws_FnExactBankFit.j0 k l0 t826 (bt829.2.2.2 != bt821.2.2.2)) else (laws_FnExactBankFit.j0 k l0 t826 true)))))) = some r := H
    have A6 := Aside0.mk A60
    clear A60
    replace H := Option.bind_eq_some_iff.mp H
    obtain ⟨⟨t821, t822, t823, t824⟩, A70, H⟩ := H
    replace H : ((laws_toColumnS.f k l0).bind fun t826 => ((impl_BankFit.f k t826 a1).bind fun bt829 => ((laws_eqGap.f bt829.1 bt829.2.1 bt829.2.2.1 t821 t822 t823).bind fun t834 => (if t834 = true then (laws_FnExactBankFit.j0 k l0 t826 (bt829.2.2.2 != t824)) else (laws_FnExactBankFit.j0 k l0 t826 true))))) = some r := H
    have A7 := Aside0.mk A70
    clear A70
    replace H := Option.bind_eq_some_iff.mp H
    obtain ⟨t826, A80, H⟩ := H
    replace H : ((impl_BankFit.f k t826 a1).bind fun bt829 => ((laws_eqGap.f bt829.1 bt829.2.1 bt829.2.2.1 t821 t822 t823).bind fun t834 => (if t834 = true then (laws_FnExactBankFit.j0 k l0 t826 (bt829.2.2.2 != t824)) else (laws_FnExactBankFit.j0 k l0 t826 true)))) = some r := H
    have A8 := Aside0.mk A80
    clear A80
    replace H := Option.bind_eq_some_iff.mp H
    obtain ⟨⟨t829, t830, t831, t832⟩, A90, H⟩ := H
    replace H : ((laws_eqGap.f t829 t830 t831 t821 t822 t823).bind fun t834 => (if t834 = true then (laws_FnExactBankFit.j0 k l0 t826 (t832 != t824)) else (laws_FnExactBankFit.j0 k l0 t826 true))) = some r := H
    have A9 := Aside0.mk A90
    clear A90
    have HC10 := Aside0.mk H
    clear H
    go_enter Try.func12, Try.ntmps12
    go_upto_region 8 with (first | ((with_reducible refine gate_callee (f := 27) rfl ?_); refine goesL_ (some 13) rfl rfl Try.func27 (by kernel_rfl) rfl #[.slice A0 l0.length c0, .int .i64 1048576] rfl (by (try simp only [List.map_toArray, List.map_cons, List.map_nil]); first | done | rfl | (simp only [List.length_drop, List.length_take]; rfl)) ?_; (with_reducible refine (laws_szColumnS.calls k _ _ l0 1048576 t817 _ ?side1 ?side2 A3.out).mono ?_); (case side1 => repeat (first | exact HR0.out | (with_reducible refine Kd.C_alloc ?_ _) | (with_reducible refine Kd.C_drewN ?_ _) | (with_reducible refine Kd.C_drew ?_))); (case side2 => exact HC0.out); rintro e w11 ⟨rfl, hb⟩; refine ⟨_, rfl, ?_⟩; have n0_ := Aside0.mk (below_step (by repeat (first | (with_reducible first | exact HB.out | apply below_alloc | apply pw_below_drewN | apply below_drew1) | exact HB.out)) hb); clear HB; have HB := n0_; clear n0_; (try clear hb); (try clear hb2); (try clear hk); (try clear hi)) | ((with_reducible refine gate_callee (f := 29) rfl ?_); refine goesL_ (some 18) rfl rfl Try.func29 (by kernel_rfl) rfl #[.slice A0 l0.length c0] rfl (by (try simp only [List.map_toArray, List.map_cons, List.map_nil]); first | done | rfl | (simp only [List.length_drop, List.length_take]; rfl)) ?_; (with_reducible refine (laws_toColumnS.calls k _ _ l0 t818 _ ?side1 ?side2 A6.out).mono ?_); (case side1 => repeat (first | exact (Kd.C_below HR0.out HB.out) | (with_reducible refine Kd.C_alloc ?_ _) | (with_reducible refine Kd.C_drewN ?_ _) | (with_reducible refine Kd.C_drew ?_))); (case side2 => exact HC0.out); rintro e w12 ⟨v819, rfl, ho0, hb⟩; refine ⟨_, rfl, ?_⟩; have n0_ := Aside0.mk (Kd.S_lower ho0 (below_size (by repeat (first | (with_reducible first | exact HB.out | apply below_alloc | apply pw_below_drewN | apply below_drew1) | exact HB.out)))); have n1_ := Aside0.mk (below_step (by repeat (first | (with_reducible first | exact HB.out | apply below_alloc | apply pw_below_drewN | apply below_drew1) | exact HB.out)) hb); clear HB; have HO820 := n0_; have HB := n1_; clear n0_ n1_; (try clear hb); (try clear hb2); (try clear hk); (try clear hi); (try clear ho0); obtain ⟨Ao13, co13, eo13⟩ := Kd.S_slice HO820.out; subst eo13) | ((with_reducible refine gate_callee (f := 48) rfl ?_); refine goesL_ (some 20) rfl rfl Try.func48 (by kernel_rfl) rfl #[.slice Ao13 t818.length co13, .int .i64 a1] rfl (by (try simp only [List.map_toArray, List.map_cons, List.map_nil]); first | done | rfl | (simp only [List.length_drop, List.length_take]; rfl)) ?_; (with_reducible refine (spec_BankFit.calls k _ _ t818 a1 t821 t822 t823 t824 _ ?side1 ?side2 A7.out).mono ?_); (case side1 => repeat (first | exact (Kd.S_reads' HO820.out).2.2 | (with_reducible refine Kd.C_alloc ?_ _) | (with_reducible refine Kd.C_drewN ?_ _) | (with_reducible refine Kd.C_drew ?_))); (case side2 => exact (Kd.S_reads' HO820.out).2.1); rintro e w14 ⟨rfl, hb⟩; refine ⟨_, rfl, ?_⟩; have n0_ := Aside0.mk (Kd.S_below (by (with_reducible repeat (first | apply Kd.S_alloc | apply Kd.S_drewN | apply Kd.S_drew)); exact HO820.out) hb); have n1_ := Aside0.mk (below_step (by repeat (first | (with_reducible first | exact HB.out | apply below_alloc | apply pw_below_drewN | apply below_drew1) | exact HB.out)) hb); clear HO820; clear HB; have HO820 := n0_; have HB := n1_; clear n0_ n1_; (try clear hb); (try clear hb2); (try clear hk); (try clear hi)) | ((with_reducible refine gate_dst (N := 6) rfl ?_); refine box_event ?hg (N := 6) ?hd (cs := #[.int .i64 0, .int .i64 0, .int .i64 0]) (t := 54) ?hr ?_; (case hd => rfl); (case hg => rfl); (case hr => first | (go_simp; done) | (go_simp; rfl)); intro gb825 hg w15 hbox hb; have n0_ := Aside0.mk (Kd.S_below (by (with_reducible repeat (first | apply Kd.S_alloc | apply Kd.S_drewN | apply Kd.S_drew)); exact HO820.out) hb); have n1_ := Aside0.mk (below_step (by repeat (first | (with_reducible first | exact HB.out | apply below_alloc | apply pw_below_drewN | apply below_drew1) | exact HB.out)) hb); have n2_ := Aside0.mk (hbox); have n3_ := Aside0.mk ((by rw [hg]; exact (below_size (by repeat (first | (with_reducible first | exact HB.out | apply below_alloc | apply pw_below_drewN | apply below_drew1) | exact HB.out))) : w.heap.size ≤ gb825)); have n4_ := Aside0.mk ((by rw [hg]; exact (below_size (by repeat (first | (with_reducible first | exact HB.out | apply below_alloc | apply pw_below_drewN | apply below_drew1) | exact HB.out))) : w.heap.size ≤ gb825)); clear HO820; clear HB; have HO820 := n0_; have HB := n1_; have BK825 := n2_; have GW825 := n3_; have GE825 := n4_; clear n0_ n1_ n2_ n3_ n4_; clear hb hbox hg; have hcz16_0 : w15.cell? ⟨gb825, 0, none⟩ = some (.int .i64 0) := (blk_cell BK825.out 0).trans rfl; have hcz16_1 : w15.cell? ⟨gb825, 1, none⟩ = some (.int .i64 0) := (blk_cell BK825.out 1).trans rfl; have hcz16_2 : w15.cell? ⟨gb825, 2, none⟩ = some (.int .i64 0) := (blk_cell BK825.out 2).trans rfl; have hfz16_0 := blk_frozen BK825.out 0; have hfz16_1 := blk_frozen BK825.out 1; have hfz16_2 := blk_frozen BK825.out 2) | ((with_reducible refine gate_callee (f := 29) rfl ?_); refine goesL_ (some 24) rfl rfl Try.func29 (by kernel_rfl) rfl #[.slice A0 l0.length c0] rfl (by (try simp only [List.map_toArray, List.map_cons, List.map_nil]); first | done | rfl | (simp only [List.length_drop, List.length_take]; rfl)) ?_; (with_reducible refine (laws_toColumnS.calls k _ _ l0 t826 _ ?side1 ?side2 A8.out).mono ?_); (case side1 => exact Kd.C_below HR0.out (by repeat (first | (with_reducible first | exact HB.out | apply below_alloc | apply pw_below_drewN | apply below_drew1 | refine below_set ?_ GE825.out) | exact HB.out))); (case side2 => exact HC0.out); rintro e w17 ⟨v827, rfl, ho0, hb⟩; refine ⟨_, rfl, ?_⟩; have n0_ := Aside0.mk (Kd.S_elder' (by (with_reducible repeat (first | apply Kd.S_alloc | apply Kd.S_drewN | apply Kd.S_drew)); exact (Kd.S_mono (Kd.S_far (p := ⟨gb825, 2, none⟩) (Kd.S_far (p := ⟨gb825, 1, none⟩) (Kd.S_far (p := ⟨gb825, 0, none⟩) (Kd.S_types HO820.out BK825.out (by decide)) (fun _ hk => hk.2) (.int .i64 t821)) (fun _ hk => hk.2) (.int .i64 t822)) (fun _ hk => hk.2) (.int .i64 t823)) (fun _ h_ => h_.1))) (Kd.S_base ho0) hb); have n1_ := Aside0.mk (Kd.S_lower (Kd.S_new' ho0 (Kd.S_lt (by (with_reducible repeat (first | apply Kd.S_alloc | apply Kd.S_drewN | apply Kd.S_drew)); exact (Kd.S_mono (Kd.S_far (p := ⟨gb825, 2, none⟩) (Kd.S_far (p := ⟨gb825, 1, none⟩) (Kd.S_far (p := ⟨gb825, 0, none⟩) (Kd.S_types HO820.out BK825.out (by decide)) (fun _ hk => hk.2) (.int .i64 t821)) (fun _ hk => hk.2) (.int .i64 t822)) (fun _ hk => hk.2) (.int .i64 t823)) (fun _ h_ => h_.1))))) (below_size (by repeat (first | (with_reducible first | exact HB.out | apply below_alloc | apply pw_below_drewN | apply below_drew1 | refine below_set ?_ GE825.out) | exact HB.out)))); have n2_ := Aside0.mk (blk_below (g := gb825) (o := .cells #[.int .i64 t821, .int .i64 t822, .int .i64 t823] 54 (0, 0)) (by (with_reducible repeat (first | refine blk_drewN ?_ _ | refine blk_drew ?_ | refine blk_alloc ?_ _)); refine blk_put (cs := #[.int .i64 t821, .int .i64 t822, .int .i64 0]) ?_ 2 _ rfl; (with_reducible repeat (first | refine blk_drewN ?_ _ | refine blk_drew ?_ | refine blk_alloc ?_ _)); refine blk_put (cs := #[.int .i64 t821, .int .i64 0, .int .i64 0]) ?_ 1 _ rfl; (with_reducible repeat (first | refine blk_drewN ?_ _ | refine blk_drew ?_ | refine blk_alloc ?_ _)); refine blk_put (cs := #[.int .i64 0, .int .i64 0, .int .i64 0]) ?_ 0 _ rfl; (with_reducible repeat (first | refine blk_drewN ?_ _ | refine blk_drew ?_ | refine blk_alloc ?_ _)); exact BK825.out) hb); have n3_ := Aside0.mk (below_step (by repeat (first | (with_reducible first | exact HB.out | apply below_alloc | apply pw_below_drewN | apply below_drew1 | refine below_set ?_ GE825.out) | exact HB.out)) hb); clear HO820; clear BK825; clear HB; have HO820 := n0_; have HO828 := n1_; have BK825 := n2_; have HB := n3_; clear n0_ n1_ n2_ n3_; (try clear hb); (try clear hb2); (try clear hk); (try clear hi); (try clear ho0); obtain ⟨Ao18, co18, eo18⟩ := Kd.S_slice HO828.out; subst eo18) | ((with_reducible refine gate_callee (f := 49) rfl ?_); refine goesL_ (some 28) rfl rfl Try.func49 (by kernel_rfl) rfl #[.slice Ao18 t826.length co18, .int .i64 a1] rfl (by (try simp only [List.map_toArray, List.map_cons, List.map_nil]); first | done | rfl | (simp only [List.length_drop, List.length_take]; rfl)) ?_; (with_reducible refine (impl_BankFit.calls k _ _ t826 a1 t829 t830 t831 t832 _ ?side1 ?side2 A9.out).mono ?_); (case side1 => repeat (first | exact (Kd.S_reads' HO828.out).2.2 | (with_reducible refine Kd.C_alloc ?_ _) | (with_reducible refine Kd.C_drewN ?_ _) | (with_reducible refine Kd.C_drew ?_))); (case side2 => exact (Kd.S_reads' HO828.out).2.1); rintro e w19 ⟨rfl, hb⟩; refine ⟨_, rfl, ?_⟩; have n0_ := Aside0.mk (Kd.S_below (by (with_reducible repeat (first | apply Kd.S_alloc | apply Kd.S_drewN | apply Kd.S_drew)); exact HO820.out) hb); have n1_ := Aside0.mk (Kd.S_below (by (with_reducible repeat (first | apply Kd.S_alloc | apply Kd.S_drewN | apply Kd.S_drew)); exact HO828.out) hb); have n2_ := Aside0.mk (blk_below (g := gb825) (o := .cells #[.int .i64 t821, .int .i64 t822, .int .i64 t823] 54 (0, 0)) (by (with_reducible repeat (first | refine blk_drewN ?_ _ | refine blk_drew ?_ | refine blk_alloc ?_ _)); exact BK825.out) hb); have n3_ := Aside0.mk (below_step (by repeat (first | (with_reducible first | exact HB.out | apply below_alloc | apply pw_below_drewN | apply below_drew1 | refine below_set ?_ GE825.out) | exact HB.out)) hb); clear HO820; clear HO828; clear BK825; clear HB; have HO820 := n0_; have HO828 := n1_; have BK825 := n2_; have HB := n3_; clear n0_ n1_ n2_ n3_; (try clear hb); (try clear hb2); (try clear hk); (try clear hi)) | ((with_reducible refine gate_dst (N := 9) rfl ?_); refine box_event ?hg (N := 9) ?hd (cs := #[.int .i64 0, .int .i64 0, .int .i64 0]) (t := 54) ?hr ?_; (case hd => rfl); (case hg => rfl); (case hr => first | (go_simp; done) | (go_simp; rfl)); intro gb833 hg w20 hbox hb; have n0_ := Aside0.mk (Kd.S_below (by (with_reducible repeat (first | apply Kd.S_alloc | apply Kd.S_drewN | apply Kd.S_drew)); exact HO820.out) hb); have n1_ := Aside0.mk (Kd.S_below (by (with_reducible repeat (first | apply Kd.S_alloc | apply Kd.S_drewN | apply Kd.S_drew)); exact HO828.out) hb); have n2_ := Aside0.mk (blk_below (g := gb825) (o := .cells #[.int .i64 t821, .int .i64 t822, .int .i64 t823] 54 (0, 0)) (by (with_reducible repeat (first | refine blk_drewN ?_ _ | refine blk_drew ?_ | refine blk_alloc ?_ _)); exact BK825.out) hb); have n3_ := Aside0.mk (below_step (by repeat (first | (with_reducible first | exact HB.out | apply below_alloc | apply pw_below_drewN | apply below_drew1 | refine below_set ?_ GE825.out) | exact HB.out)) hb); have n4_ := Aside0.mk (hbox); have n5_ := Aside0.mk ((by rw [hg]; exact (below_size (by repeat (first | (with_reducible first | exact HB.out | apply below_alloc | apply pw_below_drewN | apply below_drew1 | refine below_set ?_ GE825.out) | exact HB.out))) : w.heap.size ≤ gb833)); have n6_ := Aside0.mk ((by rw [hg]; exact (below_size (by repeat (first | (with_reducible first | exact HB.out | apply below_alloc | apply pw_below_drewN | apply below_drew1 | refine below_set ?_ GE825.out) | exact HB.out))) : w.heap.size ≤ gb833)); have n7_ := Aside0.mk ((by rw [hg]; exact Nat.ne_of_lt (blk_lt (g := gb825) (o := .cells #[.int .i64 t821, .int .i64 t822, .int .i64 t823] 54 (0, 0)) (by (with_reducible repeat (first | refine blk_drewN ?_ _ | refine blk_drew ?_ | refine blk_alloc ?_ _)); exact BK825.out)) : gb825 ≠ gb833)); have n8_ := Aside0.mk ((by rw [hg]; exact Nat.ne_of_gt (blk_lt (g := gb825) (o := .cells #[.int .i64 t821, .int .i64 t822, .int .i64 t823] 54 (0, 0)) (by (with_reducible repeat (first | refine blk_drewN ?_ _ | refine blk_drew ?_ | refine blk_alloc ?_ _)); exact BK825.out)) : gb833 ≠ gb825)); clear HO820; clear HO828; clear BK825; clear HB; have HO820 := n0_; have HO828 := n1_; have BK825 := n2_; have HB := n3_; have BK833 := n4_; have GW833 := n5_; have GE833 := n6_; have NB825_833 := n7_; have NB833_825 := n8_; clear n0_ n1_ n2_ n3_ n4_ n5_ n6_ n7_ n8_; clear hb hbox hg; have hnb21 := NB833_825.out; have hnc21 := NB825_833.out; have hcz22_0 : w20.cell? ⟨gb833, 0, none⟩ = some (.int .i64 0) := (blk_cell BK833.out 0).trans rfl; have hcz22_1 : w20.cell? ⟨gb833, 1, none⟩ = some (.int .i64 0) := (blk_cell BK833.out 1).trans rfl; have hcz22_2 : w20.cell? ⟨gb833, 2, none⟩ = some (.int .i64 0) := (blk_cell BK833.out 2).trans rfl; have hfz22_0 := blk_frozen BK833.out 0; have hfz22_1 := blk_frozen BK833.out 1; have hfz22_2 := blk_frozen BK833.out 2))
    (try simp only [Act.put, List.setIfInBounds_toArray, List.set_cons_zero, List.set_cons_succ])
    go_cut [39] (fun v39 wc => ∃ (kq : Nat) (x39_9 : Bool), v39 = .bool x39_9 ∧ Aside0 (laws_FnExactBankFit.j0 kq l0 t826 x39_9 = some r) ∧ Aside0 (kq ≤ k) ∧ Aside0 (Kd.S k30 30 wc w.heap.size (fun _ => True) (.slice Ao18 t826.length co18) t826) ∧ Aside0 (wc.heap[gb825]? = some (.cells #[.int .i64 t821, .int .i64 t822, .int .i64 t823] 54 (0, 0))) ∧ Aside0 (wc.heap[gb833]? = some (.cells #[.int .i64 t829, .int .i64 t830, .int .i64 t831] 54 (0, 0))) ∧ Aside0 (Below w.heap.size w wc))
    case first =>
      have H := HC10.out
      clear HC10
      replace H := Option.bind_eq_some_iff.mp H
      obtain ⟨t834, A230, H⟩ := H
      replace H : (if t834 = true then (laws_FnExactBankFit.j0 k l0 t826 (t832 != t824)) else (laws_FnExactBankFit.j0 k l0 t826 true)) = some r := H
      have A23 := Aside0.mk A230
      clear A230
      by_cases c24 : t834 = true
      · subst c24
        have H1 : (laws_FnExactBankFit.j0 k l0 t826 (t832 != t824)) = some r := by rw [if_pos rfl] at H; exact H
        clear H
        have H := H1
        clear H1
        have H' := Aside0.mk H
        clear H
        have hnb25 := NB833_825.out
        have hnc25 := NB825_833.out
        have hcz26_0 : w20.cell? ⟨gb833, 0, none⟩ = some (.int .i64 0) := (blk_cell BK833.out 0).trans rfl
        have hcz26_1 : w20.cell? ⟨gb833, 1, none⟩ = some (.int .i64 0) := (blk_cell BK833.out 1).trans rfl
        have hcz26_2 : w20.cell? ⟨gb833, 2, none⟩ = some (.int .i64 0) := (blk_cell BK833.out 2).trans rfl
        have hfz26_0 := blk_frozen BK833.out 0
        have hfz26_1 := blk_frozen BK833.out 1
        have hfz26_2 := blk_frozen BK833.out 2
        have hcz27_0 : w20.cell? ⟨gb825, 0, none⟩ = some (.int .i64 t821) := (blk_cell BK825.out 0).trans rfl
        have hcz27_1 : w20.cell? ⟨gb825, 1, none⟩ = some (.int .i64 t822) := (blk_cell BK825.out 1).trans rfl
        have hcz27_2 : w20.cell? ⟨gb825, 2, none⟩ = some (.int .i64 t823) := (blk_cell BK825.out 2).trans rfl
        have hfz27_0 := blk_frozen BK825.out 0
        have hfz27_1 := blk_frozen BK825.out 1
        have hfz27_2 := blk_frozen BK825.out 2
        go_wp2_with (first | ((with_reducible refine gate_callee (f := 38) rfl ?_); refine goesL_ (some 33) rfl rfl Try.func38 (by kernel_rfl) rfl #[.agg #[.int .i64 t829, .int .i64 t830, .int .i64 t831], .agg #[.int .i64 t821, .int .i64 t822, .int .i64 t823]] rfl (by (try simp only [List.map_toArray, List.map_cons, List.map_nil]); first | done | rfl | (simp only [List.length_drop, List.length_take]; rfl)) ?_; (with_reducible refine (laws_eqGap.calls t829 t830 t831 t821 t822 t823 true _ A23.out).mono ?_); rintro e w28 ⟨rfl, hb⟩; refine ⟨_, rfl, ?_⟩; have n0_ := Aside0.mk (Kd.S_below (by (with_reducible repeat (first | apply Kd.S_alloc | apply Kd.S_drewN | apply Kd.S_drew)); exact (Kd.S_mono (Kd.S_far (p := ⟨gb833, 2, none⟩) (Kd.S_far (p := ⟨gb833, 1, none⟩) (Kd.S_far (p := ⟨gb833, 0, none⟩) (Kd.S_types HO820.out BK833.out (by decide)) (fun _ hk => hk.2) (.int .i64 t829)) (fun _ hk => hk.2) (.int .i64 t830)) (fun _ hk => hk.2) (.int .i64 t831)) (fun _ h_ => h_.1))) hb); have n1_ := Aside0.mk (Kd.S_below (by (with_reducible repeat (first | apply Kd.S_alloc | apply Kd.S_drewN | apply Kd.S_drew)); exact (Kd.S_mono (Kd.S_far (p := ⟨gb833, 2, none⟩) (Kd.S_far (p := ⟨gb833, 1, none⟩) (Kd.S_far (p := ⟨gb833, 0, none⟩) (Kd.S_types HO828.out BK833.out (by decide)) (fun _ hk => hk.2) (.int .i64 t829)) (fun _ hk => hk.2) (.int .i64 t830)) (fun _ hk => hk.2) (.int .i64 t831)) (fun _ h_ => h_.1))) hb); have n2_ := Aside0.mk (blk_below (g := gb825) (o := .cells #[.int .i64 t821, .int .i64 t822, .int .i64 t823] 54 (0, 0)) (by (with_reducible repeat (first | refine blk_drewN ?_ _ | refine blk_drew ?_ | refine blk_alloc ?_ _)); refine blk_far ?_ NB825_833.out _; (with_reducible repeat (first | refine blk_drewN ?_ _ | refine blk_drew ?_ | refine blk_alloc ?_ _)); refine blk_far ?_ NB825_833.out _; (with_reducible repeat (first | refine blk_drewN ?_ _ | refine blk_drew ?_ | refine blk_alloc ?_ _)); refine blk_far ?_ NB825_833.out _; (with_reducible repeat (first | refine blk_drewN ?_ _ | refine blk_drew ?_ | refine blk_alloc ?_ _)); exact BK825.out) hb); have n3_ := Aside0.mk (blk_below (g := gb833) (o := .cells #[.int .i64 t829, .int .i64 t830, .int .i64 t831] 54 (0, 0)) (by (with_reducible repeat (first | refine blk_drewN ?_ _ | refine blk_drew ?_ | refine blk_alloc ?_ _)); refine blk_put (cs := #[.int .i64 t829, .int .i64 t830, .int .i64 0]) ?_ 2 _ rfl; (with_reducible repeat (first | refine blk_drewN ?_ _ | refine blk_drew ?_ | refine blk_alloc ?_ _)); refine blk_put (cs := #[.int .i64 t829, .int .i64 0, .int .i64 0]) ?_ 1 _ rfl; (with_reducible repeat (first | refine blk_drewN ?_ _ | refine blk_drew ?_ | refine blk_alloc ?_ _)); refine blk_put (cs := #[.int .i64 0, .int .i64 0, .int .i64 0]) ?_ 0 _ rfl; (with_reducible repeat (first | refine blk_drewN ?_ _ | refine blk_drew ?_ | refine blk_alloc ?_ _)); exact BK833.out) hb); have n4_ := Aside0.mk (below_step (by repeat (first | (with_reducible first | exact HB.out | apply below_alloc | apply pw_below_drewN | apply below_drew1 | refine below_set ?_ GE825.out | refine below_set ?_ GE833.out) | exact HB.out)) hb); clear HO820; clear HO828; clear BK825; clear BK833; clear HB; have HO820 := n0_; have HO828 := n1_; have BK825 := n2_; have BK833 := n3_; have HB := n4_; clear n0_ n1_ n2_ n3_ n4_; (try clear hb); (try clear hb2); (try clear hk); (try clear hi)))
        go_meet
        case rel => exact ⟨_, ((t832 != t824)), (by first | rfl | (simp; done) | (simp [*]; done)), H', ⟨by first | omega | exact Nat.le_refl _⟩, ⟨by (with_reducible repeat (first | apply Kd.S_alloc | apply Kd.S_drewN | apply Kd.S_drew)); exact Kd.S_mono HO828.out (fun _ hk => trivial)⟩, ⟨by (with_reducible repeat (first | refine blk_drewN ?_ _ | refine blk_drew ?_ | refine blk_alloc ?_ _)); exact BK825.out⟩, ⟨by (with_reducible repeat (first | refine blk_drewN ?_ _ | refine blk_drew ?_ | refine blk_alloc ?_ _)); exact BK833.out⟩, ⟨by repeat (first | (with_reducible first | exact HB.out | apply below_alloc | apply pw_below_drewN | apply below_drew1 | refine below_set ?_ GE825.out | refine below_set ?_ GE833.out) | exact HB.out)⟩⟩
      · replace c24 := Bool.eq_false_iff.mpr c24
        subst c24
        have H1 : (laws_FnExactBankFit.j0 k l0 t826 true) = some r := by rw [if_neg (show ¬ (false = true) by decide)] at H; exact H
        clear H
        have H := H1
        clear H1
        have H' := Aside0.mk H
        clear H
        have hnb29 := NB833_825.out
        have hnc29 := NB825_833.out
        have hcz30_0 : w20.cell? ⟨gb833, 0, none⟩ = some (.int .i64 0) := (blk_cell BK833.out 0).trans rfl
        have hcz30_1 : w20.cell? ⟨gb833, 1, none⟩ = some (.int .i64 0) := (blk_cell BK833.out 1).trans rfl
        have hcz30_2 : w20.cell? ⟨gb833, 2, none⟩ = some (.int .i64 0) := (blk_cell BK833.out 2).trans rfl
        have hfz30_0 := blk_frozen BK833.out 0
        have hfz30_1 := blk_frozen BK833.out 1
        have hfz30_2 := blk_frozen BK833.out 2
        have hcz31_0 : w20.cell? ⟨gb825, 0, none⟩ = some (.int .i64 t821) := (blk_cell BK825.out 0).trans rfl
        have hcz31_1 : w20.cell? ⟨gb825, 1, none⟩ = some (.int .i64 t822) := (blk_cell BK825.out 1).trans rfl
        have hcz31_2 : w20.cell? ⟨gb825, 2, none⟩ = some (.int .i64 t823) := (blk_cell BK825.out 2).trans rfl
        have hfz31_0 := blk_frozen BK825.out 0
        have hfz31_1 := blk_frozen BK825.out 1
        have hfz31_2 := blk_frozen BK825.out 2
        go_wp2_with (first | ((with_reducible refine gate_callee (f := 38) rfl ?_); refine goesL_ (some 33) rfl rfl Try.func38 (by kernel_rfl) rfl #[.agg #[.int .i64 t829, .int .i64 t830, .int .i64 t831], .agg #[.int .i64 t821, .int .i64 t822, .int .i64 t823]] rfl (by (try simp only [List.map_toArray, List.map_cons, List.map_nil]); first | done | rfl | (simp only [List.length_drop, List.length_take]; rfl)) ?_; (with_reducible refine (laws_eqGap.calls t829 t830 t831 t821 t822 t823 false _ A23.out).mono ?_); rintro e w32 ⟨rfl, hb⟩; refine ⟨_, rfl, ?_⟩; have n0_ := Aside0.mk (Kd.S_below (by (with_reducible repeat (first | apply Kd.S_alloc | apply Kd.S_drewN | apply Kd.S_drew)); exact (Kd.S_mono (Kd.S_far (p := ⟨gb833, 2, none⟩) (Kd.S_far (p := ⟨gb833, 1, none⟩) (Kd.S_far (p := ⟨gb833, 0, none⟩) (Kd.S_types HO820.out BK833.out (by decide)) (fun _ hk => hk.2) (.int .i64 t829)) (fun _ hk => hk.2) (.int .i64 t830)) (fun _ hk => hk.2) (.int .i64 t831)) (fun _ h_ => h_.1))) hb); have n1_ := Aside0.mk (Kd.S_below (by (with_reducible repeat (first | apply Kd.S_alloc | apply Kd.S_drewN | apply Kd.S_drew)); exact (Kd.S_mono (Kd.S_far (p := ⟨gb833, 2, none⟩) (Kd.S_far (p := ⟨gb833, 1, none⟩) (Kd.S_far (p := ⟨gb833, 0, none⟩) (Kd.S_types HO828.out BK833.out (by decide)) (fun _ hk => hk.2) (.int .i64 t829)) (fun _ hk => hk.2) (.int .i64 t830)) (fun _ hk => hk.2) (.int .i64 t831)) (fun _ h_ => h_.1))) hb); have n2_ := Aside0.mk (blk_below (g := gb825) (o := .cells #[.int .i64 t821, .int .i64 t822, .int .i64 t823] 54 (0, 0)) (by (with_reducible repeat (first | refine blk_drewN ?_ _ | refine blk_drew ?_ | refine blk_alloc ?_ _)); refine blk_far ?_ NB825_833.out _; (with_reducible repeat (first | refine blk_drewN ?_ _ | refine blk_drew ?_ | refine blk_alloc ?_ _)); refine blk_far ?_ NB825_833.out _; (with_reducible repeat (first | refine blk_drewN ?_ _ | refine blk_drew ?_ | refine blk_alloc ?_ _)); refine blk_far ?_ NB825_833.out _; (with_reducible repeat (first | refine blk_drewN ?_ _ | refine blk_drew ?_ | refine blk_alloc ?_ _)); exact BK825.out) hb); have n3_ := Aside0.mk (blk_below (g := gb833) (o := .cells #[.int .i64 t829, .int .i64 t830, .int .i64 t831] 54 (0, 0)) (by (with_reducible repeat (first | refine blk_drewN ?_ _ | refine blk_drew ?_ | refine blk_alloc ?_ _)); refine blk_put (cs := #[.int .i64 t829, .int .i64 t830, .int .i64 0]) ?_ 2 _ rfl; (with_reducible repeat (first | refine blk_drewN ?_ _ | refine blk_drew ?_ | refine blk_alloc ?_ _)); refine blk_put (cs := #[.int .i64 t829, .int .i64 0, .int .i64 0]) ?_ 1 _ rfl; (with_reducible repeat (first | refine blk_drewN ?_ _ | refine blk_drew ?_ | refine blk_alloc ?_ _)); refine blk_put (cs := #[.int .i64 0, .int .i64 0, .int .i64 0]) ?_ 0 _ rfl; (with_reducible repeat (first | refine blk_drewN ?_ _ | refine blk_drew ?_ | refine blk_alloc ?_ _)); exact BK833.out) hb); have n4_ := Aside0.mk (below_step (by repeat (first | (with_reducible first | exact HB.out | apply below_alloc | apply pw_below_drewN | apply below_drew1 | refine below_set ?_ GE825.out | refine below_set ?_ GE833.out) | exact HB.out)) hb); clear HO820; clear HO828; clear BK825; clear BK833; clear HB; have HO820 := n0_; have HO828 := n1_; have BK825 := n2_; have BK833 := n3_; have HB := n4_; clear n0_ n1_ n2_ n3_ n4_; (try clear hb); (try clear hb2); (try clear hk); (try clear hi)))
        go_meet
        case rel => exact ⟨_, (true), (by first | rfl | (simp; done) | (simp [*]; done)), H', ⟨by first | omega | exact Nat.le_refl _⟩, ⟨by (with_reducible repeat (first | apply Kd.S_alloc | apply Kd.S_drewN | apply Kd.S_drew)); exact Kd.S_mono HO828.out (fun _ hk => trivial)⟩, ⟨by (with_reducible repeat (first | refine blk_drewN ?_ _ | refine blk_drew ?_ | refine blk_alloc ?_ _)); exact BK825.out⟩, ⟨by (with_reducible repeat (first | refine blk_drewN ?_ _ | refine blk_drew ?_ | refine blk_alloc ?_ _)); exact BK833.out⟩, ⟨by repeat (first | (with_reducible first | exact HB.out | apply below_alloc | apply pw_below_drewN | apply below_drew1 | refine below_set ?_ GE825.out | refine below_set ?_ GE833.out) | exact HB.out)⟩⟩
    case rest =>
      clear HC10
      try clear c1
      try clear c2
      try clear p2
      try clear c3
      try clear c4
      try clear c4b0
      try clear c12
      try clear c21
      try clear c24
      try clear c25
      try clear c27
      try clear c29
      try clear hcz16_0
      try clear hcz16_1
      try clear hcz16_2
      try clear hcz22_0
      try clear hcz22_1
      try clear hcz22_2
      try clear hcz26_0
      try clear hcz26_1
      try clear hcz26_2
      try clear hcz27_0
      try clear hcz27_1
      try clear hcz27_2
      try clear hcz30_0
      try clear hcz30_1
      try clear hcz30_2
      try clear hcz31_0
      try clear hcz31_1
      try clear hcz31_2
      try clear hfz16_0
      try clear hfz16_1
      try clear hfz16_2
      try clear hfz22_0
      try clear hfz22_1
      try clear hfz22_2
      try clear hfz26_0
      try clear hfz26_1
      try clear hfz26_2
      try clear hfz27_0
      try clear hfz27_1
      try clear hfz27_2
      try clear hfz30_0
      try clear hfz30_1
      try clear hfz30_2
      try clear hfz31_0
      try clear hfz31_1
      try clear hfz31_2
      obtain ⟨kq, x39_9, rfl, HA, HJ9, HO_8, BK825, BK833, HB⟩ := hcut
      cases kq with
      | zero => exact absurd HA.out (by simp [laws_FnExactBankFit.j0])
      | succ kj9 =>
        have H := HA.out
        clear HA
        simp only [laws_FnExactBankFit.j0] at H
        by_cases c33 : x39_9 = true
        · subst c33
          have H1 : (some false) = some r := by rw [if_pos rfl] at H; exact H
          clear H
          have H := H1
          clear H1
          exact absurd (Option.some.inj H) (by rw [hr_.out]; decide)
        · replace c33 := Bool.eq_false_iff.mpr c33
          subst c33
          have H1 : ((laws_toColumnS.f kj9 l0).bind fun t835 => ((laws_eqColumnS.f kj9 t826 t835).bind fun t838 => (if t838 = true then (some true) else (some false)))) = some r := by rw [if_neg (show ¬ (false = true) by decide)] at H; exact H
          clear H
          have H := H1
          clear H1
          replace H := Option.bind_eq_some_iff.mp H
          obtain ⟨t835, A340, H⟩ := H
          replace H : ((laws_eqColumnS.f kj9 t826 t835).bind fun t838 => (if t838 = true then (some true) else (some false))) = some r := H
          have A34 := Aside0.mk A340
          clear A340
          replace H := Option.bind_eq_some_iff.mp H
          obtain ⟨t838, A350, H⟩ := H
          replace H : (if t838 = true then (some true) else (some false)) = some r := H
          have A35 := Aside0.mk A350
          clear A350
          by_cases c36 : t838 = true
          · subst c36
            have H1 : (some true) = some r := by rw [if_pos rfl] at H; exact H
            clear H
            have H := H1
            clear H1
            obtain rfl := Option.some.inj H
            go_wp2_with (first | ((with_reducible refine gate_callee (f := 29) rfl ?_); refine goesL_ (some 42) rfl rfl Try.func29 (by kernel_rfl) rfl #[.slice A0 l0.length c0] rfl (by (try simp only [List.map_toArray, List.map_cons, List.map_nil]); first | done | rfl | (simp only [List.length_drop, List.length_take]; rfl)) ?_; (with_reducible refine (laws_toColumnS.calls kj9 _ _ l0 t835 _ ?side1 ?side2 A34.out).mono ?_); (case side1 => repeat (first | exact (Kd.C_below HR0.out HB.out) | (with_reducible refine Kd.C_alloc ?_ _) | (with_reducible refine Kd.C_drewN ?_ _) | (with_reducible refine Kd.C_drew ?_))); (case side2 => exact HC0.out); rintro e w37 ⟨v836, rfl, ho0, hb⟩; refine ⟨_, rfl, ?_⟩; have n0_ := Aside0.mk (Kd.S_elder' (by (with_reducible repeat (first | apply Kd.S_alloc | apply Kd.S_drewN | apply Kd.S_drew)); exact HO_8.out) (Kd.S_base ho0) hb); have n1_ := Aside0.mk (Kd.S_lower (Kd.S_new' ho0 (Kd.S_lt (by (with_reducible repeat (first | apply Kd.S_alloc | apply Kd.S_drewN | apply Kd.S_drew)); exact HO_8.out))) (below_size (by repeat (first | (with_reducible first | exact HB.out | apply below_alloc | apply pw_below_drewN | apply below_drew1 | refine below_set ?_ GE825.out | refine below_set ?_ GE833.out) | exact HB.out)))); have n2_ := Aside0.mk (blk_below (g := gb825) (o := .cells #[.int .i64 t821, .int .i64 t822, .int .i64 t823] 54 (0, 0)) (by (with_reducible repeat (first | refine blk_drewN ?_ _ | refine blk_drew ?_ | refine blk_alloc ?_ _)); exact BK825.out) hb); have n3_ := Aside0.mk (blk_below (g := gb833) (o := .cells #[.int .i64 t829, .int .i64 t830, .int .i64 t831] 54 (0, 0)) (by (with_reducible repeat (first | refine blk_drewN ?_ _ | refine blk_drew ?_ | refine blk_alloc ?_ _)); exact BK833.out) hb); have n4_ := Aside0.mk (below_step (by repeat (first | (with_reducible first | exact HB.out | apply below_alloc | apply pw_below_drewN | apply below_drew1 | refine below_set ?_ GE825.out | refine below_set ?_ GE833.out) | exact HB.out)) hb); clear HO_8; clear BK825; clear BK833; clear HB; have HO_8 := n0_; have HO837 := n1_; have BK825 := n2_; have BK833 := n3_; have HB := n4_; clear n0_ n1_ n2_ n3_ n4_; (try clear hb); (try clear hb2); (try clear hk); (try clear hi); (try clear ho0); obtain ⟨Ao38, co38, eo38⟩ := Kd.S_slice HO837.out; subst eo38) | ((with_reducible refine gate_callee (f := 31) rfl ?_); refine goesL_ (some 43) rfl rfl Try.func31 (by kernel_rfl) rfl #[.slice Ao18 t826.length co18, .slice Ao38 t835.length co38] rfl (by (try simp only [List.map_toArray, List.map_cons, List.map_nil]); first | done | rfl | (simp only [List.length_drop, List.length_take]; rfl)) ?_; (with_reducible refine (laws_eqColumnS.calls kj9 _ _ t826 _ _ t835 true _ ?side1 ?side2 ?side3 ?side4 A35.out).mono ?_); (case side1 => repeat (first | exact (Kd.S_reads' HO_8.out).2.2 | (with_reducible refine Kd.C_alloc ?_ _) | (with_reducible refine Kd.C_drewN ?_ _) | (with_reducible refine Kd.C_drew ?_))); (case side2 => exact (Kd.S_reads' HO_8.out).2.1); (case side3 => repeat (first | exact (Kd.S_reads' HO837.out).2.2 | (with_reducible refine Kd.C_alloc ?_ _) | (with_reducible refine Kd.C_drewN ?_ _) | (with_reducible refine Kd.C_drew ?_))); (case side4 => exact (Kd.S_reads' HO837.out).2.1); rintro e w39 ⟨rfl, hb⟩; refine ⟨_, rfl, ?_⟩; have n0_ := Aside0.mk (Kd.S_below (by (with_reducible repeat (first | apply Kd.S_alloc | apply Kd.S_drewN | apply Kd.S_drew)); exact HO_8.out) hb); have n1_ := Aside0.mk (Kd.S_below (by (with_reducible repeat (first | apply Kd.S_alloc | apply Kd.S_drewN | apply Kd.S_drew)); exact HO837.out) hb); have n2_ := Aside0.mk (blk_below (g := gb825) (o := .cells #[.int .i64 t821, .int .i64 t822, .int .i64 t823] 54 (0, 0)) (by (with_reducible repeat (first | refine blk_drewN ?_ _ | refine blk_drew ?_ | refine blk_alloc ?_ _)); exact BK825.out) hb); have n3_ := Aside0.mk (blk_below (g := gb833) (o := .cells #[.int .i64 t829, .int .i64 t830, .int .i64 t831] 54 (0, 0)) (by (with_reducible repeat (first | refine blk_drewN ?_ _ | refine blk_drew ?_ | refine blk_alloc ?_ _)); exact BK833.out) hb); have n4_ := Aside0.mk (below_step (by repeat (first | (with_reducible first | exact HB.out | apply below_alloc | apply pw_below_drewN | apply below_drew1 | refine below_set ?_ GE825.out | refine below_set ?_ GE833.out) | exact HB.out)) hb); clear HO_8; clear HO837; clear BK825; clear BK833; clear HB; have HO_8 := n0_; have HO837 := n1_; have BK825 := n2_; have BK833 := n3_; have HB := n4_; clear n0_ n1_ n2_ n3_ n4_; (try clear hb); (try clear hb2); (try clear hk); (try clear hi)))
            go_ret
            exact ⟨by first | rfl | (simp [errW_none, errW_some] <;> rfl) | (simp [*, errW_none, errW_some] <;> rfl), by repeat (first | (with_reducible first | exact HB.out | apply below_alloc | apply pw_below_drewN | apply below_drew1 | refine below_set ?_ GE825.out | refine below_set ?_ GE833.out) | exact HB.out)⟩
          · replace c36 := Bool.eq_false_iff.mpr c36
            subst c36
            have H1 : (some false) = some r := by rw [if_neg (show ¬ (false = true) by decide)] at H; exact H
            clear H
            have H := H1
            clear H1
            exact absurd (Option.some.inj H) (by rw [hr_.out]; decide)
end Go.Proofs.Ytghfeapncmlihaa.A

namespace Go.Proofs.Ytghfeapncmlihaa.A
open Go.ChangeShapes Go.WideShapes Go.ChangeAt Go.RowKit Go.Proofs.YtghfeapncmlihaaW.PrintWords Go.Proofs.YtghfeapncmlihaaW.PrintLast
set_option linter.unusedVariables false
set_option linter.unusedSimpArgs false
def Opn {α : Type} (P : Program) (t : TypeId) (d : Kd α) (ok : α → Prop) : Prop :=
  ∀ {H : Type} {enc : TypeId × Value → H} (w : World) (fuel : Nat) (cs : List Value) (x : DataW H × List MemPlace),
    DataW.trod enc P w 0 (fun _ => true) true fuel t cs = some x → ∃ a, d.K w a cs ∧ ok a
theorem opn_int {P : Program} {t : TypeId} {k : IntKind} (ht : P.underlying t = some (.int k)) : Opn P t (Kd.int k) (fun a => (Lit.int k a).wf = true) := by
  intro H enc w fuel cs x h
  obtain ⟨n, rfl, _, hw⟩ := DataW.trod_int ht h
  exact ⟨n, rfl, hw⟩
theorem opn_bool {P : Program} {t : TypeId} (ht : P.underlying t = some .bool) : Opn P t Kd.bool (fun _ => True) := by
  intro H enc w fuel cs x h
  obtain ⟨b, rfl, _⟩ := DataW.trod_bool ht h
  exact ⟨b, rfl, trivial⟩
theorem add_add_ (a : Addr) (i j : Nat) : (a.add i).add j = a.add (i + j) := by
  unfold Addr.add
  by_cases hi : i = 0
  · subst hi; simp
  · by_cases hj : j = 0
    · subst hj; simp
    · rw [if_neg hi, if_neg hj, if_neg (by omega)]
      simp; omega
theorem cells_at {w : World} {base : Nat} {a : Addr} {n : Nat} {cs : List Value} (h : w.cells? base a n = some cs) : cs.length = n ∧ ∀ i u, cs[i]? = some u → w.cell? (a.add i) = some u := by
  unfold World.cells? at h
  split at h
  · have l := mapM_some_length h
    simp only [List.length_range] at l
    refine ⟨l, fun i u hu => ?_⟩
    have hi := (List.getElem?_eq_some_iff.1 hu).1
    have := mapM_some_get h i i (by simp [show i < n by omega])
    rw [this]; exact hu
  · cases h
theorem choose_list {α : Type} {Q : Nat → α → Prop} (m : Nat) (h : ∀ i, i < m → ∃ v, Q i v) : ∃ l : List α, l.length = m ∧ ∀ i v, l[i]? = some v → Q i v := by
  induction m with
  | zero => exact ⟨[], rfl, fun i v hv => by simp at hv⟩
  | succ m ih =>
    obtain ⟨l, hl, hq⟩ := ih (fun i hi => h i (by omega))
    obtain ⟨v, hv⟩ := h m (by omega)
    refine ⟨l ++ [v], by simp [hl], fun i u hu => ?_⟩
    rcases Nat.lt_trichotomy i m with hi | hi | hi
    · rw [List.getElem?_append_left (by omega)] at hu
      exact hq i u hu
    · subst hi
      rw [List.getElem?_append_right (by omega), hl, Nat.sub_self] at hu
      have : v = u := by simpa using hu
      exact this ▸ hv
    · rw [List.getElem?_eq_none (by simp; omega)] at hu
      cases hu
theorem opn_slice {α : Type} {P : Program} {t e : TypeId} {d : Kd α} {ok : α → Prop} (ht : P.underlying t = some (.slice e)) (hs : P.cellsOf e = d.sz) (ho : Opn P e d ok) :
    Opn P t (Kd.slice e d) (fun l => l.length ≤ maxLen ∧ ∀ x ∈ l, ok x) := by
  intro H enc w fuel cs x h
  rcases DataW.trod_slice ht h with ⟨rfl, _⟩ | ⟨a, len, cap, elems, rest, n, _, rfl, _, _, hl, hm, hlen, hel, _, _⟩
  · exact ⟨[], ⟨none, 0, rfl, Nat.le_refl _, rfl, Nat.zero_le _, fun h => absurd h (by simp)⟩, by simp, by simp⟩
  · have each : ∀ i, i < len → ∃ v, ok v ∧ ∃ c, c.length = d.sz ∧ d.K w v c ∧ ∀ j u, c[j]? = some u → w.cell? (a.add (i * d.sz + j)) = some u := by
      intro i hi
      have h1 := hel i hi
      rw [List.getElem?_eq_getElem (by omega)] at h1
      obtain ⟨c, hc, hr⟩ := Option.bind_eq_some_iff.1 h1
      obtain ⟨v, hk, hv⟩ := ho w n c _ hr
      obtain ⟨_, hcell⟩ := cells_at hc
      refine ⟨v, hv, c, d.K_len hk, hk, fun j u hu => ?_⟩
      have := hcell j u hu
      rw [hs, add_add_] at this
      exact this
    obtain ⟨l, hll, hq⟩ := choose_list len each
    subst hll
    have hm' : l.length ≤ maxLen := Nat.le_trans hl hm
    refine ⟨l, ⟨some a, cap, rfl, hl, rfl, by unfold maxLen at hm'; omega, fun _ => ⟨a, rfl, fun j p hp => ?_⟩⟩, hm', fun v hv => ?_⟩
    · obtain ⟨_, c, h1, h2, h3⟩ := hq j p hp
      exact ⟨c, h1, h2, h3⟩
    · obtain ⟨i, hi, rfl⟩ := List.getElem_of_mem hv
      exact (hq i _ (List.getElem?_eq_getElem hi)).1
theorem opn_top {α : Type} {H : Type} {enc : TypeId × Value → H} {P : Program} {w : World} {t : TypeId} {d : Kd α} {ok : α → Prop} {v : Value} {x : DataW H} {ps : List MemPlace} (ho : Opn P t d ok)
    (h : DataW.Trod enc P w 0 (fun _ => true) true t v x ps) : ∃ a, d.K w a v.cells.toList ∧ ok a := by
  obtain ⟨fuel, hf⟩ := h
  exact ho w fuel _ _ hf
theorem slice_eq {a b : Option Addr} {l m c q : Nat} (h : (Value.slice a l c).cells.toList = [.slice b m q]) : a = b ∧ l = m ∧ c = q := by
  simpa [Value.cells] using h
abbrev ok3 (a : Int) : Prop := (Lit.int .i64 a).wf = true
abbrev ok4 (_ : Bool) : Prop := True
abbrev ok22 (l : List Int) : Prop := l.length ≤ maxLen ∧ ∀ x ∈ l, ok3 x
abbrev ok93 (x : S93) : Prop := ok3 x.f0 ∧ ok3 x.f1 ∧ ok3 x.f2 ∧ ok4 x.f3
abbrev ok23 (l : List (S93)) : Prop := l.length ≤ maxLen ∧ ∀ x ∈ l, ok93 x
abbrev ok25 (x : S25) : Prop := ok3 x.f0 ∧ ok22 x.f1 ∧ ok23 x.f2
abbrev ok41 (l : List (S25)) : Prop := l.length ≤ maxLen ∧ ∀ x ∈ l, ok25 x
theorem op3 : Opn Try.prog 3 (Kd.int .i64) ok3 := opn_int Try.underlying3
theorem op4 : Opn Try.prog 4 Kd.bool ok4 := opn_bool Try.underlying4
theorem op22 : Opn Try.prog 22 (Kd.slice 3 (Kd.int .i64)) ok22 := opn_slice Try.underlying22 (by kernel_rfl) op3
set_option maxRecDepth 100000 in
theorem op93 : Opn Try.prog 93 k93 ok93 := by
  intro H enc w fuel cs x h
  obtain ⟨xs, n, _, _, hl, hlen, hf⟩ := DataW.trod_struct Try.underlying93 h
  have hl' : cs.length = 4 := hl.trans (by kernel_rfl)
  match cs, hl' with
  | [c0, c1, c2, c3], _ =>
    match xs, hlen with
    | [y0, y1, y2, y3], _ =>
    obtain ⟨a0, q0, z0⟩ := op3 (H := H) (enc := enc) w n [c0] y0 (hf 0 _ rfl)
    obtain ⟨a1, q1, z1⟩ := op3 (H := H) (enc := enc) w n [c1] y1 (hf 1 _ rfl)
    obtain ⟨a2, q2, z2⟩ := op3 (H := H) (enc := enc) w n [c2] y2 (hf 2 _ rfl)
    obtain ⟨a3, q3, z3⟩ := op4 (H := H) (enc := enc) w n [c3] y3 (hf 3 _ rfl)
    exact ⟨⟨a0, a1, a2, a3⟩, ⟨[c0], [c1, c2, c3], rfl, q0, ⟨[c1], [c2, c3], rfl, q1, ⟨[c2], [c3], rfl, q2, q3⟩⟩⟩, ⟨z0, z1, z2, z3⟩⟩
theorem op23 : Opn Try.prog 23 (Kd.slice 93 k93) ok23 := opn_slice Try.underlying23 (by kernel_rfl) op93
set_option maxRecDepth 100000 in
theorem op25 : Opn Try.prog 25 k25 ok25 := by
  intro H enc w fuel cs x h
  obtain ⟨xs, n, _, _, hl, hlen, hf⟩ := DataW.trod_struct Try.underlying25 h
  have hl' : cs.length = 3 := hl.trans (by kernel_rfl)
  match cs, hl' with
  | [c0, c1, c2], _ =>
    match xs, hlen with
    | [y0, y1, y2], _ =>
    obtain ⟨a0, q0, z0⟩ := op3 (H := H) (enc := enc) w n [c0] y0 (hf 0 _ rfl)
    obtain ⟨a1, q1, z1⟩ := op22 (H := H) (enc := enc) w n [c1] y1 (hf 1 _ rfl)
    obtain ⟨a2, q2, z2⟩ := op23 (H := H) (enc := enc) w n [c2] y2 (hf 2 _ rfl)
    exact ⟨⟨a0, a1, a2⟩, ⟨[c0], [c1, c2], rfl, q0, ⟨[c1], [c2], rfl, q1, q2⟩⟩, ⟨z0, z1, z2⟩⟩
theorem op41 : Opn Try.prog 41 (Kd.slice 25 k25) ok41 := opn_slice Try.underlying41 (by kernel_rfl) op25
end Go.Proofs.Ytghfeapncmlihaa.A

namespace Go.Proofs.Ytghfeapncmlihaa.A
open Go.RowKit Go.Proofs.YtghfeapncmlihaaW.PrintWords Go.Proofs.YtghfeapncmlihaaW.PrintLast Go.Proofs.YtghfeapncmlihaaW.PrintMore
set_option linter.unusedVariables false
set_option linter.unusedSimpArgs false
def Ev {α : Type} (F : Nat → Option α) (r : α) : Prop := ∃ K, ∀ k, K ≤ k → F k = some r
theorem Ev.mk {α : Type} {F : Nat → Option α} {r : α} (K : Nat) (h : ∀ k, K < k → F k = some r) : Ev F r := ⟨K + 1, fun k hk => h k hk⟩
theorem Ev.get {α : Type} {F : Nat → Option α} {r : α} (h : Ev F r) : ∃ k, F k = some r := by
  obtain ⟨K, h⟩ := h
  exact ⟨K, h K (Nat.le_refl _)⟩
theorem Ev.const {α : Type} {o : Option α} {r : α} (h : o = some r) : Ev (fun _ => o) r := ⟨0, fun _ _ => h⟩
theorem Ev.ret {α : Type} (r : α) : Ev (fun _ => some r) r := ⟨0, fun _ _ => rfl⟩
theorem Ev.bind {α β : Type} {F : Nat → Option α} {G : Nat → α → Option β} {a : α} {b : β} (h1 : Ev F a) (h2 : Ev (fun k => G k a) b) : Ev (fun k => (F k).bind (G k)) b := by
  obtain ⟨K1, h1⟩ := h1
  obtain ⟨K2, h2⟩ := h2
  refine ⟨max K1 K2, fun k hk => ?_⟩
  show (F k).bind (G k) = some b
  rw [h1 k (by omega)]
  exact h2 k (by omega)
theorem Ev.pos {α : Type} {c : Prop} [Decidable c] {A B : Nat → Option α} {r : α} (h : c) (hA : Ev A r) : Ev (fun k => if c then A k else B k) r := by
  obtain ⟨K, hA⟩ := hA
  exact ⟨K, fun k hk => by show (if c then A k else B k) = some r; rw [if_pos h]; exact hA k hk⟩
theorem Ev.neg {α : Type} {c : Prop} [Decidable c] {A B : Nat → Option α} {r : α} (h : ¬ c) (hB : Ev B r) : Ev (fun k => if c then A k else B k) r := by
  obtain ⟨K, hB⟩ := hB
  exact ⟨K, fun k hk => by show (if c then A k else B k) = some r; rw [if_neg h]; exact hB k hk⟩
theorem Ev.ite {α : Type} {c : Prop} [Decidable c] {A B : Nat → Option α} {a b : α} (hA : c → Ev A a) (hB : ¬ c → Ev B b) : Ev (fun k => if c then A k else B k) (if c then a else b) := by
  by_cases h : c
  · rw [if_pos h]; exact Ev.pos h (hA h)
  · rw [if_neg h]; exact Ev.neg h (hB h)
theorem Ev.succ {α : Type} {F : Nat → Option α} {r : α} (h : Ev (fun k => F (k + 1)) r) : Ev F r := by
  obtain ⟨K, h⟩ := h
  refine ⟨K + 1, fun k hk => ?_⟩
  obtain ⟨m, rfl⟩ : ∃ m, k = m + 1 := ⟨k - 1, by omega⟩
  exact h m (by omega)
theorem Ev.of_eq {α : Type} {F G : Nat → Option α} {r : α} (h : Ev F r) (e : ∀ k, G k = F k) : Ev G r := by
  obtain ⟨K, h⟩ := h
  exact ⟨K, fun k hk => (e k).trans (h k hk)⟩
theorem Ev.to {α : Type} {F : Nat → Option α} {r s : α} (h : Ev F r) (e : r = s) : Ev F s := e ▸ h
theorem Ev.uniq {α : Type} {F : Nat → Option α} {r s : α} (h : Ev F r) (g : Ev F s) : r = s := by
  obtain ⟨K1, h⟩ := h
  obtain ⟨K2, g⟩ := g
  exact Option.some.inj ((h (max K1 K2) (by omega)).symm.trans (g (max K1 K2) (by omega)))
theorem getD_gen {α : Type} {l : List α} {i : Nat} (d : α) (h : i < l.length) : l.getD i d = l[i] := by
  rw [List.getD_eq_getElem?_getD, List.getElem?_eq_getElem h]; rfl
theorem wsucc (i : Nat) (h : i < 9223372036854775807) : wrap64 ((i : Int) + 1) = ((i + 1 : Nat) : Int) := by unfold wrap64; omega
theorem wpred (i : Nat) (h : 0 < i) (h2 : i ≤ 9223372036854775807) : wrap64 ((i : Int) - 1) = ((i - 1 : Nat) : Int) := by unfold wrap64; omega
theorem wid (x : Int) (h : -9223372036854775808 ≤ x) (h2 : x ≤ 9223372036854775807) : wrap64 x = x := by unfold wrap64; omega
theorem all_loop {L : Nat → Int → Option Bool} {n : Nat} {P : Nat → Bool} (h : ∀ k i, i < n → L (k + 1) (i : Int) = if P i = true then L k ((i + 1 : Nat) : Int) else some false)
    (he : ∀ k, L (k + 1) (n : Int) = some true) (d : Nat) : ∀ k i, i + d = n → d < k → L k (i : Int) = some ((List.range' i d).all P) := by
  induction d with
  | zero =>
    intro k i hi hk
    obtain ⟨k, rfl⟩ : ∃ m, k = m + 1 := ⟨k - 1, by omega⟩
    obtain rfl : i = n := by omega
    rw [he]; rfl
  | succ d ih =>
    intro k i hi hk
    obtain ⟨k, rfl⟩ : ∃ m, k = m + 1 := ⟨k - 1, by omega⟩
    rw [h k i (by omega), List.range'_succ, List.all_cons]
    by_cases hp : P i = true
    · rw [if_pos hp, ih k (i + 1) (by omega) (by omega), hp, Bool.true_and]
    · rw [if_neg hp]
      have : P i = false := by simpa using hp
      rw [this, Bool.false_and]
theorem map_loop {α β : Type} {L : Nat → List β → Int → Option (List β)} {xs : List α} {g : α → β} (d0 : α)
    (h : ∀ k acc (i : Nat), i < xs.length → acc.length = xs.length → L (k + 1) acc (i : Int) = L k (acc.set i (g (xs.getD i d0))) ((i + 1 : Nat) : Int))
    (he : ∀ k acc, L (k + 1) acc (xs.length : Int) = some acc) (d : Nat) :
    ∀ k acc i, i + d = xs.length → d < k → acc.length = xs.length → (∀ j, j < i → acc[j]? = (xs.map g)[j]?) → L k acc (i : Int) = some (xs.map g) := by
  induction d with
  | zero =>
    intro k acc i hi hk hl hp
    obtain ⟨k, rfl⟩ : ∃ m, k = m + 1 := ⟨k - 1, by omega⟩
    obtain rfl : i = xs.length := by omega
    rw [he]
    congr 1
    apply List.ext_getElem?
    intro j
    by_cases hj : j < xs.length
    · exact hp j hj
    · rw [List.getElem?_eq_none (by omega), List.getElem?_eq_none (by simp; omega)]
  | succ d ih =>
    intro k acc i hi hk hl hp
    obtain ⟨k, rfl⟩ : ∃ m, k = m + 1 := ⟨k - 1, by omega⟩
    rw [h k acc i (by omega) hl]
    refine ih k _ (i + 1) (by omega) (by omega) (by simp [hl]) (fun j hj => ?_)
    by_cases e : i = j
    · subst e
      rw [List.getElem?_set_self (by omega), List.getElem?_map, List.getElem?_eq_getElem (show i < xs.length by omega), List.getD_eq_getElem?_getD, List.getElem?_eq_getElem (show i < xs.length by omega)]
      rfl
    · rw [List.getElem?_set_ne e]
      exact hp j (by omega)
theorem in_eq (a b c : Int) : spec_l01In.f a b c = some (decide (b ≤ a ∧ a ≤ c)) := by
  unfold spec_l01In.f
  split
  · congr 1; rw [decide_eq_decide]; omega
  · congr 1; exact (decide_eq_false (by omega)).symm
def boxS : List S71 → Int → List Int → Option Int
  | [], low, _ => some low
  | b :: bs, low, ps => if b.f0 = low ∧ (1 ≤ b.f1 ∧ b.f1 ≤ 24) ∧ (0 ≤ b.f2 ∧ b.f2 ≤ 999) ∧ ¬ (0 < b.f2 ∧ b.f2 ∈ ps) ∧ low + b.f1 ≤ 24 then boxS bs (low + b.f1) (b.f2 :: ps) else none
def boxesS (h : Int) (bx : List S71) (o : Option Int) : Bool := match o with | none => false | some low => decide (bx ≠ []) && decide (low = h)
theorem boxes_in (h : Int) (fx : List Int) (bx : List S71) (at_ : Int) (i : Nat) (hi : i < bx.length) (hi2 : i ≤ 24) (b : S71) (P : Prop) [Decidable P] (hP : P ↔ (0 < b.f2 ∧ ∃ j, j < i ∧ (bx.getD j z71).f2 = b.f2)) (d : Nat) :
    ∀ (k j : Nat), j + d = i → d < k → (∀ m, m < j → 0 < b.f2 → (bx.getD m z71).f2 ≠ b.f2) → spec_l02Boxes.l1 k at_ (i : Int) (j : Int) h fx bx b.f0 b.f1 b.f2 b.f3 = if P then some false else (if (wrap64 (at_ + b.f1)) > 24 then (some false) else (spec_l02Boxes.l0 (k - d - 1) (wrap64 (at_ + b.f1)) ((i + 1 : Nat) : Int) h fx bx)) := by
  induction d with
  | zero =>
    intro k j hj hk hn
    obtain ⟨k, rfl⟩ : ∃ m, k = m + 1 := ⟨k - 1, by omega⟩
    simp only [spec_l02Boxes.l1]
    have hnp : ¬ P := fun hp => by obtain ⟨h0, m, hm, e⟩ := hP.mp hp; exact hn m (by omega) h0 e
    rw [if_neg (by omega), if_neg hnp, wsucc i (by omega)]
    rfl
  | succ d ih =>
    intro k j hj hk hn
    obtain ⟨k, rfl⟩ : ∃ m, k = m + 1 := ⟨k - 1, by omega⟩
    simp only [spec_l02Boxes.l1]
    have er : rd_T71 bx (j : Int) = bx.getD j z71 := rfl
    rw [if_pos (by omega), er, wsucc j (by omega)]
    by_cases c0 : b.f2 > 0
    · rw [if_pos c0, if_pos (by omega), if_pos (by omega)]
      by_cases c1 : (bx.getD j z71).f2 = b.f2
      · rw [if_pos c1, if_pos (hP.mpr ⟨c0, j, by omega, c1⟩)]
      · rw [if_neg c1, ih k (j + 1) (by omega) (by omega) (fun m hm h0 => by
          by_cases e : m = j
          · subst e; exact c1
          · exact hn m (by omega) h0), show k + 1 - (d + 1) - 1 = k - d - 1 by omega]
    · rw [if_neg c0, ih k (j + 1) (by omega) (by omega) (fun m hm h0 => absurd h0 c0), show k + 1 - (d + 1) - 1 = k - d - 1 by omega]
theorem drop_cons {α : Type} (l : List α) (d : α) (i : Nat) (hi : i < l.length) : l.drop i = l.getD i d :: l.drop (i + 1) := by
  rw [List.drop_eq_getElem_cons hi, getD_gen d hi]
theorem boxes_loop (h : Int) (fx : List Int) (bx : List S71) (hl : bx.length ≤ 140737488351232) : ∀ (d k i : Nat) (at_ : Int) (ps : List Int), (24 - at_).toNat = d → 0 ≤ at_ → at_ ≤ 24 → (i : Int) ≤ at_ → i ≤ bx.length → (d + 2) * 40 < k →
    (∀ x, x ∈ ps ↔ ∃ j, j < i ∧ (bx.getD j z71).f2 = x) → spec_l02Boxes.l0 k at_ (i : Int) h fx bx = some (boxesS h bx (boxS (bx.drop i) at_ ps)) := by
  intro d
  induction d using Nat.strongRecOn with
  | _ d ih =>
  intro k i at_ ps hd h0 h1 hi hil hk hps
  obtain ⟨k, rfl⟩ : ∃ m, k = m + 2 := ⟨k - 2, by omega⟩
  simp only [spec_l02Boxes.l0]
  by_cases c : i < bx.length
  · have er : rd_T71 bx (i : Int) = bx.getD i z71 := rfl
    rw [if_pos (by omega), if_pos (by omega), drop_cons bx z71 i c, er]
    simp only [in_eq, Option.bind_some, boxS]
    generalize hb : bx.getD i z71 = b
    by_cases c0 : b.f0 = at_
    · rw [if_pos c0]
      by_cases c1 : 1 ≤ b.f1 ∧ b.f1 ≤ 24
      · rw [if_pos (decide_eq_true c1)]
        by_cases c2 : 0 ≤ b.f2 ∧ b.f2 ≤ 999
        · simp only [decide_eq_true c2, spec_l02Boxes.j1, Bool.not_true]
          rw [if_neg (by simp)]
          have hin := boxes_in h fx bx at_ i c (by omega) b (0 < b.f2 ∧ b.f2 ∈ ps) (by rw [hps]) i k 0 (by omega) (by omega) (fun m hm => by omega)
          refine hin.trans ?_
          by_cases c3 : 0 < b.f2 ∧ b.f2 ∈ ps
          · rw [if_pos c3, if_neg (fun h => h.2.2.2.1 c3)]; rfl
          · rw [if_neg c3, wid (at_ + b.f1) (by omega) (by omega)]
            by_cases c4 : at_ + b.f1 > 24
            · rw [if_pos c4, if_neg (fun h => by have := h.2.2.2.2; omega)]; rfl
            · rw [if_neg c4, if_pos ⟨c0, c1, c2, c3, by omega⟩]
              refine ih (24 - (at_ + b.f1)).toNat (by omega) _ (i + 1) (at_ + b.f1) (b.f2 :: ps) rfl (by omega) (by omega) (by omega) (by omega) (by omega) (fun x => ?_)
              rw [List.mem_cons, hps]
              constructor
              · rintro (rfl | ⟨j, hj, e⟩)
                · exact ⟨i, by omega, by rw [hb]⟩
                · exact ⟨j, by omega, e⟩
              · rintro ⟨j, hj, e⟩
                by_cases ej : j = i
                · subst ej; left; rw [← e, hb]
                · right; exact ⟨j, by omega, e⟩
        · simp only [decide_eq_false c2, spec_l02Boxes.j1, Bool.not_false]
          rw [if_pos trivial, if_neg (fun h => c2 h.2.2.1)]; rfl
      · rw [if_neg (by simpa using c1)]
        simp only [spec_l02Boxes.j1]
        rw [if_pos trivial, if_neg (fun h => c1 h.2.1)]; rfl
    · rw [if_neg c0]
      simp only [spec_l02Boxes.j1]
      rw [if_pos trivial, if_neg (fun h => c0 h.1)]; rfl
  · rw [if_neg (by omega), List.drop_eq_nil_of_le (by omega)]
    simp only [boxS, boxesS]
    by_cases c0 : (bx.length : Int) > 0
    · have hne : bx ≠ [] := by intro e; rw [e] at c0; simp at c0
      rw [if_pos c0, decide_eq_true hne, Bool.true_and]
      congr 1
    · have hne : ¬ bx ≠ [] := by intro e; exact e (List.length_eq_zero_iff.mp (by omega))
      rw [if_neg c0, decide_eq_false hne, Bool.false_and]
theorem boxes_eq (h : Int) (fx : List Int) (bx : List S71) (hl : bx.length ≤ 140737488351232) (k : Nat) (hk : 1100 < k) : spec_l02Boxes.f k h fx bx = some (boxesS h bx (boxS bx 0 [])) := by
  unfold spec_l02Boxes.f
  have := boxes_loop h fx bx hl 24 k 0 0 [] (by omega) (by omega) (by omega) (by omega) (by omega) (by omega) (by simp)
  exact this
theorem boxS_le : ∀ (bs : List S71) (low : Int) (ps : List Int) (e : Int), boxS bs low ps = some e → low ≤ e ∧ (bs.length : Int) ≤ e - low ∧ (low ≤ 24 → e ≤ 24)
  | [], low, ps, e, h => by simp [boxS] at h; subst h; exact ⟨by omega, by simp, id⟩
  | b :: bs, low, ps, e, h => by
    simp only [boxS] at h
    split at h
    · next hc =>
      obtain ⟨h1, h2, h3⟩ := boxS_le bs _ _ _ h
      exact ⟨by omega, by simp; omega, fun _ => h3 (by omega)⟩
    · simp at h
theorem boxP_S (h : Int) (hh : h ≤ 24) : ∀ (bs : List S71) (low : Int) (ls ps : List Int) (e : Int) (ls' : List Int), 0 ≤ low → boxP h bs low ls ps = some (e, ls') → boxS bs low ps = some e ∧ ∀ f, f ∈ ls' ↔ f ∈ ls ∨ f ∈ bs.map (fun b => b.f0)
  | [], low, ls, ps, e, ls', h0, hb => by
    simp only [boxP, Option.some.injEq, Prod.mk.injEq] at hb
    obtain ⟨rfl, rfl⟩ := hb
    exact ⟨rfl, fun f => by simp⟩
  | b :: bs, low, ls, ps, e, ls', h0, hb => by
    simp only [boxP] at hb
    split at hb
    · next hc =>
      obtain ⟨h1, h2⟩ := boxP_S h hh bs _ _ _ _ _ (by omega) hb
      refine ⟨?_, fun f => ?_⟩
      · simp only [boxS]
        rw [if_pos ⟨hc.1, ⟨hc.2.1.1, by omega⟩, hc.2.2.1, hc.2.2.2, by omega⟩]
        exact h1
      · rw [h2 f, List.mem_cons, List.map_cons, List.mem_cons]
        constructor
        · rintro ((h | h) | h)
          · exact Or.inr (Or.inl h)
          · exact Or.inl h
          · exact Or.inr (Or.inr h)
        · rintro (h | h | h)
          · exact Or.inl (Or.inr h)
          · exact Or.inl (Or.inl h)
          · exact Or.inr h
    · simp at hb
theorem boxS_P (h : Int) : ∀ (bs : List S71) (low : Int) (ls ps : List Int), boxS bs low ps = some h → ∃ ls', boxP h bs low ls ps = some (h, ls')
  | [], low, ls, ps, hb => by
    simp only [boxS, Option.some.injEq] at hb
    subst hb
    exact ⟨ls, rfl⟩
  | b :: bs, low, ls, ps, hb => by
    simp only [boxS] at hb
    split at hb
    · next hc =>
      have hle := (boxS_le bs _ _ _ hb).1
      obtain ⟨ls', h1⟩ := boxS_P h bs _ (b.f0 :: ls) _ hb
      refine ⟨ls', ?_⟩
      simp only [boxP]
      rw [if_pos ⟨hc.1, ⟨hc.2.1.1, by omega⟩, hc.2.2.1, hc.2.2.2.1⟩]
      exact h1
    · simp at hb
theorem colS_eq (h : Int) (fx : List Int) (bx : List S71) : (decide (1 ≤ h ∧ h ≤ 24) && (boxesS h bx (boxS bx 0 []) && (fixP h none fx && fx.all (fun f => decide (f ∈ bx.map (fun b => b.f0)))))) = colP h fx bx := by
  unfold colP
  by_cases hh : 1 ≤ h ∧ h ≤ 24
  · rw [decide_eq_true hh, Bool.true_and, Bool.true_and]
    cases hP : boxP h bx 0 [] [] with
    | none =>
      have hf : boxesS h bx (boxS bx 0 []) = false := by
        cases hS : boxS bx 0 [] with
        | none => rfl
        | some e =>
          by_cases c : e = h
          · subst c
            obtain ⟨ls', hl⟩ := boxS_P e bx 0 [] [] hS
            rw [hl] at hP; simp at hP
          · simp [boxesS, c]
      rw [hf]; simp
    | some z =>
      obtain ⟨e, ls⟩ := z
      obtain ⟨h1, h2⟩ := boxP_S h hh.2 bx 0 [] [] e ls (by omega) hP
      have ha : fx.all (fun f => decide (f ∈ bx.map (fun b => b.f0))) = fx.all (fun f => decide (f ∈ ls)) := by
        congr 1
        funext f
        rw [decide_eq_decide, h2 f]
        simp
      rw [h1, ha]
      simp only [boxesS]
      cases decide (bx ≠ []) <;> cases decide (e = h) <;> cases fixP h none fx <;> cases fx.all (fun f => decide (f ∈ ls)) <;> rfl
  · rw [decide_eq_false hh, Bool.false_and, Bool.false_and, Bool.false_and, Bool.false_and]
def fixS (h : Int) (L : List Int) : Option Int → List Int → Bool
  | _, [] => true
  | p, f :: fs => decide (1 ≤ f ∧ f ≤ h - 1) && (match p with | none => true | some q => decide (q < f)) && decide (f ∈ L) && fixS h L (some f) fs
theorem fixS_eq (h : Int) (L : List Int) : ∀ (fs : List Int) (p : Option Int), fixS h L p fs = (fixP h p fs && fs.all (fun f => decide (f ∈ L)))
  | [], p => rfl
  | f :: fs, p => by
    simp only [fixS, fixP, List.all_cons]
    rw [fixS_eq h L fs (some f)]
    ac_rfl
theorem drop_step {α : Type} {l : List α} {i : Nat} {b : α} {rest : List α} (d : α) (h : l.drop i = b :: rest) : i < l.length ∧ l.getD i d = b ∧ l.drop (i + 1) = rest := by
  have hi : i < l.length := by
    apply Classical.byContradiction
    intro c
    rw [List.drop_eq_nil_of_le (by omega)] at h
    cases h
  have h2 := drop_cons l d i hi
  rw [h] at h2
  injection h2 with h3 h4
  exact ⟨hi, h3.symm, h4.symm⟩
theorem drop_end {α : Type} {l : List α} {i : Nat} (h : l.drop i = []) (hi : i ≤ l.length) : i = l.length := by
  have := List.drop_eq_nil_iff.mp h
  omega
theorem found_ev (h : Int) (fx : List Int) (bx : List S71) (i : Nat) (hi : i < fx.length) (hi2 : i ≤ 140737488351232) (hl : bx.length ≤ 24) (s : Bool) (hs : Ev (fun k => spec_ColumnOk.l0 k ((i + 1 : Nat) : Int) h fx bx) s) :
    ∀ (rest : List S71) (j : Nat) (b : Bool), bx.drop j = rest → j ≤ bx.length → Ev (fun k => spec_ColumnOk.l1 k (i : Int) b (j : Int) h fx bx) (if (b || rest.any (fun x => decide (x.f0 = fx.getD i 0))) = true then s else false)
  | [], j, b, hd, hj => by
    refine Ev.succ ?_
    simp only [spec_ColumnOk.l1]
    have he := drop_end hd hj
    refine Ev.neg (by omega) ?_
    rw [List.any_nil, Bool.or_false, wsucc i (by omega)]
    exact Ev.ite (fun _ => hs) (fun _ => Ev.ret _)
  | x :: rest, j, b, hd, hj => by
    obtain ⟨h1, h2, h3⟩ := drop_step z71 hd
    refine Ev.succ ?_
    simp only [spec_ColumnOk.l1]
    refine Ev.pos (by omega) ?_
    rw [wsucc j (by omega), List.any_cons]
    cases b with
    | true =>
      refine Ev.pos rfl ?_
      refine (found_ev h fx bx i hi hi2 hl s hs rest (j + 1) true h3 (by omega)).to ?_
      rw [Bool.true_or, Bool.true_or]
    | false =>
      refine Ev.neg (by simp) ?_
      refine Ev.pos (by omega) ?_
      refine Ev.pos (by omega) ?_
      refine Ev.pos (by omega) ?_
      refine (found_ev h fx bx i hi hi2 hl s hs rest (j + 1) _ h3 (by omega)).to ?_
      rw [Bool.false_or]
      have e1 : rd_T71 bx (j : Int) = x := h2
      have e2 : rd fx (i : Int) = fx.getD i 0 := rfl
      rw [e1, e2]
      rfl
theorem prev_eq (fx : List Int) (i : Nat) : prevP fx ((i + 1 : Nat) : Int) = some (fx.getD i 0) := by
  unfold prevP
  rw [if_neg (by omega), show ((i + 1 : Nat) : Int) - 1 = (i : Int) by omega]
  rfl
theorem any_lows (f : Int) (bx : List S71) : (bx.any (fun x => decide (x.f0 = f))) = decide (f ∈ bx.map (fun b => b.f0)) := by
  rw [Bool.eq_iff_iff, List.any_eq_true, decide_eq_true_iff, List.mem_map]
  constructor
  · rintro ⟨x, hx, e⟩; exact ⟨x, hx, of_decide_eq_true e⟩
  · rintro ⟨x, hx, e⟩; exact ⟨x, hx, decide_eq_true e⟩
theorem fixed_ev (h : Int) (h0 : 1 ≤ h) (h1 : h ≤ 24) (fx : List Int) (hx : fx.length ≤ 140737488351232) (bx : List S71) (hl : bx.length ≤ 24) :
    ∀ (rest : List Int) (i : Nat), fx.drop i = rest → i ≤ fx.length → Ev (fun k => spec_ColumnOk.l0 k (i : Int) h fx bx) (fixS h (bx.map (fun b => b.f0)) (prevP fx (i : Int)) rest)
  | [], i, hd, hj => by
    refine Ev.succ ?_
    simp only [spec_ColumnOk.l0]
    have he := drop_end hd hj
    refine Ev.neg (by omega) ?_
    exact Ev.ret _
  | f :: rest, i, hd, hj => by
    obtain ⟨h2, h3, h4⟩ := drop_step 0 hd
    have ih := fixed_ev h h0 h1 fx hx bx hl rest (i + 1) h4 (by omega)
    have hf := found_ev h fx bx i h2 (by omega) hl _ ih bx 0 false rfl (by omega)
    rw [Bool.false_or, any_lows, h3, prev_eq, h3] at hf
    have er : rd fx (i : Int) = f := h3
    have go : ∀ (b : Bool), Ev (fun k => spec_ColumnOk.j2 k (i : Int) b h fx bx) (if b = true then false else if decide (f ∈ bx.map (fun b => b.f0)) = true then fixS h (bx.map (fun b => b.f0)) (some f) rest else false) := by
      intro b
      refine Ev.succ ?_
      simp only [spec_ColumnOk.j2]
      exact Ev.ite (fun _ => Ev.ret _) (fun _ => hf)
    refine Ev.succ ?_
    simp only [spec_ColumnOk.l0]
    refine Ev.pos (by omega) ?_
    refine Ev.pos (by omega) ?_
    rw [er, wid (h - 1) (by omega) (by omega)]
    refine Ev.bind (Ev.const (in_eq _ _ _)) ?_
    simp only [fixS]
    by_cases c1 : 1 ≤ f ∧ f ≤ h - 1
    · refine Ev.pos (decide_eq_true c1) ?_
      rw [decide_eq_true c1, Bool.true_and]
      by_cases c2 : (i : Int) > 0
      · have hp : prevP fx (i : Int) = some (fx.getD (i - 1) 0) := by
          have := prev_eq fx (i - 1)
          rwa [show i - 1 + 1 = i by omega] at this
        have e2 : rd fx ((i - 1 : Nat) : Int) = fx.getD (i - 1) 0 := rfl
        refine Ev.pos c2 ?_
        rw [wpred i (by omega) (by omega), hp, e2]
        refine Ev.pos (by omega) ?_
        refine Ev.pos (by omega) ?_
        refine (go _).to ?_
        by_cases c3 : f ≤ fx.getD (i - 1) 0
        · rw [if_pos (decide_eq_true c3)]
          simp only [decide_eq_false (show ¬ fx.getD (i - 1) 0 < f by omega), Bool.false_and]
        · rw [if_neg (by simpa using c3)]
          simp only [decide_eq_true (show fx.getD (i - 1) 0 < f by omega), Bool.true_and]
          cases decide (f ∈ bx.map (fun b => b.f0)) <;> simp
      · have hp : prevP fx (i : Int) = none := by unfold prevP; rw [if_pos (by omega)]
        refine Ev.neg c2 ?_
        refine (go _).to ?_
        rw [hp]
        cases decide (f ∈ bx.map (fun b => b.f0)) <;> simp
    · refine Ev.neg (by simpa using c1) ?_
      refine (go _).to ?_
      rw [if_pos rfl, decide_eq_false c1]
      simp only [Bool.false_and]
theorem colok_ev (h : Int) (fx : List Int) (hx : fx.length ≤ 140737488351232) (bx : List S71) (hl : bx.length ≤ 140737488351232) : Ev (fun k => spec_ColumnOk.f k h fx bx) (colP h fx bx) := by
  refine Ev.of_eq ?_ (fun k => by unfold spec_ColumnOk.f; rfl)
  refine Ev.bind (Ev.const (in_eq _ _ _)) ?_
  rw [← colS_eq, ← fixS_eq]
  by_cases hh : 1 ≤ h ∧ h ≤ 24
  · refine Ev.pos (decide_eq_true hh) ?_
    refine Ev.bind (Ev.mk 1100 (fun k hk => boxes_eq h fx bx hl k hk)) ?_
    rw [decide_eq_true hh, Bool.true_and]
    refine Ev.succ ?_
    simp only [spec_ColumnOk.j0]
    cases hS : boxS bx 0 [] with
    | none =>
      refine Ev.pos (by simp [boxesS]) ?_
      exact Ev.ret _
    | some e =>
      by_cases hb : boxesS h bx (some e) = true
      · rw [hb]
        have hle := boxS_le bx 0 [] e hS
        have he : e ≤ 24 := hle.2.2 (by omega)
        refine Ev.neg (by simp) ?_
        exact fixed_ev h hh.1 hh.2 fx hx bx (by omega) fx 0 rfl (by omega)
      · have hb2 : boxesS h bx (some e) = false := by simpa using hb
        rw [hb2]
        refine Ev.pos (by simp) ?_
        exact Ev.ret _
  · refine Ev.neg (by simpa using hh) ?_
    rw [decide_eq_false hh, Bool.false_and]
    refine Ev.succ ?_
    simp only [spec_ColumnOk.j0]
    refine Ev.pos (by simp) ?_
    exact Ev.ret _
end Go.Proofs.Ytghfeapncmlihaa.A

namespace Go.Proofs.Ytghfeapncmlihaa.A
open Go.RowKit Go.Proofs.YtghfeapncmlihaaW.PrintWords Go.Proofs.YtghfeapncmlihaaW.PrintLast Go.Proofs.YtghfeapncmlihaaW.PrintMore
set_option linter.unusedVariables false
set_option linter.unusedSimpArgs false
def opB (b : S71) : Bool := decide (b.f2 = 0) && !b.f3
def sumB (l : List S71) : Int := (l.map (fun b => b.f1)).foldr (· + ·) 0
theorem sumB_nil : sumB [] = 0 := rfl
theorem sumB_cons (b : S71) (l : List S71) : sumB (b :: l) = b.f1 + sumB l := rfl
theorem sumB_app (a b : List S71) : sumB (a ++ b) = sumB a + sumB b := by
  induction a with
  | nil => simp [sumB_nil]
  | cons x a ih => rw [List.cons_append, sumB_cons, sumB_cons, ih]; omega
def tile : Int → List S71 → Int → Prop
  | lo, [], hi => lo = hi
  | lo, b :: bs, hi => b.f0 = lo ∧ 1 ≤ b.f1 ∧ tile (lo + b.f1) bs hi
theorem tile_sum : ∀ (bs : List S71) (lo hi : Int), tile lo bs hi → lo + sumB bs = hi ∧ lo + bs.length ≤ hi
  | [], lo, hi, h => by simp only [tile] at h; subst h; simp [sumB_nil]
  | b :: bs, lo, hi, h => by
    obtain ⟨_, h1, h2⟩ := h
    have := tile_sum bs _ _ h2
    rw [sumB_cons, List.length_cons]
    omega
theorem tile_mem : ∀ (bs : List S71) (lo hi : Int), tile lo bs hi → ∀ b ∈ bs, lo ≤ b.f0 ∧ 1 ≤ b.f1 ∧ b.f0 + b.f1 ≤ hi
  | [], _, _, _, b, hb => absurd hb (by simp)
  | x :: bs, lo, hi, h, b, hb => by
    obtain ⟨h0, h1, h2⟩ := h
    have h3 := tile_sum bs _ _ h2
    rcases List.mem_cons.mp hb with rfl | hb
    · omega
    · have := tile_mem bs _ _ h2 b hb
      omega
def gapR : List S71 → S54
  | [] => ⟨0, 0, 0⟩
  | b :: bs => ⟨0, b.f0, sumB (b :: bs)⟩
def emR (cur : List S71) : List S54 := if cur = [] then [] else [gapR cur]
def gapsW (fx : List Int) : List S71 → List S71 → List S54
  | cur, [] => emR cur
  | cur, b :: bs => if opB b = true then (if cur ≠ [] ∧ b.f0 ∉ fx then gapsW fx (cur ++ [b]) bs else emR cur ++ gapsW fx [b] bs) else emR cur ++ gapsW fx [] bs
def gapsB (fx : List Int) (bx : List S71) : List S54 := gapsW fx [] bx
def emD (pre cur bs : List S71) : List (List S71 × List S71 × List S71) := if cur = [] then [] else [(pre, cur, bs)]
def decs (fx : List Int) : List S71 → List S71 → List S71 → List (List S71 × List S71 × List S71)
  | pre, cur, [] => emD pre cur []
  | pre, cur, b :: bs => if opB b = true then (if cur ≠ [] ∧ b.f0 ∉ fx then decs fx pre (cur ++ [b]) bs else emD pre cur (b :: bs) ++ decs fx (pre ++ cur) [b] bs) else emD pre cur (b :: bs) ++ decs fx (pre ++ cur ++ [b]) [] bs
theorem emD_gap (pre cur bs : List S71) : (emD pre cur bs).map (fun d => gapR d.2.1) = emR cur := by
  unfold emD emR; split <;> rfl
theorem decs_gaps (fx : List Int) : ∀ (bs pre cur : List S71), (decs fx pre cur bs).map (fun d => gapR d.2.1) = gapsW fx cur bs
  | [], pre, cur => emD_gap pre cur []
  | b :: bs, pre, cur => by
    simp only [decs, gapsW]
    split
    · split
      · exact decs_gaps fx bs _ _
      · rw [List.map_append, emD_gap, decs_gaps fx bs]
    · rw [List.map_append, emD_gap, decs_gaps fx bs]
def Shut (fx : List Int) (A : List S71) : Prop := ∀ Z, gapsW fx [] (A ++ Z) = gapsW fx [] A ++ gapsW fx [] Z
def ShutAt (fx : List Int) (A : List S71) (lo : Int) : Prop := ∀ z Z, z.f0 = lo → gapsW fx [] (A ++ z :: Z) = gapsW fx [] A ++ gapsW fx [] (z :: Z)
theorem Shut.at {fx : List Int} {A : List S71} (h : Shut fx A) (lo : Int) : ShutAt fx A lo := fun z Z _ => h (z :: Z)
def parcs (ps : List Int) : List S71 → Prop
  | [] => True
  | b :: bs => (0 ≤ b.f2 ∧ b.f2 ≤ 999) ∧ ¬ (0 < b.f2 ∧ b.f2 ∈ ps) ∧ parcs (b.f2 :: ps) bs
theorem boxS_iff : ∀ (bs : List S71) (low : Int) (ps : List Int) (e : Int), 0 ≤ low → low ≤ 24 → (boxS bs low ps = some e ↔ tile low bs e ∧ e ≤ 24 ∧ parcs ps bs)
  | [], low, ps, e, h0, h => by
    simp only [boxS, tile, parcs, Option.some.injEq]
    constructor
    · rintro rfl; exact ⟨rfl, h, trivial⟩
    · rintro ⟨h, _⟩; exact h
  | b :: bs, low, ps, e, hn, h => by
    simp only [boxS, tile, parcs]
    constructor
    · intro hs
      split at hs
      · next hc =>
        obtain ⟨h1, h2, h3⟩ := (boxS_iff bs _ _ e (by omega) hc.2.2.2.2).mp hs
        exact ⟨⟨hc.1, hc.2.1.1, h1⟩, h2, hc.2.2.1, hc.2.2.2.1, h3⟩
      · cases hs
    · rintro ⟨⟨h0, h1, h2⟩, h3, h4, h5, h6⟩
      have hs := tile_sum _ _ _ h2
      rw [if_pos ⟨h0, ⟨h1, by omega⟩, h4, h5, by omega⟩]
      exact (boxS_iff bs _ _ e (by omega) (by omega)).mpr ⟨h2, h3, h6⟩
structure ColV (h : Int) (fx : List Int) (bx : List S71) : Prop where
  hi : 1 ≤ h ∧ h ≤ 24
  til : tile 0 bx h
  par : parcs [] bx
  fix : fixP h none fx = true
  low : ∀ f ∈ fx, ∃ b ∈ bx, b.f0 = f
theorem colP_iff (h : Int) (fx : List Int) (bx : List S71) : colP h fx bx = true ↔ ColV h fx bx := by
  rw [← colS_eq]
  constructor
  · intro e
    simp only [Bool.and_eq_true, decide_eq_true_eq] at e
    obtain ⟨e1, e2, e3, e4⟩ := e
    cases hS : boxS bx 0 [] with
    | none => rw [hS] at e2; simp [boxesS] at e2
    | some x =>
      rw [hS] at e2
      simp only [boxesS, Bool.and_eq_true, decide_eq_true_eq] at e2
      obtain ⟨_, rfl⟩ := e2
      obtain ⟨t1, t2, t3⟩ := (boxS_iff bx 0 [] x (by omega) (by omega)).mp hS
      refine ⟨e1, t1, t3, e3, fun f hf => ?_⟩
      have := List.all_eq_true.mp e4 f hf
      simp only [decide_eq_true_eq, List.mem_map] at this
      exact this
  · intro v
    have hS := (boxS_iff bx 0 [] h (by omega) (by omega)).mpr ⟨v.til, v.hi.2, v.par⟩
    have hne : bx ≠ [] := by
      intro e
      have := v.til
      rw [e] at this
      simp only [tile] at this
      have := v.hi
      omega
    simp only [Bool.and_eq_true, decide_eq_true_eq]
    refine ⟨v.hi, ?_, v.fix, ?_⟩
    · rw [hS]; simp [boxesS, hne]
    · exact List.all_eq_true.mpr (fun f hf => by simp only [decide_eq_true_eq, List.mem_map]; exact v.low f hf)
theorem ColV.len {h : Int} {fx : List Int} {bx : List S71} (v : ColV h fx bx) : bx.length ≤ 24 := by
  have := tile_sum _ _ _ v.til
  have := v.hi
  omega
theorem ColV.mem {h : Int} {fx : List Int} {bx : List S71} (v : ColV h fx bx) {b : S71} (hb : b ∈ bx) : 0 ≤ b.f0 ∧ 1 ≤ b.f1 ∧ b.f0 + b.f1 ≤ 24 := by
  have := tile_mem _ _ _ v.til b hb
  have := v.hi
  omega
theorem parcs_iff : ∀ (bs : List S71) (ps : List Int), parcs ps bs ↔ (∀ b ∈ bs, 0 ≤ b.f2 ∧ b.f2 ≤ 999) ∧ (∀ b ∈ bs, 0 < b.f2 → b.f2 ∉ ps) ∧ bs.Pairwise (fun a b => 0 < b.f2 → a.f2 ≠ b.f2)
  | [], ps => by simp [parcs]
  | b :: bs, ps => by
    simp only [parcs]
    rw [parcs_iff bs]
    constructor
    · rintro ⟨h1, h2, h3, h4, h5⟩
      refine ⟨fun x hx => ?_, fun x hx h0 => ?_, List.pairwise_cons.mpr ⟨fun x hx h0 e => h4 x hx h0 (by rw [← e]; simp), h5⟩⟩
      · rcases List.mem_cons.mp hx with rfl | hx
        · exact h1
        · exact h3 x hx
      · rcases List.mem_cons.mp hx with rfl | hx
        · exact fun hm => h2 ⟨h0, hm⟩
        · exact fun hm => h4 x hx h0 (by simp [hm])
    · rintro ⟨h1, h2, h3⟩
      obtain ⟨h4, h5⟩ := List.pairwise_cons.mp h3
      refine ⟨h1 b (by simp), fun h => h2 b (by simp) h.1 h.2, fun x hx => h1 x (by simp [hx]), fun x hx h0 hm => ?_, h5⟩
      rcases List.mem_cons.mp hm with e | hm
      · exact h4 x hx h0 e.symm
      · exact h2 x (by simp [hx]) h0 hm
def leastW (size : Int) : Option S54 → List S54 → Option S54
  | best, [] => best
  | best, g :: l => if size ≤ g.f2 ∧ (∀ b ∈ best, g.f2 < b.f2) then leastW size (some g) l else leastW size best l
def leastP (size : Int) (l : List S54) : Option S54 := if size < 1 then none else leastW size none l
theorem leastW_some (size : Int) : ∀ (l : List S54) (b : S54), size ≤ b.f2 → 
    (leastW size (some b) l = some b ∧ ∀ x ∈ l, x.f2 < size ∨ b.f2 ≤ x.f2) ∨ ∃ l1 g l2, l = l1 ++ g :: l2 ∧ leastW size (some b) l = some g ∧ size ≤ g.f2 ∧ g.f2 < b.f2 ∧ (∀ x ∈ l1, x.f2 < size ∨ g.f2 < x.f2) ∧ ∀ x ∈ l2, x.f2 < size ∨ g.f2 ≤ x.f2
  | [], b, hb => Or.inl ⟨rfl, by simp⟩
  | y :: l, b, hb => by
    simp only [leastW, Option.mem_def, Option.some.injEq, forall_eq']
    by_cases c : size ≤ y.f2 ∧ y.f2 < b.f2
    · rw [if_pos c]
      right
      rcases leastW_some size l y c.1 with ⟨h1, h2⟩ | ⟨l1, g, l2, h0, h1, h2, h3, h4, h5⟩
      · exact ⟨[], y, l, rfl, h1, c.1, c.2, by simp, h2⟩
      · exact ⟨y :: l1, g, l2, by rw [h0]; rfl, h1, h2, by omega, fun x hx => by
          rcases List.mem_cons.mp hx with rfl | hx
          · exact Or.inr h3
          · exact h4 x hx, h5⟩
    · rw [if_neg c]
      rcases leastW_some size l b hb with ⟨h1, h2⟩ | ⟨l1, g, l2, h0, h1, h2, h3, h4, h5⟩
      · left
        exact ⟨h1, fun x hx => by
          rcases List.mem_cons.mp hx with rfl | hx
          · omega
          · exact h2 x hx⟩
      · right
        exact ⟨y :: l1, g, l2, by rw [h0]; rfl, h1, h2, h3, fun x hx => by
          rcases List.mem_cons.mp hx with rfl | hx
          · omega
          · exact h4 x hx, h5⟩
theorem leastW_none (size : Int) : ∀ (l : List S54),
    (leastW size none l = none ∧ ∀ x ∈ l, x.f2 < size) ∨ ∃ l1 g l2, l = l1 ++ g :: l2 ∧ leastW size none l = some g ∧ size ≤ g.f2 ∧ (∀ x ∈ l1, x.f2 < size ∨ g.f2 < x.f2) ∧ ∀ x ∈ l2, x.f2 < size ∨ g.f2 ≤ x.f2
  | [] => Or.inl ⟨rfl, by simp⟩
  | y :: l => by
    simp only [leastW]
    by_cases c : size ≤ y.f2
    · rw [if_pos ⟨c, fun b hb => by cases hb⟩]
      right
      rcases leastW_some size l y c with ⟨h1, h2⟩ | ⟨l1, g, l2, h0, h1, h2, h3, h4, h5⟩
      · exact ⟨[], y, l, rfl, h1, c, by simp, h2⟩
      · exact ⟨y :: l1, g, l2, by rw [h0]; rfl, h1, h2, fun x hx => by
          rcases List.mem_cons.mp hx with rfl | hx
          · exact Or.inr h3
          · exact h4 x hx, h5⟩
    · rw [if_neg (fun h => c h.1)]
      rcases leastW_none size l with ⟨h1, h2⟩ | ⟨l1, g, l2, h0, h1, h2, h4, h5⟩
      · left
        exact ⟨h1, fun x hx => by
          rcases List.mem_cons.mp hx with rfl | hx
          · omega
          · exact h2 x hx⟩
      · right
        exact ⟨y :: l1, g, l2, by rw [h0]; rfl, h1, h2, fun x hx => by
          rcases List.mem_cons.mp hx with rfl | hx
          · omega
          · exact h4 x hx, h5⟩
end Go.Proofs.Ytghfeapncmlihaa.A

namespace Go.Proofs.Ytghfeapncmlihaa.A
open Go.RowKit Go.Proofs.YtghfeapncmlihaaW.PrintWords Go.Proofs.YtghfeapncmlihaaW.PrintLast Go.Proofs.YtghfeapncmlihaaW.PrintMore
set_option linter.unusedVariables false
set_option linter.unusedSimpArgs false
def toI_Box (b : S93) : S71 := ⟨b.f0, b.f1, b.f2, b.f3⟩
theorem toIntS_ev (l : List Int) (hl : l.length ≤ 1048576) : Ev (fun k => laws_toIntS.f k l) l := Ev.mk l.length (fun k hk => by
  unfold laws_toIntS.f
  rw [if_pos (by omega), if_pos (by omega)]
  refine (map_loop (L := fun k acc i => laws_toIntS.l0 k l acc i) (xs := l) (g := id) 0 (fun k acc i hi ha => ?_) (fun k acc => ?_) l.length k _ 0 (by omega) hk (by simp) (fun j hj => by omega)).trans (by rw [List.map_id])
  · simp only [laws_toIntS.l0]
    rw [if_pos (by omega), if_pos (by omega), if_pos (by omega), wsucc i (by omega)]
    rfl
  · simp only [laws_toIntS.l0]
    rw [if_neg (by omega)])
theorem toBoxS_ev (l : List S93) (hl : l.length ≤ 1048576) : Ev (fun k => laws_toBoxS.f k l) (l.map toI_Box) := Ev.mk l.length (fun k hk => by
  unfold laws_toBoxS.f
  rw [if_pos (by omega), if_pos (by omega)]
  refine map_loop (L := fun k acc i => laws_toBoxS.l0 k l acc i) z93 (fun k acc i hi ha => ?_) (fun k acc => ?_) l.length k _ 0 (by omega) hk (by simp) (fun j hj => by omega)
  · simp only [laws_toBoxS.l0]
    rw [if_pos (by omega), if_pos (by omega)]
    simp only [laws_toBox.f, Option.bind_some]
    rw [if_pos (by omega), wsucc i (by omega)]
    rfl
  · simp only [laws_toBoxS.l0]
    rw [if_neg (by omega)])
theorem toColumn_ev (h : Int) (fx : List Int) (bx : List S93) (hf : fx.length ≤ 1048576) (hb : bx.length ≤ 1048576) : Ev (fun k => laws_toColumn.f k h fx bx) (h, fx, bx.map toI_Box) := by
  unfold laws_toColumn.f
  exact Ev.bind (toIntS_ev fx hf) (Ev.bind (toBoxS_ev bx hb) (Ev.ret _))
theorem szColumn_eq (h : Int) (fx : List Int) (bx : List S93) (a : Int) (h0 : 0 ≤ a) (h1 : a ≤ 1048576) (hf : fx.length ≤ 9223372036854775807) (hb : bx.length ≤ 9223372036854775807) : laws_szColumn.f h fx bx a = some (if a < fx.length + bx.length then -1 else a - fx.length - bx.length) := by
  unfold laws_szColumn.f laws_szIntS.f laws_szBoxS.f
  rw [wid (a - (fx.length : Int)) (by omega) (by omega)]
  by_cases c : a - (fx.length : Int) < 0
  · rw [if_pos c]
    simp only [Option.bind_some]
    rw [if_pos (by omega), if_pos (by omega)]
  · rw [if_neg c]
    simp only [Option.bind_some]
    rw [if_neg c, wid (a - (fx.length : Int) - (bx.length : Int)) (by omega) (by omega)]
    by_cases d : a - (fx.length : Int) - (bx.length : Int) < 0
    · rw [if_pos d]
      simp only [Option.bind_some]
      rw [if_pos (by omega), if_pos (by omega)]
    · rw [if_neg d]
      simp only [Option.bind_some]
      rw [if_neg d, if_neg (by omega)]
theorem eqIntS_ev (l : List Int) (hl : l.length ≤ 1048576) : Ev (fun k => laws_eqIntS.f k l l) true := Ev.mk l.length (fun k hk => by
  unfold laws_eqIntS.f
  rw [if_pos rfl]
  have h := all_loop (L := fun k i => laws_eqIntS.l0 k l l i) (n := l.length) (P := fun _ => true) (fun k i hi => ?_) (fun k => ?_) l.length k 0 (by omega) hk
  · have e : (List.range' 0 l.length).all (fun _ => true) = true := by simp
    rw [e] at h
    exact h
  · simp only [laws_eqIntS.l0]
    rw [if_pos (by omega), if_pos (by omega), if_pos (by omega)]
    simp only [if_true]
    rw [wsucc i (by omega)]
  · simp only [laws_eqIntS.l0]
    rw [if_neg (by omega)])
theorem eqBoxS_ev (l : List S71) (hl : l.length ≤ 1048576) : Ev (fun k => laws_eqBoxS.f k l l) true := Ev.mk l.length (fun k hk => by
  unfold laws_eqBoxS.f
  rw [if_pos rfl]
  have h := all_loop (L := fun k i => laws_eqBoxS.l0 k l l i) (n := l.length) (P := fun _ => true) (fun k i hi => ?_) (fun k => ?_) l.length k 0 (by omega) hk
  · have e : (List.range' 0 l.length).all (fun _ => true) = true := by simp
    rw [e] at h
    exact h
  · simp only [laws_eqBoxS.l0]
    rw [if_pos (by omega), if_pos (by omega), if_pos (by omega)]
    simp only [laws_eqBox.f, bne_self_eq_false, Bool.false_eq_true, if_false, if_true, Option.bind_some]
    rw [wsucc i (by omega)]
  · simp only [laws_eqBoxS.l0]
    rw [if_neg (by omega)])
theorem eqColumn_ev (h : Int) (fx : List Int) (bx : List S71) (hf : fx.length ≤ 1048576) (hb : bx.length ≤ 1048576) : Ev (fun k => laws_eqColumn.f k h fx bx h fx bx) true := by
  unfold laws_eqColumn.f
  refine Ev.pos rfl ?_
  refine Ev.bind (eqIntS_ev fx hf) ?_
  refine Ev.pos rfl ?_
  refine Ev.bind (eqBoxS_ev bx hb) ?_
  refine Ev.pos rfl ?_
  exact Ev.ret _
end Go.Proofs.Ytghfeapncmlihaa.A

namespace Go.Proofs.Ytghfeapncmlihaa.A
open Go.RowKit Go.Proofs.YtghfeapncmlihaaW.PrintWords Go.Proofs.YtghfeapncmlihaaW.PrintLast Go.Proofs.YtghfeapncmlihaaW.PrintMore
attribute [local go_sem] max2_int min2_int max_two min_two max_three min_three max_four min_four   
set_option linter.unusedVariables false
set_option linter.unusedSimpArgs false
def idxP : List S71 → Int → Int → Int
  | [], _, _ => -1
  | b :: bs, p, i => if b.f2 = p then i else idxP bs p (i + 1)
end Go.Proofs.Ytghfeapncmlihaa.A

namespace Go.Proofs.Ytghfeapncmlihaa.A
open Go.RowKit Go.Proofs.YtghfeapncmlihaaW.PrintWords Go.Proofs.YtghfeapncmlihaaW.PrintLast Go.Proofs.YtghfeapncmlihaaW.PrintMore
set_option linter.unusedVariables false
set_option linter.unusedSimpArgs false
theorem idxP_add : ∀ (l : List S71) (p i : Int), 0 ≤ i → (idxP l p i = -1 ∧ ∀ b ∈ l, b.f2 ≠ p) ∨ ∃ l1 b l2, l = l1 ++ b :: l2 ∧ b.f2 = p ∧ (∀ x ∈ l1, x.f2 ≠ p) ∧ idxP l p i = i + l1.length
  | [], p, i, _ => Or.inl ⟨rfl, by simp⟩
  | b :: l, p, i, hi => by
    simp only [idxP]
    by_cases c : b.f2 = p
    · rw [if_pos c]
      exact Or.inr ⟨[], b, l, rfl, c, by simp, by simp⟩
    · rw [if_neg c]
      rcases idxP_add l p (i + 1) (by omega) with ⟨h1, h2⟩ | ⟨l1, x, l2, h1, h2, h3, h4⟩
      · exact Or.inl ⟨h1, fun y hy => by
          rcases List.mem_cons.mp hy with rfl | hy
          · exact c
          · exact h2 y hy⟩
      · refine Or.inr ⟨b :: l1, x, l2, by rw [h1]; rfl, h2, fun y hy => ?_, by rw [h4, List.length_cons]; omega⟩
        rcases List.mem_cons.mp hy with rfl | hy
        · exact c
        · exact h3 y hy
theorem idxP_cases (l : List S71) (p : Int) : (idxP l p 0 = -1 ∧ ∀ b ∈ l, b.f2 ≠ p) ∨ ∃ l1 b l2, l = l1 ++ b :: l2 ∧ b.f2 = p ∧ (∀ x ∈ l1, x.f2 ≠ p) ∧ idxP l p 0 = l1.length := by
  rcases idxP_add l p 0 (Int.le_refl _) with h | ⟨l1, b, l2, h1, h2, h3, h4⟩
  · exact Or.inl h
  · exact Or.inr ⟨l1, b, l2, h1, h2, h3, by rw [h4]; omega⟩
def boxI (l : List S71) (p : Int) : Int := if 0 < p then idxP l p 0 else -1
theorem box_loop (h : Int) (fx : List Int) (bx : List S71) (hl : bx.length ≤ 1048576) (p : Int) : ∀ (rest : List S71) (i : Nat), bx.drop i = rest → i ≤ bx.length → Ev (fun k => spec_l02Box.l0 k p (i : Int) h fx bx) (if 0 < p then idxP rest p (i : Int) else -1)
  | [], i, hd, hi => by
    have he := drop_end hd hi
    refine Ev.succ ?_
    simp only [spec_l02Box.l0]
    refine Ev.neg (by omega) ?_
    refine Ev.to (Ev.ret _) ?_
    simp [idxP]
  | b :: rest, i, hd, hi => by
    obtain ⟨h1, h2, h3⟩ := drop_step z71 hd
    have er : rd_T71 bx (i : Int) = b := h2
    have ih := box_loop h fx bx hl p rest (i + 1) h3 (by omega)
    refine Ev.succ ?_
    simp only [spec_l02Box.l0, er]
    refine Ev.pos (by omega) ?_
    refine Ev.pos (by omega) ?_
    rw [wsucc i (by omega)]
    by_cases c : b.f2 = p
    · refine Ev.pos c ?_
      by_cases d : p > 0
      · refine Ev.pos d (Ev.to (Ev.ret _) ?_)
        rw [if_pos d]
        simp only [idxP]
        rw [if_pos c]
      · refine Ev.neg d (Ev.to ih ?_)
        rw [if_neg d, if_neg d]
    · refine Ev.neg c (Ev.to ih ?_)
      simp only [idxP]
      rw [if_neg c]
      rfl
theorem box_ev (h : Int) (fx : List Int) (bx : List S71) (hl : bx.length ≤ 1048576) (p : Int) : Ev (fun k => spec_l02Box.f k h fx bx p) (boxI bx p) := by
  unfold spec_l02Box.f
  exact box_loop h fx bx hl p bx 0 rfl (by omega)
end Go.Proofs.Ytghfeapncmlihaa.A
