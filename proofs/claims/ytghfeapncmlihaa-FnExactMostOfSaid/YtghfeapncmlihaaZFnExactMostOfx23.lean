/- What the proof of the law FnExactMostOf uses: lemmas, the Lean functions of the Go functions that it reaches, their contracts, and the pure statement's proof. -/
import Derived.Test.YtghfeapncmlihaaZFnExactMostOfx11
import Derived.Test.YtghfeapncmlihaaZFnExactMostOfx14
import Derived.Test.YtghfeapncmlihaaZFnExactMostOfx18
import Derived.Test.YtghfeapncmlihaaZFnExactMostOfx21
import Derived.Test.YtghfeapncmlihaaZFnExactMostOfx22
import Derived.ProofKit
import Derived.OpenShut
import Derived.ShutString
import Derived.ChangeOld
import Derived.SizedLaws
import Derived.ChangeArms
import Derived.Test.YtghfeapncmlihaaZFnExactMostOfx13
import Derived.Test.YtghfeapncmlihaaZFnExactMostOfx17
import Derived.Test.YtghfeapncmlihaaZFnExactMostOfx12
namespace Go.Proofs.Ytghfeapncmlihaa.A
open Go.RowKit Go.Proofs.YtghfeapncmlihaaW.PrintWords Go.Proofs.YtghfeapncmlihaaW.PrintLast Go.Proofs.YtghfeapncmlihaaW.PrintMore
attribute [local go_sem] max2_int min2_int max_two min_two max_three min_three max_four min_four   
set_option linter.unusedVariables false
set_option linter.unusedSimpArgs false
mutual
def impl_bankGaps.l0 : Nat → List (S54) → List (S30) → Int → Int → Option ((List (S54)))
  | 0, _, _, _, _ => none
  | k + 1, x3, x9, x10, x11 => if x11 < x10 then (if 0 ≤ x11 then (if x11 < (x9.length : Int) then ((impl_runsOf.f k ((rd_T30 x9 x11).f0) ((rd_T30 x9 x11).f1) ((rd_T30 x9 x11).f2)).bind fun t772 => (impl_bankGaps.l1 k x3 x11 x9 x10 x11 t772 (t772.length : Int) 0)) else (none)) else (none)) else (some x3)
def impl_bankGaps.l1 : Nat → List (S54) → Int → List (S30) → Int → Int → List (S85) → Int → Int → Option ((List (S54)))
  | 0, _, _, _, _, _, _, _, _ => none
  | k + 1, x3, x4, x9, x10, x11, x17, x18, x19 => if x19 < x18 then (if 0 ≤ x19 then (if x19 < (x17.length : Int) then (if x3.length < 5864062014805 then (impl_bankGaps.l1 k (x3 ++ [(⟨x4, (rd_T85 x17 x19).f0.f1, (rd_T85 x17 x19).f0.f2⟩ : S54)]) x4 x9 x10 x11 x17 x18 (wrap64 (x19 + 1))) else (none)) else (none)) else (none)) else (impl_bankGaps.l0 k x3 x9 x10 (wrap64 (x11 + 1)))
end
def impl_bankGaps.f (k : Nat) (l0 : List (S30)) : Option ((List (S54))) := impl_bankGaps.l0 k ([] : List (S54)) l0 (l0.length : Int) 0
set_option maxHeartbeats 8000000 in
set_option maxRecDepth 100000 in
theorem impl_bankGaps.calls (k : Nat) (A0 : Option Addr) (c0 : Nat) (l0 : List (S30)) (r : List (S54)) (w : World) (hr0 : Kd.C k30 w A0 l0.length l0) (hc0 : l0.length ≤ c0) (h : impl_bankGaps.f k l0 = some r) :
    Calls Try.prog 94 #[.slice A0 l0.length c0] w fun e w' => ∃ v0_ : Value, e = .returned (v0_) ∧ Kd.R k54 54 w' w.heap.size (fun _ => True) v0_ r ∧ Below w.heap.size w w' := by
  have hu30 := Try.underlying30
  have hu85 := Try.underlying85
  have hu54 := Try.underlying54
  have HR0 := Aside0.mk hr0
  have HC0 := Aside0.mk hc0
  clear hr0 hc0
  have HB := Aside0.mk (Below.refl w.heap.size w)
  have H : (impl_bankGaps.l0 k ([] : List (S54)) l0 (l0.length : Int) 0) = some r := h
  clear h
  have H' := Aside0.mk H
  clear H
  go_enter Try.func94, Try.ntmps94
  go_wp2
  go_loopg [3, 11] k (fun kq v3 v11 w' => ∃ (x3_1 : List (S54)) (x11_1 : Int), v11 = .int .i64 x11_1 ∧ Aside0 (impl_bankGaps.l0 kq x3_1 l0 (l0.length : Int) x11_1 = some r) ∧ Aside0 (kq ≤ k) ∧ Aside0 (Kd.R k54 54 w' w.heap.size (fun _ => True) v3 x3_1) ∧ Aside0 (Below w.heap.size w w'))
  case atStart => exact ⟨(([] : List (S54))), (0), (by first | rfl | (simp; done) | (simp [*]; done)), H', ⟨Nat.le_refl _⟩, ⟨by first | exact Kd.R_nil _ _ _ _ _ | exact Kd.N_nil _ _ _ _ _ | exact Kd.V_nil _ _ _ _ _ | exact Kd.Q_nil _ _ _ _ _ | exact Kd.S_nil _ _ _ _ _⟩, ⟨by repeat (first | (with_reducible first | exact HB.out | apply below_alloc | apply pw_below_drewN | apply below_drew1) | exact HB.out)⟩⟩
  case round =>
    clear H'
    obtain ⟨x3_1, x11_1, rfl, HA, HK1, HO_3, HB⟩ := hrel
    cases gk with
    | zero => exact absurd HA.out (by simp [impl_bankGaps.l0])
    | succ k1 =>
      have H := HA.out
      clear HA
      simp only [impl_bankGaps.l0] at H
      by_cases c2 : x11_1 < (l0.length : Int)
      · rw [if_pos c2] at H
        have c2b0 : decide (x11_1 < (l0.length : Int)) = true := decide_eq_true c2
        clear c2
        by_cases c3 : 0 ≤ x11_1
        · rw [if_pos c3] at H
          have c3b0 : decide (0 ≤ x11_1) = true := decide_eq_true c3
          clear c3
          by_cases c4 : x11_1 < (l0.length : Int)
          · rw [if_pos c4] at H
            have c4b0 : decide (x11_1 < (l0.length : Int)) = true := decide_eq_true c4
            clear c4
            replace H := Option.bind_eq_some_iff.mp H
            obtain ⟨t772, A50, H⟩ := H
            replace H : (impl_bankGaps.l1 k1 x3_1 x11_1 l0 (l0.length : Int) x11_1 t772 (t772.length : Int) 0) = some r := H
            have A5 := Aside0.mk A50
            clear A50
            have H' := Aside0.mk H
            clear H
            have p770 : 0 ≤ (x11_1 : Int) := of_decide_eq_true (by first | (with_reducible assumption) | assumption)
            have q770 : x11_1 < (l0.length : Int) := of_decide_eq_true (by first | (with_reducible assumption) | assumption)
            obtain ⟨ad770, A770_1, c770_1, A770_2, c770_2, e770, hx770_0, hx770_1, hx770_2, hl770_1, hi770_1, hl770_2, hi770_2⟩ := at_T30 HR0.out x11_1 p770 q770
            cases e770
            replace hx770_0 := (HB.out.cell (World.block_lt_of_cell? w _ hx770_0)).trans hx770_0
            replace hx770_1 := (HB.out.cell (World.block_lt_of_cell? w _ hx770_1)).trans hx770_1
            replace hx770_2 := (HB.out.cell (World.block_lt_of_cell? w _ hx770_2)).trans hx770_2
            have HR770_1 := Aside0.mk hi770_1
            have HC770_1 := Aside0.mk hl770_1
            clear hi770_1 hl770_1
            have HR770_2 := Aside0.mk hi770_2
            have HC770_2 := Aside0.mk hl770_2
            clear hi770_2 hl770_2
            replace p770 := eq_true p770
            replace q770 := eq_true q770
            go_wp2_with (first | ((with_reducible refine gate_dst (N := 5) rfl ?_); refine box_event ?hg (N := 5) ?hd (cs := #[.int .i64 0, .slice none 0 0, .slice none 0 0]) (t := 30) ?hr ?_; (case hd => rfl); (case hg => rfl); (case hr => first | (go_simp; done) | (go_simp; rfl)); intro gb771 hg w6 hbox hb; have n0_ := Aside0.mk (Kd.R_below (by (with_reducible repeat (first | apply Kd.R_alloc | apply Kd.R_drewN | apply Kd.R_drew)); exact HO_3.out) hb); have n1_ := Aside0.mk (below_step (by repeat (first | (with_reducible first | exact HB.out | apply below_alloc | apply pw_below_drewN | apply below_drew1) | exact HB.out)) hb); have n2_ := Aside0.mk (hbox); have n3_ := Aside0.mk ((by rw [hg]; exact (below_size (by repeat (first | (with_reducible first | exact HB.out | apply below_alloc | apply pw_below_drewN | apply below_drew1) | exact HB.out))) : w.heap.size ≤ gb771)); have n4_ := Aside0.mk ((by rw [hg]; exact (below_size (by repeat (first | (with_reducible first | exact HB.out | apply below_alloc | apply pw_below_drewN | apply below_drew1) | exact HB.out))) : w.heap.size ≤ gb771)); clear HO_3; clear HB; have HO_3 := n0_; have HB := n1_; have BK771 := n2_; have GW771 := n3_; have GE771 := n4_; clear n0_ n1_ n2_ n3_ n4_; clear hb hbox hg; have hcz7_0 : w6.cell? ⟨gb771, 0, none⟩ = some (.int .i64 0) := (blk_cell BK771.out 0).trans rfl; have hcz7_1 : w6.cell? ⟨gb771, 1, none⟩ = some (.slice none 0 0) := (blk_cell BK771.out 1).trans rfl; have hcz7_2 : w6.cell? ⟨gb771, 2, none⟩ = some (.slice none 0 0) := (blk_cell BK771.out 2).trans rfl; have hfz7_0 := blk_frozen BK771.out 0; have hfz7_1 := blk_frozen BK771.out 1; have hfz7_2 := blk_frozen BK771.out 2) | ((with_reducible refine gate_callee (f := 77) rfl ?_); refine goesL_ (some 17) rfl rfl Try.func77 (by kernel_rfl) rfl #[.agg #[.int .i64 ((rd_T30 l0 x11_1).f0), .slice A770_1 ((rd_T30 l0 x11_1).f1).length c770_1, .slice A770_2 ((rd_T30 l0 x11_1).f2).length c770_2]] rfl (by (try simp only [List.map_toArray, List.map_cons, List.map_nil]); first | done | rfl | (simp only [List.length_drop, List.length_take]; rfl)) ?_; (with_reducible refine (impl_runsOf.calls k1 ((rd_T30 l0 x11_1).f0) _ _ ((rd_T30 l0 x11_1).f1) _ _ ((rd_T30 l0 x11_1).f2) t772 _ ?side1 ?side2 ?side3 ?side4 A5.out).mono ?_); (case side1 => exact Kd.C_below HR770_1.out (by repeat (first | (with_reducible first | exact HB.out | apply below_alloc | apply pw_below_drewN | apply below_drew1 | refine below_set ?_ GE771.out) | exact HB.out))); (case side2 => exact HC770_1.out); (case side3 => exact Kd.C_below HR770_2.out (by repeat (first | (with_reducible first | exact HB.out | apply below_alloc | apply pw_below_drewN | apply below_drew1 | refine below_set ?_ GE771.out) | exact HB.out))); (case side4 => exact HC770_2.out); rintro e w8 ⟨v773, rfl, ho0, hb⟩; refine ⟨_, rfl, ?_⟩; have n0_ := Aside0.mk (Kd.R_below (by (with_reducible repeat (first | apply Kd.R_alloc | apply Kd.R_drewN | apply Kd.R_drew)); exact (Kd.R_mono (Kd.R_far (p := ⟨gb771, 2, none⟩) (Kd.R_far (p := ⟨gb771, 1, none⟩) (Kd.R_far (p := ⟨gb771, 0, none⟩) (Kd.R_types HO_3.out BK771.out (by decide)) (fun _ hk => hk.2) (.int .i64 ((rd_T30 l0 x11_1).f0))) (fun _ hk => hk.2) (.slice A770_1 ((rd_T30 l0 x11_1).f1).length c770_1)) (fun _ hk => hk.2) (.slice A770_2 ((rd_T30 l0 x11_1).f2).length c770_2)) (fun _ h_ => h_.1))) hb); have n1_ := Aside0.mk (Kd.R_lower ho0 (below_size (by repeat (first | (with_reducible first | exact HB.out | apply below_alloc | apply pw_below_drewN | apply below_drew1 | refine below_set ?_ GE771.out) | exact HB.out)))); have n2_ := Aside0.mk (blk_below (g := gb771) (o := .cells #[.int .i64 ((rd_T30 l0 x11_1).f0), .slice A770_1 ((rd_T30 l0 x11_1).f1).length c770_1, .slice A770_2 ((rd_T30 l0 x11_1).f2).length c770_2] 30 (0, 0)) (by (with_reducible repeat (first | refine blk_drewN ?_ _ | refine blk_drew ?_ | refine blk_alloc ?_ _)); refine blk_put (cs := #[.int .i64 ((rd_T30 l0 x11_1).f0), .slice A770_1 ((rd_T30 l0 x11_1).f1).length c770_1, .slice none 0 0]) ?_ 2 _ rfl; (with_reducible repeat (first | refine blk_drewN ?_ _ | refine blk_drew ?_ | refine blk_alloc ?_ _)); refine blk_put (cs := #[.int .i64 ((rd_T30 l0 x11_1).f0), .slice none 0 0, .slice none 0 0]) ?_ 1 _ rfl; (with_reducible repeat (first | refine blk_drewN ?_ _ | refine blk_drew ?_ | refine blk_alloc ?_ _)); refine blk_put (cs := #[.int .i64 0, .slice none 0 0, .slice none 0 0]) ?_ 0 _ rfl; (with_reducible repeat (first | refine blk_drewN ?_ _ | refine blk_drew ?_ | refine blk_alloc ?_ _)); exact BK771.out) hb); have n3_ := Aside0.mk (below_step (by repeat (first | (with_reducible first | exact HB.out | apply below_alloc | apply pw_below_drewN | apply below_drew1 | refine below_set ?_ GE771.out) | exact HB.out)) hb); clear HO_3; clear BK771; clear HB; have HO_3 := n0_; have HO774 := n1_; have BK771 := n2_; have HB := n3_; clear n0_ n1_ n2_ n3_; (try clear hb); (try clear hb2); (try clear hk); (try clear hi); (try clear ho0); obtain ⟨Ao9, co9, eo9⟩ := Kd.R_slice HO774.out; subst eo9))
            go_loopg [3, 19] k1 (fun kq v3 v19 w' => ∃ (x3_2 : List (S54)) (x19_2 : Int), v19 = .int .i64 x19_2 ∧ Aside0 (impl_bankGaps.l1 kq x3_2 x11_1 l0 (l0.length : Int) x11_1 t772 (t772.length : Int) x19_2 = some r) ∧ Aside0 (kq ≤ k1) ∧ Aside0 (Kd.R k54 54 w' w.heap.size (fun _ => True) v3 x3_2) ∧ Aside0 (Kd.R k85 85 w' w.heap.size (fun _ => True) (.slice Ao9 t772.length co9) t772) ∧ Aside0 (w'.heap[gb771]? = some (.cells #[.int .i64 ((rd_T30 l0 x11_1).f0), (.slice A770_1 ((rd_T30 l0 x11_1).f1).length c770_1), (.slice A770_2 ((rd_T30 l0 x11_1).f2).length c770_2)] 30 (0, 0))) ∧ Aside0 (Below w.heap.size w w'))
            case atStart => exact ⟨(x3_1), (0), (by first | rfl | (simp; done) | (simp [*]; done)), H', ⟨Nat.le_refl _⟩, ⟨by (with_reducible repeat (first | apply Kd.R_alloc | apply Kd.R_drewN | apply Kd.R_drew)); exact HO_3.out⟩, ⟨by (with_reducible repeat (first | apply Kd.R_alloc | apply Kd.R_drewN | apply Kd.R_drew)); exact HO774.out⟩, ⟨by (with_reducible repeat (first | refine blk_drewN ?_ _ | refine blk_drew ?_ | refine blk_alloc ?_ _)); exact BK771.out⟩, ⟨by repeat (first | (with_reducible first | exact HB.out | apply below_alloc | apply pw_below_drewN | apply below_drew1 | refine below_set ?_ GE771.out) | exact HB.out)⟩⟩
            case round =>
              clear H'
              try clear c2
              try clear c2b0
              try clear p2
              try clear c3
              try clear c3b0
              try clear c4
              try clear c4b0
              try clear c7
              try clear p7
              try clear q7
              try clear hx7
              try clear c9
              try clear hcz7_0
              try clear hcz7_1
              try clear hcz7_2
              try clear hfz7_0
              try clear hfz7_1
              try clear hfz7_2
              try clear hx770_0
              try clear hx770_1
              try clear hx770_2
              try clear p770
              try clear q770
              obtain ⟨x3_2, x19_2, rfl, HA, HK2, HO_3, HO_17, BK771, HB⟩ := hrel
              cases gk with
              | zero => exact absurd HA.out (by simp [impl_bankGaps.l1])
              | succ k2 =>
                have H := HA.out
                clear HA
                simp only [impl_bankGaps.l1] at H
                by_cases c10 : x19_2 < (t772.length : Int)
                · rw [if_pos c10] at H
                  have c10b0 : decide (x19_2 < (t772.length : Int)) = true := decide_eq_true c10
                  clear c10
                  by_cases c11 : 0 ≤ x19_2
                  · rw [if_pos c11] at H
                    have c11b0 : decide (0 ≤ x19_2) = true := decide_eq_true c11
                    clear c11
                    by_cases c12 : x19_2 < (t772.length : Int)
                    · rw [if_pos c12] at H
                      have c12b0 : decide (x19_2 < (t772.length : Int)) = true := decide_eq_true c12
                      clear c12
                      by_cases c13 : x3_2.length < 5864062014805
                      · rw [if_pos c13] at H
                        have LMc13 := Aside0.mk c13
                        clear c13
                        obtain ⟨y778, hy778⟩ : ∃ y_ : List (S54), y_ = (x3_2 ++ [(⟨x11_1, (rd_T85 t772 x19_2).f0.f1, (rd_T85 t772 x19_2).f0.f2⟩ : S54)]) := ⟨_, rfl⟩
                        replace H : (impl_bankGaps.l1 k2 y778 x11_1 l0 (l0.length : Int) x11_1 t772 (t772.length : Int) (wrap64 (x19_2 + 1))) = some r := by first | (rw [hy778]; with_reducible exact H) | (have H2_ := (Option.bind_some _ _).symm.trans H; rw [hy778]; with_reducible exact H2_) | (have H2_ := (Option.bind_some _ _).symm.trans H; with_reducible exact H2_) | with_reducible exact H | (rw [hy778]; exact H) | exact H
                        have Ny778 := Aside0.mk hy778
                        clear hy778
                        have H' := Aside0.mk H
                        clear H
                        have p775 : 0 ≤ (x19_2 : Int) := of_decide_eq_true (by first | (with_reducible assumption) | assumption)
                        have q775 : x19_2 < (t772.length : Int) := of_decide_eq_true (by first | (with_reducible assumption) | assumption)
                        obtain ⟨ad775, e775, hx775_0, hx775_1, hx775_2, hx775_3, hx775_4⟩ := at_T85 (Kd.R_reads' HO_17.out).2.2 x19_2 p775 q775
                        cases e775
                        replace p775 := eq_true p775
                        replace q775 := eq_true q775
                        go_wp2_with (first | ((with_reducible refine gate_dst (N := 7) rfl ?_); refine box_event ?hg (N := 7) ?hd (cs := #[.int .i64 0, .int .i64 0, .int .i64 0, .int .i64 0, .int .i64 0]) (t := 85) ?hr ?_; (case hd => rfl); (case hg => rfl); (case hr => first | (go_simp; done) | (go_simp; rfl)); intro gb776 hg w14 hbox hb; have n0_ := Aside0.mk (Kd.R_below (by (with_reducible repeat (first | apply Kd.R_alloc | apply Kd.R_drewN | apply Kd.R_drew)); exact HO_3.out) hb); have n1_ := Aside0.mk (Kd.R_below (Kd.R_elderB (by (with_reducible repeat (first | apply Kd.R_alloc | apply Kd.R_drewN | apply Kd.R_drew)); exact HO_17.out) gb776 (Nat.le_of_eq hg.symm)) hb); have n2_ := Aside0.mk (blk_below (g := gb771) (o := .cells #[.int .i64 ((rd_T30 l0 x11_1).f0), .slice A770_1 ((rd_T30 l0 x11_1).f1).length c770_1, .slice A770_2 ((rd_T30 l0 x11_1).f2).length c770_2] 30 (0, 0)) (by (with_reducible repeat (first | refine blk_drewN ?_ _ | refine blk_drew ?_ | refine blk_alloc ?_ _)); exact BK771.out) hb); have n3_ := Aside0.mk (below_step (by repeat (first | (with_reducible first | exact HB.out | apply below_alloc | apply pw_below_drewN | apply below_drew1 | refine below_set ?_ GE771.out) | exact HB.out)) hb); have n4_ := Aside0.mk (hbox); have n5_ := Aside0.mk ((by rw [hg]; exact (below_size (by repeat (first | (with_reducible first | exact HB.out | apply below_alloc | apply pw_below_drewN | apply below_drew1 | refine below_set ?_ GE771.out) | exact HB.out))) : w.heap.size ≤ gb776)); have n6_ := Aside0.mk ((by rw [hg]; exact (below_size (by repeat (first | (with_reducible first | exact HB.out | apply below_alloc | apply pw_below_drewN | apply below_drew1 | refine below_set ?_ GE771.out) | exact HB.out))) : w.heap.size ≤ gb776)); have n7_ := Aside0.mk ((by rw [hg]; exact Nat.ne_of_lt (blk_lt (g := gb771) (o := .cells #[.int .i64 ((rd_T30 l0 x11_1).f0), .slice A770_1 ((rd_T30 l0 x11_1).f1).length c770_1, .slice A770_2 ((rd_T30 l0 x11_1).f2).length c770_2] 30 (0, 0)) (by (with_reducible repeat (first | refine blk_drewN ?_ _ | refine blk_drew ?_ | refine blk_alloc ?_ _)); exact BK771.out)) : gb771 ≠ gb776)); have n8_ := Aside0.mk ((by rw [hg]; exact Nat.ne_of_gt (blk_lt (g := gb771) (o := .cells #[.int .i64 ((rd_T30 l0 x11_1).f0), .slice A770_1 ((rd_T30 l0 x11_1).f1).length c770_1, .slice A770_2 ((rd_T30 l0 x11_1).f2).length c770_2] 30 (0, 0)) (by (with_reducible repeat (first | refine blk_drewN ?_ _ | refine blk_drew ?_ | refine blk_alloc ?_ _)); exact BK771.out)) : gb776 ≠ gb771)); clear HO_3; clear HO_17; clear BK771; clear HB; have HO_3 := n0_; have HO_17 := n1_; have BK771 := n2_; have HB := n3_; have BK776 := n4_; have GW776 := n5_; have GE776 := n6_; have NB771_776 := n7_; have NB776_771 := n8_; clear n0_ n1_ n2_ n3_ n4_ n5_ n6_ n7_ n8_; clear hb hbox hg; have hnb15 := NB776_771.out; have hnc15 := NB771_776.out; have hcz16_0 : w14.cell? ⟨gb776, 0, none⟩ = some (.int .i64 0) := (blk_cell BK776.out 0).trans rfl; have hcz16_1 : w14.cell? ⟨gb776, 1, none⟩ = some (.int .i64 0) := (blk_cell BK776.out 1).trans rfl; have hcz16_2 : w14.cell? ⟨gb776, 2, none⟩ = some (.int .i64 0) := (blk_cell BK776.out 2).trans rfl; have hcz16_3 : w14.cell? ⟨gb776, 3, none⟩ = some (.int .i64 0) := (blk_cell BK776.out 3).trans rfl; have hcz16_4 : w14.cell? ⟨gb776, 4, none⟩ = some (.int .i64 0) := (blk_cell BK776.out 4).trans rfl; have hfz16_0 := blk_frozen BK776.out 0; have hfz16_1 := blk_frozen BK776.out 1; have hfz16_2 := blk_frozen BK776.out 2; have hfz16_3 := blk_frozen BK776.out 3; have hfz16_4 := blk_frozen BK776.out 4) | ((with_reducible refine gate_dst (N := 8) rfl ?_); refine box_event ?hg (N := 8) ?hd (cs := #[.int .i64 0, .int .i64 0, .int .i64 0]) (t := 54) ?hr ?_; (case hd => rfl); (case hg => rfl); (case hr => first | (go_simp; done) | (go_simp; rfl)); intro gb777 hg w17 hbox hb; have n0_ := Aside0.mk (Kd.R_below (Kd.R_elderB (by (with_reducible repeat (first | apply Kd.R_alloc | apply Kd.R_drewN | apply Kd.R_drew)); exact (Kd.R_mono (Kd.R_far (p := ⟨gb776, 4, none⟩) (Kd.R_far (p := ⟨gb776, 3, none⟩) (Kd.R_far (p := ⟨gb776, 2, none⟩) (Kd.R_far (p := ⟨gb776, 1, none⟩) (Kd.R_far (p := ⟨gb776, 0, none⟩) (Kd.R_types HO_3.out BK776.out (by decide)) (fun _ hk => hk.2) (.int .i64 ((rd_T85 t772 x19_2).f0.f0))) (fun _ hk => hk.2) (.int .i64 ((rd_T85 t772 x19_2).f0.f1))) (fun _ hk => hk.2) (.int .i64 ((rd_T85 t772 x19_2).f0.f2))) (fun _ hk => hk.2) (.int .i64 ((rd_T85 t772 x19_2).f1))) (fun _ hk => hk.2) (.int .i64 ((rd_T85 t772 x19_2).f2))) (fun _ h_ => h_.1))) gb777 (Nat.le_of_eq hg.symm)) hb); have n1_ := Aside0.mk (Kd.R_below (by (with_reducible repeat (first | apply Kd.R_alloc | apply Kd.R_drewN | apply Kd.R_drew)); exact (Kd.R_mono (Kd.R_far (p := ⟨gb776, 4, none⟩) (Kd.R_far (p := ⟨gb776, 3, none⟩) (Kd.R_far (p := ⟨gb776, 2, none⟩) (Kd.R_far (p := ⟨gb776, 1, none⟩) (Kd.R_far (p := ⟨gb776, 0, none⟩) (Kd.R_mono HO_17.out (fun k_ hk => (⟨hk, hk.2⟩ : _ ∧ k_ ≠ gb776))) (fun _ hk => hk.2) (.int .i64 ((rd_T85 t772 x19_2).f0.f0))) (fun _ hk => hk.2) (.int .i64 ((rd_T85 t772 x19_2).f0.f1))) (fun _ hk => hk.2) (.int .i64 ((rd_T85 t772 x19_2).f0.f2))) (fun _ hk => hk.2) (.int .i64 ((rd_T85 t772 x19_2).f1))) (fun _ hk => hk.2) (.int .i64 ((rd_T85 t772 x19_2).f2))) (fun _ h_ => h_.1))) hb); have n2_ := Aside0.mk (blk_below (g := gb771) (o := .cells #[.int .i64 ((rd_T30 l0 x11_1).f0), .slice A770_1 ((rd_T30 l0 x11_1).f1).length c770_1, .slice A770_2 ((rd_T30 l0 x11_1).f2).length c770_2] 30 (0, 0)) (by (with_reducible repeat (first | refine blk_drewN ?_ _ | refine blk_drew ?_ | refine blk_alloc ?_ _)); refine blk_far ?_ NB771_776.out _; (with_reducible repeat (first | refine blk_drewN ?_ _ | refine blk_drew ?_ | refine blk_alloc ?_ _)); refine blk_far ?_ NB771_776.out _; (with_reducible repeat (first | refine blk_drewN ?_ _ | refine blk_drew ?_ | refine blk_alloc ?_ _)); refine blk_far ?_ NB771_776.out _; (with_reducible repeat (first | refine blk_drewN ?_ _ | refine blk_drew ?_ | refine blk_alloc ?_ _)); refine blk_far ?_ NB771_776.out _; (with_reducible repeat (first | refine blk_drewN ?_ _ | refine blk_drew ?_ | refine blk_alloc ?_ _)); refine blk_far ?_ NB771_776.out _; (with_reducible repeat (first | refine blk_drewN ?_ _ | refine blk_drew ?_ | refine blk_alloc ?_ _)); exact BK771.out) hb); have n3_ := Aside0.mk (blk_below (g := gb776) (o := .cells #[.int .i64 ((rd_T85 t772 x19_2).f0.f0), .int .i64 ((rd_T85 t772 x19_2).f0.f1), .int .i64 ((rd_T85 t772 x19_2).f0.f2), .int .i64 ((rd_T85 t772 x19_2).f1), .int .i64 ((rd_T85 t772 x19_2).f2)] 85 (0, 0)) (by (with_reducible repeat (first | refine blk_drewN ?_ _ | refine blk_drew ?_ | refine blk_alloc ?_ _)); refine blk_put (cs := #[.int .i64 ((rd_T85 t772 x19_2).f0.f0), .int .i64 ((rd_T85 t772 x19_2).f0.f1), .int .i64 ((rd_T85 t772 x19_2).f0.f2), .int .i64 ((rd_T85 t772 x19_2).f1), .int .i64 0]) ?_ 4 _ rfl; (with_reducible repeat (first | refine blk_drewN ?_ _ | refine blk_drew ?_ | refine blk_alloc ?_ _)); refine blk_put (cs := #[.int .i64 ((rd_T85 t772 x19_2).f0.f0), .int .i64 ((rd_T85 t772 x19_2).f0.f1), .int .i64 ((rd_T85 t772 x19_2).f0.f2), .int .i64 0, .int .i64 0]) ?_ 3 _ rfl; (with_reducible repeat (first | refine blk_drewN ?_ _ | refine blk_drew ?_ | refine blk_alloc ?_ _)); refine blk_put (cs := #[.int .i64 ((rd_T85 t772 x19_2).f0.f0), .int .i64 ((rd_T85 t772 x19_2).f0.f1), .int .i64 0, .int .i64 0, .int .i64 0]) ?_ 2 _ rfl; (with_reducible repeat (first | refine blk_drewN ?_ _ | refine blk_drew ?_ | refine blk_alloc ?_ _)); refine blk_put (cs := #[.int .i64 ((rd_T85 t772 x19_2).f0.f0), .int .i64 0, .int .i64 0, .int .i64 0, .int .i64 0]) ?_ 1 _ rfl; (with_reducible repeat (first | refine blk_drewN ?_ _ | refine blk_drew ?_ | refine blk_alloc ?_ _)); refine blk_put (cs := #[.int .i64 0, .int .i64 0, .int .i64 0, .int .i64 0, .int .i64 0]) ?_ 0 _ rfl; (with_reducible repeat (first | refine blk_drewN ?_ _ | refine blk_drew ?_ | refine blk_alloc ?_ _)); exact BK776.out) hb); have n4_ := Aside0.mk (below_step (by repeat (first | (with_reducible first | exact HB.out | apply below_alloc | apply pw_below_drewN | apply below_drew1 | refine below_set ?_ GE771.out | refine below_set ?_ GE776.out) | exact HB.out)) hb); have n5_ := Aside0.mk (hbox); have n6_ := Aside0.mk ((by rw [hg]; exact (below_size (by repeat (first | (with_reducible first | exact HB.out | apply below_alloc | apply pw_below_drewN | apply below_drew1 | refine below_set ?_ GE771.out | refine below_set ?_ GE776.out) | exact HB.out))) : w.heap.size ≤ gb777)); have n7_ := Aside0.mk ((by rw [hg]; exact (below_size (by repeat (first | (with_reducible first | exact HB.out | apply below_alloc | apply pw_below_drewN | apply below_drew1 | refine below_set ?_ GE771.out | refine below_set ?_ GE776.out) | exact HB.out))) : w.heap.size ≤ gb777)); have n8_ := Aside0.mk ((by rw [hg]; exact Nat.ne_of_lt (blk_lt (g := gb771) (o := .cells #[.int .i64 ((rd_T30 l0 x11_1).f0), .slice A770_1 ((rd_T30 l0 x11_1).f1).length c770_1, .slice A770_2 ((rd_T30 l0 x11_1).f2).length c770_2] 30 (0, 0)) (by (with_reducible repeat (first | refine blk_drewN ?_ _ | refine blk_drew ?_ | refine blk_alloc ?_ _)); refine blk_far ?_ NB771_776.out _; (with_reducible repeat (first | refine blk_drewN ?_ _ | refine blk_drew ?_ | refine blk_alloc ?_ _)); refine blk_far ?_ NB771_776.out _; (with_reducible repeat (first | refine blk_drewN ?_ _ | refine blk_drew ?_ | refine blk_alloc ?_ _)); refine blk_far ?_ NB771_776.out _; (with_reducible repeat (first | refine blk_drewN ?_ _ | refine blk_drew ?_ | refine blk_alloc ?_ _)); refine blk_far ?_ NB771_776.out _; (with_reducible repeat (first | refine blk_drewN ?_ _ | refine blk_drew ?_ | refine blk_alloc ?_ _)); refine blk_far ?_ NB771_776.out _; (with_reducible repeat (first | refine blk_drewN ?_ _ | refine blk_drew ?_ | refine blk_alloc ?_ _)); exact BK771.out)) : gb771 ≠ gb777)); have n9_ := Aside0.mk ((by rw [hg]; exact Nat.ne_of_gt (blk_lt (g := gb771) (o := .cells #[.int .i64 ((rd_T30 l0 x11_1).f0), .slice A770_1 ((rd_T30 l0 x11_1).f1).length c770_1, .slice A770_2 ((rd_T30 l0 x11_1).f2).length c770_2] 30 (0, 0)) (by (with_reducible repeat (first | refine blk_drewN ?_ _ | refine blk_drew ?_ | refine blk_alloc ?_ _)); refine blk_far ?_ NB771_776.out _; (with_reducible repeat (first | refine blk_drewN ?_ _ | refine blk_drew ?_ | refine blk_alloc ?_ _)); refine blk_far ?_ NB771_776.out _; (with_reducible repeat (first | refine blk_drewN ?_ _ | refine blk_drew ?_ | refine blk_alloc ?_ _)); refine blk_far ?_ NB771_776.out _; (with_reducible repeat (first | refine blk_drewN ?_ _ | refine blk_drew ?_ | refine blk_alloc ?_ _)); refine blk_far ?_ NB771_776.out _; (with_reducible repeat (first | refine blk_drewN ?_ _ | refine blk_drew ?_ | refine blk_alloc ?_ _)); refine blk_far ?_ NB771_776.out _; (with_reducible repeat (first | refine blk_drewN ?_ _ | refine blk_drew ?_ | refine blk_alloc ?_ _)); exact BK771.out)) : gb777 ≠ gb771)); have n10_ := Aside0.mk ((by rw [hg]; exact Nat.ne_of_lt (blk_lt (g := gb776) (o := .cells #[.int .i64 ((rd_T85 t772 x19_2).f0.f0), .int .i64 ((rd_T85 t772 x19_2).f0.f1), .int .i64 ((rd_T85 t772 x19_2).f0.f2), .int .i64 ((rd_T85 t772 x19_2).f1), .int .i64 ((rd_T85 t772 x19_2).f2)] 85 (0, 0)) (by (with_reducible repeat (first | refine blk_drewN ?_ _ | refine blk_drew ?_ | refine blk_alloc ?_ _)); refine blk_put (cs := #[.int .i64 ((rd_T85 t772 x19_2).f0.f0), .int .i64 ((rd_T85 t772 x19_2).f0.f1), .int .i64 ((rd_T85 t772 x19_2).f0.f2), .int .i64 ((rd_T85 t772 x19_2).f1), .int .i64 0]) ?_ 4 _ rfl; (with_reducible repeat (first | refine blk_drewN ?_ _ | refine blk_drew ?_ | refine blk_alloc ?_ _)); refine blk_put (cs := #[.int .i64 ((rd_T85 t772 x19_2).f0.f0), .int .i64 ((rd_T85 t772 x19_2).f0.f1), .int .i64 ((rd_T85 t772 x19_2).f0.f2), .int .i64 0, .int .i64 0]) ?_ 3 _ rfl; (with_reducible repeat (first | refine blk_drewN ?_ _ | refine blk_drew ?_ | refine blk_alloc ?_ _)); refine blk_put (cs := #[.int .i64 ((rd_T85 t772 x19_2).f0.f0), .int .i64 ((rd_T85 t772 x19_2).f0.f1), .int .i64 0, .int .i64 0, .int .i64 0]) ?_ 2 _ rfl; (with_reducible repeat (first | refine blk_drewN ?_ _ | refine blk_drew ?_ | refine blk_alloc ?_ _)); refine blk_put (cs := #[.int .i64 ((rd_T85 t772 x19_2).f0.f0), .int .i64 0, .int .i64 0, .int .i64 0, .int .i64 0]) ?_ 1 _ rfl; (with_reducible repeat (first | refine blk_drewN ?_ _ | refine blk_drew ?_ | refine blk_alloc ?_ _)); refine blk_put (cs := #[.int .i64 0, .int .i64 0, .int .i64 0, .int .i64 0, .int .i64 0]) ?_ 0 _ rfl; (with_reducible repeat (first | refine blk_drewN ?_ _ | refine blk_drew ?_ | refine blk_alloc ?_ _)); exact BK776.out)) : gb776 ≠ gb777)); have n11_ := Aside0.mk ((by rw [hg]; exact Nat.ne_of_gt (blk_lt (g := gb776) (o := .cells #[.int .i64 ((rd_T85 t772 x19_2).f0.f0), .int .i64 ((rd_T85 t772 x19_2).f0.f1), .int .i64 ((rd_T85 t772 x19_2).f0.f2), .int .i64 ((rd_T85 t772 x19_2).f1), .int .i64 ((rd_T85 t772 x19_2).f2)] 85 (0, 0)) (by (with_reducible repeat (first | refine blk_drewN ?_ _ | refine blk_drew ?_ | refine blk_alloc ?_ _)); refine blk_put (cs := #[.int .i64 ((rd_T85 t772 x19_2).f0.f0), .int .i64 ((rd_T85 t772 x19_2).f0.f1), .int .i64 ((rd_T85 t772 x19_2).f0.f2), .int .i64 ((rd_T85 t772 x19_2).f1), .int .i64 0]) ?_ 4 _ rfl; (with_reducible repeat (first | refine blk_drewN ?_ _ | refine blk_drew ?_ | refine blk_alloc ?_ _)); refine blk_put (cs := #[.int .i64 ((rd_T85 t772 x19_2).f0.f0), .int .i64 ((rd_T85 t772 x19_2).f0.f1), .int .i64 ((rd_T85 t772 x19_2).f0.f2), .int .i64 0, .int .i64 0]) ?_ 3 _ rfl; (with_reducible repeat (first | refine blk_drewN ?_ _ | refine blk_drew ?_ | refine blk_alloc ?_ _)); refine blk_put (cs := #[.int .i64 ((rd_T85 t772 x19_2).f0.f0), .int .i64 ((rd_T85 t772 x19_2).f0.f1), .int .i64 0, .int .i64 0, .int .i64 0]) ?_ 2 _ rfl; (with_reducible repeat (first | refine blk_drewN ?_ _ | refine blk_drew ?_ | refine blk_alloc ?_ _)); refine blk_put (cs := #[.int .i64 ((rd_T85 t772 x19_2).f0.f0), .int .i64 0, .int .i64 0, .int .i64 0, .int .i64 0]) ?_ 1 _ rfl; (with_reducible repeat (first | refine blk_drewN ?_ _ | refine blk_drew ?_ | refine blk_alloc ?_ _)); refine blk_put (cs := #[.int .i64 0, .int .i64 0, .int .i64 0, .int .i64 0, .int .i64 0]) ?_ 0 _ rfl; (with_reducible repeat (first | refine blk_drewN ?_ _ | refine blk_drew ?_ | refine blk_alloc ?_ _)); exact BK776.out)) : gb777 ≠ gb776)); clear HO_3; clear HO_17; clear BK771; clear BK776; clear HB; have HO_3 := n0_; have HO_17 := n1_; have BK771 := n2_; have BK776 := n3_; have HB := n4_; have BK777 := n5_; have GW777 := n6_; have GE777 := n7_; have NB771_777 := n8_; have NB777_771 := n9_; have NB776_777 := n10_; have NB777_776 := n11_; clear n0_ n1_ n2_ n3_ n4_ n5_ n6_ n7_ n8_ n9_ n10_ n11_; clear hb hbox hg; have hnb18 := NB777_771.out; have hnc18 := NB771_777.out; have hnb19 := NB777_776.out; have hnc19 := NB776_777.out; have hcz20_0 : w17.cell? ⟨gb777, 0, none⟩ = some (.int .i64 0) := (blk_cell BK777.out 0).trans rfl; have hcz20_1 : w17.cell? ⟨gb777, 1, none⟩ = some (.int .i64 0) := (blk_cell BK777.out 1).trans rfl; have hcz20_2 : w17.cell? ⟨gb777, 2, none⟩ = some (.int .i64 0) := (blk_cell BK777.out 2).trans rfl; have hfz20_0 := blk_frozen BK777.out 0; have hfz20_1 := blk_frozen BK777.out 1; have hfz20_2 := blk_frozen BK777.out 2) | ((with_reducible refine gate_builtin (b := .append) (xs := #[.tmp 27, .tmp 29]) rfl ?_); at_builtin; refine Kd.R_append k54 (w0 := w) w.heap.size rfl (.tmp 27) (.tmp 29) 60 54 (.agg #[(.int .i64 0), (.int .i64 0), (.int .i64 0)]) 24 rfl Try.underlying60 info54 rfl (by decide) (by omega) u3 x3_2 (⟨x11_1, (rd_T85 t772 x19_2).f0.f1, (rd_T85 t772 x19_2).f0.f2⟩ : S54) [.int .i64 x11_1, .int .i64 ((rd_T85 t772 x19_2).f0.f1), .int .i64 ((rd_T85 t772 x19_2).f0.f2)] (fun k_ => k_ ≠ gb777) (fun _ => False) rfl (by first | (go_simp; done) | (go_simp; rfl)) ?aP (fun _ hk => hk.elim) ?aF ?aO ?aB ?aS ?aL ?_; (case aP => exact k54_mkM _ _ _ (⟨x11_1, (rd_T85 t772 x19_2).f0.f1, (rd_T85 t772 x19_2).f0.f2⟩ : S54)); (case aB => exact (by repeat (first | (with_reducible first | exact HB.out | apply below_alloc | apply pw_below_drewN | apply below_drew1 | refine below_set ?_ GE771.out | refine below_set ?_ GE776.out | refine below_set ?_ GE777.out) | exact HB.out))); (case aF => exact (fun k_ hk => Kd.freshB (g := gb777) (o := .cells #[.int .i64 x11_1, .int .i64 ((rd_T85 t772 x19_2).f0.f1), .int .i64 ((rd_T85 t772 x19_2).f0.f2)] 54 (0, 0)) (by (with_reducible repeat (first | refine blk_drewN ?_ _ | refine blk_drew ?_ | refine blk_alloc ?_ _)); refine blk_put (cs := #[.int .i64 ((rd_T85 t772 x19_2).f0.f0), .int .i64 ((rd_T85 t772 x19_2).f0.f1), .int .i64 ((rd_T85 t772 x19_2).f0.f2)]) ?_ 0 _ rfl; (with_reducible repeat (first | refine blk_drewN ?_ _ | refine blk_drew ?_ | refine blk_alloc ?_ _)); refine blk_put (cs := #[.int .i64 ((rd_T85 t772 x19_2).f0.f0), .int .i64 ((rd_T85 t772 x19_2).f0.f1), .int .i64 0]) ?_ 2 _ rfl; (with_reducible repeat (first | refine blk_drewN ?_ _ | refine blk_drew ?_ | refine blk_alloc ?_ _)); refine blk_put (cs := #[.int .i64 ((rd_T85 t772 x19_2).f0.f0), .int .i64 0, .int .i64 0]) ?_ 1 _ rfl; (with_reducible repeat (first | refine blk_drewN ?_ _ | refine blk_drew ?_ | refine blk_alloc ?_ _)); refine blk_put (cs := #[.int .i64 0, .int .i64 0, .int .i64 0]) ?_ 0 _ rfl; (with_reducible repeat (first | refine blk_drewN ?_ _ | refine blk_drew ?_ | refine blk_alloc ?_ _)); exact BK777.out) k_ hk)); (case aO => exact (by (with_reducible repeat (first | apply Kd.R_alloc | apply Kd.R_drewN | apply Kd.R_drew)); exact Kd.R_mono (Kd.R_far (p := ⟨gb777, 0, none⟩) (Kd.R_far (p := ⟨gb777, 2, none⟩) (Kd.R_far (p := ⟨gb777, 1, none⟩) (Kd.R_far (p := ⟨gb777, 0, none⟩) (Kd.R_mono HO_3.out (fun k_ hk => (⟨hk, hk.2⟩ : _ ∧ k_ ≠ gb777))) (fun _ hk => hk.2) (.int .i64 ((rd_T85 t772 x19_2).f0.f0))) (fun _ hk => hk.2) (.int .i64 ((rd_T85 t772 x19_2).f0.f1))) (fun _ hk => hk.2) (.int .i64 ((rd_T85 t772 x19_2).f0.f2))) (fun _ hk => hk.2) (.int .i64 x11_1)) (fun _ hk => hk.1.2))); (case aS => exact (below_size (by repeat (first | (with_reducible first | exact HB.out | apply below_alloc | apply pw_below_drewN | apply below_drew1 | refine below_set ?_ GE771.out | refine below_set ?_ GE776.out | refine below_set ?_ GE777.out) | exact HB.out)))); (case aL => have := LMc13.out; omega); intro v779 w21 ho hb hg hat; rw [← Ny778.out] at ho; have n0_ := Aside0.mk (Kd.R_over' (by (with_reducible repeat (first | apply Kd.R_alloc | apply Kd.R_drewN | apply Kd.R_drew)); exact (Kd.R_mono (Kd.R_far (p := ⟨gb777, 0, none⟩) (Kd.R_far (p := ⟨gb777, 2, none⟩) (Kd.R_far (p := ⟨gb777, 1, none⟩) (Kd.R_far (p := ⟨gb777, 0, none⟩) (Kd.R_types HO_17.out BK777.out (by decide)) (fun _ hk => hk.2) (.int .i64 ((rd_T85 t772 x19_2).f0.f0))) (fun _ hk => hk.2) (.int .i64 ((rd_T85 t772 x19_2).f0.f1))) (fun _ hk => hk.2) (.int .i64 ((rd_T85 t772 x19_2).f0.f2))) (fun _ hk => hk.2) (.int .i64 x11_1)) (fun _ h_ => h_.1))) (Kd.R_typed (by (with_reducible repeat (first | apply Kd.R_alloc | apply Kd.R_drewN | apply Kd.R_drew)); exact (Kd.R_mono (Kd.R_far (p := ⟨gb777, 0, none⟩) (Kd.R_far (p := ⟨gb777, 2, none⟩) (Kd.R_far (p := ⟨gb777, 1, none⟩) (Kd.R_far (p := ⟨gb777, 0, none⟩) (Kd.R_mono HO_3.out (fun k_ hk => (⟨hk, hk.2⟩ : _ ∧ k_ ≠ gb777))) (fun _ hk => hk.2) (.int .i64 ((rd_T85 t772 x19_2).f0.f0))) (fun _ hk => hk.2) (.int .i64 ((rd_T85 t772 x19_2).f0.f1))) (fun _ hk => hk.2) (.int .i64 ((rd_T85 t772 x19_2).f0.f2))) (fun _ hk => hk.2) (.int .i64 x11_1)) (fun _ h_ => h_.1)))) (by decide) hg); have n1_ := Aside0.mk (blk_grown (g := gb771) (o := .cells #[.int .i64 ((rd_T30 l0 x11_1).f0), .slice A770_1 ((rd_T30 l0 x11_1).f1).length c770_1, .slice A770_2 ((rd_T30 l0 x11_1).f2).length c770_2] 30 (0, 0)) (by (with_reducible repeat (first | refine blk_drewN ?_ _ | refine blk_drew ?_ | refine blk_alloc ?_ _)); refine blk_far ?_ NB771_777.out _; (with_reducible repeat (first | refine blk_drewN ?_ _ | refine blk_drew ?_ | refine blk_alloc ?_ _)); refine blk_far ?_ NB771_777.out _; (with_reducible repeat (first | refine blk_drewN ?_ _ | refine blk_drew ?_ | refine blk_alloc ?_ _)); refine blk_far ?_ NB771_777.out _; (with_reducible repeat (first | refine blk_drewN ?_ _ | refine blk_drew ?_ | refine blk_alloc ?_ _)); refine blk_far ?_ NB771_777.out _; (with_reducible repeat (first | refine blk_drewN ?_ _ | refine blk_drew ?_ | refine blk_alloc ?_ _)); exact BK771.out) hg (Kd.R_ne HO_3.out BK771.out (by decide))); have n2_ := Aside0.mk (blk_grown (g := gb776) (o := .cells #[.int .i64 ((rd_T85 t772 x19_2).f0.f0), .int .i64 ((rd_T85 t772 x19_2).f0.f1), .int .i64 ((rd_T85 t772 x19_2).f0.f2), .int .i64 ((rd_T85 t772 x19_2).f1), .int .i64 ((rd_T85 t772 x19_2).f2)] 85 (0, 0)) (by (with_reducible repeat (first | refine blk_drewN ?_ _ | refine blk_drew ?_ | refine blk_alloc ?_ _)); refine blk_far ?_ NB776_777.out _; (with_reducible repeat (first | refine blk_drewN ?_ _ | refine blk_drew ?_ | refine blk_alloc ?_ _)); refine blk_far ?_ NB776_777.out _; (with_reducible repeat (first | refine blk_drewN ?_ _ | refine blk_drew ?_ | refine blk_alloc ?_ _)); refine blk_far ?_ NB776_777.out _; (with_reducible repeat (first | refine blk_drewN ?_ _ | refine blk_drew ?_ | refine blk_alloc ?_ _)); refine blk_far ?_ NB776_777.out _; (with_reducible repeat (first | refine blk_drewN ?_ _ | refine blk_drew ?_ | refine blk_alloc ?_ _)); exact BK776.out) hg (Kd.R_ne HO_3.out BK776.out (by decide))); have n3_ := Aside0.mk (blk_grown (g := gb777) (o := .cells #[.int .i64 x11_1, .int .i64 ((rd_T85 t772 x19_2).f0.f1), .int .i64 ((rd_T85 t772 x19_2).f0.f2)] 54 (0, 0)) (by (with_reducible repeat (first | refine blk_drewN ?_ _ | refine blk_drew ?_ | refine blk_alloc ?_ _)); refine blk_put (cs := #[.int .i64 ((rd_T85 t772 x19_2).f0.f0), .int .i64 ((rd_T85 t772 x19_2).f0.f1), .int .i64 ((rd_T85 t772 x19_2).f0.f2)]) ?_ 0 _ rfl; (with_reducible repeat (first | refine blk_drewN ?_ _ | refine blk_drew ?_ | refine blk_alloc ?_ _)); refine blk_put (cs := #[.int .i64 ((rd_T85 t772 x19_2).f0.f0), .int .i64 ((rd_T85 t772 x19_2).f0.f1), .int .i64 0]) ?_ 2 _ rfl; (with_reducible repeat (first | refine blk_drewN ?_ _ | refine blk_drew ?_ | refine blk_alloc ?_ _)); refine blk_put (cs := #[.int .i64 ((rd_T85 t772 x19_2).f0.f0), .int .i64 0, .int .i64 0]) ?_ 1 _ rfl; (with_reducible repeat (first | refine blk_drewN ?_ _ | refine blk_drew ?_ | refine blk_alloc ?_ _)); refine blk_put (cs := #[.int .i64 0, .int .i64 0, .int .i64 0]) ?_ 0 _ rfl; (with_reducible repeat (first | refine blk_drewN ?_ _ | refine blk_drew ?_ | refine blk_alloc ?_ _)); exact BK777.out) hg (Kd.R_away HO_3.out (fun _ hk => hk.2))); have n4_ := Aside0.mk (hb); have n5_ := Aside0.mk (ho); clear HO_17; clear BK771; clear BK776; clear BK777; clear HB; clear HO_3; have HO_17 := n0_; have BK771 := n1_; have BK776 := n2_; have BK777 := n3_; have HB := n4_; have HO780 := n5_; clear n0_ n1_ n2_ n3_ n4_ n5_; clear ho hb hg hat))
                        go_roundg k2
                        case measure => have := HK1.out; have := HK2.out; omega
                        case rel => exact ⟨(y778), (wrap64 (x19_2 + 1)), (by first | rfl | (simp; done) | (simp [*]; done)), H', ⟨by have := HK1.out; have := HK2.out; omega⟩, ⟨by (with_reducible repeat (first | apply Kd.R_alloc | apply Kd.R_drewN | apply Kd.R_drew)); exact Kd.R_mono HO780.out (fun _ hk => trivial)⟩, ⟨by (with_reducible repeat (first | apply Kd.R_alloc | apply Kd.R_drewN | apply Kd.R_drew)); exact Kd.R_mono HO_17.out (fun _ hk => trivial)⟩, ⟨by (with_reducible repeat (first | refine blk_drewN ?_ _ | refine blk_drew ?_ | refine blk_alloc ?_ _)); exact BK771.out⟩, ⟨by repeat (first | (with_reducible first | exact HB.out | apply below_alloc | apply pw_below_drewN | apply below_drew1 | refine below_set ?_ GE771.out | refine below_set ?_ GE776.out | refine below_set ?_ GE777.out) | exact HB.out)⟩⟩
                      · rw [if_neg c13] at H
                        exact absurd H (by simp)
                    · rw [if_neg c12] at H
                      exact absurd H (by simp)
                  · rw [if_neg c11] at H
                    exact absurd H (by simp)
                · rw [if_neg c10] at H
                  have c10b0 : decide (x19_2 < (t772.length : Int)) = false := decide_eq_false c10
                  clear c10
                  have H' := Aside0.mk H
                  clear H
                  go_wp2
                  go_roundg k2
                  case measure => have := HK1.out; have := HK2.out; omega
                  case rel => exact ⟨(x3_2), (wrap64 (x11_1 + 1)), (by first | rfl | (simp; done) | (simp [*]; done)), H', ⟨by have := HK1.out; have := HK2.out; omega⟩, ⟨by (with_reducible repeat (first | apply Kd.R_alloc | apply Kd.R_drewN | apply Kd.R_drew)); exact HO_3.out⟩, ⟨by repeat (first | (with_reducible first | exact HB.out | apply below_alloc | apply pw_below_drewN | apply below_drew1 | refine below_set ?_ GE771.out) | exact HB.out)⟩⟩
          · rw [if_neg c4] at H
            exact absurd H (by simp)
        · rw [if_neg c3] at H
          exact absurd H (by simp)
      · rw [if_neg c2] at H
        have c2b0 : decide (x11_1 < (l0.length : Int)) = false := decide_eq_false c2
        clear c2
        obtain rfl := Option.some.inj H
        go_wp2
        go_ret
        exact ⟨_, by first | rfl | (simp [errW_none, errW_some] <;> rfl) | (simp [*, errW_none, errW_some] <;> rfl), by (with_reducible repeat (first | apply Kd.R_alloc | apply Kd.R_drewN | apply Kd.R_drew)); exact HO_3.out, by repeat (first | (with_reducible first | exact HB.out | apply below_alloc | apply pw_below_drewN | apply below_drew1) | exact HB.out)⟩
def impl_BankGaps.f (k : Nat) (l0 : List (S30)) : Option ((List (S54))) := (impl_BankOk.f l0).bind fun t781 => (if t781 = true then ((impl_bankGaps.f k l0).bind fun t782 => (some t782)) else (some ([] : List (S54))))
set_option maxHeartbeats 8000000 in
set_option maxRecDepth 100000 in
theorem impl_BankGaps.calls (k : Nat) (A0 : Option Addr) (c0 : Nat) (l0 : List (S30)) (r : List (S54)) (w : World) (hr0 : Kd.C k30 w A0 l0.length l0) (hc0 : l0.length ≤ c0) (h : impl_BankGaps.f k l0 = some r) :
    Calls Try.prog 79 #[.slice A0 l0.length c0] w fun e w' => ∃ v0_ : Value, e = .returned (v0_) ∧ Kd.R k54 54 w' w.heap.size (fun _ => True) v0_ r ∧ Below w.heap.size w w' := by
  have HR0 := Aside0.mk hr0
  have HC0 := Aside0.mk hc0
  clear hr0 hc0
  have HB := Aside0.mk (Below.refl w.heap.size w)
  have H : ((impl_BankOk.f l0).bind fun t781 => (if t781 = true then ((impl_bankGaps.f k l0).bind fun t782 => (some t782)) else (some ([] : List (S54))))) = some r := h
  clear h
  replace H := Option.bind_eq_some_iff.mp H
  obtain ⟨t781, A20, H⟩ := H
  replace H : (if t781 = true then ((impl_bankGaps.f k l0).bind fun t782 => (some t782)) else (some ([] : List (S54)))) = some r := H
  have A2 := Aside0.mk A20
  clear A20
  by_cases c3 : t781 = true
  · subst c3
    have H1 : ((impl_bankGaps.f k l0).bind fun t782 => (some t782)) = some r := by rw [if_pos rfl] at H; exact H
    clear H
    have H := H1
    clear H1
    replace H := Option.bind_eq_some_iff.mp H
    obtain ⟨t782, A40, H⟩ := H
    replace H : (some t782) = some r := H
    have A4 := Aside0.mk A40
    clear A40
    obtain rfl := Option.some.inj H
    go_enter Try.func79, Try.ntmps79
    go_wp2_with (first | ((with_reducible refine gate_callee (f := 30) rfl ?_); refine goesL_ (some 4) rfl rfl Try.func30 (by kernel_rfl) rfl #[.slice A0 l0.length c0] rfl (by (try simp only [List.map_toArray, List.map_cons, List.map_nil]); first | done | rfl | (simp only [List.length_drop, List.length_take]; rfl)) ?_; (with_reducible refine (impl_BankOk.calls _ _ l0 true _ ?side1 ?side2 A2.out).mono ?_); (case side1 => repeat (first | exact HR0.out | (with_reducible refine Kd.C_alloc ?_ _) | (with_reducible refine Kd.C_drewN ?_ _) | (with_reducible refine Kd.C_drew ?_))); (case side2 => exact HC0.out); rintro e w5 ⟨rfl, hb⟩; refine ⟨_, rfl, ?_⟩; have n0_ := Aside0.mk (below_step (by repeat (first | (with_reducible first | exact HB.out | apply below_alloc | apply pw_below_drewN | apply below_drew1) | exact HB.out)) hb); clear HB; have HB := n0_; clear n0_; (try clear hb); (try clear hb2); (try clear hk); (try clear hi)) | ((with_reducible refine gate_callee (f := 94) rfl ?_); refine goesL_ (some 7) rfl rfl Try.func94 (by kernel_rfl) rfl #[.slice A0 l0.length c0] rfl (by (try simp only [List.map_toArray, List.map_cons, List.map_nil]); first | done | rfl | (simp only [List.length_drop, List.length_take]; rfl)) ?_; (with_reducible refine (impl_bankGaps.calls k _ _ l0 t782 _ ?side1 ?side2 A4.out).mono ?_); (case side1 => repeat (first | exact (Kd.C_below HR0.out HB.out) | (with_reducible refine Kd.C_alloc ?_ _) | (with_reducible refine Kd.C_drewN ?_ _) | (with_reducible refine Kd.C_drew ?_))); (case side2 => exact HC0.out); rintro e w6 ⟨v783, rfl, ho0, hb⟩; refine ⟨_, rfl, ?_⟩; have n0_ := Aside0.mk (Kd.R_lower ho0 (below_size (by repeat (first | (with_reducible first | exact HB.out | apply below_alloc | apply pw_below_drewN | apply below_drew1) | exact HB.out)))); have n1_ := Aside0.mk (below_step (by repeat (first | (with_reducible first | exact HB.out | apply below_alloc | apply pw_below_drewN | apply below_drew1) | exact HB.out)) hb); clear HB; have HO784 := n0_; have HB := n1_; clear n0_ n1_; (try clear hb); (try clear hb2); (try clear hk); (try clear hi); (try clear ho0)))
    go_ret
    exact ⟨_, by first | rfl | (simp [errW_none, errW_some] <;> rfl) | (simp [*, errW_none, errW_some] <;> rfl), by (with_reducible repeat (first | apply Kd.R_alloc | apply Kd.R_drewN | apply Kd.R_drew)); exact HO784.out, by repeat (first | (with_reducible first | exact HB.out | apply below_alloc | apply pw_below_drewN | apply below_drew1) | exact HB.out)⟩
  · replace c3 := Bool.eq_false_iff.mpr c3
    subst c3
    have H1 : (some ([] : List (S54))) = some r := by rw [if_neg (show ¬ (false = true) by decide)] at H; exact H
    clear H
    have H := H1
    clear H1
    obtain rfl := Option.some.inj H
    go_enter Try.func79, Try.ntmps79
    go_wp2_with (first | ((with_reducible refine gate_callee (f := 30) rfl ?_); refine goesL_ (some 4) rfl rfl Try.func30 (by kernel_rfl) rfl #[.slice A0 l0.length c0] rfl (by (try simp only [List.map_toArray, List.map_cons, List.map_nil]); first | done | rfl | (simp only [List.length_drop, List.length_take]; rfl)) ?_; (with_reducible refine (impl_BankOk.calls _ _ l0 false _ ?side1 ?side2 A2.out).mono ?_); (case side1 => repeat (first | exact HR0.out | (with_reducible refine Kd.C_alloc ?_ _) | (with_reducible refine Kd.C_drewN ?_ _) | (with_reducible refine Kd.C_drew ?_))); (case side2 => exact HC0.out); rintro e w7 ⟨rfl, hb⟩; refine ⟨_, rfl, ?_⟩; have n0_ := Aside0.mk (below_step (by repeat (first | (with_reducible first | exact HB.out | apply below_alloc | apply pw_below_drewN | apply below_drew1) | exact HB.out)) hb); clear HB; have HB := n0_; clear n0_; (try clear hb); (try clear hb2); (try clear hk); (try clear hi)))
    go_ret
    exact ⟨_, by first | rfl | (simp [errW_none, errW_some] <;> rfl) | (simp [*, errW_none, errW_some] <;> rfl), by first | exact Kd.R_nil _ _ _ _ _ | exact Kd.N_nil _ _ _ _ _ | exact Kd.V_nil _ _ _ _ _ | exact Kd.Q_nil _ _ _ _ _ | exact Kd.S_nil _ _ _ _ _, by repeat (first | (with_reducible first | exact HB.out | apply below_alloc | apply pw_below_drewN | apply below_drew1) | exact HB.out)⟩
def impl_MostOf.l0 : Nat → Int → Int → List (S54) → Int → Int → Option (Int)
  | 0, _, _, _, _, _ => none
  | k + 1, x1, x5, x11, x12, x13 => if x13 < x12 then (if 0 ≤ x13 then (if x13 < (x11.length : Int) then (if x1 = 0 then (none) else (impl_MostOf.l0 k x1 (wrap64 (x5 + (wrap64 (Int.tdiv ((rd_T54 x11 x13).f2) x1)))) x11 x12 (wrap64 (x13 + 1)))) else (none)) else (none)) else (some x5)
def impl_MostOf.f (k : Nat) (l0 : List (S30)) (a1 : Int) : Option (Int) := if a1 ≥ 1 then ((impl_BankGaps.f k l0).bind fun t785 => (impl_MostOf.l0 k a1 0 t785 (t785.length : Int) 0)) else (some 0)
set_option maxHeartbeats 8000000 in
set_option maxRecDepth 100000 in
theorem impl_MostOf.calls (k : Nat) (A0 : Option Addr) (c0 : Nat) (l0 : List (S30)) (a1 : Int) (r : Int) (w : World) (hr0 : Kd.C k30 w A0 l0.length l0) (hc0 : l0.length ≤ c0) (h : impl_MostOf.f k l0 a1 = some r) :
    Calls Try.prog 47 #[.slice A0 l0.length c0, .int .i64 a1] w fun e w' => e = .returned (.int .i64 r) ∧ Below w.heap.size w w' := by
  have hu54 := Try.underlying54
  have HR0 := Aside0.mk hr0
  have HC0 := Aside0.mk hc0
  clear hr0 hc0
  have HB := Aside0.mk (Below.refl w.heap.size w)
  have H : (if a1 ≥ 1 then ((impl_BankGaps.f k l0).bind fun t785 => (impl_MostOf.l0 k a1 0 t785 (t785.length : Int) 0)) else (some 0)) = some r := h
  clear h
  by_cases c3 : a1 ≥ 1
  · rw [if_pos c3] at H
    have c3b0 : decide (1 ≤ a1) = true := decide_eq_true c3
    clear c3
    replace H := Option.bind_eq_some_iff.mp H
    obtain ⟨t785, A40, H⟩ := H
    replace H : (impl_MostOf.l0 k a1 0 t785 (t785.length : Int) 0) = some r := H
    have A4 := Aside0.mk A40
    clear A40
    have H' := Aside0.mk H
    clear H
    go_enter Try.func47, Try.ntmps47
    go_wp2_with (first | ((with_reducible refine gate_callee (f := 79) rfl ?_); refine goesL_ (some 11) rfl rfl Try.func79 (by kernel_rfl) rfl #[.slice A0 l0.length c0] rfl (by (try simp only [List.map_toArray, List.map_cons, List.map_nil]); first | done | rfl | (simp only [List.length_drop, List.length_take]; rfl)) ?_; (with_reducible refine (impl_BankGaps.calls k _ _ l0 t785 _ ?side1 ?side2 A4.out).mono ?_); (case side1 => repeat (first | exact HR0.out | (with_reducible refine Kd.C_alloc ?_ _) | (with_reducible refine Kd.C_drewN ?_ _) | (with_reducible refine Kd.C_drew ?_))); (case side2 => exact HC0.out); rintro e w5 ⟨v786, rfl, ho0, hb⟩; refine ⟨_, rfl, ?_⟩; have n0_ := Aside0.mk (Kd.R_lower ho0 (below_size (by repeat (first | (with_reducible first | exact HB.out | apply below_alloc | apply pw_below_drewN | apply below_drew1) | exact HB.out)))); have n1_ := Aside0.mk (below_step (by repeat (first | (with_reducible first | exact HB.out | apply below_alloc | apply pw_below_drewN | apply below_drew1) | exact HB.out)) hb); clear HB; have HO787 := n0_; have HB := n1_; clear n0_ n1_; (try clear hb); (try clear hb2); (try clear hk); (try clear hi); (try clear ho0); obtain ⟨Ao6, co6, eo6⟩ := Kd.R_slice HO787.out; subst eo6))
    go_loopg [5, 13] k (fun kq v5 v13 w' => ∃ (x5_1 : Int) (x13_1 : Int), v5 = .int .i64 x5_1 ∧ v13 = .int .i64 x13_1 ∧ Aside0 (impl_MostOf.l0 kq a1 x5_1 t785 (t785.length : Int) x13_1 = some r) ∧ Aside0 (kq ≤ k) ∧ Aside0 (Kd.R k54 54 w' w.heap.size (fun _ => True) (.slice Ao6 t785.length co6) t785) ∧ Aside0 (Below w.heap.size w w'))
    case atStart => exact ⟨(0), (0), (by first | rfl | (simp; done) | (simp [*]; done)), (by first | rfl | (simp; done) | (simp [*]; done)), H', ⟨Nat.le_refl _⟩, ⟨by (with_reducible repeat (first | apply Kd.R_alloc | apply Kd.R_drewN | apply Kd.R_drew)); exact HO787.out⟩, ⟨by repeat (first | (with_reducible first | exact HB.out | apply below_alloc | apply pw_below_drewN | apply below_drew1) | exact HB.out)⟩⟩
    case round =>
      clear H'
      try clear p2
      try clear c3
      try clear c3b0
      try clear c4
      obtain ⟨x5_1, x13_1, rfl, rfl, HA, HK1, HO_11, HB⟩ := hrel
      cases gk with
      | zero => exact absurd HA.out (by simp [impl_MostOf.l0])
      | succ k1 =>
        have H := HA.out
        clear HA
        simp only [impl_MostOf.l0] at H
        by_cases c7 : x13_1 < (t785.length : Int)
        · rw [if_pos c7] at H
          have c7b0 : decide (x13_1 < (t785.length : Int)) = true := decide_eq_true c7
          clear c7
          by_cases c8 : 0 ≤ x13_1
          · rw [if_pos c8] at H
            have c8b0 : decide (0 ≤ x13_1) = true := decide_eq_true c8
            clear c8
            by_cases c9 : x13_1 < (t785.length : Int)
            · rw [if_pos c9] at H
              have c9b0 : decide (x13_1 < (t785.length : Int)) = true := decide_eq_true c9
              clear c9
              by_cases c10 : a1 = 0
              · rw [if_pos c10] at H
                exact absurd H (by simp)
              · rw [if_neg c10] at H
                have c10b0 : (a1 == 0) = false := beq_eq_false_iff_ne.mpr c10
                have c10b1 : (a1 != 0) = true := bne_iff_ne.mpr c10
                have H' := Aside0.mk H
                clear H
                have p788 : 0 ≤ (x13_1 : Int) := of_decide_eq_true (by first | (with_reducible assumption) | assumption)
                have q788 : x13_1 < (t785.length : Int) := of_decide_eq_true (by first | (with_reducible assumption) | assumption)
                obtain ⟨ad788, e788, hx788_0, hx788_1, hx788_2⟩ := at_T54 (Kd.R_reads' HO_11.out).2.2 x13_1 p788 q788
                cases e788
                replace p788 := eq_true p788
                replace q788 := eq_true q788
                go_wp2_with (first | ((with_reducible refine gate_dst (N := 7) rfl ?_); refine box_event ?hg (N := 7) ?hd (cs := #[.int .i64 0, .int .i64 0, .int .i64 0]) (t := 54) ?hr ?_; (case hd => rfl); (case hg => rfl); (case hr => first | (go_simp; done) | (go_simp; rfl)); intro gb789 hg w11 hbox hb; have n0_ := Aside0.mk (Kd.R_below (Kd.R_elderB (by (with_reducible repeat (first | apply Kd.R_alloc | apply Kd.R_drewN | apply Kd.R_drew)); exact HO_11.out) gb789 (Nat.le_of_eq hg.symm)) hb); have n1_ := Aside0.mk (below_step (by repeat (first | (with_reducible first | exact HB.out | apply below_alloc | apply pw_below_drewN | apply below_drew1) | exact HB.out)) hb); have n2_ := Aside0.mk (hbox); have n3_ := Aside0.mk ((by rw [hg]; exact (below_size (by repeat (first | (with_reducible first | exact HB.out | apply below_alloc | apply pw_below_drewN | apply below_drew1) | exact HB.out))) : w.heap.size ≤ gb789)); have n4_ := Aside0.mk ((by rw [hg]; exact (below_size (by repeat (first | (with_reducible first | exact HB.out | apply below_alloc | apply pw_below_drewN | apply below_drew1) | exact HB.out))) : w.heap.size ≤ gb789)); clear HO_11; clear HB; have HO_11 := n0_; have HB := n1_; have BK789 := n2_; have GW789 := n3_; have GE789 := n4_; clear n0_ n1_ n2_ n3_ n4_; clear hb hbox hg; have hcz12_0 : w11.cell? ⟨gb789, 0, none⟩ = some (.int .i64 0) := (blk_cell BK789.out 0).trans rfl; have hcz12_1 : w11.cell? ⟨gb789, 1, none⟩ = some (.int .i64 0) := (blk_cell BK789.out 1).trans rfl; have hcz12_2 : w11.cell? ⟨gb789, 2, none⟩ = some (.int .i64 0) := (blk_cell BK789.out 2).trans rfl; have hfz12_0 := blk_frozen BK789.out 0; have hfz12_1 := blk_frozen BK789.out 1; have hfz12_2 := blk_frozen BK789.out 2))
                go_roundg k1
                case measure => have := HK1.out; omega
                case rel => exact ⟨(wrap64 (x5_1 + (wrap64 (Int.tdiv ((rd_T54 t785 x13_1).f2) a1)))), (wrap64 (x13_1 + 1)), (by first | rfl | (simp; done) | (simp [*]; done)), (by first | rfl | (simp; done) | (simp [*]; done)), H', ⟨by have := HK1.out; omega⟩, ⟨by (with_reducible repeat (first | apply Kd.R_alloc | apply Kd.R_drewN | apply Kd.R_drew)); exact Kd.R_mono (Kd.R_far (p := ⟨gb789, 2, none⟩) (Kd.R_far (p := ⟨gb789, 1, none⟩) (Kd.R_far (p := ⟨gb789, 0, none⟩) (Kd.R_mono HO_11.out (fun k_ hk => (⟨hk, hk.2⟩ : _ ∧ k_ ≠ gb789))) (fun _ hk => hk.2) (.int .i64 ((rd_T54 t785 x13_1).f0))) (fun _ hk => hk.2) (.int .i64 ((rd_T54 t785 x13_1).f1))) (fun _ hk => hk.2) (.int .i64 ((rd_T54 t785 x13_1).f2))) (fun _ hk => trivial)⟩, ⟨by repeat (first | (with_reducible first | exact HB.out | apply below_alloc | apply pw_below_drewN | apply below_drew1 | refine below_set ?_ GE789.out) | exact HB.out)⟩⟩
            · rw [if_neg c9] at H
              exact absurd H (by simp)
          · rw [if_neg c8] at H
            exact absurd H (by simp)
        · rw [if_neg c7] at H
          have c7b0 : decide (x13_1 < (t785.length : Int)) = false := decide_eq_false c7
          clear c7
          obtain rfl := Option.some.inj H
          go_wp2
          go_ret
          exact ⟨by first | rfl | (simp [errW_none, errW_some] <;> rfl) | (simp [*, errW_none, errW_some] <;> rfl), by repeat (first | (with_reducible first | exact HB.out | apply below_alloc | apply pw_below_drewN | apply below_drew1) | exact HB.out)⟩
  · rw [if_neg c3] at H
    have c3b0 : decide (1 ≤ a1) = false := decide_eq_false c3
    clear c3
    obtain rfl := Option.some.inj H
    go_enter Try.func47, Try.ntmps47
    go_wp2
    go_ret
    exact ⟨by first | rfl | (simp [errW_none, errW_some] <;> rfl) | (simp [*, errW_none, errW_some] <;> rfl), by repeat (first | (with_reducible first | exact HB.out | apply below_alloc | apply pw_below_drewN | apply below_drew1) | exact HB.out)⟩
def laws_FnExactMostOf.f (k : Nat) (l0 : List (S25)) (a1 : Int) : Option (Bool) := (laws_szColumnS.f k l0 1048576).bind fun t790 => (if t790 < 0 then (some true) else ((laws_toColumnS.f k l0).bind fun t791 => ((spec_MostOf.f k t791 a1).bind fun t794 => ((laws_toColumnS.f k l0).bind fun t795 => ((impl_MostOf.f k t795 a1).bind fun t798 => (if t798 = t794 then ((laws_toColumnS.f k l0).bind fun t799 => ((laws_eqColumnS.f k t795 t799).bind fun t802 => (if t802 = true then (some true) else (some false)))) else (some false)))))))
set_option maxHeartbeats 8000000 in
set_option maxRecDepth 100000 in
theorem laws_FnExactMostOf.calls (k : Nat) (A0 : Option Addr) (c0 : Nat) (l0 : List (S25)) (a1 : Int) (r : Bool) (w : World) (hr0 : Kd.C k25 w A0 l0.length l0) (hc0 : l0.length ≤ c0) (hr_ : Aside0 (r = true)) (h : laws_FnExactMostOf.f k l0 a1 = some r) :
    Calls Try.prog 11 #[.slice A0 l0.length c0, .int .i64 a1] w fun e w' => e = .returned (.bool r) ∧ Below w.heap.size w w' := by
  have HR0 := Aside0.mk hr0
  have HC0 := Aside0.mk hc0
  clear hr0 hc0
  have HB := Aside0.mk (Below.refl w.heap.size w)
  have H : ((laws_szColumnS.f k l0 1048576).bind fun t790 => (if t790 < 0 then (some true) else ((laws_toColumnS.f k l0).bind fun t791 => ((spec_MostOf.f k t791 a1).bind fun t794 => ((laws_toColumnS.f k l0).bind fun t795 => ((impl_MostOf.f k t795 a1).bind fun t798 => (if t798 = t794 then ((laws_toColumnS.f k l0).bind fun t799 => ((laws_eqColumnS.f k t795 t799).bind fun t802 => (if t802 = true then (some true) else (some false)))) else (some false)))))))) = some r := h
  clear h
  replace H := Option.bind_eq_some_iff.mp H
  obtain ⟨t790, A30, H⟩ := H
  replace H : (if t790 < 0 then (some true) else ((laws_toColumnS.f k l0).bind fun t791 => ((spec_MostOf.f k t791 a1).bind fun t794 => ((laws_toColumnS.f k l0).bind fun t795 => ((impl_MostOf.f k t795 a1).bind fun t798 => (if t798 = t794 then ((laws_toColumnS.f k l0).bind fun t799 => ((laws_eqColumnS.f k t795 t799).bind fun t802 => (if t802 = true then (some true) else (some false)))) else (some false))))))) = some r := H
  have A3 := Aside0.mk A30
  clear A30
  by_cases c4 : t790 < 0
  · rw [if_pos c4] at H
    have c4b0 : decide (t790 < 0) = true := decide_eq_true c4
    clear c4
    obtain rfl := Option.some.inj H
    go_enter Try.func11, Try.ntmps11
    go_wp2_with (first | ((with_reducible refine gate_callee (f := 27) rfl ?_); refine goesL_ (some 11) rfl rfl Try.func27 (by kernel_rfl) rfl #[.slice A0 l0.length c0, .int .i64 1048576] rfl (by (try simp only [List.map_toArray, List.map_cons, List.map_nil]); first | done | rfl | (simp only [List.length_drop, List.length_take]; rfl)) ?_; (with_reducible refine (laws_szColumnS.calls k _ _ l0 1048576 t790 _ ?side1 ?side2 A3.out).mono ?_); (case side1 => repeat (first | exact HR0.out | (with_reducible refine Kd.C_alloc ?_ _) | (with_reducible refine Kd.C_drewN ?_ _) | (with_reducible refine Kd.C_drew ?_))); (case side2 => exact HC0.out); rintro e w5 ⟨rfl, hb⟩; refine ⟨_, rfl, ?_⟩; have n0_ := Aside0.mk (below_step (by repeat (first | (with_reducible first | exact HB.out | apply below_alloc | apply pw_below_drewN | apply below_drew1) | exact HB.out)) hb); clear HB; have HB := n0_; clear n0_; (try clear hb); (try clear hb2); (try clear hk); (try clear hi)))
    go_ret
    exact ⟨by first | rfl | (simp [errW_none, errW_some] <;> rfl) | (simp [*, errW_none, errW_some] <;> rfl), by repeat (first | (with_reducible first | exact HB.out | apply below_alloc | apply pw_below_drewN | apply below_drew1) | exact HB.out)⟩
  · rw [if_neg c4] at H
    have c4b0 : decide (t790 < 0) = false := decide_eq_false c4
    clear c4
    replace H := Option.bind_eq_some_iff.mp H
    obtain ⟨t791, A60, H⟩ := H
    replace H : ((spec_MostOf.f k t791 a1).bind fun t794 => ((laws_toColumnS.f k l0).bind fun t795 => ((impl_MostOf.f k t795 a1).bind fun t798 => (if t798 = t794 then ((laws_toColumnS.f k l0).bind fun t799 => ((laws_eqColumnS.f k t795 t799).bind fun t802 => (if t802 = true then (some true) else (some false)))) else (some false))))) = some r := H
    have A6 := Aside0.mk A60
    clear A60
    replace H := Option.bind_eq_some_iff.mp H
    obtain ⟨t794, A70, H⟩ := H
    replace H : ((laws_toColumnS.f k l0).bind fun t795 => ((impl_MostOf.f k t795 a1).bind fun t798 => (if t798 = t794 then ((laws_toColumnS.f k l0).bind fun t799 => ((laws_eqColumnS.f k t795 t799).bind fun t802 => (if t802 = true then (some true) else (some false)))) else (some false)))) = some r := H
    have A7 := Aside0.mk A70
    clear A70
    replace H := Option.bind_eq_some_iff.mp H
    obtain ⟨t795, A80, H⟩ := H
    replace H : ((impl_MostOf.f k t795 a1).bind fun t798 => (if t798 = t794 then ((laws_toColumnS.f k l0).bind fun t799 => ((laws_eqColumnS.f k t795 t799).bind fun t802 => (if t802 = true then (some true) else (some false)))) else (some false))) = some r := H
    have A8 := Aside0.mk A80
    clear A80
    replace H := Option.bind_eq_some_iff.mp H
    obtain ⟨t798, A90, H⟩ := H
    replace H : (if t798 = t794 then ((laws_toColumnS.f k l0).bind fun t799 => ((laws_eqColumnS.f k t795 t799).bind fun t802 => (if t802 = true then (some true) else (some false)))) else (some false)) = some r := H
    have A9 := Aside0.mk A90
    clear A90
    by_cases c10 : t798 = t794
    · rw [if_pos c10] at H
      have c10b0 : (t798 == t794) = true := beq_iff_eq.mpr c10
      have c10b1 : (t798 != t794) = false := bne_eq_false_iff_eq.mpr c10
      clear c10
      replace H := Option.bind_eq_some_iff.mp H
      obtain ⟨t799, A110, H⟩ := H
      replace H : ((laws_eqColumnS.f k t795 t799).bind fun t802 => (if t802 = true then (some true) else (some false))) = some r := H
      have A11 := Aside0.mk A110
      clear A110
      replace H := Option.bind_eq_some_iff.mp H
      obtain ⟨t802, A120, H⟩ := H
      replace H : (if t802 = true then (some true) else (some false)) = some r := H
      have A12 := Aside0.mk A120
      clear A120
      by_cases c13 : t802 = true
      · subst c13
        have H1 : (some true) = some r := by rw [if_pos rfl] at H; exact H
        clear H
        have H := H1
        clear H1
        obtain rfl := Option.some.inj H
        go_enter Try.func11, Try.ntmps11
        go_wp2_with (first | ((with_reducible refine gate_callee (f := 27) rfl ?_); refine goesL_ (some 11) rfl rfl Try.func27 (by kernel_rfl) rfl #[.slice A0 l0.length c0, .int .i64 1048576] rfl (by (try simp only [List.map_toArray, List.map_cons, List.map_nil]); first | done | rfl | (simp only [List.length_drop, List.length_take]; rfl)) ?_; (with_reducible refine (laws_szColumnS.calls k _ _ l0 1048576 t790 _ ?side1 ?side2 A3.out).mono ?_); (case side1 => repeat (first | exact HR0.out | (with_reducible refine Kd.C_alloc ?_ _) | (with_reducible refine Kd.C_drewN ?_ _) | (with_reducible refine Kd.C_drew ?_))); (case side2 => exact HC0.out); rintro e w14 ⟨rfl, hb⟩; refine ⟨_, rfl, ?_⟩; have n0_ := Aside0.mk (below_step (by repeat (first | (with_reducible first | exact HB.out | apply below_alloc | apply pw_below_drewN | apply below_drew1) | exact HB.out)) hb); clear HB; have HB := n0_; clear n0_; (try clear hb); (try clear hb2); (try clear hk); (try clear hi)) | ((with_reducible refine gate_callee (f := 29) rfl ?_); refine goesL_ (some 15) rfl rfl Try.func29 (by kernel_rfl) rfl #[.slice A0 l0.length c0] rfl (by (try simp only [List.map_toArray, List.map_cons, List.map_nil]); first | done | rfl | (simp only [List.length_drop, List.length_take]; rfl)) ?_; (with_reducible refine (laws_toColumnS.calls k _ _ l0 t791 _ ?side1 ?side2 A6.out).mono ?_); (case side1 => repeat (first | exact (Kd.C_below HR0.out HB.out) | (with_reducible refine Kd.C_alloc ?_ _) | (with_reducible refine Kd.C_drewN ?_ _) | (with_reducible refine Kd.C_drew ?_))); (case side2 => exact HC0.out); rintro e w15 ⟨v792, rfl, ho0, hb⟩; refine ⟨_, rfl, ?_⟩; have n0_ := Aside0.mk (Kd.S_lower ho0 (below_size (by repeat (first | (with_reducible first | exact HB.out | apply below_alloc | apply pw_below_drewN | apply below_drew1) | exact HB.out)))); have n1_ := Aside0.mk (below_step (by repeat (first | (with_reducible first | exact HB.out | apply below_alloc | apply pw_below_drewN | apply below_drew1) | exact HB.out)) hb); clear HB; have HO793 := n0_; have HB := n1_; clear n0_ n1_; (try clear hb); (try clear hb2); (try clear hk); (try clear hi); (try clear ho0); obtain ⟨Ao16, co16, eo16⟩ := Kd.S_slice HO793.out; subst eo16) | ((with_reducible refine gate_callee (f := 46) rfl ?_); refine goesL_ (some 17) rfl rfl Try.func46 (by kernel_rfl) rfl #[.slice Ao16 t791.length co16, .int .i64 a1] rfl (by (try simp only [List.map_toArray, List.map_cons, List.map_nil]); first | done | rfl | (simp only [List.length_drop, List.length_take]; rfl)) ?_; (with_reducible refine (spec_MostOf.calls k _ _ t791 a1 t794 _ ?side1 ?side2 A7.out).mono ?_); (case side1 => repeat (first | exact (Kd.S_reads' HO793.out).2.2 | (with_reducible refine Kd.C_alloc ?_ _) | (with_reducible refine Kd.C_drewN ?_ _) | (with_reducible refine Kd.C_drew ?_))); (case side2 => exact (Kd.S_reads' HO793.out).2.1); rintro e w17 ⟨rfl, hb⟩; refine ⟨_, rfl, ?_⟩; have n0_ := Aside0.mk (Kd.S_below (by (with_reducible repeat (first | apply Kd.S_alloc | apply Kd.S_drewN | apply Kd.S_drew)); exact HO793.out) hb); have n1_ := Aside0.mk (below_step (by repeat (first | (with_reducible first | exact HB.out | apply below_alloc | apply pw_below_drewN | apply below_drew1) | exact HB.out)) hb); clear HO793; clear HB; have HO793 := n0_; have HB := n1_; clear n0_ n1_; (try clear hb); (try clear hb2); (try clear hk); (try clear hi)) | ((with_reducible refine gate_callee (f := 29) rfl ?_); refine goesL_ (some 19) rfl rfl Try.func29 (by kernel_rfl) rfl #[.slice A0 l0.length c0] rfl (by (try simp only [List.map_toArray, List.map_cons, List.map_nil]); first | done | rfl | (simp only [List.length_drop, List.length_take]; rfl)) ?_; (with_reducible refine (laws_toColumnS.calls k _ _ l0 t795 _ ?side1 ?side2 A8.out).mono ?_); (case side1 => repeat (first | exact (Kd.C_below HR0.out HB.out) | (with_reducible refine Kd.C_alloc ?_ _) | (with_reducible refine Kd.C_drewN ?_ _) | (with_reducible refine Kd.C_drew ?_))); (case side2 => exact HC0.out); rintro e w18 ⟨v796, rfl, ho0, hb⟩; refine ⟨_, rfl, ?_⟩; have n0_ := Aside0.mk (Kd.S_elder' (by (with_reducible repeat (first | apply Kd.S_alloc | apply Kd.S_drewN | apply Kd.S_drew)); exact HO793.out) (Kd.S_base ho0) hb); have n1_ := Aside0.mk (Kd.S_lower (Kd.S_new' ho0 (Kd.S_lt (by (with_reducible repeat (first | apply Kd.S_alloc | apply Kd.S_drewN | apply Kd.S_drew)); exact HO793.out))) (below_size (by repeat (first | (with_reducible first | exact HB.out | apply below_alloc | apply pw_below_drewN | apply below_drew1) | exact HB.out)))); have n2_ := Aside0.mk (below_step (by repeat (first | (with_reducible first | exact HB.out | apply below_alloc | apply pw_below_drewN | apply below_drew1) | exact HB.out)) hb); clear HO793; clear HB; have HO793 := n0_; have HO797 := n1_; have HB := n2_; clear n0_ n1_ n2_; (try clear hb); (try clear hb2); (try clear hk); (try clear hi); (try clear ho0); obtain ⟨Ao19, co19, eo19⟩ := Kd.S_slice HO797.out; subst eo19) | ((with_reducible refine gate_callee (f := 47) rfl ?_); refine goesL_ (some 22) rfl rfl Try.func47 (by kernel_rfl) rfl #[.slice Ao19 t795.length co19, .int .i64 a1] rfl (by (try simp only [List.map_toArray, List.map_cons, List.map_nil]); first | done | rfl | (simp only [List.length_drop, List.length_take]; rfl)) ?_; (with_reducible refine (impl_MostOf.calls k _ _ t795 a1 t798 _ ?side1 ?side2 A9.out).mono ?_); (case side1 => repeat (first | exact (Kd.S_reads' HO797.out).2.2 | (with_reducible refine Kd.C_alloc ?_ _) | (with_reducible refine Kd.C_drewN ?_ _) | (with_reducible refine Kd.C_drew ?_))); (case side2 => exact (Kd.S_reads' HO797.out).2.1); rintro e w20 ⟨rfl, hb⟩; refine ⟨_, rfl, ?_⟩; have n0_ := Aside0.mk (Kd.S_below (by (with_reducible repeat (first | apply Kd.S_alloc | apply Kd.S_drewN | apply Kd.S_drew)); exact HO793.out) hb); have n1_ := Aside0.mk (Kd.S_below (by (with_reducible repeat (first | apply Kd.S_alloc | apply Kd.S_drewN | apply Kd.S_drew)); exact HO797.out) hb); have n2_ := Aside0.mk (below_step (by repeat (first | (with_reducible first | exact HB.out | apply below_alloc | apply pw_below_drewN | apply below_drew1) | exact HB.out)) hb); clear HO793; clear HO797; clear HB; have HO793 := n0_; have HO797 := n1_; have HB := n2_; clear n0_ n1_ n2_; (try clear hb); (try clear hb2); (try clear hk); (try clear hi)) | ((with_reducible refine gate_callee (f := 29) rfl ?_); refine goesL_ (some 28) rfl rfl Try.func29 (by kernel_rfl) rfl #[.slice A0 l0.length c0] rfl (by (try simp only [List.map_toArray, List.map_cons, List.map_nil]); first | done | rfl | (simp only [List.length_drop, List.length_take]; rfl)) ?_; (with_reducible refine (laws_toColumnS.calls k _ _ l0 t799 _ ?side1 ?side2 A11.out).mono ?_); (case side1 => repeat (first | exact (Kd.C_below HR0.out HB.out) | (with_reducible refine Kd.C_alloc ?_ _) | (with_reducible refine Kd.C_drewN ?_ _) | (with_reducible refine Kd.C_drew ?_))); (case side2 => exact HC0.out); rintro e w21 ⟨v800, rfl, ho0, hb⟩; refine ⟨_, rfl, ?_⟩; have n0_ := Aside0.mk (Kd.S_elder' (by (with_reducible repeat (first | apply Kd.S_alloc | apply Kd.S_drewN | apply Kd.S_drew)); exact HO793.out) (Kd.S_base ho0) hb); have n1_ := Aside0.mk (Kd.S_elder' (by (with_reducible repeat (first | apply Kd.S_alloc | apply Kd.S_drewN | apply Kd.S_drew)); exact HO797.out) (Kd.S_base ho0) hb); have n2_ := Aside0.mk (Kd.S_lower (Kd.S_new' (Kd.S_new' ho0 (Kd.S_lt (by (with_reducible repeat (first | apply Kd.S_alloc | apply Kd.S_drewN | apply Kd.S_drew)); exact HO793.out))) (Kd.S_lt (by (with_reducible repeat (first | apply Kd.S_alloc | apply Kd.S_drewN | apply Kd.S_drew)); exact HO797.out))) (below_size (by repeat (first | (with_reducible first | exact HB.out | apply below_alloc | apply pw_below_drewN | apply below_drew1) | exact HB.out)))); have n3_ := Aside0.mk (below_step (by repeat (first | (with_reducible first | exact HB.out | apply below_alloc | apply pw_below_drewN | apply below_drew1) | exact HB.out)) hb); clear HO793; clear HO797; clear HB; have HO793 := n0_; have HO797 := n1_; have HO801 := n2_; have HB := n3_; clear n0_ n1_ n2_ n3_; (try clear hb); (try clear hb2); (try clear hk); (try clear hi); (try clear ho0); obtain ⟨Ao22, co22, eo22⟩ := Kd.S_slice HO801.out; subst eo22) | ((with_reducible refine gate_callee (f := 31) rfl ?_); refine goesL_ (some 29) rfl rfl Try.func31 (by kernel_rfl) rfl #[.slice Ao19 t795.length co19, .slice Ao22 t799.length co22] rfl (by (try simp only [List.map_toArray, List.map_cons, List.map_nil]); first | done | rfl | (simp only [List.length_drop, List.length_take]; rfl)) ?_; (with_reducible refine (laws_eqColumnS.calls k _ _ t795 _ _ t799 true _ ?side1 ?side2 ?side3 ?side4 A12.out).mono ?_); (case side1 => repeat (first | exact (Kd.S_reads' HO797.out).2.2 | (with_reducible refine Kd.C_alloc ?_ _) | (with_reducible refine Kd.C_drewN ?_ _) | (with_reducible refine Kd.C_drew ?_))); (case side2 => exact (Kd.S_reads' HO797.out).2.1); (case side3 => repeat (first | exact (Kd.S_reads' HO801.out).2.2 | (with_reducible refine Kd.C_alloc ?_ _) | (with_reducible refine Kd.C_drewN ?_ _) | (with_reducible refine Kd.C_drew ?_))); (case side4 => exact (Kd.S_reads' HO801.out).2.1); rintro e w23 ⟨rfl, hb⟩; refine ⟨_, rfl, ?_⟩; have n0_ := Aside0.mk (Kd.S_below (by (with_reducible repeat (first | apply Kd.S_alloc | apply Kd.S_drewN | apply Kd.S_drew)); exact HO793.out) hb); have n1_ := Aside0.mk (Kd.S_below (by (with_reducible repeat (first | apply Kd.S_alloc | apply Kd.S_drewN | apply Kd.S_drew)); exact HO797.out) hb); have n2_ := Aside0.mk (Kd.S_below (by (with_reducible repeat (first | apply Kd.S_alloc | apply Kd.S_drewN | apply Kd.S_drew)); exact HO801.out) hb); have n3_ := Aside0.mk (below_step (by repeat (first | (with_reducible first | exact HB.out | apply below_alloc | apply pw_below_drewN | apply below_drew1) | exact HB.out)) hb); clear HO793; clear HO797; clear HO801; clear HB; have HO793 := n0_; have HO797 := n1_; have HO801 := n2_; have HB := n3_; clear n0_ n1_ n2_ n3_; (try clear hb); (try clear hb2); (try clear hk); (try clear hi)))
        go_ret
        exact ⟨by first | rfl | (simp [errW_none, errW_some] <;> rfl) | (simp [*, errW_none, errW_some] <;> rfl), by repeat (first | (with_reducible first | exact HB.out | apply below_alloc | apply pw_below_drewN | apply below_drew1) | exact HB.out)⟩
      · replace c13 := Bool.eq_false_iff.mpr c13
        subst c13
        have H1 : (some false) = some r := by rw [if_neg (show ¬ (false = true) by decide)] at H; exact H
        clear H
        have H := H1
        clear H1
        exact absurd (Option.some.inj H) (by rw [hr_.out]; decide)
    · rw [if_neg c10] at H
      have c10b0 : (t798 == t794) = false := beq_eq_false_iff_ne.mpr c10
      have c10b1 : (t798 != t794) = true := bne_iff_ne.mpr c10
      exact absurd (Option.some.inj H) (by rw [hr_.out]; decide)
end Go.Proofs.Ytghfeapncmlihaa.A

namespace Go.Proofs.Ytghfeapncmlihaa.A
open Go.ChangeShapes Go.WideShapes Go.ChangeAt Go.RowKit Go.Proofs.YtghfeapncmlihaaW.PrintWords Go.Proofs.YtghfeapncmlihaaW.PrintLast
set_option linter.unusedVariables false
set_option linter.unusedSimpArgs false
def Opn {α : Type} (P : Program) (t : TypeId) (d : Kd α) (ok : α → Prop) : Prop :=
  ∀ {H : Type} {enc : TypeId × Value → H} (w : World) (fuel : Nat) (cs : List Value) (x : DataW H × List MemPlace),
    DataW.trod enc P w 0 (fun _ => true) true fuel t cs = some x → ∃ a, d.K w a cs ∧ ok a
theorem opn_int {P : Program} {t : TypeId} {k : IntKind} (ht : P.underlying t = some (.int k)) : Opn P t (Kd.int k) (fun a => (Lit.int k a).wf = true) := by
  intro H enc w fuel cs x h
  obtain ⟨n, rfl, _, hw⟩ := DataW.trod_int ht h
  exact ⟨n, rfl, hw⟩
theorem opn_bool {P : Program} {t : TypeId} (ht : P.underlying t = some .bool) : Opn P t Kd.bool (fun _ => True) := by
  intro H enc w fuel cs x h
  obtain ⟨b, rfl, _⟩ := DataW.trod_bool ht h
  exact ⟨b, rfl, trivial⟩
theorem add_add_ (a : Addr) (i j : Nat) : (a.add i).add j = a.add (i + j) := by
  unfold Addr.add
  by_cases hi : i = 0
  · subst hi; simp
  · by_cases hj : j = 0
    · subst hj; simp
    · rw [if_neg hi, if_neg hj, if_neg (by omega)]
      simp; omega
theorem cells_at {w : World} {base : Nat} {a : Addr} {n : Nat} {cs : List Value} (h : w.cells? base a n = some cs) : cs.length = n ∧ ∀ i u, cs[i]? = some u → w.cell? (a.add i) = some u := by
  unfold World.cells? at h
  split at h
  · have l := mapM_some_length h
    simp only [List.length_range] at l
    refine ⟨l, fun i u hu => ?_⟩
    have hi := (List.getElem?_eq_some_iff.1 hu).1
    have := mapM_some_get h i i (by simp [show i < n by omega])
    rw [this]; exact hu
  · cases h
theorem choose_list {α : Type} {Q : Nat → α → Prop} (m : Nat) (h : ∀ i, i < m → ∃ v, Q i v) : ∃ l : List α, l.length = m ∧ ∀ i v, l[i]? = some v → Q i v := by
  induction m with
  | zero => exact ⟨[], rfl, fun i v hv => by simp at hv⟩
  | succ m ih =>
    obtain ⟨l, hl, hq⟩ := ih (fun i hi => h i (by omega))
    obtain ⟨v, hv⟩ := h m (by omega)
    refine ⟨l ++ [v], by simp [hl], fun i u hu => ?_⟩
    rcases Nat.lt_trichotomy i m with hi | hi | hi
    · rw [List.getElem?_append_left (by omega)] at hu
      exact hq i u hu
    · subst hi
      rw [List.getElem?_append_right (by omega), hl, Nat.sub_self] at hu
      have : v = u := by simpa using hu
      exact this ▸ hv
    · rw [List.getElem?_eq_none (by simp; omega)] at hu
      cases hu
theorem opn_slice {α : Type} {P : Program} {t e : TypeId} {d : Kd α} {ok : α → Prop} (ht : P.underlying t = some (.slice e)) (hs : P.cellsOf e = d.sz) (ho : Opn P e d ok) :
    Opn P t (Kd.slice e d) (fun l => l.length ≤ maxLen ∧ ∀ x ∈ l, ok x) := by
  intro H enc w fuel cs x h
  rcases DataW.trod_slice ht h with ⟨rfl, _⟩ | ⟨a, len, cap, elems, rest, n, _, rfl, _, _, hl, hm, hlen, hel, _, _⟩
  · exact ⟨[], ⟨none, 0, rfl, Nat.le_refl _, rfl, Nat.zero_le _, fun h => absurd h (by simp)⟩, by simp, by simp⟩
  · have each : ∀ i, i < len → ∃ v, ok v ∧ ∃ c, c.length = d.sz ∧ d.K w v c ∧ ∀ j u, c[j]? = some u → w.cell? (a.add (i * d.sz + j)) = some u := by
      intro i hi
      have h1 := hel i hi
      rw [List.getElem?_eq_getElem (by omega)] at h1
      obtain ⟨c, hc, hr⟩ := Option.bind_eq_some_iff.1 h1
      obtain ⟨v, hk, hv⟩ := ho w n c _ hr
      obtain ⟨_, hcell⟩ := cells_at hc
      refine ⟨v, hv, c, d.K_len hk, hk, fun j u hu => ?_⟩
      have := hcell j u hu
      rw [hs, add_add_] at this
      exact this
    obtain ⟨l, hll, hq⟩ := choose_list len each
    subst hll
    have hm' : l.length ≤ maxLen := Nat.le_trans hl hm
    refine ⟨l, ⟨some a, cap, rfl, hl, rfl, by unfold maxLen at hm'; omega, fun _ => ⟨a, rfl, fun j p hp => ?_⟩⟩, hm', fun v hv => ?_⟩
    · obtain ⟨_, c, h1, h2, h3⟩ := hq j p hp
      exact ⟨c, h1, h2, h3⟩
    · obtain ⟨i, hi, rfl⟩ := List.getElem_of_mem hv
      exact (hq i _ (List.getElem?_eq_getElem hi)).1
theorem opn_top {α : Type} {H : Type} {enc : TypeId × Value → H} {P : Program} {w : World} {t : TypeId} {d : Kd α} {ok : α → Prop} {v : Value} {x : DataW H} {ps : List MemPlace} (ho : Opn P t d ok)
    (h : DataW.Trod enc P w 0 (fun _ => true) true t v x ps) : ∃ a, d.K w a v.cells.toList ∧ ok a := by
  obtain ⟨fuel, hf⟩ := h
  exact ho w fuel _ _ hf
theorem slice_eq {a b : Option Addr} {l m c q : Nat} (h : (Value.slice a l c).cells.toList = [.slice b m q]) : a = b ∧ l = m ∧ c = q := by
  simpa [Value.cells] using h
abbrev ok3 (a : Int) : Prop := (Lit.int .i64 a).wf = true
abbrev ok4 (_ : Bool) : Prop := True
abbrev ok22 (l : List Int) : Prop := l.length ≤ maxLen ∧ ∀ x ∈ l, ok3 x
abbrev ok93 (x : S93) : Prop := ok3 x.f0 ∧ ok3 x.f1 ∧ ok3 x.f2 ∧ ok4 x.f3
abbrev ok23 (l : List (S93)) : Prop := l.length ≤ maxLen ∧ ∀ x ∈ l, ok93 x
abbrev ok25 (x : S25) : Prop := ok3 x.f0 ∧ ok22 x.f1 ∧ ok23 x.f2
abbrev ok41 (l : List (S25)) : Prop := l.length ≤ maxLen ∧ ∀ x ∈ l, ok25 x
theorem op3 : Opn Try.prog 3 (Kd.int .i64) ok3 := opn_int Try.underlying3
theorem op4 : Opn Try.prog 4 Kd.bool ok4 := opn_bool Try.underlying4
theorem op22 : Opn Try.prog 22 (Kd.slice 3 (Kd.int .i64)) ok22 := opn_slice Try.underlying22 (by kernel_rfl) op3
set_option maxRecDepth 100000 in
theorem op93 : Opn Try.prog 93 k93 ok93 := by
  intro H enc w fuel cs x h
  obtain ⟨xs, n, _, _, hl, hlen, hf⟩ := DataW.trod_struct Try.underlying93 h
  have hl' : cs.length = 4 := hl.trans (by kernel_rfl)
  match cs, hl' with
  | [c0, c1, c2, c3], _ =>
    match xs, hlen with
    | [y0, y1, y2, y3], _ =>
    obtain ⟨a0, q0, z0⟩ := op3 (H := H) (enc := enc) w n [c0] y0 (hf 0 _ rfl)
    obtain ⟨a1, q1, z1⟩ := op3 (H := H) (enc := enc) w n [c1] y1 (hf 1 _ rfl)
    obtain ⟨a2, q2, z2⟩ := op3 (H := H) (enc := enc) w n [c2] y2 (hf 2 _ rfl)
    obtain ⟨a3, q3, z3⟩ := op4 (H := H) (enc := enc) w n [c3] y3 (hf 3 _ rfl)
    exact ⟨⟨a0, a1, a2, a3⟩, ⟨[c0], [c1, c2, c3], rfl, q0, ⟨[c1], [c2, c3], rfl, q1, ⟨[c2], [c3], rfl, q2, q3⟩⟩⟩, ⟨z0, z1, z2, z3⟩⟩
theorem op23 : Opn Try.prog 23 (Kd.slice 93 k93) ok23 := opn_slice Try.underlying23 (by kernel_rfl) op93
set_option maxRecDepth 100000 in
theorem op25 : Opn Try.prog 25 k25 ok25 := by
  intro H enc w fuel cs x h
  obtain ⟨xs, n, _, _, hl, hlen, hf⟩ := DataW.trod_struct Try.underlying25 h
  have hl' : cs.length = 3 := hl.trans (by kernel_rfl)
  match cs, hl' with
  | [c0, c1, c2], _ =>
    match xs, hlen with
    | [y0, y1, y2], _ =>
    obtain ⟨a0, q0, z0⟩ := op3 (H := H) (enc := enc) w n [c0] y0 (hf 0 _ rfl)
    obtain ⟨a1, q1, z1⟩ := op22 (H := H) (enc := enc) w n [c1] y1 (hf 1 _ rfl)
    obtain ⟨a2, q2, z2⟩ := op23 (H := H) (enc := enc) w n [c2] y2 (hf 2 _ rfl)
    exact ⟨⟨a0, a1, a2⟩, ⟨[c0], [c1, c2], rfl, q0, ⟨[c1], [c2], rfl, q1, q2⟩⟩, ⟨z0, z1, z2⟩⟩
theorem op41 : Opn Try.prog 41 (Kd.slice 25 k25) ok41 := opn_slice Try.underlying41 (by kernel_rfl) op25
end Go.Proofs.Ytghfeapncmlihaa.A

namespace Go.Proofs.Ytghfeapncmlihaa.A
open Go.RowKit Go.Proofs.YtghfeapncmlihaaW.PrintWords Go.Proofs.YtghfeapncmlihaaW.PrintLast Go.Proofs.YtghfeapncmlihaaW.PrintMore
set_option linter.unusedVariables false
set_option linter.unusedSimpArgs false
def Ev {α : Type} (F : Nat → Option α) (r : α) : Prop := ∃ K, ∀ k, K ≤ k → F k = some r
theorem Ev.mk {α : Type} {F : Nat → Option α} {r : α} (K : Nat) (h : ∀ k, K < k → F k = some r) : Ev F r := ⟨K + 1, fun k hk => h k hk⟩
theorem Ev.get {α : Type} {F : Nat → Option α} {r : α} (h : Ev F r) : ∃ k, F k = some r := by
  obtain ⟨K, h⟩ := h
  exact ⟨K, h K (Nat.le_refl _)⟩
theorem Ev.const {α : Type} {o : Option α} {r : α} (h : o = some r) : Ev (fun _ => o) r := ⟨0, fun _ _ => h⟩
theorem Ev.ret {α : Type} (r : α) : Ev (fun _ => some r) r := ⟨0, fun _ _ => rfl⟩
theorem Ev.bind {α β : Type} {F : Nat → Option α} {G : Nat → α → Option β} {a : α} {b : β} (h1 : Ev F a) (h2 : Ev (fun k => G k a) b) : Ev (fun k => (F k).bind (G k)) b := by
  obtain ⟨K1, h1⟩ := h1
  obtain ⟨K2, h2⟩ := h2
  refine ⟨max K1 K2, fun k hk => ?_⟩
  show (F k).bind (G k) = some b
  rw [h1 k (by omega)]
  exact h2 k (by omega)
theorem Ev.pos {α : Type} {c : Prop} [Decidable c] {A B : Nat → Option α} {r : α} (h : c) (hA : Ev A r) : Ev (fun k => if c then A k else B k) r := by
  obtain ⟨K, hA⟩ := hA
  exact ⟨K, fun k hk => by show (if c then A k else B k) = some r; rw [if_pos h]; exact hA k hk⟩
theorem Ev.neg {α : Type} {c : Prop} [Decidable c] {A B : Nat → Option α} {r : α} (h : ¬ c) (hB : Ev B r) : Ev (fun k => if c then A k else B k) r := by
  obtain ⟨K, hB⟩ := hB
  exact ⟨K, fun k hk => by show (if c then A k else B k) = some r; rw [if_neg h]; exact hB k hk⟩
theorem Ev.ite {α : Type} {c : Prop} [Decidable c] {A B : Nat → Option α} {a b : α} (hA : c → Ev A a) (hB : ¬ c → Ev B b) : Ev (fun k => if c then A k else B k) (if c then a else b) := by
  by_cases h : c
  · rw [if_pos h]; exact Ev.pos h (hA h)
  · rw [if_neg h]; exact Ev.neg h (hB h)
theorem Ev.succ {α : Type} {F : Nat → Option α} {r : α} (h : Ev (fun k => F (k + 1)) r) : Ev F r := by
  obtain ⟨K, h⟩ := h
  refine ⟨K + 1, fun k hk => ?_⟩
  obtain ⟨m, rfl⟩ : ∃ m, k = m + 1 := ⟨k - 1, by omega⟩
  exact h m (by omega)
theorem Ev.of_eq {α : Type} {F G : Nat → Option α} {r : α} (h : Ev F r) (e : ∀ k, G k = F k) : Ev G r := by
  obtain ⟨K, h⟩ := h
  exact ⟨K, fun k hk => (e k).trans (h k hk)⟩
theorem Ev.to {α : Type} {F : Nat → Option α} {r s : α} (h : Ev F r) (e : r = s) : Ev F s := e ▸ h
theorem getD_gen {α : Type} {l : List α} {i : Nat} (d : α) (h : i < l.length) : l.getD i d = l[i] := by
  rw [List.getD_eq_getElem?_getD, List.getElem?_eq_getElem h]; rfl
theorem wsucc (i : Nat) (h : i < 9223372036854775807) : wrap64 ((i : Int) + 1) = ((i + 1 : Nat) : Int) := by unfold wrap64; omega
theorem wpred (i : Nat) (h : 0 < i) (h2 : i ≤ 9223372036854775807) : wrap64 ((i : Int) - 1) = ((i - 1 : Nat) : Int) := by unfold wrap64; omega
theorem wid (x : Int) (h : -9223372036854775808 ≤ x) (h2 : x ≤ 9223372036854775807) : wrap64 x = x := by unfold wrap64; omega
theorem all_loop {L : Nat → Int → Option Bool} {n : Nat} {P : Nat → Bool} (h : ∀ k i, i < n → L (k + 1) (i : Int) = if P i = true then L k ((i + 1 : Nat) : Int) else some false)
    (he : ∀ k, L (k + 1) (n : Int) = some true) (d : Nat) : ∀ k i, i + d = n → d < k → L k (i : Int) = some ((List.range' i d).all P) := by
  induction d with
  | zero =>
    intro k i hi hk
    obtain ⟨k, rfl⟩ : ∃ m, k = m + 1 := ⟨k - 1, by omega⟩
    obtain rfl : i = n := by omega
    rw [he]; rfl
  | succ d ih =>
    intro k i hi hk
    obtain ⟨k, rfl⟩ : ∃ m, k = m + 1 := ⟨k - 1, by omega⟩
    rw [h k i (by omega), List.range'_succ, List.all_cons]
    by_cases hp : P i = true
    · rw [if_pos hp, ih k (i + 1) (by omega) (by omega), hp, Bool.true_and]
    · rw [if_neg hp]
      have : P i = false := by simpa using hp
      rw [this, Bool.false_and]
theorem map_loop {α β : Type} {L : Nat → List β → Int → Option (List β)} {xs : List α} {g : α → β} (d0 : α)
    (h : ∀ k acc (i : Nat), i < xs.length → acc.length = xs.length → L (k + 1) acc (i : Int) = L k (acc.set i (g (xs.getD i d0))) ((i + 1 : Nat) : Int))
    (he : ∀ k acc, L (k + 1) acc (xs.length : Int) = some acc) (d : Nat) :
    ∀ k acc i, i + d = xs.length → d < k → acc.length = xs.length → (∀ j, j < i → acc[j]? = (xs.map g)[j]?) → L k acc (i : Int) = some (xs.map g) := by
  induction d with
  | zero =>
    intro k acc i hi hk hl hp
    obtain ⟨k, rfl⟩ : ∃ m, k = m + 1 := ⟨k - 1, by omega⟩
    obtain rfl : i = xs.length := by omega
    rw [he]
    congr 1
    apply List.ext_getElem?
    intro j
    by_cases hj : j < xs.length
    · exact hp j hj
    · rw [List.getElem?_eq_none (by omega), List.getElem?_eq_none (by simp; omega)]
  | succ d ih =>
    intro k acc i hi hk hl hp
    obtain ⟨k, rfl⟩ : ∃ m, k = m + 1 := ⟨k - 1, by omega⟩
    rw [h k acc i (by omega) hl]
    refine ih k _ (i + 1) (by omega) (by omega) (by simp [hl]) (fun j hj => ?_)
    by_cases e : i = j
    · subst e
      rw [List.getElem?_set_self (by omega), List.getElem?_map, List.getElem?_eq_getElem (show i < xs.length by omega), List.getD_eq_getElem?_getD, List.getElem?_eq_getElem (show i < xs.length by omega)]
      rfl
    · rw [List.getElem?_set_ne e]
      exact hp j (by omega)
theorem in_eq (a b c : Int) : spec_l01In.f a b c = some (decide (b ≤ a ∧ a ≤ c)) := by
  unfold spec_l01In.f
  split
  · congr 1; rw [decide_eq_decide]; omega
  · congr 1; exact (decide_eq_false (by omega)).symm
def boxS : List S71 → Int → List Int → Option Int
  | [], low, _ => some low
  | b :: bs, low, ps => if b.f0 = low ∧ (1 ≤ b.f1 ∧ b.f1 ≤ 24) ∧ (0 ≤ b.f2 ∧ b.f2 ≤ 999) ∧ ¬ (0 < b.f2 ∧ b.f2 ∈ ps) ∧ low + b.f1 ≤ 24 then boxS bs (low + b.f1) (b.f2 :: ps) else none
def boxesS (h : Int) (bx : List S71) (o : Option Int) : Bool := match o with | none => false | some low => decide (bx ≠ []) && decide (low = h)
theorem boxes_in (h : Int) (fx : List Int) (bx : List S71) (at_ : Int) (i : Nat) (hi : i < bx.length) (hi2 : i ≤ 24) (b : S71) (P : Prop) [Decidable P] (hP : P ↔ (0 < b.f2 ∧ ∃ j, j < i ∧ (bx.getD j z71).f2 = b.f2)) (d : Nat) :
    ∀ (k j : Nat), j + d = i → d < k → (∀ m, m < j → 0 < b.f2 → (bx.getD m z71).f2 ≠ b.f2) → spec_l02Boxes.l1 k at_ (i : Int) (j : Int) h fx bx b.f0 b.f1 b.f2 b.f3 = if P then some false else (if (wrap64 (at_ + b.f1)) > 24 then (some false) else (spec_l02Boxes.l0 (k - d - 1) (wrap64 (at_ + b.f1)) ((i + 1 : Nat) : Int) h fx bx)) := by
  induction d with
  | zero =>
    intro k j hj hk hn
    obtain ⟨k, rfl⟩ : ∃ m, k = m + 1 := ⟨k - 1, by omega⟩
    simp only [spec_l02Boxes.l1]
    have hnp : ¬ P := fun hp => by obtain ⟨h0, m, hm, e⟩ := hP.mp hp; exact hn m (by omega) h0 e
    rw [if_neg (by omega), if_neg hnp, wsucc i (by omega)]
    rfl
  | succ d ih =>
    intro k j hj hk hn
    obtain ⟨k, rfl⟩ : ∃ m, k = m + 1 := ⟨k - 1, by omega⟩
    simp only [spec_l02Boxes.l1]
    have er : rd_T71 bx (j : Int) = bx.getD j z71 := rfl
    rw [if_pos (by omega), er, wsucc j (by omega)]
    by_cases c0 : b.f2 > 0
    · rw [if_pos c0, if_pos (by omega), if_pos (by omega)]
      by_cases c1 : (bx.getD j z71).f2 = b.f2
      · rw [if_pos c1, if_pos (hP.mpr ⟨c0, j, by omega, c1⟩)]
      · rw [if_neg c1, ih k (j + 1) (by omega) (by omega) (fun m hm h0 => by
          by_cases e : m = j
          · subst e; exact c1
          · exact hn m (by omega) h0), show k + 1 - (d + 1) - 1 = k - d - 1 by omega]
    · rw [if_neg c0, ih k (j + 1) (by omega) (by omega) (fun m hm h0 => absurd h0 c0), show k + 1 - (d + 1) - 1 = k - d - 1 by omega]
theorem drop_cons {α : Type} (l : List α) (d : α) (i : Nat) (hi : i < l.length) : l.drop i = l.getD i d :: l.drop (i + 1) := by
  rw [List.drop_eq_getElem_cons hi, getD_gen d hi]
theorem boxes_loop (h : Int) (fx : List Int) (bx : List S71) (hl : bx.length ≤ 140737488351232) : ∀ (d k i : Nat) (at_ : Int) (ps : List Int), (24 - at_).toNat = d → 0 ≤ at_ → at_ ≤ 24 → (i : Int) ≤ at_ → i ≤ bx.length → (d + 2) * 40 < k →
    (∀ x, x ∈ ps ↔ ∃ j, j < i ∧ (bx.getD j z71).f2 = x) → spec_l02Boxes.l0 k at_ (i : Int) h fx bx = some (boxesS h bx (boxS (bx.drop i) at_ ps)) := by
  intro d
  induction d using Nat.strongRecOn with
  | _ d ih =>
  intro k i at_ ps hd h0 h1 hi hil hk hps
  obtain ⟨k, rfl⟩ : ∃ m, k = m + 2 := ⟨k - 2, by omega⟩
  simp only [spec_l02Boxes.l0]
  by_cases c : i < bx.length
  · have er : rd_T71 bx (i : Int) = bx.getD i z71 := rfl
    rw [if_pos (by omega), if_pos (by omega), drop_cons bx z71 i c, er]
    simp only [in_eq, Option.bind_some, boxS]
    generalize hb : bx.getD i z71 = b
    by_cases c0 : b.f0 = at_
    · rw [if_pos c0]
      by_cases c1 : 1 ≤ b.f1 ∧ b.f1 ≤ 24
      · rw [if_pos (decide_eq_true c1)]
        by_cases c2 : 0 ≤ b.f2 ∧ b.f2 ≤ 999
        · simp only [decide_eq_true c2, spec_l02Boxes.j1, Bool.not_true]
          rw [if_neg (by simp)]
          have hin := boxes_in h fx bx at_ i c (by omega) b (0 < b.f2 ∧ b.f2 ∈ ps) (by rw [hps]) i k 0 (by omega) (by omega) (fun m hm => by omega)
          refine hin.trans ?_
          by_cases c3 : 0 < b.f2 ∧ b.f2 ∈ ps
          · rw [if_pos c3, if_neg (fun h => h.2.2.2.1 c3)]; rfl
          · rw [if_neg c3, wid (at_ + b.f1) (by omega) (by omega)]
            by_cases c4 : at_ + b.f1 > 24
            · rw [if_pos c4, if_neg (fun h => by have := h.2.2.2.2; omega)]; rfl
            · rw [if_neg c4, if_pos ⟨c0, c1, c2, c3, by omega⟩]
              refine ih (24 - (at_ + b.f1)).toNat (by omega) _ (i + 1) (at_ + b.f1) (b.f2 :: ps) rfl (by omega) (by omega) (by omega) (by omega) (by omega) (fun x => ?_)
              rw [List.mem_cons, hps]
              constructor
              · rintro (rfl | ⟨j, hj, e⟩)
                · exact ⟨i, by omega, by rw [hb]⟩
                · exact ⟨j, by omega, e⟩
              · rintro ⟨j, hj, e⟩
                by_cases ej : j = i
                · subst ej; left; rw [← e, hb]
                · right; exact ⟨j, by omega, e⟩
        · simp only [decide_eq_false c2, spec_l02Boxes.j1, Bool.not_false]
          rw [if_pos trivial, if_neg (fun h => c2 h.2.2.1)]; rfl
      · rw [if_neg (by simpa using c1)]
        simp only [spec_l02Boxes.j1]
        rw [if_pos trivial, if_neg (fun h => c1 h.2.1)]; rfl
    · rw [if_neg c0]
      simp only [spec_l02Boxes.j1]
      rw [if_pos trivial, if_neg (fun h => c0 h.1)]; rfl
  · rw [if_neg (by omega), List.drop_eq_nil_of_le (by omega)]
    simp only [boxS, boxesS]
    by_cases c0 : (bx.length : Int) > 0
    · have hne : bx ≠ [] := by intro e; rw [e] at c0; simp at c0
      rw [if_pos c0, decide_eq_true hne, Bool.true_and]
      congr 1
    · have hne : ¬ bx ≠ [] := by intro e; exact e (List.length_eq_zero_iff.mp (by omega))
      rw [if_neg c0, decide_eq_false hne, Bool.false_and]
theorem boxes_eq (h : Int) (fx : List Int) (bx : List S71) (hl : bx.length ≤ 140737488351232) (k : Nat) (hk : 1100 < k) : spec_l02Boxes.f k h fx bx = some (boxesS h bx (boxS bx 0 [])) := by
  unfold spec_l02Boxes.f
  have := boxes_loop h fx bx hl 24 k 0 0 [] (by omega) (by omega) (by omega) (by omega) (by omega) (by omega) (by simp)
  exact this
theorem boxS_le : ∀ (bs : List S71) (low : Int) (ps : List Int) (e : Int), boxS bs low ps = some e → low ≤ e ∧ (bs.length : Int) ≤ e - low ∧ (low ≤ 24 → e ≤ 24)
  | [], low, ps, e, h => by simp [boxS] at h; subst h; exact ⟨by omega, by simp, id⟩
  | b :: bs, low, ps, e, h => by
    simp only [boxS] at h
    split at h
    · next hc =>
      obtain ⟨h1, h2, h3⟩ := boxS_le bs _ _ _ h
      exact ⟨by omega, by simp; omega, fun _ => h3 (by omega)⟩
    · simp at h
theorem boxP_S (h : Int) (hh : h ≤ 24) : ∀ (bs : List S71) (low : Int) (ls ps : List Int) (e : Int) (ls' : List Int), 0 ≤ low → boxP h bs low ls ps = some (e, ls') → boxS bs low ps = some e ∧ ∀ f, f ∈ ls' ↔ f ∈ ls ∨ f ∈ bs.map (fun b => b.f0)
  | [], low, ls, ps, e, ls', h0, hb => by
    simp only [boxP, Option.some.injEq, Prod.mk.injEq] at hb
    obtain ⟨rfl, rfl⟩ := hb
    exact ⟨rfl, fun f => by simp⟩
  | b :: bs, low, ls, ps, e, ls', h0, hb => by
    simp only [boxP] at hb
    split at hb
    · next hc =>
      obtain ⟨h1, h2⟩ := boxP_S h hh bs _ _ _ _ _ (by omega) hb
      refine ⟨?_, fun f => ?_⟩
      · simp only [boxS]
        rw [if_pos ⟨hc.1, ⟨hc.2.1.1, by omega⟩, hc.2.2.1, hc.2.2.2, by omega⟩]
        exact h1
      · rw [h2 f, List.mem_cons, List.map_cons, List.mem_cons]
        constructor
        · rintro ((h | h) | h)
          · exact Or.inr (Or.inl h)
          · exact Or.inl h
          · exact Or.inr (Or.inr h)
        · rintro (h | h | h)
          · exact Or.inl (Or.inr h)
          · exact Or.inl (Or.inl h)
          · exact Or.inr h
    · simp at hb
theorem boxS_P (h : Int) : ∀ (bs : List S71) (low : Int) (ls ps : List Int), boxS bs low ps = some h → ∃ ls', boxP h bs low ls ps = some (h, ls')
  | [], low, ls, ps, hb => by
    simp only [boxS, Option.some.injEq] at hb
    subst hb
    exact ⟨ls, rfl⟩
  | b :: bs, low, ls, ps, hb => by
    simp only [boxS] at hb
    split at hb
    · next hc =>
      have hle := (boxS_le bs _ _ _ hb).1
      obtain ⟨ls', h1⟩ := boxS_P h bs _ (b.f0 :: ls) _ hb
      refine ⟨ls', ?_⟩
      simp only [boxP]
      rw [if_pos ⟨hc.1, ⟨hc.2.1.1, by omega⟩, hc.2.2.1, hc.2.2.2.1⟩]
      exact h1
    · simp at hb
theorem colS_eq (h : Int) (fx : List Int) (bx : List S71) : (decide (1 ≤ h ∧ h ≤ 24) && (boxesS h bx (boxS bx 0 []) && (fixP h none fx && fx.all (fun f => decide (f ∈ bx.map (fun b => b.f0)))))) = colP h fx bx := by
  unfold colP
  by_cases hh : 1 ≤ h ∧ h ≤ 24
  · rw [decide_eq_true hh, Bool.true_and, Bool.true_and]
    cases hP : boxP h bx 0 [] [] with
    | none =>
      have hf : boxesS h bx (boxS bx 0 []) = false := by
        cases hS : boxS bx 0 [] with
        | none => rfl
        | some e =>
          by_cases c : e = h
          · subst c
            obtain ⟨ls', hl⟩ := boxS_P e bx 0 [] [] hS
            rw [hl] at hP; simp at hP
          · simp [boxesS, c]
      rw [hf]; simp
    | some z =>
      obtain ⟨e, ls⟩ := z
      obtain ⟨h1, h2⟩ := boxP_S h hh.2 bx 0 [] [] e ls (by omega) hP
      have ha : fx.all (fun f => decide (f ∈ bx.map (fun b => b.f0))) = fx.all (fun f => decide (f ∈ ls)) := by
        congr 1
        funext f
        rw [decide_eq_decide, h2 f]
        simp
      rw [h1, ha]
      simp only [boxesS]
      cases decide (bx ≠ []) <;> cases decide (e = h) <;> cases fixP h none fx <;> cases fx.all (fun f => decide (f ∈ ls)) <;> rfl
  · rw [decide_eq_false hh, Bool.false_and, Bool.false_and, Bool.false_and, Bool.false_and]
def fixS (h : Int) (L : List Int) : Option Int → List Int → Bool
  | _, [] => true
  | p, f :: fs => decide (1 ≤ f ∧ f ≤ h - 1) && (match p with | none => true | some q => decide (q < f)) && decide (f ∈ L) && fixS h L (some f) fs
theorem fixS_eq (h : Int) (L : List Int) : ∀ (fs : List Int) (p : Option Int), fixS h L p fs = (fixP h p fs && fs.all (fun f => decide (f ∈ L)))
  | [], p => rfl
  | f :: fs, p => by
    simp only [fixS, fixP, List.all_cons]
    rw [fixS_eq h L fs (some f)]
    ac_rfl
theorem drop_step {α : Type} {l : List α} {i : Nat} {b : α} {rest : List α} (d : α) (h : l.drop i = b :: rest) : i < l.length ∧ l.getD i d = b ∧ l.drop (i + 1) = rest := by
  have hi : i < l.length := by
    apply Classical.byContradiction
    intro c
    rw [List.drop_eq_nil_of_le (by omega)] at h
    cases h
  have h2 := drop_cons l d i hi
  rw [h] at h2
  injection h2 with h3 h4
  exact ⟨hi, h3.symm, h4.symm⟩
theorem drop_end {α : Type} {l : List α} {i : Nat} (h : l.drop i = []) (hi : i ≤ l.length) : i = l.length := by
  have := List.drop_eq_nil_iff.mp h
  omega
theorem found_ev (h : Int) (fx : List Int) (bx : List S71) (i : Nat) (hi : i < fx.length) (hi2 : i ≤ 140737488351232) (hl : bx.length ≤ 24) (s : Bool) (hs : Ev (fun k => spec_ColumnOk.l0 k ((i + 1 : Nat) : Int) h fx bx) s) :
    ∀ (rest : List S71) (j : Nat) (b : Bool), bx.drop j = rest → j ≤ bx.length → Ev (fun k => spec_ColumnOk.l1 k (i : Int) b (j : Int) h fx bx) (if (b || rest.any (fun x => decide (x.f0 = fx.getD i 0))) = true then s else false)
  | [], j, b, hd, hj => by
    refine Ev.succ ?_
    simp only [spec_ColumnOk.l1]
    have he := drop_end hd hj
    refine Ev.neg (by omega) ?_
    rw [List.any_nil, Bool.or_false, wsucc i (by omega)]
    exact Ev.ite (fun _ => hs) (fun _ => Ev.ret _)
  | x :: rest, j, b, hd, hj => by
    obtain ⟨h1, h2, h3⟩ := drop_step z71 hd
    refine Ev.succ ?_
    simp only [spec_ColumnOk.l1]
    refine Ev.pos (by omega) ?_
    rw [wsucc j (by omega), List.any_cons]
    cases b with
    | true =>
      refine Ev.pos rfl ?_
      refine (found_ev h fx bx i hi hi2 hl s hs rest (j + 1) true h3 (by omega)).to ?_
      rw [Bool.true_or, Bool.true_or]
    | false =>
      refine Ev.neg (by simp) ?_
      refine Ev.pos (by omega) ?_
      refine Ev.pos (by omega) ?_
      refine Ev.pos (by omega) ?_
      refine (found_ev h fx bx i hi hi2 hl s hs rest (j + 1) _ h3 (by omega)).to ?_
      rw [Bool.false_or]
      have e1 : rd_T71 bx (j : Int) = x := h2
      have e2 : rd fx (i : Int) = fx.getD i 0 := rfl
      rw [e1, e2]
      rfl
theorem prev_eq (fx : List Int) (i : Nat) : prevP fx ((i + 1 : Nat) : Int) = some (fx.getD i 0) := by
  unfold prevP
  rw [if_neg (by omega), show ((i + 1 : Nat) : Int) - 1 = (i : Int) by omega]
  rfl
theorem any_lows (f : Int) (bx : List S71) : (bx.any (fun x => decide (x.f0 = f))) = decide (f ∈ bx.map (fun b => b.f0)) := by
  rw [Bool.eq_iff_iff, List.any_eq_true, decide_eq_true_iff, List.mem_map]
  constructor
  · rintro ⟨x, hx, e⟩; exact ⟨x, hx, of_decide_eq_true e⟩
  · rintro ⟨x, hx, e⟩; exact ⟨x, hx, decide_eq_true e⟩
theorem fixed_ev (h : Int) (h0 : 1 ≤ h) (h1 : h ≤ 24) (fx : List Int) (hx : fx.length ≤ 140737488351232) (bx : List S71) (hl : bx.length ≤ 24) :
    ∀ (rest : List Int) (i : Nat), fx.drop i = rest → i ≤ fx.length → Ev (fun k => spec_ColumnOk.l0 k (i : Int) h fx bx) (fixS h (bx.map (fun b => b.f0)) (prevP fx (i : Int)) rest)
  | [], i, hd, hj => by
    refine Ev.succ ?_
    simp only [spec_ColumnOk.l0]
    have he := drop_end hd hj
    refine Ev.neg (by omega) ?_
    exact Ev.ret _
  | f :: rest, i, hd, hj => by
    obtain ⟨h2, h3, h4⟩ := drop_step 0 hd
    have ih := fixed_ev h h0 h1 fx hx bx hl rest (i + 1) h4 (by omega)
    have hf := found_ev h fx bx i h2 (by omega) hl _ ih bx 0 false rfl (by omega)
    rw [Bool.false_or, any_lows, h3, prev_eq, h3] at hf
    have er : rd fx (i : Int) = f := h3
    have go : ∀ (b : Bool), Ev (fun k => spec_ColumnOk.j2 k (i : Int) b h fx bx) (if b = true then false else if decide (f ∈ bx.map (fun b => b.f0)) = true then fixS h (bx.map (fun b => b.f0)) (some f) rest else false) := by
      intro b
      refine Ev.succ ?_
      simp only [spec_ColumnOk.j2]
      exact Ev.ite (fun _ => Ev.ret _) (fun _ => hf)
    refine Ev.succ ?_
    simp only [spec_ColumnOk.l0]
    refine Ev.pos (by omega) ?_
    refine Ev.pos (by omega) ?_
    rw [er, wid (h - 1) (by omega) (by omega)]
    refine Ev.bind (Ev.const (in_eq _ _ _)) ?_
    simp only [fixS]
    by_cases c1 : 1 ≤ f ∧ f ≤ h - 1
    · refine Ev.pos (decide_eq_true c1) ?_
      rw [decide_eq_true c1, Bool.true_and]
      by_cases c2 : (i : Int) > 0
      · have hp : prevP fx (i : Int) = some (fx.getD (i - 1) 0) := by
          have := prev_eq fx (i - 1)
          rwa [show i - 1 + 1 = i by omega] at this
        have e2 : rd fx ((i - 1 : Nat) : Int) = fx.getD (i - 1) 0 := rfl
        refine Ev.pos c2 ?_
        rw [wpred i (by omega) (by omega), hp, e2]
        refine Ev.pos (by omega) ?_
        refine Ev.pos (by omega) ?_
        refine (go _).to ?_
        by_cases c3 : f ≤ fx.getD (i - 1) 0
        · rw [if_pos (decide_eq_true c3)]
          simp only [decide_eq_false (show ¬ fx.getD (i - 1) 0 < f by omega), Bool.false_and]
        · rw [if_neg (by simpa using c3)]
          simp only [decide_eq_true (show fx.getD (i - 1) 0 < f by omega), Bool.true_and]
          cases decide (f ∈ bx.map (fun b => b.f0)) <;> simp
      · have hp : prevP fx (i : Int) = none := by unfold prevP; rw [if_pos (by omega)]
        refine Ev.neg c2 ?_
        refine (go _).to ?_
        rw [hp]
        cases decide (f ∈ bx.map (fun b => b.f0)) <;> simp
    · refine Ev.neg (by simpa using c1) ?_
      refine (go _).to ?_
      rw [if_pos rfl, decide_eq_false c1]
      simp only [Bool.false_and]
theorem colok_ev (h : Int) (fx : List Int) (hx : fx.length ≤ 140737488351232) (bx : List S71) (hl : bx.length ≤ 140737488351232) : Ev (fun k => spec_ColumnOk.f k h fx bx) (colP h fx bx) := by
  refine Ev.of_eq ?_ (fun k => by unfold spec_ColumnOk.f; rfl)
  refine Ev.bind (Ev.const (in_eq _ _ _)) ?_
  rw [← colS_eq, ← fixS_eq]
  by_cases hh : 1 ≤ h ∧ h ≤ 24
  · refine Ev.pos (decide_eq_true hh) ?_
    refine Ev.bind (Ev.mk 1100 (fun k hk => boxes_eq h fx bx hl k hk)) ?_
    rw [decide_eq_true hh, Bool.true_and]
    refine Ev.succ ?_
    simp only [spec_ColumnOk.j0]
    cases hS : boxS bx 0 [] with
    | none =>
      refine Ev.pos (by simp [boxesS]) ?_
      exact Ev.ret _
    | some e =>
      by_cases hb : boxesS h bx (some e) = true
      · rw [hb]
        have hle := boxS_le bx 0 [] e hS
        have he : e ≤ 24 := hle.2.2 (by omega)
        refine Ev.neg (by simp) ?_
        exact fixed_ev h hh.1 hh.2 fx hx bx (by omega) fx 0 rfl (by omega)
      · have hb2 : boxesS h bx (some e) = false := by simpa using hb
        rw [hb2]
        refine Ev.pos (by simp) ?_
        exact Ev.ret _
  · refine Ev.neg (by simpa using hh) ?_
    rw [decide_eq_false hh, Bool.false_and]
    refine Ev.succ ?_
    simp only [spec_ColumnOk.j0]
    refine Ev.pos (by simp) ?_
    exact Ev.ret _
end Go.Proofs.Ytghfeapncmlihaa.A
