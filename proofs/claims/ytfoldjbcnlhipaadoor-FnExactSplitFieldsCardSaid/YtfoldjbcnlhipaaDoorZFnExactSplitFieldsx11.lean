/- What the proof of the law FnExactSplitFields uses: lemmas, the Lean functions of the Go functions that it reaches, their contracts, and the pure statement's proof. -/
import Derived.Test.YtfoldjbcnlhipaaDoorZFnExactSplitFieldsx10
import Derived.ProofKit
import Derived.OpenShut
import Derived.ShutString
import Derived.ChangeOld
import Derived.SizedLaws
import Derived.ChangeArms
namespace Go.Proofs.YtfoldjbcnlhipaaDoor.A
open Go.RowKit Go.Proofs.YtfoldjbcnlhipaaDoorW.PrintWords Go.Proofs.YtfoldjbcnlhipaaDoorW.PrintLast Go.Proofs.YtfoldjbcnlhipaaDoorW.PrintMore
attribute [local go_sem] max2_int min2_int max_two min_two max_three min_three max_four min_four   
set_option linter.unusedVariables false
set_option linter.unusedSimpArgs false
mutual
def laws_FnExactSplitFields.j0 : Nat → ByteArray → List ByteArray → Bool → List ByteArray → Bool → Option (Bool)
  | 0, _, _, _, _, _ => none
  | k + 1, x0, x3, x4, x5, x32 => if x32 = true then (some false) else ((laws_markStringS.f k x5 1).bind fun bt262 => ((laws_heldStringS.f k bt262.2 1).bind fun t264 => (if t264 < 0 then (some false) else (if t264 = bt262.1 then ((impl_SplitFields.f k x0).bind fun bt265 => ((laws_eqStringS.f k bt265.1 x3).bind fun t269 => (if t269 = true then (laws_FnExactSplitFields.j1 k bt262.2 bt262.1 (bt265.2 != x4)) else (laws_FnExactSplitFields.j1 k bt262.2 bt262.1 true)))) else (some false)))))
def laws_FnExactSplitFields.j1 : Nat → List ByteArray → Int → Bool → Option (Bool)
  | 0, _, _, _ => none
  | k + 1, x5, x7, x57 => if x57 = true then (some false) else ((laws_heldStringS.f k x5 1).bind fun t270 => (if t270 < 0 then (some false) else (if t270 = x7 then (some true) else (some false))))
end
def laws_FnExactSplitFields.f (k : Nat) (a0 : ByteArray) : Option (Bool) := if (a0.size : Int) > 1048576 then (some true) else ((spec_SplitFields.f k a0).bind fun bt253 => ((impl_SplitFields.f k a0).bind fun bt257 => ((laws_eqStringS.f k bt257.1 bt253.1).bind fun t261 => (if t261 = true then (laws_FnExactSplitFields.j0 k a0 bt253.1 bt253.2 bt257.1 (bt257.2 != bt253.2)) else (laws_FnExactSplitFields.j0 k a0 bt253.1 bt253.2 bt257.1 true)))))
set_option maxHeartbeats 8000000 in
set_option maxRecDepth 100000 in
theorem laws_FnExactSplitFields.calls (k : Nat) (a0 : ByteArray) (r : Bool) (w : World) (hr_ : Aside0 (r = true)) (h : laws_FnExactSplitFields.f k a0 = some r) (hTS : TabS w := by first | exact Aside0.out (by assumption) | exact tabS_below (Aside0.out (by assumption)) (by repeat (first | (with_reducible first | exact Aside0.out (by assumption) | apply below_alloc | apply pw_below_drewN | apply below_drew1) | exact Below.refl _ _))) :
    Calls Tryd.prog 8 #[.string a0] w fun e w' => e = .returned (.bool r) ∧ Below w.heap.size w w' := by
  have HTS_ := Aside0.mk hTS
  clear hTS
  have HB := Aside0.mk (Below.refl w.heap.size w)
  have H : (if (a0.size : Int) > 1048576 then (some true) else ((spec_SplitFields.f k a0).bind fun bt253 => ((impl_SplitFields.f k a0).bind fun bt257 => ((laws_eqStringS.f k bt257.1 bt253.1).bind fun t261 => (if t261 = true then (laws_FnExactSplitFields.j0 k a0 bt253.1 bt253.2 bt257.1 (bt257.2 != bt253.2)) else (laws_FnExactSplitFields.j0 k a0 bt253.1 bt253.2 bt257.1 true)))))) = some r := h
  clear h
  by_cases c2 : (a0.size : Int) > 1048576
  · rw [if_pos c2] at H
    have c2b0 : decide (1048576 < (a0.size : Int)) = true := decide_eq_true c2
    have c2b1 : decide (1048576 < a0.size) = true := decide_eq_true (by omega)
    clear c2
    obtain rfl := Option.some.inj H
    go_enter Tryd.func8, Tryd.ntmps8
    go_wp2
    go_ret
    exact ⟨by first | rfl | (simp [errW_none, errW_some] <;> rfl) | (simp [*, errW_none, errW_some] <;> rfl), by repeat (first | (with_reducible first | exact HB.out | apply below_alloc | apply pw_below_drewN | apply below_drew1) | exact HB.out)⟩
  · rw [if_neg c2] at H
    have c2b0 : decide (1048576 < (a0.size : Int)) = false := decide_eq_false c2
    have c2b1 : decide (1048576 < a0.size) = false := decide_eq_false (by omega)
    clear c2
    replace H := Option.bind_eq_some_iff.mp H
    obtain ⟨⟨t253, t254⟩, A30, H⟩ := H
    replace H : ((impl_SplitFields.f k a0).bind fun bt257 => ((laws_eqStringS.f k bt257.1 t253).bind fun t261 => (if t261 = true then (laws_FnExactSplitFields.j0 k a0 t253 t254 bt257.1 (bt257.2 != t254)) else (laws_FnExactSplitFields.j0 k a0 t253 t254 bt257.1 true)))) = some r := H
    have A3 := Aside0.mk A30
    clear A30
    replace H := Option.bind_eq_some_iff.mp H
    obtain ⟨⟨t257, t258⟩, A40, H⟩ := H
    replace H : ((laws_eqStringS.f k t257 t253).bind fun t261 => (if t261 = true then (laws_FnExactSplitFields.j0 k a0 t253 t254 t257 (t258 != t254)) else (laws_FnExactSplitFields.j0 k a0 t253 t254 t257 true))) = some r := H
    have A4 := Aside0.mk A40
    clear A40
    have HC5 := Aside0.mk H
    clear H
    go_enter Tryd.func8, Tryd.ntmps8
    go_upto_region 5 with (first | ((with_reducible refine gate_callee (f := 23) rfl ?_); refine goesL_ (some 16) rfl rfl Tryd.func23 (by kernel_rfl) rfl #[.string a0] rfl (by (try simp only [List.map_toArray, List.map_cons, List.map_nil]); first | done | rfl | (simp only [List.length_drop, List.length_take]; rfl)) ?_; (with_reducible refine (spec_SplitFields.calls k a0 t253 t254 _ A3.out).mono ?_); rintro e w6 ⟨v255, rfl, ho0, hb⟩; refine ⟨_, rfl, ?_⟩; have n0_ := Aside0.mk (Kd.R_lower ho0 (below_size (by repeat (first | (with_reducible first | exact HB.out | apply below_alloc | apply pw_below_drewN | apply below_drew1) | exact HB.out)))); have n1_ := Aside0.mk (below_step (by repeat (first | (with_reducible first | exact HB.out | apply below_alloc | apply pw_below_drewN | apply below_drew1) | exact HB.out)) hb); clear HB; have HO256 := n0_; have HB := n1_; clear n0_ n1_; (try clear hb); (try clear hb2); (try clear hk); (try clear hi); (try clear ho0)) | ((with_reducible refine gate_callee (f := 24) rfl ?_); refine goesL_ (some 21) rfl rfl Tryd.func24 (by kernel_rfl) rfl #[.string a0] rfl (by (try simp only [List.map_toArray, List.map_cons, List.map_nil]); first | done | rfl | (simp only [List.length_drop, List.length_take]; rfl)) ?_; (with_reducible refine (impl_SplitFields.calls k a0 t257 t258 _ A4.out).mono ?_); rintro e w7 ⟨v259, rfl, ho0, hb⟩; refine ⟨_, rfl, ?_⟩; have n0_ := Aside0.mk (Kd.R_elder' (by (with_reducible repeat (first | apply Kd.R_alloc | apply Kd.R_drewN | apply Kd.R_drew)); exact HO256.out) (Kd.R_base ho0) hb); have n1_ := Aside0.mk (Kd.R_lower (Kd.R_new' ho0 (Kd.R_lt (by (with_reducible repeat (first | apply Kd.R_alloc | apply Kd.R_drewN | apply Kd.R_drew)); exact HO256.out))) (below_size (by repeat (first | (with_reducible first | exact HB.out | apply below_alloc | apply pw_below_drewN | apply below_drew1) | exact HB.out)))); have n2_ := Aside0.mk (below_step (by repeat (first | (with_reducible first | exact HB.out | apply below_alloc | apply pw_below_drewN | apply below_drew1) | exact HB.out)) hb); clear HO256; clear HB; have HO256 := n0_; have HO260 := n1_; have HB := n2_; clear n0_ n1_ n2_; (try clear hb); (try clear hb2); (try clear hk); (try clear hi); (try clear ho0)))
    (try simp only [Act.put, List.setIfInBounds_toArray, List.set_cons_zero, List.set_cons_succ])
    go_cut [32] (fun v32 wc => ∃ (kq : Nat) (x32_4 : Bool), v32 = .bool x32_4 ∧ Aside0 (laws_FnExactSplitFields.j0 kq a0 t253 t254 t257 x32_4 = some r) ∧ Aside0 (kq ≤ k) ∧ Aside0 (Kd.R Kd.string 9 wc w.heap.size (fun k_ => some k_ ≠ (v259 : Value).ownBlock) v255 t253) ∧ Aside0 (Kd.R Kd.string 9 wc w.heap.size (fun k_ => some k_ ≠ (v255 : Value).ownBlock) v259 t257) ∧ Aside0 (Below w.heap.size w wc))
    case first =>
      have H := HC5.out
      clear HC5
      replace H := Option.bind_eq_some_iff.mp H
      obtain ⟨t261, A80, H⟩ := H
      replace H : (if t261 = true then (laws_FnExactSplitFields.j0 k a0 t253 t254 t257 (t258 != t254)) else (laws_FnExactSplitFields.j0 k a0 t253 t254 t257 true)) = some r := H
      have A8 := Aside0.mk A80
      clear A80
      by_cases c9 : t261 = true
      · subst c9
        have H1 : (laws_FnExactSplitFields.j0 k a0 t253 t254 t257 (t258 != t254)) = some r := by rw [if_pos rfl] at H; exact H
        clear H
        have H := H1
        clear H1
        have H' := Aside0.mk H
        clear H
        obtain ⟨Ao10, co10, eo10⟩ := Kd.R_slice HO260.out
        subst eo10
        obtain ⟨Ao11, co11, eo11⟩ := Kd.R_slice HO256.out
        subst eo11
        go_wp2_with (first | ((with_reducible refine gate_callee (f := 25) rfl ?_); refine goesL_ (some 26) rfl rfl Tryd.func25 (by kernel_rfl) rfl #[.slice Ao10 t257.length co10, .slice Ao11 t253.length co11] rfl (by (try simp only [List.map_toArray, List.map_cons, List.map_nil]); first | done | rfl | (simp only [List.length_drop, List.length_take]; rfl)) ?_; (with_reducible refine (laws_eqStringS.calls k _ _ t257 _ _ t253 true _ ?side1 ?side2 ?side3 ?side4 A8.out).mono ?_); (case side1 => repeat (first | exact (Kd.R_reads' HO260.out).2.2 | (with_reducible refine Kd.C_alloc ?_ _) | (with_reducible refine Kd.C_drewN ?_ _) | (with_reducible refine Kd.C_drew ?_))); (case side2 => exact (Kd.R_reads' HO260.out).2.1); (case side3 => repeat (first | exact (Kd.R_reads' HO256.out).2.2 | (with_reducible refine Kd.C_alloc ?_ _) | (with_reducible refine Kd.C_drewN ?_ _) | (with_reducible refine Kd.C_drew ?_))); (case side4 => exact (Kd.R_reads' HO256.out).2.1); rintro e w' ⟨rfl, ⟨nd, rfl⟩⟩; refine ⟨_, rfl, ?_⟩))
        go_meet
        case rel => exact ⟨_, ((t258 != t254)), (by first | rfl | (simp; done) | (simp [*]; done)), H', ⟨by first | omega | exact Nat.le_refl _⟩, ⟨by (with_reducible repeat (first | apply Kd.R_alloc | apply Kd.R_drewN | apply Kd.R_drew)); exact Kd.R_mono HO256.out (fun _ hk => hk.2)⟩, ⟨by (with_reducible repeat (first | apply Kd.R_alloc | apply Kd.R_drewN | apply Kd.R_drew)); exact Kd.R_mono HO260.out (fun _ hk => hk.2)⟩, ⟨by repeat (first | (with_reducible first | exact HB.out | apply below_alloc | apply pw_below_drewN | apply below_drew1) | exact HB.out)⟩⟩
      · replace c9 := Bool.eq_false_iff.mpr c9
        subst c9
        have H1 : (laws_FnExactSplitFields.j0 k a0 t253 t254 t257 true) = some r := by rw [if_neg (show ¬ (false = true) by decide)] at H; exact H
        clear H
        have H := H1
        clear H1
        have H' := Aside0.mk H
        clear H
        obtain ⟨Ao12, co12, eo12⟩ := Kd.R_slice HO260.out
        subst eo12
        obtain ⟨Ao13, co13, eo13⟩ := Kd.R_slice HO256.out
        subst eo13
        go_wp2_with (first | ((with_reducible refine gate_callee (f := 25) rfl ?_); refine goesL_ (some 26) rfl rfl Tryd.func25 (by kernel_rfl) rfl #[.slice Ao12 t257.length co12, .slice Ao13 t253.length co13] rfl (by (try simp only [List.map_toArray, List.map_cons, List.map_nil]); first | done | rfl | (simp only [List.length_drop, List.length_take]; rfl)) ?_; (with_reducible refine (laws_eqStringS.calls k _ _ t257 _ _ t253 false _ ?side1 ?side2 ?side3 ?side4 A8.out).mono ?_); (case side1 => repeat (first | exact (Kd.R_reads' HO260.out).2.2 | (with_reducible refine Kd.C_alloc ?_ _) | (with_reducible refine Kd.C_drewN ?_ _) | (with_reducible refine Kd.C_drew ?_))); (case side2 => exact (Kd.R_reads' HO260.out).2.1); (case side3 => repeat (first | exact (Kd.R_reads' HO256.out).2.2 | (with_reducible refine Kd.C_alloc ?_ _) | (with_reducible refine Kd.C_drewN ?_ _) | (with_reducible refine Kd.C_drew ?_))); (case side4 => exact (Kd.R_reads' HO256.out).2.1); rintro e w' ⟨rfl, ⟨nd, rfl⟩⟩; refine ⟨_, rfl, ?_⟩))
        go_meet
        case rel => exact ⟨_, (true), (by first | rfl | (simp; done) | (simp [*]; done)), H', ⟨by first | omega | exact Nat.le_refl _⟩, ⟨by (with_reducible repeat (first | apply Kd.R_alloc | apply Kd.R_drewN | apply Kd.R_drew)); exact Kd.R_mono HO256.out (fun _ hk => hk.2)⟩, ⟨by (with_reducible repeat (first | apply Kd.R_alloc | apply Kd.R_drewN | apply Kd.R_drew)); exact Kd.R_mono HO260.out (fun _ hk => hk.2)⟩, ⟨by repeat (first | (with_reducible first | exact HB.out | apply below_alloc | apply pw_below_drewN | apply below_drew1) | exact HB.out)⟩⟩
    case rest =>
      clear HC5
      try clear c2
      try clear c2b0
      try clear c2b1
      try clear p2
      try clear c8
      try clear c9
      obtain ⟨kq, x32_4, rfl, HA, HJ4, HO_3, HO_5, HB⟩ := hcut
      cases kq with
      | zero => exact absurd HA.out (by simp [laws_FnExactSplitFields.j0])
      | succ kj4 =>
        have H := HA.out
        clear HA
        simp only [laws_FnExactSplitFields.j0] at H
        by_cases c14 : x32_4 = true
        · subst c14
          have H1 : (some false) = some r := by rw [if_pos rfl] at H; exact H
          clear H
          have H := H1
          clear H1
          exact absurd (Option.some.inj H) (by rw [hr_.out]; decide)
        · replace c14 := Bool.eq_false_iff.mpr c14
          subst c14
          have H1 : ((laws_markStringS.f kj4 t257 1).bind fun bt262 => ((laws_heldStringS.f kj4 bt262.2 1).bind fun t264 => (if t264 < 0 then (some false) else (if t264 = bt262.1 then ((impl_SplitFields.f kj4 a0).bind fun bt265 => ((laws_eqStringS.f kj4 bt265.1 t253).bind fun t269 => (if t269 = true then (laws_FnExactSplitFields.j1 kj4 bt262.2 bt262.1 (bt265.2 != t254)) else (laws_FnExactSplitFields.j1 kj4 bt262.2 bt262.1 true)))) else (some false))))) = some r := by rw [if_neg (show ¬ (false = true) by decide)] at H; exact H
          clear H
          have H := H1
          clear H1
          replace H := Option.bind_eq_some_iff.mp H
          obtain ⟨⟨t262, t263⟩, A150, H⟩ := H
          replace H : ((laws_heldStringS.f kj4 t263 1).bind fun t264 => (if t264 < 0 then (some false) else (if t264 = t262 then ((impl_SplitFields.f kj4 a0).bind fun bt265 => ((laws_eqStringS.f kj4 bt265.1 t253).bind fun t269 => (if t269 = true then (laws_FnExactSplitFields.j1 kj4 t263 t262 (bt265.2 != t254)) else (laws_FnExactSplitFields.j1 kj4 t263 t262 true)))) else (some false)))) = some r := H
          have A15 := Aside0.mk A150
          clear A150
          replace H := Option.bind_eq_some_iff.mp H
          obtain ⟨t264, A160, H⟩ := H
          replace H : (if t264 < 0 then (some false) else (if t264 = t262 then ((impl_SplitFields.f kj4 a0).bind fun bt265 => ((laws_eqStringS.f kj4 bt265.1 t253).bind fun t269 => (if t269 = true then (laws_FnExactSplitFields.j1 kj4 t263 t262 (bt265.2 != t254)) else (laws_FnExactSplitFields.j1 kj4 t263 t262 true)))) else (some false))) = some r := H
          have A16 := Aside0.mk A160
          clear A160
          by_cases c17 : t264 < 0
          · rw [if_pos c17] at H
            have c17b0 : decide (t264 < 0) = true := decide_eq_true c17
            clear c17
            exact absurd (Option.some.inj H) (by rw [hr_.out]; decide)
          · rw [if_neg c17] at H
            have c17b0 : decide (t264 < 0) = false := decide_eq_false c17
            clear c17
            by_cases c18 : t264 = t262
            · rw [if_pos c18] at H
              have c18b0 : (t264 == t262) = true := beq_iff_eq.mpr c18
              have c18b1 : (t264 != t262) = false := bne_eq_false_iff_eq.mpr c18
              clear c18
              replace H := Option.bind_eq_some_iff.mp H
              obtain ⟨⟨t265, t266⟩, A190, H⟩ := H
              replace H : ((laws_eqStringS.f kj4 t265 t253).bind fun t269 => (if t269 = true then (laws_FnExactSplitFields.j1 kj4 t263 t262 (t266 != t254)) else (laws_FnExactSplitFields.j1 kj4 t263 t262 true))) = some r := H
              have A19 := Aside0.mk A190
              clear A190
              have HC20 := Aside0.mk H
              clear H
              obtain ⟨Ao21, co21, eo21⟩ := Kd.R_slice HO_5.out
              subst eo21
              go_upto_region 16 with (first | ((with_reducible refine gate_callee (f := 26) rfl ?_); refine goesL_ (some 35) rfl rfl Tryd.func26 (by kernel_rfl) rfl #[.slice Ao21 t257.length co21, .int .i64 1] rfl (by (try simp only [List.map_toArray, List.map_cons, List.map_nil]); first | done | rfl | (simp only [List.length_drop, List.length_take]; rfl)) ?_; (with_reducible refine (laws_markStringS.calls kj4 (fun k_ => some k_ = (.slice Ao21 t257.length co21 : Value).ownBlock) (.slice Ao21 t257.length co21) t257 1 t262 t263 w _ ?side1 ?side2 A15.out).mono ?_); (case side1 => repeat (first | (with_reducible first | exact HB.out | apply below_alloc | apply pw_below_drewN | apply below_drew1) | exact HB.out)); (case side2 => exact Kd.R_tight rfl HO_5.out); rintro e w22 ⟨rfl, hy0, hb, hkp⟩; refine ⟨_, rfl, ?_⟩; have n0_ := Aside0.mk (Kd.R_mono (ok' := fun k_ => some k_ ≠ (.slice Ao21 t257.length co21 : Value).ownBlock) (Kd.R_keptB (HO_3.out) hkp (fun k_ hk_ hs_ => (hk_) hs_)) (fun k_ hk_ => hk_.1)); have n1_ := Aside0.mk (Kd.R_reok rfl hy0 (fun k_ e_ => HO_5.out.1 k_ e_)); have n2_ := Aside0.mk (hb); clear HO_3; clear HO_5; clear HB; have HO_3 := n0_; have HO_5 := n1_; have HB := n2_; clear n0_ n1_ n2_; (try clear hb); (try clear hkp); (try clear hy0)) | ((with_reducible refine gate_callee (f := 27) rfl ?_); refine goesL_ (some 38) rfl rfl Tryd.func27 (by kernel_rfl) rfl #[.slice Ao21 t263.length co21, .int .i64 1] rfl (by (try simp only [List.map_toArray, List.map_cons, List.map_nil]); first | done | (rw [show t263.length = t257.length from (Kd.R_reads' HO_5.out).1.symm] <;> rfl) | rfl | (simp only [List.length_drop, List.length_take]; rfl)) ?_; (with_reducible refine (laws_heldStringS.calls kj4 _ _ t263 1 t264 _ ?side1 ?side2 A16.out).mono ?_); (case side1 => repeat (first | exact (Kd.R_reads' HO_5.out).2.2 | (with_reducible refine Kd.C_alloc ?_ _) | (with_reducible refine Kd.C_drewN ?_ _) | (with_reducible refine Kd.C_drew ?_))); (case side2 => rw [show t263.length = t257.length from (Kd.R_reads' HO_5.out).1.symm]; exact (Kd.R_reads' HO_5.out).2.1); rintro e w23 ⟨rfl, hb⟩; refine ⟨_, rfl, ?_⟩; have n0_ := Aside0.mk (Kd.R_below (by (with_reducible repeat (first | apply Kd.R_alloc | apply Kd.R_drewN | apply Kd.R_drew)); exact HO_3.out) hb); have n1_ := Aside0.mk (Kd.R_below (by (with_reducible repeat (first | apply Kd.R_alloc | apply Kd.R_drewN | apply Kd.R_drew)); exact HO_5.out) hb); have n2_ := Aside0.mk (below_step (by repeat (first | (with_reducible first | exact HB.out | apply below_alloc | apply pw_below_drewN | apply below_drew1) | exact HB.out)) hb); clear HO_3; clear HO_5; clear HB; have HO_3 := n0_; have HO_5 := n1_; have HB := n2_; clear n0_ n1_ n2_; (try clear hb); (try clear hb2); (try clear hk); (try clear hi)) | ((with_reducible refine gate_callee (f := 24) rfl ?_); refine goesL_ (some 46) rfl rfl Tryd.func24 (by kernel_rfl) rfl #[.string a0] rfl (by (try simp only [List.map_toArray, List.map_cons, List.map_nil]); first | done | rfl | (simp only [List.length_drop, List.length_take]; rfl)) ?_; (with_reducible refine (impl_SplitFields.calls kj4 a0 t265 t266 _ A19.out).mono ?_); rintro e w24 ⟨v267, rfl, ho0, hb⟩; refine ⟨_, rfl, ?_⟩; have n0_ := Aside0.mk (Kd.R_elder' (by (with_reducible repeat (first | apply Kd.R_alloc | apply Kd.R_drewN | apply Kd.R_drew)); exact HO_3.out) (Kd.R_base ho0) hb); have n1_ := Aside0.mk (Kd.R_elder' (by (with_reducible repeat (first | apply Kd.R_alloc | apply Kd.R_drewN | apply Kd.R_drew)); exact HO_5.out) (Kd.R_base ho0) hb); have n2_ := Aside0.mk (Kd.R_lower (Kd.R_new' (Kd.R_new' ho0 (Kd.R_lt (by (with_reducible repeat (first | apply Kd.R_alloc | apply Kd.R_drewN | apply Kd.R_drew)); exact HO_3.out))) (Kd.R_lt (by (with_reducible repeat (first | apply Kd.R_alloc | apply Kd.R_drewN | apply Kd.R_drew)); exact HO_5.out))) (below_size (by repeat (first | (with_reducible first | exact HB.out | apply below_alloc | apply pw_below_drewN | apply below_drew1) | exact HB.out)))); have n3_ := Aside0.mk (below_step (by repeat (first | (with_reducible first | exact HB.out | apply below_alloc | apply pw_below_drewN | apply below_drew1) | exact HB.out)) hb); clear HO_3; clear HO_5; clear HB; have HO_3 := n0_; have HO_5 := n1_; have HO268 := n2_; have HB := n3_; clear n0_ n1_ n2_ n3_; (try clear hb); (try clear hb2); (try clear hk); (try clear hi); (try clear ho0)))
              (try simp only [Act.put, List.setIfInBounds_toArray, List.set_cons_zero, List.set_cons_succ])
              go_cut [57] (fun v57 wc => ∃ (kq : Nat) (x57_19 : Bool), v57 = .bool x57_19 ∧ Aside0 (laws_FnExactSplitFields.j1 kq t263 t262 x57_19 = some r) ∧ Aside0 (kq ≤ kj4) ∧ Aside0 (Kd.R Kd.string 9 wc w.heap.size (fun _ => True) (.slice Ao21 t257.length co21) t263) ∧ Aside0 (Below w.heap.size w wc))
              case first =>
                have H := HC20.out
                clear HC20
                replace H := Option.bind_eq_some_iff.mp H
                obtain ⟨t269, A250, H⟩ := H
                replace H : (if t269 = true then (laws_FnExactSplitFields.j1 kj4 t263 t262 (t266 != t254)) else (laws_FnExactSplitFields.j1 kj4 t263 t262 true)) = some r := H
                have A25 := Aside0.mk A250
                clear A250
                by_cases c26 : t269 = true
                · subst c26
                  have H1 : (laws_FnExactSplitFields.j1 kj4 t263 t262 (t266 != t254)) = some r := by rw [if_pos rfl] at H; exact H
                  clear H
                  have H := H1
                  clear H1
                  have H' := Aside0.mk H
                  clear H
                  obtain ⟨Ao27, co27, eo27⟩ := Kd.R_slice HO268.out
                  subst eo27
                  obtain ⟨Ao28, co28, eo28⟩ := Kd.R_slice HO_3.out
                  subst eo28
                  go_wp2_with (first | ((with_reducible refine gate_callee (f := 25) rfl ?_); refine goesL_ (some 51) rfl rfl Tryd.func25 (by kernel_rfl) rfl #[.slice Ao27 t265.length co27, .slice Ao28 t253.length co28] rfl (by (try simp only [List.map_toArray, List.map_cons, List.map_nil]); first | done | rfl | (simp only [List.length_drop, List.length_take]; rfl)) ?_; (with_reducible refine (laws_eqStringS.calls kj4 _ _ t265 _ _ t253 true _ ?side1 ?side2 ?side3 ?side4 A25.out).mono ?_); (case side1 => repeat (first | exact (Kd.R_reads' HO268.out).2.2 | (with_reducible refine Kd.C_alloc ?_ _) | (with_reducible refine Kd.C_drewN ?_ _) | (with_reducible refine Kd.C_drew ?_))); (case side2 => exact (Kd.R_reads' HO268.out).2.1); (case side3 => repeat (first | exact (Kd.R_reads' HO_3.out).2.2 | (with_reducible refine Kd.C_alloc ?_ _) | (with_reducible refine Kd.C_drewN ?_ _) | (with_reducible refine Kd.C_drew ?_))); (case side4 => exact (Kd.R_reads' HO_3.out).2.1); rintro e w' ⟨rfl, ⟨nd, rfl⟩⟩; refine ⟨_, rfl, ?_⟩))
                  go_meet
                  case rel => exact ⟨_, ((t266 != t254)), (by first | rfl | (simp; done) | (simp [*]; done)), H', ⟨by have := HJ4.out; first | omega | exact Nat.le_refl _⟩, ⟨by (with_reducible repeat (first | apply Kd.R_alloc | apply Kd.R_drewN | apply Kd.R_drew)); exact Kd.R_mono HO_5.out (fun _ hk => trivial)⟩, ⟨by repeat (first | (with_reducible first | exact HB.out | apply below_alloc | apply pw_below_drewN | apply below_drew1) | exact HB.out)⟩⟩
                · replace c26 := Bool.eq_false_iff.mpr c26
                  subst c26
                  have H1 : (laws_FnExactSplitFields.j1 kj4 t263 t262 true) = some r := by rw [if_neg (show ¬ (false = true) by decide)] at H; exact H
                  clear H
                  have H := H1
                  clear H1
                  have H' := Aside0.mk H
                  clear H
                  obtain ⟨Ao29, co29, eo29⟩ := Kd.R_slice HO268.out
                  subst eo29
                  obtain ⟨Ao30, co30, eo30⟩ := Kd.R_slice HO_3.out
                  subst eo30
                  go_wp2_with (first | ((with_reducible refine gate_callee (f := 25) rfl ?_); refine goesL_ (some 51) rfl rfl Tryd.func25 (by kernel_rfl) rfl #[.slice Ao29 t265.length co29, .slice Ao30 t253.length co30] rfl (by (try simp only [List.map_toArray, List.map_cons, List.map_nil]); first | done | rfl | (simp only [List.length_drop, List.length_take]; rfl)) ?_; (with_reducible refine (laws_eqStringS.calls kj4 _ _ t265 _ _ t253 false _ ?side1 ?side2 ?side3 ?side4 A25.out).mono ?_); (case side1 => repeat (first | exact (Kd.R_reads' HO268.out).2.2 | (with_reducible refine Kd.C_alloc ?_ _) | (with_reducible refine Kd.C_drewN ?_ _) | (with_reducible refine Kd.C_drew ?_))); (case side2 => exact (Kd.R_reads' HO268.out).2.1); (case side3 => repeat (first | exact (Kd.R_reads' HO_3.out).2.2 | (with_reducible refine Kd.C_alloc ?_ _) | (with_reducible refine Kd.C_drewN ?_ _) | (with_reducible refine Kd.C_drew ?_))); (case side4 => exact (Kd.R_reads' HO_3.out).2.1); rintro e w' ⟨rfl, ⟨nd, rfl⟩⟩; refine ⟨_, rfl, ?_⟩))
                  go_meet
                  case rel => exact ⟨_, (true), (by first | rfl | (simp; done) | (simp [*]; done)), H', ⟨by have := HJ4.out; first | omega | exact Nat.le_refl _⟩, ⟨by (with_reducible repeat (first | apply Kd.R_alloc | apply Kd.R_drewN | apply Kd.R_drew)); exact Kd.R_mono HO_5.out (fun _ hk => trivial)⟩, ⟨by repeat (first | (with_reducible first | exact HB.out | apply below_alloc | apply pw_below_drewN | apply below_drew1) | exact HB.out)⟩⟩
              case rest =>
                clear HC20
                try clear c1
                try clear c2
                try clear c2b0
                try clear c2b1
                try clear p2
                try clear c8
                try clear c9
                try clear c14
                try clear c17
                try clear c17b0
                try clear c18
                try clear c18b0
                try clear c18b1
                try clear c23
                try clear c24
                try clear c25
                try clear c26
                try clear c27
                try clear p2
                obtain ⟨kq, x57_19, rfl, HA, HJ19, HO_5, HB⟩ := hcut
                have hl5_19 := (Kd.R_reads' HO_5.out).1
                rw [hl5_19] at HO_5
                (try simp only [hl5_19])
                cases kq with
                | zero => exact absurd HA.out (by simp [laws_FnExactSplitFields.j1])
                | succ kj19 =>
                  have H := HA.out
                  clear HA
                  simp only [laws_FnExactSplitFields.j1] at H
                  by_cases c31 : x57_19 = true
                  · subst c31
                    have H1 : (some false) = some r := by rw [if_pos rfl] at H; exact H
                    clear H
                    have H := H1
                    clear H1
                    exact absurd (Option.some.inj H) (by rw [hr_.out]; decide)
                  · replace c31 := Bool.eq_false_iff.mpr c31
                    subst c31
                    have H1 : ((laws_heldStringS.f kj19 t263 1).bind fun t270 => (if t270 < 0 then (some false) else (if t270 = t262 then (some true) else (some false)))) = some r := by rw [if_neg (show ¬ (false = true) by decide)] at H; exact H
                    clear H
                    have H := H1
                    clear H1
                    replace H := Option.bind_eq_some_iff.mp H
                    obtain ⟨t270, A320, H⟩ := H
                    replace H : (if t270 < 0 then (some false) else (if t270 = t262 then (some true) else (some false))) = some r := H
                    have A32 := Aside0.mk A320
                    clear A320
                    by_cases c33 : t270 < 0
                    · rw [if_pos c33] at H
                      have c33b0 : decide (t270 < 0) = true := decide_eq_true c33
                      clear c33
                      exact absurd (Option.some.inj H) (by rw [hr_.out]; decide)
                    · rw [if_neg c33] at H
                      have c33b0 : decide (t270 < 0) = false := decide_eq_false c33
                      clear c33
                      by_cases c34 : t270 = t262
                      · rw [if_pos c34] at H
                        have c34b0 : (t270 == t262) = true := beq_iff_eq.mpr c34
                        have c34b1 : (t270 != t262) = false := bne_eq_false_iff_eq.mpr c34
                        clear c34
                        obtain rfl := Option.some.inj H
                        go_wp2_with (first | ((with_reducible refine gate_callee (f := 27) rfl ?_); refine goesL_ (some 60) rfl rfl Tryd.func27 (by kernel_rfl) rfl #[.slice Ao21 t263.length co21, .int .i64 1] rfl (by (try simp only [List.map_toArray, List.map_cons, List.map_nil]); first | done | rfl | (simp only [List.length_drop, List.length_take]; rfl)) ?_; (with_reducible refine (laws_heldStringS.calls kj19 _ _ t263 1 t270 _ ?side1 ?side2 A32.out).mono ?_); (case side1 => repeat (first | exact (Kd.R_reads' HO_5.out).2.2 | (with_reducible refine Kd.C_alloc ?_ _) | (with_reducible refine Kd.C_drewN ?_ _) | (with_reducible refine Kd.C_drew ?_))); (case side2 => exact (Kd.R_reads' HO_5.out).2.1); rintro e w35 ⟨rfl, hb⟩; refine ⟨_, rfl, ?_⟩; have n0_ := Aside0.mk (Kd.R_below (by (with_reducible repeat (first | apply Kd.R_alloc | apply Kd.R_drewN | apply Kd.R_drew)); exact HO_5.out) hb); have n1_ := Aside0.mk (below_step (by repeat (first | (with_reducible first | exact HB.out | apply below_alloc | apply pw_below_drewN | apply below_drew1) | exact HB.out)) hb); clear HO_5; clear HB; have HO_5 := n0_; have HB := n1_; clear n0_ n1_; (try clear hb); (try clear hb2); (try clear hk); (try clear hi)))
                        go_ret
                        exact ⟨by first | rfl | (simp [errW_none, errW_some] <;> rfl) | (simp [*, errW_none, errW_some] <;> rfl), by repeat (first | (with_reducible first | exact HB.out | apply below_alloc | apply pw_below_drewN | apply below_drew1) | exact HB.out)⟩
                      · rw [if_neg c34] at H
                        have c34b0 : (t270 == t262) = false := beq_eq_false_iff_ne.mpr c34
                        have c34b1 : (t270 != t262) = true := bne_iff_ne.mpr c34
                        exact absurd (Option.some.inj H) (by rw [hr_.out]; decide)
            · rw [if_neg c18] at H
              have c18b0 : (t264 == t262) = false := beq_eq_false_iff_ne.mpr c18
              have c18b1 : (t264 != t262) = true := bne_iff_ne.mpr c18
              exact absurd (Option.some.inj H) (by rw [hr_.out]; decide)
end Go.Proofs.YtfoldjbcnlhipaaDoor.A

namespace Go.Proofs.YtfoldjbcnlhipaaDoor.A
open Go.ChangeShapes Go.WideShapes Go.ChangeAt Go.RowKit Go.Proofs.YtfoldjbcnlhipaaDoorW.PrintWords Go.Proofs.YtfoldjbcnlhipaaDoorW.PrintLast
set_option linter.unusedVariables false
set_option linter.unusedSimpArgs false
abbrev ok9 (s : ByteArray) : Prop := s.size ≤ maxLen
end Go.Proofs.YtfoldjbcnlhipaaDoor.A

namespace Go.Proofs.YtfoldjbcnlhipaaDoor.A
open Go.RowKit Go.Proofs.YtfoldjbcnlhipaaDoorW.PrintWords Go.Proofs.YtfoldjbcnlhipaaDoorW.PrintLast Go.Proofs.YtfoldjbcnlhipaaDoorW.PrintMore
set_option linter.unusedVariables false
set_option linter.unusedSimpArgs false
def Ev {α : Type} (F : Nat → Option α) (r : α) : Prop := ∃ K, ∀ k, K ≤ k → F k = some r
theorem Ev.mk {α : Type} {F : Nat → Option α} {r : α} (K : Nat) (h : ∀ k, K < k → F k = some r) : Ev F r := ⟨K + 1, fun k hk => h k hk⟩
theorem Ev.get {α : Type} {F : Nat → Option α} {r : α} (h : Ev F r) : ∃ k, F k = some r := by
  obtain ⟨K, h⟩ := h
  exact ⟨K, h K (Nat.le_refl _)⟩
theorem Ev.const {α : Type} {o : Option α} {r : α} (h : o = some r) : Ev (fun _ => o) r := ⟨0, fun _ _ => h⟩
theorem Ev.ret {α : Type} (r : α) : Ev (fun _ => some r) r := ⟨0, fun _ _ => rfl⟩
theorem Ev.bind {α β : Type} {F : Nat → Option α} {G : Nat → α → Option β} {a : α} {b : β} (h1 : Ev F a) (h2 : Ev (fun k => G k a) b) : Ev (fun k => (F k).bind (G k)) b := by
  obtain ⟨K1, h1⟩ := h1
  obtain ⟨K2, h2⟩ := h2
  refine ⟨max K1 K2, fun k hk => ?_⟩
  show (F k).bind (G k) = some b
  rw [h1 k (by omega)]
  exact h2 k (by omega)
theorem Ev.pos {α : Type} {c : Prop} [Decidable c] {A B : Nat → Option α} {r : α} (h : c) (hA : Ev A r) : Ev (fun k => if c then A k else B k) r := by
  obtain ⟨K, hA⟩ := hA
  exact ⟨K, fun k hk => by show (if c then A k else B k) = some r; rw [if_pos h]; exact hA k hk⟩
theorem Ev.neg {α : Type} {c : Prop} [Decidable c] {A B : Nat → Option α} {r : α} (h : ¬ c) (hB : Ev B r) : Ev (fun k => if c then A k else B k) r := by
  obtain ⟨K, hB⟩ := hB
  exact ⟨K, fun k hk => by show (if c then A k else B k) = some r; rw [if_neg h]; exact hB k hk⟩
theorem Ev.ite {α : Type} {c : Prop} [Decidable c] {A B : Nat → Option α} {a b : α} (hA : c → Ev A a) (hB : ¬ c → Ev B b) : Ev (fun k => if c then A k else B k) (if c then a else b) := by
  by_cases h : c
  · rw [if_pos h]; exact Ev.pos h (hA h)
  · rw [if_neg h]; exact Ev.neg h (hB h)
theorem Ev.succ {α : Type} {F : Nat → Option α} {r : α} (h : Ev (fun k => F (k + 1)) r) : Ev F r := by
  obtain ⟨K, h⟩ := h
  refine ⟨K + 1, fun k hk => ?_⟩
  obtain ⟨m, rfl⟩ : ∃ m, k = m + 1 := ⟨k - 1, by omega⟩
  exact h m (by omega)
theorem Ev.to {α : Type} {F : Nat → Option α} {r s : α} (h : Ev F r) (e : r = s) : Ev F s := e ▸ h
theorem wid (x : Int) (h : -9223372036854775808 ≤ x) (h2 : x ≤ 9223372036854775807) : wrap64 x = x := by unfold wrap64; omega
theorem wsucc (i : Nat) (h : i < 9223372036854775807) : wrap64 ((i : Int) + 1) = ((i + 1 : Nat) : Int) := by unfold wrap64; omega
abbrev mkS (l : List UInt8) : ByteArray := ⟨l.toArray⟩
theorem toList_inj {a b : ByteArray} (h : a.data.toList = b.data.toList) : a = b := by
  apply ByteArray.ext
  exact Array.toList_inj.mp h
end Go.Proofs.YtfoldjbcnlhipaaDoor.A

namespace Go.Proofs.YtfoldjbcnlhipaaDoor.A
open Go.RowKit Go.Proofs.YtfoldjbcnlhipaaDoorW.PrintWords Go.Proofs.YtfoldjbcnlhipaaDoorW.PrintLast Go.Proofs.YtfoldjbcnlhipaaDoorW.PrintMore
set_option linter.unusedVariables false
set_option linter.unusedSimpArgs false
def sp : List UInt8 → List (List UInt8)
  | [] => [[]]
  | b :: l => if b = 32 then [] :: sp l else match sp l with | x :: xs => (b :: x) :: xs | [] => [[b]]
theorem sp_ne (l : List UInt8) : sp l ≠ [] := by
  cases l with
  | nil => simp [sp]
  | cons b l =>
    rw [sp]
    split
    · simp
    · split <;> simp
def gsp (cur rest : List UInt8) : List (List UInt8) := match sp rest with | x :: xs => (cur ++ x) :: xs | [] => [cur]
theorem gsp_nil (rest : List UInt8) : gsp [] rest = sp rest := by
  unfold gsp
  have := sp_ne rest
  split
  · next h => rw [h]; rfl
  · next h => exact absurd h this
theorem gsp_end (cur : List UInt8) : gsp cur [] = [cur] := by simp [gsp, sp]
theorem gsp_space (cur rest : List UInt8) : gsp cur (32 :: rest) = cur :: sp rest := by simp [gsp, sp]
theorem gsp_more (cur rest : List UInt8) (b : UInt8) (h : b ≠ 32) : gsp cur (b :: rest) = gsp (cur ++ [b]) rest := by
  unfold gsp
  rw [sp, if_neg h]
  have := sp_ne rest
  split
  · next x xs e =>
    split at e
    · next y ys e2 =>
      obtain ⟨rfl, rfl⟩ := List.cons.inj e
      simp
    · next e2 => exact absurd e2 this
  · next e =>
    split at e
    · exact absurd e (by simp)
    · exact absurd e (by simp)
theorem splitK_sp : ∀ (l : List UInt8) (k : Nat), l.count 32 ≤ k → Go.Lib.splitK [32] 0 k l = sp l
  | [], k, _ => by
    cases k with
    | zero => rfl
    | succ k => rfl
  | b :: l, k, h => by
    by_cases c : b = 32
    · subst c
      rw [List.count_cons_self] at h
      obtain ⟨k, rfl⟩ : ∃ m, k = m + 1 := ⟨k - 1, by omega⟩
      have hi : Go.Lib.index (32 :: l) [32] = 0 := by simp [Go.Lib.index]
      rw [Go.Lib.splitK, hi, sp, if_pos rfl, if_neg (by decide)]
      have ih := splitK_sp l k (by omega)
      simpa using ih
    · rw [List.count_cons_of_ne (fun e => c e)] at h
      have hidx : Go.Lib.index (b :: l) [32] = if Go.Lib.index l [32] == -1 then -1 else Go.Lib.index l [32] + 1 := by
        have hp : List.isPrefixOf [32] (b :: l) = false := by simp [List.isPrefixOf, Ne.symm c]
        rw [Go.Lib.index, if_neg (by rw [hp]; simp)]
      rw [sp, if_neg c]
      cases k with
      | zero =>
        have ih := splitK_sp l 0 h
        rw [← ih]
        rfl
      | succ k =>
        have ih := splitK_sp l (k + 1) h
        rw [← ih, Go.Lib.splitK, Go.Lib.splitK, hidx]
        by_cases d : Go.Lib.index l [32] = -1
        · rw [d]
          rfl
        · have hg := Go.Lib.index_ge l [32]
          obtain ⟨j, hj⟩ : ∃ j : Nat, Go.Lib.index l [32] = j := ⟨(Go.Lib.index l [32]).toNat, by omega⟩
          rw [hj]
          have e1 : (((j : Int) == -1)) = false := by rw [beq_eq_false_iff_ne]; omega
          rw [e1]
          simp only [Bool.false_eq_true, if_false]
          have e2 : (((j : Int) + 1 == -1)) = false := by rw [beq_eq_false_iff_ne]; omega
          rw [e2]
          simp only [Bool.false_eq_true, if_false, Nat.add_zero]
          rw [show ((j : Int) + 1).toNat = j + 1 by omega, Int.toNat_natCast]
          simp
theorem extract_mk (s : ByteArray) (a b : Nat) : s.extract a b = mkS ((s.data.toList.take b).drop a) := by
  apply toList_inj
  show (s.extract a b).data.toList = _
  rw [ByteArray.data_extract, Array.toList_extract]
  simp [List.extract, List.drop_take]
theorem pieces_sp (s : ByteArray) : pieces s ⟨#[32]⟩ = (sp s.data.toList).map mkS := by
  have h1 : (pieces s ⟨#[32]⟩).map (·.data.toList) = sp s.data.toList := by
    unfold pieces
    rw [Go.Lib.splitB_data]
    refine splitK_sp _ _ ?_
    show _ ≤ Go.Lib.count s.data.toList [32]
    rw [Go.Lib.count_one]
    exact Nat.le_refl _
  rw [← h1, List.map_map]
  have e : (mkS ∘ fun x : ByteArray => x.data.toList) = id := by
    funext x
    rfl
  rw [e, List.map_id]
end Go.Proofs.YtfoldjbcnlhipaaDoor.A

namespace Go.Proofs.YtfoldjbcnlhipaaDoor.A
open Go.RowKit Go.Proofs.YtfoldjbcnlhipaaDoorW.PrintWords Go.Proofs.YtfoldjbcnlhipaaDoorW.PrintLast Go.Proofs.YtfoldjbcnlhipaaDoorW.PrintMore
set_option linter.unusedVariables false
set_option linter.unusedSimpArgs false
def good (b : UInt8) : Bool := decide (32 ≤ b.toNat) && decide (b.toNat ≤ 126)
def ne8 (l : List UInt8) : Bool := !l.isEmpty
def finF (fs : List ByteArray) : List ByteArray × Bool := if (fs.length : Int) > 24 then ([], false) else (fs, true)
def fieldsP (l : List UInt8) : List ByteArray × Bool := if 600 < l.length then ([], false) else if l.all good = true then finF (((sp l).filter ne8).map mkS) else ([], false)
theorem good_iff (b : UInt8) : good b = true ↔ ¬ (b.toNat : Int) < 32 ∧ ¬ (b.toNat : Int) > 126 := by
  unfold good
  rw [Bool.and_eq_true, decide_eq_true_iff, decide_eq_true_iff]
  omega
theorem bt_get (s : ByteArray) (i : Nat) (h : i < s.data.toList.length) : bt s (i : Int) = (s.data.toList[i]).toNat := by
  rw [data_length] at h
  rw [← bt_at s (i : Int) (by omega)]
  rfl
theorem cut_end {l : List UInt8} {b i : Nat} (h1 : b ≤ i) (h2 : i ≤ l.length) : ((l.take i).drop b).length = i - b := by
  rw [List.length_drop, List.length_take]
  omega
theorem cut_more {l : List UInt8} {b i : Nat} (h1 : b ≤ i) (h2 : i < l.length) : (l.take (i + 1)).drop b = (l.take i).drop b ++ [l[i]] := by
  rw [List.take_succ_eq_append_getElem h2, List.drop_append_of_le_length (by rw [List.length_take]; omega)]
theorem cut_none {l : List UInt8} {i : Nat} : (l.take i).drop i = [] := List.drop_eq_nil_of_le (by rw [List.length_take]; omega)
theorem ne8_cut {l : List UInt8} {b i : Nat} (h1 : b ≤ i) (h2 : i ≤ l.length) : ne8 ((l.take i).drop b) = decide (b < i) := by
  have h := cut_end h1 h2
  unfold ne8
  by_cases c : b < i
  · rw [decide_eq_true c]
    have : ((l.take i).drop b) ≠ [] := fun e => by rw [e] at h; simp at h; omega
    simp [this]
  · have : ((l.take i).drop b) = [] := List.eq_nil_of_length_eq_zero (by omega)
    rw [decide_eq_false c, this]
    rfl
theorem filter_cons8 (a : List UInt8) (l : List (List UInt8)) (b : Bool) (h : ne8 a = b) : (a :: l).filter ne8 = if b = true then a :: l.filter ne8 else l.filter ne8 := by
  rw [List.filter_cons, h]
theorem spS_loop (s : ByteArray) (hs : s.size ≤ 600) : ∀ (rest : List UInt8) (i b : Nat) (out : List ByteArray), s.data.toList.drop i = rest → i ≤ s.size → b ≤ i → out.length ≤ i →
    Ev (fun k => spec_SplitFields.l0 k s out (b : Int) (i : Int)) (if rest.all good = true then finF (out ++ ((gsp ((s.data.toList.take i).drop b) rest).filter ne8).map mkS) else ([], false))
  | [], i, b, out, hd, hi, hb, ho => by
    have hl := data_length s
    have he : i = s.size := by have := List.drop_eq_nil_iff.mp hd; omega
    have hfin : ∀ (o : List ByteArray) (b' : Int), Ev (fun k => spec_SplitFields.l0 k s o b' (((i + 1 : Nat)) : Int)) (finF o) := by
      intro o b'
      refine Ev.succ ?_
      simp only [spec_SplitFields.l0]
      refine Ev.neg (by omega) ?_
      unfold finF
      exact Ev.ite (fun _ => Ev.ret _) (fun _ => Ev.ret _)
    rw [List.all_nil, if_pos rfl, gsp_end, filter_cons8 _ _ _ (ne8_cut hb (by omega)), List.filter_nil]
    refine Ev.succ ?_
    simp only [spec_SplitFields.l0]
    refine Ev.pos (by omega) (Ev.neg (by omega) (Ev.succ ?_))
    simp only [spec_SplitFields.j1]
    refine Ev.neg (by simp) (Ev.neg (by omega) (Ev.succ ?_))
    simp only [spec_SplitFields.j2]
    refine Ev.neg (by simp) ?_
    rw [wsucc i (by omega)]
    by_cases c : b < i
    · rw [decide_eq_true c, if_pos rfl]
      refine Ev.pos (by omega) (Ev.pos (by omega) (Ev.pos (by omega) (Ev.pos (by omega) (Ev.pos (by omega) ?_))))
      rw [extract_mk, Int.toNat_natCast, Int.toNat_natCast]
      exact hfin _ _
    · rw [decide_eq_false c, if_neg (by simp)]
      refine Ev.neg (by omega) ?_
      rw [List.map_nil, List.append_nil]
      exact hfin _ _
  | c :: rest, i, b, out, hd, hi, hb, ho => by
    have hl := data_length s
    have hlt : i < s.data.toList.length := by
      rcases Nat.lt_or_ge i s.data.toList.length with h | h
      · exact h
      · rw [List.drop_eq_nil_of_le h] at hd; simp at hd
    rw [List.drop_eq_getElem_cons hlt] at hd
    obtain ⟨e1, e2⟩ := List.cons.inj hd
    have hbt := bt_get s i hlt
    rw [e1] at hbt
    have hg := good_iff c
    rw [List.all_cons]
    refine Ev.succ ?_
    simp only [spec_SplitFields.l0]
    rw [hbt]
    refine Ev.pos (by omega) (Ev.pos (by omega) (Ev.pos (by omega) ?_))
    by_cases c1 : (c.toNat : Int) < 32
    · rw [show good c = false by rw [Bool.eq_false_iff, Ne, hg]; exact fun h => h.1 c1, Bool.false_and, if_neg (by simp)]
      refine Ev.pos c1 (Ev.succ ?_)
      simp only [spec_SplitFields.j1]
      exact Ev.pos trivial (Ev.ret _)
    · refine Ev.neg c1 (Ev.succ ?_)
      simp only [spec_SplitFields.j1]
      by_cases c2 : (c.toNat : Int) > 126
      · rw [show good c = false by rw [Bool.eq_false_iff, Ne, hg]; exact fun h => h.2 c2, Bool.false_and, if_neg (by simp)]
        exact Ev.pos (decide_eq_true c2) (Ev.ret _)
      · rw [show good c = true from hg.mpr ⟨c1, c2⟩, Bool.true_and]
        refine Ev.neg (by simpa using c2) (Ev.pos (by omega) (Ev.pos (by omega) (Ev.succ ?_)))
        simp only [spec_SplitFields.j2]
        rw [hbt, wsucc i (by omega)]
        by_cases c3 : c = 32
        · subst c3
          refine Ev.neg (by decide) ?_
          have ih := fun o ho' => spS_loop s hs rest (i + 1) (i + 1) o e2 (by omega) (by omega) ho'
          rw [gsp_space, filter_cons8 _ _ _ (ne8_cut hb (by omega))]
          simp only [cut_none, gsp_nil] at ih
          by_cases c4 : b < i
          · rw [decide_eq_true c4, if_pos rfl]
            refine Ev.pos (by omega) (Ev.pos (by omega) (Ev.pos (by omega) (Ev.pos (by omega) (Ev.pos (by omega) ?_))))
            rw [extract_mk, Int.toNat_natCast, Int.toNat_natCast]
            refine (ih (out ++ [mkS ((s.data.toList.take i).drop b)]) (by simp; omega)).to ?_
            rw [List.map_cons, List.append_assoc]
            rfl
          · rw [decide_eq_false c4]
            refine Ev.neg (by omega) ((ih out (by omega)).to ?_)
            rfl
        · have hne : ((c.toNat : Int) != 32) = true := by
            rw [bne_iff_ne]
            intro h
            exact c3 (UInt8.toNat_inj.mp (by show c.toNat = 32; omega))
          rw [hne]
          refine Ev.pos rfl ?_
          refine (spS_loop s hs rest (i + 1) b out e2 (by omega) (by omega) (by omega)).to ?_
          rw [gsp_more _ _ _ c3, cut_more hb hlt, e1]
theorem spS_ev (s : ByteArray) : Ev (fun k => spec_SplitFields.f k s) (fieldsP s.data.toList) := by
  have hl := data_length s
  unfold spec_SplitFields.f fieldsP
  refine Ev.bind (Ev.const rfl) ?_
  by_cases c : (s.size : Int) > 600
  · rw [if_pos (by omega)]
    exact Ev.pos c (Ev.ret _)
  · rw [if_neg (by omega)]
    refine Ev.neg c ((spS_loop s (by omega) s.data.toList 0 0 [] rfl (by omega) (by omega) (by simp)).to ?_)
    rw [List.take_zero, List.drop_zero, gsp_nil, List.nil_append]
theorem spI_out (ps : List ByteArray) (hp : ps.length ≤ 1000) : ∀ (rest : List ByteArray) (i : Nat) (out : List ByteArray), ps.drop i = rest → i ≤ ps.length → out.length ≤ i →
    Ev (fun k => impl_SplitFields.l1 k out ps (ps.length : Int) (i : Int)) (finF (out ++ rest.filter (fun x => ne8 x.data.toList)))
  | [], i, out, hd, hi, ho => by
    have he : i = ps.length := by have := List.drop_eq_nil_iff.mp hd; omega
    refine Ev.succ ?_
    simp only [impl_SplitFields.l1]
    refine Ev.neg (by omega) ?_
    rw [List.filter_nil, List.append_nil]
    unfold finF
    exact Ev.ite (fun _ => Ev.ret _) (fun _ => Ev.ret _)
  | x :: rest, i, out, hd, hi, ho => by
    have hlt : i < ps.length := by
      rcases Nat.lt_or_ge i ps.length with h | h
      · exact h
      · rw [List.drop_eq_nil_of_le h] at hd; simp at hd
    rw [List.drop_eq_getElem_cons hlt] at hd
    obtain ⟨e1, e2⟩ := List.cons.inj hd
    have er : rdOf ByteArray.empty ps (i : Int) = x := by
      unfold rdOf
      rw [Int.toNat_natCast, List.getD_eq_getElem?_getD, List.getElem?_eq_getElem hlt, ← e1]
      rfl
    refine Ev.succ ?_
    simp only [impl_SplitFields.l1]
    rw [er, wsucc i (by omega), ByteArray.toList_eq]
    refine Ev.pos (by omega) (Ev.pos (by omega) (Ev.pos (by omega) ?_))
    rw [List.filter_cons]
    by_cases c : x.data.toList = []
    · rw [show ne8 x.data.toList = false by rw [c]; rfl, if_neg (by simp)]
      exact Ev.pos c (spI_out ps hp rest (i + 1) out e2 (by omega) (by omega))
    · have hn : ne8 x.data.toList = true := by
        unfold ne8
        cases hx : x.data.toList with
        | nil => exact absurd hx c
        | cons _ _ => rfl
      rw [hn, if_pos rfl]
      refine Ev.neg c (Ev.pos (by omega) ((spI_out ps hp rest (i + 1) (out ++ [x]) e2 (by omega) (by simp; omega)).to ?_))
      rw [List.append_assoc]
      rfl
theorem sp_len (l : List UInt8) : (sp l).length ≤ l.length + 1 := by
  induction l with
  | nil => simp [sp]
  | cons b l ih =>
    rw [sp]
    split
    · simp; omega
    · split
      · next e => rw [e] at ih; simp at ih ⊢; omega
      · simp
theorem split_ev (s : ByteArray) (hs : s.size ≤ 600) : strings_Split.f s (⟨#[32]⟩ : ByteArray) = some ((sp s.data.toList).map mkS) := by
  unfold strings_Split.f
  rw [if_pos ⟨by omega, by decide, by unfold pieces; exact Go.Lib.splitB_all _ (by decide) 0 _ s rfl⟩, pieces_sp]
theorem filter_mkS (l : List (List UInt8)) : (l.map mkS).filter (fun x => ne8 x.data.toList) = (l.filter ne8).map mkS := by
  induction l with
  | nil => rfl
  | cons a l ih =>
    rw [List.map_cons, List.filter_cons, List.filter_cons]
    show (if ne8 a = true then _ else _) = _
    split
    · rw [ih]; rfl
    · exact ih
theorem spI_loop (s : ByteArray) (hs : s.size ≤ 600) : ∀ (rest : List UInt8) (i : Nat), s.data.toList.drop i = rest → i ≤ s.size →
    Ev (fun k => impl_SplitFields.l0 k s (i : Int)) (if rest.all good = true then finF (((sp s.data.toList).filter ne8).map mkS) else ([], false))
  | [], i, hd, hi => by
    have hl := data_length s
    have he : i = s.size := by have := List.drop_eq_nil_iff.mp hd; omega
    have hp := sp_len s.data.toList
    rw [List.all_nil, if_pos rfl]
    refine Ev.succ ?_
    simp only [impl_SplitFields.l0]
    refine Ev.neg (by omega) (Ev.bind (Ev.const (split_ev s hs)) ?_)
    refine (spI_out _ (by rw [List.length_map]; omega) _ 0 [] rfl (by omega) (by simp)).to ?_
    rw [List.nil_append, List.drop_zero, filter_mkS]
  | c :: rest, i, hd, hi => by
    have hl := data_length s
    have hlt : i < s.data.toList.length := by
      rcases Nat.lt_or_ge i s.data.toList.length with h | h
      · exact h
      · rw [List.drop_eq_nil_of_le h] at hd; simp at hd
    rw [List.drop_eq_getElem_cons hlt] at hd
    obtain ⟨e1, e2⟩ := List.cons.inj hd
    have hbt := bt_get s i hlt
    rw [e1] at hbt
    have hg := good_iff c
    rw [List.all_cons]
    refine Ev.succ ?_
    simp only [impl_SplitFields.l0]
    rw [hbt, wsucc i (by omega)]
    refine Ev.pos (by omega) (Ev.pos (by omega) ?_)
    by_cases c1 : (c.toNat : Int) < 32
    · rw [show good c = false by rw [Bool.eq_false_iff, Ne, hg]; exact fun h => h.1 c1, Bool.false_and, if_neg (by simp)]
      exact Ev.pos c1 (Ev.ret _)
    · refine Ev.neg c1 ?_
      by_cases c2 : (c.toNat : Int) > 126
      · rw [show good c = false by rw [Bool.eq_false_iff, Ne, hg]; exact fun h => h.2 c2, Bool.false_and, if_neg (by simp)]
        exact Ev.pos c2 (Ev.ret _)
      · rw [show good c = true from hg.mpr ⟨c1, c2⟩, Bool.true_and]
        exact Ev.neg c2 (spI_loop s hs rest (i + 1) e2 (by omega))
theorem spI_ev (s : ByteArray) : Ev (fun k => impl_SplitFields.f k s) (fieldsP s.data.toList) := by
  have hl := data_length s
  unfold impl_SplitFields.f fieldsP
  by_cases c : (s.size : Int) > 600
  · rw [if_pos (by omega)]
    exact Ev.pos c (Ev.ret _)
  · rw [if_neg (by omega)]
    exact Ev.neg c (spI_loop s (by omega) s.data.toList 0 rfl (by omega))
end Go.Proofs.YtfoldjbcnlhipaaDoor.A

namespace Go.Proofs.YtfoldjbcnlhipaaDoor.A
open Go.RowKit Go.Proofs.YtfoldjbcnlhipaaDoorW.PrintWords Go.Proofs.YtfoldjbcnlhipaaDoorW.PrintLast Go.Proofs.YtfoldjbcnlhipaaDoorW.PrintMore
set_option linter.unusedVariables false
set_option linter.unusedSimpArgs false
theorem strOfNums_size (l : List Int) : (strOfNums l).size = l.length := by
  unfold strOfNums
  show (List.toArray _).size = _
  simp
theorem markT_loop : ∀ (m : Nat) (n : Int) (x : ByteArray), n < ((10 ^ m : Nat) : Int) → -1000 ≤ n → n ≤ 100000 → x.size + m ≤ 100 → ∃ r, Ev (fun k => laws_markText.l0 k n x) r
  | 0, n, x, h, h0, h1, hx => by
    refine ⟨(⟨#[109]⟩ : ByteArray) ++ x, Ev.succ ?_⟩
    simp only [laws_markText.l0]
    exact Ev.neg (by simp at h; omega) (Ev.pos (by omega) (Ev.ret _))
  | m + 1, n, x, h, h0, h1, hx => by
    by_cases c : n > 0
    · have hz : (strOfNums [(wrap64 (48 + (Int.tmod n 10))) % 256]).size = 1 := strOfNums_size _
      have hd : Int.tdiv n 10 = n / 10 := Int.tdiv_eq_ediv_of_nonneg (by omega)
      obtain ⟨r, e⟩ := markT_loop m (n / 10) (strOfNums [(wrap64 (48 + (Int.tmod n 10))) % 256] ++ x) (by rw [Nat.pow_succ] at h; omega) (by omega) (by omega) (by rw [ByteArray.size_append, hz]; omega)
      refine ⟨r, Ev.succ ?_⟩
      simp only [laws_markText.l0]
      rw [hd, wid (n / 10) (by omega) (by omega)]
      exact Ev.pos c (Ev.bind (Ev.const rfl) (Ev.pos (by rw [hz]; omega) e))
    · refine ⟨(⟨#[109]⟩ : ByteArray) ++ x, Ev.succ ?_⟩
      simp only [laws_markText.l0]
      exact Ev.neg c (Ev.pos (by omega) (Ev.ret _))
theorem markT_some (n : Nat) : ∃ r, n ≤ 1000 → Ev (fun k => laws_markText.f k (n : Int)) r := by
  by_cases h : n ≤ 1000
  · by_cases c : (n : Int) ≤ 0
    · exact ⟨_, fun _ => by unfold laws_markText.f; exact Ev.pos c (Ev.ret _)⟩
    · have hp : (10 : Nat) ^ 5 = 100000 := by decide
      obtain ⟨r, e⟩ := markT_loop 5 n ⟨#[]⟩ (by rw [hp]; omega) (by omega) (by omega) (by decide)
      exact ⟨r, fun _ => by unfold laws_markText.f; exact Ev.neg c e⟩
  · exact ⟨⟨#[]⟩, fun h' => absurd h' h⟩
theorem rd_set (l : List ByteArray) (i j : Nat) (v : ByteArray) (h : i < l.length) : rdOf ByteArray.empty (l.set i v) (j : Int) = if i = j then v else rdOf ByteArray.empty l (j : Int) := by
  unfold rdOf
  rw [Int.toNat_natCast, List.getD_eq_getElem?_getD, List.getD_eq_getElem?_getD, List.getElem?_set]
  split
  · next e => subst e; simp [h]
  · rfl
theorem mark_loop (T : Nat → ByteArray) (hT : ∀ n : Nat, n ≤ 1000 → Ev (fun k => laws_markText.f k (n : Int)) (T n)) : ∀ (d i : Nat) (l : List ByteArray), l.length = i + d → i + d ≤ 900 → (∀ j, j < i → rdOf ByteArray.empty l (j : Int) = T (1 + j)) →
    ∃ l', Ev (fun k => laws_markStringS.l0 k l ((1 + i : Nat) : Int) (i : Int)) (((1 + i + d : Nat) : Int), l') ∧ l'.length = i + d ∧ ∀ j, j < i + d → rdOf ByteArray.empty l' (j : Int) = T (1 + j)
  | 0, i, l, hl, hd, hj => by
    refine ⟨l, Ev.succ ?_, hl, hj⟩
    simp only [laws_markStringS.l0]
    exact Ev.neg (by omega) (Ev.ret _)
  | d + 1, i, l, hl, hd, hj => by
    obtain ⟨l', e, h1, h2⟩ := mark_loop T hT d (i + 1) (l.set i (T (1 + i))) (by rw [List.length_set]; omega) (by omega) (fun j h => by
      rw [rd_set l i j _ (by omega)]
      by_cases c : i = j
      · rw [if_pos c, c]
      · rw [if_neg c]
        exact hj j (by omega))
    refine ⟨l', Ev.succ ?_, by omega, fun j h => h2 j (by omega)⟩
    simp only [laws_markStringS.l0]
    rw [wsucc i (by omega), wsucc (1 + i) (by omega), Int.toNat_natCast]
    refine Ev.pos (by omega) (Ev.bind (hT (1 + i) (by omega)) (Ev.pos (by omega) ?_))
    rw [show 1 + i + 1 = 1 + (i + 1) by omega, show 1 + i + (d + 1) = 1 + (i + 1) + d by omega]
    exact e
theorem held_loop (T : Nat → ByteArray) (hT : ∀ n : Nat, n ≤ 1000 → Ev (fun k => laws_markText.f k (n : Int)) (T n)) (l : List ByteArray) (hm : ∀ j, j < l.length → rdOf ByteArray.empty l (j : Int) = T (1 + j)) : ∀ (d i : Nat), l.length = i + d → i + d ≤ 900 →
    Ev (fun k => laws_heldStringS.l0 k l ((1 + i : Nat) : Int) (i : Int)) ((1 + i + d : Nat) : Int)
  | 0, i, hl, hd => by
    refine Ev.succ ?_
    simp only [laws_heldStringS.l0]
    exact Ev.neg (by omega) (Ev.ret _)
  | d + 1, i, hl, hd => by
    refine Ev.succ ?_
    simp only [laws_heldStringS.l0]
    rw [wsucc i (by omega), wsucc (1 + i) (by omega), hm i (by omega)]
    refine Ev.pos (by omega) (Ev.pos (by omega) (Ev.bind (hT (1 + i) (by omega)) (Ev.pos rfl ?_)))
    rw [show 1 + i + 1 = 1 + (i + 1) by omega, show 1 + i + (d + 1) = 1 + (i + 1) + d by omega]
    exact held_loop T hT l hm d (i + 1) (by omega) (by omega)
theorem eqS_loop (l : List ByteArray) (hl2 : l.length ≤ 100000) : ∀ (d i : Nat), l.length = i + d → Ev (fun k => laws_eqStringS.l0 k l l (i : Int)) true
  | 0, i, hl => by
    refine Ev.succ ?_
    simp only [laws_eqStringS.l0]
    exact Ev.neg (by omega) (Ev.ret _)
  | d + 1, i, hl => by
    refine Ev.succ ?_
    simp only [laws_eqStringS.l0]
    rw [wsucc i (by omega)]
    exact Ev.pos (by omega) (Ev.pos (by omega) (Ev.pos (by omega) (Ev.pos trivial (eqS_loop l hl2 d (i + 1) (by omega)))))
theorem eqS_ev (l : List ByteArray) (hl : l.length ≤ 100000) : Ev (fun k => laws_eqStringS.f k l l) true := by
  unfold laws_eqStringS.f
  exact Ev.pos rfl (eqS_loop l hl l.length 0 (by omega))
theorem fields_len (l : List UInt8) : (fieldsP l).1.length ≤ 24 := by
  unfold fieldsP finF
  split
  · simp
  · split
    · split
      · simp
      · simp only
        omega
    · simp
theorem pureFnExactSplitFields : ∀ (a0 : ByteArray), ok9 a0 → ∃ k, laws_FnExactSplitFields.f k a0 = some true := by
  intro a0 _
  refine Ev.get ?_
  unfold laws_FnExactSplitFields.f
  by_cases c : (a0.size : Int) > 1048576
  · exact Ev.pos c (Ev.ret _)
  · refine Ev.neg c ?_
    obtain ⟨T, hT⟩ := Classical.axiomOfChoice markT_some
    have hlen := fields_len a0.data.toList
    have e1 := spS_ev a0
    have e2 := spI_ev a0
    revert hlen e1 e2
    generalize fieldsP a0.data.toList = r
    intro hlen e1 e2
    obtain ⟨fs, ok⟩ := r
    have heq := eqS_ev fs (by simp only at hlen; omega)
    obtain ⟨l', m1, m2, m3⟩ := mark_loop T hT fs.length 0 fs (by omega) (by simp only at hlen; omega) (fun j h => by omega)
    have hh := held_loop T hT l' (fun j h => m3 j (by omega)) fs.length 0 (by omega) (by simp only at hlen; omega)
    have m1' : Ev (fun k => laws_markStringS.f k fs 1) (((1 + 0 + fs.length : Nat) : Int), l') := m1
    have hh' : Ev (fun k => laws_heldStringS.f k l' 1) ((1 + 0 + fs.length : Nat) : Int) := hh
    refine Ev.bind e1 (Ev.bind e2 (Ev.bind heq (Ev.pos rfl (Ev.succ ?_))))
    simp only [laws_FnExactSplitFields.j0]
    refine Ev.neg (by simp) (Ev.bind m1' (Ev.bind hh' (Ev.neg (by omega) (Ev.pos rfl (Ev.bind e2 (Ev.bind heq (Ev.pos rfl (Ev.succ ?_))))))))
    simp only [laws_FnExactSplitFields.j1]
    exact Ev.neg (by simp) (Ev.bind hh' (Ev.neg (by omega) (Ev.pos rfl (Ev.ret _))))
end Go.Proofs.YtfoldjbcnlhipaaDoor.A
