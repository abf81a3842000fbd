/- What the proof of the law FnNumbers uses: lemmas, the Lean functions of the Go functions that it reaches, their contracts, and the pure statement's proof. -/
import Derived.Test.YtfoldjbcnlhipaaDoorZFnNumbersx10
import Derived.ProofKit
import Derived.OpenShut
import Derived.ShutString
import Derived.ChangeOld
import Derived.SizedLaws
import Derived.ChangeArms
namespace Go.Proofs.YtfoldjbcnlhipaaDoor.A
open Go.RowKit Go.Proofs.YtfoldjbcnlhipaaDoorW.PrintWords Go.Proofs.YtfoldjbcnlhipaaDoorW.PrintLast Go.Proofs.YtfoldjbcnlhipaaDoorW.PrintMore
attribute [local go_sem] max2_int min2_int max_two min_two max_three min_three max_four min_four   
set_option linter.unusedVariables false
set_option linter.unusedSimpArgs false
def laws_FnNumbers.f (k : Nat) (l0 : List Int) : Option (Bool) := (laws_big.f l0).bind fun t185 => (if t185 = true then (some true) else ((spec_DrawFormatInt.f k l0).bind fun t186 => ((impl_FormatInt.f t186).bind fun t187 => ((impl_ParseUint.f k t187).bind fun bt188 => (if t186 ≥ 0 then (if t187.toList = ([] : List UInt8) then (some false) else (if (bt188.2 == (decide (t186 ≤ 1000000000))) = true then (if t186 ≤ 1000000000 then (some (bt188.1 == t186)) else (some true)) else (some false))) else (if t187.toList = ([] : List UInt8) then (some false) else (if (bt188.2 == false) = true then (some true) else (some false))))))))
set_option maxHeartbeats 8000000 in
set_option maxRecDepth 100000 in
theorem laws_FnNumbers.calls (k : Nat) (A0 : Option Addr) (c0 : Nat) (l0 : List Int) (r : Bool) (w : World) (hr0 : Kd.C (Kd.int .u8) w A0 l0.length l0) (hc0 : l0.length ≤ c0) (hr_ : Aside0 (r = true)) (h : laws_FnNumbers.f k l0 = some r) (hTI : TabI w := by first | exact Aside0.out (by assumption) | exact tabI_below (Aside0.out (by assumption)) (by repeat (first | (with_reducible first | exact Aside0.out (by assumption) | apply below_alloc | apply pw_below_drewN | apply below_drew1) | exact Below.refl _ _))) :
    Calls Tryd.prog 6 #[.slice A0 l0.length c0] w fun e w' => e = .returned (.bool r) ∧ Below w.heap.size w w' := by
  have HTI_ := Aside0.mk hTI
  clear hTI
  have HR0 := Aside0.mk hr0
  have HC0 := Aside0.mk hc0
  clear hr0 hc0
  have HB := Aside0.mk (Below.refl w.heap.size w)
  have H : ((laws_big.f l0).bind fun t185 => (if t185 = true then (some true) else ((spec_DrawFormatInt.f k l0).bind fun t186 => ((impl_FormatInt.f t186).bind fun t187 => ((impl_ParseUint.f k t187).bind fun bt188 => (if t186 ≥ 0 then (if t187.toList = ([] : List UInt8) then (some false) else (if (bt188.2 == (decide (t186 ≤ 1000000000))) = true then (if t186 ≤ 1000000000 then (some (bt188.1 == t186)) else (some true)) else (some false))) else (if t187.toList = ([] : List UInt8) then (some false) else (if (bt188.2 == false) = true then (some true) else (some false))))))))) = some r := h
  clear h
  replace H := Option.bind_eq_some_iff.mp H
  obtain ⟨t185, A20, H⟩ := H
  replace H : (if t185 = true then (some true) else ((spec_DrawFormatInt.f k l0).bind fun t186 => ((impl_FormatInt.f t186).bind fun t187 => ((impl_ParseUint.f k t187).bind fun bt188 => (if t186 ≥ 0 then (if t187.toList = ([] : List UInt8) then (some false) else (if (bt188.2 == (decide (t186 ≤ 1000000000))) = true then (if t186 ≤ 1000000000 then (some (bt188.1 == t186)) else (some true)) else (some false))) else (if t187.toList = ([] : List UInt8) then (some false) else (if (bt188.2 == false) = true then (some true) else (some false)))))))) = some r := H
  have A2 := Aside0.mk A20
  clear A20
  by_cases c3 : t185 = true
  · subst c3
    have H1 : (some true) = some r := by rw [if_pos rfl] at H; exact H
    clear H
    have H := H1
    clear H1
    obtain rfl := Option.some.inj H
    go_enter Tryd.func6, Tryd.ntmps6
    go_wp2_with (first | ((with_reducible refine gate_callee (f := 17) rfl ?_); refine goesL_ (some 9) rfl rfl Tryd.func17 (by kernel_rfl) rfl #[.slice A0 l0.length c0] rfl (by (try simp only [List.map_toArray, List.map_cons, List.map_nil]); first | done | rfl | (simp only [List.length_drop, List.length_take]; rfl)) ?_; (with_reducible refine (laws_big.calls _ _ l0 true _ ?side1 ?side2 A2.out).mono ?_); (case side1 => repeat (first | exact HR0.out | (with_reducible refine Kd.C_alloc ?_ _) | (with_reducible refine Kd.C_drewN ?_ _) | (with_reducible refine Kd.C_drew ?_))); (case side2 => exact HC0.out); rintro e w' ⟨rfl, ⟨nd, rfl⟩⟩; refine ⟨_, rfl, ?_⟩))
    go_ret
    exact ⟨by first | rfl | (simp [errW_none, errW_some] <;> rfl) | (simp [*, errW_none, errW_some] <;> rfl), by repeat (first | (with_reducible first | exact HB.out | apply below_alloc | apply pw_below_drewN | apply below_drew1) | exact HB.out)⟩
  · replace c3 := Bool.eq_false_iff.mpr c3
    subst c3
    have H1 : ((spec_DrawFormatInt.f k l0).bind fun t186 => ((impl_FormatInt.f t186).bind fun t187 => ((impl_ParseUint.f k t187).bind fun bt188 => (if t186 ≥ 0 then (if t187.toList = ([] : List UInt8) then (some false) else (if (bt188.2 == (decide (t186 ≤ 1000000000))) = true then (if t186 ≤ 1000000000 then (some (bt188.1 == t186)) else (some true)) else (some false))) else (if t187.toList = ([] : List UInt8) then (some false) else (if (bt188.2 == false) = true then (some true) else (some false))))))) = some r := by rw [if_neg (show ¬ (false = true) by decide)] at H; exact H
    clear H
    have H := H1
    clear H1
    replace H := Option.bind_eq_some_iff.mp H
    obtain ⟨t186, A40, H⟩ := H
    replace H : ((impl_FormatInt.f t186).bind fun t187 => ((impl_ParseUint.f k t187).bind fun bt188 => (if t186 ≥ 0 then (if t187.toList = ([] : List UInt8) then (some false) else (if (bt188.2 == (decide (t186 ≤ 1000000000))) = true then (if t186 ≤ 1000000000 then (some (bt188.1 == t186)) else (some true)) else (some false))) else (if t187.toList = ([] : List UInt8) then (some false) else (if (bt188.2 == false) = true then (some true) else (some false)))))) = some r := H
    have A4 := Aside0.mk A40
    clear A40
    replace H := Option.bind_eq_some_iff.mp H
    obtain ⟨t187, A50, H⟩ := H
    replace H : ((impl_ParseUint.f k t187).bind fun bt188 => (if t186 ≥ 0 then (if t187.toList = ([] : List UInt8) then (some false) else (if (bt188.2 == (decide (t186 ≤ 1000000000))) = true then (if t186 ≤ 1000000000 then (some (bt188.1 == t186)) else (some true)) else (some false))) else (if t187.toList = ([] : List UInt8) then (some false) else (if (bt188.2 == false) = true then (some true) else (some false))))) = some r := H
    have A5 := Aside0.mk A50
    clear A50
    replace H := Option.bind_eq_some_iff.mp H
    obtain ⟨⟨t188, t189⟩, A60, H⟩ := H
    replace H : (if t186 ≥ 0 then (if t187.toList = ([] : List UInt8) then (some false) else (if (t189 == (decide (t186 ≤ 1000000000))) = true then (if t186 ≤ 1000000000 then (some (t188 == t186)) else (some true)) else (some false))) else (if t187.toList = ([] : List UInt8) then (some false) else (if (t189 == false) = true then (some true) else (some false)))) = some r := H
    have A6 := Aside0.mk A60
    clear A60
    by_cases c7 : t186 ≥ 0
    · rw [if_pos c7] at H
      have c7b0 : decide (0 ≤ t186) = true := decide_eq_true c7
      clear c7
      by_cases c8 : t187.toList = ([] : List UInt8)
      · rw [if_pos c8] at H
        have c8b0 : (t187.toList == ([] : List UInt8)) = true := beq_iff_eq.mpr c8
        have c8b1 : (t187.toList != ([] : List UInt8)) = false := bne_eq_false_iff_eq.mpr c8
        clear c8
        exact absurd (Option.some.inj H) (by rw [hr_.out]; decide)
      · rw [if_neg c8] at H
        have c8b0 : (t187.toList == ([] : List UInt8)) = false := beq_eq_false_iff_ne.mpr c8
        have c8b1 : (t187.toList != ([] : List UInt8)) = true := bne_iff_ne.mpr c8
        by_cases c9 : (t189 == (decide (t186 ≤ 1000000000))) = true
        · rw [if_pos c9] at H
          have c9b0 : (t189 == (decide (t186 ≤ 1000000000))) = true := c9
          (try (have c9b1 : decide (t189 = (decide (t186 ≤ 1000000000))) = true := by simpa using c9))
          (try (have c9b2 : (t189 == (decide (t186 ≤ 1000000000))) = true := by simpa using c9))
          clear c9
          by_cases c10 : t186 ≤ 1000000000
          · rw [if_pos c10] at H
            have c10b0 : decide (t186 ≤ 1000000000) = true := decide_eq_true c10
            have e9_ : t189 = true := by rw [c10b0] at c9b0; exact eq_of_beq c9b0
            clear c10
            obtain rfl := Option.some.inj H
            go_enter Tryd.func6, Tryd.ntmps6
            go_wp2_with (first | ((with_reducible refine gate_callee (f := 17) rfl ?_); refine goesL_ (some 9) rfl rfl Tryd.func17 (by kernel_rfl) rfl #[.slice A0 l0.length c0] rfl (by (try simp only [List.map_toArray, List.map_cons, List.map_nil]); first | done | rfl | (simp only [List.length_drop, List.length_take]; rfl)) ?_; (with_reducible refine (laws_big.calls _ _ l0 false _ ?side1 ?side2 A2.out).mono ?_); (case side1 => repeat (first | exact HR0.out | (with_reducible refine Kd.C_alloc ?_ _) | (with_reducible refine Kd.C_drewN ?_ _) | (with_reducible refine Kd.C_drew ?_))); (case side2 => exact HC0.out); rintro e w' ⟨rfl, ⟨nd, rfl⟩⟩; refine ⟨_, rfl, ?_⟩) | ((with_reducible refine gate_callee (f := 18) rfl ?_); refine goesL_ (some 11) rfl rfl Tryd.func18 (by kernel_rfl) rfl #[.slice A0 l0.length c0] rfl (by (try simp only [List.map_toArray, List.map_cons, List.map_nil]); first | done | rfl | (simp only [List.length_drop, List.length_take]; rfl)) ?_; (with_reducible refine (spec_DrawFormatInt.calls k _ _ l0 t186 _ ?side1 ?side2 A4.out).mono ?_); (case side1 => repeat (first | exact HR0.out | (with_reducible refine Kd.C_alloc ?_ _) | (with_reducible refine Kd.C_drewN ?_ _) | (with_reducible refine Kd.C_drew ?_))); (case side2 => exact HC0.out); rintro e w11 ⟨rfl, hb⟩; refine ⟨_, rfl, ?_⟩; have n0_ := Aside0.mk (below_step (by repeat (first | (with_reducible first | exact HB.out | apply below_alloc | apply pw_below_drewN | apply below_drew1) | exact HB.out)) hb); clear HB; have HB := n0_; clear n0_; (try clear hb); (try clear hb2); (try clear hk); (try clear hi)) | ((with_reducible refine gate_callee (f := 12) rfl ?_); refine goesL_ (some 13) rfl rfl Tryd.func12 (by kernel_rfl) rfl #[.int .i64 t186] rfl (by (try simp only [List.map_toArray, List.map_cons, List.map_nil]); first | done | rfl | (simp only [List.length_drop, List.length_take]; rfl)) ?_; (with_reducible refine (impl_FormatInt.calls t186 t187 _ A5.out).mono ?_); rintro e w12 ⟨rfl, hb⟩; refine ⟨_, rfl, ?_⟩; have n0_ := Aside0.mk (below_step (by repeat (first | (with_reducible first | exact HB.out | apply below_alloc | apply pw_below_drewN | apply below_drew1) | exact HB.out)) hb); clear HB; have HB := n0_; clear n0_; (try clear hb); (try clear hb2); (try clear hk); (try clear hi)) | ((with_reducible refine gate_callee (f := 14) rfl ?_); refine goesL_ (some 16) rfl rfl Tryd.func14 (by kernel_rfl) rfl #[.string t187] rfl (by (try simp only [List.map_toArray, List.map_cons, List.map_nil]); first | done | rfl | (simp only [List.length_drop, List.length_take]; rfl)) ?_; (with_reducible refine (impl_ParseUint.calls k t187 t188 t189 _ A6.out).mono ?_); rintro e w13 ⟨rfl, hb⟩; refine ⟨_, rfl, ?_⟩; have n0_ := Aside0.mk (below_step (by repeat (first | (with_reducible first | exact HB.out | apply below_alloc | apply pw_below_drewN | apply below_drew1) | exact HB.out)) hb); clear HB; have HB := n0_; clear n0_; (try clear hb); (try clear hb2); (try clear hk); (try clear hi)))
            go_ret
            exact ⟨by first | rfl | (simp [errW_none, errW_some] <;> rfl) | (simp [*, errW_none, errW_some] <;> rfl), by repeat (first | (with_reducible first | exact HB.out | apply below_alloc | apply pw_below_drewN | apply below_drew1) | exact HB.out)⟩
          · rw [if_neg c10] at H
            have c10b0 : decide (t186 ≤ 1000000000) = false := decide_eq_false c10
            have e9_ : t189 = false := by rw [c10b0] at c9b0; exact eq_of_beq c9b0
            clear c10
            obtain rfl := Option.some.inj H
            go_enter Tryd.func6, Tryd.ntmps6
            go_wp2_with (first | ((with_reducible refine gate_callee (f := 17) rfl ?_); refine goesL_ (some 9) rfl rfl Tryd.func17 (by kernel_rfl) rfl #[.slice A0 l0.length c0] rfl (by (try simp only [List.map_toArray, List.map_cons, List.map_nil]); first | done | rfl | (simp only [List.length_drop, List.length_take]; rfl)) ?_; (with_reducible refine (laws_big.calls _ _ l0 false _ ?side1 ?side2 A2.out).mono ?_); (case side1 => repeat (first | exact HR0.out | (with_reducible refine Kd.C_alloc ?_ _) | (with_reducible refine Kd.C_drewN ?_ _) | (with_reducible refine Kd.C_drew ?_))); (case side2 => exact HC0.out); rintro e w' ⟨rfl, ⟨nd, rfl⟩⟩; refine ⟨_, rfl, ?_⟩) | ((with_reducible refine gate_callee (f := 18) rfl ?_); refine goesL_ (some 11) rfl rfl Tryd.func18 (by kernel_rfl) rfl #[.slice A0 l0.length c0] rfl (by (try simp only [List.map_toArray, List.map_cons, List.map_nil]); first | done | rfl | (simp only [List.length_drop, List.length_take]; rfl)) ?_; (with_reducible refine (spec_DrawFormatInt.calls k _ _ l0 t186 _ ?side1 ?side2 A4.out).mono ?_); (case side1 => repeat (first | exact HR0.out | (with_reducible refine Kd.C_alloc ?_ _) | (with_reducible refine Kd.C_drewN ?_ _) | (with_reducible refine Kd.C_drew ?_))); (case side2 => exact HC0.out); rintro e w14 ⟨rfl, hb⟩; refine ⟨_, rfl, ?_⟩; have n0_ := Aside0.mk (below_step (by repeat (first | (with_reducible first | exact HB.out | apply below_alloc | apply pw_below_drewN | apply below_drew1) | exact HB.out)) hb); clear HB; have HB := n0_; clear n0_; (try clear hb); (try clear hb2); (try clear hk); (try clear hi)) | ((with_reducible refine gate_callee (f := 12) rfl ?_); refine goesL_ (some 13) rfl rfl Tryd.func12 (by kernel_rfl) rfl #[.int .i64 t186] rfl (by (try simp only [List.map_toArray, List.map_cons, List.map_nil]); first | done | rfl | (simp only [List.length_drop, List.length_take]; rfl)) ?_; (with_reducible refine (impl_FormatInt.calls t186 t187 _ A5.out).mono ?_); rintro e w15 ⟨rfl, hb⟩; refine ⟨_, rfl, ?_⟩; have n0_ := Aside0.mk (below_step (by repeat (first | (with_reducible first | exact HB.out | apply below_alloc | apply pw_below_drewN | apply below_drew1) | exact HB.out)) hb); clear HB; have HB := n0_; clear n0_; (try clear hb); (try clear hb2); (try clear hk); (try clear hi)) | ((with_reducible refine gate_callee (f := 14) rfl ?_); refine goesL_ (some 16) rfl rfl Tryd.func14 (by kernel_rfl) rfl #[.string t187] rfl (by (try simp only [List.map_toArray, List.map_cons, List.map_nil]); first | done | rfl | (simp only [List.length_drop, List.length_take]; rfl)) ?_; (with_reducible refine (impl_ParseUint.calls k t187 t188 t189 _ A6.out).mono ?_); rintro e w16 ⟨rfl, hb⟩; refine ⟨_, rfl, ?_⟩; have n0_ := Aside0.mk (below_step (by repeat (first | (with_reducible first | exact HB.out | apply below_alloc | apply pw_below_drewN | apply below_drew1) | exact HB.out)) hb); clear HB; have HB := n0_; clear n0_; (try clear hb); (try clear hb2); (try clear hk); (try clear hi)))
            go_ret
            exact ⟨by first | rfl | (simp [errW_none, errW_some] <;> rfl) | (simp [*, errW_none, errW_some] <;> rfl), by repeat (first | (with_reducible first | exact HB.out | apply below_alloc | apply pw_below_drewN | apply below_drew1) | exact HB.out)⟩
        · rw [if_neg c9] at H
          have c9b0 : (t189 == (decide (t186 ≤ 1000000000))) = false := by simpa using c9
          (try (have c9b1 : decide (t189 = (decide (t186 ≤ 1000000000))) = false := by simpa using c9))
          (try (have c9b2 : (t189 == (decide (t186 ≤ 1000000000))) = false := by simpa using c9))
          (try (have c9b3 : ¬ (t189 = (decide (t186 ≤ 1000000000))) := by simpa using c9))
          clear c9
          exact absurd (Option.some.inj H) (by rw [hr_.out]; decide)
    · rw [if_neg c7] at H
      have c7b0 : decide (0 ≤ t186) = false := decide_eq_false c7
      clear c7
      by_cases c17 : t187.toList = ([] : List UInt8)
      · rw [if_pos c17] at H
        have c17b0 : (t187.toList == ([] : List UInt8)) = true := beq_iff_eq.mpr c17
        have c17b1 : (t187.toList != ([] : List UInt8)) = false := bne_eq_false_iff_eq.mpr c17
        clear c17
        exact absurd (Option.some.inj H) (by rw [hr_.out]; decide)
      · rw [if_neg c17] at H
        have c17b0 : (t187.toList == ([] : List UInt8)) = false := beq_eq_false_iff_ne.mpr c17
        have c17b1 : (t187.toList != ([] : List UInt8)) = true := bne_iff_ne.mpr c17
        by_cases c18 : (t189 == false) = true
        · rw [if_pos c18] at H
          have c18b0 : (t189 == false) = true := c18
          (try (have c18b1 : decide (t189 = false) = true := by simpa using c18))
          (try (have c18b2 : (t189 == false) = true := by simpa using c18))
          clear c18
          obtain rfl := Option.some.inj H
          go_enter Tryd.func6, Tryd.ntmps6
          go_wp2_with (first | ((with_reducible refine gate_callee (f := 17) rfl ?_); refine goesL_ (some 9) rfl rfl Tryd.func17 (by kernel_rfl) rfl #[.slice A0 l0.length c0] rfl (by (try simp only [List.map_toArray, List.map_cons, List.map_nil]); first | done | rfl | (simp only [List.length_drop, List.length_take]; rfl)) ?_; (with_reducible refine (laws_big.calls _ _ l0 false _ ?side1 ?side2 A2.out).mono ?_); (case side1 => repeat (first | exact HR0.out | (with_reducible refine Kd.C_alloc ?_ _) | (with_reducible refine Kd.C_drewN ?_ _) | (with_reducible refine Kd.C_drew ?_))); (case side2 => exact HC0.out); rintro e w' ⟨rfl, ⟨nd, rfl⟩⟩; refine ⟨_, rfl, ?_⟩) | ((with_reducible refine gate_callee (f := 18) rfl ?_); refine goesL_ (some 11) rfl rfl Tryd.func18 (by kernel_rfl) rfl #[.slice A0 l0.length c0] rfl (by (try simp only [List.map_toArray, List.map_cons, List.map_nil]); first | done | rfl | (simp only [List.length_drop, List.length_take]; rfl)) ?_; (with_reducible refine (spec_DrawFormatInt.calls k _ _ l0 t186 _ ?side1 ?side2 A4.out).mono ?_); (case side1 => repeat (first | exact HR0.out | (with_reducible refine Kd.C_alloc ?_ _) | (with_reducible refine Kd.C_drewN ?_ _) | (with_reducible refine Kd.C_drew ?_))); (case side2 => exact HC0.out); rintro e w19 ⟨rfl, hb⟩; refine ⟨_, rfl, ?_⟩; have n0_ := Aside0.mk (below_step (by repeat (first | (with_reducible first | exact HB.out | apply below_alloc | apply pw_below_drewN | apply below_drew1) | exact HB.out)) hb); clear HB; have HB := n0_; clear n0_; (try clear hb); (try clear hb2); (try clear hk); (try clear hi)) | ((with_reducible refine gate_callee (f := 12) rfl ?_); refine goesL_ (some 13) rfl rfl Tryd.func12 (by kernel_rfl) rfl #[.int .i64 t186] rfl (by (try simp only [List.map_toArray, List.map_cons, List.map_nil]); first | done | rfl | (simp only [List.length_drop, List.length_take]; rfl)) ?_; (with_reducible refine (impl_FormatInt.calls t186 t187 _ A5.out).mono ?_); rintro e w20 ⟨rfl, hb⟩; refine ⟨_, rfl, ?_⟩; have n0_ := Aside0.mk (below_step (by repeat (first | (with_reducible first | exact HB.out | apply below_alloc | apply pw_below_drewN | apply below_drew1) | exact HB.out)) hb); clear HB; have HB := n0_; clear n0_; (try clear hb); (try clear hb2); (try clear hk); (try clear hi)) | ((with_reducible refine gate_callee (f := 14) rfl ?_); refine goesL_ (some 16) rfl rfl Tryd.func14 (by kernel_rfl) rfl #[.string t187] rfl (by (try simp only [List.map_toArray, List.map_cons, List.map_nil]); first | done | rfl | (simp only [List.length_drop, List.length_take]; rfl)) ?_; (with_reducible refine (impl_ParseUint.calls k t187 t188 t189 _ A6.out).mono ?_); rintro e w21 ⟨rfl, hb⟩; refine ⟨_, rfl, ?_⟩; have n0_ := Aside0.mk (below_step (by repeat (first | (with_reducible first | exact HB.out | apply below_alloc | apply pw_below_drewN | apply below_drew1) | exact HB.out)) hb); clear HB; have HB := n0_; clear n0_; (try clear hb); (try clear hb2); (try clear hk); (try clear hi)))
          go_ret
          exact ⟨by first | rfl | (simp [errW_none, errW_some] <;> rfl) | (simp [*, errW_none, errW_some] <;> rfl), by repeat (first | (with_reducible first | exact HB.out | apply below_alloc | apply pw_below_drewN | apply below_drew1) | exact HB.out)⟩
        · rw [if_neg c18] at H
          have c18b0 : (t189 == false) = false := by simpa using c18
          (try (have c18b1 : decide (t189 = false) = false := by simpa using c18))
          (try (have c18b2 : (t189 == false) = false := by simpa using c18))
          (try (have c18b3 : ¬ (t189 = false) := by simpa using c18))
          clear c18
          exact absurd (Option.some.inj H) (by rw [hr_.out]; decide)
end Go.Proofs.YtfoldjbcnlhipaaDoor.A

namespace Go.Proofs.YtfoldjbcnlhipaaDoor.A
open Go.ChangeShapes Go.WideShapes Go.ChangeAt Go.RowKit Go.Proofs.YtfoldjbcnlhipaaDoorW.PrintWords Go.Proofs.YtfoldjbcnlhipaaDoorW.PrintLast
set_option linter.unusedVariables false
set_option linter.unusedSimpArgs false
def Opn {α : Type} (P : Program) (t : TypeId) (d : Kd α) (ok : α → Prop) : Prop :=
  ∀ {H : Type} {enc : TypeId × Value → H} (w : World) (fuel : Nat) (cs : List Value) (x : DataW H × List MemPlace),
    DataW.trod enc P w 0 (fun _ => true) true fuel t cs = some x → ∃ a, d.K w a cs ∧ ok a
theorem opn_int {P : Program} {t : TypeId} {k : IntKind} (ht : P.underlying t = some (.int k)) : Opn P t (Kd.int k) (fun a => (Lit.int k a).wf = true) := by
  intro H enc w fuel cs x h
  obtain ⟨n, rfl, _, hw⟩ := DataW.trod_int ht h
  exact ⟨n, rfl, hw⟩
theorem add_add_ (a : Addr) (i j : Nat) : (a.add i).add j = a.add (i + j) := by
  unfold Addr.add
  by_cases hi : i = 0
  · subst hi; simp
  · by_cases hj : j = 0
    · subst hj; simp
    · rw [if_neg hi, if_neg hj, if_neg (by omega)]
      simp; omega
theorem cells_at {w : World} {base : Nat} {a : Addr} {n : Nat} {cs : List Value} (h : w.cells? base a n = some cs) : cs.length = n ∧ ∀ i u, cs[i]? = some u → w.cell? (a.add i) = some u := by
  unfold World.cells? at h
  split at h
  · have l := mapM_some_length h
    simp only [List.length_range] at l
    refine ⟨l, fun i u hu => ?_⟩
    have hi := (List.getElem?_eq_some_iff.1 hu).1
    have := mapM_some_get h i i (by simp [show i < n by omega])
    rw [this]; exact hu
  · cases h
theorem choose_list {α : Type} {Q : Nat → α → Prop} (m : Nat) (h : ∀ i, i < m → ∃ v, Q i v) : ∃ l : List α, l.length = m ∧ ∀ i v, l[i]? = some v → Q i v := by
  induction m with
  | zero => exact ⟨[], rfl, fun i v hv => by simp at hv⟩
  | succ m ih =>
    obtain ⟨l, hl, hq⟩ := ih (fun i hi => h i (by omega))
    obtain ⟨v, hv⟩ := h m (by omega)
    refine ⟨l ++ [v], by simp [hl], fun i u hu => ?_⟩
    rcases Nat.lt_trichotomy i m with hi | hi | hi
    · rw [List.getElem?_append_left (by omega)] at hu
      exact hq i u hu
    · subst hi
      rw [List.getElem?_append_right (by omega), hl, Nat.sub_self] at hu
      have : v = u := by simpa using hu
      exact this ▸ hv
    · rw [List.getElem?_eq_none (by simp; omega)] at hu
      cases hu
theorem opn_slice {α : Type} {P : Program} {t e : TypeId} {d : Kd α} {ok : α → Prop} (ht : P.underlying t = some (.slice e)) (hs : P.cellsOf e = d.sz) (ho : Opn P e d ok) :
    Opn P t (Kd.slice e d) (fun l => l.length ≤ maxLen ∧ ∀ x ∈ l, ok x) := by
  intro H enc w fuel cs x h
  rcases DataW.trod_slice ht h with ⟨rfl, _⟩ | ⟨a, len, cap, elems, rest, n, _, rfl, _, _, hl, hm, hlen, hel, _, _⟩
  · exact ⟨[], ⟨none, 0, rfl, Nat.le_refl _, rfl, Nat.zero_le _, fun h => absurd h (by simp)⟩, by simp, by simp⟩
  · have each : ∀ i, i < len → ∃ v, ok v ∧ ∃ c, c.length = d.sz ∧ d.K w v c ∧ ∀ j u, c[j]? = some u → w.cell? (a.add (i * d.sz + j)) = some u := by
      intro i hi
      have h1 := hel i hi
      rw [List.getElem?_eq_getElem (by omega)] at h1
      obtain ⟨c, hc, hr⟩ := Option.bind_eq_some_iff.1 h1
      obtain ⟨v, hk, hv⟩ := ho w n c _ hr
      obtain ⟨_, hcell⟩ := cells_at hc
      refine ⟨v, hv, c, d.K_len hk, hk, fun j u hu => ?_⟩
      have := hcell j u hu
      rw [hs, add_add_] at this
      exact this
    obtain ⟨l, hll, hq⟩ := choose_list len each
    subst hll
    have hm' : l.length ≤ maxLen := Nat.le_trans hl hm
    refine ⟨l, ⟨some a, cap, rfl, hl, rfl, by unfold maxLen at hm'; omega, fun _ => ⟨a, rfl, fun j p hp => ?_⟩⟩, hm', fun v hv => ?_⟩
    · obtain ⟨_, c, h1, h2, h3⟩ := hq j p hp
      exact ⟨c, h1, h2, h3⟩
    · obtain ⟨i, hi, rfl⟩ := List.getElem_of_mem hv
      exact (hq i _ (List.getElem?_eq_getElem hi)).1
theorem opn_top {α : Type} {H : Type} {enc : TypeId × Value → H} {P : Program} {w : World} {t : TypeId} {d : Kd α} {ok : α → Prop} {v : Value} {x : DataW H} {ps : List MemPlace} (ho : Opn P t d ok)
    (h : DataW.Trod enc P w 0 (fun _ => true) true t v x ps) : ∃ a, d.K w a v.cells.toList ∧ ok a := by
  obtain ⟨fuel, hf⟩ := h
  exact ho w fuel _ _ hf
theorem slice_eq {a b : Option Addr} {l m c q : Nat} (h : (Value.slice a l c).cells.toList = [.slice b m q]) : a = b ∧ l = m ∧ c = q := by
  simpa [Value.cells] using h
abbrev ok5 (a : Int) : Prop := (Lit.int .u8 a).wf = true
abbrev ok29 (l : List Int) : Prop := l.length ≤ maxLen ∧ ∀ x ∈ l, ok5 x
theorem op5 : Opn Tryd.prog 5 (Kd.int .u8) ok5 := opn_int Tryd.underlying5
theorem op29 : Opn Tryd.prog 29 (Kd.slice 5 (Kd.int .u8)) ok29 := opn_slice Tryd.underlying29 (by kernel_rfl) op5
end Go.Proofs.YtfoldjbcnlhipaaDoor.A

namespace Go.Proofs.YtfoldjbcnlhipaaDoor.A
open Go.RowKit Go.Proofs.YtfoldjbcnlhipaaDoorW.PrintWords Go.Proofs.YtfoldjbcnlhipaaDoorW.PrintLast Go.Proofs.YtfoldjbcnlhipaaDoorW.PrintMore
set_option linter.unusedVariables false
set_option linter.unusedSimpArgs false
def Ev {α : Type} (F : Nat → Option α) (r : α) : Prop := ∃ K, ∀ k, K ≤ k → F k = some r
theorem Ev.mk {α : Type} {F : Nat → Option α} {r : α} (K : Nat) (h : ∀ k, K < k → F k = some r) : Ev F r := ⟨K + 1, fun k hk => h k hk⟩
theorem Ev.get {α : Type} {F : Nat → Option α} {r : α} (h : Ev F r) : ∃ k, F k = some r := by
  obtain ⟨K, h⟩ := h
  exact ⟨K, h K (Nat.le_refl _)⟩
theorem Ev.const {α : Type} {o : Option α} {r : α} (h : o = some r) : Ev (fun _ => o) r := ⟨0, fun _ _ => h⟩
theorem Ev.ret {α : Type} (r : α) : Ev (fun _ => some r) r := ⟨0, fun _ _ => rfl⟩
theorem Ev.bind {α β : Type} {F : Nat → Option α} {G : Nat → α → Option β} {a : α} {b : β} (h1 : Ev F a) (h2 : Ev (fun k => G k a) b) : Ev (fun k => (F k).bind (G k)) b := by
  obtain ⟨K1, h1⟩ := h1
  obtain ⟨K2, h2⟩ := h2
  refine ⟨max K1 K2, fun k hk => ?_⟩
  show (F k).bind (G k) = some b
  rw [h1 k (by omega)]
  exact h2 k (by omega)
theorem Ev.pos {α : Type} {c : Prop} [Decidable c] {A B : Nat → Option α} {r : α} (h : c) (hA : Ev A r) : Ev (fun k => if c then A k else B k) r := by
  obtain ⟨K, hA⟩ := hA
  exact ⟨K, fun k hk => by show (if c then A k else B k) = some r; rw [if_pos h]; exact hA k hk⟩
theorem Ev.neg {α : Type} {c : Prop} [Decidable c] {A B : Nat → Option α} {r : α} (h : ¬ c) (hB : Ev B r) : Ev (fun k => if c then A k else B k) r := by
  obtain ⟨K, hB⟩ := hB
  exact ⟨K, fun k hk => by show (if c then A k else B k) = some r; rw [if_neg h]; exact hB k hk⟩
theorem Ev.ite {α : Type} {c : Prop} [Decidable c] {A B : Nat → Option α} {a b : α} (hA : c → Ev A a) (hB : ¬ c → Ev B b) : Ev (fun k => if c then A k else B k) (if c then a else b) := by
  by_cases h : c
  · rw [if_pos h]; exact Ev.pos h (hA h)
  · rw [if_neg h]; exact Ev.neg h (hB h)
theorem Ev.succ {α : Type} {F : Nat → Option α} {r : α} (h : Ev (fun k => F (k + 1)) r) : Ev F r := by
  obtain ⟨K, h⟩ := h
  refine ⟨K + 1, fun k hk => ?_⟩
  obtain ⟨m, rfl⟩ : ∃ m, k = m + 1 := ⟨k - 1, by omega⟩
  exact h m (by omega)
theorem Ev.to {α : Type} {F : Nat → Option α} {r s : α} (h : Ev F r) (e : r = s) : Ev F s := e ▸ h
theorem wid (x : Int) (h : -9223372036854775808 ≤ x) (h2 : x ≤ 9223372036854775807) : wrap64 x = x := by unfold wrap64; omega
theorem wsucc (i : Nat) (h : i < 9223372036854775807) : wrap64 ((i : Int) + 1) = ((i + 1 : Nat) : Int) := by unfold wrap64; omega
abbrev mkS (l : List UInt8) : ByteArray := ⟨l.toArray⟩
theorem mkS_size (l : List UInt8) : (mkS l).size = l.length := by
  show l.toArray.size = l.length
  simp
theorem toList_inj {a b : ByteArray} (h : a.data.toList = b.data.toList) : a = b := by
  apply ByteArray.ext
  exact Array.toList_inj.mp h
theorem fmt_ev (n : Int) (h0 : -9223372036854775808 ≤ n) (h1 : n ≤ 9223372036854775807) : impl_FormatInt.f n = some (mkS (Go.Lib.itoa n)) := if_pos ⟨h0, h1⟩
end Go.Proofs.YtfoldjbcnlhipaaDoor.A

namespace Go.Proofs.YtfoldjbcnlhipaaDoor.A
open Go.RowKit Go.Proofs.YtfoldjbcnlhipaaDoorW.PrintWords Go.Proofs.YtfoldjbcnlhipaaDoorW.PrintLast Go.Proofs.YtfoldjbcnlhipaaDoorW.PrintMore
set_option linter.unusedVariables false
set_option linter.unusedSimpArgs false
def parL : Int → List UInt8 → Option Int
  | a, [] => some a
  | a, b :: l => if (b.toNat : Int) < 48 ∨ 57 < (b.toNat : Int) then none else parL (10 * a + ((b.toNat : Int) - 48)) l
def fin (s : ByteArray) : Option Int → Int × Bool
  | none => (0, false)
  | some n => if n > 1000000000 then (0, false) else if (mkS (Go.Lib.itoa n)).toList = s.toList then (n, true) else (0, false)
def parP (s : ByteArray) : Int × Bool := if (s.size : Int) > 10 then (0, false) else fin s (parL 0 s.data.toList)
theorem bt_getElem (s : ByteArray) (i : Nat) (h : i < s.data.toList.length) : bt s (i : Int) = (s.data.toList[i]).toNat := by
  rw [data_length] at h
  rw [← bt_at s (i : Int) (by omega)]
  rfl
theorem pow_in {i : Nat} (h : i ≤ 9) : 10 ^ i ≤ 1000000000 := by
  have := Nat.pow_le_pow_right (show 10 > 0 by omega) h
  simpa using this
theorem cons_drop {α : Type} {l : List α} {i : Nat} {b : α} {rest : List α} (h : l.drop i = b :: rest) : ∃ h : i < l.length, l[i] = b ∧ l.drop (i + 1) = rest := by
  have hlt : i < l.length := by
    rcases Nat.lt_or_ge i l.length with h' | h'
    · exact h'
    · rw [List.drop_eq_nil_of_le h'] at h; simp at h
  rw [List.drop_eq_getElem_cons hlt] at h
  obtain ⟨e1, e2⟩ := List.cons.inj h
  exact ⟨hlt, e1, e2⟩
theorem finI_ev (s : ByteArray) (a : Int) (h0 : 0 ≤ a) (h1 : a ≤ 10000000000) : Ev (fun k => if a > 1000000000 then some ((0 : Int), false) else (impl_FormatInt.f a).bind fun t => if t.toList = s.toList then some (a, true) else some (0, false)) (fin s (some a)) := by
  unfold fin
  exact Ev.ite (fun _ => Ev.ret _) (fun _ => Ev.bind (Ev.const (fmt_ev a (by omega) (by omega))) (Ev.ite (fun _ => Ev.ret _) (fun _ => Ev.ret _)))
theorem parI_loop (s : ByteArray) (hs : s.size ≤ 10) : ∀ (rest : List UInt8) (i : Nat) (a : Int), s.data.toList.drop i = rest → i ≤ s.size → 0 ≤ a → a < ((10 ^ i : Nat) : Int) → Ev (fun k => impl_ParseUint.l0 k s a (i : Int)) (fin s (parL a rest))
  | [], i, a, hd, hi, h0, h1 => by
    have hl := data_length s
    have he : i = s.size := by have := List.drop_eq_nil_iff.mp hd; omega
    have hp : 10 ^ i ≤ 10000000000 := by
      have := Nat.pow_le_pow_right (show 10 > 0 by omega) (show i ≤ 10 by omega)
      simpa using this
    refine Ev.succ ?_
    simp only [impl_ParseUint.l0]
    exact Ev.neg (by omega) (finI_ev s a h0 (by omega))
  | b :: rest, i, a, hd, hi, h0, h1 => by
    obtain ⟨hlt, e1, e2⟩ := cons_drop hd
    have hb := bt_getElem s i hlt
    rw [e1] at hb
    have hl := data_length s
    have hp := pow_in (show i ≤ 9 by omega)
    refine Ev.succ ?_
    simp only [impl_ParseUint.l0]
    rw [hb]
    refine Ev.pos (by omega) (Ev.pos (by omega) ?_)
    by_cases c1 : (b.toNat : Int) < 48
    · rw [parL, if_pos (Or.inl c1)]
      exact Ev.pos c1 (Ev.ret _)
    · refine Ev.neg c1 ?_
      by_cases c2 : (b.toNat : Int) > 57
      · rw [parL, if_pos (Or.inr c2)]
        exact Ev.pos c2 (Ev.ret _)
      · rw [parL, if_neg (fun h => h.elim c1 c2)]
        refine Ev.neg c2 ?_
        rw [wid (a * 10) (by omega) (by omega), wid (a * 10 + _) (by omega) (by omega), wsucc i (by omega), show a * 10 + ((b.toNat : Int) - 48) % 256 = 10 * a + ((b.toNat : Int) - 48) by omega]
        exact parI_loop s hs rest (i + 1) _ e2 (by omega) (by omega) (by rw [Nat.pow_succ]; omega)
theorem parI_ev (s : ByteArray) : Ev (fun k => impl_ParseUint.f k s) (parP s) := by
  unfold impl_ParseUint.f parP
  by_cases c0 : (s.size : Int) = 0
  · refine Ev.pos c0 (Ev.succ ?_)
    simp only [impl_ParseUint.j0]
    refine Ev.pos trivial ((Ev.ret _).to ?_)
    have hl := data_length s
    have e : s = mkS [] := toList_inj (List.eq_nil_of_length_eq_zero (by omega))
    subst e
    decide +kernel
  · refine Ev.neg c0 (Ev.succ ?_)
    simp only [impl_ParseUint.j0]
    by_cases c : (s.size : Int) > 10
    · rw [if_pos c]
      exact Ev.pos (decide_eq_true c) (Ev.ret _)
    · rw [if_neg c]
      exact Ev.neg (by simpa using c) (parI_loop s (by omega) _ 0 0 rfl (by omega) (by omega) (by simp))
end Go.Proofs.YtfoldjbcnlhipaaDoor.A

namespace Go.Proofs.YtfoldjbcnlhipaaDoor.A
open Go.RowKit Go.Proofs.YtfoldjbcnlhipaaDoorW.PrintWords Go.Proofs.YtfoldjbcnlhipaaDoorW.PrintLast Go.Proofs.YtfoldjbcnlhipaaDoorW.PrintMore
set_option linter.unusedVariables false
set_option linter.unusedSimpArgs false
theorem and255 (n : Int) : Go.bits .and .i64 n 255 = n % 256 := by
  have h255 : (BitVec.ofInt 64 255).toNat = 2 ^ 8 - 1 := by decide
  have key : (BitVec.ofInt 64 n &&& BitVec.ofInt 64 255).toNat = (n % ((2 ^ 64 : Nat) : Int)).toNat % 2 ^ 8 := by
    rw [BitVec.toNat_and, BitVec.toNat_ofInt, h255, Nat.and_two_pow_sub_one_eq_mod]
  show IntKind.i64.wrap ((BitVec.ofInt 64 n &&& BitVec.ofInt 64 255).toNat : Nat) = n % 256
  rw [key, IntKind.wrap_i64]
  omega
theorem new_loop (l : List Int) (hl : l.length ≤ 140737488351232) (d : Nat) : ∀ (k : Nat) (h i : Int), 0 ≤ i → (l.length : Int) - i ≤ d → d < k → ∃ h', spec_l01New.l0 k l h i = some (l, 0, h') := by
  induction d with
  | zero =>
    intro k h i h0 hd hk
    obtain ⟨k, rfl⟩ : ∃ m, k = m + 1 := ⟨k - 1, by omega⟩
    simp only [spec_l01New.l0]
    rw [if_neg (by omega)]
    exact ⟨_, rfl⟩
  | succ d ih =>
    intro k h i h0 hd hk
    obtain ⟨k, rfl⟩ : ∃ m, k = m + 1 := ⟨k - 1, by omega⟩
    simp only [spec_l01New.l0]
    by_cases h1 : i < (l.length : Int)
    · rw [if_pos h1]
      by_cases h2 : i < 4000
      · rw [if_pos h2, if_pos h0]
        have e : wrap64 (i + 1) = i + 1 := by unfold wrap64; omega
        rw [e]
        exact ih k _ _ (by omega) (by omega) (by omega)
      · rw [if_neg h2]
        exact ⟨_, rfl⟩
    · rw [if_neg h1]
      exact ⟨_, rfl⟩
theorem new_some (l : List Int) (hl : l.length ≤ 140737488351232) (k : Nat) (hk : l.length < k) : ∃ h', spec_l01New.f k l = some (l, 0, h') :=
  new_loop l hl l.length k _ 0 (by omega) (by omega) hk
theorem byte_some (l : List Int) (hl : l.length ≤ 140737488351232) (i h : Int) (hi : 0 ≤ i) : ∃ v i' h', spec_l01Byte.f l i h = some (v, i', h') ∧ 0 ≤ v ∧ v ≤ 255 ∧ 0 ≤ i' := by
  unfold spec_l01Byte.f
  simp only [and255]
  by_cases h1 : i < (l.length : Int)
  · rw [if_pos h1, if_pos hi]
    have e : wrap64 (i + 1) = i + 1 := by unfold wrap64; omega
    rw [e]
    exact ⟨_, _, _, rfl, by omega, by omega, by omega⟩
  · rw [if_neg h1]
    exact ⟨_, _, _, rfl, by omega, by omega, by omega⟩
theorem tmod_in (x n : Int) (hx : 0 ≤ x) (hn : 0 < n) : 0 ≤ Int.tmod x n ∧ Int.tmod x n < n :=
  ⟨Int.tmod_nonneg n hx, Int.tmod_lt_of_pos x hn⟩
theorem below_some (l : List Int) (hl : l.length ≤ 140737488351232) (i h n : Int) (hi : 0 ≤ i) : ∃ v i' h', spec_l01Below.f l i h n = some (v, i', h') ∧ 0 ≤ v ∧ (n ≤ 0 → v = 0) ∧ (0 < n → v < n) ∧ 0 ≤ i' := by
  unfold spec_l01Below.f
  by_cases h0 : n ≤ 0
  · rw [if_pos h0]
    exact ⟨_, _, _, rfl, by omega, fun _ => rfl, fun _ => by omega, hi⟩
  · rw [if_neg h0]
    have hne : ¬ n = 0 := by omega
    by_cases h1 : n ≤ 256
    · rw [if_pos h1]
      obtain ⟨v, i1, x1, e1, a1, b1, c1⟩ := byte_some l hl i h hi
      rw [e1]
      simp only [Option.bind_some]
      rw [if_neg hne]
      exact ⟨_, _, _, rfl, (tmod_in v n a1 (by omega)).1, fun _ => by omega, fun _ => (tmod_in v n a1 (by omega)).2, c1⟩
    · rw [if_neg h1]
      obtain ⟨v1, i1, x1, e1, a1, b1, c1⟩ := byte_some l hl i h hi
      rw [e1]
      simp only [Option.bind_some]
      obtain ⟨v2, i2, x2, e2, a2, b2, c2⟩ := byte_some l hl i1 x1 c1
      rw [e2]
      simp only [Option.bind_some]
      obtain ⟨v3, i3, x3, e3, a3, b3, c3⟩ := byte_some l hl i2 x2 c2
      rw [e3]
      simp only [Option.bind_some]
      obtain ⟨v4, i4, x4, e4, a4, b4, c4⟩ := byte_some l hl i3 x3 c3
      rw [e4]
      simp only [Option.bind_some]
      rw [if_neg hne]
      have w : wrap64 ((wrap64 ((wrap64 ((wrap64 (v1 * 16777216)) + (wrap64 (v2 * 65536)))) + (wrap64 (v3 * 256)))) + v4) = v1 * 16777216 + v2 * 65536 + v3 * 256 + v4 := by
        unfold wrap64; omega
      rw [w]
      exact ⟨_, _, _, rfl, (tmod_in _ n (by omega) (by omega)).1, fun _ => by omega, fun _ => (tmod_in _ n (by omega) (by omega)).2, c4⟩
theorem once_some (l : List Int) (hl : l.length ≤ 140737488351232) (i h n : Int) (hi : 0 ≤ i) : ∃ (b : Bool) (i' h' : Int), spec_l01Once.f l i h n = some (b, i', h') ∧ 0 ≤ i' := by
  obtain ⟨v, i1, x1, e1, _, _, _, c1⟩ := below_some l hl i h n hi
  unfold spec_l01Once.f
  rw [e1]
  exact ⟨_, _, _, rfl, c1⟩
theorem getD_gen {α : Type} {l : List α} {i : Nat} (d : α) (h : i < l.length) : l.getD i d = l[i] := by
  rw [List.getD_eq_getElem?_getD, List.getElem?_eq_getElem h]; rfl
theorem pickint_some (l : List Int) (hl : l.length ≤ 140737488351232) (i h : Int) (xs : List Int) (hx : 0 < xs.length) (hi : 0 ≤ i) : ∃ v i' h', spec_l01PickInt.f l i h xs = some (v, i', h') ∧ v ∈ xs ∧ 0 ≤ i' := by
  obtain ⟨v, i1, x1, e1, a1, _, b1, c1⟩ := below_some l hl i h (xs.length : Int) hi
  unfold spec_l01PickInt.f
  rw [e1]
  simp only [Option.bind_some]
  have b2 := b1 (by omega)
  rw [if_pos a1, if_pos b2]
  refine ⟨_, _, _, rfl, ?_, c1⟩
  unfold rd
  rw [getD_gen _ (show v.toNat < xs.length by omega)]
  exact List.getElem_mem _
theorem Ev.of_mono {α : Type} {F : Nat → Option α} {r : α} (hm : ∀ k, LeO (F k) (F (k + 1))) {k0 : Nat} (h : F k0 = some r) : Ev F r := by
  refine ⟨k0, fun k hk => ?_⟩
  obtain ⟨d, rfl⟩ : ∃ d, k = k0 + d := ⟨k - k0, by omega⟩
  clear hk
  induction d with
  | zero => exact h
  | succ d ih => exact hm _ _ ih
theorem draw_num (l : List Int) (hl : l.length ≤ 140737488351232) : ∃ n, Ev (fun k => spec_DrawFormatInt.f k l) n ∧ -9223372036854775808 ≤ n ∧ n ≤ 9223372036854775807 := by
  have key : ∃ n, spec_DrawFormatInt.f (l.length + 1) l = some n ∧ -9223372036854775808 ≤ n ∧ n ≤ 9223372036854775807 := by
    unfold spec_DrawFormatInt.f
    obtain ⟨x0, e0⟩ := new_some l hl (l.length + 1) (by omega)
    rw [e0]
    simp only [Option.bind_some]
    obtain ⟨b, i1, h1, e1, c1⟩ := once_some l hl 0 x0 3 (by omega)
    rw [e1]
    simp only [Option.bind_some]
    by_cases c : b = true
    · rw [if_pos c]
      obtain ⟨v, i2, h2, e2, _, _, _, c2⟩ := below_some l hl i1 h1 1000000 c1
      rw [e2]
      simp only [Option.bind_some]
      obtain ⟨u, i3, h3, e3, _, _, _, c3⟩ := below_some l hl i2 h2 2000000 c2
      rw [e3]
      simp only [Option.bind_some]
      exact ⟨_, rfl, by unfold wrap64; omega, by unfold wrap64; omega⟩
    · rw [if_neg c]
      unfold spec_l01Number.f
      obtain ⟨v, i2, h2, e2, _, _, _, c2⟩ := below_some l hl i1 h1 4 c1
      rw [e2]
      simp only [Option.bind_some]
      by_cases d0 : v = 0
      · rw [if_pos d0]
        obtain ⟨u, i3, h3, e3, hm, c3⟩ := pickint_some l hl i2 h2 [(-1), 0, 127, 128, 16383, 16384, 1000000000, 1000000001, 9223372036854775807, (-9223372036854775808)] (by simp) c2
        rw [e3]
        simp only [Option.bind_some]
        refine ⟨_, rfl, ?_⟩
        simp only [List.mem_cons, List.mem_nil_iff, or_false] at hm
        omega
      · rw [if_neg d0]
        by_cases d1 : v = 1
        · rw [if_pos d1]
          obtain ⟨u, i3, h3, e3, u0, _, u1, c3⟩ := below_some l hl i2 h2 1000000000 c2
          rw [e3]
          simp only [Option.bind_some]
          have := u1 (by omega)
          exact ⟨_, rfl, by omega, by omega⟩
        · rw [if_neg d1]
          obtain ⟨u, i3, h3, e3, u0, _, u1, c3⟩ := below_some l hl i2 h2 400 c2
          rw [e3]
          simp only [Option.bind_some]
          have := u1 (by omega)
          exact ⟨_, rfl, by omega, by omega⟩
  obtain ⟨n, e, h⟩ := key
  exact ⟨n, Ev.of_mono (fun k => spec_DrawFormatInt.mono l k) e, h⟩
theorem parL_app : ∀ (l : List UInt8) (a : Int) (b : UInt8), parL a (l ++ [b]) = (parL a l).bind (fun x => parL x [b])
  | [], a, b => rfl
  | c :: l, a, b => by
    rw [List.cons_append, parL, parL]
    split
    · rfl
    · exact parL_app l _ b
theorem dig_toNat (d : Nat) (h : d < 10) : ((UInt8.ofNat (48 + d)).toNat : Int) = 48 + d := by
  rw [UInt8.toNat_ofNat']
  omega
theorem parL_dig : ∀ (m u : Nat), u < 10 ^ m → parL 0 (Go.Lib.decDigits u) = some (u : Int)
  | 0, u, h => by
    have : u = 0 := by simpa using h
    subst this
    decide +kernel
  | m + 1, u, h => by
    by_cases c : u < 10
    · rw [Go.Lib.decDigits_one c, parL, dig_toNat u c, if_neg (by omega), parL]
      congr 1
      omega
    · rw [Go.Lib.decDigits, dif_neg c, parL_app, parL_dig m (u / 10) (by rw [Nat.pow_succ] at h; omega), Option.bind_some, parL, dig_toNat (u % 10) (by omega), if_neg (by omega), parL]
      congr 1
      omega
theorem digits_len : ∀ (m u : Nat), u < 10 ^ (m + 1) → (Go.Lib.decDigits u).length ≤ m + 1
  | 0, u, h => by
    rw [Go.Lib.decDigits_one (by simpa using h)]
    simp
  | m + 1, u, h => by
    by_cases c : u < 10
    · rw [Go.Lib.decDigits_one c]; simp
    · rw [Go.Lib.decDigits, dif_neg c, List.length_append]
      have := digits_len m (u / 10) (by rw [Nat.pow_succ] at h; omega)
      simp
      omega
theorem parP_itoa (n : Int) (h0 : -9223372036854775808 ≤ n) (h1 : n ≤ 9223372036854775807) : parP (mkS (Go.Lib.itoa n)) = if 0 ≤ n ∧ n ≤ 1000000000 then (n, true) else (0, false) := by
  unfold parP
  rw [mkS_size]
  by_cases cn : n < 0
  · have hr : (if 0 ≤ n ∧ n ≤ 1000000000 then (n, true) else ((0 : Int), false)) = (0, false) := if_neg (fun h => by omega)
    rw [hr]
    split
    · rfl
    · show fin _ (parL 0 (Go.Lib.itoa n)) = _
      rw [show Go.Lib.itoa n = 45 :: Go.Lib.decDigits n.natAbs from if_pos cn, parL, if_pos (Or.inl (by decide))]
      rfl
  · have ei : Go.Lib.itoa n = Go.Lib.decDigits n.toNat := if_neg cn
    have hp : parL 0 (Go.Lib.itoa n) = some n := by
      rw [ei, parL_dig 20 n.toNat (by omega)]
      congr 1
      omega
    have hf : fin (mkS (Go.Lib.itoa n)) (parL 0 (Go.Lib.itoa n)) = if n > 1000000000 then (0, false) else (n, true) := by
      rw [hp]
      show (if n > 1000000000 then ((0 : Int), false) else if (mkS (Go.Lib.itoa n)).toList = (mkS (Go.Lib.itoa n)).toList then (n, true) else (0, false)) = _
      by_cases h : n > 1000000000
      · rw [if_pos h, if_pos h]
      · rw [if_neg h, if_neg h]
        exact if_pos rfl
    by_cases c : n ≤ 1000000000
    · have hl := digits_len 9 n.toNat (by omega)
      have hr : (if 0 ≤ n ∧ n ≤ 1000000000 then (n, true) else ((0 : Int), false)) = (n, true) := if_pos ⟨by omega, c⟩
      rw [hr, if_neg (by rw [ei]; omega)]
      exact hf.trans (if_neg (by omega))
    · have hr : (if 0 ≤ n ∧ n ≤ 1000000000 then (n, true) else ((0 : Int), false)) = (0, false) := if_neg (fun h => c h.2)
      rw [hr]
      split
      · rfl
      · exact hf.trans (if_pos (by omega))
theorem itoa_ne (n : Int) : (mkS (Go.Lib.itoa n)).toList ≠ [] := by
  rw [ByteArray.toList_eq]
  show Go.Lib.itoa n ≠ []
  unfold Go.Lib.itoa
  split
  · simp
  · rw [Go.Lib.decDigits]
    split <;> simp
theorem pureFnNumbers : ∀ (l0 : List Int), ok29 l0 → ∃ k, laws_FnNumbers.f k l0 = some true := by
  rintro l ⟨hl, _⟩
  unfold maxLen at hl
  refine Ev.get ?_
  unfold laws_FnNumbers.f
  refine Ev.bind (Ev.const rfl) ?_
  by_cases c : (l.length : Int) > 1048576
  · exact Ev.pos (decide_eq_true c) (Ev.ret _)
  · refine Ev.neg (by simpa using c) ?_
    obtain ⟨n, e1, h0, h1⟩ := draw_num l (by omega)
    have hpar : Ev (fun k => impl_ParseUint.f k (mkS (Go.Lib.itoa n))) (if 0 ≤ n ∧ n ≤ 1000000000 then (n, true) else (0, false)) := (parI_ev _).to (parP_itoa n h0 h1)
    by_cases cn : n ≥ 0
    · by_cases ch : n ≤ 1000000000
      · have hp := hpar.to (if_pos ⟨cn, ch⟩)
        refine Ev.bind e1 (Ev.bind (Ev.const (fmt_ev n h0 h1)) (Ev.bind hp (Ev.pos cn (Ev.neg (itoa_ne n) (Ev.pos ?_ (Ev.pos ch ((Ev.ret _).to ?_)))))))
        · rw [decide_eq_true ch]; rfl
        · simp
      · have hp := hpar.to (if_neg (fun h => ch h.2))
        refine Ev.bind e1 (Ev.bind (Ev.const (fmt_ev n h0 h1)) (Ev.bind hp (Ev.pos cn (Ev.neg (itoa_ne n) (Ev.pos ?_ (Ev.neg ch (Ev.ret _)))))))
        rw [decide_eq_false ch]; rfl
    · have hp := hpar.to (if_neg (fun h => cn h.1))
      exact Ev.bind e1 (Ev.bind (Ev.const (fmt_ev n h0 h1)) (Ev.bind hp (Ev.neg cn (Ev.neg (itoa_ne n) (Ev.pos rfl (Ev.ret _))))))
end Go.Proofs.YtfoldjbcnlhipaaDoor.A
