/- What the proof of the law FnFieldsAgain uses: lemmas, the Lean functions of the Go functions that it reaches, their contracts, and the pure statement's proof. -/
import Derived.Test.YtfoldjbcnlhipaaDoorZFnFieldsAgainx10
import Derived.Test.YtfoldjbcnlhipaaDoorZFnFieldsAgainx11
import Derived.ProofKit
import Derived.OpenShut
import Derived.ShutString
import Derived.ChangeOld
import Derived.SizedLaws
import Derived.ChangeArms
namespace Go.Proofs.YtfoldjbcnlhipaaDoor.A
open Go.RowKit Go.Proofs.YtfoldjbcnlhipaaDoorW.PrintWords Go.Proofs.YtfoldjbcnlhipaaDoorW.PrintLast Go.Proofs.YtfoldjbcnlhipaaDoorW.PrintMore
attribute [local go_sem] max2_int min2_int max_two min_two max_three min_three max_four min_four   
set_option linter.unusedVariables false
set_option linter.unusedSimpArgs false
def laws_sameTexts.l0 : Nat → List ByteArray → List ByteArray → Int → Option (Bool)
  | 0, _, _, _ => none
  | k + 1, x0, x1, x5 => if x5 < (x0.length : Int) then (if 0 ≤ x5 then (if x5 < (x1.length : Int) then (if (rdOf ByteArray.empty x0 x5).toList = (rdOf ByteArray.empty x1 x5).toList then (laws_sameTexts.l0 k x0 x1 (wrap64 (x5 + 1))) else (some false)) else (none)) else (none)) else (some true)
def laws_sameTexts.f (k : Nat) (l0 : List ByteArray) (l1 : List ByteArray) : Option (Bool) := if (l0.length : Int) = (l1.length : Int) then (laws_sameTexts.l0 k l0 l1 0) else (some false)
set_option maxHeartbeats 8000000 in
set_option maxRecDepth 100000 in
theorem laws_sameTexts.calls (k : Nat) (A0 : Option Addr) (c0 : Nat) (l0 : List ByteArray) (A1 : Option Addr) (c1 : Nat) (l1 : List ByteArray) (r : Bool) (w : World) (hr0 : Kd.C Kd.string w A0 l0.length l0) (hc0 : l0.length ≤ c0) (hr1 : Kd.C Kd.string w A1 l1.length l1) (hc1 : l1.length ≤ c1) (h : laws_sameTexts.f k l0 l1 = some r) :
    Calls Tryd.prog 32 #[.slice A0 l0.length c0, .slice A1 l1.length c1] w fun e w' => e = .returned (.bool r) ∧ Drawn0 w w' := by
  have HR0 := Aside0.mk hr0
  have HC0 := Aside0.mk hc0
  clear hr0 hc0
  have HR1 := Aside0.mk hr1
  have HC1 := Aside0.mk hc1
  clear hr1 hc1
  have H : (if (l0.length : Int) = (l1.length : Int) then (laws_sameTexts.l0 k l0 l1 0) else (some false)) = some r := h
  clear h
  by_cases c3 : (l0.length : Int) = (l1.length : Int)
  · rw [if_pos c3] at H
    have c3b0 : ((l0.length : Int) == (l1.length : Int)) = true := beq_iff_eq.mpr c3
    have c3b1 : ((l0.length : Int) != (l1.length : Int)) = false := bne_eq_false_iff_eq.mpr c3
    have c3b2 : (l0.length == l1.length) = true := by first | simpa using c3 | (simp at c3 ⊢; omega)
    clear c3
    have H' := Aside0.mk H
    clear H
    go_enter Tryd.func32, Tryd.ntmps32
    go_wp2
    repeat (go_quiet (fail); try go_wp2)
    go_loopg [5] k (fun kq v5 w' => ∃ (x5_1 : Int), v5 = .int .i64 x5_1 ∧ Aside0 (laws_sameTexts.l0 kq l0 l1 x5_1 = some r) ∧ Aside0 (kq ≤ k) ∧ Drawn0 w w')
    case atStart => exact ⟨(0), (by first | rfl | (simp; done) | (simp [*]; done)), H', ⟨Nat.le_refl _⟩, by repeat (first | exact Drawn0.refl _ | apply Drawn0.step)⟩
    case round =>
      clear H'
      try clear c1
      try clear p2
      try clear c3
      try clear c3b0
      try clear c3b1
      try clear c3b2
      obtain ⟨x5_1, rfl, HA, HK1, ⟨m1, rfl⟩⟩ := hrel
      cases gk with
      | zero => exact absurd HA.out (by simp [laws_sameTexts.l0])
      | succ k1 =>
        have H := HA.out
        clear HA
        simp only [laws_sameTexts.l0] at H
        by_cases c4 : x5_1 < (l0.length : Int)
        · rw [if_pos c4] at H
          have c4b0 : decide (x5_1 < (l0.length : Int)) = true := decide_eq_true c4
          clear c4
          by_cases c5 : 0 ≤ x5_1
          · rw [if_pos c5] at H
            have c5b0 : decide (0 ≤ x5_1) = true := decide_eq_true c5
            clear c5
            by_cases c6 : x5_1 < (l1.length : Int)
            · rw [if_pos c6] at H
              have c6b0 : decide (x5_1 < (l1.length : Int)) = true := decide_eq_true c6
              clear c6
              by_cases c7 : (rdOf ByteArray.empty l0 x5_1).toList = (rdOf ByteArray.empty l1 x5_1).toList
              · rw [if_pos c7] at H
                have c7b0 : ((rdOf ByteArray.empty l0 x5_1).toList == (rdOf ByteArray.empty l1 x5_1).toList) = true := beq_iff_eq.mpr c7
                have c7b1 : ((rdOf ByteArray.empty l0 x5_1).toList != (rdOf ByteArray.empty l1 x5_1).toList) = false := bne_eq_false_iff_eq.mpr c7
                clear c7
                have H' := Aside0.mk H
                clear H
                have p357 : 0 ≤ (x5_1 : Int) := of_decide_eq_true (by first | (with_reducible assumption) | assumption)
                have q357 : x5_1 < (l0.length : Int) := of_decide_eq_true (by first | (with_reducible assumption) | assumption)
                obtain ⟨ad357, e357, hx357_0⟩ := Kd.at_string HR0.out x5_1 p357 q357
                cases e357
                replace p357 := eq_true p357
                replace q357 := eq_true q357
                have p358 : 0 ≤ (x5_1 : Int) := of_decide_eq_true (by first | (with_reducible assumption) | assumption)
                have q358 : x5_1 < (l1.length : Int) := of_decide_eq_true (by first | (with_reducible assumption) | assumption)
                obtain ⟨ad358, e358, hx358_0⟩ := Kd.at_string HR1.out x5_1 p358 q358
                cases e358
                replace p358 := eq_true p358
                replace q358 := eq_true q358
                go_wp2
                repeat (go_quiet (fail); try go_wp2)
                go_roundg k1
                case measure => have := HK1.out; omega
                case rel => exact ⟨(wrap64 (x5_1 + 1)), (by first | rfl | (simp; done) | (simp [*]; done)), H', ⟨by have := HK1.out; omega⟩, by repeat (first | exact Drawn0.refl _ | apply Drawn0.step)⟩
              · rw [if_neg c7] at H
                have c7b0 : ((rdOf ByteArray.empty l0 x5_1).toList == (rdOf ByteArray.empty l1 x5_1).toList) = false := beq_eq_false_iff_ne.mpr c7
                have c7b1 : ((rdOf ByteArray.empty l0 x5_1).toList != (rdOf ByteArray.empty l1 x5_1).toList) = true := bne_iff_ne.mpr c7
                obtain rfl := Option.some.inj H
                have p357 : 0 ≤ (x5_1 : Int) := of_decide_eq_true (by first | (with_reducible assumption) | assumption)
                have q357 : x5_1 < (l0.length : Int) := of_decide_eq_true (by first | (with_reducible assumption) | assumption)
                obtain ⟨ad357, e357, hx357_0⟩ := Kd.at_string HR0.out x5_1 p357 q357
                cases e357
                replace p357 := eq_true p357
                replace q357 := eq_true q357
                have p358 : 0 ≤ (x5_1 : Int) := of_decide_eq_true (by first | (with_reducible assumption) | assumption)
                have q358 : x5_1 < (l1.length : Int) := of_decide_eq_true (by first | (with_reducible assumption) | assumption)
                obtain ⟨ad358, e358, hx358_0⟩ := Kd.at_string HR1.out x5_1 p358 q358
                cases e358
                replace p358 := eq_true p358
                replace q358 := eq_true q358
                go_wp2
                repeat (go_quiet (fail); try go_wp2)
                go_ret
                exact ⟨by first | rfl | (simp; done) | (simp [*]; done), by repeat (first | exact Drawn0.refl _ | apply Drawn0.step)⟩
            · rw [if_neg c6] at H
              exact absurd H (by simp)
          · rw [if_neg c5] at H
            exact absurd H (by simp)
        · rw [if_neg c4] at H
          have c4b0 : decide (x5_1 < (l0.length : Int)) = false := decide_eq_false c4
          clear c4
          obtain rfl := Option.some.inj H
          go_wp2
          repeat (go_quiet (fail); try go_wp2)
          go_ret
          exact ⟨by first | rfl | (simp; done) | (simp [*]; done), by repeat (first | exact Drawn0.refl _ | apply Drawn0.step)⟩
  · rw [if_neg c3] at H
    have c3b0 : ((l0.length : Int) == (l1.length : Int)) = false := beq_eq_false_iff_ne.mpr c3
    have c3b1 : ((l0.length : Int) != (l1.length : Int)) = true := bne_iff_ne.mpr c3
    have c3b2 : (l0.length == l1.length) = false := by first | simpa using c3 | (simp at c3 ⊢; omega)
    obtain rfl := Option.some.inj H
    go_enter Tryd.func32, Tryd.ntmps32
    go_wp2
    repeat (go_quiet (fail); try go_wp2)
    go_ret
    exact ⟨by first | rfl | (simp; done) | (simp [*]; done), by repeat (first | exact Drawn0.refl _ | apply Drawn0.step)⟩
def laws_FnFieldsAgain.l0 : Nat → List ByteArray → Bool → ByteArray → Int → Option (Bool)
  | 0, _, _, _, _ => none
  | k + 1, x4, x5, x8, x9 => if x9 < (x4.length : Int) then (if 0 ≤ x9 then (if x8.size + (rdOf ByteArray.empty x4 x9).size ≤ 9223372036854775807 then (if (x8 ++ (rdOf ByteArray.empty x4 x9)).size + 1 ≤ 9223372036854775807 then (laws_FnFieldsAgain.l0 k x4 x5 ((x8 ++ (rdOf ByteArray.empty x4 x9)) ++ (⟨#[32]⟩ : ByteArray)) (wrap64 (x9 + 1))) else (none)) else (none)) else (none)) else ((impl_SplitFields.f k x8).bind fun bt371 => (if x5 = true then (if (x8.size : Int) > 600 then (some true) else (if bt371.2 = true then ((laws_sameTexts.f k x4 bt371.1).bind fun t375 => (some t375)) else (some false))) else (some false)))
def laws_FnFieldsAgain.f (k : Nat) (l0 : List Int) : Option (Bool) := (laws_big.f l0).bind fun t359 => (if t359 = true then (some true) else ((spec_DrawSplitFields.f k l0).bind fun t360 => ((impl_SplitFields.f k t360).bind fun bt361 => ((spec_SplitFields.f k t360).bind fun bt365 => (if bt365.2 = true then (laws_FnFieldsAgain.l0 k bt361.1 bt361.2 (⟨#[]⟩ : ByteArray) 0) else (if bt361.2 = true then (some false) else (if (bt361.1.length : Int) = 0 then ((impl_FormatInt.f (-3)).bind fun t369 => (some (t369.toList == ([45, 51] : List UInt8)))) else (some false))))))))
set_option maxHeartbeats 8000000 in
set_option maxRecDepth 100000 in
theorem laws_FnFieldsAgain.calls (k : Nat) (A0 : Option Addr) (c0 : Nat) (l0 : List Int) (r : Bool) (w : World) (hr0 : Kd.C (Kd.int .u8) w A0 l0.length l0) (hc0 : l0.length ≤ c0) (hr_ : Aside0 (r = true)) (h : laws_FnFieldsAgain.f k l0 = some r) (hTI : TabI w := by first | exact Aside0.out (by assumption) | exact tabI_below (Aside0.out (by assumption)) (by repeat (first | (with_reducible first | exact Aside0.out (by assumption) | apply below_alloc | apply pw_below_drewN | apply below_drew1) | exact Below.refl _ _))) (hTS : TabS w := by first | exact Aside0.out (by assumption) | exact tabS_below (Aside0.out (by assumption)) (by repeat (first | (with_reducible first | exact Aside0.out (by assumption) | apply below_alloc | apply pw_below_drewN | apply below_drew1) | exact Below.refl _ _))) :
    Calls Tryd.prog 10 #[.slice A0 l0.length c0] w fun e w' => e = .returned (.bool r) ∧ Below w.heap.size w w' := by
  have HTS_ := Aside0.mk hTS
  clear hTS
  have HTI_ := Aside0.mk hTI
  clear hTI
  have HR0 := Aside0.mk hr0
  have HC0 := Aside0.mk hc0
  clear hr0 hc0
  have HB := Aside0.mk (Below.refl w.heap.size w)
  have H : ((laws_big.f l0).bind fun t359 => (if t359 = true then (some true) else ((spec_DrawSplitFields.f k l0).bind fun t360 => ((impl_SplitFields.f k t360).bind fun bt361 => ((spec_SplitFields.f k t360).bind fun bt365 => (if bt365.2 = true then (laws_FnFieldsAgain.l0 k bt361.1 bt361.2 (⟨#[]⟩ : ByteArray) 0) else (if bt361.2 = true then (some false) else (if (bt361.1.length : Int) = 0 then ((impl_FormatInt.f (-3)).bind fun t369 => (some (t369.toList == ([45, 51] : List UInt8)))) else (some false))))))))) = some r := h
  clear h
  replace H := Option.bind_eq_some_iff.mp H
  obtain ⟨t359, A20, H⟩ := H
  replace H : (if t359 = true then (some true) else ((spec_DrawSplitFields.f k l0).bind fun t360 => ((impl_SplitFields.f k t360).bind fun bt361 => ((spec_SplitFields.f k t360).bind fun bt365 => (if bt365.2 = true then (laws_FnFieldsAgain.l0 k bt361.1 bt361.2 (⟨#[]⟩ : ByteArray) 0) else (if bt361.2 = true then (some false) else (if (bt361.1.length : Int) = 0 then ((impl_FormatInt.f (-3)).bind fun t369 => (some (t369.toList == ([45, 51] : List UInt8)))) else (some false)))))))) = some r := H
  have A2 := Aside0.mk A20
  clear A20
  by_cases c3 : t359 = true
  · subst c3
    have H1 : (some true) = some r := by rw [if_pos rfl] at H; exact H
    clear H
    have H := H1
    clear H1
    obtain rfl := Option.some.inj H
    go_enter Tryd.func10, Tryd.ntmps10
    go_wp2_with (first | ((with_reducible refine gate_callee (f := 17) rfl ?_); refine goesL_ (some 13) rfl rfl Tryd.func17 (by kernel_rfl) rfl #[.slice A0 l0.length c0] rfl (by (try simp only [List.map_toArray, List.map_cons, List.map_nil]); first | done | rfl | (simp only [List.length_drop, List.length_take]; rfl)) ?_; (with_reducible refine (laws_big.calls _ _ l0 true _ ?side1 ?side2 A2.out).mono ?_); (case side1 => repeat (first | exact HR0.out | (with_reducible refine Kd.C_alloc ?_ _) | (with_reducible refine Kd.C_drewN ?_ _) | (with_reducible refine Kd.C_drew ?_))); (case side2 => exact HC0.out); rintro e w' ⟨rfl, ⟨nd, rfl⟩⟩; refine ⟨_, rfl, ?_⟩))
    go_ret
    exact ⟨by first | rfl | (simp [errW_none, errW_some] <;> rfl) | (simp [*, errW_none, errW_some] <;> rfl), by repeat (first | (with_reducible first | exact HB.out | apply below_alloc | apply pw_below_drewN | apply below_drew1) | exact HB.out)⟩
  · replace c3 := Bool.eq_false_iff.mpr c3
    subst c3
    have H1 : ((spec_DrawSplitFields.f k l0).bind fun t360 => ((impl_SplitFields.f k t360).bind fun bt361 => ((spec_SplitFields.f k t360).bind fun bt365 => (if bt365.2 = true then (laws_FnFieldsAgain.l0 k bt361.1 bt361.2 (⟨#[]⟩ : ByteArray) 0) else (if bt361.2 = true then (some false) else (if (bt361.1.length : Int) = 0 then ((impl_FormatInt.f (-3)).bind fun t369 => (some (t369.toList == ([45, 51] : List UInt8)))) else (some false))))))) = some r := by rw [if_neg (show ¬ (false = true) by decide)] at H; exact H
    clear H
    have H := H1
    clear H1
    replace H := Option.bind_eq_some_iff.mp H
    obtain ⟨t360, A40, H⟩ := H
    replace H : ((impl_SplitFields.f k t360).bind fun bt361 => ((spec_SplitFields.f k t360).bind fun bt365 => (if bt365.2 = true then (laws_FnFieldsAgain.l0 k bt361.1 bt361.2 (⟨#[]⟩ : ByteArray) 0) else (if bt361.2 = true then (some false) else (if (bt361.1.length : Int) = 0 then ((impl_FormatInt.f (-3)).bind fun t369 => (some (t369.toList == ([45, 51] : List UInt8)))) else (some false)))))) = some r := H
    have A4 := Aside0.mk A40
    clear A40
    replace H := Option.bind_eq_some_iff.mp H
    obtain ⟨⟨t361, t362⟩, A50, H⟩ := H
    replace H : ((spec_SplitFields.f k t360).bind fun bt365 => (if bt365.2 = true then (laws_FnFieldsAgain.l0 k t361 t362 (⟨#[]⟩ : ByteArray) 0) else (if t362 = true then (some false) else (if (t361.length : Int) = 0 then ((impl_FormatInt.f (-3)).bind fun t369 => (some (t369.toList == ([45, 51] : List UInt8)))) else (some false))))) = some r := H
    have A5 := Aside0.mk A50
    clear A50
    replace H := Option.bind_eq_some_iff.mp H
    obtain ⟨⟨t365, t366⟩, A60, H⟩ := H
    replace H : (if t366 = true then (laws_FnFieldsAgain.l0 k t361 t362 (⟨#[]⟩ : ByteArray) 0) else (if t362 = true then (some false) else (if (t361.length : Int) = 0 then ((impl_FormatInt.f (-3)).bind fun t369 => (some (t369.toList == ([45, 51] : List UInt8)))) else (some false)))) = some r := H
    have A6 := Aside0.mk A60
    clear A60
    by_cases c7 : t366 = true
    · subst c7
      have H1 : (laws_FnFieldsAgain.l0 k t361 t362 (⟨#[]⟩ : ByteArray) 0) = some r := by rw [if_pos rfl] at H; exact H
      clear H
      have H := H1
      clear H1
      have H' := Aside0.mk H
      clear H
      go_enter Tryd.func10, Tryd.ntmps10
      go_wp2_with (first | ((with_reducible refine gate_callee (f := 17) rfl ?_); refine goesL_ (some 13) rfl rfl Tryd.func17 (by kernel_rfl) rfl #[.slice A0 l0.length c0] rfl (by (try simp only [List.map_toArray, List.map_cons, List.map_nil]); first | done | rfl | (simp only [List.length_drop, List.length_take]; rfl)) ?_; (with_reducible refine (laws_big.calls _ _ l0 false _ ?side1 ?side2 A2.out).mono ?_); (case side1 => repeat (first | exact HR0.out | (with_reducible refine Kd.C_alloc ?_ _) | (with_reducible refine Kd.C_drewN ?_ _) | (with_reducible refine Kd.C_drew ?_))); (case side2 => exact HC0.out); rintro e w' ⟨rfl, ⟨nd, rfl⟩⟩; refine ⟨_, rfl, ?_⟩) | ((with_reducible refine gate_callee (f := 31) rfl ?_); refine goesL_ (some 15) rfl rfl Tryd.func31 (by kernel_rfl) rfl #[.slice A0 l0.length c0] rfl (by (try simp only [List.map_toArray, List.map_cons, List.map_nil]); first | done | rfl | (simp only [List.length_drop, List.length_take]; rfl)) ?_; (with_reducible refine (spec_DrawSplitFields.calls k _ _ l0 t360 _ ?side1 ?side2 A4.out).mono ?_); (case side1 => repeat (first | exact HR0.out | (with_reducible refine Kd.C_alloc ?_ _) | (with_reducible refine Kd.C_drewN ?_ _) | (with_reducible refine Kd.C_drew ?_))); (case side2 => exact HC0.out); rintro e w8 ⟨rfl, hb⟩; refine ⟨_, rfl, ?_⟩; have n0_ := Aside0.mk (below_step (by repeat (first | (with_reducible first | exact HB.out | apply below_alloc | apply pw_below_drewN | apply below_drew1) | exact HB.out)) hb); clear HB; have HB := n0_; clear n0_; (try clear hb); (try clear hb2); (try clear hk); (try clear hi)) | ((with_reducible refine gate_callee (f := 24) rfl ?_); refine goesL_ (some 18) rfl rfl Tryd.func24 (by kernel_rfl) rfl #[.string t360] rfl (by (try simp only [List.map_toArray, List.map_cons, List.map_nil]); first | done | rfl | (simp only [List.length_drop, List.length_take]; rfl)) ?_; (with_reducible refine (impl_SplitFields.calls k t360 t361 t362 _ A5.out).mono ?_); rintro e w9 ⟨v363, rfl, ho0, hb⟩; refine ⟨_, rfl, ?_⟩; have n0_ := Aside0.mk (Kd.R_lower ho0 (below_size (by repeat (first | (with_reducible first | exact HB.out | apply below_alloc | apply pw_below_drewN | apply below_drew1) | exact HB.out)))); have n1_ := Aside0.mk (below_step (by repeat (first | (with_reducible first | exact HB.out | apply below_alloc | apply pw_below_drewN | apply below_drew1) | exact HB.out)) hb); clear HB; have HO364 := n0_; have HB := n1_; clear n0_ n1_; (try clear hb); (try clear hb2); (try clear hk); (try clear hi); (try clear ho0)) | ((with_reducible refine gate_callee (f := 23) rfl ?_); refine goesL_ (some 23) rfl rfl Tryd.func23 (by kernel_rfl) rfl #[.string t360] rfl (by (try simp only [List.map_toArray, List.map_cons, List.map_nil]); first | done | rfl | (simp only [List.length_drop, List.length_take]; rfl)) ?_; (with_reducible refine (spec_SplitFields.calls k t360 t365 true _ A6.out).mono ?_); rintro e w10 ⟨v367, rfl, ho0, hb⟩; refine ⟨_, rfl, ?_⟩; have n0_ := Aside0.mk (Kd.R_elder' (by (with_reducible repeat (first | apply Kd.R_alloc | apply Kd.R_drewN | apply Kd.R_drew)); exact HO364.out) (Kd.R_base ho0) hb); have n1_ := Aside0.mk (Kd.R_lower (Kd.R_new' ho0 (Kd.R_lt (by (with_reducible repeat (first | apply Kd.R_alloc | apply Kd.R_drewN | apply Kd.R_drew)); exact HO364.out))) (below_size (by repeat (first | (with_reducible first | exact HB.out | apply below_alloc | apply pw_below_drewN | apply below_drew1) | exact HB.out)))); have n2_ := Aside0.mk (below_step (by repeat (first | (with_reducible first | exact HB.out | apply below_alloc | apply pw_below_drewN | apply below_drew1) | exact HB.out)) hb); clear HO364; clear HB; have HO364 := n0_; have HO368 := n1_; have HB := n2_; clear n0_ n1_ n2_; (try clear hb); (try clear hb2); (try clear hk); (try clear hi); (try clear ho0)))
      go_loopg [8, 9] k (fun kq v8 v9 w' => ∃ (x8_1 : ByteArray) (x9_1 : Int), v8 = .string x8_1 ∧ v9 = .int .i64 x9_1 ∧ Aside0 (laws_FnFieldsAgain.l0 kq t361 t362 x8_1 x9_1 = some r) ∧ Aside0 (kq ≤ k) ∧ Aside0 (Kd.R Kd.string 9 w' w.heap.size (fun _ => True) v363 t361) ∧ Aside0 (Below w.heap.size w w'))
      case atStart => exact ⟨((⟨#[]⟩ : ByteArray)), (0), (by first | rfl | (simp; done) | (simp [*]; done)), (by first | rfl | (simp; done) | (simp [*]; done)), H', ⟨Nat.le_refl _⟩, ⟨by (with_reducible repeat (first | apply Kd.R_alloc | apply Kd.R_drewN | apply Kd.R_drew)); exact Kd.R_mono HO364.out (fun _ hk => trivial)⟩, ⟨by repeat (first | (with_reducible first | exact HB.out | apply below_alloc | apply pw_below_drewN | apply below_drew1) | exact HB.out)⟩⟩
      case round =>
        clear H'
        try clear c1
        try clear c2
        try clear p2
        try clear c3
        try clear c7
        try clear c10
        obtain ⟨x8_1, x9_1, rfl, rfl, HA, HK1, HO_4, HB⟩ := hrel
        cases gk with
        | zero => exact absurd HA.out (by simp [laws_FnFieldsAgain.l0])
        | succ k1 =>
          have H := HA.out
          clear HA
          simp only [laws_FnFieldsAgain.l0] at H
          by_cases c11 : x9_1 < (t361.length : Int)
          · rw [if_pos c11] at H
            have c11b0 : decide (x9_1 < (t361.length : Int)) = true := decide_eq_true c11
            clear c11
            by_cases c12 : 0 ≤ x9_1
            · rw [if_pos c12] at H
              have c12b0 : decide (0 ≤ x9_1) = true := decide_eq_true c12
              clear c12
              by_cases c13 : x8_1.size + (rdOf ByteArray.empty t361 x9_1).size ≤ 9223372036854775807
              · rw [if_pos c13] at H
                have c13b0 := eq_true c13
                have c13b1 : decide (x8_1.size + (rdOf ByteArray.empty t361 x9_1).size ≤ 9223372036854775807) = true := decide_eq_true c13
                try have c13b2 : (9223372036854775807 < x8_1.size + (rdOf ByteArray.empty t361 x9_1).size) = False := eq_false (Nat.not_lt.2 c13)
                by_cases c14 : (x8_1 ++ (rdOf ByteArray.empty t361 x9_1)).size + 1 ≤ 9223372036854775807
                · rw [if_pos c14] at H
                  have c14b6 : x8_1.size + (rdOf ByteArray.empty t361 x9_1).size + 1 ≤ 9223372036854775807 := by (have h_ := c14; rw [ByteArray.size_append] at h_; exact h_)
                  have c14b7 : (x8_1.size + (rdOf ByteArray.empty t361 x9_1).size + 1 ≤ 9223372036854775807) = True := eq_true c14b6
                  have c14b8 : (x8_1.size + (rdOf ByteArray.empty t361 x9_1).size < 9223372036854775807) = True := eq_true (by omega)
                  have c14b9 : (9223372036854775807 ≤ x8_1.size + (rdOf ByteArray.empty t361 x9_1).size) = False := eq_false (by omega)
                  have c14b0 := eq_true c14
                  have c14b1 : decide ((x8_1 ++ (rdOf ByteArray.empty t361 x9_1)).size + 1 ≤ 9223372036854775807) = true := decide_eq_true c14
                  try have c14b2 : (9223372036854775807 < (x8_1 ++ (rdOf ByteArray.empty t361 x9_1)).size + 1) = False := eq_false (Nat.not_lt.2 c14)
                  have H' := Aside0.mk H
                  clear H
                  obtain ⟨Ao15, co15, eo15⟩ := Kd.R_slice HO_4.out
                  subst eo15
                  have p370 : 0 ≤ (x9_1 : Int) := of_decide_eq_true (by first | (with_reducible assumption) | assumption)
                  have q370 : x9_1 < (t361.length : Int) := of_decide_eq_true (by first | (with_reducible assumption) | assumption)
                  obtain ⟨ad370, e370, hx370_0⟩ := Kd.at_string (Kd.R_reads' HO_4.out).2.2 x9_1 p370 q370
                  cases e370
                  replace p370 := eq_true p370
                  replace q370 := eq_true q370
                  go_wp2
                  go_roundg k1
                  case measure => have := HK1.out; omega
                  case rel => exact ⟨((x8_1 ++ (rdOf ByteArray.empty t361 x9_1)) ++ (⟨#[32]⟩ : ByteArray)), (wrap64 (x9_1 + 1)), (by first | rfl | (simp; done) | (simp [*]; done)), (by first | rfl | (simp; done) | (simp [*]; done)), H', ⟨by have := HK1.out; omega⟩, ⟨by (with_reducible repeat (first | apply Kd.R_alloc | apply Kd.R_drewN | apply Kd.R_drew)); exact HO_4.out⟩, ⟨by repeat (first | (with_reducible first | exact HB.out | apply below_alloc | apply pw_below_drewN | apply below_drew1) | exact HB.out)⟩⟩
                · rw [if_neg c14] at H
                  exact absurd H (by simp)
              · rw [if_neg c13] at H
                exact absurd H (by simp)
            · rw [if_neg c12] at H
              exact absurd H (by simp)
          · rw [if_neg c11] at H
            have c11b0 : decide (x9_1 < (t361.length : Int)) = false := decide_eq_false c11
            clear c11
            replace H := Option.bind_eq_some_iff.mp H
            obtain ⟨⟨t371, t372⟩, A160, H⟩ := H
            replace H : (if t362 = true then (if (x8_1.size : Int) > 600 then (some true) else (if t372 = true then ((laws_sameTexts.f k1 t361 t371).bind fun t375 => (some t375)) else (some false))) else (some false)) = some r := H
            have A16 := Aside0.mk A160
            clear A160
            by_cases c17 : t362 = true
            · subst c17
              have H1 : (if (x8_1.size : Int) > 600 then (some true) else (if t372 = true then ((laws_sameTexts.f k1 t361 t371).bind fun t375 => (some t375)) else (some false))) = some r := by rw [if_pos rfl] at H; exact H
              clear H
              have H := H1
              clear H1
              by_cases c18 : (x8_1.size : Int) > 600
              · rw [if_pos c18] at H
                have c18b0 : decide (600 < (x8_1.size : Int)) = true := decide_eq_true c18
                have c18b1 : decide (600 < x8_1.size) = true := decide_eq_true (by omega)
                clear c18
                obtain rfl := Option.some.inj H
                obtain ⟨Ao19, co19, eo19⟩ := Kd.R_slice HO_4.out
                subst eo19
                go_wp2_with (first | ((with_reducible refine gate_callee (f := 24) rfl ?_); refine goesL_ (some 54) rfl rfl Tryd.func24 (by kernel_rfl) rfl #[.string x8_1] rfl (by (try simp only [List.map_toArray, List.map_cons, List.map_nil]); first | done | rfl | (simp only [List.length_drop, List.length_take]; rfl)) ?_; (with_reducible refine (impl_SplitFields.calls k1 x8_1 t371 t372 _ A16.out).mono ?_); rintro e w20 ⟨v373, rfl, ho0, hb⟩; refine ⟨_, rfl, ?_⟩; have n0_ := Aside0.mk (Kd.R_elder' (by (with_reducible repeat (first | apply Kd.R_alloc | apply Kd.R_drewN | apply Kd.R_drew)); exact HO_4.out) (Kd.R_base ho0) hb); have n1_ := Aside0.mk (Kd.R_lower (Kd.R_new' ho0 (Kd.R_lt (by (with_reducible repeat (first | apply Kd.R_alloc | apply Kd.R_drewN | apply Kd.R_drew)); exact HO_4.out))) (below_size (by repeat (first | (with_reducible first | exact HB.out | apply below_alloc | apply pw_below_drewN | apply below_drew1) | exact HB.out)))); have n2_ := Aside0.mk (below_step (by repeat (first | (with_reducible first | exact HB.out | apply below_alloc | apply pw_below_drewN | apply below_drew1) | exact HB.out)) hb); clear HO_4; clear HB; have HO_4 := n0_; have HO374 := n1_; have HB := n2_; clear n0_ n1_ n2_; (try clear hb); (try clear hb2); (try clear hk); (try clear hi); (try clear ho0)))
                go_ret
                exact ⟨by first | rfl | (simp [errW_none, errW_some] <;> rfl) | (simp [*, errW_none, errW_some] <;> rfl), by repeat (first | (with_reducible first | exact HB.out | apply below_alloc | apply pw_below_drewN | apply below_drew1) | exact HB.out)⟩
              · rw [if_neg c18] at H
                have c18b0 : decide (600 < (x8_1.size : Int)) = false := decide_eq_false c18
                have c18b1 : decide (600 < x8_1.size) = false := decide_eq_false (by omega)
                clear c18
                by_cases c21 : t372 = true
                · subst c21
                  have H1 : ((laws_sameTexts.f k1 t361 t371).bind fun t375 => (some t375)) = some r := by rw [if_pos rfl] at H; exact H
                  clear H
                  have H := H1
                  clear H1
                  replace H := Option.bind_eq_some_iff.mp H
                  obtain ⟨t375, A220, H⟩ := H
                  replace H : (some t375) = some r := H
                  have A22 := Aside0.mk A220
                  clear A220
                  obtain rfl := Option.some.inj H
                  obtain ⟨Ao23, co23, eo23⟩ := Kd.R_slice HO_4.out
                  subst eo23
                  go_wp2_with (first | ((with_reducible refine gate_callee (f := 24) rfl ?_); refine goesL_ (some 54) rfl rfl Tryd.func24 (by kernel_rfl) rfl #[.string x8_1] rfl (by (try simp only [List.map_toArray, List.map_cons, List.map_nil]); first | done | rfl | (simp only [List.length_drop, List.length_take]; rfl)) ?_; (with_reducible refine (impl_SplitFields.calls k1 x8_1 t371 true _ A16.out).mono ?_); rintro e w24 ⟨v373, rfl, ho0, hb⟩; refine ⟨_, rfl, ?_⟩; have n0_ := Aside0.mk (Kd.R_elder' (by (with_reducible repeat (first | apply Kd.R_alloc | apply Kd.R_drewN | apply Kd.R_drew)); exact HO_4.out) (Kd.R_base ho0) hb); have n1_ := Aside0.mk (Kd.R_lower (Kd.R_new' ho0 (Kd.R_lt (by (with_reducible repeat (first | apply Kd.R_alloc | apply Kd.R_drewN | apply Kd.R_drew)); exact HO_4.out))) (below_size (by repeat (first | (with_reducible first | exact HB.out | apply below_alloc | apply pw_below_drewN | apply below_drew1) | exact HB.out)))); have n2_ := Aside0.mk (below_step (by repeat (first | (with_reducible first | exact HB.out | apply below_alloc | apply pw_below_drewN | apply below_drew1) | exact HB.out)) hb); clear HO_4; clear HB; have HO_4 := n0_; have HO374 := n1_; have HB := n2_; clear n0_ n1_ n2_; (try clear hb); (try clear hb2); (try clear hk); (try clear hi); (try clear ho0); obtain ⟨Ao25, co25, eo25⟩ := Kd.R_slice HO374.out; subst eo25) | (go_at_call 32; (with_reducible refine (laws_sameTexts.calls k1 _ _ t361 _ _ t371 t375 _ ?side1 ?side2 ?side3 ?side4 A22.out).mono ?_); (case side1 => repeat (first | exact (Kd.R_reads' HO_4.out).2.2 | (with_reducible refine Kd.C_alloc ?_ _) | (with_reducible refine Kd.C_drewN ?_ _) | (with_reducible refine Kd.C_drew ?_))); (case side2 => exact (Kd.R_reads' HO_4.out).2.1); (case side3 => repeat (first | exact (Kd.R_reads' HO374.out).2.2 | (with_reducible refine Kd.C_alloc ?_ _) | (with_reducible refine Kd.C_drewN ?_ _) | (with_reducible refine Kd.C_drew ?_))); (case side4 => exact (Kd.R_reads' HO374.out).2.1); rintro e w' ⟨rfl, ⟨nd, rfl⟩⟩))
                  go_ret
                  exact ⟨by first | rfl | (simp [errW_none, errW_some] <;> rfl) | (simp [*, errW_none, errW_some] <;> rfl), by repeat (first | (with_reducible first | exact HB.out | apply below_alloc | apply pw_below_drewN | apply below_drew1) | exact HB.out)⟩
                · replace c21 := Bool.eq_false_iff.mpr c21
                  subst c21
                  have H1 : (some false) = some r := by rw [if_neg (show ¬ (false = true) by decide)] at H; exact H
                  clear H
                  have H := H1
                  clear H1
                  exact absurd (Option.some.inj H) (by rw [hr_.out]; decide)
            · replace c17 := Bool.eq_false_iff.mpr c17
              subst c17
              have H1 : (some false) = some r := by rw [if_neg (show ¬ (false = true) by decide)] at H; exact H
              clear H
              have H := H1
              clear H1
              exact absurd (Option.some.inj H) (by rw [hr_.out]; decide)
    · replace c7 := Bool.eq_false_iff.mpr c7
      subst c7
      have H1 : (if t362 = true then (some false) else (if (t361.length : Int) = 0 then ((impl_FormatInt.f (-3)).bind fun t369 => (some (t369.toList == ([45, 51] : List UInt8)))) else (some false))) = some r := by rw [if_neg (show ¬ (false = true) by decide)] at H; exact H
      clear H
      have H := H1
      clear H1
      by_cases c26 : t362 = true
      · subst c26
        have H1 : (some false) = some r := by rw [if_pos rfl] at H; exact H
        clear H
        have H := H1
        clear H1
        exact absurd (Option.some.inj H) (by rw [hr_.out]; decide)
      · replace c26 := Bool.eq_false_iff.mpr c26
        subst c26
        have H1 : (if (t361.length : Int) = 0 then ((impl_FormatInt.f (-3)).bind fun t369 => (some (t369.toList == ([45, 51] : List UInt8)))) else (some false)) = some r := by rw [if_neg (show ¬ (false = true) by decide)] at H; exact H
        clear H
        have H := H1
        clear H1
        by_cases c27 : (t361.length : Int) = 0
        · rw [if_pos c27] at H
          have c27b0 : ((t361.length : Int) == 0) = true := beq_iff_eq.mpr c27
          have c27b1 : ((t361.length : Int) != 0) = false := bne_eq_false_iff_eq.mpr c27
          clear c27
          replace H := Option.bind_eq_some_iff.mp H
          obtain ⟨t369, A280, H⟩ := H
          replace H : (some (t369.toList == ([45, 51] : List UInt8))) = some r := H
          have A28 := Aside0.mk A280
          clear A280
          obtain rfl := Option.some.inj H
          go_enter Tryd.func10, Tryd.ntmps10
          go_wp2_with (first | ((with_reducible refine gate_callee (f := 17) rfl ?_); refine goesL_ (some 13) rfl rfl Tryd.func17 (by kernel_rfl) rfl #[.slice A0 l0.length c0] rfl (by (try simp only [List.map_toArray, List.map_cons, List.map_nil]); first | done | rfl | (simp only [List.length_drop, List.length_take]; rfl)) ?_; (with_reducible refine (laws_big.calls _ _ l0 false _ ?side1 ?side2 A2.out).mono ?_); (case side1 => repeat (first | exact HR0.out | (with_reducible refine Kd.C_alloc ?_ _) | (with_reducible refine Kd.C_drewN ?_ _) | (with_reducible refine Kd.C_drew ?_))); (case side2 => exact HC0.out); rintro e w' ⟨rfl, ⟨nd, rfl⟩⟩; refine ⟨_, rfl, ?_⟩) | ((with_reducible refine gate_callee (f := 31) rfl ?_); refine goesL_ (some 15) rfl rfl Tryd.func31 (by kernel_rfl) rfl #[.slice A0 l0.length c0] rfl (by (try simp only [List.map_toArray, List.map_cons, List.map_nil]); first | done | rfl | (simp only [List.length_drop, List.length_take]; rfl)) ?_; (with_reducible refine (spec_DrawSplitFields.calls k _ _ l0 t360 _ ?side1 ?side2 A4.out).mono ?_); (case side1 => repeat (first | exact HR0.out | (with_reducible refine Kd.C_alloc ?_ _) | (with_reducible refine Kd.C_drewN ?_ _) | (with_reducible refine Kd.C_drew ?_))); (case side2 => exact HC0.out); rintro e w29 ⟨rfl, hb⟩; refine ⟨_, rfl, ?_⟩; have n0_ := Aside0.mk (below_step (by repeat (first | (with_reducible first | exact HB.out | apply below_alloc | apply pw_below_drewN | apply below_drew1) | exact HB.out)) hb); clear HB; have HB := n0_; clear n0_; (try clear hb); (try clear hb2); (try clear hk); (try clear hi)) | ((with_reducible refine gate_callee (f := 24) rfl ?_); refine goesL_ (some 18) rfl rfl Tryd.func24 (by kernel_rfl) rfl #[.string t360] rfl (by (try simp only [List.map_toArray, List.map_cons, List.map_nil]); first | done | rfl | (simp only [List.length_drop, List.length_take]; rfl)) ?_; (with_reducible refine (impl_SplitFields.calls k t360 t361 false _ A5.out).mono ?_); rintro e w30 ⟨v363, rfl, ho0, hb⟩; refine ⟨_, rfl, ?_⟩; have n0_ := Aside0.mk (Kd.R_lower ho0 (below_size (by repeat (first | (with_reducible first | exact HB.out | apply below_alloc | apply pw_below_drewN | apply below_drew1) | exact HB.out)))); have n1_ := Aside0.mk (below_step (by repeat (first | (with_reducible first | exact HB.out | apply below_alloc | apply pw_below_drewN | apply below_drew1) | exact HB.out)) hb); clear HB; have HO364 := n0_; have HB := n1_; clear n0_ n1_; (try clear hb); (try clear hb2); (try clear hk); (try clear hi); (try clear ho0)) | ((with_reducible refine gate_callee (f := 23) rfl ?_); refine goesL_ (some 23) rfl rfl Tryd.func23 (by kernel_rfl) rfl #[.string t360] rfl (by (try simp only [List.map_toArray, List.map_cons, List.map_nil]); first | done | rfl | (simp only [List.length_drop, List.length_take]; rfl)) ?_; (with_reducible refine (spec_SplitFields.calls k t360 t365 false _ A6.out).mono ?_); rintro e w31 ⟨v367, rfl, ho0, hb⟩; refine ⟨_, rfl, ?_⟩; have n0_ := Aside0.mk (Kd.R_elder' (by (with_reducible repeat (first | apply Kd.R_alloc | apply Kd.R_drewN | apply Kd.R_drew)); exact HO364.out) (Kd.R_base ho0) hb); have n1_ := Aside0.mk (Kd.R_lower (Kd.R_new' ho0 (Kd.R_lt (by (with_reducible repeat (first | apply Kd.R_alloc | apply Kd.R_drewN | apply Kd.R_drew)); exact HO364.out))) (below_size (by repeat (first | (with_reducible first | exact HB.out | apply below_alloc | apply pw_below_drewN | apply below_drew1) | exact HB.out)))); have n2_ := Aside0.mk (below_step (by repeat (first | (with_reducible first | exact HB.out | apply below_alloc | apply pw_below_drewN | apply below_drew1) | exact HB.out)) hb); clear HO364; clear HB; have HO364 := n0_; have HO368 := n1_; have HB := n2_; clear n0_ n1_ n2_; (try clear hb); (try clear hb2); (try clear hk); (try clear hi); (try clear ho0); obtain ⟨Ao32, co32, eo32⟩ := Kd.R_slice HO364.out; subst eo32) | (go_at_call 12; (with_reducible refine (impl_FormatInt.calls (-3) t369 _ A28.out).mono ?_); rintro e w33 ⟨rfl, hb⟩; have n0_ := Aside0.mk (Kd.R_below (by (with_reducible repeat (first | apply Kd.R_alloc | apply Kd.R_drewN | apply Kd.R_drew)); exact HO364.out) hb); have n1_ := Aside0.mk (Kd.R_below (by (with_reducible repeat (first | apply Kd.R_alloc | apply Kd.R_drewN | apply Kd.R_drew)); exact HO368.out) hb); have n2_ := Aside0.mk (below_step (by repeat (first | (with_reducible first | exact HB.out | apply below_alloc | apply pw_below_drewN | apply below_drew1) | exact HB.out)) hb); clear HO364; clear HO368; clear HB; have HO364 := n0_; have HO368 := n1_; have HB := n2_; clear n0_ n1_ n2_; (try clear hb); (try clear hb2); (try clear hk); (try clear hi)))
          go_ret
          exact ⟨by first | rfl | (simp [errW_none, errW_some] <;> rfl) | (simp [*, errW_none, errW_some] <;> rfl), by repeat (first | (with_reducible first | exact HB.out | apply below_alloc | apply pw_below_drewN | apply below_drew1) | exact HB.out)⟩
        · rw [if_neg c27] at H
          have c27b0 : ((t361.length : Int) == 0) = false := beq_eq_false_iff_ne.mpr c27
          have c27b1 : ((t361.length : Int) != 0) = true := bne_iff_ne.mpr c27
          have c27b2 : ¬ (t361 = []) := fun h_ => c27 (by rw [h_]; rfl)
          exact absurd (Option.some.inj H) (by rw [hr_.out]; decide)
end Go.Proofs.YtfoldjbcnlhipaaDoor.A

namespace Go.Proofs.YtfoldjbcnlhipaaDoor.A
open Go.ChangeShapes Go.WideShapes Go.ChangeAt Go.RowKit Go.Proofs.YtfoldjbcnlhipaaDoorW.PrintWords Go.Proofs.YtfoldjbcnlhipaaDoorW.PrintLast
set_option linter.unusedVariables false
set_option linter.unusedSimpArgs false
def Opn {α : Type} (P : Program) (t : TypeId) (d : Kd α) (ok : α → Prop) : Prop :=
  ∀ {H : Type} {enc : TypeId × Value → H} (w : World) (fuel : Nat) (cs : List Value) (x : DataW H × List MemPlace),
    DataW.trod enc P w 0 (fun _ => true) true fuel t cs = some x → ∃ a, d.K w a cs ∧ ok a
theorem opn_int {P : Program} {t : TypeId} {k : IntKind} (ht : P.underlying t = some (.int k)) : Opn P t (Kd.int k) (fun a => (Lit.int k a).wf = true) := by
  intro H enc w fuel cs x h
  obtain ⟨n, rfl, _, hw⟩ := DataW.trod_int ht h
  exact ⟨n, rfl, hw⟩
theorem add_add_ (a : Addr) (i j : Nat) : (a.add i).add j = a.add (i + j) := by
  unfold Addr.add
  by_cases hi : i = 0
  · subst hi; simp
  · by_cases hj : j = 0
    · subst hj; simp
    · rw [if_neg hi, if_neg hj, if_neg (by omega)]
      simp; omega
theorem cells_at {w : World} {base : Nat} {a : Addr} {n : Nat} {cs : List Value} (h : w.cells? base a n = some cs) : cs.length = n ∧ ∀ i u, cs[i]? = some u → w.cell? (a.add i) = some u := by
  unfold World.cells? at h
  split at h
  · have l := mapM_some_length h
    simp only [List.length_range] at l
    refine ⟨l, fun i u hu => ?_⟩
    have hi := (List.getElem?_eq_some_iff.1 hu).1
    have := mapM_some_get h i i (by simp [show i < n by omega])
    rw [this]; exact hu
  · cases h
theorem choose_list {α : Type} {Q : Nat → α → Prop} (m : Nat) (h : ∀ i, i < m → ∃ v, Q i v) : ∃ l : List α, l.length = m ∧ ∀ i v, l[i]? = some v → Q i v := by
  induction m with
  | zero => exact ⟨[], rfl, fun i v hv => by simp at hv⟩
  | succ m ih =>
    obtain ⟨l, hl, hq⟩ := ih (fun i hi => h i (by omega))
    obtain ⟨v, hv⟩ := h m (by omega)
    refine ⟨l ++ [v], by simp [hl], fun i u hu => ?_⟩
    rcases Nat.lt_trichotomy i m with hi | hi | hi
    · rw [List.getElem?_append_left (by omega)] at hu
      exact hq i u hu
    · subst hi
      rw [List.getElem?_append_right (by omega), hl, Nat.sub_self] at hu
      have : v = u := by simpa using hu
      exact this ▸ hv
    · rw [List.getElem?_eq_none (by simp; omega)] at hu
      cases hu
theorem opn_slice {α : Type} {P : Program} {t e : TypeId} {d : Kd α} {ok : α → Prop} (ht : P.underlying t = some (.slice e)) (hs : P.cellsOf e = d.sz) (ho : Opn P e d ok) :
    Opn P t (Kd.slice e d) (fun l => l.length ≤ maxLen ∧ ∀ x ∈ l, ok x) := by
  intro H enc w fuel cs x h
  rcases DataW.trod_slice ht h with ⟨rfl, _⟩ | ⟨a, len, cap, elems, rest, n, _, rfl, _, _, hl, hm, hlen, hel, _, _⟩
  · exact ⟨[], ⟨none, 0, rfl, Nat.le_refl _, rfl, Nat.zero_le _, fun h => absurd h (by simp)⟩, by simp, by simp⟩
  · have each : ∀ i, i < len → ∃ v, ok v ∧ ∃ c, c.length = d.sz ∧ d.K w v c ∧ ∀ j u, c[j]? = some u → w.cell? (a.add (i * d.sz + j)) = some u := by
      intro i hi
      have h1 := hel i hi
      rw [List.getElem?_eq_getElem (by omega)] at h1
      obtain ⟨c, hc, hr⟩ := Option.bind_eq_some_iff.1 h1
      obtain ⟨v, hk, hv⟩ := ho w n c _ hr
      obtain ⟨_, hcell⟩ := cells_at hc
      refine ⟨v, hv, c, d.K_len hk, hk, fun j u hu => ?_⟩
      have := hcell j u hu
      rw [hs, add_add_] at this
      exact this
    obtain ⟨l, hll, hq⟩ := choose_list len each
    subst hll
    have hm' : l.length ≤ maxLen := Nat.le_trans hl hm
    refine ⟨l, ⟨some a, cap, rfl, hl, rfl, by unfold maxLen at hm'; omega, fun _ => ⟨a, rfl, fun j p hp => ?_⟩⟩, hm', fun v hv => ?_⟩
    · obtain ⟨_, c, h1, h2, h3⟩ := hq j p hp
      exact ⟨c, h1, h2, h3⟩
    · obtain ⟨i, hi, rfl⟩ := List.getElem_of_mem hv
      exact (hq i _ (List.getElem?_eq_getElem hi)).1
theorem opn_top {α : Type} {H : Type} {enc : TypeId × Value → H} {P : Program} {w : World} {t : TypeId} {d : Kd α} {ok : α → Prop} {v : Value} {x : DataW H} {ps : List MemPlace} (ho : Opn P t d ok)
    (h : DataW.Trod enc P w 0 (fun _ => true) true t v x ps) : ∃ a, d.K w a v.cells.toList ∧ ok a := by
  obtain ⟨fuel, hf⟩ := h
  exact ho w fuel _ _ hf
theorem slice_eq {a b : Option Addr} {l m c q : Nat} (h : (Value.slice a l c).cells.toList = [.slice b m q]) : a = b ∧ l = m ∧ c = q := by
  simpa [Value.cells] using h
abbrev ok5 (a : Int) : Prop := (Lit.int .u8 a).wf = true
abbrev ok29 (l : List Int) : Prop := l.length ≤ maxLen ∧ ∀ x ∈ l, ok5 x
theorem op5 : Opn Tryd.prog 5 (Kd.int .u8) ok5 := opn_int Tryd.underlying5
theorem op29 : Opn Tryd.prog 29 (Kd.slice 5 (Kd.int .u8)) ok29 := opn_slice Tryd.underlying29 (by kernel_rfl) op5
end Go.Proofs.YtfoldjbcnlhipaaDoor.A

namespace Go.Proofs.YtfoldjbcnlhipaaDoor.A
open Go.RowKit Go.Proofs.YtfoldjbcnlhipaaDoorW.PrintWords Go.Proofs.YtfoldjbcnlhipaaDoorW.PrintLast Go.Proofs.YtfoldjbcnlhipaaDoorW.PrintMore
set_option linter.unusedVariables false
set_option linter.unusedSimpArgs false
def Ev {α : Type} (F : Nat → Option α) (r : α) : Prop := ∃ K, ∀ k, K ≤ k → F k = some r
theorem Ev.mk {α : Type} {F : Nat → Option α} {r : α} (K : Nat) (h : ∀ k, K < k → F k = some r) : Ev F r := ⟨K + 1, fun k hk => h k hk⟩
theorem Ev.get {α : Type} {F : Nat → Option α} {r : α} (h : Ev F r) : ∃ k, F k = some r := by
  obtain ⟨K, h⟩ := h
  exact ⟨K, h K (Nat.le_refl _)⟩
theorem Ev.const {α : Type} {o : Option α} {r : α} (h : o = some r) : Ev (fun _ => o) r := ⟨0, fun _ _ => h⟩
theorem Ev.ret {α : Type} (r : α) : Ev (fun _ => some r) r := ⟨0, fun _ _ => rfl⟩
theorem Ev.bind {α β : Type} {F : Nat → Option α} {G : Nat → α → Option β} {a : α} {b : β} (h1 : Ev F a) (h2 : Ev (fun k => G k a) b) : Ev (fun k => (F k).bind (G k)) b := by
  obtain ⟨K1, h1⟩ := h1
  obtain ⟨K2, h2⟩ := h2
  refine ⟨max K1 K2, fun k hk => ?_⟩
  show (F k).bind (G k) = some b
  rw [h1 k (by omega)]
  exact h2 k (by omega)
theorem Ev.pos {α : Type} {c : Prop} [Decidable c] {A B : Nat → Option α} {r : α} (h : c) (hA : Ev A r) : Ev (fun k => if c then A k else B k) r := by
  obtain ⟨K, hA⟩ := hA
  exact ⟨K, fun k hk => by show (if c then A k else B k) = some r; rw [if_pos h]; exact hA k hk⟩
theorem Ev.neg {α : Type} {c : Prop} [Decidable c] {A B : Nat → Option α} {r : α} (h : ¬ c) (hB : Ev B r) : Ev (fun k => if c then A k else B k) r := by
  obtain ⟨K, hB⟩ := hB
  exact ⟨K, fun k hk => by show (if c then A k else B k) = some r; rw [if_neg h]; exact hB k hk⟩
theorem Ev.ite {α : Type} {c : Prop} [Decidable c] {A B : Nat → Option α} {a b : α} (hA : c → Ev A a) (hB : ¬ c → Ev B b) : Ev (fun k => if c then A k else B k) (if c then a else b) := by
  by_cases h : c
  · rw [if_pos h]; exact Ev.pos h (hA h)
  · rw [if_neg h]; exact Ev.neg h (hB h)
theorem Ev.succ {α : Type} {F : Nat → Option α} {r : α} (h : Ev (fun k => F (k + 1)) r) : Ev F r := by
  obtain ⟨K, h⟩ := h
  refine ⟨K + 1, fun k hk => ?_⟩
  obtain ⟨m, rfl⟩ : ∃ m, k = m + 1 := ⟨k - 1, by omega⟩
  exact h m (by omega)
theorem Ev.to {α : Type} {F : Nat → Option α} {r s : α} (h : Ev F r) (e : r = s) : Ev F s := e ▸ h
theorem wid (x : Int) (h : -9223372036854775808 ≤ x) (h2 : x ≤ 9223372036854775807) : wrap64 x = x := by unfold wrap64; omega
theorem wsucc (i : Nat) (h : i < 9223372036854775807) : wrap64 ((i : Int) + 1) = ((i + 1 : Nat) : Int) := by unfold wrap64; omega
abbrev mkS (l : List UInt8) : ByteArray := ⟨l.toArray⟩
theorem mkS_size (l : List UInt8) : (mkS l).size = l.length := by
  show l.toArray.size = l.length
  simp
theorem mkS_app (a b : List UInt8) : mkS a ++ mkS b = mkS (a ++ b) := by
  apply ByteArray.ext
  rw [ByteArray.data_append]
  simp
theorem toList_inj {a b : ByteArray} (h : a.data.toList = b.data.toList) : a = b := by
  apply ByteArray.ext
  exact Array.toList_inj.mp h
theorem fmt_ev (n : Int) (h0 : -9223372036854775808 ≤ n) (h1 : n ≤ 9223372036854775807) : impl_FormatInt.f n = some (mkS (Go.Lib.itoa n)) := if_pos ⟨h0, h1⟩
end Go.Proofs.YtfoldjbcnlhipaaDoor.A

namespace Go.Proofs.YtfoldjbcnlhipaaDoor.A
open Go.RowKit Go.Proofs.YtfoldjbcnlhipaaDoorW.PrintWords Go.Proofs.YtfoldjbcnlhipaaDoorW.PrintLast Go.Proofs.YtfoldjbcnlhipaaDoorW.PrintMore
set_option linter.unusedVariables false
set_option linter.unusedSimpArgs false
def sp : List UInt8 → List (List UInt8)
  | [] => [[]]
  | b :: l => if b = 32 then [] :: sp l else match sp l with | x :: xs => (b :: x) :: xs | [] => [[b]]
theorem sp_ne (l : List UInt8) : sp l ≠ [] := by
  cases l with
  | nil => simp [sp]
  | cons b l =>
    rw [sp]
    split
    · simp
    · split <;> simp
def gsp (cur rest : List UInt8) : List (List UInt8) := match sp rest with | x :: xs => (cur ++ x) :: xs | [] => [cur]
theorem gsp_nil (rest : List UInt8) : gsp [] rest = sp rest := by
  unfold gsp
  have := sp_ne rest
  split
  · next h => rw [h]; rfl
  · next h => exact absurd h this
theorem gsp_end (cur : List UInt8) : gsp cur [] = [cur] := by simp [gsp, sp]
theorem gsp_space (cur rest : List UInt8) : gsp cur (32 :: rest) = cur :: sp rest := by simp [gsp, sp]
theorem gsp_more (cur rest : List UInt8) (b : UInt8) (h : b ≠ 32) : gsp cur (b :: rest) = gsp (cur ++ [b]) rest := by
  unfold gsp
  rw [sp, if_neg h]
  have := sp_ne rest
  split
  · next x xs e =>
    split at e
    · next y ys e2 =>
      obtain ⟨rfl, rfl⟩ := List.cons.inj e
      simp
    · next e2 => exact absurd e2 this
  · next e =>
    split at e
    · exact absurd e (by simp)
    · exact absurd e (by simp)
theorem splitK_sp : ∀ (l : List UInt8) (k : Nat), l.count 32 ≤ k → Go.Lib.splitK [32] 0 k l = sp l
  | [], k, _ => by
    cases k with
    | zero => rfl
    | succ k => rfl
  | b :: l, k, h => by
    by_cases c : b = 32
    · subst c
      rw [List.count_cons_self] at h
      obtain ⟨k, rfl⟩ : ∃ m, k = m + 1 := ⟨k - 1, by omega⟩
      have hi : Go.Lib.index (32 :: l) [32] = 0 := by simp [Go.Lib.index]
      rw [Go.Lib.splitK, hi, sp, if_pos rfl, if_neg (by decide)]
      have ih := splitK_sp l k (by omega)
      simpa using ih
    · rw [List.count_cons_of_ne (fun e => c e)] at h
      have hidx : Go.Lib.index (b :: l) [32] = if Go.Lib.index l [32] == -1 then -1 else Go.Lib.index l [32] + 1 := by
        have hp : List.isPrefixOf [32] (b :: l) = false := by simp [List.isPrefixOf, Ne.symm c]
        rw [Go.Lib.index, if_neg (by rw [hp]; simp)]
      rw [sp, if_neg c]
      cases k with
      | zero =>
        have ih := splitK_sp l 0 h
        rw [← ih]
        rfl
      | succ k =>
        have ih := splitK_sp l (k + 1) h
        rw [← ih, Go.Lib.splitK, Go.Lib.splitK, hidx]
        by_cases d : Go.Lib.index l [32] = -1
        · rw [d]
          rfl
        · have hg := Go.Lib.index_ge l [32]
          obtain ⟨j, hj⟩ : ∃ j : Nat, Go.Lib.index l [32] = j := ⟨(Go.Lib.index l [32]).toNat, by omega⟩
          rw [hj]
          have e1 : (((j : Int) == -1)) = false := by rw [beq_eq_false_iff_ne]; omega
          rw [e1]
          simp only [Bool.false_eq_true, if_false]
          have e2 : (((j : Int) + 1 == -1)) = false := by rw [beq_eq_false_iff_ne]; omega
          rw [e2]
          simp only [Bool.false_eq_true, if_false, Nat.add_zero]
          rw [show ((j : Int) + 1).toNat = j + 1 by omega, Int.toNat_natCast]
          simp
theorem extract_mk (s : ByteArray) (a b : Nat) : s.extract a b = mkS ((s.data.toList.take b).drop a) := by
  apply toList_inj
  show (s.extract a b).data.toList = _
  rw [ByteArray.data_extract, Array.toList_extract]
  simp [List.extract, List.drop_take]
theorem pieces_sp (s : ByteArray) : pieces s ⟨#[32]⟩ = (sp s.data.toList).map mkS := by
  have h1 : (pieces s ⟨#[32]⟩).map (·.data.toList) = sp s.data.toList := by
    unfold pieces
    rw [Go.Lib.splitB_data]
    refine splitK_sp _ _ ?_
    show _ ≤ Go.Lib.count s.data.toList [32]
    rw [Go.Lib.count_one]
    exact Nat.le_refl _
  rw [← h1, List.map_map]
  have e : (mkS ∘ fun x : ByteArray => x.data.toList) = id := by
    funext x
    rfl
  rw [e, List.map_id]
end Go.Proofs.YtfoldjbcnlhipaaDoor.A

namespace Go.Proofs.YtfoldjbcnlhipaaDoor.A
open Go.RowKit Go.Proofs.YtfoldjbcnlhipaaDoorW.PrintWords Go.Proofs.YtfoldjbcnlhipaaDoorW.PrintLast Go.Proofs.YtfoldjbcnlhipaaDoorW.PrintMore
set_option linter.unusedVariables false
set_option linter.unusedSimpArgs false
def good (b : UInt8) : Bool := decide (32 ≤ b.toNat) && decide (b.toNat ≤ 126)
def ne8 (l : List UInt8) : Bool := !l.isEmpty
def finF (fs : List ByteArray) : List ByteArray × Bool := if (fs.length : Int) > 24 then ([], false) else (fs, true)
def fieldsP (l : List UInt8) : List ByteArray × Bool := if 600 < l.length then ([], false) else if l.all good = true then finF (((sp l).filter ne8).map mkS) else ([], false)
theorem good_iff (b : UInt8) : good b = true ↔ ¬ (b.toNat : Int) < 32 ∧ ¬ (b.toNat : Int) > 126 := by
  unfold good
  rw [Bool.and_eq_true, decide_eq_true_iff, decide_eq_true_iff]
  omega
theorem bt_get (s : ByteArray) (i : Nat) (h : i < s.data.toList.length) : bt s (i : Int) = (s.data.toList[i]).toNat := by
  rw [data_length] at h
  rw [← bt_at s (i : Int) (by omega)]
  rfl
theorem cut_end {l : List UInt8} {b i : Nat} (h1 : b ≤ i) (h2 : i ≤ l.length) : ((l.take i).drop b).length = i - b := by
  rw [List.length_drop, List.length_take]
  omega
theorem cut_more {l : List UInt8} {b i : Nat} (h1 : b ≤ i) (h2 : i < l.length) : (l.take (i + 1)).drop b = (l.take i).drop b ++ [l[i]] := by
  rw [List.take_succ_eq_append_getElem h2, List.drop_append_of_le_length (by rw [List.length_take]; omega)]
theorem cut_none {l : List UInt8} {i : Nat} : (l.take i).drop i = [] := List.drop_eq_nil_of_le (by rw [List.length_take]; omega)
theorem ne8_cut {l : List UInt8} {b i : Nat} (h1 : b ≤ i) (h2 : i ≤ l.length) : ne8 ((l.take i).drop b) = decide (b < i) := by
  have h := cut_end h1 h2
  unfold ne8
  by_cases c : b < i
  · rw [decide_eq_true c]
    have : ((l.take i).drop b) ≠ [] := fun e => by rw [e] at h; simp at h; omega
    simp [this]
  · have : ((l.take i).drop b) = [] := List.eq_nil_of_length_eq_zero (by omega)
    rw [decide_eq_false c, this]
    rfl
theorem filter_cons8 (a : List UInt8) (l : List (List UInt8)) (b : Bool) (h : ne8 a = b) : (a :: l).filter ne8 = if b = true then a :: l.filter ne8 else l.filter ne8 := by
  rw [List.filter_cons, h]
theorem spS_loop (s : ByteArray) (hs : s.size ≤ 600) : ∀ (rest : List UInt8) (i b : Nat) (out : List ByteArray), s.data.toList.drop i = rest → i ≤ s.size → b ≤ i → out.length ≤ i →
    Ev (fun k => spec_SplitFields.l0 k s out (b : Int) (i : Int)) (if rest.all good = true then finF (out ++ ((gsp ((s.data.toList.take i).drop b) rest).filter ne8).map mkS) else ([], false))
  | [], i, b, out, hd, hi, hb, ho => by
    have hl := data_length s
    have he : i = s.size := by have := List.drop_eq_nil_iff.mp hd; omega
    have hfin : ∀ (o : List ByteArray) (b' : Int), Ev (fun k => spec_SplitFields.l0 k s o b' (((i + 1 : Nat)) : Int)) (finF o) := by
      intro o b'
      refine Ev.succ ?_
      simp only [spec_SplitFields.l0]
      refine Ev.neg (by omega) ?_
      unfold finF
      exact Ev.ite (fun _ => Ev.ret _) (fun _ => Ev.ret _)
    rw [List.all_nil, if_pos rfl, gsp_end, filter_cons8 _ _ _ (ne8_cut hb (by omega)), List.filter_nil]
    refine Ev.succ ?_
    simp only [spec_SplitFields.l0]
    refine Ev.pos (by omega) (Ev.neg (by omega) (Ev.succ ?_))
    simp only [spec_SplitFields.j1]
    refine Ev.neg (by simp) (Ev.neg (by omega) (Ev.succ ?_))
    simp only [spec_SplitFields.j2]
    refine Ev.neg (by simp) ?_
    rw [wsucc i (by omega)]
    by_cases c : b < i
    · rw [decide_eq_true c, if_pos rfl]
      refine Ev.pos (by omega) (Ev.pos (by omega) (Ev.pos (by omega) (Ev.pos (by omega) (Ev.pos (by omega) ?_))))
      rw [extract_mk, Int.toNat_natCast, Int.toNat_natCast]
      exact hfin _ _
    · rw [decide_eq_false c, if_neg (by simp)]
      refine Ev.neg (by omega) ?_
      rw [List.map_nil, List.append_nil]
      exact hfin _ _
  | c :: rest, i, b, out, hd, hi, hb, ho => by
    have hl := data_length s
    have hlt : i < s.data.toList.length := by
      rcases Nat.lt_or_ge i s.data.toList.length with h | h
      · exact h
      · rw [List.drop_eq_nil_of_le h] at hd; simp at hd
    rw [List.drop_eq_getElem_cons hlt] at hd
    obtain ⟨e1, e2⟩ := List.cons.inj hd
    have hbt := bt_get s i hlt
    rw [e1] at hbt
    have hg := good_iff c
    rw [List.all_cons]
    refine Ev.succ ?_
    simp only [spec_SplitFields.l0]
    rw [hbt]
    refine Ev.pos (by omega) (Ev.pos (by omega) (Ev.pos (by omega) ?_))
    by_cases c1 : (c.toNat : Int) < 32
    · rw [show good c = false by rw [Bool.eq_false_iff, Ne, hg]; exact fun h => h.1 c1, Bool.false_and, if_neg (by simp)]
      refine Ev.pos c1 (Ev.succ ?_)
      simp only [spec_SplitFields.j1]
      exact Ev.pos trivial (Ev.ret _)
    · refine Ev.neg c1 (Ev.succ ?_)
      simp only [spec_SplitFields.j1]
      by_cases c2 : (c.toNat : Int) > 126
      · rw [show good c = false by rw [Bool.eq_false_iff, Ne, hg]; exact fun h => h.2 c2, Bool.false_and, if_neg (by simp)]
        exact Ev.pos (decide_eq_true c2) (Ev.ret _)
      · rw [show good c = true from hg.mpr ⟨c1, c2⟩, Bool.true_and]
        refine Ev.neg (by simpa using c2) (Ev.pos (by omega) (Ev.pos (by omega) (Ev.succ ?_)))
        simp only [spec_SplitFields.j2]
        rw [hbt, wsucc i (by omega)]
        by_cases c3 : c = 32
        · subst c3
          refine Ev.neg (by decide) ?_
          have ih := fun o ho' => spS_loop s hs rest (i + 1) (i + 1) o e2 (by omega) (by omega) ho'
          rw [gsp_space, filter_cons8 _ _ _ (ne8_cut hb (by omega))]
          simp only [cut_none, gsp_nil] at ih
          by_cases c4 : b < i
          · rw [decide_eq_true c4, if_pos rfl]
            refine Ev.pos (by omega) (Ev.pos (by omega) (Ev.pos (by omega) (Ev.pos (by omega) (Ev.pos (by omega) ?_))))
            rw [extract_mk, Int.toNat_natCast, Int.toNat_natCast]
            refine (ih (out ++ [mkS ((s.data.toList.take i).drop b)]) (by simp; omega)).to ?_
            rw [List.map_cons, List.append_assoc]
            rfl
          · rw [decide_eq_false c4]
            refine Ev.neg (by omega) ((ih out (by omega)).to ?_)
            rfl
        · have hne : ((c.toNat : Int) != 32) = true := by
            rw [bne_iff_ne]
            intro h
            exact c3 (UInt8.toNat_inj.mp (by show c.toNat = 32; omega))
          rw [hne]
          refine Ev.pos rfl ?_
          refine (spS_loop s hs rest (i + 1) b out e2 (by omega) (by omega) (by omega)).to ?_
          rw [gsp_more _ _ _ c3, cut_more hb hlt, e1]
theorem spS_ev (s : ByteArray) : Ev (fun k => spec_SplitFields.f k s) (fieldsP s.data.toList) := by
  have hl := data_length s
  unfold spec_SplitFields.f fieldsP
  refine Ev.bind (Ev.const rfl) ?_
  by_cases c : (s.size : Int) > 600
  · rw [if_pos (by omega)]
    exact Ev.pos c (Ev.ret _)
  · rw [if_neg (by omega)]
    refine Ev.neg c ((spS_loop s (by omega) s.data.toList 0 0 [] rfl (by omega) (by omega) (by simp)).to ?_)
    rw [List.take_zero, List.drop_zero, gsp_nil, List.nil_append]
theorem spI_out (ps : List ByteArray) (hp : ps.length ≤ 1000) : ∀ (rest : List ByteArray) (i : Nat) (out : List ByteArray), ps.drop i = rest → i ≤ ps.length → out.length ≤ i →
    Ev (fun k => impl_SplitFields.l1 k out ps (ps.length : Int) (i : Int)) (finF (out ++ rest.filter (fun x => ne8 x.data.toList)))
  | [], i, out, hd, hi, ho => by
    have he : i = ps.length := by have := List.drop_eq_nil_iff.mp hd; omega
    refine Ev.succ ?_
    simp only [impl_SplitFields.l1]
    refine Ev.neg (by omega) ?_
    rw [List.filter_nil, List.append_nil]
    unfold finF
    exact Ev.ite (fun _ => Ev.ret _) (fun _ => Ev.ret _)
  | x :: rest, i, out, hd, hi, ho => by
    have hlt : i < ps.length := by
      rcases Nat.lt_or_ge i ps.length with h | h
      · exact h
      · rw [List.drop_eq_nil_of_le h] at hd; simp at hd
    rw [List.drop_eq_getElem_cons hlt] at hd
    obtain ⟨e1, e2⟩ := List.cons.inj hd
    have er : rdOf ByteArray.empty ps (i : Int) = x := by
      unfold rdOf
      rw [Int.toNat_natCast, List.getD_eq_getElem?_getD, List.getElem?_eq_getElem hlt, ← e1]
      rfl
    refine Ev.succ ?_
    simp only [impl_SplitFields.l1]
    rw [er, wsucc i (by omega), ByteArray.toList_eq]
    refine Ev.pos (by omega) (Ev.pos (by omega) (Ev.pos (by omega) ?_))
    rw [List.filter_cons]
    by_cases c : x.data.toList = []
    · rw [show ne8 x.data.toList = false by rw [c]; rfl, if_neg (by simp)]
      exact Ev.pos c (spI_out ps hp rest (i + 1) out e2 (by omega) (by omega))
    · have hn : ne8 x.data.toList = true := by
        unfold ne8
        cases hx : x.data.toList with
        | nil => exact absurd hx c
        | cons _ _ => rfl
      rw [hn, if_pos rfl]
      refine Ev.neg c (Ev.pos (by omega) ((spI_out ps hp rest (i + 1) (out ++ [x]) e2 (by omega) (by simp; omega)).to ?_))
      rw [List.append_assoc]
      rfl
theorem sp_len (l : List UInt8) : (sp l).length ≤ l.length + 1 := by
  induction l with
  | nil => simp [sp]
  | cons b l ih =>
    rw [sp]
    split
    · simp; omega
    · split
      · next e => rw [e] at ih; simp at ih ⊢; omega
      · simp
theorem split_ev (s : ByteArray) (hs : s.size ≤ 600) : strings_Split.f s (⟨#[32]⟩ : ByteArray) = some ((sp s.data.toList).map mkS) := by
  unfold strings_Split.f
  rw [if_pos ⟨by omega, by decide, by unfold pieces; exact Go.Lib.splitB_all _ (by decide) 0 _ s rfl⟩, pieces_sp]
theorem filter_mkS (l : List (List UInt8)) : (l.map mkS).filter (fun x => ne8 x.data.toList) = (l.filter ne8).map mkS := by
  induction l with
  | nil => rfl
  | cons a l ih =>
    rw [List.map_cons, List.filter_cons, List.filter_cons]
    show (if ne8 a = true then _ else _) = _
    split
    · rw [ih]; rfl
    · exact ih
theorem spI_loop (s : ByteArray) (hs : s.size ≤ 600) : ∀ (rest : List UInt8) (i : Nat), s.data.toList.drop i = rest → i ≤ s.size →
    Ev (fun k => impl_SplitFields.l0 k s (i : Int)) (if rest.all good = true then finF (((sp s.data.toList).filter ne8).map mkS) else ([], false))
  | [], i, hd, hi => by
    have hl := data_length s
    have he : i = s.size := by have := List.drop_eq_nil_iff.mp hd; omega
    have hp := sp_len s.data.toList
    rw [List.all_nil, if_pos rfl]
    refine Ev.succ ?_
    simp only [impl_SplitFields.l0]
    refine Ev.neg (by omega) (Ev.bind (Ev.const (split_ev s hs)) ?_)
    refine (spI_out _ (by rw [List.length_map]; omega) _ 0 [] rfl (by omega) (by simp)).to ?_
    rw [List.nil_append, List.drop_zero, filter_mkS]
  | c :: rest, i, hd, hi => by
    have hl := data_length s
    have hlt : i < s.data.toList.length := by
      rcases Nat.lt_or_ge i s.data.toList.length with h | h
      · exact h
      · rw [List.drop_eq_nil_of_le h] at hd; simp at hd
    rw [List.drop_eq_getElem_cons hlt] at hd
    obtain ⟨e1, e2⟩ := List.cons.inj hd
    have hbt := bt_get s i hlt
    rw [e1] at hbt
    have hg := good_iff c
    rw [List.all_cons]
    refine Ev.succ ?_
    simp only [impl_SplitFields.l0]
    rw [hbt, wsucc i (by omega)]
    refine Ev.pos (by omega) (Ev.pos (by omega) ?_)
    by_cases c1 : (c.toNat : Int) < 32
    · rw [show good c = false by rw [Bool.eq_false_iff, Ne, hg]; exact fun h => h.1 c1, Bool.false_and, if_neg (by simp)]
      exact Ev.pos c1 (Ev.ret _)
    · refine Ev.neg c1 ?_
      by_cases c2 : (c.toNat : Int) > 126
      · rw [show good c = false by rw [Bool.eq_false_iff, Ne, hg]; exact fun h => h.2 c2, Bool.false_and, if_neg (by simp)]
        exact Ev.pos c2 (Ev.ret _)
      · rw [show good c = true from hg.mpr ⟨c1, c2⟩, Bool.true_and]
        exact Ev.neg c2 (spI_loop s hs rest (i + 1) e2 (by omega))
theorem spI_ev (s : ByteArray) : Ev (fun k => impl_SplitFields.f k s) (fieldsP s.data.toList) := by
  have hl := data_length s
  unfold impl_SplitFields.f fieldsP
  by_cases c : (s.size : Int) > 600
  · rw [if_pos (by omega)]
    exact Ev.pos c (Ev.ret _)
  · rw [if_neg (by omega)]
    exact Ev.neg c (spI_loop s (by omega) s.data.toList 0 rfl (by omega))
end Go.Proofs.YtfoldjbcnlhipaaDoor.A

namespace Go.Proofs.YtfoldjbcnlhipaaDoor.A
open Go.RowKit Go.Proofs.YtfoldjbcnlhipaaDoorW.PrintWords Go.Proofs.YtfoldjbcnlhipaaDoorW.PrintLast Go.Proofs.YtfoldjbcnlhipaaDoorW.PrintMore
set_option linter.unusedVariables false
set_option linter.unusedSimpArgs false
theorem and255 (n : Int) : Go.bits .and .i64 n 255 = n % 256 := by
  have h255 : (BitVec.ofInt 64 255).toNat = 2 ^ 8 - 1 := by decide
  have key : (BitVec.ofInt 64 n &&& BitVec.ofInt 64 255).toNat = (n % ((2 ^ 64 : Nat) : Int)).toNat % 2 ^ 8 := by
    rw [BitVec.toNat_and, BitVec.toNat_ofInt, h255, Nat.and_two_pow_sub_one_eq_mod]
  show IntKind.i64.wrap ((BitVec.ofInt 64 n &&& BitVec.ofInt 64 255).toNat : Nat) = n % 256
  rw [key, IntKind.wrap_i64]
  omega
theorem new_loop (l : List Int) (hl : l.length ≤ 140737488351232) (d : Nat) : ∀ (k : Nat) (h i : Int), 0 ≤ i → (l.length : Int) - i ≤ d → d < k → ∃ h', spec_l01New.l0 k l h i = some (l, 0, h') := by
  induction d with
  | zero =>
    intro k h i h0 hd hk
    obtain ⟨k, rfl⟩ : ∃ m, k = m + 1 := ⟨k - 1, by omega⟩
    simp only [spec_l01New.l0]
    rw [if_neg (by omega)]
    exact ⟨_, rfl⟩
  | succ d ih =>
    intro k h i h0 hd hk
    obtain ⟨k, rfl⟩ : ∃ m, k = m + 1 := ⟨k - 1, by omega⟩
    simp only [spec_l01New.l0]
    by_cases h1 : i < (l.length : Int)
    · rw [if_pos h1]
      by_cases h2 : i < 4000
      · rw [if_pos h2, if_pos h0]
        have e : wrap64 (i + 1) = i + 1 := by unfold wrap64; omega
        rw [e]
        exact ih k _ _ (by omega) (by omega) (by omega)
      · rw [if_neg h2]
        exact ⟨_, rfl⟩
    · rw [if_neg h1]
      exact ⟨_, rfl⟩
theorem new_some (l : List Int) (hl : l.length ≤ 140737488351232) (k : Nat) (hk : l.length < k) : ∃ h', spec_l01New.f k l = some (l, 0, h') :=
  new_loop l hl l.length k _ 0 (by omega) (by omega) hk
theorem byte_some (l : List Int) (hl : l.length ≤ 140737488351232) (i h : Int) (hi : 0 ≤ i) : ∃ v i' h', spec_l01Byte.f l i h = some (v, i', h') ∧ 0 ≤ v ∧ v ≤ 255 ∧ 0 ≤ i' := by
  unfold spec_l01Byte.f
  simp only [and255]
  by_cases h1 : i < (l.length : Int)
  · rw [if_pos h1, if_pos hi]
    have e : wrap64 (i + 1) = i + 1 := by unfold wrap64; omega
    rw [e]
    exact ⟨_, _, _, rfl, by omega, by omega, by omega⟩
  · rw [if_neg h1]
    exact ⟨_, _, _, rfl, by omega, by omega, by omega⟩
theorem tmod_in (x n : Int) (hx : 0 ≤ x) (hn : 0 < n) : 0 ≤ Int.tmod x n ∧ Int.tmod x n < n :=
  ⟨Int.tmod_nonneg n hx, Int.tmod_lt_of_pos x hn⟩
theorem below_some (l : List Int) (hl : l.length ≤ 140737488351232) (i h n : Int) (hi : 0 ≤ i) : ∃ v i' h', spec_l01Below.f l i h n = some (v, i', h') ∧ 0 ≤ v ∧ (n ≤ 0 → v = 0) ∧ (0 < n → v < n) ∧ 0 ≤ i' := by
  unfold spec_l01Below.f
  by_cases h0 : n ≤ 0
  · rw [if_pos h0]
    exact ⟨_, _, _, rfl, by omega, fun _ => rfl, fun _ => by omega, hi⟩
  · rw [if_neg h0]
    have hne : ¬ n = 0 := by omega
    by_cases h1 : n ≤ 256
    · rw [if_pos h1]
      obtain ⟨v, i1, x1, e1, a1, b1, c1⟩ := byte_some l hl i h hi
      rw [e1]
      simp only [Option.bind_some]
      rw [if_neg hne]
      exact ⟨_, _, _, rfl, (tmod_in v n a1 (by omega)).1, fun _ => by omega, fun _ => (tmod_in v n a1 (by omega)).2, c1⟩
    · rw [if_neg h1]
      obtain ⟨v1, i1, x1, e1, a1, b1, c1⟩ := byte_some l hl i h hi
      rw [e1]
      simp only [Option.bind_some]
      obtain ⟨v2, i2, x2, e2, a2, b2, c2⟩ := byte_some l hl i1 x1 c1
      rw [e2]
      simp only [Option.bind_some]
      obtain ⟨v3, i3, x3, e3, a3, b3, c3⟩ := byte_some l hl i2 x2 c2
      rw [e3]
      simp only [Option.bind_some]
      obtain ⟨v4, i4, x4, e4, a4, b4, c4⟩ := byte_some l hl i3 x3 c3
      rw [e4]
      simp only [Option.bind_some]
      rw [if_neg hne]
      have w : wrap64 ((wrap64 ((wrap64 ((wrap64 (v1 * 16777216)) + (wrap64 (v2 * 65536)))) + (wrap64 (v3 * 256)))) + v4) = v1 * 16777216 + v2 * 65536 + v3 * 256 + v4 := by
        unfold wrap64; omega
      rw [w]
      exact ⟨_, _, _, rfl, (tmod_in _ n (by omega) (by omega)).1, fun _ => by omega, fun _ => (tmod_in _ n (by omega) (by omega)).2, c4⟩
theorem once_some (l : List Int) (hl : l.length ≤ 140737488351232) (i h n : Int) (hi : 0 ≤ i) : ∃ (b : Bool) (i' h' : Int), spec_l01Once.f l i h n = some (b, i', h') ∧ 0 ≤ i' := by
  obtain ⟨v, i1, x1, e1, _, _, _, c1⟩ := below_some l hl i h n hi
  unfold spec_l01Once.f
  rw [e1]
  exact ⟨_, _, _, rfl, c1⟩
theorem Ev.of_mono {α : Type} {F : Nat → Option α} {r : α} (hm : ∀ k, LeO (F k) (F (k + 1))) {k0 : Nat} (h : F k0 = some r) : Ev F r := by
  refine ⟨k0, fun k hk => ?_⟩
  obtain ⟨d, rfl⟩ : ∃ d, k = k0 + d := ⟨k - k0, by omega⟩
  clear hk
  induction d with
  | zero => exact h
  | succ d ih => exact hm _ _ ih
theorem strOfNums_size (l : List Int) : (strOfNums l).size = l.length := by
  unfold strOfNums
  show (List.toArray _).size = _
  simp
theorem long_ev (n v : Int) (hn : n ≤ 100000) : ∀ (d : Nat) (i : Int) (l : List Int), 0 ≤ i → (n - i).toNat = d → (l.length : Int) = n → Ev (fun k => spec_l01Long.l0 k n v l i) (strOfNums ((List.range d).foldl (fun a j => a.set (i.toNat + j) v) l))
  | 0, i, l, h0, hd, hl => by
    refine Ev.succ ?_
    simp only [spec_l01Long.l0]
    exact Ev.neg (by omega) (Ev.ret _)
  | d + 1, i, l, h0, hd, hl => by
    refine Ev.succ ?_
    simp only [spec_l01Long.l0]
    rw [wid (i + 1) (by omega) (by omega)]
    refine Ev.pos (by omega) (Ev.pos (by omega) (Ev.pos (by omega) ?_))
    refine (long_ev n v hn d (i + 1) (l.set i.toNat v) (by omega) (by omega) (by rw [List.length_set]; exact hl)).to ?_
    rw [List.range_succ_eq_map, List.foldl_cons, List.foldl_map, Nat.add_zero]
    congr 2
    funext a j
    congr 1
    omega
theorem long_some (n v : Int) (h0 : 0 ≤ n) (hn : n ≤ 100000) : ∃ s, Ev (fun k => spec_l01Long.f k n v) s ∧ (s.size : Int) = n := by
  have h := long_ev n v hn n.toNat 0 (List.replicate n.toNat 0) (by omega) (by omega) (by simp; omega)
  generalize hg : strOfNums (List.foldl (fun a j => a.set (Int.toNat 0 + j) v) (List.replicate n.toNat 0) (List.range n.toNat)) = s at h
  have hf : Ev (fun k => spec_l01Long.f k n v) s := by
    unfold spec_l01Long.f
    exact Ev.pos h0 (Ev.pos (by omega) h)
  refine ⟨s, hf, ?_⟩
  rw [← hg]
  · rw [strOfNums_size]
    have : ∀ (L : List Nat) (l : List Int), (L.foldl (fun a j => a.set ((0 : Int).toNat + j) v) l).length = l.length := by
      intro L
      induction L with
      | nil => intro l; rfl
      | cons x L ih => intro l; rw [List.foldl_cons, ih, List.length_set]
    rw [this, List.length_replicate]
    omega
theorem pick_some (l : List Int) (hl : l.length ≤ 140737488351232) (i h : Int) (xs : List ByteArray) (hx : 0 < xs.length) (hx2 : xs.length ≤ 100) (hi : 0 ≤ i) : ∃ v i' h', spec_l01Pick.f l i h xs = some (v, i', h') ∧ v ∈ xs ∧ 0 ≤ i' := by
  obtain ⟨v, i1, x1, e1, a1, _, b1, c1⟩ := below_some l hl i h (xs.length : Int) hi
  unfold spec_l01Pick.f
  rw [e1]
  simp only [Option.bind_some]
  have b2 := b1 (by omega)
  rw [if_pos a1, if_pos b2]
  refine ⟨_, _, _, rfl, ?_, c1⟩
  unfold rdOf
  have hlt : v.toNat < xs.length := by omega
  rw [List.getD_eq_getElem?_getD, List.getElem?_eq_getElem hlt]
  exact List.getElem_mem _
theorem one_size (x : Int) : (strOfNums [x]).size = 1 := strOfNums_size _
theorem dl1 (l : List Int) (hl : l.length ≤ 140737488351232) (n : Int) (j M : Nat) (hM : M ≤ 1000) (hj : j ≤ 1000) (next : ∀ (x : ByteArray) (i h : Int), 0 ≤ i → x.size ≤ M → ∃ r, Ev (fun k => spec_DrawSplitFields.l0 k n x ((j + 1 : Nat) : Int) l i h) r ∧ r.size ≤ 2000) :
    ∀ (d : Nat) (c : Int) (x : ByteArray) (i h : Int), c + d = 5 → 0 ≤ c → x.size + d ≤ M → 0 ≤ i → ∃ r, Ev (fun k => spec_DrawSplitFields.l1 k n x (j : Int) c l i h) r ∧ r.size ≤ 2000
  | d, c, x, i, h, hc, h0, hx, hi => by
    obtain ⟨v, i1, x1, e1, v0, _, v1, c1⟩ := below_some l hl i h 5 hi
    have v2 := v1 (by omega)
    by_cases hv : c ≤ v
    · obtain ⟨d, rfl⟩ : ∃ m, d = m + 1 := ⟨d - 1, by omega⟩
      obtain ⟨u, i2, x2, e2, _, _, _, c2⟩ := below_some l hl i1 x1 94 c1
      obtain ⟨r, e, hr⟩ := dl1 l hl n j M hM hj next d (c + 1) (x ++ strOfNums [(wrap64 (33 + u)) % 256]) i2 x2 (by omega) (by omega) (by rw [ByteArray.size_append, one_size]; omega) c2
      refine ⟨r, Ev.succ ?_, hr⟩
      simp only [spec_DrawSplitFields.l1]
      rw [wid (c + 1) (by omega) (by omega)]
      exact Ev.bind (Ev.const e1) (Ev.pos hv (Ev.bind (Ev.const e2) (Ev.bind (Ev.const rfl) (Ev.pos (by rw [one_size]; omega) e))))
    · obtain ⟨r, e, hr⟩ := next x i1 x1 c1 (by omega)
      refine ⟨r, Ev.succ ?_, hr⟩
      simp only [spec_DrawSplitFields.l1]
      rw [wsucc j (by omega)]
      exact Ev.bind (Ev.const e1) (Ev.neg hv e)
theorem dl0 (l : List Int) (hl : l.length ≤ 140737488351232) (n : Nat) (hn : n ≤ 30) : ∀ (d j : Nat) (x : ByteArray) (i h : Int), j + d = n → x.size ≤ 10 * j → 0 ≤ i → ∃ r, Ev (fun k => spec_DrawSplitFields.l0 k (n : Int) x (j : Int) l i h) r ∧ r.size ≤ 2000
  | 0, j, x, i, h, hj, hx, hi => by
    obtain ⟨v, i1, x1, e1, _, _, _, c1⟩ := below_some l hl i h 12 hi
    by_cases v0 : v = 0
    · obtain ⟨u, i2, x2, e2, hm, c2⟩ := pick_some l hl i1 x1 [(⟨#[32]⟩ : ByteArray), (⟨#[32, 32]⟩ : ByteArray), (⟨#[9]⟩ : ByteArray), (⟨#[10]⟩ : ByteArray), (⟨#[127]⟩ : ByteArray), (⟨#[233]⟩ : ByteArray)] (by simp) (by simp) c1
      have hu : u.size ≤ 2 := by
        simp only [List.mem_cons, List.mem_nil_iff, or_false] at hm
        rcases hm with rfl | rfl | rfl | rfl | rfl | rfl <;> decide
      refine ⟨x ++ u, Ev.succ ?_, by rw [ByteArray.size_append]; omega⟩
      simp only [spec_DrawSplitFields.l0]
      exact Ev.neg (by omega) (Ev.bind (Ev.const e1) (Ev.pos v0 (Ev.bind (Ev.const e2) (Ev.pos (show x.size + u.size ≤ 9223372036854775807 by omega) (Ev.ret _)))))
    · by_cases v1 : v = 1
      · by_cases hz : (x.size : Int) < 600
        · obtain ⟨u, i2, x2, e2, u0, _, u1, c2⟩ := below_some l hl i1 x1 2 c1
          have u2 := u1 (by omega)
          obtain ⟨s, e3, hs⟩ := long_some (600 - (x.size : Int) + u) 32 (by omega) (by omega)
          refine ⟨x ++ s, Ev.succ ?_, by rw [ByteArray.size_append]; omega⟩
          simp only [spec_DrawSplitFields.l0]
          rw [wid (600 - (x.size : Int)) (by omega) (by omega)]
          refine Ev.neg (by omega) (Ev.bind (Ev.const e1) (Ev.neg v0 (Ev.pos v1 (Ev.pos hz (Ev.bind (Ev.const e2) ?_)))))
          rw [wid (600 - (x.size : Int) + u) (by omega) (by omega)]
          exact Ev.bind e3 (Ev.pos (by omega) (Ev.ret _))
        · refine ⟨x, Ev.succ ?_, by omega⟩
          simp only [spec_DrawSplitFields.l0]
          exact Ev.neg (by omega) (Ev.bind (Ev.const e1) (Ev.neg v0 (Ev.pos v1 (Ev.neg hz (Ev.ret _)))))
      · refine ⟨x, Ev.succ ?_, by omega⟩
        simp only [spec_DrawSplitFields.l0]
        exact Ev.neg (by omega) (Ev.bind (Ev.const e1) (Ev.neg v0 (Ev.neg v1 (Ev.ret _))))
  | d + 1, j, x, i, h, hj, hx, hi => by
    have key3 : ∀ (y : ByteArray) (i h : Int), 0 ≤ i → y.size ≤ 10 * j + 5 → ∃ r, Ev (fun k => spec_DrawSplitFields.j3 k (n : Int) y (j : Int) l i h) r ∧ r.size ≤ 2000 := by
      intro y i h hi hy
      obtain ⟨r, e, hr⟩ := dl1 l hl n j (10 * (j + 1)) (by omega) (by omega) (fun z i' h' hi' hz => dl0 l hl n hn d (j + 1) z i' h' (by omega) hz hi') 5 0 y i h (by omega) (by omega) (by omega) hi
      refine ⟨r, Ev.succ ?_, hr⟩
      simp only [spec_DrawSplitFields.j3]
      exact e
    have key2 : ∀ (b : Bool) (i h : Int), 0 ≤ i → ∃ r, Ev (fun k => spec_DrawSplitFields.j2 k (n : Int) x (j : Int) b l i h) r ∧ r.size ≤ 2000 := by
      intro b i h hi
      cases b with
      | true =>
        obtain ⟨u, i1, x1, e1, u0, _, u1, c1⟩ := below_some l hl i h 2 hi
        obtain ⟨v, i2, x2, e2, v0, _, v1, c2⟩ := below_some l hl i1 x1 3 c1
        have u2 := u1 (by omega)
        have v2 := v1 (by omega)
        have p0 : 0 ≤ u * v := Int.mul_nonneg u0 v0
        have p1 : u * v ≤ 1 * 2 := Int.mul_le_mul (by omega) (by omega) v0 (by omega)
        obtain ⟨s, e3, hs⟩ := long_some (1 + u * v) 32 (by omega) (by omega)
        have hs2 : s.size ≤ 3 := by omega
        obtain ⟨r, e4, hr⟩ := key3 (x ++ s) i2 x2 c2 (by rw [ByteArray.size_append]; omega)
        refine ⟨r, Ev.succ ?_, hr⟩
        simp only [spec_DrawSplitFields.j2]
        refine Ev.pos trivial (Ev.bind (Ev.const e1) (Ev.bind (Ev.const e2) ?_))
        rw [wid (u * v) (by omega) (by omega), wid (1 + u * v) (by omega) (by omega)]
        exact Ev.bind e3 (Ev.pos (by omega) e4)
      | false =>
        obtain ⟨r, e4, hr⟩ := key3 x i h hi (by omega)
        refine ⟨r, Ev.succ ?_, hr⟩
        simp only [spec_DrawSplitFields.j2]
        exact Ev.neg (by simp) e4
    by_cases c : (j : Int) > 0
    · obtain ⟨r, e, hr⟩ := key2 true i h hi
      refine ⟨r, Ev.succ ?_, hr⟩
      simp only [spec_DrawSplitFields.l0]
      exact Ev.pos (by omega) (Ev.pos c e)
    · obtain ⟨b, i1, x1, e1, c1⟩ := once_some l hl i h 5 hi
      obtain ⟨r, e, hr⟩ := key2 b i1 x1 c1
      refine ⟨r, Ev.succ ?_, hr⟩
      simp only [spec_DrawSplitFields.l0]
      exact Ev.pos (by omega) (Ev.neg c (Ev.bind (Ev.const e1) e))
theorem draw_line (l : List Int) (hl : l.length ≤ 140737488351232) : ∃ s, Ev (fun k => spec_DrawSplitFields.f k l) s ∧ s.size ≤ 2000 := by
  unfold spec_DrawSplitFields.f
  obtain ⟨x0, e0⟩ := new_some l hl (l.length + 1) (by omega)
  have e0' := Ev.of_mono (fun k => spec_l01New.mono l k) e0
  obtain ⟨v, i1, x1, e1, v0, _, v1, c1⟩ := below_some l hl 0 x0 9 (by omega)
  have v2 := v1 (by omega)
  obtain ⟨b, i2, x2, e2, c2⟩ := once_some l hl i1 x1 15 c1
  have j0 : ∀ (n : Nat) (i h : Int), n ≤ 30 → 0 ≤ i → ∃ r, Ev (fun k => spec_DrawSplitFields.j0 k (n : Int) l i h) r ∧ r.size ≤ 2000 := by
    intro n i h hn hi
    obtain ⟨r, e, hr⟩ := dl0 l hl n hn n 0 ⟨#[]⟩ i h (by omega) (by decide) hi
    refine ⟨r, Ev.succ ?_, hr⟩
    simp only [spec_DrawSplitFields.j0]
    exact e
  by_cases c : b = true
  · obtain ⟨u, i3, x3, e3, u0, _, u1, c3⟩ := below_some l hl i2 x2 2 c2
    have u2 := u1 (by omega)
    obtain ⟨r, e, hr⟩ := j0 (24 + u).toNat i3 x3 (by omega) c3
    refine ⟨r, Ev.bind e0' (Ev.bind (Ev.const e1) (Ev.bind (Ev.const e2) (Ev.pos c (Ev.bind (Ev.const e3) ?_)))), hr⟩
    rw [wid (24 + u) (by omega) (by omega)]
    rw [Int.toNat_of_nonneg (by omega)] at e
    exact e
  · obtain ⟨r, e, hr⟩ := j0 v.toNat i2 x2 (by omega) c2
    refine ⟨r, Ev.bind e0' (Ev.bind (Ev.const e1) (Ev.bind (Ev.const e2) (Ev.neg c ?_))), hr⟩
    rw [Int.toNat_of_nonneg v0] at e
    exact e
theorem sp_mem : ∀ (l : List UInt8), ∀ w ∈ sp l, ∀ b ∈ w, b ≠ 32 ∧ b ∈ l
  | [], w, hw, b, hb => by
    simp [sp] at hw
    subst hw
    simp at hb
  | c :: l, w, hw, b, hb => by
    have ih := sp_mem l
    rw [sp] at hw
    by_cases h : c = 32
    · rw [if_pos h] at hw
      rcases List.mem_cons.mp hw with rfl | hw
      · simp at hb
      · exact ⟨(ih w hw b hb).1, List.mem_cons_of_mem _ (ih w hw b hb).2⟩
    · rw [if_neg h] at hw
      have hne := sp_ne l
      split at hw
      · next x xs e =>
        rcases List.mem_cons.mp hw with rfl | hw
        · rcases List.mem_cons.mp hb with rfl | hb
          · exact ⟨h, List.mem_cons_self⟩
          · have := ih x (by rw [e]; exact List.mem_cons_self) b hb
            exact ⟨this.1, List.mem_cons_of_mem _ this.2⟩
        · have := ih w (by rw [e]; exact List.mem_cons_of_mem _ hw) b hb
          exact ⟨this.1, List.mem_cons_of_mem _ this.2⟩
      · next e => exact absurd e hne
theorem piece_len : ∀ (l : List UInt8), ∀ w ∈ sp l, w.length ≤ l.length
  | [], w, hw => by
    simp [sp] at hw
    subst hw
    simp
  | c :: l, w, hw => by
    have ih := piece_len l
    rw [sp] at hw
    by_cases h : c = 32
    · rw [if_pos h] at hw
      rcases List.mem_cons.mp hw with rfl | hw
      · simp
      · have := ih w hw
        simp
        omega
    · rw [if_neg h] at hw
      have hne := sp_ne l
      split at hw
      · next x xs e =>
        rcases List.mem_cons.mp hw with rfl | hw
        · have := ih x (by rw [e]; exact List.mem_cons_self)
          simp
          omega
        · have := ih w (by rw [e]; exact List.mem_cons_of_mem _ hw)
          simp
          omega
      · next e => exact absurd e hne
def joinL : List (List UInt8) → List UInt8
  | [] => []
  | w :: ws => w ++ 32 :: joinL ws
theorem gsp_word (t : List UInt8) : ∀ (w cur : List UInt8), (∀ b ∈ w, b ≠ 32) → gsp cur (w ++ 32 :: t) = (cur ++ w) :: sp t
  | [], cur, _ => by rw [List.nil_append, gsp_space, List.append_nil]
  | b :: w, cur, h => by
    rw [List.cons_append, gsp_more _ _ _ (h b List.mem_cons_self), gsp_word t w _ (fun x hx => h x (List.mem_cons_of_mem _ hx)), List.append_assoc]
    rfl
theorem sp_join : ∀ (ws : List (List UInt8)), (∀ w ∈ ws, ∀ b ∈ w, b ≠ 32) → sp (joinL ws) = ws ++ [[]]
  | [], _ => rfl
  | w :: ws, h => by
    rw [joinL, ← gsp_nil, gsp_word _ _ _ (h w List.mem_cons_self), List.nil_append, sp_join ws (fun x hx => h x (List.mem_cons_of_mem _ hx))]
    rfl
theorem join_good : ∀ (ws : List (List UInt8)), (∀ w ∈ ws, ∀ b ∈ w, good b = true) → (joinL ws).all good = true
  | [], _ => rfl
  | w :: ws, h => by
    rw [joinL, List.all_append, List.all_cons, join_good ws (fun x hx => h x (List.mem_cons_of_mem _ hx)), List.all_eq_true.mpr (h w List.mem_cons_self)]
    decide
theorem join_app : ∀ (a b : List (List UInt8)), joinL (a ++ b) = joinL a ++ joinL b
  | [], b => rfl
  | w :: a, b => by rw [List.cons_append, joinL, joinL, join_app a b, List.append_assoc]; rfl
theorem filter_all (ws : List (List UInt8)) (h : ∀ w ∈ ws, ne8 w = true) : (ws ++ [[]]).filter ne8 = ws := by
  rw [List.filter_append, List.filter_eq_self.mpr h]
  exact List.append_nil ws
theorem same_loop (l : List ByteArray) (hl2 : l.length ≤ 100000) : ∀ (d i : Nat), l.length = i + d → Ev (fun k => laws_sameTexts.l0 k l l (i : Int)) true
  | 0, i, hl => by
    refine Ev.succ ?_
    simp only [laws_sameTexts.l0]
    exact Ev.neg (by omega) (Ev.ret _)
  | d + 1, i, hl => by
    refine Ev.succ ?_
    simp only [laws_sameTexts.l0]
    rw [wsucc i (by omega)]
    exact Ev.pos (by omega) (Ev.pos (by omega) (Ev.pos (by omega) (Ev.pos trivial (same_loop l hl2 d (i + 1) (by omega)))))
theorem same_ev (l : List ByteArray) (hl : l.length ≤ 100000) : Ev (fun k => laws_sameTexts.f k l l) true := by
  unfold laws_sameTexts.f
  exact Ev.pos rfl (same_loop l hl l.length 0 (by omega))
theorem again_loop (ws : List (List UInt8)) (hn : ws.length ≤ 24) (hs : ∀ w ∈ ws, w.length ≤ 600) (hw : ∀ w ∈ ws, ne8 w = true ∧ ∀ b ∈ w, b ≠ 32 ∧ good b = true) :
    ∀ (rest : List (List UInt8)) (i : Nat), ws.drop i = rest → i ≤ ws.length → (joinL (ws.take i)).length ≤ 601 * i → Ev (fun k => laws_FnFieldsAgain.l0 k (ws.map mkS) true (mkS (joinL (ws.take i))) (i : Int)) true
  | [], i, hd, hi, hj => by
    have he : i = ws.length := by have := List.drop_eq_nil_iff.mp hd; omega
    have ht : ws.take i = ws := List.take_of_length_le (by omega)
    rw [ht]
    refine Ev.succ ?_
    simp only [laws_FnFieldsAgain.l0]
    refine Ev.neg (by rw [List.length_map]; omega) (Ev.bind (spI_ev _) (Ev.pos trivial ?_))
    by_cases c : ((mkS (joinL ws)).size : Int) > 600
    · exact Ev.pos c (Ev.ret _)
    · have hz := mkS_size (joinL ws)
      have hf : fieldsP (mkS (joinL ws)).data.toList = (ws.map mkS, true) := by
        show fieldsP (joinL ws) = _
        unfold fieldsP
        rw [if_neg (by omega), if_pos (join_good ws (fun w h b hb => ((hw w h).2 b hb).2)), sp_join ws (fun w h b hb => ((hw w h).2 b hb).1), filter_all ws (fun w h => (hw w h).1)]
        unfold finF
        rw [if_neg (by rw [List.length_map]; omega)]
      rw [hf]
      exact Ev.neg c (Ev.pos rfl (Ev.bind (same_ev _ (by rw [List.length_map]; omega)) (Ev.ret _)))
  | w :: rest, i, hd, hi, hj => by
    have hlt : i < ws.length := by
      rcases Nat.lt_or_ge i ws.length with h | h
      · exact h
      · rw [List.drop_eq_nil_of_le h] at hd; simp at hd
    rw [List.drop_eq_getElem_cons hlt] at hd
    obtain ⟨e1, e2⟩ := List.cons.inj hd
    have hm : w ∈ ws := by rw [← e1]; exact List.getElem_mem _
    have hl := hs w hm
    have er : rdOf ByteArray.empty (ws.map mkS) (i : Int) = mkS w := by
      unfold rdOf
      rw [Int.toNat_natCast, List.getD_eq_getElem?_getD, List.getElem?_eq_getElem (by rw [List.length_map]; exact hlt), List.getElem_map, e1]
      rfl
    have ej : joinL (ws.take (i + 1)) = joinL (ws.take i) ++ (w ++ [32]) := by
      rw [List.take_succ_eq_append_getElem hlt, join_app, e1]
      rfl
    have hz1 := mkS_size (joinL (ws.take i))
    have hz2 := mkS_size w
    have hz3 := mkS_size (joinL (ws.take i) ++ w)
    rw [List.length_append] at hz3
    refine Ev.succ ?_
    simp only [laws_FnFieldsAgain.l0]
    rw [er, wsucc i (by omega), mkS_app]
    refine Ev.pos (by rw [List.length_map]; omega) (Ev.pos (by omega) (Ev.pos (by omega) (Ev.pos (by omega) ?_)))
    have ih := again_loop ws hn hs hw rest (i + 1) e2 (by omega) (by rw [ej]; simp; omega)
    rw [ej, ← List.append_assoc, ← mkS_app] at ih
    exact ih
theorem fields_cases (l : List UInt8) : fieldsP l = ([], false) ∨ ∃ ws : List (List UInt8), fieldsP l = (ws.map mkS, true) ∧ ws.length ≤ 24 ∧ (∀ w ∈ ws, w.length ≤ 600) ∧ (∀ w ∈ ws, ne8 w = true ∧ ∀ b ∈ w, b ≠ 32 ∧ good b = true) := by
  unfold fieldsP
  by_cases c : 600 < l.length
  · rw [if_pos c]; exact Or.inl rfl
  · rw [if_neg c]
    by_cases g : l.all good = true
    · rw [if_pos g]
      unfold finF
      by_cases h : ((((sp l).filter ne8).map mkS).length : Int) > 24
      · rw [if_pos h]; exact Or.inl rfl
      · rw [if_neg h]
        rw [List.length_map] at h
        refine Or.inr ⟨_, rfl, by omega, fun w hw => ?_, fun w hw => ?_⟩
        · have h1 := (List.mem_filter.mp hw).1
          exact Nat.le_trans (piece_len l w h1) (by omega)
        · obtain ⟨h1, h2⟩ := List.mem_filter.mp hw
          refine ⟨h2, fun b hb => ?_⟩
          have h3 := sp_mem l w h1 b hb
          exact ⟨h3.1, List.all_eq_true.mp g b h3.2⟩
    · rw [if_neg g]; exact Or.inl rfl
theorem pureFnFieldsAgain : ∀ (l0 : List Int), ok29 l0 → ∃ k, laws_FnFieldsAgain.f k l0 = some true := by
  rintro l ⟨hl, _⟩
  unfold maxLen at hl
  refine Ev.get ?_
  unfold laws_FnFieldsAgain.f
  refine Ev.bind (Ev.const rfl) ?_
  by_cases c : (l.length : Int) > 1048576
  · exact Ev.pos (decide_eq_true c) (Ev.ret _)
  · refine Ev.neg (by simpa using c) ?_
    obtain ⟨s, e1, hs⟩ := draw_line l (by omega)
    have eI := spI_ev s
    have eS := spS_ev s
    rcases fields_cases s.data.toList with h | ⟨ws, h, h1, h2, h3⟩
    · rw [h] at eI eS
      refine Ev.bind e1 (Ev.bind eI (Ev.bind eS (Ev.neg (by simp) (Ev.neg (by simp) (Ev.pos (by simp) (Ev.bind (Ev.const (fmt_ev (-3) (by omega) (by omega))) ((Ev.ret _).to ?_)))))))
      decide +kernel
    · rw [h] at eI eS
      exact Ev.bind e1 (Ev.bind eI (Ev.bind eS (Ev.pos rfl (again_loop ws h1 h2 h3 ws 0 rfl (by omega) (by simp [joinL])))))
end Go.Proofs.YtfoldjbcnlhipaaDoor.A
