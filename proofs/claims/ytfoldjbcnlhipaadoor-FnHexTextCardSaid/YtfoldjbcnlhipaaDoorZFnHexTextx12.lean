/- What the proof of the law FnHexText uses: lemmas, the Lean functions of the Go functions that it reaches, their contracts, and the pure statement's proof. -/
import Derived.Test.YtfoldjbcnlhipaaDoorZFnHexTextx11
import Derived.ProofKit
import Derived.OpenShut
import Derived.ShutString
import Derived.ChangeOld
import Derived.SizedLaws
import Derived.ChangeArms
namespace Go.Proofs.YtfoldjbcnlhipaaDoor.A
open Go.RowKit Go.Proofs.YtfoldjbcnlhipaaDoorW.PrintWords Go.Proofs.YtfoldjbcnlhipaaDoorW.PrintLast Go.Proofs.YtfoldjbcnlhipaaDoorW.PrintMore
attribute [local go_sem] max2_int min2_int max_two min_two max_three min_three max_four min_four   
set_option linter.unusedVariables false
set_option linter.unusedSimpArgs false
def valD (c : Int) : Int := if 48 ≤ c ∧ c ≤ 57 then c - 48 else if 97 ≤ c ∧ c ≤ 102 then c - 87 else -1
def decA : List UInt8 → List UInt8 → Option (List UInt8)
  | acc, [] => some acc
  | _, [_] => none
  | acc, a :: b :: l => if valD a.toNat < 0 ∨ valD b.toNat < 0 then none else decA (acc ++ [UInt8.ofNat (16 * valD a.toNat + valD b.toNat).toNat]) l
set_option maxHeartbeats 8000000 in
set_option maxRecDepth 100000 in
theorem dec_digit (c : Int) (h0 : 0 ≤ c) (h1 : c < 256) (w : World) : Calls Tryd.prog 51 #[.int .u8 c] w fun e w' => e = .returned (.int .i64 (valD c)) ∧ w' = w := by
  have rest : ¬ (48 ≤ c ∧ c ≤ 57) → valD c = if 97 ≤ c ∧ c ≤ 102 then c - 87 else -1 := fun h => by unfold valD; rw [if_neg h]
  by_cases a1 : 48 ≤ c
  · have b1 : decide (48 ≤ c) = true := decide_eq_true a1
    by_cases a2 : c ≤ 57
    · have b2 : decide (c ≤ 57) = true := decide_eq_true a2
      have e : Aside0 (valD c = c - 48) := ⟨by unfold valD; rw [if_pos ⟨a1, a2⟩]⟩
      clear rest
      go_enter Tryd.func51, Tryd.ntmps51
      go_wp2
      repeat (go_quiet (fail); try go_wp2)
      go_ret
      exact ⟨by rw [e.out]; rfl, rfl⟩
    · have b2 : decide (c ≤ 57) = false := decide_eq_false a2
      have e := rest (fun h => a2 h.2)
      by_cases a3 : 97 ≤ c
      · have b3 : decide (97 ≤ c) = true := decide_eq_true a3
        by_cases a4 : c ≤ 102
        · have b4 : decide (c ≤ 102) = true := decide_eq_true a4
          have e2 : Aside0 (valD c = c - 97 + 10) := ⟨by rw [e, if_pos ⟨a3, a4⟩]; omega⟩
          clear rest e a2
          go_enter Tryd.func51, Tryd.ntmps51
          go_wp2
          repeat (go_quiet (fail); try go_wp2)
          go_ret
          exact ⟨by rw [e2.out]; rfl, rfl⟩
        · have b4 : decide (c ≤ 102) = false := decide_eq_false a4
          have e2 : Aside0 (valD c = -1) := ⟨by rw [e, if_neg (fun h => a4 h.2)]⟩
          clear rest e a2 a4
          go_enter Tryd.func51, Tryd.ntmps51
          go_wp2
          repeat (go_quiet (fail); try go_wp2)
          go_ret
          exact ⟨by rw [e2.out]; rfl, rfl⟩
      · have b3 : decide (97 ≤ c) = false := decide_eq_false a3
        have e2 : Aside0 (valD c = -1) := ⟨by rw [e, if_neg (fun h => a3 h.1)]⟩
        clear rest e a2 a3
        go_enter Tryd.func51, Tryd.ntmps51
        go_wp2
        repeat (go_quiet (fail); try go_wp2)
        go_ret
        exact ⟨by rw [e2.out]; rfl, rfl⟩
  · have b1 : decide (48 ≤ c) = false := decide_eq_false a1
    have b3 : decide (97 ≤ c) = false := decide_eq_false (by omega)
    have e2 : Aside0 (valD c = -1) := ⟨by rw [rest (fun h => a1 h.1), if_neg (fun h => by omega)]⟩
    clear rest a1
    go_enter Tryd.func51, Tryd.ntmps51
    go_wp2
    repeat (go_quiet (fail); try go_wp2)
    go_ret
    exact ⟨by rw [e2.out]; rfl, rfl⟩
theorem or_byte (x y : Int) (hx : 0 ≤ x ∧ x ≤ 15) (hy : 0 ≤ y ∧ y ≤ 15) : bits BinOp.or IntKind.i64 (wrap64 (x * 16)) y % 256 = ((UInt8.ofNat (16 * x + y).toNat).toNat : Int) := by
  have key : ∀ a b : Fin 16, bits BinOp.or IntKind.i64 (wrap64 ((a.val : Int) * 16)) (b.val : Int) % 256 = ((UInt8.ofNat (16 * (a.val : Int) + (b.val : Int)).toNat).toNat : Int) := by decide +kernel
  have h := key ⟨x.toNat, by omega⟩ ⟨y.toNat, by omega⟩
  simp only [Int.toNat_of_nonneg hx.1, Int.toNat_of_nonneg hy.1] at h
  exact h
def decR (o : Option (List UInt8)) : ByteArray × Bool := match o with | some d => (⟨d.toArray⟩, true) | none => (⟨#[]⟩, false)
theorem drop_two (s : ByteArray) (i : Nat) (h : i + 2 ≤ s.size) : ∃ a b : UInt8, s.data.toList.drop i = a :: b :: s.data.toList.drop (i + 2) ∧ bt s (i : Int) = a.toNat ∧ bt s ((i : Int) + 1) = b.toNat := by
  have h1 : i < s.data.toList.length := by rw [data_length]; omega
  have h2 : i + 1 < s.data.toList.length := by rw [data_length]; omega
  refine ⟨s.data.toList[i], s.data.toList[i + 1], ?_, ?_, ?_⟩
  · rw [List.drop_eq_getElem_cons h1, List.drop_eq_getElem_cons h2]
  · obtain ⟨b, hb, e⟩ := at_byte s (i : Int) (by omega) (by omega)
    rw [Int.toNat_natCast, List.getElem?_eq_getElem h1] at hb
    rw [e, ← Option.some.inj hb]
  · obtain ⟨b, hb, e⟩ := at_byte s ((i : Int) + 1) (by omega) (by omega)
    rw [show ((i : Int) + 1).toNat = i + 1 by omega, List.getElem?_eq_getElem h2] at hb
    rw [e, ← Option.some.inj hb]
theorem valD_in (c : Int) : -1 ≤ valD c ∧ valD c ≤ 15 := by
  unfold valD
  split
  · omega
  · split <;> omega
theorem below_drewN' {B : Nat} {a w : World} (n : Nat) (h : Below B a w) : Below B a (w.drewN n) := ⟨h.os, h.tape, h.output, h.size, h.block⟩
set_option maxHeartbeats 8000000 in
set_option maxRecDepth 100000 in
theorem dec_long (a0 : ByteArray) (r1 : ByteArray) (r2 : Bool) (w : World) (he : a0.size % 2 = 0) (hs : a0.size ≤ 40000) (hr : decR (decA [] a0.data.toList) = (r1, r2)) : Calls Tryd.prog 30 #[.string a0] w fun e w' => e = .returned (.tuple #[.string r1, .bool r2]) ∧ Below w.heap.size w w' := by
  have tB := Tryd.underlying61
  have uB := run_underlying tB
  have hsz := Aside0.mk hs
  have hev := Aside0.mk he
  have hR := Aside0.mk hr
  have k1 : ((a0.size : Int) % 2 != 0) = false := by simp; omega
  have k3 : decide (20000 < wrap64 ((a0.size : Int) / 2)) = false := decide_eq_false (by unfold wrap64; omega)
  clear hs he hr
  go_enter Tryd.func30, Tryd.ntmps30
  go_wp2
  have HF : Aside0 (Lib.IsBuilderF 61 5 w.heap.size w.heap.size [] (w.alloc (.cells #[.pointer none, .slice none 0 0] 61))) := ⟨.of (Lib.fresh_isBuilder _ _ _)⟩
  go_loopw [6, 7, 8] (fun v6 v7 v8 wr => ∃ (i : Int) (d : List UInt8), v6 = .int .i64 i ∧ Aside0 (0 ≤ i ∧ i ≤ a0.size ∧ i % 2 = 0 ∧ (d.length : Int) ≤ i) ∧ Aside0 (decR (decA d (a0.data.toList.drop i.toNat)) = (r1, r2)) ∧ Aside0 (Lib.IsBuilderF 61 5 w.heap.size w.heap.size (Lib.byteCells d) wr) ∧ Aside0 (Below w.heap.size w wr)) (fun v6 _ _ _ => a0.size - (intOf v6).toNat)
  case atStart => exact ⟨0, [], rfl, ⟨by simp⟩, ⟨hR.out⟩, ⟨HF.out⟩, ⟨below_alloc (Below.refl _ _) _⟩⟩
  case round =>
    clear HF hR k1 k3
    obtain ⟨i, d, rfl, hk, hD, hI, HB⟩ := hrel
    by_cases hlt : i < (a0.size : Int)
    · obtain ⟨n, rfl⟩ : ∃ n : Nat, i = n := ⟨i.toNat, by have := hk.out; omega⟩
      obtain ⟨a, b, e1, e2, e3⟩ := drop_two a0 n (by have := hk.out; have := hev.out; omega)
      have hD2 := hD.out
      rw [Int.toNat_natCast, e1] at hD2
      have hltb : decide ((n : Int) < (a0.size : Int)) = true := decide_eq_true hlt
      have hw : wrap64 ((n : Int) + 1) = (n : Int) + 1 := by have := hk.out; have := hsz.out; unfold wrap64; omega
      have p7 : (0 ≤ (n : Int)) = True := eq_true (by omega)
      have q7 := eq_true hlt
      have hx7 : ∀ h : n < a0.size, ((a0[n]'h).toNat : Int) = a.toNat := fun h => (bt_at a0 n h).trans e2
      have p8 : (0 ≤ (n : Int) + 1) = True := eq_true (by omega)
      have q8 : ((n : Int) + 1 < (a0.size : Int)) = True := eq_true (by have := hk.out; have := hev.out; omega)
      have hx8 : ∀ h : n + 1 < a0.size, ((a0[n + 1]'h).toNat : Int) = b.toNat := by
        intro h
        have h3 := e3
        rw [← bt_at a0 ((n : Int) + 1) (by omega)] at h3
        have e : ((n : Int) + 1).toNat = n + 1 := by omega
        simpa only [e] using h3
      go_wp2
      have hd1 : ∀ w, Calls Tryd.prog 51 #[.int .u8 (a.toNat : Int)] w fun e w' => e = .returned (.int .i64 (valD a.toNat)) ∧ w' = w := fun w => dec_digit _ (by omega) (by have := a.toNat_lt; omega) w
      have hd2 : ∀ w, Calls Tryd.prog 51 #[.int .u8 (b.toNat : Int)] w fun e w' => e = .returned (.int .i64 (valD b.toNat)) ∧ w' = w := fun w => dec_digit _ (by omega) (by have := b.toNat_lt; omega) w
      go_quiet (first | (go_at_call 51; with_reducible exact Calls.quiet_of_same (v := .int .i64 (valD (a.toNat : Int))) (hd1 _)) | (go_at_call 51; with_reducible exact Calls.quiet_of_same (v := .int .i64 (valD (b.toNat : Int))) (hd2 _)))
      have HB1 := Aside0.mk (below_drewN' nq HB.out)
      have va := valD_in (a.toNat : Int)
      have vb := valD_in (b.toNat : Int)
      by_cases ca : valD (a.toNat : Int) < 0
      · have ca1 : decide (valD (a.toNat : Int) < 0) = true := decide_eq_true ca
        have hres : Aside0 ((⟨#[]⟩ : ByteArray) = r1 ∧ false = r2) := ⟨by
          rw [decA, if_pos (Or.inl ca)] at hD2
          simpa [decR] using hD2⟩
        clear ca hD2 va vb hd1 hd2 hx7 hx8
        go_wp2
        go_ret2
        exact ⟨by rw [← hres.out.1, ← hres.out.2]; rfl, HB1.out⟩
      · have ca1 : decide (valD (a.toNat : Int) < 0) = false := decide_eq_false ca
        by_cases cb : valD (b.toNat : Int) < 0
        · have cb1 : decide (valD (b.toNat : Int) < 0) = true := decide_eq_true cb
          have hres : Aside0 ((⟨#[]⟩ : ByteArray) = r1 ∧ false = r2) := ⟨by
            rw [decA, if_pos (Or.inr cb)] at hD2
            simpa [decR] using hD2⟩
          clear ca cb hD2 va vb hd1 hd2 hx7 hx8
          go_wp2
          go_ret2
          exact ⟨by rw [← hres.out.1, ← hres.out.2]; rfl, HB1.out⟩
        · have cb1 : decide (valD (b.toNat : Int) < 0) = false := decide_eq_false cb
          rw [decA, if_neg (fun h => h.elim ca cb)] at hD2
          have HD2 := Aside0.mk hD2
          have hI1 : Lib.IsBuilderF 61 5 w.heap.size w.heap.size (Lib.byteCells d) (wr.drewN nq) := hI.out
          have HI1 := Aside0.mk hI1
          have VA := Aside0.mk (⟨by omega, va.2⟩ : 0 ≤ valD (a.toNat : Int) ∧ valD (a.toNat : Int) ≤ 15)
          have VB := Aside0.mk (⟨by omega, vb.2⟩ : 0 ≤ valD (b.toNat : Int) ∧ valD (b.toNat : Int) ≤ 15)
          clear ca cb hD2 va vb hd1 hd2 hx7 hx8 hI1
          go_wp2_with (go_at_call 49; refine (bld_put _ _ _ _ _ HI1.out (by rw [Lib.byteCells_length]; have := hk.out; have := hsz.out; omega) HB1.out.size).mono ?_; rintro e w1 ⟨rfl, hI2, hb2⟩; have HI2 := Aside0.mk hI2; have HB2 := Aside0.mk (HB1.out.trans hb2); clear hI2 hb2)
          have hw2 : wrap64 ((n : Int) + 2) = (n : Int) + 2 := by have := hk.out; have := hsz.out; unfold wrap64; omega
          have hle : (n : Int) + 2 ≤ a0.size := by have := hk.out; have := hev.out; omega
          refine ⟨⟨(n : Int) + 2, d ++ [UInt8.ofNat (16 * valD (a.toNat : Int) + valD (b.toNat : Int)).toNat], by rw [hw2], ⟨by have := hk.out; simp; omega⟩, ⟨?_⟩, ⟨?_⟩, HB2⟩, ?_⟩
          · rw [show ((n : Int) + 2).toNat = n + 2 by omega]
            exact HD2.out
          · have h := HI2.out
            rw [or_byte _ _ VA.out VB.out] at h
            simpa [Lib.byteCells] using h
          · rw [hw2]
            simp [intOf]
            omega
    · have hi : i = a0.size := by have := hk.out; omega
      subst hi
      have hltb : decide ((a0.size : Int) < (a0.size : Int)) = false := decide_eq_false hlt
      have hD2 := hD.out
      rw [Int.toNat_natCast, List.drop_eq_nil_of_le (by rw [data_length]; omega), decA] at hD2
      have hres : Aside0 ((⟨d.toArray⟩ : ByteArray) = r1 ∧ true = r2) := ⟨by simpa [decR] using hD2⟩
      clear hlt hD2
      go_wp2_with (go_at_call 50; refine (bld_str _ _ _ _ hI.out HB.out.size).mono ?_; rintro e w1 ⟨rfl, hb1⟩; have HB1 := Aside0.mk (HB.out.trans hb1); clear hb1)
      go_ret2
      exact ⟨by rw [← hres.out.1, ← hres.out.2]; rfl, HB1.out⟩
def impl_DecodeHex.f (a0 : ByteArray) : Option (ByteArray × Bool) := if 140737488355328 < a0.size then none else some (if a0.size % 2 = 0 ∧ a0.size ≤ 40000 then decR (decA [] a0.data.toList) else ((⟨#[]⟩ : ByteArray), false))
set_option maxHeartbeats 8000000 in
set_option maxRecDepth 100000 in
theorem impl_DecodeHex.calls (a0 : ByteArray) (r1 : ByteArray) (r2 : Bool) (w : World) (h : impl_DecodeHex.f a0 = some (r1, r2)) :
    Calls Tryd.prog 30 #[.string a0] w fun e w' => e = .returned (.tuple #[.string r1, .bool r2]) ∧ Below w.heap.size w w' := by
  by_cases hbig : 140737488355328 < a0.size
  · exact absurd ((if_pos hbig).symm.trans h) (by simp)
  replace h := (if_neg hbig).symm.trans h
  by_cases hs : a0.size % 2 = 0 ∧ a0.size ≤ 40000
  · have h1 := (congrArg some (if_pos hs)).symm.trans h
    exact dec_long a0 r1 r2 w hs.1 hs.2 (Option.some.inj h1)
  · have h1 := (congrArg some (if_neg hs)).symm.trans h
    simp only [Option.some.injEq, Prod.mk.injEq] at h1
    obtain ⟨rfl, rfl⟩ := h1
    clear h
    by_cases he : a0.size % 2 = 0
    · have k1 : ((a0.size : Int) % 2 != 0) = false := by simp; omega
      have k3 : decide (20000 < wrap64 ((a0.size : Int) / 2)) = true := decide_eq_true (by unfold wrap64; omega)
      clear he hs hbig
      go_enter Tryd.func30, Tryd.ntmps30
      go_wp2
      go_ret2
      exact ⟨rfl, Below.refl _ _⟩
    · have k1 : ((a0.size : Int) % 2 != 0) = true := by simp; omega
      clear he hs hbig
      go_enter Tryd.func30, Tryd.ntmps30
      go_wp2
      go_ret2
      exact ⟨rfl, Below.refl _ _⟩
def laws_FnHexText.f (k : Nat) (l0 : List Int) : Option (Bool) := (laws_big.f l0).bind fun t301 => (if t301 = true then (some true) else ((spec_DrawEncodeHex.f k l0).bind fun t302 => ((impl_EncodeHex.f t302).bind fun bt303 => (if (t302.size : Int) > 20000 then (if bt303.2 = true then (some false) else (if bt303.1.toList = ([] : List UInt8) then ((impl_FormatInt.f 10).bind fun t305 => (some (t305.toList == ([49, 48] : List UInt8)))) else (some false))) else ((impl_DecodeHex.f bt303.1).bind fun bt306 => (if bt303.2 = true then (if bt306.2 = true then (if bt306.1.toList = t302.toList then (some ((bt303.1.size : Int) == (wrap64 (2 * (t302.size : Int))))) else (some false)) else (some false)) else (some false)))))))
set_option maxHeartbeats 8000000 in
set_option maxRecDepth 100000 in
theorem laws_FnHexText.calls (k : Nat) (A0 : Option Addr) (c0 : Nat) (l0 : List Int) (r : Bool) (w : World) (hr0 : Kd.C (Kd.int .u8) w A0 l0.length l0) (hc0 : l0.length ≤ c0) (hr_ : Aside0 (r = true)) (h : laws_FnHexText.f k l0 = some r) (hTI : TabI w := by first | exact Aside0.out (by assumption) | exact tabI_below (Aside0.out (by assumption)) (by repeat (first | (with_reducible first | exact Aside0.out (by assumption) | apply below_alloc | apply pw_below_drewN | apply below_drew1) | exact Below.refl _ _))) :
    Calls Tryd.prog 9 #[.slice A0 l0.length c0] w fun e w' => e = .returned (.bool r) ∧ Below w.heap.size w w' := by
  have HTI_ := Aside0.mk hTI
  clear hTI
  have HR0 := Aside0.mk hr0
  have HC0 := Aside0.mk hc0
  clear hr0 hc0
  have HB := Aside0.mk (Below.refl w.heap.size w)
  have H : ((laws_big.f l0).bind fun t301 => (if t301 = true then (some true) else ((spec_DrawEncodeHex.f k l0).bind fun t302 => ((impl_EncodeHex.f t302).bind fun bt303 => (if (t302.size : Int) > 20000 then (if bt303.2 = true then (some false) else (if bt303.1.toList = ([] : List UInt8) then ((impl_FormatInt.f 10).bind fun t305 => (some (t305.toList == ([49, 48] : List UInt8)))) else (some false))) else ((impl_DecodeHex.f bt303.1).bind fun bt306 => (if bt303.2 = true then (if bt306.2 = true then (if bt306.1.toList = t302.toList then (some ((bt303.1.size : Int) == (wrap64 (2 * (t302.size : Int))))) else (some false)) else (some false)) else (some false)))))))) = some r := h
  clear h
  replace H := Option.bind_eq_some_iff.mp H
  obtain ⟨t301, A20, H⟩ := H
  replace H : (if t301 = true then (some true) else ((spec_DrawEncodeHex.f k l0).bind fun t302 => ((impl_EncodeHex.f t302).bind fun bt303 => (if (t302.size : Int) > 20000 then (if bt303.2 = true then (some false) else (if bt303.1.toList = ([] : List UInt8) then ((impl_FormatInt.f 10).bind fun t305 => (some (t305.toList == ([49, 48] : List UInt8)))) else (some false))) else ((impl_DecodeHex.f bt303.1).bind fun bt306 => (if bt303.2 = true then (if bt306.2 = true then (if bt306.1.toList = t302.toList then (some ((bt303.1.size : Int) == (wrap64 (2 * (t302.size : Int))))) else (some false)) else (some false)) else (some false))))))) = some r := H
  have A2 := Aside0.mk A20
  clear A20
  by_cases c3 : t301 = true
  · subst c3
    have H1 : (some true) = some r := by rw [if_pos rfl] at H; exact H
    clear H
    have H := H1
    clear H1
    obtain rfl := Option.some.inj H
    go_enter Tryd.func9, Tryd.ntmps9
    go_wp2_with (first | ((with_reducible refine gate_callee (f := 17) rfl ?_); refine goesL_ (some 9) rfl rfl Tryd.func17 (by kernel_rfl) rfl #[.slice A0 l0.length c0] rfl (by (try simp only [List.map_toArray, List.map_cons, List.map_nil]); first | done | rfl | (simp only [List.length_drop, List.length_take]; rfl)) ?_; (with_reducible refine (laws_big.calls _ _ l0 true _ ?side1 ?side2 A2.out).mono ?_); (case side1 => repeat (first | exact HR0.out | (with_reducible refine Kd.C_alloc ?_ _) | (with_reducible refine Kd.C_drewN ?_ _) | (with_reducible refine Kd.C_drew ?_))); (case side2 => exact HC0.out); rintro e w' ⟨rfl, ⟨nd, rfl⟩⟩; refine ⟨_, rfl, ?_⟩))
    go_ret
    exact ⟨by first | rfl | (simp [errW_none, errW_some] <;> rfl) | (simp [*, errW_none, errW_some] <;> rfl), by repeat (first | (with_reducible first | exact HB.out | apply below_alloc | apply pw_below_drewN | apply below_drew1) | exact HB.out)⟩
  · replace c3 := Bool.eq_false_iff.mpr c3
    subst c3
    have H1 : ((spec_DrawEncodeHex.f k l0).bind fun t302 => ((impl_EncodeHex.f t302).bind fun bt303 => (if (t302.size : Int) > 20000 then (if bt303.2 = true then (some false) else (if bt303.1.toList = ([] : List UInt8) then ((impl_FormatInt.f 10).bind fun t305 => (some (t305.toList == ([49, 48] : List UInt8)))) else (some false))) else ((impl_DecodeHex.f bt303.1).bind fun bt306 => (if bt303.2 = true then (if bt306.2 = true then (if bt306.1.toList = t302.toList then (some ((bt303.1.size : Int) == (wrap64 (2 * (t302.size : Int))))) else (some false)) else (some false)) else (some false)))))) = some r := by rw [if_neg (show ¬ (false = true) by decide)] at H; exact H
    clear H
    have H := H1
    clear H1
    replace H := Option.bind_eq_some_iff.mp H
    obtain ⟨t302, A40, H⟩ := H
    replace H : ((impl_EncodeHex.f t302).bind fun bt303 => (if (t302.size : Int) > 20000 then (if bt303.2 = true then (some false) else (if bt303.1.toList = ([] : List UInt8) then ((impl_FormatInt.f 10).bind fun t305 => (some (t305.toList == ([49, 48] : List UInt8)))) else (some false))) else ((impl_DecodeHex.f bt303.1).bind fun bt306 => (if bt303.2 = true then (if bt306.2 = true then (if bt306.1.toList = t302.toList then (some ((bt303.1.size : Int) == (wrap64 (2 * (t302.size : Int))))) else (some false)) else (some false)) else (some false))))) = some r := H
    have A4 := Aside0.mk A40
    clear A40
    replace H := Option.bind_eq_some_iff.mp H
    obtain ⟨⟨t303, t304⟩, A50, H⟩ := H
    replace H : (if (t302.size : Int) > 20000 then (if t304 = true then (some false) else (if t303.toList = ([] : List UInt8) then ((impl_FormatInt.f 10).bind fun t305 => (some (t305.toList == ([49, 48] : List UInt8)))) else (some false))) else ((impl_DecodeHex.f t303).bind fun bt306 => (if t304 = true then (if bt306.2 = true then (if bt306.1.toList = t302.toList then (some ((t303.size : Int) == (wrap64 (2 * (t302.size : Int))))) else (some false)) else (some false)) else (some false)))) = some r := H
    have A5 := Aside0.mk A50
    clear A50
    by_cases c6 : (t302.size : Int) > 20000
    · rw [if_pos c6] at H
      have c6b0 : decide (20000 < (t302.size : Int)) = true := decide_eq_true c6
      have c6b1 : decide (20000 < t302.size) = true := decide_eq_true (by omega)
      clear c6
      by_cases c7 : t304 = true
      · subst c7
        have H1 : (some false) = some r := by rw [if_pos rfl] at H; exact H
        clear H
        have H := H1
        clear H1
        exact absurd (Option.some.inj H) (by rw [hr_.out]; decide)
      · replace c7 := Bool.eq_false_iff.mpr c7
        subst c7
        have H1 : (if t303.toList = ([] : List UInt8) then ((impl_FormatInt.f 10).bind fun t305 => (some (t305.toList == ([49, 48] : List UInt8)))) else (some false)) = some r := by rw [if_neg (show ¬ (false = true) by decide)] at H; exact H
        clear H
        have H := H1
        clear H1
        by_cases c8 : t303.toList = ([] : List UInt8)
        · rw [if_pos c8] at H
          have c8b0 : (t303.toList == ([] : List UInt8)) = true := beq_iff_eq.mpr c8
          have c8b1 : (t303.toList != ([] : List UInt8)) = false := bne_eq_false_iff_eq.mpr c8
          clear c8
          replace H := Option.bind_eq_some_iff.mp H
          obtain ⟨t305, A90, H⟩ := H
          replace H : (some (t305.toList == ([49, 48] : List UInt8))) = some r := H
          have A9 := Aside0.mk A90
          clear A90
          obtain rfl := Option.some.inj H
          go_enter Tryd.func9, Tryd.ntmps9
          go_wp2_with (first | ((with_reducible refine gate_callee (f := 17) rfl ?_); refine goesL_ (some 9) rfl rfl Tryd.func17 (by kernel_rfl) rfl #[.slice A0 l0.length c0] rfl (by (try simp only [List.map_toArray, List.map_cons, List.map_nil]); first | done | rfl | (simp only [List.length_drop, List.length_take]; rfl)) ?_; (with_reducible refine (laws_big.calls _ _ l0 false _ ?side1 ?side2 A2.out).mono ?_); (case side1 => repeat (first | exact HR0.out | (with_reducible refine Kd.C_alloc ?_ _) | (with_reducible refine Kd.C_drewN ?_ _) | (with_reducible refine Kd.C_drew ?_))); (case side2 => exact HC0.out); rintro e w' ⟨rfl, ⟨nd, rfl⟩⟩; refine ⟨_, rfl, ?_⟩) | ((with_reducible refine gate_callee (f := 28) rfl ?_); refine goesL_ (some 11) rfl rfl Tryd.func28 (by kernel_rfl) rfl #[.slice A0 l0.length c0] rfl (by (try simp only [List.map_toArray, List.map_cons, List.map_nil]); first | done | rfl | (simp only [List.length_drop, List.length_take]; rfl)) ?_; (with_reducible refine (spec_DrawEncodeHex.calls k _ _ l0 t302 _ ?side1 ?side2 A4.out).mono ?_); (case side1 => repeat (first | exact HR0.out | (with_reducible refine Kd.C_alloc ?_ _) | (with_reducible refine Kd.C_drewN ?_ _) | (with_reducible refine Kd.C_drew ?_))); (case side2 => exact HC0.out); rintro e w10 ⟨rfl, hb⟩; refine ⟨_, rfl, ?_⟩; have n0_ := Aside0.mk (below_step (by repeat (first | (with_reducible first | exact HB.out | apply below_alloc | apply pw_below_drewN | apply below_drew1) | exact HB.out)) hb); clear HB; have HB := n0_; clear n0_; (try clear hb); (try clear hb2); (try clear hk); (try clear hi)) | ((with_reducible refine gate_callee (f := 29) rfl ?_); refine goesL_ (some 14) rfl rfl Tryd.func29 (by kernel_rfl) rfl #[.string t302] rfl (by (try simp only [List.map_toArray, List.map_cons, List.map_nil]); first | done | rfl | (simp only [List.length_drop, List.length_take]; rfl)) ?_; (with_reducible refine (impl_EncodeHex.calls t302 t303 false _ A5.out).mono ?_); rintro e w11 ⟨rfl, hb⟩; refine ⟨_, rfl, ?_⟩; have n0_ := Aside0.mk (below_step (by repeat (first | (with_reducible first | exact HB.out | apply below_alloc | apply pw_below_drewN | apply below_drew1) | exact HB.out)) hb); clear HB; have HB := n0_; clear n0_; (try clear hb); (try clear hb2); (try clear hk); (try clear hi)) | (go_at_call 12; (with_reducible refine (impl_FormatInt.calls 10 t305 _ A9.out).mono ?_); rintro e w12 ⟨rfl, hb⟩; have n0_ := Aside0.mk (below_step (by repeat (first | (with_reducible first | exact HB.out | apply below_alloc | apply pw_below_drewN | apply below_drew1) | exact HB.out)) hb); clear HB; have HB := n0_; clear n0_; (try clear hb); (try clear hb2); (try clear hk); (try clear hi)))
          go_ret
          exact ⟨by first | rfl | (simp [errW_none, errW_some] <;> rfl) | (simp [*, errW_none, errW_some] <;> rfl), by repeat (first | (with_reducible first | exact HB.out | apply below_alloc | apply pw_below_drewN | apply below_drew1) | exact HB.out)⟩
        · rw [if_neg c8] at H
          have c8b0 : (t303.toList == ([] : List UInt8)) = false := beq_eq_false_iff_ne.mpr c8
          have c8b1 : (t303.toList != ([] : List UInt8)) = true := bne_iff_ne.mpr c8
          exact absurd (Option.some.inj H) (by rw [hr_.out]; decide)
    · rw [if_neg c6] at H
      have c6b0 : decide (20000 < (t302.size : Int)) = false := decide_eq_false c6
      have c6b1 : decide (20000 < t302.size) = false := decide_eq_false (by omega)
      clear c6
      replace H := Option.bind_eq_some_iff.mp H
      obtain ⟨⟨t306, t307⟩, A130, H⟩ := H
      replace H : (if t304 = true then (if t307 = true then (if t306.toList = t302.toList then (some ((t303.size : Int) == (wrap64 (2 * (t302.size : Int))))) else (some false)) else (some false)) else (some false)) = some r := H
      have A13 := Aside0.mk A130
      clear A130
      by_cases c14 : t304 = true
      · subst c14
        have H1 : (if t307 = true then (if t306.toList = t302.toList then (some ((t303.size : Int) == (wrap64 (2 * (t302.size : Int))))) else (some false)) else (some false)) = some r := by rw [if_pos rfl] at H; exact H
        clear H
        have H := H1
        clear H1
        by_cases c15 : t307 = true
        · subst c15
          have H1 : (if t306.toList = t302.toList then (some ((t303.size : Int) == (wrap64 (2 * (t302.size : Int))))) else (some false)) = some r := by rw [if_pos rfl] at H; exact H
          clear H
          have H := H1
          clear H1
          by_cases c16 : t306.toList = t302.toList
          · rw [if_pos c16] at H
            have c16b0 : (t306.toList == t302.toList) = true := beq_iff_eq.mpr c16
            have c16b1 : (t306.toList != t302.toList) = false := bne_eq_false_iff_eq.mpr c16
            clear c16
            obtain rfl := Option.some.inj H
            go_enter Tryd.func9, Tryd.ntmps9
            go_wp2_with (first | ((with_reducible refine gate_callee (f := 17) rfl ?_); refine goesL_ (some 9) rfl rfl Tryd.func17 (by kernel_rfl) rfl #[.slice A0 l0.length c0] rfl (by (try simp only [List.map_toArray, List.map_cons, List.map_nil]); first | done | rfl | (simp only [List.length_drop, List.length_take]; rfl)) ?_; (with_reducible refine (laws_big.calls _ _ l0 false _ ?side1 ?side2 A2.out).mono ?_); (case side1 => repeat (first | exact HR0.out | (with_reducible refine Kd.C_alloc ?_ _) | (with_reducible refine Kd.C_drewN ?_ _) | (with_reducible refine Kd.C_drew ?_))); (case side2 => exact HC0.out); rintro e w' ⟨rfl, ⟨nd, rfl⟩⟩; refine ⟨_, rfl, ?_⟩) | ((with_reducible refine gate_callee (f := 28) rfl ?_); refine goesL_ (some 11) rfl rfl Tryd.func28 (by kernel_rfl) rfl #[.slice A0 l0.length c0] rfl (by (try simp only [List.map_toArray, List.map_cons, List.map_nil]); first | done | rfl | (simp only [List.length_drop, List.length_take]; rfl)) ?_; (with_reducible refine (spec_DrawEncodeHex.calls k _ _ l0 t302 _ ?side1 ?side2 A4.out).mono ?_); (case side1 => repeat (first | exact HR0.out | (with_reducible refine Kd.C_alloc ?_ _) | (with_reducible refine Kd.C_drewN ?_ _) | (with_reducible refine Kd.C_drew ?_))); (case side2 => exact HC0.out); rintro e w17 ⟨rfl, hb⟩; refine ⟨_, rfl, ?_⟩; have n0_ := Aside0.mk (below_step (by repeat (first | (with_reducible first | exact HB.out | apply below_alloc | apply pw_below_drewN | apply below_drew1) | exact HB.out)) hb); clear HB; have HB := n0_; clear n0_; (try clear hb); (try clear hb2); (try clear hk); (try clear hi)) | ((with_reducible refine gate_callee (f := 29) rfl ?_); refine goesL_ (some 14) rfl rfl Tryd.func29 (by kernel_rfl) rfl #[.string t302] rfl (by (try simp only [List.map_toArray, List.map_cons, List.map_nil]); first | done | rfl | (simp only [List.length_drop, List.length_take]; rfl)) ?_; (with_reducible refine (impl_EncodeHex.calls t302 t303 true _ A5.out).mono ?_); rintro e w18 ⟨rfl, hb⟩; refine ⟨_, rfl, ?_⟩; have n0_ := Aside0.mk (below_step (by repeat (first | (with_reducible first | exact HB.out | apply below_alloc | apply pw_below_drewN | apply below_drew1) | exact HB.out)) hb); clear HB; have HB := n0_; clear n0_; (try clear hb); (try clear hb2); (try clear hk); (try clear hi)) | ((with_reducible refine gate_callee (f := 30) rfl ?_); refine goesL_ (some 32) rfl rfl Tryd.func30 (by kernel_rfl) rfl #[.string t303] rfl (by (try simp only [List.map_toArray, List.map_cons, List.map_nil]); first | done | rfl | (simp only [List.length_drop, List.length_take]; rfl)) ?_; (with_reducible refine (impl_DecodeHex.calls t303 t306 true _ A13.out).mono ?_); rintro e w19 ⟨rfl, hb⟩; refine ⟨_, rfl, ?_⟩; have n0_ := Aside0.mk (below_step (by repeat (first | (with_reducible first | exact HB.out | apply below_alloc | apply pw_below_drewN | apply below_drew1) | exact HB.out)) hb); clear HB; have HB := n0_; clear n0_; (try clear hb); (try clear hb2); (try clear hk); (try clear hi)))
            go_ret
            exact ⟨by first | rfl | (simp [errW_none, errW_some] <;> rfl) | (simp [*, errW_none, errW_some] <;> rfl), by repeat (first | (with_reducible first | exact HB.out | apply below_alloc | apply pw_below_drewN | apply below_drew1) | exact HB.out)⟩
          · rw [if_neg c16] at H
            have c16b0 : (t306.toList == t302.toList) = false := beq_eq_false_iff_ne.mpr c16
            have c16b1 : (t306.toList != t302.toList) = true := bne_iff_ne.mpr c16
            exact absurd (Option.some.inj H) (by rw [hr_.out]; decide)
        · replace c15 := Bool.eq_false_iff.mpr c15
          subst c15
          have H1 : (some false) = some r := by rw [if_neg (show ¬ (false = true) by decide)] at H; exact H
          clear H
          have H := H1
          clear H1
          exact absurd (Option.some.inj H) (by rw [hr_.out]; decide)
      · replace c14 := Bool.eq_false_iff.mpr c14
        subst c14
        have H1 : (some false) = some r := by rw [if_neg (show ¬ (false = true) by decide)] at H; exact H
        clear H
        have H := H1
        clear H1
        exact absurd (Option.some.inj H) (by rw [hr_.out]; decide)
end Go.Proofs.YtfoldjbcnlhipaaDoor.A

namespace Go.Proofs.YtfoldjbcnlhipaaDoor.A
open Go.ChangeShapes Go.WideShapes Go.ChangeAt Go.RowKit Go.Proofs.YtfoldjbcnlhipaaDoorW.PrintWords Go.Proofs.YtfoldjbcnlhipaaDoorW.PrintLast
set_option linter.unusedVariables false
set_option linter.unusedSimpArgs false
def Opn {α : Type} (P : Program) (t : TypeId) (d : Kd α) (ok : α → Prop) : Prop :=
  ∀ {H : Type} {enc : TypeId × Value → H} (w : World) (fuel : Nat) (cs : List Value) (x : DataW H × List MemPlace),
    DataW.trod enc P w 0 (fun _ => true) true fuel t cs = some x → ∃ a, d.K w a cs ∧ ok a
theorem opn_int {P : Program} {t : TypeId} {k : IntKind} (ht : P.underlying t = some (.int k)) : Opn P t (Kd.int k) (fun a => (Lit.int k a).wf = true) := by
  intro H enc w fuel cs x h
  obtain ⟨n, rfl, _, hw⟩ := DataW.trod_int ht h
  exact ⟨n, rfl, hw⟩
theorem add_add_ (a : Addr) (i j : Nat) : (a.add i).add j = a.add (i + j) := by
  unfold Addr.add
  by_cases hi : i = 0
  · subst hi; simp
  · by_cases hj : j = 0
    · subst hj; simp
    · rw [if_neg hi, if_neg hj, if_neg (by omega)]
      simp; omega
theorem cells_at {w : World} {base : Nat} {a : Addr} {n : Nat} {cs : List Value} (h : w.cells? base a n = some cs) : cs.length = n ∧ ∀ i u, cs[i]? = some u → w.cell? (a.add i) = some u := by
  unfold World.cells? at h
  split at h
  · have l := mapM_some_length h
    simp only [List.length_range] at l
    refine ⟨l, fun i u hu => ?_⟩
    have hi := (List.getElem?_eq_some_iff.1 hu).1
    have := mapM_some_get h i i (by simp [show i < n by omega])
    rw [this]; exact hu
  · cases h
theorem choose_list {α : Type} {Q : Nat → α → Prop} (m : Nat) (h : ∀ i, i < m → ∃ v, Q i v) : ∃ l : List α, l.length = m ∧ ∀ i v, l[i]? = some v → Q i v := by
  induction m with
  | zero => exact ⟨[], rfl, fun i v hv => by simp at hv⟩
  | succ m ih =>
    obtain ⟨l, hl, hq⟩ := ih (fun i hi => h i (by omega))
    obtain ⟨v, hv⟩ := h m (by omega)
    refine ⟨l ++ [v], by simp [hl], fun i u hu => ?_⟩
    rcases Nat.lt_trichotomy i m with hi | hi | hi
    · rw [List.getElem?_append_left (by omega)] at hu
      exact hq i u hu
    · subst hi
      rw [List.getElem?_append_right (by omega), hl, Nat.sub_self] at hu
      have : v = u := by simpa using hu
      exact this ▸ hv
    · rw [List.getElem?_eq_none (by simp; omega)] at hu
      cases hu
theorem opn_slice {α : Type} {P : Program} {t e : TypeId} {d : Kd α} {ok : α → Prop} (ht : P.underlying t = some (.slice e)) (hs : P.cellsOf e = d.sz) (ho : Opn P e d ok) :
    Opn P t (Kd.slice e d) (fun l => l.length ≤ maxLen ∧ ∀ x ∈ l, ok x) := by
  intro H enc w fuel cs x h
  rcases DataW.trod_slice ht h with ⟨rfl, _⟩ | ⟨a, len, cap, elems, rest, n, _, rfl, _, _, hl, hm, hlen, hel, _, _⟩
  · exact ⟨[], ⟨none, 0, rfl, Nat.le_refl _, rfl, Nat.zero_le _, fun h => absurd h (by simp)⟩, by simp, by simp⟩
  · have each : ∀ i, i < len → ∃ v, ok v ∧ ∃ c, c.length = d.sz ∧ d.K w v c ∧ ∀ j u, c[j]? = some u → w.cell? (a.add (i * d.sz + j)) = some u := by
      intro i hi
      have h1 := hel i hi
      rw [List.getElem?_eq_getElem (by omega)] at h1
      obtain ⟨c, hc, hr⟩ := Option.bind_eq_some_iff.1 h1
      obtain ⟨v, hk, hv⟩ := ho w n c _ hr
      obtain ⟨_, hcell⟩ := cells_at hc
      refine ⟨v, hv, c, d.K_len hk, hk, fun j u hu => ?_⟩
      have := hcell j u hu
      rw [hs, add_add_] at this
      exact this
    obtain ⟨l, hll, hq⟩ := choose_list len each
    subst hll
    have hm' : l.length ≤ maxLen := Nat.le_trans hl hm
    refine ⟨l, ⟨some a, cap, rfl, hl, rfl, by unfold maxLen at hm'; omega, fun _ => ⟨a, rfl, fun j p hp => ?_⟩⟩, hm', fun v hv => ?_⟩
    · obtain ⟨_, c, h1, h2, h3⟩ := hq j p hp
      exact ⟨c, h1, h2, h3⟩
    · obtain ⟨i, hi, rfl⟩ := List.getElem_of_mem hv
      exact (hq i _ (List.getElem?_eq_getElem hi)).1
theorem opn_top {α : Type} {H : Type} {enc : TypeId × Value → H} {P : Program} {w : World} {t : TypeId} {d : Kd α} {ok : α → Prop} {v : Value} {x : DataW H} {ps : List MemPlace} (ho : Opn P t d ok)
    (h : DataW.Trod enc P w 0 (fun _ => true) true t v x ps) : ∃ a, d.K w a v.cells.toList ∧ ok a := by
  obtain ⟨fuel, hf⟩ := h
  exact ho w fuel _ _ hf
theorem slice_eq {a b : Option Addr} {l m c q : Nat} (h : (Value.slice a l c).cells.toList = [.slice b m q]) : a = b ∧ l = m ∧ c = q := by
  simpa [Value.cells] using h
abbrev ok5 (a : Int) : Prop := (Lit.int .u8 a).wf = true
abbrev ok29 (l : List Int) : Prop := l.length ≤ maxLen ∧ ∀ x ∈ l, ok5 x
theorem op5 : Opn Tryd.prog 5 (Kd.int .u8) ok5 := opn_int Tryd.underlying5
theorem op29 : Opn Tryd.prog 29 (Kd.slice 5 (Kd.int .u8)) ok29 := opn_slice Tryd.underlying29 (by kernel_rfl) op5
end Go.Proofs.YtfoldjbcnlhipaaDoor.A

namespace Go.Proofs.YtfoldjbcnlhipaaDoor.A
open Go.RowKit Go.Proofs.YtfoldjbcnlhipaaDoorW.PrintWords Go.Proofs.YtfoldjbcnlhipaaDoorW.PrintLast Go.Proofs.YtfoldjbcnlhipaaDoorW.PrintMore
set_option linter.unusedVariables false
set_option linter.unusedSimpArgs false
def Ev {α : Type} (F : Nat → Option α) (r : α) : Prop := ∃ K, ∀ k, K ≤ k → F k = some r
theorem Ev.mk {α : Type} {F : Nat → Option α} {r : α} (K : Nat) (h : ∀ k, K < k → F k = some r) : Ev F r := ⟨K + 1, fun k hk => h k hk⟩
theorem Ev.get {α : Type} {F : Nat → Option α} {r : α} (h : Ev F r) : ∃ k, F k = some r := by
  obtain ⟨K, h⟩ := h
  exact ⟨K, h K (Nat.le_refl _)⟩
theorem Ev.const {α : Type} {o : Option α} {r : α} (h : o = some r) : Ev (fun _ => o) r := ⟨0, fun _ _ => h⟩
theorem Ev.ret {α : Type} (r : α) : Ev (fun _ => some r) r := ⟨0, fun _ _ => rfl⟩
theorem Ev.bind {α β : Type} {F : Nat → Option α} {G : Nat → α → Option β} {a : α} {b : β} (h1 : Ev F a) (h2 : Ev (fun k => G k a) b) : Ev (fun k => (F k).bind (G k)) b := by
  obtain ⟨K1, h1⟩ := h1
  obtain ⟨K2, h2⟩ := h2
  refine ⟨max K1 K2, fun k hk => ?_⟩
  show (F k).bind (G k) = some b
  rw [h1 k (by omega)]
  exact h2 k (by omega)
theorem Ev.pos {α : Type} {c : Prop} [Decidable c] {A B : Nat → Option α} {r : α} (h : c) (hA : Ev A r) : Ev (fun k => if c then A k else B k) r := by
  obtain ⟨K, hA⟩ := hA
  exact ⟨K, fun k hk => by show (if c then A k else B k) = some r; rw [if_pos h]; exact hA k hk⟩
theorem Ev.neg {α : Type} {c : Prop} [Decidable c] {A B : Nat → Option α} {r : α} (h : ¬ c) (hB : Ev B r) : Ev (fun k => if c then A k else B k) r := by
  obtain ⟨K, hB⟩ := hB
  exact ⟨K, fun k hk => by show (if c then A k else B k) = some r; rw [if_neg h]; exact hB k hk⟩
theorem Ev.ite {α : Type} {c : Prop} [Decidable c] {A B : Nat → Option α} {a b : α} (hA : c → Ev A a) (hB : ¬ c → Ev B b) : Ev (fun k => if c then A k else B k) (if c then a else b) := by
  by_cases h : c
  · rw [if_pos h]; exact Ev.pos h (hA h)
  · rw [if_neg h]; exact Ev.neg h (hB h)
theorem Ev.succ {α : Type} {F : Nat → Option α} {r : α} (h : Ev (fun k => F (k + 1)) r) : Ev F r := by
  obtain ⟨K, h⟩ := h
  refine ⟨K + 1, fun k hk => ?_⟩
  obtain ⟨m, rfl⟩ : ∃ m, k = m + 1 := ⟨k - 1, by omega⟩
  exact h m (by omega)
theorem Ev.up {α : Type} {F : Nat → Option α} {r : α} (h : Ev F r) : Ev (fun k => F (k + 1)) r := by
  obtain ⟨K, h⟩ := h
  exact ⟨K, fun k hk => h (k + 1) (by omega)⟩
theorem Ev.to {α : Type} {F : Nat → Option α} {r s : α} (h : Ev F r) (e : r = s) : Ev F s := e ▸ h
theorem wid (x : Int) (h : -9223372036854775808 ≤ x) (h2 : x ≤ 9223372036854775807) : wrap64 x = x := by unfold wrap64; omega
abbrev mkS (l : List UInt8) : ByteArray := ⟨l.toArray⟩
theorem mkS_size (l : List UInt8) : (mkS l).size = l.length := by
  show l.toArray.size = l.length
  simp
theorem fmt_ev (n : Int) (h0 : -9223372036854775808 ≤ n) (h1 : n ≤ 9223372036854775807) : impl_FormatInt.f n = some (mkS (Go.Lib.itoa n)) := if_pos ⟨h0, h1⟩
end Go.Proofs.YtfoldjbcnlhipaaDoor.A

namespace Go.Proofs.YtfoldjbcnlhipaaDoor.A
open Go.RowKit Go.Proofs.YtfoldjbcnlhipaaDoorW.PrintWords Go.Proofs.YtfoldjbcnlhipaaDoorW.PrintLast Go.Proofs.YtfoldjbcnlhipaaDoorW.PrintMore
set_option linter.unusedVariables false
set_option linter.unusedSimpArgs false
theorem and255 (n : Int) : Go.bits .and .i64 n 255 = n % 256 := by
  have h255 : (BitVec.ofInt 64 255).toNat = 2 ^ 8 - 1 := by decide
  have key : (BitVec.ofInt 64 n &&& BitVec.ofInt 64 255).toNat = (n % ((2 ^ 64 : Nat) : Int)).toNat % 2 ^ 8 := by
    rw [BitVec.toNat_and, BitVec.toNat_ofInt, h255, Nat.and_two_pow_sub_one_eq_mod]
  show IntKind.i64.wrap ((BitVec.ofInt 64 n &&& BitVec.ofInt 64 255).toNat : Nat) = n % 256
  rw [key, IntKind.wrap_i64]
  omega
theorem new_loop (l : List Int) (hl : l.length ≤ 140737488351232) (d : Nat) : ∀ (k : Nat) (h i : Int), 0 ≤ i → (l.length : Int) - i ≤ d → d < k → ∃ h', spec_l01New.l0 k l h i = some (l, 0, h') := by
  induction d with
  | zero =>
    intro k h i h0 hd hk
    obtain ⟨k, rfl⟩ : ∃ m, k = m + 1 := ⟨k - 1, by omega⟩
    simp only [spec_l01New.l0]
    rw [if_neg (by omega)]
    exact ⟨_, rfl⟩
  | succ d ih =>
    intro k h i h0 hd hk
    obtain ⟨k, rfl⟩ : ∃ m, k = m + 1 := ⟨k - 1, by omega⟩
    simp only [spec_l01New.l0]
    by_cases h1 : i < (l.length : Int)
    · rw [if_pos h1]
      by_cases h2 : i < 4000
      · rw [if_pos h2, if_pos h0]
        have e : wrap64 (i + 1) = i + 1 := by unfold wrap64; omega
        rw [e]
        exact ih k _ _ (by omega) (by omega) (by omega)
      · rw [if_neg h2]
        exact ⟨_, rfl⟩
    · rw [if_neg h1]
      exact ⟨_, rfl⟩
theorem new_some (l : List Int) (hl : l.length ≤ 140737488351232) (k : Nat) (hk : l.length < k) : ∃ h', spec_l01New.f k l = some (l, 0, h') :=
  new_loop l hl l.length k _ 0 (by omega) (by omega) hk
theorem byte_some (l : List Int) (hl : l.length ≤ 140737488351232) (i h : Int) (hi : 0 ≤ i) : ∃ v i' h', spec_l01Byte.f l i h = some (v, i', h') ∧ 0 ≤ v ∧ v ≤ 255 ∧ 0 ≤ i' := by
  unfold spec_l01Byte.f
  simp only [and255]
  by_cases h1 : i < (l.length : Int)
  · rw [if_pos h1, if_pos hi]
    have e : wrap64 (i + 1) = i + 1 := by unfold wrap64; omega
    rw [e]
    exact ⟨_, _, _, rfl, by omega, by omega, by omega⟩
  · rw [if_neg h1]
    exact ⟨_, _, _, rfl, by omega, by omega, by omega⟩
theorem tmod_in (x n : Int) (hx : 0 ≤ x) (hn : 0 < n) : 0 ≤ Int.tmod x n ∧ Int.tmod x n < n :=
  ⟨Int.tmod_nonneg n hx, Int.tmod_lt_of_pos x hn⟩
theorem below_some (l : List Int) (hl : l.length ≤ 140737488351232) (i h n : Int) (hi : 0 ≤ i) : ∃ v i' h', spec_l01Below.f l i h n = some (v, i', h') ∧ 0 ≤ v ∧ (n ≤ 0 → v = 0) ∧ (0 < n → v < n) ∧ 0 ≤ i' := by
  unfold spec_l01Below.f
  by_cases h0 : n ≤ 0
  · rw [if_pos h0]
    exact ⟨_, _, _, rfl, by omega, fun _ => rfl, fun _ => by omega, hi⟩
  · rw [if_neg h0]
    have hne : ¬ n = 0 := by omega
    by_cases h1 : n ≤ 256
    · rw [if_pos h1]
      obtain ⟨v, i1, x1, e1, a1, b1, c1⟩ := byte_some l hl i h hi
      rw [e1]
      simp only [Option.bind_some]
      rw [if_neg hne]
      exact ⟨_, _, _, rfl, (tmod_in v n a1 (by omega)).1, fun _ => by omega, fun _ => (tmod_in v n a1 (by omega)).2, c1⟩
    · rw [if_neg h1]
      obtain ⟨v1, i1, x1, e1, a1, b1, c1⟩ := byte_some l hl i h hi
      rw [e1]
      simp only [Option.bind_some]
      obtain ⟨v2, i2, x2, e2, a2, b2, c2⟩ := byte_some l hl i1 x1 c1
      rw [e2]
      simp only [Option.bind_some]
      obtain ⟨v3, i3, x3, e3, a3, b3, c3⟩ := byte_some l hl i2 x2 c2
      rw [e3]
      simp only [Option.bind_some]
      obtain ⟨v4, i4, x4, e4, a4, b4, c4⟩ := byte_some l hl i3 x3 c3
      rw [e4]
      simp only [Option.bind_some]
      rw [if_neg hne]
      have w : wrap64 ((wrap64 ((wrap64 ((wrap64 (v1 * 16777216)) + (wrap64 (v2 * 65536)))) + (wrap64 (v3 * 256)))) + v4) = v1 * 16777216 + v2 * 65536 + v3 * 256 + v4 := by
        unfold wrap64; omega
      rw [w]
      exact ⟨_, _, _, rfl, (tmod_in _ n (by omega) (by omega)).1, fun _ => by omega, fun _ => (tmod_in _ n (by omega) (by omega)).2, c4⟩
theorem once_some (l : List Int) (hl : l.length ≤ 140737488351232) (i h n : Int) (hi : 0 ≤ i) : ∃ (b : Bool) (i' h' : Int), spec_l01Once.f l i h n = some (b, i', h') ∧ 0 ≤ i' := by
  obtain ⟨v, i1, x1, e1, _, _, _, c1⟩ := below_some l hl i h n hi
  unfold spec_l01Once.f
  rw [e1]
  exact ⟨_, _, _, rfl, c1⟩
theorem Ev.of_mono {α : Type} {F : Nat → Option α} {r : α} (hm : ∀ k, LeO (F k) (F (k + 1))) {k0 : Nat} (h : F k0 = some r) : Ev F r := by
  refine ⟨k0, fun k hk => ?_⟩
  obtain ⟨d, rfl⟩ : ∃ d, k = k0 + d := ⟨k - k0, by omega⟩
  clear hk
  induction d with
  | zero => exact h
  | succ d ih => exact hm _ _ ih
theorem strOfNums_size (l : List Int) : (strOfNums l).size = l.length := by
  unfold strOfNums
  show (List.toArray _).size = _
  simp
theorem long_ev (n v : Int) (hn : n ≤ 100000) : ∀ (d : Nat) (i : Int) (l : List Int), 0 ≤ i → (n - i).toNat = d → (l.length : Int) = n → Ev (fun k => spec_l01Long.l0 k n v l i) (strOfNums ((List.range d).foldl (fun a j => a.set (i.toNat + j) v) l))
  | 0, i, l, h0, hd, hl => by
    refine Ev.succ ?_
    simp only [spec_l01Long.l0]
    exact Ev.neg (by omega) (Ev.ret _)
  | d + 1, i, l, h0, hd, hl => by
    refine Ev.succ ?_
    simp only [spec_l01Long.l0]
    rw [wid (i + 1) (by omega) (by omega)]
    refine Ev.pos (by omega) (Ev.pos (by omega) (Ev.pos (by omega) ?_))
    refine (long_ev n v hn d (i + 1) (l.set i.toNat v) (by omega) (by omega) (by rw [List.length_set]; exact hl)).to ?_
    rw [List.range_succ_eq_map, List.foldl_cons, List.foldl_map, Nat.add_zero]
    congr 2
    funext a j
    congr 1
    omega
theorem long_some (n v : Int) (h0 : 0 ≤ n) (hn : n ≤ 100000) : ∃ s, Ev (fun k => spec_l01Long.f k n v) s ∧ (s.size : Int) = n := by
  have h := long_ev n v hn n.toNat 0 (List.replicate n.toNat 0) (by omega) (by omega) (by simp; omega)
  generalize hg : strOfNums (List.foldl (fun a j => a.set (Int.toNat 0 + j) v) (List.replicate n.toNat 0) (List.range n.toNat)) = s at h
  have hf : Ev (fun k => spec_l01Long.f k n v) s := by
    unfold spec_l01Long.f
    exact Ev.pos h0 (Ev.pos (by omega) h)
  refine ⟨s, hf, ?_⟩
  rw [← hg]
  · rw [strOfNums_size]
    have : ∀ (L : List Nat) (l : List Int), (L.foldl (fun a j => a.set ((0 : Int).toNat + j) v) l).length = l.length := by
      intro L
      induction L with
      | nil => intro l; rfl
      | cons x L ih => intro l; rw [List.foldl_cons, ih, List.length_set]
    rw [this, List.length_replicate]
    omega
theorem text_some (l : List Int) (hl : l.length ≤ 140737488351232) (n : Int) (hn : n ≤ 100000) : ∀ (d : Nat) (o : List Int) (j i h : Int), 0 ≤ j → (n - j).toNat = d → (o.length : Int) = j → 0 ≤ i → ∃ s i' h', Ev (fun k => spec_l01Text.l0 k n o j l i h) (s, i', h') ∧ (s.size : Int) ≤ j + d
  | 0, o, j, i, h, j0, hd, ho, hi => by
    refine ⟨strOfNums o, i, h, Ev.succ ?_, ?_⟩
    · simp only [spec_l01Text.l0]
      exact Ev.neg (by omega) (Ev.ret _)
    · rw [strOfNums_size]; omega
  | d + 1, o, j, i, h, j0, hd, ho, hi => by
    obtain ⟨v, i1, h1, e1, _, _, c1⟩ := byte_some l hl i h hi
    obtain ⟨s, i2, h2, e2, hs⟩ := text_some l hl n hn d (o ++ [v % 256]) (j + 1) i1 h1 (by omega) (by omega) (by simp; omega) c1
    refine ⟨s, i2, h2, Ev.succ ?_, by omega⟩
    simp only [spec_l01Text.l0]
    rw [wid (j + 1) (by omega) (by omega)]
    exact Ev.pos (by omega) (Ev.bind (Ev.const e1) (Ev.pos (by omega) e2))
theorem draw_hex (l : List Int) (hl : l.length ≤ 140737488351232) : ∃ s, Ev (fun k => spec_DrawEncodeHex.f k l) s ∧ s.size ≤ 30000 := by
  unfold spec_DrawEncodeHex.f
  obtain ⟨x0, e0⟩ := new_some l hl (l.length + 1) (by omega)
  have e0' := Ev.of_mono (fun k => spec_l01New.mono l k) e0
  obtain ⟨b, i1, h1, e1, c1⟩ := once_some l hl 0 x0 60 (by omega)
  by_cases c : b = true
  · obtain ⟨v, i2, h2, e2, v0, _, v1, c2⟩ := below_some l hl i1 h1 2 c1
    have v2 := v1 (by omega)
    obtain ⟨s, e3, hs⟩ := long_some (20000 + v) 200 (by omega) (by omega)
    refine ⟨s, Ev.bind e0' (Ev.bind (Ev.const e1) (Ev.pos c (Ev.bind (Ev.const e2) ?_))), by omega⟩
    rw [wid (20000 + v) (by omega) (by omega)]
    exact Ev.bind e3 (Ev.ret _)
  · obtain ⟨v, i2, h2, e2, v0, _, v1, c2⟩ := below_some l hl i1 h1 30 c1
    have v2 := v1 (by omega)
    obtain ⟨s, i3, h3, e3, hs⟩ := text_some l hl v (by omega) v.toNat [] 0 i2 h2 (by omega) (by omega) rfl c2
    refine ⟨s, Ev.bind e0' (Ev.bind (Ev.const e1) (Ev.neg c (Ev.bind (Ev.const e2) (Ev.bind (a := (s, i3, h3)) ?_ (Ev.ret _))))), by omega⟩
    unfold spec_l01Text.f
    refine Ev.neg (by omega) (Ev.succ ?_)
    simp only [spec_l01Text.j0]
    exact e3
theorem val_hexD (n : Nat) (h : n < 16) : valD ((hexD n).toNat : Int) = n := by
  have key : ∀ x : Fin 16, valD ((hexD x.val).toNat : Int) = (x.val : Int) := by decide +kernel
  exact key ⟨n, h⟩
theorem decA_hexL : ∀ (l acc : List UInt8), decA acc (hexL l) = some (acc ++ l)
  | [], acc => by simp [hexL, decA]
  | b :: l, acc => by
    have hb := b.toNat_lt
    rw [hexL, decA, val_hexD _ (by omega), val_hexD _ (by omega), if_neg (by omega), decA_hexL l _]
    have e : UInt8.ofNat (16 * ((b.toNat / 16 : Nat) : Int) + ((b.toNat % 16 : Nat) : Int)).toNat = b := by
      rw [show (16 * ((b.toNat / 16 : Nat) : Int) + ((b.toNat % 16 : Nat) : Int)).toNat = b.toNat by omega]
      simp
    rw [e]
    simp
theorem pureFnHexText : ∀ (l0 : List Int), ok29 l0 → ∃ k, laws_FnHexText.f k l0 = some true := by
  rintro l ⟨hl, _⟩
  unfold maxLen at hl
  refine Ev.get ?_
  unfold laws_FnHexText.f
  refine Ev.bind (Ev.const rfl) ?_
  by_cases c : (l.length : Int) > 1048576
  · exact Ev.pos (decide_eq_true c) (Ev.ret _)
  · refine Ev.neg (by simpa using c) ?_
    obtain ⟨s, e1, hs⟩ := draw_hex l (by omega)
    by_cases cs : (s.size : Int) > 20000
    · have e2 : impl_EncodeHex.f s = some (⟨#[]⟩, false) := congrArg some (if_pos cs)
      refine Ev.bind e1 (Ev.bind (Ev.const e2) (Ev.pos cs (Ev.neg (by simp) (Ev.pos ?_ (Ev.bind (Ev.const (fmt_ev 10 (by omega) (by omega))) ((Ev.ret _).to ?_))))))
      · decide +kernel
      · decide +kernel
    · have e2 : impl_EncodeHex.f s = some (mkS (hexL s.data.toList), true) := congrArg some (if_neg cs)
      have hl2 := hexL_len s.data.toList
      have hd := data_length s
      have hz := mkS_size (hexL s.data.toList)
      have e3 : impl_DecodeHex.f (mkS (hexL s.data.toList)) = some (s, true) := by
        unfold impl_DecodeHex.f
        rw [if_neg (by omega), if_pos ⟨by omega, by omega⟩]
        show some (decR (decA [] (hexL s.data.toList))) = _
        rw [decA_hexL]
        rfl
      refine Ev.bind e1 (Ev.bind (Ev.const e2) (Ev.neg cs (Ev.bind (Ev.const e3) (Ev.pos rfl (Ev.pos rfl (Ev.pos rfl ((Ev.ret _).to ?_)))))))
      rw [beq_iff_eq, wid (2 * (s.size : Int)) (by omega) (by omega)]
      show ((mkS (hexL s.data.toList)).size : Int) = _
      omega
end Go.Proofs.YtfoldjbcnlhipaaDoor.A
