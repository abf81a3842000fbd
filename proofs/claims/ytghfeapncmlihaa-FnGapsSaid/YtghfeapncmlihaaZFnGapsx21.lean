/- What the proof of the law FnGaps uses: lemmas, the Lean functions of the Go functions that it reaches, their contracts, and the pure statement's proof. -/
import Derived.Test.YtghfeapncmlihaaZFnGapsx16
import Derived.Test.YtghfeapncmlihaaZFnGapsx17
import Derived.Test.YtghfeapncmlihaaZFnGapsx19
import Derived.Test.YtghfeapncmlihaaZFnGapsx20
import Derived.Test.YtghfeapncmlihaaZFnGapsh
namespace Go.Proofs.Ytghfeapncmlihaa.A
open Go.RowKit Go.Proofs.YtghfeapncmlihaaW.PrintWords Go.Proofs.YtghfeapncmlihaaW.PrintLast Go.Proofs.YtghfeapncmlihaaW.PrintMore
attribute [local go_sem] max2_int min2_int max_two min_two max_three min_three max_four min_four   
set_option linter.unusedVariables false
set_option linter.unusedSimpArgs false
def slices_Clone_int_int.f (l0 : List Int) : Option (List Int) := (some (([] : List Int) : List Int)).bind fun y199 => (if y199.length + l0.length < 17592186044416 then (some (y199 ++ l0)) else (none))
set_option maxHeartbeats 8000000 in
set_option maxRecDepth 100000 in
theorem slices_Clone_int_int.calls (A0 : Option Addr) (c0 : Nat) (l0 : List Int) (r : List Int) (w : World) (hr0 : Kd.C (Kd.int .i64) w A0 l0.length l0) (hc0 : l0.length ≤ c0) (h : slices_Clone_int_int.f l0 = some r) :
  Calls Try.prog 64 #[.slice A0 l0.length c0] w fun e w' => ∃ v0_ : Value, e = .returned (v0_) ∧ Kd.R (Kd.int .i64) 3 w' w.heap.size (fun _ => True) v0_ r ∧ Below w.heap.size w w' := by
 have heq_ := fun W => Go.Lib.run_eql_slice_nil (P := Try.prog) W 22 3 A0 l0.length c0 0 0 Try.underlying22
 by_cases hA_ : A0.isNone = true
 ·obtain rfl : A0 = none := by simpa using hA_
  obtain rfl : l0 = [] := by
   rcases l0 with _ | ⟨x, xs⟩
   ·rfl
   ·obtain ⟨ad, e, _⟩ := hr0.2.2 (by simp)
    cases e
  obtain rfl : r = [] := by
   have h2 := h
   simp [slices_Clone_int_int.f] at h2
   first | exact h2 | exact h2.symm
  clear hA_ h hr0 heq_
  have heq_ := fun W => Go.Lib.run_eql_slice_nil (P := Try.prog) W 22 3 none 0 c0 0 0 Try.underlying22
  show Calls _ _ #[.slice none 0 c0] w _
  go_enter Try.func64, Try.ntmps64
  go_wp2
  go_ret
  exact ⟨_, rfl, Kd.R_nil _ _ _ _ _, Below.refl _ _⟩
 replace hA_ : A0.isNone = false := Bool.eq_false_iff.mpr hA_
 have HR0 := Aside0.mk hr0
 have HC0 := Aside0.mk hc0
 clear hr0 hc0
 have HB := Aside0.mk (Below.refl w.heap.size w)
 have H : ((some (([] : List Int) : List Int)).bind fun y199 => (if y199.length + l0.length < 17592186044416 then (some (y199 ++ l0)) else (none))) = some r := h
 clear h
 obtain ⟨y199, hy199⟩ : ∃ y_ : List Int, y_ = (([] : List Int)) := ⟨_, rfl⟩
 replace H : (if y199.length + l0.length < 17592186044416 then (some (y199 ++ l0)) else (none)) = some r := by first | (rw [hy199]; with_reducible exact H) | (have H2_ := (Option.bind_some _ _).symm.trans H; rw [hy199]; with_reducible exact H2_) | (have H2_ := (Option.bind_some _ _).symm.trans H; with_reducible exact H2_) | with_reducible exact H | (rw [hy199]; exact H) | exact H
 have Ny199 := Aside0.mk hy199
 clear hy199
 by_cases c2 : y199.length + l0.length < 17592186044416
 ·rw [if_pos c2] at H
  have LMc2 := Aside0.mk c2
  clear c2
  obtain ⟨y202, hy202⟩ : ∃ y_ : List Int, y_ = (y199 ++ l0) := ⟨_, rfl⟩
  replace H : (some y202) = some r := by first | (rw [hy202]; with_reducible exact H) | (have H2_ := (Option.bind_some _ _).symm.trans H; rw [hy202]; with_reducible exact H2_) | (have H2_ := (Option.bind_some _ _).symm.trans H; with_reducible exact H2_) | with_reducible exact H | (rw [hy202]; exact H) | exact H
  have Ny202 := Aside0.mk hy202
  clear hy202
  obtain rfl := Option.some.inj H
  go_enter Try.func64, Try.ntmps64
  go_wp2_with (first | ((with_reducible refine gate_dst (N := 5) rfl ?_); refine Kd.R_lit (Kd.int .i64) _ 3 ?hg (N := 5) ?hd (xs := ([] : List Int)) (inner := []) (ok := fun _ => True) (okp := fun _ => True) ?hr ?hp (fun _ hk => hk) trivial (Below.refl _ _) (Nat.le_refl _) (by simp) ?_; (case hd => rfl); (case hg => rfl); (case hr => first | (go_simp; done) | (go_simp; rfl)); (case hp => exact (Reps.none _ _)); intro v200 w3 ho4 hb hg_ hnew_; clear hg_ hnew_; (first | rw [← Ny199.out] at ho4 | (simp only [Int.reduceToNat] at ho4; rw [← Ny199.out] at ho4)); have HO201 := Aside0.mk (Kd.R_lower ho4 (below_size (bl HB.out))); replace HB := Aside0.mk (below_step (bl HB.out) hb); clear hb ho4) | ((with_reducible refine gate_builtin (b := .append) (xs := #[.tmp 5, .tmp 6]) rfl ?_); at_builtin; refine Kd.R_append_rows (Kd.int .i64) (w0 := w) w.heap.size rfl (.tmp 5) (.tmp 6) 22 3 (.int .i64 0) 8 rfl Try.underlying22 info3 rfl (by decide) (by omega) v200 y199 l0 _ _ _ (fun _ => True) (fun _ => False) rfl rfl ?aO ?aR (fun _ _ h => h) (fun _ h => h.elim) ?aF ?aB ?aS ?aL ?_; (case aR => exact cb (Kd.C_below HR0.out HB.out)); (case aB => exact (bl HB.out)); (case aF => exact (fun _ _ => trivial)); (case aO => exact (rk HO201.out)); (case aS => exact (below_size (bl HB.out))); (case aL => have := LMc2.out; omega); intro v203 w5 ho hb hg hat; rw [← Ny202.out] at ho; replace HB := Aside0.mk (hb); have HO204 := Aside0.mk (ho); clear HO201; clear ho hb hg hat))
  go_ret
  exact ⟨_, by first | rfl | (simp [errW_none, errW_some] <;> rfl) | (simp [*, errW_none, errW_some] <;> rfl), rk HO204.out, bl HB.out⟩
 ·rw [if_neg c2] at H
  exact absurd H (by simp)
end Go.Proofs.Ytghfeapncmlihaa.A

namespace Go.Proofs.Ytghfeapncmlihaa.A
open Go.RowKit Go.Proofs.YtghfeapncmlihaaW.PrintWords Go.Proofs.YtghfeapncmlihaaW.PrintLast Go.Proofs.YtghfeapncmlihaaW.PrintMore
attribute [local go_sem] max2_int min2_int max_two min_two max_three min_three max_four min_four   
set_option linter.unusedVariables false
set_option linter.unusedSimpArgs false
mutual
def spec_SetJam.l0 : Nat → Int → Bool → Int → Int → List Int → List (S71) → Int → List Int → List (S71) → Option (Int × List Int × (List (S71)) × Bool)
 | 0, _, _, _, _, _, _, _, _, _ => none
 | k + 1, x1, x2, x9, x371000, x371001, x371002, x380000, x380001, x380002 => if x9 < (x371002.length : Int) then ((spec_ColumnOk.f k x371000 x371001 x371002).bind fun t380 => (spec_SetJam.j1 k x1 x2 x9 t380 x371000 x371001 x371002 x380000 x380001 x380002)) else (spec_SetJam.j1 k x1 x2 x9 false x371000 x371001 x371002 x380000 x380001 x380002)
def spec_SetJam.j1 : Nat → Int → Bool → Int → Bool → Int → List Int → List (S71) → Int → List Int → List (S71) → Option (Int × List Int × (List (S71)) × Bool)
 | 0, _, _, _, _, _, _, _, _, _, _ => none
 | k + 1, x1, x2, x9, x20, x371000, x371001, x371002, x380000, x380001, x380002 => if x20 = true then (if 0 ≤ x9 then (if x9 < (x371002.length : Int) then ((spec_l01In.f x1 ((rd_T71 x371002 x9).f0) (wrap64 ((wrap64 (((rd_T71 x371002 x9).f0) + ((rd_T71 x371002 x9).f1))) - 1))).bind fun t384 => (if t384 = true then (if x9 < (x380002.length : Int) then (some (x380000, x380001, (x380002.set (x9 : Int).toNat (⟨(rd_T71 x380002 x9).f0, (rd_T71 x380002 x9).f1, (rd_T71 x380002 x9).f2, x2⟩ : S71)), true)) else (none)) else (spec_SetJam.l0 k x1 x2 (wrap64 (x9 + 1)) x371000 x371001 x371002 x380000 x380001 x380002))) else (none)) else (none)) else (some (x380000, x380001, x380002, false))
end
def spec_SetJam.f (k : Nat) (a0_0 : Int) (l0_1 : List Int) (l0_2 : List (S71)) (a1 : Int) (a2 : Bool) : Option (Int × List Int × (List (S71)) × Bool) := (spec_l02Copy.f a0_0 l0_1 l0_2).bind fun bt372 => (spec_SetJam.l0 k a1 a2 0 a0_0 l0_1 l0_2 bt372.1 bt372.2.1 bt372.2.2)
set_option maxHeartbeats 8000000 in
set_option maxRecDepth 100000 in
theorem spec_SetJam.calls (k : Nat) (a0_0 : Int) (A0_1 : Option Addr) (c0_1 : Nat) (l0_1 : List Int) (A0_2 : Option Addr) (c0_2 : Nat) (l0_2 : List (S71)) (a1 : Int) (a2 : Bool) (r1 : Int) (r2 : List Int) (r3 : List (S71)) (r4 : Bool) (w : World) (hr0_1 : Kd.C (Kd.int .i64) w A0_1 l0_1.length l0_1) (hc0_1 : l0_1.length ≤ c0_1) (hr0_2 : Kd.C k71 w A0_2 l0_2.length l0_2) (hc0_2 : l0_2.length ≤ c0_2) (h : spec_SetJam.f k a0_0 l0_1 l0_2 a1 a2 = some (r1, r2, r3, r4)) :
  Calls Try.prog 34 #[.agg #[.int .i64 a0_0, .slice A0_1 l0_1.length c0_1, .slice A0_2 l0_2.length c0_2], .int .i64 a1, .bool a2] w fun e w' => ∃ v1_ v2_ : Value, e = .returned (.tuple #[.agg #[.int .i64 r1, v1_, v2_], .bool r4]) ∧ Kd.R (Kd.int .i64) 3 w' w.heap.size (fun _ => True) v1_ r2 ∧ Kd.R k71 71 w' w.heap.size (fun _ => True) v2_ r3 ∧ Below w.heap.size w w' := by
 have hu30 := Try.underlying30
 have HR0_1 := Aside0.mk hr0_1
 have HC0_1 := Aside0.mk hc0_1
 clear hr0_1 hc0_1
 have HR0_2 := Aside0.mk hr0_2
 have HC0_2 := Aside0.mk hc0_2
 clear hr0_2 hc0_2
 have HB := Aside0.mk (Below.refl w.heap.size w)
 have H : ((spec_l02Copy.f a0_0 l0_1 l0_2).bind fun bt372 => (spec_SetJam.l0 k a1 a2 0 a0_0 l0_1 l0_2 bt372.1 bt372.2.1 bt372.2.2)) = some (r1, r2, r3, r4) := h
 clear h
 replace H := Option.bind_eq_some_iff.mp H
 obtain ⟨⟨t372, t373, t376⟩, A40, H⟩ := H
 try dsimp only at H
 have A4 := Aside0.mk A40
 clear A40
 have H' := Aside0.mk H
 clear H
 go_enter Try.func34, Try.ntmps34
 go_wp2_with (first | ((with_reducible refine gate_dst (N := 3) rfl ?_); refine bx (cs := #[.int .i64 a0_0, .slice A0_1 l0_1.length c0_1, .slice A0_2 l0_2.length c0_2]) (t := 30) fun gb370 hg w5 hbox hb => ?_; have BK370 := Aside0.mk (hbox); have GW370 := Aside0.mk (gs HB.out hg); have GE370 := Aside0.mk (gs HB.out hg); replace HB := Aside0.mk (below_step (bl HB.out) hb); clear hb hbox hg) | ((with_reducible refine gate_dst (N := 6) rfl ?_); refine bx (cs := #[.int .i64 0, .slice none 0 0, .slice none 0 0]) (t := 30) fun gb371 hg w6 hbox hb => ?_; have BK371 := Aside0.mk (hbox); have GW371 := Aside0.mk (gs HB.out hg); have GE371 := Aside0.mk (gs HB.out hg); replace HB := Aside0.mk (below_step (bl HB.out) hb); have NB370_371 := Aside0.mk ((nl BK370.out hg)); have NB371_370 := Aside0.mk ((ng BK370.out hg)); replace BK370 := Aside0.mk (bb BK370.out hb); clear hb hbox hg; have hnb7 := NB370_371.out; have hnc7 := NB371_370.out; obtain ⟨hcz8_0, hcz8_1, hcz8_2, hfz8_0, hfz8_1, hfz8_2⟩ := cz3 BK370.out) | (go_at_call 71; (with_reducible refine (spec_l02Copy.calls a0_0 _ _ l0_1 _ _ l0_2 t372 t373 t376 _ ?side1 ?side2 ?side3 ?side4 A4.out).mono ?_); (case side1 => exact cb (Kd.C_below HR0_1.out HB.out)); (case side2 => exact HC0_1.out); (case side3 => exact cb (Kd.C_below HR0_2.out HB.out)); (case side4 => exact HC0_2.out); rintro e w9 ⟨v374, v377, rfl, ho0, ho1, hb⟩; have HO375 := Aside0.mk (Kd.R_lower ho0 (below_size (bl HB.out))); have HO378 := Aside0.mk (Kd.R_lower ho1 (below_size (bl HB.out))); replace BK370 := Aside0.mk (bb BK370.out hb); replace BK371 := Aside0.mk (bb BK371.out hb); replace HB := Aside0.mk (below_step (bl HB.out) hb); (try clear hb); (try clear hb2); (try clear hk); (try clear hi); (try clear ho0); (try clear ho1)) | ((with_reducible refine gate_dst (N := 8) rfl ?_); refine bx (cs := #[.int .i64 0, .slice none 0 0, .slice none 0 0]) (t := 30) fun gb379 hg w10 hbox hb => ?_; replace HO375 := Aside0.mk (Kd.R_below (rk HO375.out) hb); replace HO378 := Aside0.mk (Kd.R_below (rk HO378.out) hb); have BK379 := Aside0.mk (hbox); have GW379 := Aside0.mk (gs HB.out hg); have GE379 := Aside0.mk (gs HB.out hg); replace HB := Aside0.mk (below_step (bl HB.out) hb); have NB370_379 := Aside0.mk ((nl BK370.out hg)); have NB379_370 := Aside0.mk ((ng BK370.out hg)); replace BK370 := Aside0.mk (bb BK370.out hb); have NB371_379 := Aside0.mk ((nl BK371.out hg)); have NB379_371 := Aside0.mk ((ng BK371.out hg)); replace BK371 := Aside0.mk (bb BK371.out hb); clear hb hbox hg; have hnb11 := NB379_370.out; have hnc11 := NB370_379.out; have hnb12 := NB379_371.out; have hnc12 := NB371_379.out; obtain ⟨hcz13_0, hcz13_1, hcz13_2, hfz13_0, hfz13_1, hfz13_2⟩ := cz3 BK379.out; obtain ⟨Ao14, co14, eo14⟩ := Kd.R_slice HO375.out; subst eo14; obtain ⟨Ao15, co15, eo15⟩ := Kd.R_slice HO378.out; subst eo15))
 repeat (go_quiet (first | ((with_reducible refine gate_dst (N := 3) rfl ?_); refine bx (cs := #[.int .i64 a0_0, .slice A0_1 l0_1.length c0_1, .slice A0_2 l0_2.length c0_2]) (t := 30) fun gb370 hg w5 hbox hb => ?_; have BK370 := Aside0.mk (hbox); have GW370 := Aside0.mk (gs HB.out hg); have GE370 := Aside0.mk (gs HB.out hg); replace HB := Aside0.mk (below_step (bl HB.out) hb); clear hb hbox hg) | ((with_reducible refine gate_dst (N := 6) rfl ?_); refine bx (cs := #[.int .i64 0, .slice none 0 0, .slice none 0 0]) (t := 30) fun gb371 hg w6 hbox hb => ?_; have BK371 := Aside0.mk (hbox); have GW371 := Aside0.mk (gs HB.out hg); have GE371 := Aside0.mk (gs HB.out hg); replace HB := Aside0.mk (below_step (bl HB.out) hb); have NB370_371 := Aside0.mk ((nl BK370.out hg)); have NB371_370 := Aside0.mk ((ng BK370.out hg)); replace BK370 := Aside0.mk (bb BK370.out hb); clear hb hbox hg; have hnb7 := NB370_371.out; have hnc7 := NB371_370.out; obtain ⟨hcz8_0, hcz8_1, hcz8_2, hfz8_0, hfz8_1, hfz8_2⟩ := cz3 BK370.out) | (go_at_call 71; (with_reducible refine (spec_l02Copy.calls a0_0 _ _ l0_1 _ _ l0_2 t372 t373 t376 _ ?side1 ?side2 ?side3 ?side4 A4.out).mono ?_); (case side1 => exact cb (Kd.C_below HR0_1.out HB.out)); (case side2 => exact HC0_1.out); (case side3 => exact cb (Kd.C_below HR0_2.out HB.out)); (case side4 => exact HC0_2.out); rintro e w9 ⟨v374, v377, rfl, ho0, ho1, hb⟩; have HO375 := Aside0.mk (Kd.R_lower ho0 (below_size (bl HB.out))); have HO378 := Aside0.mk (Kd.R_lower ho1 (below_size (bl HB.out))); replace BK370 := Aside0.mk (bb BK370.out hb); replace BK371 := Aside0.mk (bb BK371.out hb); replace HB := Aside0.mk (below_step (bl HB.out) hb); (try clear hb); (try clear hb2); (try clear hk); (try clear hi); (try clear ho0); (try clear ho1)) | ((with_reducible refine gate_dst (N := 8) rfl ?_); refine bx (cs := #[.int .i64 0, .slice none 0 0, .slice none 0 0]) (t := 30) fun gb379 hg w10 hbox hb => ?_; replace HO375 := Aside0.mk (Kd.R_below (rk HO375.out) hb); replace HO378 := Aside0.mk (Kd.R_below (rk HO378.out) hb); have BK379 := Aside0.mk (hbox); have GW379 := Aside0.mk (gs HB.out hg); have GE379 := Aside0.mk (gs HB.out hg); replace HB := Aside0.mk (below_step (bl HB.out) hb); have NB370_379 := Aside0.mk ((nl BK370.out hg)); have NB379_370 := Aside0.mk ((ng BK370.out hg)); replace BK370 := Aside0.mk (bb BK370.out hb); have NB371_379 := Aside0.mk ((nl BK371.out hg)); have NB379_371 := Aside0.mk ((ng BK371.out hg)); replace BK371 := Aside0.mk (bb BK371.out hb); clear hb hbox hg; have hnb11 := NB379_370.out; have hnc11 := NB370_379.out; have hnb12 := NB379_371.out; have hnc12 := NB371_379.out; obtain ⟨hcz13_0, hcz13_1, hcz13_2, hfz13_0, hfz13_1, hfz13_2⟩ := cz3 BK379.out; obtain ⟨Ao14, co14, eo14⟩ := Kd.R_slice HO375.out; subst eo14; obtain ⟨Ao15, co15, eo15⟩ := Kd.R_slice HO378.out; subst eo15)); try go_wp2_with (first | ((with_reducible refine gate_dst (N := 3) rfl ?_); refine bx (cs := #[.int .i64 a0_0, .slice A0_1 l0_1.length c0_1, .slice A0_2 l0_2.length c0_2]) (t := 30) fun gb370 hg w5 hbox hb => ?_; have BK370 := Aside0.mk (hbox); have GW370 := Aside0.mk (gs HB.out hg); have GE370 := Aside0.mk (gs HB.out hg); replace HB := Aside0.mk (below_step (bl HB.out) hb); clear hb hbox hg) | ((with_reducible refine gate_dst (N := 6) rfl ?_); refine bx (cs := #[.int .i64 0, .slice none 0 0, .slice none 0 0]) (t := 30) fun gb371 hg w6 hbox hb => ?_; have BK371 := Aside0.mk (hbox); have GW371 := Aside0.mk (gs HB.out hg); have GE371 := Aside0.mk (gs HB.out hg); replace HB := Aside0.mk (below_step (bl HB.out) hb); have NB370_371 := Aside0.mk ((nl BK370.out hg)); have NB371_370 := Aside0.mk ((ng BK370.out hg)); replace BK370 := Aside0.mk (bb BK370.out hb); clear hb hbox hg; have hnb7 := NB370_371.out; have hnc7 := NB371_370.out; obtain ⟨hcz8_0, hcz8_1, hcz8_2, hfz8_0, hfz8_1, hfz8_2⟩ := cz3 BK370.out) | (go_at_call 71; (with_reducible refine (spec_l02Copy.calls a0_0 _ _ l0_1 _ _ l0_2 t372 t373 t376 _ ?side1 ?side2 ?side3 ?side4 A4.out).mono ?_); (case side1 => exact cb (Kd.C_below HR0_1.out HB.out)); (case side2 => exact HC0_1.out); (case side3 => exact cb (Kd.C_below HR0_2.out HB.out)); (case side4 => exact HC0_2.out); rintro e w9 ⟨v374, v377, rfl, ho0, ho1, hb⟩; have HO375 := Aside0.mk (Kd.R_lower ho0 (below_size (bl HB.out))); have HO378 := Aside0.mk (Kd.R_lower ho1 (below_size (bl HB.out))); replace BK370 := Aside0.mk (bb BK370.out hb); replace BK371 := Aside0.mk (bb BK371.out hb); replace HB := Aside0.mk (below_step (bl HB.out) hb); (try clear hb); (try clear hb2); (try clear hk); (try clear hi); (try clear ho0); (try clear ho1)) | ((with_reducible refine gate_dst (N := 8) rfl ?_); refine bx (cs := #[.int .i64 0, .slice none 0 0, .slice none 0 0]) (t := 30) fun gb379 hg w10 hbox hb => ?_; replace HO375 := Aside0.mk (Kd.R_below (rk HO375.out) hb); replace HO378 := Aside0.mk (Kd.R_below (rk HO378.out) hb); have BK379 := Aside0.mk (hbox); have GW379 := Aside0.mk (gs HB.out hg); have GE379 := Aside0.mk (gs HB.out hg); replace HB := Aside0.mk (below_step (bl HB.out) hb); have NB370_379 := Aside0.mk ((nl BK370.out hg)); have NB379_370 := Aside0.mk ((ng BK370.out hg)); replace BK370 := Aside0.mk (bb BK370.out hb); have NB371_379 := Aside0.mk ((nl BK371.out hg)); have NB379_371 := Aside0.mk ((ng BK371.out hg)); replace BK371 := Aside0.mk (bb BK371.out hb); clear hb hbox hg; have hnb11 := NB379_370.out; have hnc11 := NB370_379.out; have hnb12 := NB379_371.out; have hnc12 := NB371_379.out; obtain ⟨hcz13_0, hcz13_1, hcz13_2, hfz13_0, hfz13_1, hfz13_2⟩ := cz3 BK379.out; obtain ⟨Ao14, co14, eo14⟩ := Kd.R_slice HO375.out; subst eo14; obtain ⟨Ao15, co15, eo15⟩ := Kd.R_slice HO378.out; subst eo15)))
 go_loopg [9] k (fun kq v9 w' => ∃ (x9_1 : Int) (x372000_1 : Int) (x380002_1 : List (S71)) (u380002 : Value), v9 = .int .i64 x9_1 ∧ Aside0 (spec_SetJam.l0 kq a1 a2 x9_1 a0_0 l0_1 l0_2 t372 t373 x380002_1 = some (r1, r2, r3, r4)) ∧ Aside0 (kq ≤ k) ∧ Aside0 (Kd.R (Kd.int .i64) 3 w' w.heap.size (fun _ => True) (.slice Ao14 t373.length co14) t373) ∧ Aside0 (Kd.R k71 71 w' w.heap.size (fun _ => True) u380002 x380002_1) ∧ Aside0 (w'.heap[gb370]? = some (.cells #[.int .i64 a0_0, (.slice A0_1 l0_1.length c0_1), (.slice A0_2 l0_2.length c0_2)] 30 (0, 0))) ∧ Aside0 (w'.heap[gb371]? = some (.cells #[.int .i64 x372000_1, (.slice none 0 0), (.slice none 0 0)] 30 (0, 0))) ∧ Aside0 (w'.heap[gb379]? = some (.cells #[.int .i64 t372, (.slice Ao14 t373.length co14), u380002] 30 (0, 0))) ∧ Aside0 (Below w.heap.size w w'))
 case atStart => exact ⟨(0), (0), (t376), (.slice Ao15 t376.length co15), (by first | rfl | (simp; done) | (simp [*]; done)), H', ⟨Nat.le_refl _⟩, ⟨by refine rk ?_; exact Kd.R_mono (Kd.R_far (p := ⟨gb379, 2, none⟩) (Kd.R_far (p := ⟨gb379, 1, none⟩) (Kd.R_far (p := ⟨gb379, 0, none⟩) (Kd.R_types HO375.out BK379.out (by decide)) (fun _ hk => hk.2) (.int .i64 t372)) (fun _ hk => hk.2) (.slice Ao14 t373.length co14)) (fun _ hk => hk.2) (.slice Ao15 t376.length co15)) (fun _ hk => trivial)⟩, ⟨by refine rk ?_; exact Kd.R_mono (Kd.R_far (p := ⟨gb379, 2, none⟩) (Kd.R_far (p := ⟨gb379, 1, none⟩) (Kd.R_far (p := ⟨gb379, 0, none⟩) (Kd.R_types HO378.out BK379.out (by decide)) (fun _ hk => hk.2) (.int .i64 t372)) (fun _ hk => hk.2) (.slice Ao14 t373.length co14)) (fun _ hk => hk.2) (.slice Ao15 t376.length co15)) (fun _ hk => trivial)⟩, ⟨by refine bk ?_; refine blk_far ?_ NB370_379.out _; refine bk ?_; refine blk_far ?_ NB370_379.out _; refine bk ?_; refine blk_far ?_ NB370_379.out _; refine bk ?_; exact BK370.out⟩, ⟨by refine bk ?_; refine blk_far ?_ NB371_379.out _; refine bk ?_; refine blk_far ?_ NB371_379.out _; refine bk ?_; refine blk_far ?_ NB371_379.out _; refine bk ?_; exact BK371.out⟩, ⟨by refine bk ?_; refine blk_put (cs := #[.int .i64 t372, .slice Ao14 t373.length co14, .slice none 0 0]) ?_ 2 _ rfl; refine bk ?_; refine blk_put (cs := #[.int .i64 t372, .slice none 0 0, .slice none 0 0]) ?_ 1 _ rfl; refine bk ?_; refine blk_put (cs := #[.int .i64 0, .slice none 0 0, .slice none 0 0]) ?_ 0 _ rfl; refine bk ?_; exact BK379.out⟩, ⟨bl HB.out⟩⟩
 case round =>
  clear H'
  try clear c1
  try clear p2
  try clear c3
  try clear c7
  try clear c11
  try clear c12
  try clear hcz13_0
  try clear hcz13_1
  try clear hcz13_2
  try clear hcz8_0
  try clear hcz8_1
  try clear hcz8_2
  try clear hfz13_0
  try clear hfz13_1
  try clear hfz13_2
  try clear hfz8_0
  try clear hfz8_1
  try clear hfz8_2
  obtain ⟨x9_1, x372000_1, x380002_1, u380002, rfl, HA, HK1, HO_380001, HO_380002, BK370, BK371, BK379, HB⟩ := hrel
  cases gk with
  | zero => exact absurd HA.out (by simp [spec_SetJam.l0])
  | succ k1 =>
   have H := HA.out
   clear HA
   simp only [spec_SetJam.l0] at H
   have HC16 := Aside0.mk H
   clear H
   go_upto_region 3 with (fail)
   repeat (go_quiet (fail); go_upto_region 3 with (fail))
   go_cut [20] (fun v20 wc => ∃ (kq : Nat) (x20_15 : Bool), v20 = .bool x20_15 ∧ Aside0 (spec_SetJam.j1 kq a1 a2 x9_1 x20_15 a0_0 l0_1 l0_2 t372 t373 x380002_1 = some (r1, r2, r3, r4)) ∧ Aside0 (kq ≤ k1) ∧ Aside0 (Kd.R (Kd.int .i64) 3 wc w.heap.size (fun _ => True) (.slice Ao14 t373.length co14) t373) ∧ Aside0 (Kd.R k71 71 wc w.heap.size (fun _ => True) u380002 x380002_1) ∧ Aside0 (wc.heap[gb370]? = some (.cells #[.int .i64 a0_0, (.slice A0_1 l0_1.length c0_1), (.slice A0_2 l0_2.length c0_2)] 30 (0, 0))) ∧ Aside0 (wc.heap[gb371]? = some (.cells #[.int .i64 x372000_1, (.slice none 0 0), (.slice none 0 0)] 30 (0, 0))) ∧ Aside0 (wc.heap[gb379]? = some (.cells #[.int .i64 t372, (.slice Ao14 t373.length co14), u380002] 30 (0, 0))) ∧ Aside0 (Below w.heap.size w wc))
   case first =>
    have H := HC16.out
    clear HC16
    by_cases c17 : x9_1 < (l0_2.length : Int)
    ·rw [if_pos c17] at H
     have c17b0 : decide (x9_1 < (l0_2.length : Int)) = true := decide_eq_true c17
     clear c17
     (first | rw [c17b0] | (simp only [i64_w, i32_w]; rw [c17b0]) | skip)
     replace H := Option.bind_eq_some_iff.mp H
     obtain ⟨t380, A180, H⟩ := H
     try dsimp only at H
     have A18 := Aside0.mk A180
     clear A180
     have H' := Aside0.mk H
     clear H
     have hnb19 := NB370_371.out
     have hnc19 := NB371_370.out
     have hnb20 := NB370_379.out
     have hnc20 := NB379_370.out
     obtain ⟨hcz21_0, hcz21_1, hcz21_2, hfz21_0, hfz21_1, hfz21_2⟩ := cz3 BK370.out
     go_wp2_with (first | (go_at_call 16; (with_reducible refine (spec_ColumnOk.calls k1 a0_0 _ _ l0_1 _ _ l0_2 t380 _ ?side1 ?side2 ?side3 ?side4 A18.out).mono ?_); (case side1 => exact cb (Kd.C_below HR0_1.out HB.out)); (case side2 => exact HC0_1.out); (case side3 => exact cb (Kd.C_below HR0_2.out HB.out)); (case side4 => exact HC0_2.out); rintro e w22 ⟨rfl, hb⟩; replace HO_380001 := Aside0.mk (Kd.R_below (rk HO_380001.out) hb); replace HO_380002 := Aside0.mk (Kd.R_below (rk HO_380002.out) hb); replace BK370 := Aside0.mk (bb BK370.out hb); replace BK371 := Aside0.mk (bb BK371.out hb); replace BK379 := Aside0.mk (bb BK379.out hb); replace HB := Aside0.mk (below_step (bl HB.out) hb); (try clear hb); (try clear hb2); (try clear hk); (try clear hi)))
     repeat (go_quiet (first | (go_at_call 16; (with_reducible refine (spec_ColumnOk.calls k1 a0_0 _ _ l0_1 _ _ l0_2 t380 _ ?side1 ?side2 ?side3 ?side4 A18.out).mono ?_); (case side1 => exact cb (Kd.C_below HR0_1.out HB.out)); (case side2 => exact HC0_1.out); (case side3 => exact cb (Kd.C_below HR0_2.out HB.out)); (case side4 => exact HC0_2.out); rintro e w22 ⟨rfl, hb⟩; replace HO_380001 := Aside0.mk (Kd.R_below (rk HO_380001.out) hb); replace HO_380002 := Aside0.mk (Kd.R_below (rk HO_380002.out) hb); replace BK370 := Aside0.mk (bb BK370.out hb); replace BK371 := Aside0.mk (bb BK371.out hb); replace BK379 := Aside0.mk (bb BK379.out hb); replace HB := Aside0.mk (below_step (bl HB.out) hb); (try clear hb); (try clear hb2); (try clear hk); (try clear hi))); try go_wp2_with (first | (go_at_call 16; (with_reducible refine (spec_ColumnOk.calls k1 a0_0 _ _ l0_1 _ _ l0_2 t380 _ ?side1 ?side2 ?side3 ?side4 A18.out).mono ?_); (case side1 => exact cb (Kd.C_below HR0_1.out HB.out)); (case side2 => exact HC0_1.out); (case side3 => exact cb (Kd.C_below HR0_2.out HB.out)); (case side4 => exact HC0_2.out); rintro e w22 ⟨rfl, hb⟩; replace HO_380001 := Aside0.mk (Kd.R_below (rk HO_380001.out) hb); replace HO_380002 := Aside0.mk (Kd.R_below (rk HO_380002.out) hb); replace BK370 := Aside0.mk (bb BK370.out hb); replace BK371 := Aside0.mk (bb BK371.out hb); replace BK379 := Aside0.mk (bb BK379.out hb); replace HB := Aside0.mk (below_step (bl HB.out) hb); (try clear hb); (try clear hb2); (try clear hk); (try clear hi))))
     go_meet
     case rel => exact ⟨_, (t380), (by first | rfl | (simp; done) | (simp [*]; done)), H', ⟨by have := HK1.out; first | omega | exact Nat.le_refl _⟩, ⟨rk HO_380001.out⟩, ⟨rk HO_380002.out⟩, ⟨by refine bk ?_; exact BK370.out⟩, ⟨by refine bk ?_; exact BK371.out⟩, ⟨by refine bk ?_; exact BK379.out⟩, ⟨bl HB.out⟩⟩
    ·rw [if_neg c17] at H
     have c17b0 : decide (x9_1 < (l0_2.length : Int)) = false := decide_eq_false c17
     clear c17
     (first | rw [c17b0] | (simp only [i64_w, i32_w]; rw [c17b0]) | skip)
     have H' := Aside0.mk H
     clear H
     have hnb23 := NB370_371.out
     have hnc23 := NB371_370.out
     have hnb24 := NB370_379.out
     have hnc24 := NB379_370.out
     obtain ⟨hcz25_0, hcz25_1, hcz25_2, hfz25_0, hfz25_1, hfz25_2⟩ := cz3 BK370.out
     go_wp2
     repeat (go_quiet (fail); try go_wp2)
     go_meet
     case rel => exact ⟨_, (false), (by first | rfl | (simp; done) | (simp [*]; done)), H', ⟨by have := HK1.out; first | omega | exact Nat.le_refl _⟩, ⟨rk HO_380001.out⟩, ⟨rk HO_380002.out⟩, ⟨by refine bk ?_; exact BK370.out⟩, ⟨by refine bk ?_; exact BK371.out⟩, ⟨by refine bk ?_; exact BK379.out⟩, ⟨bl HB.out⟩⟩
   case rest =>
    clear HC16
    try clear c1
    try clear c2
    try clear p2
    try clear c3
    try clear c7
    try clear c11
    try clear c12
    try clear c17
    try clear c17b0
    try clear c19
    try clear c20
    try clear c23
    try clear c24
    try clear hcz13_0
    try clear hcz13_1
    try clear hcz13_2
    try clear hcz21_0
    try clear hcz21_1
    try clear hcz21_2
    try clear hcz25_0
    try clear hcz25_1
    try clear hcz25_2
    try clear hcz8_0
    try clear hcz8_1
    try clear hcz8_2
    try clear hfz13_0
    try clear hfz13_1
    try clear hfz13_2
    try clear hfz21_0
    try clear hfz21_1
    try clear hfz21_2
    try clear hfz25_0
    try clear hfz25_1
    try clear hfz25_2
    try clear hfz8_0
    try clear hfz8_1
    try clear hfz8_2
    try clear p2
    obtain ⟨kq, x20_15, rfl, HA, HJ15, HO_380001, HO_380002, BK370, BK371, BK379, HB⟩ := hcut
    cases kq with
    | zero => exact absurd HA.out (by simp [spec_SetJam.j1])
    | succ kj15 =>
     have H := HA.out
     clear HA
     simp only [spec_SetJam.j1] at H
     by_cases c26 : x20_15 = true
     ·subst c26
      rw [if_pos rfl] at H
      by_cases c27 : 0 ≤ x9_1
      ·rw [if_pos c27] at H
       have c27b0 : decide (0 ≤ x9_1) = true := decide_eq_true c27
       clear c27
       by_cases c28 : x9_1 < (l0_2.length : Int)
       ·rw [if_pos c28] at H
        have c28b0 : decide (x9_1 < (l0_2.length : Int)) = true := decide_eq_true c28
        clear c28
        replace H := Option.bind_eq_some_iff.mp H
        obtain ⟨t384, A290, H⟩ := H
        try dsimp only at H
        have A29 := Aside0.mk A290
        clear A290
        by_cases c30 : t384 = true
        ·subst c30
         rw [if_pos rfl] at H
         by_cases c31 : x9_1 < (x380002_1.length : Int)
         ·rw [if_pos c31] at H
          have c31b0 : decide (x9_1 < (x380002_1.length : Int)) = true := decide_eq_true c31
          clear c31
          obtain ⟨y385, hy385⟩ : ∃ y_ : List (S71), y_ = (x380002_1.set (x9_1 : Int).toNat (⟨(rd_T71 x380002_1 x9_1).f0, (rd_T71 x380002_1 x9_1).f1, (rd_T71 x380002_1 x9_1).f2, a2⟩ : S71)) := ⟨_, rfl⟩
          replace H : (some (t372, t373, y385, true)) = some (r1, r2, r3, r4) := by first | (rw [hy385]; with_reducible exact H) | (have H2_ := (Option.bind_some _ _).symm.trans H; rw [hy385]; with_reducible exact H2_) | (have H2_ := (Option.bind_some _ _).symm.trans H; with_reducible exact H2_) | with_reducible exact H | (rw [hy385]; exact H) | exact H
          have Ny385 := Aside0.mk hy385
          clear hy385
          simp only [Option.some.injEq, Prod.mk.injEq] at H
          obtain ⟨rfl, rfl, rfl, rfl⟩ := H
          have hnb33 := NB370_371.out
          have hnc33 := NB371_370.out
          have hnb34 := NB370_379.out
          have hnc34 := NB379_370.out
          obtain ⟨hcz35_0, hcz35_1, hcz35_2, hfz35_0, hfz35_1, hfz35_2⟩ := cz3 BK370.out
          have p381 : 0 ≤ (x9_1 : Int) := of_decide_eq_true asm
          have q381 : x9_1 < (l0_2.length : Int) := of_decide_eq_true asm
          obtain ⟨ad381, e381, hx381_0, hx381_1, hx381_2, hx381_3⟩ := at_T71 HR0_2.out x9_1 p381 q381
          cases e381
          replace hx381_0 := (HB.out.cell (World.block_lt_of_cell? w _ hx381_0)).trans hx381_0
          replace hx381_1 := (HB.out.cell (World.block_lt_of_cell? w _ hx381_1)).trans hx381_1
          replace hx381_2 := (HB.out.cell (World.block_lt_of_cell? w _ hx381_2)).trans hx381_2
          replace hx381_3 := (HB.out.cell (World.block_lt_of_cell? w _ hx381_3)).trans hx381_3
          replace p381 := eq_true p381
          replace q381 := eq_true q381
          have p382 : 0 ≤ (x9_1 : Int) := of_decide_eq_true asm
          have q382 : x9_1 < (l0_2.length : Int) := of_decide_eq_true asm
          obtain ⟨ad382, e382, hx382_0, hx382_1, hx382_2, hx382_3⟩ := at_T71 HR0_2.out x9_1 p382 q382
          obtain rfl : ad381 = ad382 := (by injection e382)
          replace hx382_0 := (HB.out.cell (World.block_lt_of_cell? w _ hx382_0)).trans hx382_0
          replace hx382_1 := (HB.out.cell (World.block_lt_of_cell? w _ hx382_1)).trans hx382_1
          replace hx382_2 := (HB.out.cell (World.block_lt_of_cell? w _ hx382_2)).trans hx382_2
          replace hx382_3 := (HB.out.cell (World.block_lt_of_cell? w _ hx382_3)).trans hx382_3
          replace p382 := eq_true p382
          replace q382 := eq_true q382
          have p383 : 0 ≤ (x9_1 : Int) := of_decide_eq_true asm
          have q383 : x9_1 < (l0_2.length : Int) := of_decide_eq_true asm
          obtain ⟨ad383, e383, hx383_0, hx383_1, hx383_2, hx383_3⟩ := at_T71 HR0_2.out x9_1 p383 q383
          obtain rfl : ad381 = ad383 := (by injection e383)
          replace hx383_0 := (HB.out.cell (World.block_lt_of_cell? w _ hx383_0)).trans hx383_0
          replace hx383_1 := (HB.out.cell (World.block_lt_of_cell? w _ hx383_1)).trans hx383_1
          replace hx383_2 := (HB.out.cell (World.block_lt_of_cell? w _ hx383_2)).trans hx383_2
          replace hx383_3 := (HB.out.cell (World.block_lt_of_cell? w _ hx383_3)).trans hx383_3
          replace p383 := eq_true p383
          replace q383 := eq_true q383
          have hnb36 := NB379_371.out; have hnc36 := NB371_379.out; obtain ⟨hcz37_0, hcz37_1, hcz37_2, hfz37_0, hfz37_1, hfz37_2⟩ := cz3 BK379.out; have p32 : 0 ≤ (x9_1 : Int) := of_decide_eq_true asm; have q32 : (x9_1 : Int) < ((x380002_1.length : Int) : Int) := of_decide_eq_true asm; obtain ⟨go32, co32, eo32, gb32, gl32, cl32, HG32⟩ := Kd.R_form HO_380002.out (by omega); (first | cases eo32 | (injection eo32 with ea_ en_ ec_; (first | subst ea_ | (injection ea_ with ea_; subst ea_)); subst ec_; clear en_)); have GB32 := Aside0.mk gb32; have GG32 := Aside0.mk HG32; clear gb32 gl32 HG32; obtain ⟨ce32, hcl32, hM32, hcc32, hfr32⟩ := Kd.R_elem HO_380002.out z71 (x9_1 : Int) p32 q32; obtain rfl := k71_openM hM32; have hx32_0 : wc.cell? ⟨go32, (x9_1 : Int).toNat * 4, none⟩ = some (.int .i64 ((rd_T71 x380002_1 x9_1).f0)) := hcc32 0 _ rfl; have hx32_1 : wc.cell? ⟨go32, (x9_1 : Int).toNat * 4 + 1, none⟩ = some (.int .i64 ((rd_T71 x380002_1 x9_1).f1)) := hcc32 1 _ rfl; have hx32_2 : wc.cell? ⟨go32, (x9_1 : Int).toNat * 4 + 2, none⟩ = some (.int .i64 ((rd_T71 x380002_1 x9_1).f2)) := hcc32 2 _ rfl; have hx32_3 : wc.cell? ⟨go32, (x9_1 : Int).toNat * 4 + 3, none⟩ = some (.bool ((rd_T71 x380002_1 x9_1).f3)) := hcc32 3 _ rfl; have hf32_0 : wc.frozen? ⟨go32, (x9_1 : Int).toNat * 4, none⟩ = false := hfr32 0; have hf32_1 : wc.frozen? ⟨go32, (x9_1 : Int).toNat * 4 + 1, none⟩ = false := hfr32 1; have hf32_2 : wc.frozen? ⟨go32, (x9_1 : Int).toNat * 4 + 2, none⟩ = false := hfr32 2; have hf32_3 : wc.frozen? ⟨go32, (x9_1 : Int).toNat * 4 + 3, none⟩ = false := hfr32 3; clear hcl32 hcc32 hfr32 hM32; replace p32 := eq_true p32; replace q32 := eq_true q32; have HX38 := Aside0.mk (show Kd.R k71 71 wc w.heap.size (fun _ => True) (.slice (some ⟨go32, 0, none⟩) x380002_1.length co32) x380002_1 from (rk HO_380002.out)); obtain ⟨ce38, hcl38, hM38, hcc38, hfr38⟩ := Kd.R_elem HX38.out z71 (x9_1 : Int) (of_decide_eq_true asm) (by have h_ : (x9_1 : Int) < ((x380002_1.length : Int) : Int) := of_decide_eq_true asm; first | exact h_ | (have e_ := (Kd.R_reads' HO_380002.out).1; omega) | simpa using h_); obtain rfl := k71_openM hM38; have HP38 := Kd.R_seg HX38.out (x9_1 : Int) (of_decide_eq_true asm) (by have h_ : (x9_1 : Int) < ((x380002_1.length : Int) : Int) := of_decide_eq_true asm; first | exact h_ | (have e_ := (Kd.R_reads' HO_380002.out).1; omega) | simpa using h_) (seg := [.bool a2]) (j := 3) hcl38 hcc38 (show 4 ≤ 4 from by decide) (x' := (⟨(rd_T71 x380002_1 x9_1).f0, (rd_T71 x380002_1 x9_1).f1, (rd_T71 x380002_1 x9_1).f2, a2⟩ : S71)) (k71_mkM _ _ _ (⟨(rd_T71 x380002_1 x9_1).f0, (rd_T71 x380002_1 x9_1).f1, (rd_T71 x380002_1 x9_1).f2, a2⟩ : S71) ) (fun _ hk => hk); have hx38_3 := hcc38 3 _ rfl; (try simp only [show (k71).sz = 4 from rfl, Nat.mul_one, Nat.add_zero] at hx38_3); have hf38_3 := hfr38 3; (try simp only [show (k71).sz = 4 from rfl, Nat.mul_one, Nat.add_zero] at hf38_3); clear hcl38 hcc38 hfr38 hM38
          go_wp2_with (first | (go_at_call 59; (with_reducible refine (spec_l01In.calls a1 ((rd_T71 l0_2 x9_1).f0) (wrap64 ((wrap64 (((rd_T71 l0_2 x9_1).f0) + ((rd_T71 l0_2 x9_1).f1))) - 1)) true _ A29.out).mono ?_); rintro e w' ⟨rfl, ⟨nd, rfl⟩⟩; (try exact dd)) | ((with_reducible refine gate_store (t := 4) (p := 50) rfl ?_); (try (rw [drewN_self wc]; generalize hq_ : World.drewN wc _ = wc; replace HO_380001 := Aside0.mk (Kd.R_at hq_ HO_380001.out); replace HO_380002 := Aside0.mk (Kd.R_at hq_ HO_380002.out); replace BK370 := Aside0.mk (blk_at hq_ BK370.out); replace BK371 := Aside0.mk (blk_at hq_ BK371.out); replace BK379 := Aside0.mk (blk_at hq_ BK379.out); replace HB := Aside0.mk (below_at hq_ HB.out); clear hq_; (try (have HX38 := Aside0.mk (show Kd.R k71 71 wc w.heap.size (fun _ => True) (.slice (some ⟨go32, 0, none⟩) x380002_1.length co32) x380002_1 from (rk HO_380002.out)))); (try (obtain ⟨ce38, hcl38, hM38, hcc38, hfr38⟩ := Kd.R_elem HX38.out z71 (x9_1 : Int) (of_decide_eq_true asm) (by have h_ : (x9_1 : Int) < ((x380002_1.length : Int) : Int) := of_decide_eq_true asm; first | exact h_ | (have e_ := (Kd.R_reads' HO_380002.out).1; omega) | simpa using h_))); (try (obtain rfl := k71_openM hM38)); (try (have HP38 := Kd.R_seg HX38.out (x9_1 : Int) (of_decide_eq_true asm) (by have h_ : (x9_1 : Int) < ((x380002_1.length : Int) : Int) := of_decide_eq_true asm; first | exact h_ | (have e_ := (Kd.R_reads' HO_380002.out).1; omega) | simpa using h_) (seg := [.bool a2]) (j := 3) hcl38 hcc38 (show 4 ≤ 4 from by decide) (x' := (⟨(rd_T71 x380002_1 x9_1).f0, (rd_T71 x380002_1 x9_1).f1, (rd_T71 x380002_1 x9_1).f2, a2⟩ : S71)) (k71_mkM _ _ _ (⟨(rd_T71 x380002_1 x9_1).f0, (rd_T71 x380002_1 x9_1).f1, (rd_T71 x380002_1 x9_1).f2, a2⟩ : S71) ) (fun _ hk => hk))); (try (have hx38_3 := hcc38 3 _ rfl)); (try (try simp only [show (k71).sz = 4 from rfl, Nat.mul_one, Nat.add_zero] at hx38_3)); (try (have hf38_3 := hfr38 3)); (try (try simp only [show (k71).sz = 4 from rfl, Nat.mul_one, Nat.add_zero] at hf38_3)); (try (clear hcl38 hcc38 hfr38 hM38)))); refine store_event (t := 4) (p := 50) (v := ?vo_w39) (w1 := (wc.setCell ⟨go32, (x9_1 : Int).toNat * 4 + 3, none⟩ (.bool a2))) ?hg ?ho ?hn ?hr ?_; (case ho => rfl); (case hg => rfl); (case hn => rfl); (case hr => first | (go_simp; done) | (go_simp; rfl)); intro w39 hw; have hg : wc.grownBy w39 (some go32) := (by rw [hw]; exact HP38.2); have hp_ : Kd.R k71 71 w39 w.heap.size (fun _ => True) (.slice (some ⟨go32, 0, none⟩) x380002_1.length co32) y385 := (by rw [hw, Ny385.out]; exact HP38.1); clear HP38; replace HO_380001 := Aside0.mk (Kd.R_over' (v := (.slice (some ⟨go32, 0, none⟩) x380002_1.length co32)) (rk HO_380001.out) (Kd.R_typed HO_380002.out) (by decide) hg); replace BK370 := Aside0.mk (blk_grown (g := gb370) (o := .cells #[.int .i64 a0_0, .slice A0_1 l0_1.length c0_1, .slice (some ad381) l0_2.length c0_2] 30 (0, 0)) (bk BK370.out) hg (Kd.R_ne HO_380002.out BK370.out (by decide))); replace BK371 := Aside0.mk (blk_grown (g := gb371) (o := .cells #[.int .i64 x372000_1, .slice none 0 0, .slice none 0 0] 30 (0, 0)) (bk BK371.out) hg (Kd.R_ne HO_380002.out BK371.out (by decide))); replace BK379 := Aside0.mk (blk_grown (g := gb379) (o := .cells #[.int .i64 t372, .slice Ao14 t373.length co14, .slice (some ⟨go32, 0, none⟩) x380002_1.length co32] 30 (0, 0)) (bk BK379.out) hg (Kd.R_ne HO_380002.out BK379.out (by decide))); replace HO_380002 := Aside0.mk (hp_); replace HB := Aside0.mk ((by rw [hw]; exact below_set (HB.out) GB32.out : Below w.heap.size w w39)); clear hg hw hp_; obtain ⟨hcz40_0, hcz40_1, hcz40_2, hfz40_0, hfz40_1, hfz40_2⟩ := cz3 BK379.out; obtain ⟨hcz41_0, hcz41_1, hcz41_2, hfz41_0, hfz41_1, hfz41_2⟩ := cz3 BK371.out))
          repeat (go_quiet (first | (go_at_call 59; (with_reducible refine (spec_l01In.calls a1 ((rd_T71 l0_2 x9_1).f0) (wrap64 ((wrap64 (((rd_T71 l0_2 x9_1).f0) + ((rd_T71 l0_2 x9_1).f1))) - 1)) true _ A29.out).mono ?_); rintro e w' ⟨rfl, ⟨nd, rfl⟩⟩; (try exact dd)) | ((with_reducible refine gate_store (t := 4) (p := 50) rfl ?_); (try (rw [drewN_self wc]; generalize hq_ : World.drewN wc _ = wc; replace HO_380001 := Aside0.mk (Kd.R_at hq_ HO_380001.out); replace HO_380002 := Aside0.mk (Kd.R_at hq_ HO_380002.out); replace BK370 := Aside0.mk (blk_at hq_ BK370.out); replace BK371 := Aside0.mk (blk_at hq_ BK371.out); replace BK379 := Aside0.mk (blk_at hq_ BK379.out); replace HB := Aside0.mk (below_at hq_ HB.out); clear hq_; (try (have HX38 := Aside0.mk (show Kd.R k71 71 wc w.heap.size (fun _ => True) (.slice (some ⟨go32, 0, none⟩) x380002_1.length co32) x380002_1 from (rk HO_380002.out)))); (try (obtain ⟨ce38, hcl38, hM38, hcc38, hfr38⟩ := Kd.R_elem HX38.out z71 (x9_1 : Int) (of_decide_eq_true asm) (by have h_ : (x9_1 : Int) < ((x380002_1.length : Int) : Int) := of_decide_eq_true asm; first | exact h_ | (have e_ := (Kd.R_reads' HO_380002.out).1; omega) | simpa using h_))); (try (obtain rfl := k71_openM hM38)); (try (have HP38 := Kd.R_seg HX38.out (x9_1 : Int) (of_decide_eq_true asm) (by have h_ : (x9_1 : Int) < ((x380002_1.length : Int) : Int) := of_decide_eq_true asm; first | exact h_ | (have e_ := (Kd.R_reads' HO_380002.out).1; omega) | simpa using h_) (seg := [.bool a2]) (j := 3) hcl38 hcc38 (show 4 ≤ 4 from by decide) (x' := (⟨(rd_T71 x380002_1 x9_1).f0, (rd_T71 x380002_1 x9_1).f1, (rd_T71 x380002_1 x9_1).f2, a2⟩ : S71)) (k71_mkM _ _ _ (⟨(rd_T71 x380002_1 x9_1).f0, (rd_T71 x380002_1 x9_1).f1, (rd_T71 x380002_1 x9_1).f2, a2⟩ : S71) ) (fun _ hk => hk))); (try (have hx38_3 := hcc38 3 _ rfl)); (try (try simp only [show (k71).sz = 4 from rfl, Nat.mul_one, Nat.add_zero] at hx38_3)); (try (have hf38_3 := hfr38 3)); (try (try simp only [show (k71).sz = 4 from rfl, Nat.mul_one, Nat.add_zero] at hf38_3)); (try (clear hcl38 hcc38 hfr38 hM38)))); refine store_event (t := 4) (p := 50) (v := ?vo_w39) (w1 := (wc.setCell ⟨go32, (x9_1 : Int).toNat * 4 + 3, none⟩ (.bool a2))) ?hg ?ho ?hn ?hr ?_; (case ho => rfl); (case hg => rfl); (case hn => rfl); (case hr => first | (go_simp; done) | (go_simp; rfl)); intro w39 hw; have hg : wc.grownBy w39 (some go32) := (by rw [hw]; exact HP38.2); have hp_ : Kd.R k71 71 w39 w.heap.size (fun _ => True) (.slice (some ⟨go32, 0, none⟩) x380002_1.length co32) y385 := (by rw [hw, Ny385.out]; exact HP38.1); clear HP38; replace HO_380001 := Aside0.mk (Kd.R_over' (v := (.slice (some ⟨go32, 0, none⟩) x380002_1.length co32)) (rk HO_380001.out) (Kd.R_typed HO_380002.out) (by decide) hg); replace BK370 := Aside0.mk (blk_grown (g := gb370) (o := .cells #[.int .i64 a0_0, .slice A0_1 l0_1.length c0_1, .slice (some ad381) l0_2.length c0_2] 30 (0, 0)) (bk BK370.out) hg (Kd.R_ne HO_380002.out BK370.out (by decide))); replace BK371 := Aside0.mk (blk_grown (g := gb371) (o := .cells #[.int .i64 x372000_1, .slice none 0 0, .slice none 0 0] 30 (0, 0)) (bk BK371.out) hg (Kd.R_ne HO_380002.out BK371.out (by decide))); replace BK379 := Aside0.mk (blk_grown (g := gb379) (o := .cells #[.int .i64 t372, .slice Ao14 t373.length co14, .slice (some ⟨go32, 0, none⟩) x380002_1.length co32] 30 (0, 0)) (bk BK379.out) hg (Kd.R_ne HO_380002.out BK379.out (by decide))); replace HO_380002 := Aside0.mk (hp_); replace HB := Aside0.mk ((by rw [hw]; exact below_set (HB.out) GB32.out : Below w.heap.size w w39)); clear hg hw hp_; obtain ⟨hcz40_0, hcz40_1, hcz40_2, hfz40_0, hfz40_1, hfz40_2⟩ := cz3 BK379.out; obtain ⟨hcz41_0, hcz41_1, hcz41_2, hfz41_0, hfz41_1, hfz41_2⟩ := cz3 BK371.out)); try go_wp2_with (first | (go_at_call 59; (with_reducible refine (spec_l01In.calls a1 ((rd_T71 l0_2 x9_1).f0) (wrap64 ((wrap64 (((rd_T71 l0_2 x9_1).f0) + ((rd_T71 l0_2 x9_1).f1))) - 1)) true _ A29.out).mono ?_); rintro e w' ⟨rfl, ⟨nd, rfl⟩⟩; (try exact dd)) | ((with_reducible refine gate_store (t := 4) (p := 50) rfl ?_); (try (rw [drewN_self wc]; generalize hq_ : World.drewN wc _ = wc; replace HO_380001 := Aside0.mk (Kd.R_at hq_ HO_380001.out); replace HO_380002 := Aside0.mk (Kd.R_at hq_ HO_380002.out); replace BK370 := Aside0.mk (blk_at hq_ BK370.out); replace BK371 := Aside0.mk (blk_at hq_ BK371.out); replace BK379 := Aside0.mk (blk_at hq_ BK379.out); replace HB := Aside0.mk (below_at hq_ HB.out); clear hq_; (try (have HX38 := Aside0.mk (show Kd.R k71 71 wc w.heap.size (fun _ => True) (.slice (some ⟨go32, 0, none⟩) x380002_1.length co32) x380002_1 from (rk HO_380002.out)))); (try (obtain ⟨ce38, hcl38, hM38, hcc38, hfr38⟩ := Kd.R_elem HX38.out z71 (x9_1 : Int) (of_decide_eq_true asm) (by have h_ : (x9_1 : Int) < ((x380002_1.length : Int) : Int) := of_decide_eq_true asm; first | exact h_ | (have e_ := (Kd.R_reads' HO_380002.out).1; omega) | simpa using h_))); (try (obtain rfl := k71_openM hM38)); (try (have HP38 := Kd.R_seg HX38.out (x9_1 : Int) (of_decide_eq_true asm) (by have h_ : (x9_1 : Int) < ((x380002_1.length : Int) : Int) := of_decide_eq_true asm; first | exact h_ | (have e_ := (Kd.R_reads' HO_380002.out).1; omega) | simpa using h_) (seg := [.bool a2]) (j := 3) hcl38 hcc38 (show 4 ≤ 4 from by decide) (x' := (⟨(rd_T71 x380002_1 x9_1).f0, (rd_T71 x380002_1 x9_1).f1, (rd_T71 x380002_1 x9_1).f2, a2⟩ : S71)) (k71_mkM _ _ _ (⟨(rd_T71 x380002_1 x9_1).f0, (rd_T71 x380002_1 x9_1).f1, (rd_T71 x380002_1 x9_1).f2, a2⟩ : S71) ) (fun _ hk => hk))); (try (have hx38_3 := hcc38 3 _ rfl)); (try (try simp only [show (k71).sz = 4 from rfl, Nat.mul_one, Nat.add_zero] at hx38_3)); (try (have hf38_3 := hfr38 3)); (try (try simp only [show (k71).sz = 4 from rfl, Nat.mul_one, Nat.add_zero] at hf38_3)); (try (clear hcl38 hcc38 hfr38 hM38)))); refine store_event (t := 4) (p := 50) (v := ?vo_w39) (w1 := (wc.setCell ⟨go32, (x9_1 : Int).toNat * 4 + 3, none⟩ (.bool a2))) ?hg ?ho ?hn ?hr ?_; (case ho => rfl); (case hg => rfl); (case hn => rfl); (case hr => first | (go_simp; done) | (go_simp; rfl)); intro w39 hw; have hg : wc.grownBy w39 (some go32) := (by rw [hw]; exact HP38.2); have hp_ : Kd.R k71 71 w39 w.heap.size (fun _ => True) (.slice (some ⟨go32, 0, none⟩) x380002_1.length co32) y385 := (by rw [hw, Ny385.out]; exact HP38.1); clear HP38; replace HO_380001 := Aside0.mk (Kd.R_over' (v := (.slice (some ⟨go32, 0, none⟩) x380002_1.length co32)) (rk HO_380001.out) (Kd.R_typed HO_380002.out) (by decide) hg); replace BK370 := Aside0.mk (blk_grown (g := gb370) (o := .cells #[.int .i64 a0_0, .slice A0_1 l0_1.length c0_1, .slice (some ad381) l0_2.length c0_2] 30 (0, 0)) (bk BK370.out) hg (Kd.R_ne HO_380002.out BK370.out (by decide))); replace BK371 := Aside0.mk (blk_grown (g := gb371) (o := .cells #[.int .i64 x372000_1, .slice none 0 0, .slice none 0 0] 30 (0, 0)) (bk BK371.out) hg (Kd.R_ne HO_380002.out BK371.out (by decide))); replace BK379 := Aside0.mk (blk_grown (g := gb379) (o := .cells #[.int .i64 t372, .slice Ao14 t373.length co14, .slice (some ⟨go32, 0, none⟩) x380002_1.length co32] 30 (0, 0)) (bk BK379.out) hg (Kd.R_ne HO_380002.out BK379.out (by decide))); replace HO_380002 := Aside0.mk (hp_); replace HB := Aside0.mk ((by rw [hw]; exact below_set (HB.out) GB32.out : Below w.heap.size w w39)); clear hg hw hp_; obtain ⟨hcz40_0, hcz40_1, hcz40_2, hfz40_0, hfz40_1, hfz40_2⟩ := cz3 BK379.out; obtain ⟨hcz41_0, hcz41_1, hcz41_2, hfz41_0, hfz41_1, hfz41_2⟩ := cz3 BK371.out)))
          refine bodyPost_ret (results_ct rfl _ _ gb371 30 #[.int .i64 t372, .slice Ao14 t373.length co14, .slice (some ⟨go32, 0, none⟩) x380002_1.length co32] (0, 0) _ rfl (by refine bk ?_; refine blk_put (cs := #[.int .i64 t372, .slice Ao14 t373.length co14, .slice none 0 0]) ?_ 2 _ rfl; refine bk ?_; refine blk_put (cs := #[.int .i64 t372, .slice none 0 0, .slice none 0 0]) ?_ 1 _ rfl; refine bk ?_; refine blk_put (cs := #[.int .i64 x372000_1, .slice none 0 0, .slice none 0 0]) ?_ 0 _ rfl; refine bk ?_; exact BK371.out) Try.underlying30 rfl (by kernel_rfl)) rfl ?_
          exact ⟨_, _, by first | rfl | (simp [errW_none, errW_some] <;> rfl) | (simp [*, errW_none, errW_some] <;> rfl), by refine rk ?_; exact Kd.R_mono (Kd.R_far (p := ⟨gb371, 2, none⟩) (Kd.R_far (p := ⟨gb371, 1, none⟩) (Kd.R_far (p := ⟨gb371, 0, none⟩) (Kd.R_types HO_380001.out BK371.out (by decide)) (fun _ hk => hk.2) (.int .i64 t372)) (fun _ hk => hk.2) (.slice Ao14 t373.length co14)) (fun _ hk => hk.2) (.slice (some ⟨go32, 0, none⟩) x380002_1.length co32)) (fun _ hk => trivial), by refine rk ?_; exact Kd.R_mono (Kd.R_far (p := ⟨gb371, 2, none⟩) (Kd.R_far (p := ⟨gb371, 1, none⟩) (Kd.R_far (p := ⟨gb371, 0, none⟩) (Kd.R_types HO_380002.out BK371.out (by decide)) (fun _ hk => hk.2) (.int .i64 t372)) (fun _ hk => hk.2) (.slice Ao14 t373.length co14)) (fun _ hk => hk.2) (.slice (some ⟨go32, 0, none⟩) x380002_1.length co32)) (fun _ hk => trivial), bl HB.out⟩
         ·rw [if_neg c31] at H
          exact absurd H (by simp)
        ·replace c30 := Bool.eq_false_iff.mpr c30
         subst c30
         rw [if_neg (show ¬ (false = true) by decide)] at H
         have H' := Aside0.mk H
         clear H
         have hnb42 := NB370_371.out
         have hnc42 := NB371_370.out
         have hnb43 := NB370_379.out
         have hnc43 := NB379_370.out
         obtain ⟨hcz44_0, hcz44_1, hcz44_2, hfz44_0, hfz44_1, hfz44_2⟩ := cz3 BK370.out
         have p381 : 0 ≤ (x9_1 : Int) := of_decide_eq_true asm
         have q381 : x9_1 < (l0_2.length : Int) := of_decide_eq_true asm
         obtain ⟨ad381, e381, hx381_0, hx381_1, hx381_2, hx381_3⟩ := at_T71 HR0_2.out x9_1 p381 q381
         cases e381
         replace hx381_0 := (HB.out.cell (World.block_lt_of_cell? w _ hx381_0)).trans hx381_0
         replace hx381_1 := (HB.out.cell (World.block_lt_of_cell? w _ hx381_1)).trans hx381_1
         replace hx381_2 := (HB.out.cell (World.block_lt_of_cell? w _ hx381_2)).trans hx381_2
         replace hx381_3 := (HB.out.cell (World.block_lt_of_cell? w _ hx381_3)).trans hx381_3
         replace p381 := eq_true p381
         replace q381 := eq_true q381
         have p382 : 0 ≤ (x9_1 : Int) := of_decide_eq_true asm
         have q382 : x9_1 < (l0_2.length : Int) := of_decide_eq_true asm
         obtain ⟨ad382, e382, hx382_0, hx382_1, hx382_2, hx382_3⟩ := at_T71 HR0_2.out x9_1 p382 q382
         obtain rfl : ad381 = ad382 := (by injection e382)
         replace hx382_0 := (HB.out.cell (World.block_lt_of_cell? w _ hx382_0)).trans hx382_0
         replace hx382_1 := (HB.out.cell (World.block_lt_of_cell? w _ hx382_1)).trans hx382_1
         replace hx382_2 := (HB.out.cell (World.block_lt_of_cell? w _ hx382_2)).trans hx382_2
         replace hx382_3 := (HB.out.cell (World.block_lt_of_cell? w _ hx382_3)).trans hx382_3
         replace p382 := eq_true p382
         replace q382 := eq_true q382
         have p383 : 0 ≤ (x9_1 : Int) := of_decide_eq_true asm
         have q383 : x9_1 < (l0_2.length : Int) := of_decide_eq_true asm
         obtain ⟨ad383, e383, hx383_0, hx383_1, hx383_2, hx383_3⟩ := at_T71 HR0_2.out x9_1 p383 q383
         obtain rfl : ad381 = ad383 := (by injection e383)
         replace hx383_0 := (HB.out.cell (World.block_lt_of_cell? w _ hx383_0)).trans hx383_0
         replace hx383_1 := (HB.out.cell (World.block_lt_of_cell? w _ hx383_1)).trans hx383_1
         replace hx383_2 := (HB.out.cell (World.block_lt_of_cell? w _ hx383_2)).trans hx383_2
         replace hx383_3 := (HB.out.cell (World.block_lt_of_cell? w _ hx383_3)).trans hx383_3
         replace p383 := eq_true p383
         replace q383 := eq_true q383
         go_wp2_with (first | (go_at_call 59; (with_reducible refine (spec_l01In.calls a1 ((rd_T71 l0_2 x9_1).f0) (wrap64 ((wrap64 (((rd_T71 l0_2 x9_1).f0) + ((rd_T71 l0_2 x9_1).f1))) - 1)) false _ A29.out).mono ?_); rintro e w' ⟨rfl, ⟨nd, rfl⟩⟩; (try exact dd)))
         repeat (go_quiet (first | (go_at_call 59; (with_reducible refine (spec_l01In.calls a1 ((rd_T71 l0_2 x9_1).f0) (wrap64 ((wrap64 (((rd_T71 l0_2 x9_1).f0) + ((rd_T71 l0_2 x9_1).f1))) - 1)) false _ A29.out).mono ?_); rintro e w' ⟨rfl, ⟨nd, rfl⟩⟩; (try exact dd))); try go_wp2_with (first | (go_at_call 59; (with_reducible refine (spec_l01In.calls a1 ((rd_T71 l0_2 x9_1).f0) (wrap64 ((wrap64 (((rd_T71 l0_2 x9_1).f0) + ((rd_T71 l0_2 x9_1).f1))) - 1)) false _ A29.out).mono ?_); rintro e w' ⟨rfl, ⟨nd, rfl⟩⟩; (try exact dd))))
         go_roundg kj15
         case measure => have := HK1.out; have := HJ15.out; omega
         case rel => exact ⟨(wrap64 (x9_1 + 1)), (x372000_1), (x380002_1), (u380002), (by first | rfl | (simp; done) | (simp [*]; done)), H', ⟨by have := HK1.out; have := HJ15.out; omega⟩, ⟨rk HO_380001.out⟩, ⟨rk HO_380002.out⟩, ⟨by refine bk ?_; exact BK370.out⟩, ⟨by refine bk ?_; exact BK371.out⟩, ⟨by refine bk ?_; exact BK379.out⟩, ⟨bl HB.out⟩⟩
       ·rw [if_neg c28] at H
        exact absurd H (by simp)
      ·rw [if_neg c27] at H
       exact absurd H (by simp)
     ·replace c26 := Bool.eq_false_iff.mpr c26
      subst c26
      rw [if_neg (show ¬ (false = true) by decide)] at H
      simp only [Option.some.injEq, Prod.mk.injEq] at H
      obtain ⟨rfl, rfl, rfl, rfl⟩ := H
      have hnb45 := NB379_370.out
      have hnc45 := NB370_379.out
      have hnb46 := NB379_371.out
      have hnc46 := NB371_379.out
      obtain ⟨hcz47_0, hcz47_1, hcz47_2, hfz47_0, hfz47_1, hfz47_2⟩ := cz3 BK379.out
      have hnb48 := NB371_370.out
      have hnc48 := NB370_371.out
      obtain ⟨hcz49_0, hcz49_1, hcz49_2, hfz49_0, hfz49_1, hfz49_2⟩ := cz3 BK371.out
      obtain ⟨Ao50, co50, eo50⟩ := Kd.R_slice HO_380002.out
      subst eo50
      go_wp2
      repeat (go_quiet (fail); try go_wp2)
      refine bodyPost_ret (results_ct rfl _ _ gb371 30 #[.int .i64 t372, .slice Ao14 t373.length co14, .slice Ao50 x380002_1.length co50] (0, 0) _ rfl (by refine bk ?_; refine blk_put (cs := #[.int .i64 t372, .slice Ao14 t373.length co14, .slice none 0 0]) ?_ 2 _ rfl; refine bk ?_; refine blk_put (cs := #[.int .i64 t372, .slice none 0 0, .slice none 0 0]) ?_ 1 _ rfl; refine bk ?_; refine blk_put (cs := #[.int .i64 x372000_1, .slice none 0 0, .slice none 0 0]) ?_ 0 _ rfl; refine bk ?_; exact BK371.out) Try.underlying30 rfl (by kernel_rfl)) rfl ?_
      exact ⟨_, _, by first | rfl | (simp [errW_none, errW_some] <;> rfl) | (simp [*, errW_none, errW_some] <;> rfl), by refine rk ?_; exact Kd.R_mono (Kd.R_far (p := ⟨gb371, 2, none⟩) (Kd.R_far (p := ⟨gb371, 1, none⟩) (Kd.R_far (p := ⟨gb371, 0, none⟩) (Kd.R_types HO_380001.out BK371.out (by decide)) (fun _ hk => hk.2) (.int .i64 t372)) (fun _ hk => hk.2) (.slice Ao14 t373.length co14)) (fun _ hk => hk.2) (.slice Ao50 x380002_1.length co50)) (fun _ hk => trivial), by refine rk ?_; exact Kd.R_mono (Kd.R_far (p := ⟨gb371, 2, none⟩) (Kd.R_far (p := ⟨gb371, 1, none⟩) (Kd.R_far (p := ⟨gb371, 0, none⟩) (Kd.R_types HO_380002.out BK371.out (by decide)) (fun _ hk => hk.2) (.int .i64 t372)) (fun _ hk => hk.2) (.slice Ao14 t373.length co14)) (fun _ hk => hk.2) (.slice Ao50 x380002_1.length co50)) (fun _ hk => trivial), bl HB.out⟩
def impl_Box_92.f (l0 : List (S71)) : Option ((List (S71))) := (some (([] : List (S71)) : List (S71))).bind fun y386 => (if y386.length + l0.length < 4398046511104 then (some (y386 ++ l0)) else (none))
set_option maxHeartbeats 8000000 in
set_option maxRecDepth 100000 in
theorem impl_Box_92.calls (A0 : Option Addr) (c0 : Nat) (l0 : List (S71)) (r : List (S71)) (w : World) (hr0 : Kd.C k71 w A0 l0.length l0) (hc0 : l0.length ≤ c0) (h : impl_Box_92.f l0 = some r) :
  Calls Try.prog 92 #[.slice A0 l0.length c0] w fun e w' => ∃ v0_ : Value, e = .returned (v0_) ∧ Kd.R k71 71 w' w.heap.size (fun _ => True) v0_ r ∧ Below w.heap.size w w' := by
 have heq_ := fun W => Go.Lib.run_eql_slice_nil (P := Try.prog) W 28 71 A0 l0.length c0 0 0 Try.underlying28
 by_cases hA_ : A0.isNone = true
 ·obtain rfl : A0 = none := by simpa using hA_
  obtain rfl : l0 = [] := by
   rcases l0 with _ | ⟨x, xs⟩
   ·rfl
   ·obtain ⟨ad, e, _⟩ := hr0.2.2 (by simp)
    cases e
  obtain rfl : r = [] := by
   have h2 := h
   simp [impl_Box_92.f] at h2
   first | exact h2 | exact h2.symm
  clear hA_ h hr0 heq_
  have heq_ := fun W => Go.Lib.run_eql_slice_nil (P := Try.prog) W 28 71 none 0 c0 0 0 Try.underlying28
  show Calls _ _ #[.slice none 0 c0] w _
  go_enter Try.func92, Try.ntmps92
  go_wp2
  go_ret
  exact ⟨_, rfl, Kd.R_nil _ _ _ _ _, Below.refl _ _⟩
 replace hA_ : A0.isNone = false := Bool.eq_false_iff.mpr hA_
 have HR0 := Aside0.mk hr0
 have HC0 := Aside0.mk hc0
 clear hr0 hc0
 have HB := Aside0.mk (Below.refl w.heap.size w)
 have H : ((some (([] : List (S71)) : List (S71))).bind fun y386 => (if y386.length + l0.length < 4398046511104 then (some (y386 ++ l0)) else (none))) = some r := h
 clear h
 obtain ⟨y386, hy386⟩ : ∃ y_ : List (S71), y_ = (([] : List (S71))) := ⟨_, rfl⟩
 replace H : (if y386.length + l0.length < 4398046511104 then (some (y386 ++ l0)) else (none)) = some r := by first | (rw [hy386]; with_reducible exact H) | (have H2_ := (Option.bind_some _ _).symm.trans H; rw [hy386]; with_reducible exact H2_) | (have H2_ := (Option.bind_some _ _).symm.trans H; with_reducible exact H2_) | with_reducible exact H | (rw [hy386]; exact H) | exact H
 have Ny386 := Aside0.mk hy386
 clear hy386
 by_cases c2 : y386.length + l0.length < 4398046511104
 ·rw [if_pos c2] at H
  have LMc2 := Aside0.mk c2
  clear c2
  obtain ⟨y389, hy389⟩ : ∃ y_ : List (S71), y_ = (y386 ++ l0) := ⟨_, rfl⟩
  replace H : (some y389) = some r := by first | (rw [hy389]; with_reducible exact H) | (have H2_ := (Option.bind_some _ _).symm.trans H; rw [hy389]; with_reducible exact H2_) | (have H2_ := (Option.bind_some _ _).symm.trans H; with_reducible exact H2_) | with_reducible exact H | (rw [hy389]; exact H) | exact H
  have Ny389 := Aside0.mk hy389
  clear hy389
  obtain rfl := Option.some.inj H
  go_enter Try.func92, Try.ntmps92
  go_wp2_with (first | ((with_reducible refine gate_dst (N := 5) rfl ?_); refine Kd.R_lit k71 _ 71 ?hg (N := 5) ?hd (xs := ([] : List (S71))) (inner := []) (ok := fun _ => True) (okp := fun _ => True) ?hr ?hp (fun _ hk => hk) trivial (Below.refl _ _) (Nat.le_refl _) (by simp) ?_; (case hd => rfl); (case hg => rfl); (case hr => first | (go_simp; done) | (go_simp; rfl)); (case hp => exact (Reps.none _ _)); intro v387 w3 ho4 hb hg_ hnew_; clear hg_ hnew_; (first | rw [← Ny386.out] at ho4 | (simp only [Int.reduceToNat] at ho4; rw [← Ny386.out] at ho4)); have HO388 := Aside0.mk (Kd.R_lower ho4 (below_size (bl HB.out))); replace HB := Aside0.mk (below_step (bl HB.out) hb); clear hb ho4) | ((with_reducible refine gate_builtin (b := .append) (xs := #[.tmp 5, .tmp 6]) rfl ?_); at_builtin; refine Kd.R_append_rows k71 (w0 := w) w.heap.size rfl (.tmp 5) (.tmp 6) 28 71 (.agg #[(.int .i64 0), (.int .i64 0), (.int .i64 0), (.bool false)]) 32 rfl Try.underlying28 info71 rfl (by decide) (by omega) v387 y386 l0 _ _ _ (fun _ => True) (fun _ => False) rfl rfl ?aO ?aR (fun _ _ h => h) (fun _ h => h.elim) ?aF ?aB ?aS ?aL ?_; (case aR => exact cb (Kd.C_below HR0.out HB.out)); (case aB => exact (bl HB.out)); (case aF => exact (fun _ _ => trivial)); (case aO => exact (rk HO388.out)); (case aS => exact (below_size (bl HB.out))); (case aL => have := LMc2.out; omega); intro v390 w5 ho hb hg hat; rw [← Ny389.out] at ho; replace HB := Aside0.mk (hb); have HO391 := Aside0.mk (ho); clear HO388; clear ho hb hg hat))
  go_ret
  exact ⟨_, by first | rfl | (simp [errW_none, errW_some] <;> rfl) | (simp [*, errW_none, errW_some] <;> rfl), rk HO391.out, bl HB.out⟩
 ·rw [if_neg c2] at H
  exact absurd H (by simp)
end Go.Proofs.Ytghfeapncmlihaa.A

namespace Go.Proofs.Ytghfeapncmlihaa.A
open Go.RowKit Go.Proofs.YtghfeapncmlihaaW.PrintWords Go.Proofs.YtghfeapncmlihaaW.PrintLast Go.Proofs.YtghfeapncmlihaaW.PrintMore
attribute [local go_sem] max2_int min2_int max_two min_two max_three min_three max_four min_four   
set_option linter.unusedVariables false
set_option linter.unusedSimpArgs false
def impl_copyColumn.f (a0_0 : Int) (l0_1 : List Int) (l0_2 : List (S71)) : Option (Int × List Int × (List (S71))) := (slices_Clone_int_int.f l0_1).bind fun t394 => ((impl_Box_92.f l0_2).bind fun t397 => (some (a0_0, t394, t397)))
def impl_copyColumn.T1 : Bool × List (List Nat × List Nat) := (true, [([], []), ([0], [0]), ([1], [1]), ([], []), ([3], [3]), ([4, 2], [4]), ([0, 1, 2, 3, 4], []), ([6, 2, 5, 0, 1, 2, 3, 4], [2, 6]), ([0, 1, 2, 3, 4, 5, 6, 7], []), ([8, 5, 7, 0, 1, 2, 3, 4, 5, 6, 7], [5, 8])])
def impl_copyColumn.B1 : List Nat := [0, 1, 3, 0, 8, 31, 31, 127, 255, 511]
theorem impl_copyColumn.tab1 : rtab .any (opsOf Try.f72 1) = impl_copyColumn.T1 := by kernel_rfl
theorem impl_copyColumn.bits1 : waitsOk impl_copyColumn.T1.2 impl_copyColumn.B1 = true := by kernel_rfl
set_option maxHeartbeats 8000000 in
set_option maxRecDepth 100000 in
theorem impl_copyColumn.calls (a0_0 : Int) (A0_1 : Option Addr) (c0_1 : Nat) (l0_1 : List Int) (A0_2 : Option Addr) (c0_2 : Nat) (l0_2 : List (S71)) (r1 : Int) (r2 : List Int) (r3 : List (S71)) (w : World) (hr0_1 : Kd.C (Kd.int .i64) w A0_1 l0_1.length l0_1) (hc0_1 : l0_1.length ≤ c0_1) (hr0_2 : Kd.C k71 w A0_2 l0_2.length l0_2) (hc0_2 : l0_2.length ≤ c0_2) (h : impl_copyColumn.f a0_0 l0_1 l0_2 = some (r1, r2, r3)) :
  Calls Try.prog 72 #[.agg #[.int .i64 a0_0, .slice A0_1 l0_1.length c0_1, .slice A0_2 l0_2.length c0_2]] w fun e w' => ∃ v1_ v2_ : Value, e = .returned (.agg #[.int .i64 r1, v1_, v2_]) ∧ Kd.R (Kd.int .i64) 3 w' w.heap.size (fun _ => True) v1_ r2 ∧ Kd.R k71 71 w' w.heap.size (fun _ => True) v2_ r3 ∧ Below w.heap.size w w' := by
 have hu30 := Try.underlying30
 have HR0_1 := Aside0.mk hr0_1
 have HC0_1 := Aside0.mk hc0_1
 clear hr0_1 hc0_1
 have HR0_2 := Aside0.mk hr0_2
 have HC0_2 := Aside0.mk hc0_2
 clear hr0_2 hc0_2
 have HB := Aside0.mk (Below.refl w.heap.size w)
 have H : ((slices_Clone_int_int.f l0_1).bind fun t394 => ((impl_Box_92.f l0_2).bind fun t397 => (some (a0_0, t394, t397)))) = some (r1, r2, r3) := h
 clear h
 replace H := Option.bind_eq_some_iff.mp H
 obtain ⟨t394, A20, H⟩ := H
 try dsimp only at H
 have A2 := Aside0.mk A20
 clear A20
 replace H := Option.bind_eq_some_iff.mp H
 obtain ⟨t397, A30, H⟩ := H
 try dsimp only at H
 have A3 := Aside0.mk A30
 clear A30
 simp only [Option.some.injEq, Prod.mk.injEq] at H
 obtain ⟨rfl, rfl, rfl⟩ := H
 go_enter Try.func72, Try.ntmps72
 try go_wp2_with (first | ((with_reducible refine gate_dst (N := 1) rfl ?_); refine bx (cs := #[.int .i64 a0_0, .slice A0_1 l0_1.length c0_1, .slice A0_2 l0_2.length c0_2]) (t := 30) fun gb392 hg w4 hbox hb => ?_; have BK392 := Aside0.mk (hbox); have GW392 := Aside0.mk (gs HB.out hg); have GE392 := Aside0.mk (gs HB.out hg); replace HB := Aside0.mk (below_step (bl HB.out) hb); clear hb hbox hg) | ((with_reducible refine gate_dst (N := 2) rfl ?_); refine bx (cs := #[.int .i64 0, .slice none 0 0, .slice none 0 0]) (t := 30) fun gb393 hg w5 hbox hb => ?_; have BK393 := Aside0.mk (hbox); have GW393 := Aside0.mk (gs HB.out hg); have GE393 := Aside0.mk (gs HB.out hg); replace HB := Aside0.mk (below_step (bl HB.out) hb); have NB392_393 := Aside0.mk ((nl BK392.out hg)); have NB393_392 := Aside0.mk ((ng BK392.out hg)); replace BK392 := Aside0.mk (bb BK392.out hb); clear hb hbox hg))
 replace BK392 := Aside0.mk (blk_drew BK392.out)
 replace BK393 := Aside0.mk (blk_drew BK393.out)
 replace HB := Aside0.mk (below_drew1 HB.out)
 refine start_ (n := 10) (S := fun w' => w'.cell? ⟨gb392, 0, none⟩ = some (.int .i64 a0_0) ∧ w'.cell? ⟨gb392, 1, none⟩ = some (.slice A0_1 l0_1.length c0_1) ∧ w'.cell? ⟨gb392, 2, none⟩ = some (.slice A0_2 l0_2.length c0_2)) (ds := [7, 9]) #[false, false, false, false, false, false, false, false, false, false] (by kernel_rfl) rfl rfl ⟨(blk_cell BK392.out 0).trans rfl, (blk_cell BK392.out 1).trans rfl, (blk_cell BK392.out 2).trans rfl⟩ (fun hHeld => ?_); refine with_tabW impl_copyColumn.tab1 impl_copyColumn.bits1 (fun HT_ HW_ => ?_)
 generalize w5.drew = w6 at BK392 BK393 HB hHeld ⊢
 refine puA (i := 0) (N := some 3) HT_.out ?_
 refine puA (i := 3) (N := some 6) HT_.out ?_
 refine tkA3 (i := 1) (N := some 4) HT_.out HW_.out hHeld ?_
 refine tkA3 (i := 4) (N := some 7) HT_.out HW_.out hHeld ?_
 refine onA (i := 2) (N := some 5) HT_.out (fun K hK => ?_)
 refine goes_ Try.func64 (by kernel_rfl) rfl #[.slice A0_1 l0_1.length c0_1] (by rfl) rfl rfl mapd ?_
 with_reducible refine (slices_Clone_int_int.calls _ _ l0_1 t394 _ ?side1 ?side2 A2.out).mono ?_
 (case side1 => exact cb (Kd.C_below HR0_1.out HB.out))
 (case side2 => exact HC0_1.out)
 rintro e w7 ⟨v395, rfl, ho0, hb⟩
 refine ⟨_, rfl, ?_⟩
 have HO396 := Aside0.mk (Kd.R_lower ho0 (below_size (bl HB.out)))
 replace BK392 := Aside0.mk (bb BK392.out hb)
 replace BK393 := Aside0.mk (bb BK393.out hb)
 replace HB := Aside0.mk (below_step (bl HB.out) hb)
 (try clear hb)
 (try clear hb2)
 (try clear hk)
 (try clear hi)
 (try clear ho0)
 refine hK.out _ _ ⟨(blk_cell BK392.out 0).trans rfl, (blk_cell BK392.out 1).trans rfl, (blk_cell BK392.out 2).trans rfl⟩ (fun hHeld => ?_)
 clear hK K
 refine norm_ (a' := ?_) ?_ ?_
 rotate_left
 ·show Act.put _ (some 5) _ = _
  simp only [Act.put, List.setIfInBounds_toArray, List.set_cons_zero, List.set_cons_succ, i64_w, i32_w]
  rfl
 refine puA (i := 6) (N := some 9) HT_.out ?_
 refine onA (i := 5) (N := some 8) HT_.out (fun K hK => ?_)
 refine goes_ Try.func92 (by kernel_rfl) rfl #[.slice A0_2 l0_2.length c0_2] (by rfl) rfl rfl mapd ?_
 with_reducible refine (impl_Box_92.calls _ _ l0_2 t397 _ ?side1 ?side2 A3.out).mono ?_
 (case side1 => exact cb (Kd.C_below HR0_2.out HB.out))
 (case side2 => exact HC0_2.out)
 rintro e w8 ⟨v398, rfl, ho0, hb⟩
 refine ⟨_, rfl, ?_⟩
 replace HO396 := Aside0.mk (Kd.R_below (rk HO396.out) hb)
 have HO399 := Aside0.mk (Kd.R_lower ho0 (below_size (bl HB.out)))
 replace BK392 := Aside0.mk (bb BK392.out hb)
 replace BK393 := Aside0.mk (bb BK393.out hb)
 replace HB := Aside0.mk (below_step (bl HB.out) hb)
 (try clear hb)
 (try clear hb2)
 (try clear hk)
 (try clear hi)
 (try clear ho0)
 obtain ⟨Ao9, co9, eo9⟩ := Kd.R_slice HO396.out
 (first | subst eo9 | (injection eo9 with f1_ f2_ f3_; have f4_ := f1_.symm; have f5_ := f3_.symm; clear f1_ f2_ f3_; subst f4_; subst f5_))
 obtain ⟨Ao11, co11, eo11⟩ := Kd.R_slice HO399.out
 (first | subst eo11 | (injection eo11 with f1_ f2_ f3_; have f4_ := f1_.symm; have f5_ := f3_.symm; clear f1_ f2_ f3_; subst f4_; subst f5_))
 refine hK.out _ _ ⟨(blk_cell BK392.out 0).trans rfl, (blk_cell BK392.out 1).trans rfl, (blk_cell BK392.out 2).trans rfl⟩ (fun hHeld => ?_)
 clear hK K
 refine norm_ (a' := ?_) ?_ ?_
 rotate_left
 ·show Act.put _ (some 8) _ = _
  simp only [Act.put, List.setIfInBounds_toArray, List.set_cons_zero, List.set_cons_succ, i64_w, i32_w]
  rfl
 refine last_ (i := 7) (N := none) #[true, true, true, true, true, true, true, true, false, false] rfl rfl (one_of HT_.out (by kernel_rfl)) (by decide) (fun K hK => ?_)
 have hs10 : w8.cell? ⟨gb392, 1, none⟩ = some (.slice A0_1 l0_1.length c0_1) := (blk_cell BK392.out 1).trans rfl
 have hfs10 := blk_frozen BK392.out 1
 have hns10_1 := NB393_392.out
 have hms10_1 := NB392_393.out
 refine skip_ (w1 := ?_) (by rfl) rfl ?_ ?_
 rotate_left
 ·go_simp
  rfl
 refine hK.out _ _ ?_
 clear hK K
 refine puA (i := 8) (N := some 10) HT_.out ?_
 refine last_ (i := 9) (N := none) #[true, true, true, true, true, true, true, true, true, true] rfl rfl (one_of HT_.out (by kernel_rfl)) (by decide) (fun K hK => ?_)
 have hs12 : w8.cell? ⟨gb392, 2, none⟩ = some (.slice A0_2 l0_2.length c0_2) := (blk_cell BK392.out 2).trans rfl
 have hfs12 := blk_frozen BK392.out 2
 have hns12_1 := NB393_392.out
 have hms12_1 := NB392_393.out
 refine skip_ (w1 := ?_) (by rfl) rfl ?_ ?_
 rotate_left
 ·go_simp
  rfl
 refine hK.out _ _ ?_
 clear hK K
 refine done_ (done_of HT_.out (by kernel_rfl)) ?_
 have hnb13 := NB392_393.out
 have hnc13 := NB393_392.out
 obtain ⟨hcz14_0, hcz14_1, hcz14_2, hfz14_0, hfz14_1, hfz14_2⟩ := cz3 BK392.out
 obtain ⟨hcz15_0, hcz15_1, hcz15_2, hfz15_0, hfz15_1, hfz15_2⟩ := cz3 BK393.out
 try go_wp2
 refine bodyPost_ret (results_cell_row rfl _ _ gb393 30 #[.int .i64 a0_0, .slice Ao9 t394.length co9, .slice Ao11 t397.length co11] (0, 0) _ rfl (by refine bk ?_; refine blk_put (cs := #[.int .i64 a0_0, .slice Ao9 t394.length co9, .slice none 0 0]) ?_ 2 _ rfl; refine bk ?_; refine blk_put (cs := #[.int .i64 a0_0, .slice none 0 0, .slice none 0 0]) ?_ 1 _ rfl; refine bk ?_; refine blk_put (cs := #[.int .i64 0, .slice none 0 0, .slice none 0 0]) ?_ 0 _ rfl; refine bk ?_; refine blk_far ?_ NB393_392.out _; refine bk ?_; refine blk_far ?_ NB393_392.out _; refine bk ?_; exact BK393.out) Try.underlying30 rfl (by kernel_rfl)) rfl ?_
 exact ⟨_, _, by first | rfl | (simp [errW_none, errW_some] <;> rfl) | (simp [*, errW_none, errW_some] <;> rfl), by refine rk ?_; exact Kd.R_mono (Kd.R_far (p := ⟨gb393, 2, none⟩) (Kd.R_far (p := ⟨gb393, 1, none⟩) (Kd.R_far (p := ⟨gb393, 0, none⟩) (Kd.R_far (p := ⟨gb392, 2, none⟩) (Kd.R_far (p := ⟨gb392, 1, none⟩) (Kd.R_types (Kd.R_types HO396.out BK392.out (by decide)) BK393.out (by decide)) (fun _ hk => hk.1.2) (.slice Ao9 t394.length co9)) (fun _ hk => hk.1.2) (.slice Ao11 t397.length co11)) (fun _ hk => hk.2) (.int .i64 a0_0)) (fun _ hk => hk.2) (.slice Ao9 t394.length co9)) (fun _ hk => hk.2) (.slice Ao11 t397.length co11)) (fun _ hk => trivial), by refine rk ?_; exact Kd.R_mono (Kd.R_far (p := ⟨gb393, 2, none⟩) (Kd.R_far (p := ⟨gb393, 1, none⟩) (Kd.R_far (p := ⟨gb393, 0, none⟩) (Kd.R_far (p := ⟨gb392, 2, none⟩) (Kd.R_far (p := ⟨gb392, 1, none⟩) (Kd.R_types (Kd.R_types HO399.out BK392.out (by decide)) BK393.out (by decide)) (fun _ hk => hk.1.2) (.slice Ao9 t394.length co9)) (fun _ hk => hk.1.2) (.slice Ao11 t397.length co11)) (fun _ hk => hk.2) (.int .i64 a0_0)) (fun _ hk => hk.2) (.slice Ao9 t394.length co9)) (fun _ hk => hk.2) (.slice Ao11 t397.length co11)) (fun _ hk => trivial), bl HB.out⟩
end Go.Proofs.Ytghfeapncmlihaa.A

namespace Go.Proofs.Ytghfeapncmlihaa.A
open Go.RowKit Go.Proofs.YtghfeapncmlihaaW.PrintWords Go.Proofs.YtghfeapncmlihaaW.PrintLast Go.Proofs.YtghfeapncmlihaaW.PrintMore
attribute [local go_sem] max2_int min2_int max_two min_two max_three min_three max_four min_four   
set_option linter.unusedVariables false
set_option linter.unusedSimpArgs false
mutual
def impl_Box_95.l0 : Nat → List (List (S71)) → Int → List (List (S71)) → Int → Int → Option ((List (S71)))
 | 0, _, _, _, _, _ => none
 | k + 1, x0, x3, x9, x10, x11 => if x11 < x10 then (if 0 ≤ x11 then (if x11 < (x9.length : Int) then (if (wrap64 (x3 + ((rd_L7 x9 x11).length : Int))) < 0 then (none) else (impl_Box_95.l0 k x0 (wrap64 (x3 + ((rd_L7 x9 x11).length : Int))) x9 x10 (wrap64 (x11 + 1)))) else (none)) else (none)) else ((impl_Box_100.f x3).bind fun t886 => (impl_Box_95.l1 k t886 x0 (x0.length : Int) 0))
def impl_Box_95.l1 : Nat → List (S71) → List (List (S71)) → Int → Int → Option ((List (S71)))
 | 0, _, _, _, _ => none
 | k + 1, x6, x25, x26, x27 => if x27 < x26 then (if 0 ≤ x27 then (if x27 < (x25.length : Int) then (if x6.length + (rd_L7 x25 x27).length < 4398046511104 then (impl_Box_95.l1 k (x6 ++ (rd_L7 x25 x27)) x25 x26 (wrap64 (x27 + 1))) else (none)) else (none)) else (none)) else (some x6)
end
def impl_Box_95.f (k : Nat) (l0 : List (List (S71))) : Option ((List (S71))) := impl_Box_95.l0 k l0 0 l0 (l0.length : Int) 0
set_option maxHeartbeats 8000000 in
set_option maxRecDepth 100000 in
theorem impl_Box_95.calls (k : Nat) (A0 : Option Addr) (c0 : Nat) (l0 : List (List (S71))) (r : List (S71)) (w : World) (hr0 : Kd.C (Kd.slice 71 k71) w A0 l0.length l0) (hc0 : l0.length ≤ c0) (h : impl_Box_95.f k l0 = some r) :
  Calls Try.prog 95 #[.slice A0 l0.length c0] w fun e w' => ∃ v0_ : Value, e = .returned (v0_) ∧ Kd.R k71 71 w' w.heap.size (fun _ => True) v0_ r ∧ Below w.heap.size w w' := by
 have HR0 := Aside0.mk hr0
 have HC0 := Aside0.mk hc0
 clear hr0 hc0
 have HB := Aside0.mk (Below.refl w.heap.size w)
 have H : (impl_Box_95.l0 k l0 0 l0 (l0.length : Int) 0) = some r := h
 clear h
 have H' := Aside0.mk H
 clear H
 go_enter Try.func95, Try.ntmps95
 go_wp2
 go_loopg [3, 11] k (fun kq v3 v11 w' => ∃ (x3_1 : Int) (x11_1 : Int), v3 = .int .i64 x3_1 ∧ v11 = .int .i64 x11_1 ∧ Aside0 (impl_Box_95.l0 kq l0 x3_1 l0 (l0.length : Int) x11_1 = some r) ∧ Aside0 (kq ≤ k) ∧ Aside0 (Below w.heap.size w w'))
 case atStart => exact ⟨(0), (0), (by first | rfl | (simp; done) | (simp [*]; done)), (by first | rfl | (simp; done) | (simp [*]; done)), H', ⟨Nat.le_refl _⟩, ⟨bl HB.out⟩⟩
 case round =>
  clear H'
  obtain ⟨x3_1, x11_1, rfl, rfl, HA, HK1, HB⟩ := hrel
  cases gk with
  | zero => exact absurd HA.out (by simp [impl_Box_95.l0])
  | succ k1 =>
   have H := HA.out
   clear HA
   simp only [impl_Box_95.l0] at H
   by_cases c2 : x11_1 < (l0.length : Int)
   ·rw [if_pos c2] at H
    have c2b0 : decide (x11_1 < (l0.length : Int)) = true := decide_eq_true c2
    clear c2
    by_cases c3 : 0 ≤ x11_1
    ·rw [if_pos c3] at H
     have c3b0 : decide (0 ≤ x11_1) = true := decide_eq_true c3
     clear c3
     by_cases c4 : x11_1 < (l0.length : Int)
     ·rw [if_pos c4] at H
      have c4b0 : decide (x11_1 < (l0.length : Int)) = true := decide_eq_true c4
      clear c4
      by_cases c5 : (wrap64 (x3_1 + ((rd_L7 l0 x11_1).length : Int))) < 0
      ·rw [if_pos c5] at H
       exact absurd H (by simp)
      ·rw [if_neg c5] at H
       have c5b0 : decide ((wrap64 (x3_1 + ((rd_L7 l0 x11_1).length : Int))) < 0) = false := decide_eq_false c5
       clear c5
       have H' := Aside0.mk H
       clear H
       have p885 : 0 ≤ (x11_1 : Int) := of_decide_eq_true asm
       have q885 : x11_1 < (l0.length : Int) := of_decide_eq_true asm
       obtain ⟨ad885, A885_0, c885_0, e885, hx885_0, hl885_0, hi885_0⟩ := at_L7 HR0.out x11_1 p885 q885
       cases e885
       replace hx885_0 := (HB.out.cell (World.block_lt_of_cell? w _ hx885_0)).trans hx885_0
       have HR885_0 := Aside0.mk hi885_0
       have HC885_0 := Aside0.mk hl885_0
       clear hi885_0 hl885_0
       replace p885 := eq_true p885
       replace q885 := eq_true q885
       go_wp2
       go_roundg k1
       case measure => have := HK1.out; omega
       case rel => exact ⟨(wrap64 (x3_1 + ((rd_L7 l0 x11_1).length : Int))), (wrap64 (x11_1 + 1)), (by first | rfl | (simp; done) | (simp [*]; done)), (by first | rfl | (simp; done) | (simp [*]; done)), H', ⟨by have := HK1.out; omega⟩, ⟨bl HB.out⟩⟩
     ·rw [if_neg c4] at H
      exact absurd H (by simp)
    ·rw [if_neg c3] at H
     exact absurd H (by simp)
   ·rw [if_neg c2] at H
    have c2b0 : decide (x11_1 < (l0.length : Int)) = false := decide_eq_false c2
    clear c2
    replace H := Option.bind_eq_some_iff.mp H
    obtain ⟨t886, A60, H⟩ := H
    try dsimp only at H
    have A6 := Aside0.mk A60
    clear A60
    have H' := Aside0.mk H
    clear H
    go_wp2_with (first | ((with_reducible refine gate_callee (f := 100) rfl ?_); refine goesL_ (some 24) rfl rfl Try.func100 (by kernel_rfl) rfl #[.slice none 0 0, .int .i64 x3_1] rfl mapd ?_; (with_reducible refine (impl_Box_100.calls x3_1 t886 _ A6.out).mono ?_); rintro e w7 ⟨v887, rfl, ho0, hb⟩; refine ⟨_, rfl, ?_⟩; have HO888 := Aside0.mk (Kd.R_lower ho0 (below_size (bl HB.out))); replace HB := Aside0.mk (below_step (bl HB.out) hb); (try clear hb); (try clear hb2); (try clear hk); (try clear hi); (try clear ho0)))
    go_loopg [6, 27] k1 (fun kq v6 v27 w' => ∃ (x6_2 : List (S71)) (x27_2 : Int), v27 = .int .i64 x27_2 ∧ Aside0 (impl_Box_95.l1 kq x6_2 l0 (l0.length : Int) x27_2 = some r) ∧ Aside0 (kq ≤ k1) ∧ Aside0 (Kd.R k71 71 w' w.heap.size (fun _ => True) v6 x6_2) ∧ Aside0 (Below w.heap.size w w'))
    case atStart => exact ⟨(t886), (0), (by first | rfl | (simp; done) | (simp [*]; done)), H', ⟨Nat.le_refl _⟩, ⟨rk HO888.out⟩, ⟨bl HB.out⟩⟩
    case round =>
     clear H'
     try clear c1
     try clear c2
     try clear c2b0
     try clear p2
     try clear c3
     try clear c3b0
     try clear c4
     try clear c4b0
     try clear c5
     try clear c5b0
     try clear p6
     try clear hx885_0
     try clear p885
     try clear q885
     obtain ⟨x6_2, x27_2, rfl, HA, HK2, HO_6, HB⟩ := hrel
     cases gk with
     | zero => exact absurd HA.out (by simp [impl_Box_95.l1])
     | succ k2 =>
      have H := HA.out
      clear HA
      simp only [impl_Box_95.l1] at H
      by_cases c8 : x27_2 < (l0.length : Int)
      ·rw [if_pos c8] at H
       have c8b0 : decide (x27_2 < (l0.length : Int)) = true := decide_eq_true c8
       clear c8
       by_cases c9 : 0 ≤ x27_2
       ·rw [if_pos c9] at H
        have c9b0 : decide (0 ≤ x27_2) = true := decide_eq_true c9
        clear c9
        by_cases c10 : x27_2 < (l0.length : Int)
        ·rw [if_pos c10] at H
         have c10b0 : decide (x27_2 < (l0.length : Int)) = true := decide_eq_true c10
         clear c10
         by_cases c11 : x6_2.length + (rd_L7 l0 x27_2).length < 4398046511104
         ·rw [if_pos c11] at H
          have LMc11 := Aside0.mk c11
          clear c11
          obtain ⟨y890, hy890⟩ : ∃ y_ : List (S71), y_ = (x6_2 ++ (rd_L7 l0 x27_2)) := ⟨_, rfl⟩
          replace H : (impl_Box_95.l1 k2 y890 l0 (l0.length : Int) (wrap64 (x27_2 + 1))) = some r := by first | (rw [hy890]; with_reducible exact H) | (have H2_ := (Option.bind_some _ _).symm.trans H; rw [hy890]; with_reducible exact H2_) | (have H2_ := (Option.bind_some _ _).symm.trans H; with_reducible exact H2_) | with_reducible exact H | (rw [hy890]; exact H) | exact H
          have Ny890 := Aside0.mk hy890
          clear hy890
          have H' := Aside0.mk H
          clear H
          have p889 : 0 ≤ (x27_2 : Int) := of_decide_eq_true asm
          have q889 : x27_2 < (l0.length : Int) := of_decide_eq_true asm
          obtain ⟨ad889, A889_0, c889_0, e889, hx889_0, hl889_0, hi889_0⟩ := at_L7 HR0.out x27_2 p889 q889
          cases e889
          replace hx889_0 := (HB.out.cell (World.block_lt_of_cell? w _ hx889_0)).trans hx889_0
          have HR889_0 := Aside0.mk hi889_0
          have HC889_0 := Aside0.mk hl889_0
          clear hi889_0 hl889_0
          replace p889 := eq_true p889
          replace q889 := eq_true q889
          go_wp2_with (first | ((with_reducible refine gate_builtin (b := .append) (xs := #[.tmp 31, .tmp 32]) rfl ?_); at_builtin; refine Kd.R_append_rows k71 (w0 := w) w.heap.size rfl (.tmp 31) (.tmp 32) 28 71 (.agg #[(.int .i64 0), (.int .i64 0), (.int .i64 0), (.bool false)]) 32 rfl Try.underlying28 info71 rfl (by decide) (by omega) u6 x6_2 (rd_L7 l0 x27_2) _ _ _ (fun _ => True) (fun _ => False) rfl rfl ?aO ?aR (fun _ _ h => h) (fun _ h => h.elim) ?aF ?aB ?aS ?aL ?_; (case aR => exact cb (Kd.C_below HR889_0.out HB.out)); (case aB => exact (bl HB.out)); (case aF => exact (fun _ _ => trivial)); (case aO => exact (rk HO_6.out)); (case aS => exact (below_size (bl HB.out))); (case aL => have := LMc11.out; omega); intro v891 w12 ho hb hg hat; rw [← Ny890.out] at ho; replace HB := Aside0.mk (hb); have HO892 := Aside0.mk (ho); clear HO_6; clear ho hb hg hat))
          go_roundg k2
          case measure => have := HK1.out; have := HK2.out; omega
          case rel => exact ⟨(y890), (wrap64 (x27_2 + 1)), (by first | rfl | (simp; done) | (simp [*]; done)), H', ⟨by have := HK1.out; have := HK2.out; omega⟩, ⟨rk HO892.out⟩, ⟨bl HB.out⟩⟩
         ·rw [if_neg c11] at H
          exact absurd H (by simp)
        ·rw [if_neg c10] at H
         exact absurd H (by simp)
       ·rw [if_neg c9] at H
        exact absurd H (by simp)
      ·rw [if_neg c8] at H
       have c8b0 : decide (x27_2 < (l0.length : Int)) = false := decide_eq_false c8
       clear c8
       obtain rfl := Option.some.inj H
       go_wp2
       go_ret
       exact ⟨_, by first | rfl | (simp [errW_none, errW_some] <;> rfl) | (simp [*, errW_none, errW_some] <;> rfl), rk HO_6.out, bl HB.out⟩
end Go.Proofs.Ytghfeapncmlihaa.A
