/- Used by the law FnBoxes. -/
import Derived.Test.YtbpjidekjogfeaaZFnBoxesx16
import Derived.Test.YtbpjidekjogfeaaZFnBoxesx17
import Derived.Test.YtbpjidekjogfeaaZFnBoxesx18
import Derived.Test.YtbpjidekjogfeaaZFnBoxesx19
import Derived.Test.YtbpjidekjogfeaaZFnBoxesx25
import Derived.Test.YtbpjidekjogfeaaZFnBoxesx26
import Derived.Test.YtbpjidekjogfeaaZFnBoxesh
namespace Go.Proofs.Ytbpjidekjogfeaa.A
open Go.RowKit Go.Proofs.YtbpjidekjogfeaaW.PrintWords Go.Proofs.YtbpjidekjogfeaaW.PrintLast Go.Proofs.YtbpjidekjogfeaaW.PrintMore
attribute [local go_sem] max2_int min2_int max_two min_two max_three min_three max_four min_four   
set_option linter.unusedVariables false
set_option linter.unusedSimpArgs false
def impl_placed.f (k : Nat) (a0_0 : Int) (l0_1 : List Int) (l0_2 : List (S98)) (a1_0 : Int) (a1_1 : Int) (a1_2 : Int) (a2 : Int) (a3 : Int) : Option (Int × List Int × (List (S98))) := (some (([(⟨a1_1, a3, a2, false⟩ : S98)] : List (S98)) : List (S98))).bind fun y756 => (if a1_2 > a3 then (if y756.length < 4398046511104 then ((impl_filled.f k a0_0 l0_1 l0_2 a1_1 (y756 ++ [(⟨wrap64 (a1_1 + a3), wrap64 (a1_2 - a3), 0, false⟩ : S98)])).bind fun bt762 => (some (bt762.1, bt762.2.1, bt762.2.2))) else (none)) else ((impl_filled.f k a0_0 l0_1 l0_2 a1_1 y756).bind fun bt769 => (some (bt769.1, bt769.2.1, bt769.2.2))))
set_option maxHeartbeats 8000000 in
set_option maxRecDepth 100000 in
theorem impl_placed.calls (k : Nat) (a0_0 : Int) (A0_1 : Option Addr) (c0_1 : Nat) (l0_1 : List Int) (A0_2 : Option Addr) (c0_2 : Nat) (l0_2 : List (S98)) (a1_0 : Int) (a1_1 : Int) (a1_2 : Int) (a2 : Int) (a3 : Int) (r1 : Int) (r2 : List Int) (r3 : List (S98)) (w : World) (hr0_1 : Kd.C (Kd.int .i64) w A0_1 l0_1.length l0_1) (hc0_1 : l0_1.length ≤ c0_1) (hr0_2 : Kd.C k98 w A0_2 l0_2.length l0_2) (hc0_2 : l0_2.length ≤ c0_2) (h : impl_placed.f k a0_0 l0_1 l0_2 a1_0 a1_1 a1_2 a2 a3 = some (r1, r2, r3)) :
  Calls Try.prog 82 #[.agg #[.int .i64 a0_0, .slice A0_1 l0_1.length c0_1, .slice A0_2 l0_2.length c0_2], .agg #[.int .i64 a1_0, .int .i64 a1_1, .int .i64 a1_2], .int .i64 a2, .int .i64 a3] w fun e w' => ∃ v1_ v2_ : Value, e = .returned (.agg #[.int .i64 r1, v1_, v2_]) ∧ Kd.R (Kd.int .i64) 3 w' w.heap.size (fun _ => True) v1_ r2 ∧ Kd.R k98 98 w' w.heap.size (fun _ => True) v2_ r3 ∧ Below w.heap.size w w' := by
 have hu41 := Try.underlying41
 have hu50 := Try.underlying50
 have hu98 := Try.underlying98
 have HR0_1 := Aside0.mk hr0_1
 have HC0_1 := Aside0.mk hc0_1
 clear hr0_1 hc0_1
 have HR0_2 := Aside0.mk hr0_2
 have HC0_2 := Aside0.mk hc0_2
 clear hr0_2 hc0_2
 have HB := Aside0.mk (Below.refl w.heap.size w)
 have H : ((some (([(⟨a1_1, a3, a2, false⟩ : S98)] : List (S98)) : List (S98))).bind fun y756 => (if a1_2 > a3 then (if y756.length < 4398046511104 then ((impl_filled.f k a0_0 l0_1 l0_2 a1_1 (y756 ++ [(⟨wrap64 (a1_1 + a3), wrap64 (a1_2 - a3), 0, false⟩ : S98)])).bind fun bt762 => (some (bt762.1, bt762.2.1, bt762.2.2))) else (none)) else ((impl_filled.f k a0_0 l0_1 l0_2 a1_1 y756).bind fun bt769 => (some (bt769.1, bt769.2.1, bt769.2.2))))) = some (r1, r2, r3) := h
 clear h
 obtain ⟨y756, hy756⟩ : ∃ y_ : List (S98), y_ = (([(⟨a1_1, a3, a2, false⟩ : S98)] : List (S98))) := ⟨_, rfl⟩
 replace H : (if a1_2 > a3 then (if y756.length < 4398046511104 then ((impl_filled.f k a0_0 l0_1 l0_2 a1_1 (y756 ++ [(⟨wrap64 (a1_1 + a3), wrap64 (a1_2 - a3), 0, false⟩ : S98)])).bind fun bt762 => (some (bt762.1, bt762.2.1, bt762.2.2))) else (none)) else ((impl_filled.f k a0_0 l0_1 l0_2 a1_1 y756).bind fun bt769 => (some (bt769.1, bt769.2.1, bt769.2.2)))) = some (r1, r2, r3) := by first | (rw [hy756]; with_reducible exact H) | (have H2_ := (Option.bind_some _ _).symm.trans H; rw [hy756]; with_reducible exact H2_) | (have H2_ := (Option.bind_some _ _).symm.trans H; with_reducible exact H2_) | with_reducible exact H | (rw [hy756]; exact H) | exact H
 have Ny756 := Aside0.mk hy756
 clear hy756
 by_cases c5 : a1_2 > a3
 ·rw [if_pos c5] at H
  have c5b0 : decide (a3 < a1_2) = true := decide_eq_true c5
  clear c5
  by_cases c6 : y756.length < 4398046511104
  ·rw [if_pos c6] at H
   have LMc6 := Aside0.mk c6
   clear c6
   obtain ⟨y759, hy759⟩ : ∃ y_ : List (S98), y_ = (y756 ++ [(⟨wrap64 (a1_1 + a3), wrap64 (a1_2 - a3), 0, false⟩ : S98)]) := ⟨_, rfl⟩
   replace H : ((impl_filled.f k a0_0 l0_1 l0_2 a1_1 y759).bind fun bt762 => (some (bt762.1, bt762.2.1, bt762.2.2))) = some (r1, r2, r3) := by first | (rw [hy759]; with_reducible exact H) | (have H2_ := (Option.bind_some _ _).symm.trans H; rw [hy759]; with_reducible exact H2_) | (have H2_ := (Option.bind_some _ _).symm.trans H; with_reducible exact H2_) | with_reducible exact H | (rw [hy759]; exact H) | exact H
   have Ny759 := Aside0.mk hy759
   clear hy759
   replace H := Option.bind_eq_some_iff.mp H
   obtain ⟨⟨t762, t763, t766⟩, A70, H⟩ := H
   try dsimp only at H
   have A7 := Aside0.mk A70
   clear A70
   simp only [Option.some.injEq, Prod.mk.injEq] at H
   obtain ⟨rfl, rfl, rfl⟩ := H
   go_enter Try.func82, Try.ntmps82
   go_wp2_with (first | ((with_reducible refine gate_dst (N := 4) rfl ?_); refine bx (cs := #[.int .i64 a0_0, .slice A0_1 l0_1.length c0_1, .slice A0_2 l0_2.length c0_2]) (t := 41) fun gb753 hg w8 hbox hb => ?_; have BK753 := Aside0.mk (hbox); have GW753 := Aside0.mk (gs HB.out hg); have GE753 := Aside0.mk (gs HB.out hg); replace HB := Aside0.mk (below_step (bl HB.out) hb); clear hb hbox hg) | ((with_reducible refine gate_dst (N := 5) rfl ?_); refine bx (cs := #[.int .i64 a1_0, .int .i64 a1_1, .int .i64 a1_2]) (t := 50) fun gb754 hg w9 hbox hb => ?_; have BK754 := Aside0.mk (hbox); have GW754 := Aside0.mk (gs HB.out hg); have GE754 := Aside0.mk (gs HB.out hg); replace HB := Aside0.mk (below_step (bl HB.out) hb); have NB753_754 := Aside0.mk ((nl BK753.out hg)); have NB754_753 := Aside0.mk ((ng BK753.out hg)); replace BK753 := Aside0.mk (bb BK753.out hb); clear hb hbox hg) | ((with_reducible refine gate_dst (N := 8) rfl ?_); refine bx (cs := #[.int .i64 0, .slice none 0 0, .slice none 0 0]) (t := 41) fun gb755 hg w10 hbox hb => ?_; have BK755 := Aside0.mk (hbox); have GW755 := Aside0.mk (gs HB.out hg); have GE755 := Aside0.mk (gs HB.out hg); replace HB := Aside0.mk (below_step (bl HB.out) hb); have NB753_755 := Aside0.mk ((nl BK753.out hg)); have NB755_753 := Aside0.mk ((ng BK753.out hg)); replace BK753 := Aside0.mk (bb BK753.out hb); have NB754_755 := Aside0.mk ((nl BK754.out hg)); have NB755_754 := Aside0.mk ((ng BK754.out hg)); replace BK754 := Aside0.mk (bb BK754.out hb); clear hb hbox hg; have hnb11 := NB754_753.out; have hnc11 := NB753_754.out; have hnb12 := NB754_755.out; have hnc12 := NB755_754.out; obtain ⟨hcz13_0, hcz13_1, hcz13_2, hfz13_0, hfz13_1, hfz13_2⟩ := cz3 BK754.out) | ((with_reducible refine gate_dst (N := 15) rfl ?_); refine Kd.R_lit k98 _ 98 ?hg (N := 15) ?hd (xs := ([(⟨a1_1, a3, a2, false⟩ : S98)] : List (S98))) (inner := [.int .i64 a1_1, .int .i64 a3, .int .i64 a2, .bool false]) (ok := fun _ => True) (okp := fun _ => True) ?hr ?hp (fun _ hk => hk) trivial (Below.refl _ _) (Nat.le_refl _) (by simp) ?_; (case hd => rfl); (case hg => rfl); (case hr => first | (go_simp; done) | (go_simp; rfl)); (case hp => exact (Reps.c4 (show Kd.M k98 _ _ _ (⟨a1_1, a3, a2, false⟩ : S98) [.int .i64 a1_1, .int .i64 a3, .int .i64 a2, .bool false] from (k98_mkM _ _ _ (⟨a1_1, a3, a2, false⟩ : S98) )) (Reps.none _ _))); intro v757 w14 ho15 hb hg_ hnew_; clear hg_ hnew_; (first | rw [← Ny756.out] at ho15 | (simp only [Int.reduceToNat] at ho15; rw [← Ny756.out] at ho15)); have HO758 := Aside0.mk (Kd.R_lower ho15 (below_size (bl HB.out))); replace BK753 := Aside0.mk (bb BK753.out hb); replace BK754 := Aside0.mk (bb BK754.out hb); replace BK755 := Aside0.mk (bb BK755.out hb); replace HB := Aside0.mk (below_step (bl HB.out) hb); clear hb ho15; obtain ⟨hcz16_0, hcz16_1, hcz16_2, hfz16_0, hfz16_1, hfz16_2⟩ := cz3 BK754.out) | ((with_reducible refine gate_builtin (b := .append) (xs := #[.tmp 20, .tmp 30]) rfl ?_); at_builtin; refine Kd.R_append k98 (w0 := w) w.heap.size rfl (.tmp 20) (.tmp 30) 39 98 (.agg #[(.int .i64 0), (.int .i64 0), (.int .i64 0), (.bool false)]) 32 rfl Try.underlying39 info98 rfl (by decide) (by omega) v757 y756 (⟨wrap64 (a1_1 + a3), wrap64 (a1_2 - a3), 0, false⟩ : S98) [.int .i64 (wrap64 (a1_1 + a3)), .int .i64 (wrap64 (a1_2 - a3)), .int .i64 0, .bool false] (fun _ => True) (fun _ => False) rfl rfl ?aP (fun _ hk => hk.elim) ?aF ?aO ?aB ?aS ?aL ?_; (case aP => exact k98_mkM _ _ _ (⟨wrap64 (a1_1 + a3), wrap64 (a1_2 - a3), 0, false⟩ : S98)); (case aB => exact (bl HB.out)); (case aF => exact (fun _ _ => trivial)); (case aO => exact (rk HO758.out)); (case aS => exact (below_size (bl HB.out))); (case aL => have := LMc6.out; omega); intro v760 w17 ho hb hg hat; rw [← Ny759.out] at ho; replace BK753 := Aside0.mk (blk_grown (g := gb753) (o := .cells #[.int .i64 a0_0, .slice A0_1 l0_1.length c0_1, .slice A0_2 l0_2.length c0_2] 41 (0, 0)) (bk BK753.out) hg (Kd.R_ne HO758.out BK753.out (by decide))); replace BK754 := Aside0.mk (blk_grown (g := gb754) (o := .cells #[.int .i64 a1_0, .int .i64 a1_1, .int .i64 a1_2] 50 (0, 0)) (bk BK754.out) hg (Kd.R_ne HO758.out BK754.out (by decide))); replace BK755 := Aside0.mk (blk_grown (g := gb755) (o := .cells #[.int .i64 0, .slice none 0 0, .slice none 0 0] 41 (0, 0)) (bk BK755.out) hg (Kd.R_ne HO758.out BK755.out (by decide))); replace HB := Aside0.mk (hb); have HO761 := Aside0.mk (ho); clear HO758; clear ho hb hg hat; have hnb18 := NB753_755.out; have hnc18 := NB755_753.out; obtain ⟨hcz19_0, hcz19_1, hcz19_2, hfz19_0, hfz19_1, hfz19_2⟩ := cz3 BK753.out; obtain ⟨hcz20_0, hcz20_1, hcz20_2, hfz20_0, hfz20_1, hfz20_2⟩ := cz3 BK754.out; obtain ⟨Ao21, co21, eo21⟩ := Kd.R_slice HO761.out; subst eo21) | ((with_reducible refine gate_callee (f := 118) rfl ?_); refine goesL_ (some 36) rfl rfl Try.func118 (by kernel_rfl) rfl #[.agg #[.int .i64 a0_0, .slice A0_1 l0_1.length c0_1, .slice A0_2 l0_2.length c0_2], .int .i64 a1_1, .slice Ao21 y759.length co21] rfl mapd ?_; (with_reducible refine (impl_filled.calls k a0_0 _ _ l0_1 (fun k_ => k_ < w.heap.size) _ _ l0_2 a1_1 (fun k_ => some k_ = (.slice Ao21 y759.length co21 : Value).ownBlock) _ _ y759 t762 t763 t766 _ ?side1 ?side2 ?side3 ?side4 A7.out).mono ?_); (case side1 => exact cb (Kd.C_below HR0_1.out HB.out)); (case side2 => exact HC0_1.out); (case side3 => exact Kd.V_mk HC0_2.out (Kd.F_below (Kd.C_F k98_heap HR0_2.out) (bl HB.out))); (case side4 => exact Kd.R_V (Kd.R_tight rfl (Kd.R_types (Kd.R_types (Kd.R_types (HO761.out) BK753.out (by decide)) BK754.out (by decide)) BK755.out (by decide)))); rintro e w22 ⟨v764, v767, rfl, ho0, ho1, hb⟩; refine ⟨_, rfl, ?_⟩; have HO765 := Aside0.mk (Kd.R_lower (Kd.R_mono (ok' := fun k_ => True) ho0 (fun _ hk_ => trivial)) (below_size (bl HB.out))); have HO768 := Aside0.mk (Kd.R_lower (Kd.R_new' (Kd.R_mono (ok' := fun k_ => True) ho1 (fun _ hk_ => trivial)) (Kd.R_lt (rk HO761.out))) (below_size (bl HB.out))); replace HO761 := Aside0.mk (Kd.R_elder' (rk HO761.out) (Kd.R_base ho1) hb); replace BK753 := Aside0.mk (bb BK753.out hb); replace BK754 := Aside0.mk (bb BK754.out hb); replace BK755 := Aside0.mk (bb BK755.out hb); replace HB := Aside0.mk (below_step (bl HB.out) hb); (try clear hb); (try clear hb2); (try clear hk); (try clear hi); (try clear ho0); (try clear ho1); obtain ⟨hcz23_0, hcz23_1, hcz23_2, hfz23_0, hfz23_1, hfz23_2⟩ := cz3 BK755.out; obtain ⟨Ao24, co24, eo24⟩ := Kd.R_slice HO765.out; subst eo24; obtain ⟨Ao25, co25, eo25⟩ := Kd.R_slice HO768.out; subst eo25))
   refine bodyPost_ret (results_cell_row rfl _ _ gb755 41 #[.int .i64 t762, .slice Ao24 t763.length co24, .slice Ao25 t766.length co25] (0, 0) _ rfl (by refine bk ?_; refine blk_put (cs := #[.int .i64 t762, .slice Ao24 t763.length co24, .slice none 0 0]) ?_ 2 _ rfl; refine bk ?_; refine blk_put (cs := #[.int .i64 t762, .slice none 0 0, .slice none 0 0]) ?_ 1 _ rfl; refine bk ?_; refine blk_put (cs := #[.int .i64 0, .slice none 0 0, .slice none 0 0]) ?_ 0 _ rfl; refine bk ?_; exact BK755.out) Try.underlying41 rfl (by kernel_rfl)) rfl ?_
   exact ⟨_, _, by first | rfl | (simp [errW_none, errW_some] <;> rfl) | (simp [*, errW_none, errW_some] <;> rfl), by refine rk ?_; exact Kd.R_mono (Kd.R_far (p := ⟨gb755, 2, none⟩) (Kd.R_far (p := ⟨gb755, 1, none⟩) (Kd.R_far (p := ⟨gb755, 0, none⟩) (Kd.R_types HO765.out BK755.out (by decide)) (fun _ hk => hk.2) (.int .i64 t762)) (fun _ hk => hk.2) (.slice Ao24 t763.length co24)) (fun _ hk => hk.2) (.slice Ao25 t766.length co25)) (fun _ hk => trivial), by refine rk ?_; exact Kd.R_mono (Kd.R_far (p := ⟨gb755, 2, none⟩) (Kd.R_far (p := ⟨gb755, 1, none⟩) (Kd.R_far (p := ⟨gb755, 0, none⟩) (Kd.R_types HO768.out BK755.out (by decide)) (fun _ hk => hk.2) (.int .i64 t762)) (fun _ hk => hk.2) (.slice Ao24 t763.length co24)) (fun _ hk => hk.2) (.slice Ao25 t766.length co25)) (fun _ hk => trivial), bl HB.out⟩
  ·rw [if_neg c6] at H
   exact absurd H (by simp)
 ·rw [if_neg c5] at H
  have c5b0 : decide (a3 < a1_2) = false := decide_eq_false c5
  clear c5
  replace H := Option.bind_eq_some_iff.mp H
  obtain ⟨⟨t769, t770, t773⟩, A260, H⟩ := H
  try dsimp only at H
  have A26 := Aside0.mk A260
  clear A260
  simp only [Option.some.injEq, Prod.mk.injEq] at H
  obtain ⟨rfl, rfl, rfl⟩ := H
  go_enter Try.func82, Try.ntmps82
  go_wp2_with (first | ((with_reducible refine gate_dst (N := 4) rfl ?_); refine bx (cs := #[.int .i64 a0_0, .slice A0_1 l0_1.length c0_1, .slice A0_2 l0_2.length c0_2]) (t := 41) fun gb753 hg w27 hbox hb => ?_; have BK753 := Aside0.mk (hbox); have GW753 := Aside0.mk (gs HB.out hg); have GE753 := Aside0.mk (gs HB.out hg); replace HB := Aside0.mk (below_step (bl HB.out) hb); clear hb hbox hg) | ((with_reducible refine gate_dst (N := 5) rfl ?_); refine bx (cs := #[.int .i64 a1_0, .int .i64 a1_1, .int .i64 a1_2]) (t := 50) fun gb754 hg w28 hbox hb => ?_; have BK754 := Aside0.mk (hbox); have GW754 := Aside0.mk (gs HB.out hg); have GE754 := Aside0.mk (gs HB.out hg); replace HB := Aside0.mk (below_step (bl HB.out) hb); have NB753_754 := Aside0.mk ((nl BK753.out hg)); have NB754_753 := Aside0.mk ((ng BK753.out hg)); replace BK753 := Aside0.mk (bb BK753.out hb); clear hb hbox hg) | ((with_reducible refine gate_dst (N := 8) rfl ?_); refine bx (cs := #[.int .i64 0, .slice none 0 0, .slice none 0 0]) (t := 41) fun gb755 hg w29 hbox hb => ?_; have BK755 := Aside0.mk (hbox); have GW755 := Aside0.mk (gs HB.out hg); have GE755 := Aside0.mk (gs HB.out hg); replace HB := Aside0.mk (below_step (bl HB.out) hb); have NB753_755 := Aside0.mk ((nl BK753.out hg)); have NB755_753 := Aside0.mk ((ng BK753.out hg)); replace BK753 := Aside0.mk (bb BK753.out hb); have NB754_755 := Aside0.mk ((nl BK754.out hg)); have NB755_754 := Aside0.mk ((ng BK754.out hg)); replace BK754 := Aside0.mk (bb BK754.out hb); clear hb hbox hg; have hnb30 := NB754_753.out; have hnc30 := NB753_754.out; have hnb31 := NB754_755.out; have hnc31 := NB755_754.out; obtain ⟨hcz32_0, hcz32_1, hcz32_2, hfz32_0, hfz32_1, hfz32_2⟩ := cz3 BK754.out) | ((with_reducible refine gate_dst (N := 15) rfl ?_); refine Kd.R_lit k98 _ 98 ?hg (N := 15) ?hd (xs := ([(⟨a1_1, a3, a2, false⟩ : S98)] : List (S98))) (inner := [.int .i64 a1_1, .int .i64 a3, .int .i64 a2, .bool false]) (ok := fun _ => True) (okp := fun _ => True) ?hr ?hp (fun _ hk => hk) trivial (Below.refl _ _) (Nat.le_refl _) (by simp) ?_; (case hd => rfl); (case hg => rfl); (case hr => first | (go_simp; done) | (go_simp; rfl)); (case hp => exact (Reps.c4 (show Kd.M k98 _ _ _ (⟨a1_1, a3, a2, false⟩ : S98) [.int .i64 a1_1, .int .i64 a3, .int .i64 a2, .bool false] from (k98_mkM _ _ _ (⟨a1_1, a3, a2, false⟩ : S98) )) (Reps.none _ _))); intro v757 w33 ho34 hb hg_ hnew_; clear hg_ hnew_; (first | rw [← Ny756.out] at ho34 | (simp only [Int.reduceToNat] at ho34; rw [← Ny756.out] at ho34)); have HO758 := Aside0.mk (Kd.R_lower ho34 (below_size (bl HB.out))); replace BK753 := Aside0.mk (bb BK753.out hb); replace BK754 := Aside0.mk (bb BK754.out hb); replace BK755 := Aside0.mk (bb BK755.out hb); replace HB := Aside0.mk (below_step (bl HB.out) hb); clear hb ho34; obtain ⟨hcz35_0, hcz35_1, hcz35_2, hfz35_0, hfz35_1, hfz35_2⟩ := cz3 BK754.out; have hnb36 := NB753_755.out; have hnc36 := NB755_753.out; obtain ⟨hcz37_0, hcz37_1, hcz37_2, hfz37_0, hfz37_1, hfz37_2⟩ := cz3 BK753.out; obtain ⟨Ao38, co38, eo38⟩ := Kd.R_slice HO758.out; subst eo38) | ((with_reducible refine gate_callee (f := 118) rfl ?_); refine goesL_ (some 36) rfl rfl Try.func118 (by kernel_rfl) rfl #[.agg #[.int .i64 a0_0, .slice A0_1 l0_1.length c0_1, .slice A0_2 l0_2.length c0_2], .int .i64 a1_1, .slice Ao38 y756.length co38] rfl mapd ?_; (with_reducible refine (impl_filled.calls k a0_0 _ _ l0_1 (fun k_ => k_ < w.heap.size) _ _ l0_2 a1_1 (fun k_ => some k_ = (.slice Ao38 y756.length co38 : Value).ownBlock) _ _ y756 t769 t770 t773 _ ?side1 ?side2 ?side3 ?side4 A26.out).mono ?_); (case side1 => exact cb (Kd.C_below HR0_1.out HB.out)); (case side2 => exact HC0_1.out); (case side3 => exact Kd.V_mk HC0_2.out (Kd.F_below (Kd.C_F k98_heap HR0_2.out) (bl HB.out))); (case side4 => exact Kd.R_V (Kd.R_tight rfl (Kd.R_types (Kd.R_types (Kd.R_types (HO758.out) BK753.out (by decide)) BK754.out (by decide)) BK755.out (by decide)))); rintro e w39 ⟨v771, v774, rfl, ho0, ho1, hb⟩; refine ⟨_, rfl, ?_⟩; have HO772 := Aside0.mk (Kd.R_lower (Kd.R_mono (ok' := fun k_ => True) ho0 (fun _ hk_ => trivial)) (below_size (bl HB.out))); have HO775 := Aside0.mk (Kd.R_lower (Kd.R_new' (Kd.R_mono (ok' := fun k_ => True) ho1 (fun _ hk_ => trivial)) (Kd.R_lt (rk HO758.out))) (below_size (bl HB.out))); replace HO758 := Aside0.mk (Kd.R_elder' (rk HO758.out) (Kd.R_base ho1) hb); replace BK753 := Aside0.mk (bb BK753.out hb); replace BK754 := Aside0.mk (bb BK754.out hb); replace BK755 := Aside0.mk (bb BK755.out hb); replace HB := Aside0.mk (below_step (bl HB.out) hb); (try clear hb); (try clear hb2); (try clear hk); (try clear hi); (try clear ho0); (try clear ho1); obtain ⟨hcz40_0, hcz40_1, hcz40_2, hfz40_0, hfz40_1, hfz40_2⟩ := cz3 BK755.out; obtain ⟨Ao41, co41, eo41⟩ := Kd.R_slice HO772.out; subst eo41; obtain ⟨Ao42, co42, eo42⟩ := Kd.R_slice HO775.out; subst eo42))
  refine bodyPost_ret (results_cell_row rfl _ _ gb755 41 #[.int .i64 t769, .slice Ao41 t770.length co41, .slice Ao42 t773.length co42] (0, 0) _ rfl (by refine bk ?_; refine blk_put (cs := #[.int .i64 t769, .slice Ao41 t770.length co41, .slice none 0 0]) ?_ 2 _ rfl; refine bk ?_; refine blk_put (cs := #[.int .i64 t769, .slice none 0 0, .slice none 0 0]) ?_ 1 _ rfl; refine bk ?_; refine blk_put (cs := #[.int .i64 0, .slice none 0 0, .slice none 0 0]) ?_ 0 _ rfl; refine bk ?_; exact BK755.out) Try.underlying41 rfl (by kernel_rfl)) rfl ?_
  exact ⟨_, _, by first | rfl | (simp [errW_none, errW_some] <;> rfl) | (simp [*, errW_none, errW_some] <;> rfl), by refine rk ?_; exact Kd.R_mono (Kd.R_far (p := ⟨gb755, 2, none⟩) (Kd.R_far (p := ⟨gb755, 1, none⟩) (Kd.R_far (p := ⟨gb755, 0, none⟩) (Kd.R_types HO772.out BK755.out (by decide)) (fun _ hk => hk.2) (.int .i64 t769)) (fun _ hk => hk.2) (.slice Ao41 t770.length co41)) (fun _ hk => hk.2) (.slice Ao42 t773.length co42)) (fun _ hk => trivial), by refine rk ?_; exact Kd.R_mono (Kd.R_far (p := ⟨gb755, 2, none⟩) (Kd.R_far (p := ⟨gb755, 1, none⟩) (Kd.R_far (p := ⟨gb755, 0, none⟩) (Kd.R_types HO775.out BK755.out (by decide)) (fun _ hk => hk.2) (.int .i64 t769)) (fun _ hk => hk.2) (.slice Ao41 t770.length co41)) (fun _ hk => hk.2) (.slice Ao42 t773.length co42)) (fun _ hk => trivial), bl HB.out⟩
def impl_PutIn.j0 : Nat → Int → Int → Bool → Int → List Int → List (S98) → Int → Int → Int → Option (Int × List Int × (List (S98)) × Int × Bool)
 | 0, _, _, _, _, _, _, _, _, _ => none
 | k + 1, x1, x2, x34, x777000, x777001, x777002, x783000, x783001, x783002 => if x34 = true then ((impl_copyColumn.f x777000 x777001 x777002).bind fun bt786 => (some (bt786.1, bt786.2.1, bt786.2.2, (-1), false))) else ((impl_placed.f k x777000 x777001 x777002 x783000 x783001 x783002 x1 x2).bind fun bt793 => (some (bt793.1, bt793.2.1, bt793.2.2, x783001, true)))
def impl_PutIn.f (k : Nat) (a0_0 : Int) (l0_1 : List Int) (l0_2 : List (S98)) (a1 : Int) (a2 : Int) : Option (Int × List Int × (List (S98)) × Int × Bool) := (impl_FitOf.f k a0_0 l0_1 l0_2 a2).bind fun bt778 => ((impl_ColumnOk.f a0_0 l0_1 l0_2).bind fun t783 => (if t783 = true then ((impl_within.f a1 1 999).bind fun t784 => (if t784 = true then ((impl_boxAt.f a0_0 l0_1 l0_2 a1).bind fun t785 => (if t785 ≥ 0 then (impl_PutIn.j0 k a1 a2 true a0_0 l0_1 l0_2 bt778.1 bt778.2.1 bt778.2.2.1) else (impl_PutIn.j0 k a1 a2 (!bt778.2.2.2) a0_0 l0_1 l0_2 bt778.1 bt778.2.1 bt778.2.2.1))) else (impl_PutIn.j0 k a1 a2 true a0_0 l0_1 l0_2 bt778.1 bt778.2.1 bt778.2.2.1))) else (impl_PutIn.j0 k a1 a2 true a0_0 l0_1 l0_2 bt778.1 bt778.2.1 bt778.2.2.1)))
def impl_PutIn.T4 : Bool × List (List Nat × List Nat) := (true, [([], []), ([], []), ([], []), ([], []), ([0, 1, 2, 3], [0, 1, 2, 3]), ([], []), ([5], [5]), ([4, 4, 0, 1, 2, 3, 4], [4]), ([6, 7, 0, 1, 2, 3, 4, 5, 6, 7], [6]), ([8, 0, 1, 2, 3, 4, 5, 6, 7, 8], [])])
def impl_PutIn.B4 : List Nat := [0, 0, 0, 0, 15, 0, 32, 31, 255, 511]
theorem impl_PutIn.tab4 : rtab .any (opsOf Try.f29 4) = impl_PutIn.T4 := by kernel_rfl
theorem impl_PutIn.bits4 : waitsOk impl_PutIn.T4.2 impl_PutIn.B4 = true := by kernel_rfl
set_option maxHeartbeats 8000000 in
set_option maxRecDepth 100000 in
theorem impl_PutIn.calls (k : Nat) (a0_0 : Int) (A0_1 : Option Addr) (c0_1 : Nat) (l0_1 : List Int) (A0_2 : Option Addr) (c0_2 : Nat) (l0_2 : List (S98)) (a1 : Int) (a2 : Int) (r1 : Int) (r2 : List Int) (r3 : List (S98)) (r4 : Int) (r5 : Bool) (w : World) (hr0_1 : Kd.C (Kd.int .i64) w A0_1 l0_1.length l0_1) (hc0_1 : l0_1.length ≤ c0_1) (hr0_2 : Kd.C k98 w A0_2 l0_2.length l0_2) (hc0_2 : l0_2.length ≤ c0_2) (h : impl_PutIn.f k a0_0 l0_1 l0_2 a1 a2 = some (r1, r2, r3, r4, r5)) :
  Calls Try.prog 29 #[.agg #[.int .i64 a0_0, .slice A0_1 l0_1.length c0_1, .slice A0_2 l0_2.length c0_2], .int .i64 a1, .int .i64 a2] w fun e w' => ∃ v1_ v2_ : Value, e = .returned (.tuple #[.agg #[.int .i64 r1, v1_, v2_], .int .i64 r4, .bool r5]) ∧ Kd.R (Kd.int .i64) 3 w' w.heap.size (fun _ => True) v1_ r2 ∧ Kd.R k98 98 w' w.heap.size (fun _ => True) v2_ r3 ∧ Below w.heap.size w w' := by
 have hu41 := Try.underlying41
 have hu50 := Try.underlying50
 have HR0_1 := Aside0.mk hr0_1
 have HC0_1 := Aside0.mk hc0_1
 clear hr0_1 hc0_1
 have HR0_2 := Aside0.mk hr0_2
 have HC0_2 := Aside0.mk hc0_2
 clear hr0_2 hc0_2
 have HB := Aside0.mk (Below.refl w.heap.size w)
 have H : ((impl_FitOf.f k a0_0 l0_1 l0_2 a2).bind fun bt778 => ((impl_ColumnOk.f a0_0 l0_1 l0_2).bind fun t783 => (if t783 = true then ((impl_within.f a1 1 999).bind fun t784 => (if t784 = true then ((impl_boxAt.f a0_0 l0_1 l0_2 a1).bind fun t785 => (if t785 ≥ 0 then (impl_PutIn.j0 k a1 a2 true a0_0 l0_1 l0_2 bt778.1 bt778.2.1 bt778.2.2.1) else (impl_PutIn.j0 k a1 a2 (!bt778.2.2.2) a0_0 l0_1 l0_2 bt778.1 bt778.2.1 bt778.2.2.1))) else (impl_PutIn.j0 k a1 a2 true a0_0 l0_1 l0_2 bt778.1 bt778.2.1 bt778.2.2.1))) else (impl_PutIn.j0 k a1 a2 true a0_0 l0_1 l0_2 bt778.1 bt778.2.1 bt778.2.2.1)))) = some (r1, r2, r3, r4, r5) := h
 clear h
 replace H := Option.bind_eq_some_iff.mp H
 obtain ⟨⟨t778, t779, t780, t781⟩, A40, H⟩ := H
 try dsimp only at H
 have A4 := Aside0.mk A40
 clear A40
 have HC5 := Aside0.mk H
 clear H
 go_enter Try.func29, Try.ntmps29
 go_upto_region 2 with (first | ((with_reducible refine gate_dst (N := 3) rfl ?_); refine bx (cs := #[.int .i64 a0_0, .slice A0_1 l0_1.length c0_1, .slice A0_2 l0_2.length c0_2]) (t := 41) fun gb776 hg w6 hbox hb => ?_; have BK776 := Aside0.mk (hbox); have GW776 := Aside0.mk (gs HB.out hg); have GE776 := Aside0.mk (gs HB.out hg); replace HB := Aside0.mk (below_step (bl HB.out) hb); clear hb hbox hg) | ((with_reducible refine gate_dst (N := 6) rfl ?_); refine bx (cs := #[.int .i64 0, .slice none 0 0, .slice none 0 0]) (t := 41) fun gb777 hg w7 hbox hb => ?_; have BK777 := Aside0.mk (hbox); have GW777 := Aside0.mk (gs HB.out hg); have GE777 := Aside0.mk (gs HB.out hg); replace HB := Aside0.mk (below_step (bl HB.out) hb); have NB776_777 := Aside0.mk ((nl BK776.out hg)); have NB777_776 := Aside0.mk ((ng BK776.out hg)); replace BK776 := Aside0.mk (bb BK776.out hb); clear hb hbox hg; have hnb8 := NB776_777.out; have hnc8 := NB777_776.out; obtain ⟨hcz9_0, hcz9_1, hcz9_2, hfz9_0, hfz9_1, hfz9_2⟩ := cz3 BK776.out) | ((with_reducible refine gate_callee (f := 33) rfl ?_); refine goesL_ (some 14) rfl rfl Try.func33 (by kernel_rfl) rfl #[.agg #[.int .i64 a0_0, .slice A0_1 l0_1.length c0_1, .slice A0_2 l0_2.length c0_2], .int .i64 a2] rfl mapd ?_; (with_reducible refine (impl_FitOf.calls k a0_0 _ _ l0_1 _ _ l0_2 a2 t778 t779 t780 t781 _ ?side1 ?side2 ?side3 ?side4 A4.out).mono ?_); (case side1 => exact cb (Kd.C_below HR0_1.out HB.out)); (case side2 => exact HC0_1.out); (case side3 => exact cb (Kd.C_below HR0_2.out HB.out)); (case side4 => exact HC0_2.out); rintro e w10 ⟨rfl, hb⟩; refine ⟨_, rfl, ?_⟩; replace BK776 := Aside0.mk (bb BK776.out hb); replace BK777 := Aside0.mk (bb BK777.out hb); replace HB := Aside0.mk (below_step (bl HB.out) hb); (try clear hb); (try clear hb2); (try clear hk); (try clear hi)) | ((with_reducible refine gate_dst (N := 9) rfl ?_); refine bx (cs := #[.int .i64 0, .int .i64 0, .int .i64 0]) (t := 50) fun gb782 hg w11 hbox hb => ?_; have BK782 := Aside0.mk (hbox); have GW782 := Aside0.mk (gs HB.out hg); have GE782 := Aside0.mk (gs HB.out hg); replace HB := Aside0.mk (below_step (bl HB.out) hb); have NB776_782 := Aside0.mk ((nl BK776.out hg)); have NB782_776 := Aside0.mk ((ng BK776.out hg)); replace BK776 := Aside0.mk (bb BK776.out hb); have NB777_782 := Aside0.mk ((nl BK777.out hg)); have NB782_777 := Aside0.mk ((ng BK777.out hg)); replace BK777 := Aside0.mk (bb BK777.out hb); clear hb hbox hg; have hnb12 := NB782_776.out; have hnc12 := NB776_782.out; have hnb13 := NB782_777.out; have hnc13 := NB777_782.out; obtain ⟨hcz14_0, hcz14_1, hcz14_2, hfz14_0, hfz14_1, hfz14_2⟩ := cz3 BK782.out))
 (try simp only [Act.put, List.setIfInBounds_toArray, List.set_cons_zero, List.set_cons_succ])
 go_cut [34] (fun v34 wc => ∃ (kq : Nat) (x34_4 : Bool), v34 = .bool x34_4 ∧ Aside0 (impl_PutIn.j0 kq a1 a2 x34_4 a0_0 l0_1 l0_2 t778 t779 t780 = some (r1, r2, r3, r4, r5)) ∧ Aside0 (kq ≤ k) ∧ Aside0 (wc.heap[gb776]? = some (.cells #[.int .i64 a0_0, (.slice A0_1 l0_1.length c0_1), (.slice A0_2 l0_2.length c0_2)] 41 (0, 0))) ∧ Aside0 (wc.heap[gb777]? = some (.cells #[.int .i64 0, (.slice none 0 0), (.slice none 0 0)] 41 (0, 0))) ∧ Aside0 (wc.heap[gb782]? = some (.cells #[.int .i64 t778, .int .i64 t779, .int .i64 t780] 50 (0, 0))) ∧ Aside0 (Below w.heap.size w wc))
 case first =>
  have H := HC5.out
  clear HC5
  replace H := Option.bind_eq_some_iff.mp H
  obtain ⟨t783, A150, H⟩ := H
  try dsimp only at H
  have A15 := Aside0.mk A150
  clear A150
  by_cases c16 : t783 = true
  ·subst c16
   rw [if_pos rfl] at H
   replace H := Option.bind_eq_some_iff.mp H
   obtain ⟨t784, A170, H⟩ := H
   try dsimp only at H
   have A17 := Aside0.mk A170
   clear A170
   by_cases c18 : t784 = true
   ·subst c18
    rw [if_pos rfl] at H
    replace H := Option.bind_eq_some_iff.mp H
    obtain ⟨t785, A190, H⟩ := H
    try dsimp only at H
    have A19 := Aside0.mk A190
    clear A190
    by_cases c20 : t785 ≥ 0
    ·rw [if_pos c20] at H
     have c20b0 : decide (0 ≤ t785) = true := decide_eq_true c20
     clear c20
     (first | rw [c20b0] | (simp only [i64_w, i32_w]; rw [c20b0]) | skip)
     have H' := Aside0.mk H
     clear H
     have hnb21 := NB776_777.out
     have hnc21 := NB777_776.out
     have hnb22 := NB776_782.out
     have hnc22 := NB782_776.out
     obtain ⟨hcz23_0, hcz23_1, hcz23_2, hfz23_0, hfz23_1, hfz23_2⟩ := cz3 BK776.out
     go_wp2_with (first | ((with_reducible refine gate_callee (f := 34) rfl ?_); refine goesL_ (some 18) rfl rfl Try.func34 (by kernel_rfl) rfl #[.agg #[.int .i64 a0_0, .slice A0_1 l0_1.length c0_1, .slice A0_2 l0_2.length c0_2]] rfl mapd ?_; (with_reducible refine (impl_ColumnOk.calls a0_0 _ _ l0_1 _ _ l0_2 true _ ?side1 ?side2 ?side3 ?side4 A15.out).mono ?_); (case side1 => exact Kd.C_below HR0_1.out (bl HB.out)); (case side2 => exact HC0_1.out); (case side3 => exact Kd.C_below HR0_2.out (bl HB.out)); (case side4 => exact HC0_2.out); rintro e w24 ⟨rfl, hb⟩; refine ⟨_, rfl, ?_⟩; replace BK776 := Aside0.mk (blk_below (g := gb776) (o := .cells #[.int .i64 a0_0, .slice A0_1 l0_1.length c0_1, .slice A0_2 l0_2.length c0_2] 41 (0, 0)) (bf BK776.out) hb); replace BK777 := Aside0.mk (blk_below (g := gb777) (o := .cells #[.int .i64 0, .slice none 0 0, .slice none 0 0] 41 (0, 0)) (bf BK777.out) hb); replace BK782 := Aside0.mk (blk_below (g := gb782) (o := .cells #[.int .i64 t778, .int .i64 t779, .int .i64 t780] 50 (0, 0)) (by refine bk ?_; refine blk_put (cs := #[.int .i64 t778, .int .i64 t779, .int .i64 0]) ?_ 2 _ rfl; refine bk ?_; refine blk_put (cs := #[.int .i64 t778, .int .i64 0, .int .i64 0]) ?_ 1 _ rfl; refine bk ?_; refine blk_put (cs := #[.int .i64 0, .int .i64 0, .int .i64 0]) ?_ 0 _ rfl; refine bk ?_; exact BK782.out) hb); replace HB := Aside0.mk (below_step (bl HB.out) hb); (try clear hb); (try clear hb2); (try clear hk); (try clear hi)) | (go_at_call 79; (with_reducible refine (impl_within.calls a1 1 999 true _ A17.out).mono ?_); rintro e w' ⟨rfl, ⟨nd, rfl⟩⟩; obtain ⟨hcz25_0, hcz25_1, hcz25_2, hfz25_0, hfz25_1, hfz25_2⟩ := cz3 BK776.out) | (go_at_call 80; (with_reducible refine (impl_boxAt.calls a0_0 _ _ l0_1 _ _ l0_2 a1 t785 _ ?side1 ?side2 ?side3 ?side4 A19.out).mono ?_); (case side1 => exact cb ((Kd.C_below HR0_1.out (bl HB.out)))); (case side2 => exact HC0_1.out); (case side3 => exact cb ((Kd.C_below HR0_2.out (bl HB.out)))); (case side4 => exact HC0_2.out); rintro e w26 ⟨rfl, hb⟩; replace BK776 := Aside0.mk (bb BK776.out hb); replace BK777 := Aside0.mk (bb BK777.out hb); replace BK782 := Aside0.mk (bb BK782.out hb); replace HB := Aside0.mk (below_step (bl HB.out) hb); (try clear hb); (try clear hb2); (try clear hk); (try clear hi)))
     go_meet
     case rel => exact ⟨_, (true), (by first | rfl | (simp; done) | (simp [*]; done)), H', ⟨by first | omega | exact Nat.le_refl _⟩, ⟨by refine bk ?_; exact BK776.out⟩, ⟨by refine bk ?_; exact BK777.out⟩, ⟨by refine bk ?_; exact BK782.out⟩, ⟨bl HB.out⟩⟩
    ·rw [if_neg c20] at H
     have c20b0 : decide (0 ≤ t785) = false := decide_eq_false c20
     clear c20
     (first | rw [c20b0] | (simp only [i64_w, i32_w]; rw [c20b0]) | skip)
     have H' := Aside0.mk H
     clear H
     have hnb27 := NB776_777.out
     have hnc27 := NB777_776.out
     have hnb28 := NB776_782.out
     have hnc28 := NB782_776.out
     obtain ⟨hcz29_0, hcz29_1, hcz29_2, hfz29_0, hfz29_1, hfz29_2⟩ := cz3 BK776.out
     go_wp2_with (first | ((with_reducible refine gate_callee (f := 34) rfl ?_); refine goesL_ (some 18) rfl rfl Try.func34 (by kernel_rfl) rfl #[.agg #[.int .i64 a0_0, .slice A0_1 l0_1.length c0_1, .slice A0_2 l0_2.length c0_2]] rfl mapd ?_; (with_reducible refine (impl_ColumnOk.calls a0_0 _ _ l0_1 _ _ l0_2 true _ ?side1 ?side2 ?side3 ?side4 A15.out).mono ?_); (case side1 => exact Kd.C_below HR0_1.out (bl HB.out)); (case side2 => exact HC0_1.out); (case side3 => exact Kd.C_below HR0_2.out (bl HB.out)); (case side4 => exact HC0_2.out); rintro e w30 ⟨rfl, hb⟩; refine ⟨_, rfl, ?_⟩; replace BK776 := Aside0.mk (blk_below (g := gb776) (o := .cells #[.int .i64 a0_0, .slice A0_1 l0_1.length c0_1, .slice A0_2 l0_2.length c0_2] 41 (0, 0)) (bf BK776.out) hb); replace BK777 := Aside0.mk (blk_below (g := gb777) (o := .cells #[.int .i64 0, .slice none 0 0, .slice none 0 0] 41 (0, 0)) (bf BK777.out) hb); replace BK782 := Aside0.mk (blk_below (g := gb782) (o := .cells #[.int .i64 t778, .int .i64 t779, .int .i64 t780] 50 (0, 0)) (by refine bk ?_; refine blk_put (cs := #[.int .i64 t778, .int .i64 t779, .int .i64 0]) ?_ 2 _ rfl; refine bk ?_; refine blk_put (cs := #[.int .i64 t778, .int .i64 0, .int .i64 0]) ?_ 1 _ rfl; refine bk ?_; refine blk_put (cs := #[.int .i64 0, .int .i64 0, .int .i64 0]) ?_ 0 _ rfl; refine bk ?_; exact BK782.out) hb); replace HB := Aside0.mk (below_step (bl HB.out) hb); (try clear hb); (try clear hb2); (try clear hk); (try clear hi)) | (go_at_call 79; (with_reducible refine (impl_within.calls a1 1 999 true _ A17.out).mono ?_); rintro e w' ⟨rfl, ⟨nd, rfl⟩⟩; obtain ⟨hcz31_0, hcz31_1, hcz31_2, hfz31_0, hfz31_1, hfz31_2⟩ := cz3 BK776.out) | (go_at_call 80; (with_reducible refine (impl_boxAt.calls a0_0 _ _ l0_1 _ _ l0_2 a1 t785 _ ?side1 ?side2 ?side3 ?side4 A19.out).mono ?_); (case side1 => exact cb ((Kd.C_below HR0_1.out (bl HB.out)))); (case side2 => exact HC0_1.out); (case side3 => exact cb ((Kd.C_below HR0_2.out (bl HB.out)))); (case side4 => exact HC0_2.out); rintro e w32 ⟨rfl, hb⟩; replace BK776 := Aside0.mk (bb BK776.out hb); replace BK777 := Aside0.mk (bb BK777.out hb); replace BK782 := Aside0.mk (bb BK782.out hb); replace HB := Aside0.mk (below_step (bl HB.out) hb); (try clear hb); (try clear hb2); (try clear hk); (try clear hi)))
     go_meet
     case rel => exact ⟨_, (!t781), (by first | rfl | (simp; done) | (simp [*]; done)), H', ⟨by first | omega | exact Nat.le_refl _⟩, ⟨by refine bk ?_; exact BK776.out⟩, ⟨by refine bk ?_; exact BK777.out⟩, ⟨by refine bk ?_; exact BK782.out⟩, ⟨bl HB.out⟩⟩
   ·replace c18 := Bool.eq_false_iff.mpr c18
    subst c18
    rw [if_neg (show ¬ (false = true) by decide)] at H
    have H' := Aside0.mk H
    clear H
    have hnb33 := NB776_777.out
    have hnc33 := NB777_776.out
    have hnb34 := NB776_782.out
    have hnc34 := NB782_776.out
    obtain ⟨hcz35_0, hcz35_1, hcz35_2, hfz35_0, hfz35_1, hfz35_2⟩ := cz3 BK776.out
    go_wp2_with (first | ((with_reducible refine gate_callee (f := 34) rfl ?_); refine goesL_ (some 18) rfl rfl Try.func34 (by kernel_rfl) rfl #[.agg #[.int .i64 a0_0, .slice A0_1 l0_1.length c0_1, .slice A0_2 l0_2.length c0_2]] rfl mapd ?_; (with_reducible refine (impl_ColumnOk.calls a0_0 _ _ l0_1 _ _ l0_2 true _ ?side1 ?side2 ?side3 ?side4 A15.out).mono ?_); (case side1 => exact Kd.C_below HR0_1.out (bl HB.out)); (case side2 => exact HC0_1.out); (case side3 => exact Kd.C_below HR0_2.out (bl HB.out)); (case side4 => exact HC0_2.out); rintro e w36 ⟨rfl, hb⟩; refine ⟨_, rfl, ?_⟩; replace BK776 := Aside0.mk (blk_below (g := gb776) (o := .cells #[.int .i64 a0_0, .slice A0_1 l0_1.length c0_1, .slice A0_2 l0_2.length c0_2] 41 (0, 0)) (bf BK776.out) hb); replace BK777 := Aside0.mk (blk_below (g := gb777) (o := .cells #[.int .i64 0, .slice none 0 0, .slice none 0 0] 41 (0, 0)) (bf BK777.out) hb); replace BK782 := Aside0.mk (blk_below (g := gb782) (o := .cells #[.int .i64 t778, .int .i64 t779, .int .i64 t780] 50 (0, 0)) (by refine bk ?_; refine blk_put (cs := #[.int .i64 t778, .int .i64 t779, .int .i64 0]) ?_ 2 _ rfl; refine bk ?_; refine blk_put (cs := #[.int .i64 t778, .int .i64 0, .int .i64 0]) ?_ 1 _ rfl; refine bk ?_; refine blk_put (cs := #[.int .i64 0, .int .i64 0, .int .i64 0]) ?_ 0 _ rfl; refine bk ?_; exact BK782.out) hb); replace HB := Aside0.mk (below_step (bl HB.out) hb); (try clear hb); (try clear hb2); (try clear hk); (try clear hi)) | (go_at_call 79; (with_reducible refine (impl_within.calls a1 1 999 false _ A17.out).mono ?_); rintro e w' ⟨rfl, ⟨nd, rfl⟩⟩))
    go_meet
    case rel => exact ⟨_, (true), (by first | rfl | (simp; done) | (simp [*]; done)), H', ⟨by first | omega | exact Nat.le_refl _⟩, ⟨by refine bk ?_; exact BK776.out⟩, ⟨by refine bk ?_; exact BK777.out⟩, ⟨by refine bk ?_; exact BK782.out⟩, ⟨bl HB.out⟩⟩
  ·replace c16 := Bool.eq_false_iff.mpr c16
   subst c16
   rw [if_neg (show ¬ (false = true) by decide)] at H
   have H' := Aside0.mk H
   clear H
   have hnb37 := NB776_777.out
   have hnc37 := NB777_776.out
   have hnb38 := NB776_782.out
   have hnc38 := NB782_776.out
   obtain ⟨hcz39_0, hcz39_1, hcz39_2, hfz39_0, hfz39_1, hfz39_2⟩ := cz3 BK776.out
   go_wp2_with (first | ((with_reducible refine gate_callee (f := 34) rfl ?_); refine goesL_ (some 18) rfl rfl Try.func34 (by kernel_rfl) rfl #[.agg #[.int .i64 a0_0, .slice A0_1 l0_1.length c0_1, .slice A0_2 l0_2.length c0_2]] rfl mapd ?_; (with_reducible refine (impl_ColumnOk.calls a0_0 _ _ l0_1 _ _ l0_2 false _ ?side1 ?side2 ?side3 ?side4 A15.out).mono ?_); (case side1 => exact Kd.C_below HR0_1.out (bl HB.out)); (case side2 => exact HC0_1.out); (case side3 => exact Kd.C_below HR0_2.out (bl HB.out)); (case side4 => exact HC0_2.out); rintro e w40 ⟨rfl, hb⟩; refine ⟨_, rfl, ?_⟩; replace BK776 := Aside0.mk (blk_below (g := gb776) (o := .cells #[.int .i64 a0_0, .slice A0_1 l0_1.length c0_1, .slice A0_2 l0_2.length c0_2] 41 (0, 0)) (bf BK776.out) hb); replace BK777 := Aside0.mk (blk_below (g := gb777) (o := .cells #[.int .i64 0, .slice none 0 0, .slice none 0 0] 41 (0, 0)) (bf BK777.out) hb); replace BK782 := Aside0.mk (blk_below (g := gb782) (o := .cells #[.int .i64 t778, .int .i64 t779, .int .i64 t780] 50 (0, 0)) (by refine bk ?_; refine blk_put (cs := #[.int .i64 t778, .int .i64 t779, .int .i64 0]) ?_ 2 _ rfl; refine bk ?_; refine blk_put (cs := #[.int .i64 t778, .int .i64 0, .int .i64 0]) ?_ 1 _ rfl; refine bk ?_; refine blk_put (cs := #[.int .i64 0, .int .i64 0, .int .i64 0]) ?_ 0 _ rfl; refine bk ?_; exact BK782.out) hb); replace HB := Aside0.mk (below_step (bl HB.out) hb); (try clear hb); (try clear hb2); (try clear hk); (try clear hi)))
   go_meet
   case rel => exact ⟨_, (true), (by first | rfl | (simp; done) | (simp [*]; done)), H', ⟨by first | omega | exact Nat.le_refl _⟩, ⟨by refine bk ?_; exact BK776.out⟩, ⟨by refine bk ?_; exact BK777.out⟩, ⟨by refine bk ?_; exact BK782.out⟩, ⟨bl HB.out⟩⟩
 case rest =>
  clear HC5
  try clear c1
  try clear c2
  try clear p2
  try clear c3
  try clear c8
  try clear c12
  try clear c13
  try clear c16
  try clear c18
  try clear c20
  try clear c20b0
  try clear c21
  try clear c22
  try clear c27
  try clear c28
  try clear c29
  try clear c33
  try clear c34
  try clear c37
  try clear c38
  try clear hcz14_0
  try clear hcz14_1
  try clear hcz14_2
  try clear hcz23_0
  try clear hcz23_1
  try clear hcz23_2
  try clear hcz25_0
  try clear hcz25_1
  try clear hcz25_2
  try clear hcz29_0
  try clear hcz29_1
  try clear hcz29_2
  try clear hcz31_0
  try clear hcz31_1
  try clear hcz31_2
  try clear hcz35_0
  try clear hcz35_1
  try clear hcz35_2
  try clear hcz39_0
  try clear hcz39_1
  try clear hcz39_2
  try clear hcz9_0
  try clear hcz9_1
  try clear hcz9_2
  try clear hfz14_0
  try clear hfz14_1
  try clear hfz14_2
  try clear hfz23_0
  try clear hfz23_1
  try clear hfz23_2
  try clear hfz25_0
  try clear hfz25_1
  try clear hfz25_2
  try clear hfz29_0
  try clear hfz29_1
  try clear hfz29_2
  try clear hfz31_0
  try clear hfz31_1
  try clear hfz31_2
  try clear hfz35_0
  try clear hfz35_1
  try clear hfz35_2
  try clear hfz39_0
  try clear hfz39_1
  try clear hfz39_2
  try clear hfz9_0
  try clear hfz9_1
  try clear hfz9_2
  obtain ⟨kq, x34_4, rfl, HA, HJ4, BK776, BK777, BK782, HB⟩ := hcut
  cases kq with
  | zero => exact absurd HA.out (by simp [impl_PutIn.j0])
  | succ kj4 =>
   have H := HA.out
   clear HA
   simp only [impl_PutIn.j0] at H
   by_cases c41 : x34_4 = true
   ·subst c41
    rw [if_pos rfl] at H
    replace H := Option.bind_eq_some_iff.mp H
    obtain ⟨⟨t786, t787, t790⟩, A420, H⟩ := H
    try dsimp only at H
    have A42 := Aside0.mk A420
    clear A420
    simp only [Option.some.injEq, Prod.mk.injEq] at H
    obtain ⟨rfl, rfl, rfl, rfl, rfl⟩ := H
    have hnb43 := NB776_777.out
    have hnc43 := NB777_776.out
    have hnb44 := NB776_782.out
    have hnc44 := NB782_776.out
    obtain ⟨hcz45_0, hcz45_1, hcz45_2, hfz45_0, hfz45_1, hfz45_2⟩ := cz3 BK776.out
    go_wp2_with (first | ((with_reducible refine gate_callee (f := 81) rfl ?_); refine goesL_ (some 36) rfl rfl Try.func81 (by kernel_rfl) rfl #[.agg #[.int .i64 a0_0, .slice A0_1 l0_1.length c0_1, .slice A0_2 l0_2.length c0_2]] rfl mapd ?_; (with_reducible refine (impl_copyColumn.calls a0_0 _ _ l0_1 _ _ l0_2 t786 t787 t790 _ ?side1 ?side2 ?side3 ?side4 A42.out).mono ?_); (case side1 => exact cb (Kd.C_below HR0_1.out HB.out)); (case side2 => exact HC0_1.out); (case side3 => exact cb (Kd.C_below HR0_2.out HB.out)); (case side4 => exact HC0_2.out); rintro e w46 ⟨v788, v791, rfl, ho0, ho1, hb⟩; refine ⟨_, rfl, ?_⟩; have HO789 := Aside0.mk (Kd.R_lower ho0 (below_size (bl HB.out))); have HO792 := Aside0.mk (Kd.R_lower ho1 (below_size (bl HB.out))); replace BK776 := Aside0.mk (bb BK776.out hb); replace BK777 := Aside0.mk (bb BK777.out hb); replace BK782 := Aside0.mk (bb BK782.out hb); replace HB := Aside0.mk (below_step (bl HB.out) hb); (try clear hb); (try clear hb2); (try clear hk); (try clear hi); (try clear ho0); (try clear ho1); have hnb47 := NB777_782.out; have hnc47 := NB782_777.out; obtain ⟨hcz48_0, hcz48_1, hcz48_2, hfz48_0, hfz48_1, hfz48_2⟩ := cz3 BK777.out; obtain ⟨Ao49, co49, eo49⟩ := Kd.R_slice HO789.out; subst eo49; obtain ⟨Ao50, co50, eo50⟩ := Kd.R_slice HO792.out; subst eo50))
    refine bodyPost_ret (results_ctt rfl _ _ gb777 41 #[.int .i64 t786, .slice Ao49 t787.length co49, .slice Ao50 t790.length co50] (0, 0) _ rfl (by refine bk ?_; refine blk_put (cs := #[.int .i64 t786, .slice Ao49 t787.length co49, .slice none 0 0]) ?_ 2 _ rfl; refine bk ?_; refine blk_put (cs := #[.int .i64 t786, .slice none 0 0, .slice none 0 0]) ?_ 1 _ rfl; refine bk ?_; refine blk_put (cs := #[.int .i64 0, .slice none 0 0, .slice none 0 0]) ?_ 0 _ rfl; refine bk ?_; exact BK777.out) Try.underlying41 rfl (by kernel_rfl)) rfl ?_
    exact ⟨_, _, by first | rfl | (simp [errW_none, errW_some] <;> rfl) | (simp [*, errW_none, errW_some] <;> rfl), by refine rk ?_; exact Kd.R_mono (Kd.R_far (p := ⟨gb777, 2, none⟩) (Kd.R_far (p := ⟨gb777, 1, none⟩) (Kd.R_far (p := ⟨gb777, 0, none⟩) (Kd.R_types HO789.out BK777.out (by decide)) (fun _ hk => hk.2) (.int .i64 t786)) (fun _ hk => hk.2) (.slice Ao49 t787.length co49)) (fun _ hk => hk.2) (.slice Ao50 t790.length co50)) (fun _ hk => trivial), by refine rk ?_; exact Kd.R_mono (Kd.R_far (p := ⟨gb777, 2, none⟩) (Kd.R_far (p := ⟨gb777, 1, none⟩) (Kd.R_far (p := ⟨gb777, 0, none⟩) (Kd.R_types HO792.out BK777.out (by decide)) (fun _ hk => hk.2) (.int .i64 t786)) (fun _ hk => hk.2) (.slice Ao49 t787.length co49)) (fun _ hk => hk.2) (.slice Ao50 t790.length co50)) (fun _ hk => trivial), bl HB.out⟩
   ·replace c41 := Bool.eq_false_iff.mpr c41
    subst c41
    rw [if_neg (show ¬ (false = true) by decide)] at H
    replace H := Option.bind_eq_some_iff.mp H
    obtain ⟨⟨t793, t794, t797⟩, A510, H⟩ := H
    try dsimp only at H
    have A51 := Aside0.mk A510
    clear A510
    simp only [Option.some.injEq, Prod.mk.injEq] at H
    obtain ⟨rfl, rfl, rfl, rfl, rfl⟩ := H
    try go_wp2
    replace BK776 := Aside0.mk (blk_drew BK776.out)
    replace BK777 := Aside0.mk (blk_drew BK777.out)
    replace BK782 := Aside0.mk (blk_drew BK782.out)
    replace HB := Aside0.mk (below_drew1 HB.out)
    refine start_ (n := 10) (S := fun w' => w'.cell? ⟨gb776, 0, none⟩ = some (.int .i64 a0_0) ∧ w'.cell? ⟨gb776, 1, none⟩ = some (.slice A0_1 l0_1.length c0_1) ∧ w'.cell? ⟨gb776, 2, none⟩ = some (.slice A0_2 l0_2.length c0_2) ∧ w'.cell? ⟨gb782, 0, none⟩ = some (.int .i64 t778) ∧ w'.cell? ⟨gb782, 1, none⟩ = some (.int .i64 t779) ∧ w'.cell? ⟨gb782, 2, none⟩ = some (.int .i64 t780)) (ds := []) #[false, false, false, false, false, false, false, false, false, false] (by kernel_rfl) rfl rfl ⟨(blk_cell BK776.out 0).trans rfl, (blk_cell BK776.out 1).trans rfl, (blk_cell BK776.out 2).trans rfl, (blk_cell BK782.out 0).trans rfl, (blk_cell BK782.out 1).trans rfl, (blk_cell BK782.out 2).trans rfl⟩ (fun hHeld => ?_); refine with_tabW impl_PutIn.tab4 impl_PutIn.bits4 (fun HT_ HW_ => ?_)
    generalize wc.drew = w52 at BK776 BK777 BK782 HB hHeld ⊢
    refine puA (i := 2) (N := some 39) HT_.out ?_
    refine puA (i := 3) (N := some 40) HT_.out ?_
    refine puA (i := 5) (N := some 42) HT_.out ?_
    refine tkA6 (i := 0) (N := some 37) HT_.out HW_.out hHeld ?_
    refine tkA6 (i := 1) (N := some 38) HT_.out HW_.out hHeld ?_
    refine tkA6 (i := 6) (N := some 43) HT_.out HW_.out hHeld ?_
    refine onA (i := 4) (N := some 41) HT_.out (fun K hK => ?_)
    refine goes_ Try.func82 (by kernel_rfl) rfl #[.agg #[.int .i64 a0_0, .slice A0_1 l0_1.length c0_1, .slice A0_2 l0_2.length c0_2], .agg #[.int .i64 t778, .int .i64 t779, .int .i64 t780], .int .i64 a1, .int .i64 a2] (by rfl) rfl rfl mapd ?_
    with_reducible refine (impl_placed.calls kj4 a0_0 _ _ l0_1 _ _ l0_2 t778 t779 t780 a1 a2 t793 t794 t797 _ ?side1 ?side2 ?side3 ?side4 A51.out).mono ?_
    (case side1 => exact cb (Kd.C_below HR0_1.out HB.out))
    (case side2 => exact HC0_1.out)
    (case side3 => exact cb (Kd.C_below HR0_2.out HB.out))
    (case side4 => exact HC0_2.out)
    rintro e w53 ⟨v795, v798, rfl, ho0, ho1, hb⟩
    refine ⟨_, rfl, ?_⟩
    have HO796 := Aside0.mk (Kd.R_lower ho0 (below_size (bl HB.out)))
    have HO799 := Aside0.mk (Kd.R_lower ho1 (below_size (bl HB.out)))
    replace BK776 := Aside0.mk (bb BK776.out hb)
    replace BK777 := Aside0.mk (bb BK777.out hb)
    replace BK782 := Aside0.mk (bb BK782.out hb)
    replace HB := Aside0.mk (below_step (bl HB.out) hb)
    (try clear hb)
    (try clear hb2)
    (try clear hk)
    (try clear hi)
    (try clear ho0)
    (try clear ho1)
    obtain ⟨Ao55, co55, eo55⟩ := Kd.R_slice HO796.out
    (first | subst eo55 | (injection eo55 with f1_ f2_ f3_; have f4_ := f1_.symm; have f5_ := f3_.symm; clear f1_ f2_ f3_; subst f4_; subst f5_))
    obtain ⟨Ao57, co57, eo57⟩ := Kd.R_slice HO799.out
    (first | subst eo57 | (injection eo57 with f1_ f2_ f3_; have f4_ := f1_.symm; have f5_ := f3_.symm; clear f1_ f2_ f3_; subst f4_; subst f5_))
    refine hK.out _ _ ⟨(blk_cell BK776.out 0).trans rfl, (blk_cell BK776.out 1).trans rfl, (blk_cell BK776.out 2).trans rfl, (blk_cell BK782.out 0).trans rfl, (blk_cell BK782.out 1).trans rfl, (blk_cell BK782.out 2).trans rfl⟩ (fun hHeld => ?_)
    clear hK K
    refine norm_ (a' := ?_) ?_ ?_
    rotate_left
    ·show Act.put _ (some 41) _ = _
     simp only [Act.put, List.setIfInBounds_toArray, List.set_cons_zero, List.set_cons_succ, i64_w, i32_w]
     rfl
    refine onA (i := 7) (N := none) HT_.out (fun K hK => ?_)
    have hs54 : w53.cell? ⟨gb777, 0, none⟩ = some (.int .i64 0) := (blk_cell BK777.out 0).trans rfl
    have hfs54 := blk_frozen BK777.out 0
    have hns54_0 := NB776_777.out
    have hns54_2 := NB782_777.out
    have hms54_0 := NB777_776.out
    have hms54_2 := NB777_782.out
    have hs56 : w53.cell? ⟨gb777, 1, none⟩ = some (.slice none 0 0) := (blk_cell BK777.out 1).trans rfl
    have hfs56 := blk_frozen BK777.out 1
    have hns56_0 := NB776_777.out
    have hns56_2 := NB782_777.out
    have hms56_0 := NB777_776.out
    have hms56_2 := NB777_782.out
    have hs58 : w53.cell? ⟨gb777, 2, none⟩ = some (.slice none 0 0) := (blk_cell BK777.out 2).trans rfl
    have hfs58 := blk_frozen BK777.out 2
    have hns58_0 := NB776_777.out
    have hns58_2 := NB782_777.out
    have hms58_0 := NB777_776.out
    have hms58_2 := NB777_782.out
    refine skip_ (w1 := ?_) (by rfl) rfl ?_ ?_
    rotate_left
    ·go_simp
     rfl
    refine hK.out _ _ ⟨((cell_far (p := ⟨gb777, _, none⟩) NB776_777.out _).trans (((cell_far (p := ⟨gb777, _, none⟩) NB776_777.out _).trans (((cell_far (p := ⟨gb777, _, none⟩) NB776_777.out _).trans (hHeld.1)))))), ((cell_far (p := ⟨gb777, _, none⟩) NB776_777.out _).trans (((cell_far (p := ⟨gb777, _, none⟩) NB776_777.out _).trans (((cell_far (p := ⟨gb777, _, none⟩) NB776_777.out _).trans (hHeld.2.1)))))), ((cell_far (p := ⟨gb777, _, none⟩) NB776_777.out _).trans (((cell_far (p := ⟨gb777, _, none⟩) NB776_777.out _).trans (((cell_far (p := ⟨gb777, _, none⟩) NB776_777.out _).trans (hHeld.2.2.1)))))), ((cell_far (p := ⟨gb777, _, none⟩) NB782_777.out _).trans (((cell_far (p := ⟨gb777, _, none⟩) NB782_777.out _).trans (((cell_far (p := ⟨gb777, _, none⟩) NB782_777.out _).trans (hHeld.2.2.2.1)))))), ((cell_far (p := ⟨gb777, _, none⟩) NB782_777.out _).trans (((cell_far (p := ⟨gb777, _, none⟩) NB782_777.out _).trans (((cell_far (p := ⟨gb777, _, none⟩) NB782_777.out _).trans (hHeld.2.2.2.2.1)))))), ((cell_far (p := ⟨gb777, _, none⟩) NB782_777.out _).trans (((cell_far (p := ⟨gb777, _, none⟩) NB782_777.out _).trans (((cell_far (p := ⟨gb777, _, none⟩) NB782_777.out _).trans (hHeld.2.2.2.2.2))))))⟩ (fun hHeld => ?_)
    clear hK K
    refine puA (i := 8) (N := some 7) HT_.out ?_
    refine puA (i := 9) (N := some 8) HT_.out ?_
    refine done_ (done_of HT_.out (by kernel_rfl)) ?_
    try go_wp2
    refine bodyPost_ret (results_ctt rfl _ _ gb777 41 #[.int .i64 t793, .slice Ao55 t794.length co55, .slice Ao57 t797.length co57] (0, 0) _ rfl (by refine bk ?_; refine blk_put (cs := #[.int .i64 t793, .slice Ao55 t794.length co55, .slice none 0 0]) ?_ 2 _ rfl; refine bk ?_; refine blk_put (cs := #[.int .i64 t793, .slice none 0 0, .slice none 0 0]) ?_ 1 _ rfl; refine bk ?_; refine blk_put (cs := #[.int .i64 0, .slice none 0 0, .slice none 0 0]) ?_ 0 _ rfl; refine bk ?_; exact BK777.out) Try.underlying41 rfl (by kernel_rfl)) rfl ?_
    exact ⟨_, _, by first | rfl | (simp [errW_none, errW_some] <;> rfl) | (simp [*, errW_none, errW_some] <;> rfl), by refine rk ?_; exact Kd.R_mono (Kd.R_far (p := ⟨gb777, 2, none⟩) (Kd.R_far (p := ⟨gb777, 1, none⟩) (Kd.R_far (p := ⟨gb777, 0, none⟩) (Kd.R_types HO796.out BK777.out (by decide)) (fun _ hk => hk.2) (.int .i64 t793)) (fun _ hk => hk.2) (.slice Ao55 t794.length co55)) (fun _ hk => hk.2) (.slice Ao57 t797.length co57)) (fun _ hk => trivial), by refine rk ?_; exact Kd.R_mono (Kd.R_far (p := ⟨gb777, 2, none⟩) (Kd.R_far (p := ⟨gb777, 1, none⟩) (Kd.R_far (p := ⟨gb777, 0, none⟩) (Kd.R_types HO799.out BK777.out (by decide)) (fun _ hk => hk.2) (.int .i64 t793)) (fun _ hk => hk.2) (.slice Ao55 t794.length co55)) (fun _ hk => hk.2) (.slice Ao57 t797.length co57)) (fun _ hk => trivial), bl HB.out⟩
end Go.Proofs.Ytbpjidekjogfeaa.A

namespace Go.Proofs.Ytbpjidekjogfeaa.A
open Go.RowKit Go.Proofs.YtbpjidekjogfeaaW.PrintWords Go.Proofs.YtbpjidekjogfeaaW.PrintLast Go.Proofs.YtbpjidekjogfeaaW.PrintMore
attribute [local go_sem] max2_int min2_int max_two min_two max_three min_three max_four min_four   
set_option linter.unusedVariables false
set_option linter.unusedSimpArgs false
theorem eqA98 (d : Nat) (w : World) (x0 y0 : Int) (x1 y1 : Int) (x2 y2 : Int) (x3 y3 : Bool) :
  (Op.equalIn (d + 2) 98 (.agg #[.int .i64 x0, .int .i64 x1, .int .i64 x2, .bool x3]) (.agg #[.int .i64 y0, .int .i64 y1, .int .i64 y2, .bool y3])).run Try.prog w = .ok (x0 == y0 && (x1 == y1 && (x2 == y2 && (x3 == y3)))) w := by
 refine eqA_of Try.underlying98 (by kernel_rfl) ?_
 refine eqf_cons (by rfl) (by go_simp; rfl) (by go_simp; rfl) (by go_simp) ?_
 refine eqf_cons (by rfl) (by go_simp; rfl) (by go_simp; rfl) (by go_simp) ?_
 refine eqf_cons (by rfl) (by go_simp; rfl) (by go_simp; rfl) (by go_simp) ?_
 exact eqf_last (by rfl) (by go_simp; rfl) (by go_simp; rfl) (by go_simp)
end Go.Proofs.Ytbpjidekjogfeaa.A

namespace Go.Proofs.Ytbpjidekjogfeaa.A
open Go.RowKit Go.Proofs.YtbpjidekjogfeaaW.PrintWords Go.Proofs.YtbpjidekjogfeaaW.PrintLast Go.Proofs.YtbpjidekjogfeaaW.PrintMore
attribute [local go_sem] max2_int min2_int max_two min_two max_three min_three max_four min_four   
set_option linter.unusedVariables false
set_option linter.unusedSimpArgs false
attribute [local go_sem high] eqA98
def laws_sameInts.l0 : Nat → List Int → List Int → Int → Option (Bool)
 | 0, _, _, _ => none
 | k + 1, x0, x1, x5 => if x5 < (x0.length : Int) then (if 0 ≤ x5 then (if x5 < (x1.length : Int) then (if (rd x0 x5) = (rd x1 x5) then (laws_sameInts.l0 k x0 x1 (wrap64 (x5 + 1))) else (some false)) else (none)) else (none)) else (some true)
def laws_sameInts.f (k : Nat) (l0 : List Int) (l1 : List Int) : Option (Bool) := if (l0.length : Int) = (l1.length : Int) then (laws_sameInts.l0 k l0 l1 0) else (some false)
set_option maxHeartbeats 8000000 in
set_option maxRecDepth 100000 in
theorem laws_sameInts.calls (k : Nat) (A0 : Option Addr) (c0 : Nat) (l0 : List Int) (A1 : Option Addr) (c1 : Nat) (l1 : List Int) (r : Bool) (w : World) (hr0 : Kd.C (Kd.int .i64) w A0 l0.length l0) (hc0 : l0.length ≤ c0) (hr1 : Kd.C (Kd.int .i64) w A1 l1.length l1) (hc1 : l1.length ≤ c1) (h : laws_sameInts.f k l0 l1 = some r) :
  Calls Try.prog 65 #[.slice A0 l0.length c0, .slice A1 l1.length c1] w fun e w' => e = .returned (.bool r) ∧ Drawn0 w w' := by
 have HR0 := Aside0.mk hr0
 have HC0 := Aside0.mk hc0
 clear hr0 hc0
 have HR1 := Aside0.mk hr1
 have HC1 := Aside0.mk hc1
 clear hr1 hc1
 have H : (if (l0.length : Int) = (l1.length : Int) then (laws_sameInts.l0 k l0 l1 0) else (some false)) = some r := h
 clear h
 by_cases c3 : (l0.length : Int) = (l1.length : Int)
 ·rw [if_pos c3] at H
  have c3b0 : ((l0.length : Int) == (l1.length : Int)) = true := beq_iff_eq.mpr c3
  have c3b1 : ((l0.length : Int) != (l1.length : Int)) = false := bne_eq_false_iff_eq.mpr c3
  have c3b2 : (l0.length == l1.length) = true := by first | simpa using c3 | (simp at c3 ⊢; omega)
  clear c3
  have H' := Aside0.mk H
  clear H
  go_enter Try.func65, Try.ntmps65
  go_wp2
  repeat (go_quiet (fail); try go_wp2)
  go_loopg [5] k (fun kq v5 w' => ∃ (x5_1 : Int), v5 = .int .i64 x5_1 ∧ Aside0 (laws_sameInts.l0 kq l0 l1 x5_1 = some r) ∧ Aside0 (kq ≤ k) ∧ Drawn0 w w')
  case atStart => exact ⟨(0), (by first | rfl | (simp; done) | (simp [*]; done)), H', ⟨Nat.le_refl _⟩, by repeat (first | exact Drawn0.refl _ | apply Drawn0.step)⟩
  case round =>
   clear H'
   try clear c1
   try clear p2
   try clear c3
   try clear c3b0
   try clear c3b1
   try clear c3b2
   obtain ⟨x5_1, rfl, HA, HK1, ⟨m1, rfl⟩⟩ := hrel
   cases gk with
   | zero => exact absurd HA.out (by simp [laws_sameInts.l0])
   | succ k1 =>
    have H := HA.out
    clear HA
    simp only [laws_sameInts.l0] at H
    by_cases c4 : x5_1 < (l0.length : Int)
    ·rw [if_pos c4] at H
     have c4b0 : decide (x5_1 < (l0.length : Int)) = true := decide_eq_true c4
     clear c4
     by_cases c5 : 0 ≤ x5_1
     ·rw [if_pos c5] at H
      have c5b0 : decide (0 ≤ x5_1) = true := decide_eq_true c5
      clear c5
      by_cases c6 : x5_1 < (l1.length : Int)
      ·rw [if_pos c6] at H
       have c6b0 : decide (x5_1 < (l1.length : Int)) = true := decide_eq_true c6
       clear c6
       by_cases c7 : (rd l0 x5_1) = (rd l1 x5_1)
       ·rw [if_pos c7] at H
        have c7b0 : ((rd l0 x5_1) == (rd l1 x5_1)) = true := beq_iff_eq.mpr c7
        have c7b1 : ((rd l0 x5_1) != (rd l1 x5_1)) = false := bne_eq_false_iff_eq.mpr c7
        clear c7
        have H' := Aside0.mk H
        clear H
        have p800 : 0 ≤ (x5_1 : Int) := of_decide_eq_true asm
        have q800 : x5_1 < (l0.length : Int) := of_decide_eq_true asm
        obtain ⟨ad800, e800, hx800_0⟩ := Kd.at_int HR0.out x5_1 p800 q800
        cases e800
        replace p800 := eq_true p800
        replace q800 := eq_true q800
        have p801 : 0 ≤ (x5_1 : Int) := of_decide_eq_true asm
        have q801 : x5_1 < (l1.length : Int) := of_decide_eq_true asm
        obtain ⟨ad801, e801, hx801_0⟩ := Kd.at_int HR1.out x5_1 p801 q801
        cases e801
        replace p801 := eq_true p801
        replace q801 := eq_true q801
        go_wp2
        repeat (go_quiet (fail); try go_wp2)
        go_roundg k1
        case measure => have := HK1.out; omega
        case rel => exact ⟨(wrap64 (x5_1 + 1)), (by first | rfl | (simp; done) | (simp [*]; done)), H', ⟨by have := HK1.out; omega⟩, by repeat (first | exact Drawn0.refl _ | apply Drawn0.step)⟩
       ·rw [if_neg c7] at H
        have c7b0 : ((rd l0 x5_1) == (rd l1 x5_1)) = false := beq_eq_false_iff_ne.mpr c7
        have c7b1 : ((rd l0 x5_1) != (rd l1 x5_1)) = true := bne_iff_ne.mpr c7
        obtain rfl := Option.some.inj H
        have p800 : 0 ≤ (x5_1 : Int) := of_decide_eq_true asm
        have q800 : x5_1 < (l0.length : Int) := of_decide_eq_true asm
        obtain ⟨ad800, e800, hx800_0⟩ := Kd.at_int HR0.out x5_1 p800 q800
        cases e800
        replace p800 := eq_true p800
        replace q800 := eq_true q800
        have p801 : 0 ≤ (x5_1 : Int) := of_decide_eq_true asm
        have q801 : x5_1 < (l1.length : Int) := of_decide_eq_true asm
        obtain ⟨ad801, e801, hx801_0⟩ := Kd.at_int HR1.out x5_1 p801 q801
        cases e801
        replace p801 := eq_true p801
        replace q801 := eq_true q801
        go_wp2
        repeat (go_quiet (fail); try go_wp2)
        go_ret
        exact ⟨by first | rfl | (simp; done) | (simp [*]; done), by repeat (first | exact Drawn0.refl _ | apply Drawn0.step)⟩
      ·rw [if_neg c6] at H
       exact absurd H (by simp)
     ·rw [if_neg c5] at H
      exact absurd H (by simp)
    ·rw [if_neg c4] at H
     have c4b0 : decide (x5_1 < (l0.length : Int)) = false := decide_eq_false c4
     clear c4
     obtain rfl := Option.some.inj H
     go_wp2
     repeat (go_quiet (fail); try go_wp2)
     go_ret
     exact ⟨by first | rfl | (simp; done) | (simp [*]; done), by repeat (first | exact Drawn0.refl _ | apply Drawn0.step)⟩
 ·rw [if_neg c3] at H
  have c3b0 : ((l0.length : Int) == (l1.length : Int)) = false := beq_eq_false_iff_ne.mpr c3
  have c3b1 : ((l0.length : Int) != (l1.length : Int)) = true := bne_iff_ne.mpr c3
  have c3b2 : (l0.length == l1.length) = false := by first | simpa using c3 | (simp at c3 ⊢; omega)
  obtain rfl := Option.some.inj H
  go_enter Try.func65, Try.ntmps65
  go_wp2
  repeat (go_quiet (fail); try go_wp2)
  go_ret
  exact ⟨by first | rfl | (simp; done) | (simp [*]; done), by repeat (first | exact Drawn0.refl _ | apply Drawn0.step)⟩
def laws_sameBoxes.l0 : Nat → List (S98) → List (S98) → Int → Option (Bool)
 | 0, _, _, _ => none
 | k + 1, x0, x1, x5 => if x5 < (x0.length : Int) then (if 0 ≤ x5 then (if x5 < (x1.length : Int) then (if (!(((rd_T98 x0 x5).f0) == ((rd_T98 x1 x5).f0)) || (!(((rd_T98 x0 x5).f1) == ((rd_T98 x1 x5).f1)) || (!(((rd_T98 x0 x5).f2) == ((rd_T98 x1 x5).f2)) || (!(((rd_T98 x0 x5).f3) == ((rd_T98 x1 x5).f3)))))) = true then (some false) else (laws_sameBoxes.l0 k x0 x1 (wrap64 (x5 + 1)))) else (none)) else (none)) else (some true)
def laws_sameBoxes.f (k : Nat) (l0 : List (S98)) (l1 : List (S98)) : Option (Bool) := if (l0.length : Int) = (l1.length : Int) then (laws_sameBoxes.l0 k l0 l1 0) else (some false)
set_option maxHeartbeats 8000000 in
set_option maxRecDepth 100000 in
theorem laws_sameBoxes.calls (k : Nat) (A0 : Option Addr) (c0 : Nat) (l0 : List (S98)) (A1 : Option Addr) (c1 : Nat) (l1 : List (S98)) (r : Bool) (w : World) (hr0 : Kd.C k98 w A0 l0.length l0) (hc0 : l0.length ≤ c0) (hr1 : Kd.C k98 w A1 l1.length l1) (hc1 : l1.length ≤ c1) (h : laws_sameBoxes.f k l0 l1 = some r) :
  Calls Try.prog 88 #[.slice A0 l0.length c0, .slice A1 l1.length c1] w fun e w' => e = .returned (.bool r) ∧ Drawn0 w w' := by
 have hu98 := Try.underlying98
 have HR0 := Aside0.mk hr0
 have HC0 := Aside0.mk hc0
 clear hr0 hc0
 have HR1 := Aside0.mk hr1
 have HC1 := Aside0.mk hc1
 clear hr1 hc1
 have H : (if (l0.length : Int) = (l1.length : Int) then (laws_sameBoxes.l0 k l0 l1 0) else (some false)) = some r := h
 clear h
 by_cases c3 : (l0.length : Int) = (l1.length : Int)
 ·rw [if_pos c3] at H
  have c3b0 : ((l0.length : Int) == (l1.length : Int)) = true := beq_iff_eq.mpr c3
  have c3b1 : ((l0.length : Int) != (l1.length : Int)) = false := bne_eq_false_iff_eq.mpr c3
  have c3b2 : (l0.length == l1.length) = true := by first | simpa using c3 | (simp at c3 ⊢; omega)
  clear c3
  have H' := Aside0.mk H
  clear H
  go_enter Try.func88, Try.ntmps88
  go_wp2
  repeat (go_quiet (fail); try go_wp2)
  go_loopg [5] k (fun kq v5 w' => ∃ (x5_1 : Int), v5 = .int .i64 x5_1 ∧ Aside0 (laws_sameBoxes.l0 kq l0 l1 x5_1 = some r) ∧ Aside0 (kq ≤ k) ∧ Drawn0 w w')
  case atStart => exact ⟨(0), (by first | rfl | (simp; done) | (simp [*]; done)), H', ⟨Nat.le_refl _⟩, by repeat (first | exact Drawn0.refl _ | apply Drawn0.step)⟩
  case round =>
   clear H'
   try clear c1
   try clear p2
   try clear c3
   try clear c3b0
   try clear c3b1
   try clear c3b2
   obtain ⟨x5_1, rfl, HA, HK1, ⟨m1, rfl⟩⟩ := hrel
   cases gk with
   | zero => exact absurd HA.out (by simp [laws_sameBoxes.l0])
   | succ k1 =>
    have H := HA.out
    clear HA
    simp only [laws_sameBoxes.l0] at H
    by_cases c4 : x5_1 < (l0.length : Int)
    ·rw [if_pos c4] at H
     have c4b0 : decide (x5_1 < (l0.length : Int)) = true := decide_eq_true c4
     clear c4
     by_cases c5 : 0 ≤ x5_1
     ·rw [if_pos c5] at H
      have c5b0 : decide (0 ≤ x5_1) = true := decide_eq_true c5
      clear c5
      by_cases c6 : x5_1 < (l1.length : Int)
      ·rw [if_pos c6] at H
       have c6b0 : decide (x5_1 < (l1.length : Int)) = true := decide_eq_true c6
       clear c6
       by_cases c7 : (!(((rd_T98 l0 x5_1).f0) == ((rd_T98 l1 x5_1).f0)) || (!(((rd_T98 l0 x5_1).f1) == ((rd_T98 l1 x5_1).f1)) || (!(((rd_T98 l0 x5_1).f2) == ((rd_T98 l1 x5_1).f2)) || (!(((rd_T98 l0 x5_1).f3) == ((rd_T98 l1 x5_1).f3)))))) = true
       ·rw [if_pos c7] at H
        have c7b0 : (!(((rd_T98 l0 x5_1).f0) == ((rd_T98 l1 x5_1).f0)) || (!(((rd_T98 l0 x5_1).f1) == ((rd_T98 l1 x5_1).f1)) || (!(((rd_T98 l0 x5_1).f2) == ((rd_T98 l1 x5_1).f2)) || (!(((rd_T98 l0 x5_1).f3) == ((rd_T98 l1 x5_1).f3)))))) = true := c7
        clear c7
        obtain rfl := Option.some.inj H
        have p802 : 0 ≤ (x5_1 : Int) := of_decide_eq_true asm
        have q802 : x5_1 < (l0.length : Int) := of_decide_eq_true asm
        obtain ⟨ad802, e802, hx802_0, hx802_1, hx802_2, hx802_3⟩ := at_T98 HR0.out x5_1 p802 q802
        cases e802
        replace p802 := eq_true p802
        replace q802 := eq_true q802
        have p803 : 0 ≤ (x5_1 : Int) := of_decide_eq_true asm
        have q803 : x5_1 < (l1.length : Int) := of_decide_eq_true asm
        obtain ⟨ad803, e803, hx803_0, hx803_1, hx803_2, hx803_3⟩ := at_T98 HR1.out x5_1 p803 q803
        cases e803
        replace p803 := eq_true p803
        replace q803 := eq_true q803
        go_wp2
        repeat (go_quiet (fail); try go_wp2)
        go_ret
        exact ⟨by first | rfl | (simp; done) | (simp [*]; done), by repeat (first | exact Drawn0.refl _ | apply Drawn0.step)⟩
       ·rw [if_neg c7] at H
        have c7b0 : (!(((rd_T98 l0 x5_1).f0) == ((rd_T98 l1 x5_1).f0)) || (!(((rd_T98 l0 x5_1).f1) == ((rd_T98 l1 x5_1).f1)) || (!(((rd_T98 l0 x5_1).f2) == ((rd_T98 l1 x5_1).f2)) || (!(((rd_T98 l0 x5_1).f3) == ((rd_T98 l1 x5_1).f3)))))) = false := by simpa using c7
        clear c7
        have H' := Aside0.mk H
        clear H
        have p802 : 0 ≤ (x5_1 : Int) := of_decide_eq_true asm
        have q802 : x5_1 < (l0.length : Int) := of_decide_eq_true asm
        obtain ⟨ad802, e802, hx802_0, hx802_1, hx802_2, hx802_3⟩ := at_T98 HR0.out x5_1 p802 q802
        cases e802
        replace p802 := eq_true p802
        replace q802 := eq_true q802
        have p803 : 0 ≤ (x5_1 : Int) := of_decide_eq_true asm
        have q803 : x5_1 < (l1.length : Int) := of_decide_eq_true asm
        obtain ⟨ad803, e803, hx803_0, hx803_1, hx803_2, hx803_3⟩ := at_T98 HR1.out x5_1 p803 q803
        cases e803
        replace p803 := eq_true p803
        replace q803 := eq_true q803
        go_wp2
        repeat (go_quiet (fail); try go_wp2)
        go_roundg k1
        case measure => have := HK1.out; omega
        case rel => exact ⟨(wrap64 (x5_1 + 1)), (by first | rfl | (simp; done) | (simp [*]; done)), H', ⟨by have := HK1.out; omega⟩, by repeat (first | exact Drawn0.refl _ | apply Drawn0.step)⟩
      ·rw [if_neg c6] at H
       exact absurd H (by simp)
     ·rw [if_neg c5] at H
      exact absurd H (by simp)
    ·rw [if_neg c4] at H
     have c4b0 : decide (x5_1 < (l0.length : Int)) = false := decide_eq_false c4
     clear c4
     obtain rfl := Option.some.inj H
     go_wp2
     repeat (go_quiet (fail); try go_wp2)
     go_ret
     exact ⟨by first | rfl | (simp; done) | (simp [*]; done), by repeat (first | exact Drawn0.refl _ | apply Drawn0.step)⟩
 ·rw [if_neg c3] at H
  have c3b0 : ((l0.length : Int) == (l1.length : Int)) = false := beq_eq_false_iff_ne.mpr c3
  have c3b1 : ((l0.length : Int) != (l1.length : Int)) = true := bne_iff_ne.mpr c3
  have c3b2 : (l0.length == l1.length) = false := by first | simpa using c3 | (simp at c3 ⊢; omega)
  obtain rfl := Option.some.inj H
  go_enter Try.func88, Try.ntmps88
  go_wp2
  repeat (go_quiet (fail); try go_wp2)
  go_ret
  exact ⟨by first | rfl | (simp; done) | (simp [*]; done), by repeat (first | exact Drawn0.refl _ | apply Drawn0.step)⟩
def laws_sameColumn.f (k : Nat) (a0_0 : Int) (l0_1 : List Int) (l0_2 : List (S98)) (a1_0 : Int) (l1_1 : List Int) (l1_2 : List (S98)) : Option (Bool) := if a0_0 = a1_0 then ((laws_sameInts.f k l0_1 l1_1).bind fun t806 => (if t806 = true then ((laws_sameBoxes.f k l0_2 l1_2).bind fun t807 => (some t807)) else (some false))) else (some false)
set_option maxHeartbeats 8000000 in
set_option maxRecDepth 100000 in
theorem laws_sameColumn.calls (k : Nat) (a0_0 : Int) (A0_1 : Option Addr) (c0_1 : Nat) (l0_1 : List Int) (A0_2 : Option Addr) (c0_2 : Nat) (l0_2 : List (S98)) (a1_0 : Int) (A1_1 : Option Addr) (c1_1 : Nat) (l1_1 : List Int) (A1_2 : Option Addr) (c1_2 : Nat) (l1_2 : List (S98)) (r : Bool) (w : World) (hr0_1 : Kd.C (Kd.int .i64) w A0_1 l0_1.length l0_1) (hc0_1 : l0_1.length ≤ c0_1) (hr0_2 : Kd.C k98 w A0_2 l0_2.length l0_2) (hc0_2 : l0_2.length ≤ c0_2) (hr1_1 : Kd.C (Kd.int .i64) w A1_1 l1_1.length l1_1) (hc1_1 : l1_1.length ≤ c1_1) (hr1_2 : Kd.C k98 w A1_2 l1_2.length l1_2) (hc1_2 : l1_2.length ≤ c1_2) (h : laws_sameColumn.f k a0_0 l0_1 l0_2 a1_0 l1_1 l1_2 = some r) :
  Calls Try.prog 31 #[.agg #[.int .i64 a0_0, .slice A0_1 l0_1.length c0_1, .slice A0_2 l0_2.length c0_2], .agg #[.int .i64 a1_0, .slice A1_1 l1_1.length c1_1, .slice A1_2 l1_2.length c1_2]] w fun e w' => e = .returned (.bool r) ∧ Below w.heap.size w w' := by
 have hu41 := Try.underlying41
 have HR0_1 := Aside0.mk hr0_1
 have HC0_1 := Aside0.mk hc0_1
 clear hr0_1 hc0_1
 have HR0_2 := Aside0.mk hr0_2
 have HC0_2 := Aside0.mk hc0_2
 clear hr0_2 hc0_2
 have HR1_1 := Aside0.mk hr1_1
 have HC1_1 := Aside0.mk hc1_1
 clear hr1_1 hc1_1
 have HR1_2 := Aside0.mk hr1_2
 have HC1_2 := Aside0.mk hc1_2
 clear hr1_2 hc1_2
 have HB := Aside0.mk (Below.refl w.heap.size w)
 have H : (if a0_0 = a1_0 then ((laws_sameInts.f k l0_1 l1_1).bind fun t806 => (if t806 = true then ((laws_sameBoxes.f k l0_2 l1_2).bind fun t807 => (some t807)) else (some false))) else (some false)) = some r := h
 clear h
 by_cases c3 : a0_0 = a1_0
 focus
  rw [if_pos c3] at H
  have c3b0 : (a0_0 == a1_0) = true := beq_iff_eq.mpr c3
  have c3b1 : (a0_0 != a1_0) = false := bne_eq_false_iff_eq.mpr c3
  clear c3
  replace H := Option.bind_eq_some_iff.mp H
  obtain ⟨t806, A40, H⟩ := H
  try dsimp only at H
  have A4 := Aside0.mk A40
  clear A40
  by_cases c5 : t806 = true
  focus
   subst c5
   rw [if_pos rfl] at H
   replace H := Option.bind_eq_some_iff.mp H
   obtain ⟨t807, A60, H⟩ := H
   try dsimp only at H
   have A6 := Aside0.mk A60
   clear A60
   obtain rfl := Option.some.inj H
  rotate_left
  focus
   replace c5 := Bool.eq_false_iff.mpr c5
   subst c5
   rw [if_neg (show ¬ (false = true) by decide)] at H
   obtain rfl := Option.some.inj H
  rotate_left
 rotate_left 2
 focus
  rw [if_neg c3] at H
  have c3b0 : (a0_0 == a1_0) = false := beq_eq_false_iff_ne.mpr c3
  have c3b1 : (a0_0 != a1_0) = true := bne_iff_ne.mpr c3
  obtain rfl := Option.some.inj H
 rotate_left
 all_goals go_enter Try.func31, Try.ntmps31
 all_goals go_wp2_with (first | ((with_reducible refine gate_dst (N := 2) rfl ?_); refine bx (cs := #[.int .i64 a0_0, .slice A0_1 l0_1.length c0_1, .slice A0_2 l0_2.length c0_2]) (t := 41) fun gb804 hg w7 hbox hb => ?_; have BK804 := Aside0.mk (hbox); have GW804 := Aside0.mk (gs HB.out hg); have GE804 := Aside0.mk (gs HB.out hg); replace HB := Aside0.mk (below_step (bl HB.out) hb); clear hb hbox hg) | ((with_reducible refine gate_dst (N := 3) rfl ?_); refine bx (cs := #[.int .i64 a1_0, .slice A1_1 l1_1.length c1_1, .slice A1_2 l1_2.length c1_2]) (t := 41) fun gb805 hg w8 hbox hb => ?_; have BK805 := Aside0.mk (hbox); have GW805 := Aside0.mk (gs HB.out hg); have GE805 := Aside0.mk (gs HB.out hg); replace HB := Aside0.mk (below_step (bl HB.out) hb); have NB804_805 := Aside0.mk ((nl BK804.out hg)); have NB805_804 := Aside0.mk ((ng BK804.out hg)); replace BK804 := Aside0.mk (bb BK804.out hb); clear hb hbox hg; have hnb9 := NB804_805.out; have hnc9 := NB805_804.out; obtain ⟨hcz10_0, hcz10_1, hcz10_2, hfz10_0, hfz10_1, hfz10_2⟩ := cz3 BK804.out; obtain ⟨hcz11_0, hcz11_1, hcz11_2, hfz11_0, hfz11_1, hfz11_2⟩ := cz3 BK805.out) | (go_at_call 65; (with_reducible refine (laws_sameInts.calls k _ _ l0_1 _ _ l1_1 false _ ?side1 ?side2 ?side3 ?side4 A4.out).mono ?_); (case side1 => exact cb (Kd.C_below HR0_1.out HB.out)); (case side2 => exact HC0_1.out); (case side3 => exact cb (Kd.C_below HR1_1.out HB.out)); (case side4 => exact HC1_1.out); rintro e w' ⟨rfl, ⟨nd, rfl⟩⟩) | (go_at_call 65; (with_reducible refine (laws_sameInts.calls k _ _ l0_1 _ _ l1_1 true _ ?side1 ?side2 ?side3 ?side4 A4.out).mono ?_); (case side1 => exact cb (Kd.C_below HR0_1.out HB.out)); (case side2 => exact HC0_1.out); (case side3 => exact cb (Kd.C_below HR1_1.out HB.out)); (case side4 => exact HC1_1.out); rintro e w' ⟨rfl, ⟨nd, rfl⟩⟩) | (go_at_call 88; (with_reducible refine (laws_sameBoxes.calls k _ _ l0_2 _ _ l1_2 t807 _ ?side1 ?side2 ?side3 ?side4 A6.out).mono ?_); (case side1 => exact cb ((Kd.C_below HR0_2.out (bl HB.out)))); (case side2 => exact HC0_2.out); (case side3 => exact cb ((Kd.C_below HR1_2.out (bl HB.out)))); (case side4 => exact HC1_2.out); rintro e w' ⟨rfl, ⟨nd, rfl⟩⟩))
 ·go_ret
  exact ⟨by first | rfl | (simp [errW_none, errW_some] <;> rfl) | (simp [*, errW_none, errW_some] <;> rfl), bl HB.out⟩
 ·go_ret
  exact ⟨by first | rfl | (simp [errW_none, errW_some] <;> rfl) | (simp [*, errW_none, errW_some] <;> rfl), bl HB.out⟩
 ·go_ret
  exact ⟨by first | rfl | (simp [errW_none, errW_some] <;> rfl) | (simp [*, errW_none, errW_some] <;> rfl), bl HB.out⟩

def laws_room.l0 : Nat → List (S50) → Int → Int → Option (Int)
 | 0, _, _, _ => none
 | k + 1, x0, x3, x4 => if x4 < (x0.length : Int) then (if 0 ≤ x4 then (laws_room.l0 k x0 (wrap64 (x3 + ((rd_T50 x0 x4).f2))) (wrap64 (x4 + 1))) else (none)) else (some x3)
def laws_room.f (k : Nat) (l0 : List (S50)) : Option (Int) := laws_room.l0 k l0 0 0
set_option maxHeartbeats 8000000 in
set_option maxRecDepth 100000 in
theorem laws_room.calls (k : Nat) (A0 : Option Addr) (c0 : Nat) (l0 : List (S50)) (r : Int) (w : World) (hr0 : Kd.C k50 w A0 l0.length l0) (hc0 : l0.length ≤ c0) (h : laws_room.f k l0 = some r) :
  Calls Try.prog 35 #[.slice A0 l0.length c0] w fun e w' => e = .returned (.int .i64 r) ∧ Drawn0 w w' := by
 have HR0 := Aside0.mk hr0
 have HC0 := Aside0.mk hc0
 clear hr0 hc0
 have H : (laws_room.l0 k l0 0 0) = some r := h
 clear h
 have H' := Aside0.mk H
 clear H
 go_enter Try.func35, Try.ntmps35
 go_wp2
 go_loopg [3, 4] k (fun kq v3 v4 w' => ∃ (x3_1 : Int) (x4_1 : Int), v3 = .int .i64 x3_1 ∧ v4 = .int .i64 x4_1 ∧ Aside0 (laws_room.l0 kq l0 x3_1 x4_1 = some r) ∧ Aside0 (kq ≤ k) ∧ Drawn0 w w')
 case atStart => exact ⟨(0), (0), (by first | rfl | (simp; done) | (simp [*]; done)), (by first | rfl | (simp; done) | (simp [*]; done)), H', ⟨Nat.le_refl _⟩, by repeat (first | exact Drawn0.refl _ | apply Drawn0.step)⟩
 case round =>
  clear H'
  obtain ⟨x3_1, x4_1, rfl, rfl, HA, HK1, ⟨m1, rfl⟩⟩ := hrel
  cases gk with
  | zero => exact absurd HA.out (by simp [laws_room.l0])
  | succ k1 =>
   have H := HA.out
   clear HA
   simp only [laws_room.l0] at H
   by_cases c2 : x4_1 < (l0.length : Int)
   ·rw [if_pos c2] at H
    have c2b0 : decide (x4_1 < (l0.length : Int)) = true := decide_eq_true c2
    clear c2
    by_cases c3 : 0 ≤ x4_1
    ·rw [if_pos c3] at H
     have c3b0 : decide (0 ≤ x4_1) = true := decide_eq_true c3
     clear c3
     have H' := Aside0.mk H
     clear H
     have p808 : 0 ≤ (x4_1 : Int) := of_decide_eq_true asm
     have q808 : x4_1 < (l0.length : Int) := of_decide_eq_true asm
     obtain ⟨ad808, e808, hx808_0, hx808_1, hx808_2⟩ := at_T50 HR0.out x4_1 p808 q808
     cases e808
     replace p808 := eq_true p808
     replace q808 := eq_true q808
     go_wp2
     go_roundg k1
     case measure => have := HK1.out; omega
     case rel => exact ⟨(wrap64 (x3_1 + ((rd_T50 l0 x4_1).f2))), (wrap64 (x4_1 + 1)), (by first | rfl | (simp; done) | (simp [*]; done)), (by first | rfl | (simp; done) | (simp [*]; done)), H', ⟨by have := HK1.out; omega⟩, by repeat (first | exact Drawn0.refl _ | apply Drawn0.step)⟩
    ·rw [if_neg c3] at H
     exact absurd H (by simp)
   ·rw [if_neg c2] at H
    have c2b0 : decide (x4_1 < (l0.length : Int)) = false := decide_eq_false c2
    clear c2
    obtain rfl := Option.some.inj H
    go_wp2
    go_ret
    exact ⟨by first | rfl | (simp; done) | (simp [*]; done), by repeat (first | exact Drawn0.refl _ | apply Drawn0.step)⟩
end Go.Proofs.Ytbpjidekjogfeaa.A
