/- Used by the law FnDoublings. -/
import Derived.Test.YtbpjidekjogfeaaZFnDoublingsx16
import Derived.Test.YtbpjidekjogfeaaZFnDoublingsx20
import Derived.Test.YtbpjidekjogfeaaZFnDoublingsx19
import Derived.Test.YtbpjidekjogfeaaZFnDoublingsh
namespace Go.Proofs.Ytbpjidekjogfeaa.A
open Go.RowKit Go.Proofs.YtbpjidekjogfeaaW.PrintWords Go.Proofs.YtbpjidekjogfeaaW.PrintLast Go.Proofs.YtbpjidekjogfeaaW.PrintMore
attribute [local go_sem] max2_int min2_int max_two min_two max_three min_three max_four min_four   
set_option linter.unusedVariables false
set_option linter.unusedSimpArgs false
def spec_NewColumn.l0 : Nat → Int → List Int → Int → Int → Int → List Int → List (S98) → Option (Int × List Int × (List (S98)) × Bool)
 | 0, _, _, _, _, _, _, _ => none
 | k + 1, x0, x1, x7, x8, x529000, x529001, x529002 => if x8 ≤ (x1.length : Int) then (if x8 < (x1.length : Int) then (if 0 ≤ x8 then (if (rd x1 x8) ≤ x7 then (some (0, ([] : List Int), ([] : List (S98)), false)) else (if (rd x1 x8) > 24 then (some (0, ([] : List Int), ([] : List (S98)), false)) else (if x529002.length < 4398046511104 then (spec_NewColumn.l0 k x0 x1 (rd x1 x8) (wrap64 (x8 + 1)) x529000 x529001 (x529002 ++ [(⟨x7, wrap64 ((rd x1 x8) - x7), 0, false⟩ : S98)])) else (none)))) else (none)) else (if x0 ≤ x7 then (some (0, ([] : List Int), ([] : List (S98)), false)) else (if x0 > 24 then (some (0, ([] : List Int), ([] : List (S98)), false)) else (if x529002.length < 4398046511104 then (spec_NewColumn.l0 k x0 x1 x0 (wrap64 (x8 + 1)) x529000 x529001 (x529002 ++ [(⟨x7, wrap64 (x0 - x7), 0, false⟩ : S98)])) else (none))))) else ((spec_ColumnOk.f k x529000 x529001 x529002).bind fun t529 => (if t529 = true then (some (x529000, x529001, x529002, true)) else (some (0, ([] : List Int), ([] : List (S98)), false))))
def spec_NewColumn.f (k : Nat) (a0 : Int) (l1 : List Int) : Option (Int × List Int × (List (S98)) × Bool) := (some (([] : List Int) : List Int)).bind fun y522 => (if y522.length + l1.length < 17592186044416 then (spec_NewColumn.l0 k a0 l1 0 0 a0 (y522 ++ l1) ([] : List (S98))) else (none))
set_option maxHeartbeats 8000000 in
set_option maxRecDepth 100000 in
theorem spec_NewColumn.calls (k : Nat) (a0 : Int) (A1 : Option Addr) (c1 : Nat) (l1 : List Int) (r1 : Int) (r2 : List Int) (r3 : List (S98)) (r4 : Bool) (w : World) (hr1 : Kd.C (Kd.int .i64) w A1 l1.length l1) (hc1 : l1.length ≤ c1) (h : spec_NewColumn.f k a0 l1 = some (r1, r2, r3, r4)) :
  Calls Try.prog 122 #[.int .i64 a0, .slice A1 l1.length c1] w fun e w' => ∃ v1_ v2_ : Value, e = .returned (.tuple #[.agg #[.int .i64 r1, v1_, v2_], .bool r4]) ∧ Kd.R (Kd.int .i64) 3 w' w.heap.size (fun _ => True) v1_ r2 ∧ Kd.R k98 98 w' w.heap.size (fun _ => True) v2_ r3 ∧ Below w.heap.size w w' := by
 have hu41 := Try.underlying41
 have hu98 := Try.underlying98
 have HR1 := Aside0.mk hr1
 have HC1 := Aside0.mk hc1
 clear hr1 hc1
 have HB := Aside0.mk (Below.refl w.heap.size w)
 have H : ((some (([] : List Int) : List Int)).bind fun y522 => (if y522.length + l1.length < 17592186044416 then (spec_NewColumn.l0 k a0 l1 0 0 a0 (y522 ++ l1) ([] : List (S98))) else (none))) = some (r1, r2, r3, r4) := h
 clear h
 obtain ⟨y522, hy522⟩ : ∃ y_ : List Int, y_ = (([] : List Int)) := ⟨_, rfl⟩
 replace H : (if y522.length + l1.length < 17592186044416 then (spec_NewColumn.l0 k a0 l1 0 0 a0 (y522 ++ l1) ([] : List (S98))) else (none)) = some (r1, r2, r3, r4) := by first | (rw [hy522]; with_reducible exact H) | (have H2_ := (Option.bind_some _ _).symm.trans H; rw [hy522]; with_reducible exact H2_) | (have H2_ := (Option.bind_some _ _).symm.trans H; with_reducible exact H2_) | with_reducible exact H | (rw [hy522]; exact H) | exact H
 have Ny522 := Aside0.mk hy522
 clear hy522
 by_cases c3 : y522.length + l1.length < 17592186044416
 ·rw [if_pos c3] at H
  have LMc3 := Aside0.mk c3
  clear c3
  obtain ⟨y525, hy525⟩ : ∃ y_ : List Int, y_ = (y522 ++ l1) := ⟨_, rfl⟩
  replace H : (spec_NewColumn.l0 k a0 l1 0 0 a0 y525 ([] : List (S98))) = some (r1, r2, r3, r4) := by first | (rw [hy525]; with_reducible exact H) | (have H2_ := (Option.bind_some _ _).symm.trans H; rw [hy525]; with_reducible exact H2_) | (have H2_ := (Option.bind_some _ _).symm.trans H; with_reducible exact H2_) | with_reducible exact H | (rw [hy525]; exact H) | exact H
  have Ny525 := Aside0.mk hy525
  clear hy525
  have H' := Aside0.mk H
  clear H
  go_enter Try.func122, Try.ntmps122
  go_wp2_with (first | ((with_reducible refine gate_dst (N := 4) rfl ?_); refine bx (cs := #[.int .i64 0, .slice none 0 0, .slice none 0 0]) (t := 41) fun gb521 hg w4 hbox hb => ?_; have BK521 := Aside0.mk (hbox); have GW521 := Aside0.mk (gs HB.out hg); have GE521 := Aside0.mk (gs HB.out hg); replace HB := Aside0.mk (below_step (bl HB.out) hb); clear hb hbox hg) | ((with_reducible refine gate_dst (N := 11) rfl ?_); refine Kd.R_lit (Kd.int .i64) _ 3 ?hg (N := 11) ?hd (xs := ([] : List Int)) (inner := []) (ok := fun _ => True) (okp := fun _ => True) ?hr ?hp (fun _ hk => hk) trivial (Below.refl _ _) (Nat.le_refl _) (by simp) ?_; (case hd => rfl); (case hg => rfl); (case hr => first | (go_simp; done) | (go_simp; rfl)); (case hp => exact (Reps.none _ _)); intro v523 w5 ho6 hb hg_ hnew_; clear hg_ hnew_; (first | rw [← Ny522.out] at ho6 | (simp only [Int.reduceToNat] at ho6; rw [← Ny522.out] at ho6)); have HO524 := Aside0.mk (Kd.R_lower ho6 (below_size (bl HB.out))); replace BK521 := Aside0.mk (bb BK521.out hb); replace HB := Aside0.mk (below_step (bl HB.out) hb); clear hb ho6) | ((with_reducible refine gate_builtin (b := .append) (xs := #[.tmp 11, .tmp 12]) rfl ?_); at_builtin; refine Kd.R_append_rows (Kd.int .i64) (w0 := w) w.heap.size rfl (.tmp 11) (.tmp 12) 38 3 (.int .i64 0) 8 rfl Try.underlying38 info3 rfl (by decide) (by omega) v523 y522 l1 _ _ _ (fun _ => True) (fun _ => False) rfl rfl ?aO ?aR (fun _ _ h => h) (fun _ h => h.elim) ?aF ?aB ?aS ?aL ?_; (case aR => exact cb (Kd.C_below HR1.out HB.out)); (case aB => exact (bl HB.out)); (case aF => exact (fun _ _ => trivial)); (case aO => exact (rk HO524.out)); (case aS => exact (below_size (bl HB.out))); (case aL => have := LMc3.out; omega); intro v526 w7 ho hb hg hat; rw [← Ny525.out] at ho; replace BK521 := Aside0.mk (blk_grown (g := gb521) (o := .cells #[.int .i64 0, .slice none 0 0, .slice none 0 0] 41 (0, 0)) (bk BK521.out) hg (Kd.R_ne HO524.out BK521.out (by decide))); replace HB := Aside0.mk (hb); have HO527 := Aside0.mk (ho); clear HO524; clear ho hb hg hat; obtain ⟨Ao8, co8, eo8⟩ := Kd.R_slice HO527.out; subst eo8) | ((with_reducible refine gate_dst (N := 6) rfl ?_); refine bx (cs := #[.int .i64 0, .slice none 0 0, .slice none 0 0]) (t := 41) fun gb528 hg w9 hbox hb => ?_; replace HO527 := Aside0.mk (Kd.R_below (rk HO527.out) hb); have BK528 := Aside0.mk (hbox); have GW528 := Aside0.mk (gs HB.out hg); have GE528 := Aside0.mk (gs HB.out hg); replace HB := Aside0.mk (below_step (bl HB.out) hb); have NB521_528 := Aside0.mk ((nl BK521.out hg)); have NB528_521 := Aside0.mk ((ng BK521.out hg)); replace BK521 := Aside0.mk (bb BK521.out hb); clear hb hbox hg; have hnb10 := NB528_521.out; have hnc10 := NB521_528.out; obtain ⟨hcz11_0, hcz11_1, hcz11_2, hfz11_0, hfz11_1, hfz11_2⟩ := cz3 BK528.out))
  go_loopg [7, 8] k (fun kq v7 v8 w' => ∃ (x7_1 : Int) (x8_1 : Int) (x522000_1 : Int) (x529002_1 : List (S98)) (u529002 : Value), v7 = .int .i64 x7_1 ∧ v8 = .int .i64 x8_1 ∧ Aside0 (spec_NewColumn.l0 kq a0 l1 x7_1 x8_1 a0 y525 x529002_1 = some (r1, r2, r3, r4)) ∧ Aside0 (kq ≤ k) ∧ Aside0 (Kd.R (Kd.int .i64) 3 w' w.heap.size (fun _ => True) (.slice Ao8 y525.length co8) y525) ∧ Aside0 (Kd.R k98 98 w' w.heap.size (fun _ => True) u529002 x529002_1) ∧ Aside0 (w'.heap[gb521]? = some (.cells #[.int .i64 x522000_1, (.slice none 0 0), (.slice none 0 0)] 41 (0, 0))) ∧ Aside0 (w'.heap[gb528]? = some (.cells #[.int .i64 a0, (.slice Ao8 y525.length co8), u529002] 41 (0, 0))) ∧ Aside0 (Below w.heap.size w w'))
  case atStart => exact ⟨(0), (0), (0), (([] : List (S98))), (.slice none 0 0), (by first | rfl | (simp; done) | (simp [*]; done)), (by first | rfl | (simp; done) | (simp [*]; done)), H', ⟨Nat.le_refl _⟩, ⟨by refine rk ?_; exact Kd.R_mono (Kd.R_far (p := ⟨gb528, 2, none⟩) (Kd.R_far (p := ⟨gb528, 1, none⟩) (Kd.R_far (p := ⟨gb528, 0, none⟩) (Kd.R_types HO527.out BK528.out (by decide)) (fun _ hk => hk.2) (.int .i64 a0)) (fun _ hk => hk.2) (.slice Ao8 y525.length co8)) (fun _ hk => hk.2) (.slice none 0 0)) (fun _ hk => trivial)⟩, ⟨by first | exact Kd.R_nil _ _ _ _ _ | exact Kd.N_nil _ _ _ _ _ | exact Kd.V_nil _ _ _ _ _ | exact Kd.Q_nil _ _ _ _ _ | exact Kd.S_nil _ _ _ _ _⟩, ⟨by refine bk ?_; refine blk_far ?_ NB521_528.out _; refine bk ?_; refine blk_far ?_ NB521_528.out _; refine bk ?_; refine blk_far ?_ NB521_528.out _; refine bk ?_; exact BK521.out⟩, ⟨by refine bk ?_; refine blk_put (cs := #[.int .i64 a0, .slice Ao8 y525.length co8, .slice none 0 0]) ?_ 2 _ rfl; refine bk ?_; refine blk_put (cs := #[.int .i64 a0, .slice none 0 0, .slice none 0 0]) ?_ 1 _ rfl; refine bk ?_; refine blk_put (cs := #[.int .i64 0, .slice none 0 0, .slice none 0 0]) ?_ 0 _ rfl; refine bk ?_; exact BK528.out⟩, ⟨bl HB.out⟩⟩
  case round =>
   clear H'
   try clear c1
   try clear p2
   try clear c3
   try clear c10
   try clear hcz11_0
   try clear hcz11_1
   try clear hcz11_2
   try clear hfz11_0
   try clear hfz11_1
   try clear hfz11_2
   obtain ⟨x7_1, x8_1, x522000_1, x529002_1, u529002, rfl, rfl, HA, HK1, HO_529001, HO_529002, BK521, BK528, HB⟩ := hrel
   cases gk with
   | zero => exact absurd HA.out (by simp [spec_NewColumn.l0])
   | succ k1 =>
    have H := HA.out
    clear HA
    simp only [spec_NewColumn.l0] at H
    by_cases c12 : x8_1 ≤ (l1.length : Int)
    ·rw [if_pos c12] at H
     have c12b0 : decide (x8_1 ≤ (l1.length : Int)) = true := decide_eq_true c12
     clear c12
     by_cases c13 : x8_1 < (l1.length : Int)
     ·rw [if_pos c13] at H
      have c13b0 : decide (x8_1 < (l1.length : Int)) = true := decide_eq_true c13
      clear c13
      by_cases c14 : 0 ≤ x8_1
      ·rw [if_pos c14] at H
       have c14b0 : decide (0 ≤ x8_1) = true := decide_eq_true c14
       clear c14
       by_cases c15 : (rd l1 x8_1) ≤ x7_1
       ·rw [if_pos c15] at H
        have c15b0 : decide ((rd l1 x8_1) ≤ x7_1) = true := decide_eq_true c15
        clear c15
        simp only [Option.some.injEq, Prod.mk.injEq] at H
        obtain ⟨rfl, rfl, rfl, rfl⟩ := H
        have p530 : 0 ≤ (x8_1 : Int) := of_decide_eq_true asm
        have q530 : x8_1 < (l1.length : Int) := of_decide_eq_true asm
        obtain ⟨ad530, e530, hx530_0⟩ := Kd.at_int HR1.out x8_1 p530 q530
        cases e530
        replace hx530_0 := (HB.out.cell (World.block_lt_of_cell? w _ hx530_0)).trans hx530_0
        replace p530 := eq_true p530
        replace q530 := eq_true q530
        have hnb16 := NB521_528.out
        have hnc16 := NB528_521.out
        obtain ⟨hcz17_0, hcz17_1, hcz17_2, hfz17_0, hfz17_1, hfz17_2⟩ := cz3 BK521.out
        go_wp2
        refine bodyPost_ret (results_ct rfl _ _ gb521 41 #[.int .i64 0, .slice none 0 0, .slice none 0 0] (0, 0) _ rfl (by refine bk ?_; refine blk_put (cs := #[.int .i64 0, .slice none 0 0, .slice none 0 0]) ?_ 2 _ rfl; refine bk ?_; refine blk_put (cs := #[.int .i64 0, .slice none 0 0, .slice none 0 0]) ?_ 1 _ rfl; refine bk ?_; refine blk_put (cs := #[.int .i64 x522000_1, .slice none 0 0, .slice none 0 0]) ?_ 0 _ rfl; refine bk ?_; exact BK521.out) Try.underlying41 rfl (by kernel_rfl)) rfl ?_
        exact ⟨_, _, by first | rfl | (simp [errW_none, errW_some] <;> rfl) | (simp [*, errW_none, errW_some] <;> rfl), by first | exact Kd.R_nil _ _ _ _ _ | exact Kd.N_nil _ _ _ _ _ | exact Kd.V_nil _ _ _ _ _ | exact Kd.Q_nil _ _ _ _ _ | exact Kd.S_nil _ _ _ _ _, by first | exact Kd.R_nil _ _ _ _ _ | exact Kd.N_nil _ _ _ _ _ | exact Kd.V_nil _ _ _ _ _ | exact Kd.Q_nil _ _ _ _ _ | exact Kd.S_nil _ _ _ _ _, bl HB.out⟩
       ·rw [if_neg c15] at H
        have c15b0 : decide ((rd l1 x8_1) ≤ x7_1) = false := decide_eq_false c15
        clear c15
        by_cases c18 : (rd l1 x8_1) > 24
        ·rw [if_pos c18] at H
         have c18b0 : decide (24 < (rd l1 x8_1)) = true := decide_eq_true c18
         clear c18
         simp only [Option.some.injEq, Prod.mk.injEq] at H
         obtain ⟨rfl, rfl, rfl, rfl⟩ := H
         have p530 : 0 ≤ (x8_1 : Int) := of_decide_eq_true asm
         have q530 : x8_1 < (l1.length : Int) := of_decide_eq_true asm
         obtain ⟨ad530, e530, hx530_0⟩ := Kd.at_int HR1.out x8_1 p530 q530
         cases e530
         replace hx530_0 := (HB.out.cell (World.block_lt_of_cell? w _ hx530_0)).trans hx530_0
         replace p530 := eq_true p530
         replace q530 := eq_true q530
         have hnb19 := NB521_528.out
         have hnc19 := NB528_521.out
         obtain ⟨hcz20_0, hcz20_1, hcz20_2, hfz20_0, hfz20_1, hfz20_2⟩ := cz3 BK521.out
         go_wp2
         refine bodyPost_ret (results_ct rfl _ _ gb521 41 #[.int .i64 0, .slice none 0 0, .slice none 0 0] (0, 0) _ rfl (by refine bk ?_; refine blk_put (cs := #[.int .i64 0, .slice none 0 0, .slice none 0 0]) ?_ 2 _ rfl; refine bk ?_; refine blk_put (cs := #[.int .i64 0, .slice none 0 0, .slice none 0 0]) ?_ 1 _ rfl; refine bk ?_; refine blk_put (cs := #[.int .i64 x522000_1, .slice none 0 0, .slice none 0 0]) ?_ 0 _ rfl; refine bk ?_; exact BK521.out) Try.underlying41 rfl (by kernel_rfl)) rfl ?_
         exact ⟨_, _, by first | rfl | (simp [errW_none, errW_some] <;> rfl) | (simp [*, errW_none, errW_some] <;> rfl), by first | exact Kd.R_nil _ _ _ _ _ | exact Kd.N_nil _ _ _ _ _ | exact Kd.V_nil _ _ _ _ _ | exact Kd.Q_nil _ _ _ _ _ | exact Kd.S_nil _ _ _ _ _, by first | exact Kd.R_nil _ _ _ _ _ | exact Kd.N_nil _ _ _ _ _ | exact Kd.V_nil _ _ _ _ _ | exact Kd.Q_nil _ _ _ _ _ | exact Kd.S_nil _ _ _ _ _, bl HB.out⟩
        ·rw [if_neg c18] at H
         have c18b0 : decide (24 < (rd l1 x8_1)) = false := decide_eq_false c18
         clear c18
         by_cases c21 : x529002_1.length < 4398046511104
         ·rw [if_pos c21] at H
          have LMc21 := Aside0.mk c21
          clear c21
          obtain ⟨y531, hy531⟩ : ∃ y_ : List (S98), y_ = (x529002_1 ++ [(⟨x7_1, wrap64 ((rd l1 x8_1) - x7_1), 0, false⟩ : S98)]) := ⟨_, rfl⟩
          replace H : (spec_NewColumn.l0 k1 a0 l1 (rd l1 x8_1) (wrap64 (x8_1 + 1)) a0 y525 y531) = some (r1, r2, r3, r4) := by first | (rw [hy531]; with_reducible exact H) | (have H2_ := (Option.bind_some _ _).symm.trans H; rw [hy531]; with_reducible exact H2_) | (have H2_ := (Option.bind_some _ _).symm.trans H; with_reducible exact H2_) | with_reducible exact H | (rw [hy531]; exact H) | exact H
          have Ny531 := Aside0.mk hy531
          clear hy531
          have H' := Aside0.mk H
          clear H
          have p530 : 0 ≤ (x8_1 : Int) := of_decide_eq_true asm
          have q530 : x8_1 < (l1.length : Int) := of_decide_eq_true asm
          obtain ⟨ad530, e530, hx530_0⟩ := Kd.at_int HR1.out x8_1 p530 q530
          cases e530
          replace hx530_0 := (HB.out.cell (World.block_lt_of_cell? w _ hx530_0)).trans hx530_0
          replace p530 := eq_true p530
          replace q530 := eq_true q530
          have hnb22 := NB528_521.out
          have hnc22 := NB521_528.out
          obtain ⟨hcz23_0, hcz23_1, hcz23_2, hfz23_0, hfz23_1, hfz23_2⟩ := cz3 BK528.out
          go_wp2_with (first | ((with_reducible refine gate_builtin (b := .append) (xs := #[.tmp 39, .tmp 45]) rfl ?_); at_builtin; refine Kd.R_append k98 (w0 := w) w.heap.size rfl (.tmp 39) (.tmp 45) 39 98 (.agg #[(.int .i64 0), (.int .i64 0), (.int .i64 0), (.bool false)]) 32 rfl Try.underlying39 info98 rfl (by decide) (by omega) u529002 x529002_1 (⟨x7_1, wrap64 ((rd l1 x8_1) - x7_1), 0, false⟩ : S98) [.int .i64 x7_1, .int .i64 (wrap64 ((rd l1 x8_1) - x7_1)), .int .i64 0, .bool false] (fun _ => True) (fun _ => False) rfl rfl ?aP (fun _ hk => hk.elim) ?aF ?aO ?aB ?aS ?aL ?_; (case aP => exact k98_mkM _ _ _ (⟨x7_1, wrap64 ((rd l1 x8_1) - x7_1), 0, false⟩ : S98)); (case aB => exact (bl HB.out)); (case aF => exact (fun _ _ => trivial)); (case aO => exact (rk HO_529002.out)); (case aS => exact (below_size (bl HB.out))); (case aL => have := LMc21.out; omega); intro v532 w24 ho hb hg hat; rw [← Ny531.out] at ho; replace HO_529001 := Aside0.mk (Kd.R_over' (rk HO_529001.out) (Kd.R_typed (rk HO_529002.out)) (by decide) hg); replace BK521 := Aside0.mk (blk_grown (g := gb521) (o := .cells #[.int .i64 x522000_1, .slice none 0 0, .slice none 0 0] 41 (0, 0)) (bk BK521.out) hg (Kd.R_ne HO_529002.out BK521.out (by decide))); replace BK528 := Aside0.mk (blk_grown (g := gb528) (o := .cells #[.int .i64 a0, .slice Ao8 y525.length co8, u529002] 41 (0, 0)) (bk BK528.out) hg (Kd.R_ne HO_529002.out BK528.out (by decide))); replace HB := Aside0.mk (hb); have HO533 := Aside0.mk (ho); clear HO_529002; clear ho hb hg hat; obtain ⟨Ao25, co25, eo25⟩ := Kd.R_slice HO533.out; subst eo25; obtain ⟨hcz26_0, hcz26_1, hcz26_2, hfz26_0, hfz26_1, hfz26_2⟩ := cz3 BK528.out))
          go_roundg k1
          case measure => have := HK1.out; omega
          case rel => exact ⟨(rd l1 x8_1), (wrap64 (x8_1 + 1)), (x522000_1), (y531), (.slice Ao25 y531.length co25), (by first | rfl | (simp; done) | (simp [*]; done)), (by first | rfl | (simp; done) | (simp [*]; done)), H', ⟨by have := HK1.out; omega⟩, ⟨by refine rk ?_; exact Kd.R_mono (Kd.R_far (p := ⟨gb528, 2, none⟩) (Kd.R_types HO_529001.out BK528.out (by decide)) (fun _ hk => hk.2) (.slice Ao25 y531.length co25)) (fun _ hk => trivial)⟩, ⟨by refine rk ?_; exact Kd.R_mono (Kd.R_far (p := ⟨gb528, 2, none⟩) (Kd.R_types HO533.out BK528.out (by decide)) (fun _ hk => hk.2) (.slice Ao25 y531.length co25)) (fun _ hk => trivial)⟩, ⟨by refine bk ?_; refine blk_far ?_ NB521_528.out _; refine bk ?_; exact BK521.out⟩, ⟨by refine bk ?_; refine blk_put (cs := #[.int .i64 a0, .slice Ao8 y525.length co8, u529002]) ?_ 2 _ rfl; refine bk ?_; exact BK528.out⟩, ⟨bl HB.out⟩⟩
         ·rw [if_neg c21] at H
          exact absurd H (by simp)
      ·rw [if_neg c14] at H
       exact absurd H (by simp)
     ·rw [if_neg c13] at H
      have c13b0 : decide (x8_1 < (l1.length : Int)) = false := decide_eq_false c13
      clear c13
      by_cases c27 : a0 ≤ x7_1
      ·rw [if_pos c27] at H
       have c27b0 : decide (a0 ≤ x7_1) = true := decide_eq_true c27
       clear c27
       simp only [Option.some.injEq, Prod.mk.injEq] at H
       obtain ⟨rfl, rfl, rfl, rfl⟩ := H
       have hnb28 := NB521_528.out
       have hnc28 := NB528_521.out
       obtain ⟨hcz29_0, hcz29_1, hcz29_2, hfz29_0, hfz29_1, hfz29_2⟩ := cz3 BK521.out
       go_wp2
       refine bodyPost_ret (results_ct rfl _ _ gb521 41 #[.int .i64 0, .slice none 0 0, .slice none 0 0] (0, 0) _ rfl (by refine bk ?_; refine blk_put (cs := #[.int .i64 0, .slice none 0 0, .slice none 0 0]) ?_ 2 _ rfl; refine bk ?_; refine blk_put (cs := #[.int .i64 0, .slice none 0 0, .slice none 0 0]) ?_ 1 _ rfl; refine bk ?_; refine blk_put (cs := #[.int .i64 x522000_1, .slice none 0 0, .slice none 0 0]) ?_ 0 _ rfl; refine bk ?_; exact BK521.out) Try.underlying41 rfl (by kernel_rfl)) rfl ?_
       exact ⟨_, _, by first | rfl | (simp [errW_none, errW_some] <;> rfl) | (simp [*, errW_none, errW_some] <;> rfl), by first | exact Kd.R_nil _ _ _ _ _ | exact Kd.N_nil _ _ _ _ _ | exact Kd.V_nil _ _ _ _ _ | exact Kd.Q_nil _ _ _ _ _ | exact Kd.S_nil _ _ _ _ _, by first | exact Kd.R_nil _ _ _ _ _ | exact Kd.N_nil _ _ _ _ _ | exact Kd.V_nil _ _ _ _ _ | exact Kd.Q_nil _ _ _ _ _ | exact Kd.S_nil _ _ _ _ _, bl HB.out⟩
      ·rw [if_neg c27] at H
       have c27b0 : decide (a0 ≤ x7_1) = false := decide_eq_false c27
       clear c27
       by_cases c30 : a0 > 24
       ·rw [if_pos c30] at H
        have c30b0 : decide (24 < a0) = true := decide_eq_true c30
        clear c30
        simp only [Option.some.injEq, Prod.mk.injEq] at H
        obtain ⟨rfl, rfl, rfl, rfl⟩ := H
        have hnb31 := NB521_528.out
        have hnc31 := NB528_521.out
        obtain ⟨hcz32_0, hcz32_1, hcz32_2, hfz32_0, hfz32_1, hfz32_2⟩ := cz3 BK521.out
        go_wp2
        refine bodyPost_ret (results_ct rfl _ _ gb521 41 #[.int .i64 0, .slice none 0 0, .slice none 0 0] (0, 0) _ rfl (by refine bk ?_; refine blk_put (cs := #[.int .i64 0, .slice none 0 0, .slice none 0 0]) ?_ 2 _ rfl; refine bk ?_; refine blk_put (cs := #[.int .i64 0, .slice none 0 0, .slice none 0 0]) ?_ 1 _ rfl; refine bk ?_; refine blk_put (cs := #[.int .i64 x522000_1, .slice none 0 0, .slice none 0 0]) ?_ 0 _ rfl; refine bk ?_; exact BK521.out) Try.underlying41 rfl (by kernel_rfl)) rfl ?_
        exact ⟨_, _, by first | rfl | (simp [errW_none, errW_some] <;> rfl) | (simp [*, errW_none, errW_some] <;> rfl), by first | exact Kd.R_nil _ _ _ _ _ | exact Kd.N_nil _ _ _ _ _ | exact Kd.V_nil _ _ _ _ _ | exact Kd.Q_nil _ _ _ _ _ | exact Kd.S_nil _ _ _ _ _, by first | exact Kd.R_nil _ _ _ _ _ | exact Kd.N_nil _ _ _ _ _ | exact Kd.V_nil _ _ _ _ _ | exact Kd.Q_nil _ _ _ _ _ | exact Kd.S_nil _ _ _ _ _, bl HB.out⟩
       ·rw [if_neg c30] at H
        have c30b0 : decide (24 < a0) = false := decide_eq_false c30
        clear c30
        by_cases c33 : x529002_1.length < 4398046511104
        ·rw [if_pos c33] at H
         have LMc33 := Aside0.mk c33
         clear c33
         obtain ⟨y534, hy534⟩ : ∃ y_ : List (S98), y_ = (x529002_1 ++ [(⟨x7_1, wrap64 (a0 - x7_1), 0, false⟩ : S98)]) := ⟨_, rfl⟩
         replace H : (spec_NewColumn.l0 k1 a0 l1 a0 (wrap64 (x8_1 + 1)) a0 y525 y534) = some (r1, r2, r3, r4) := by first | (rw [hy534]; with_reducible exact H) | (have H2_ := (Option.bind_some _ _).symm.trans H; rw [hy534]; with_reducible exact H2_) | (have H2_ := (Option.bind_some _ _).symm.trans H; with_reducible exact H2_) | with_reducible exact H | (rw [hy534]; exact H) | exact H
         have Ny534 := Aside0.mk hy534
         clear hy534
         have H' := Aside0.mk H
         clear H
         have hnb34 := NB528_521.out
         have hnc34 := NB521_528.out
         obtain ⟨hcz35_0, hcz35_1, hcz35_2, hfz35_0, hfz35_1, hfz35_2⟩ := cz3 BK528.out
         go_wp2_with (first | ((with_reducible refine gate_builtin (b := .append) (xs := #[.tmp 39, .tmp 45]) rfl ?_); at_builtin; refine Kd.R_append k98 (w0 := w) w.heap.size rfl (.tmp 39) (.tmp 45) 39 98 (.agg #[(.int .i64 0), (.int .i64 0), (.int .i64 0), (.bool false)]) 32 rfl Try.underlying39 info98 rfl (by decide) (by omega) u529002 x529002_1 (⟨x7_1, wrap64 (a0 - x7_1), 0, false⟩ : S98) [.int .i64 x7_1, .int .i64 (wrap64 (a0 - x7_1)), .int .i64 0, .bool false] (fun _ => True) (fun _ => False) rfl rfl ?aP (fun _ hk => hk.elim) ?aF ?aO ?aB ?aS ?aL ?_; (case aP => exact k98_mkM _ _ _ (⟨x7_1, wrap64 (a0 - x7_1), 0, false⟩ : S98)); (case aB => exact (bl HB.out)); (case aF => exact (fun _ _ => trivial)); (case aO => exact (rk HO_529002.out)); (case aS => exact (below_size (bl HB.out))); (case aL => have := LMc33.out; omega); intro v535 w36 ho hb hg hat; rw [← Ny534.out] at ho; replace HO_529001 := Aside0.mk (Kd.R_over' (rk HO_529001.out) (Kd.R_typed (rk HO_529002.out)) (by decide) hg); replace BK521 := Aside0.mk (blk_grown (g := gb521) (o := .cells #[.int .i64 x522000_1, .slice none 0 0, .slice none 0 0] 41 (0, 0)) (bk BK521.out) hg (Kd.R_ne HO_529002.out BK521.out (by decide))); replace BK528 := Aside0.mk (blk_grown (g := gb528) (o := .cells #[.int .i64 a0, .slice Ao8 y525.length co8, u529002] 41 (0, 0)) (bk BK528.out) hg (Kd.R_ne HO_529002.out BK528.out (by decide))); replace HB := Aside0.mk (hb); have HO536 := Aside0.mk (ho); clear HO_529002; clear ho hb hg hat; obtain ⟨Ao37, co37, eo37⟩ := Kd.R_slice HO536.out; subst eo37; obtain ⟨hcz38_0, hcz38_1, hcz38_2, hfz38_0, hfz38_1, hfz38_2⟩ := cz3 BK528.out))
         go_roundg k1
         case measure => have := HK1.out; omega
         case rel => exact ⟨(a0), (wrap64 (x8_1 + 1)), (x522000_1), (y534), (.slice Ao37 y534.length co37), (by first | rfl | (simp; done) | (simp [*]; done)), (by first | rfl | (simp; done) | (simp [*]; done)), H', ⟨by have := HK1.out; omega⟩, ⟨by refine rk ?_; exact Kd.R_mono (Kd.R_far (p := ⟨gb528, 2, none⟩) (Kd.R_types HO_529001.out BK528.out (by decide)) (fun _ hk => hk.2) (.slice Ao37 y534.length co37)) (fun _ hk => trivial)⟩, ⟨by refine rk ?_; exact Kd.R_mono (Kd.R_far (p := ⟨gb528, 2, none⟩) (Kd.R_types HO536.out BK528.out (by decide)) (fun _ hk => hk.2) (.slice Ao37 y534.length co37)) (fun _ hk => trivial)⟩, ⟨by refine bk ?_; refine blk_far ?_ NB521_528.out _; refine bk ?_; exact BK521.out⟩, ⟨by refine bk ?_; refine blk_put (cs := #[.int .i64 a0, .slice Ao8 y525.length co8, u529002]) ?_ 2 _ rfl; refine bk ?_; exact BK528.out⟩, ⟨bl HB.out⟩⟩
        ·rw [if_neg c33] at H
         exact absurd H (by simp)
    ·rw [if_neg c12] at H
     have c12b0 : decide (x8_1 ≤ (l1.length : Int)) = false := decide_eq_false c12
     clear c12
     replace H := Option.bind_eq_some_iff.mp H
     obtain ⟨t529, A390, H⟩ := H
     try dsimp only at H
     have A39 := Aside0.mk A390
     clear A390
     by_cases c40 : t529 = true
     ·subst c40
      rw [if_pos rfl] at H
      simp only [Option.some.injEq, Prod.mk.injEq] at H
      obtain ⟨rfl, rfl, rfl, rfl⟩ := H
      have hnb41 := NB528_521.out
      have hnc41 := NB521_528.out
      obtain ⟨hcz42_0, hcz42_1, hcz42_2, hfz42_0, hfz42_1, hfz42_2⟩ := cz3 BK528.out
      obtain ⟨Ao43, co43, eo43⟩ := Kd.R_slice HO_529002.out
      subst eo43
      go_wp2_with (first | ((with_reducible refine gate_callee (f := 91) rfl ?_); refine goesL_ (some 50) rfl rfl Try.func91 (by kernel_rfl) rfl #[.agg #[.int .i64 a0, .slice Ao8 y525.length co8, .slice Ao43 x529002_1.length co43]] rfl mapd ?_; (with_reducible refine (spec_ColumnOk.calls k1 a0 _ _ y525 _ _ x529002_1 true _ ?side1 ?side2 ?side3 ?side4 A39.out).mono ?_); (case side1 => exact cb ((Kd.R_reads' HO_529001.out).2.2)); (case side2 => exact (Kd.R_reads' HO_529001.out).2.1); (case side3 => exact cb ((Kd.R_reads' HO_529002.out).2.2)); (case side4 => exact (Kd.R_reads' HO_529002.out).2.1); rintro e w44 ⟨rfl, hb⟩; refine ⟨_, rfl, ?_⟩; replace HO_529001 := Aside0.mk (Kd.R_below (rk HO_529001.out) hb); replace HO_529002 := Aside0.mk (Kd.R_below (rk HO_529002.out) hb); replace BK521 := Aside0.mk (bb BK521.out hb); replace BK528 := Aside0.mk (bb BK528.out hb); replace HB := Aside0.mk (below_step (bl HB.out) hb); (try clear hb); (try clear hb2); (try clear hk); (try clear hi); obtain ⟨hcz45_0, hcz45_1, hcz45_2, hfz45_0, hfz45_1, hfz45_2⟩ := cz3 BK528.out; obtain ⟨hcz46_0, hcz46_1, hcz46_2, hfz46_0, hfz46_1, hfz46_2⟩ := cz3 BK521.out))
      refine bodyPost_ret (results_ct rfl _ _ gb521 41 #[.int .i64 a0, .slice Ao8 y525.length co8, .slice Ao43 x529002_1.length co43] (0, 0) _ rfl (by refine bk ?_; refine blk_put (cs := #[.int .i64 a0, .slice Ao8 y525.length co8, .slice none 0 0]) ?_ 2 _ rfl; refine bk ?_; refine blk_put (cs := #[.int .i64 a0, .slice none 0 0, .slice none 0 0]) ?_ 1 _ rfl; refine bk ?_; refine blk_put (cs := #[.int .i64 x522000_1, .slice none 0 0, .slice none 0 0]) ?_ 0 _ rfl; refine bk ?_; exact BK521.out) Try.underlying41 rfl (by kernel_rfl)) rfl ?_
      exact ⟨_, _, by first | rfl | (simp [errW_none, errW_some] <;> rfl) | (simp [*, errW_none, errW_some] <;> rfl), by refine rk ?_; exact Kd.R_mono (Kd.R_far (p := ⟨gb521, 2, none⟩) (Kd.R_far (p := ⟨gb521, 1, none⟩) (Kd.R_far (p := ⟨gb521, 0, none⟩) (Kd.R_types HO_529001.out BK521.out (by decide)) (fun _ hk => hk.2) (.int .i64 a0)) (fun _ hk => hk.2) (.slice Ao8 y525.length co8)) (fun _ hk => hk.2) (.slice Ao43 x529002_1.length co43)) (fun _ hk => trivial), by refine rk ?_; exact Kd.R_mono (Kd.R_far (p := ⟨gb521, 2, none⟩) (Kd.R_far (p := ⟨gb521, 1, none⟩) (Kd.R_far (p := ⟨gb521, 0, none⟩) (Kd.R_types HO_529002.out BK521.out (by decide)) (fun _ hk => hk.2) (.int .i64 a0)) (fun _ hk => hk.2) (.slice Ao8 y525.length co8)) (fun _ hk => hk.2) (.slice Ao43 x529002_1.length co43)) (fun _ hk => trivial), bl HB.out⟩
     ·replace c40 := Bool.eq_false_iff.mpr c40
      subst c40
      rw [if_neg (show ¬ (false = true) by decide)] at H
      simp only [Option.some.injEq, Prod.mk.injEq] at H
      obtain ⟨rfl, rfl, rfl, rfl⟩ := H
      have hnb47 := NB528_521.out
      have hnc47 := NB521_528.out
      obtain ⟨hcz48_0, hcz48_1, hcz48_2, hfz48_0, hfz48_1, hfz48_2⟩ := cz3 BK528.out
      obtain ⟨Ao49, co49, eo49⟩ := Kd.R_slice HO_529002.out
      subst eo49
      go_wp2_with (first | ((with_reducible refine gate_callee (f := 91) rfl ?_); refine goesL_ (some 50) rfl rfl Try.func91 (by kernel_rfl) rfl #[.agg #[.int .i64 a0, .slice Ao8 y525.length co8, .slice Ao49 x529002_1.length co49]] rfl mapd ?_; (with_reducible refine (spec_ColumnOk.calls k1 a0 _ _ y525 _ _ x529002_1 false _ ?side1 ?side2 ?side3 ?side4 A39.out).mono ?_); (case side1 => exact cb ((Kd.R_reads' HO_529001.out).2.2)); (case side2 => exact (Kd.R_reads' HO_529001.out).2.1); (case side3 => exact cb ((Kd.R_reads' HO_529002.out).2.2)); (case side4 => exact (Kd.R_reads' HO_529002.out).2.1); rintro e w50 ⟨rfl, hb⟩; refine ⟨_, rfl, ?_⟩; replace HO_529001 := Aside0.mk (Kd.R_below (rk HO_529001.out) hb); replace HO_529002 := Aside0.mk (Kd.R_below (rk HO_529002.out) hb); replace BK521 := Aside0.mk (bb BK521.out hb); replace BK528 := Aside0.mk (bb BK528.out hb); replace HB := Aside0.mk (below_step (bl HB.out) hb); (try clear hb); (try clear hb2); (try clear hk); (try clear hi); obtain ⟨hcz51_0, hcz51_1, hcz51_2, hfz51_0, hfz51_1, hfz51_2⟩ := cz3 BK521.out))
      refine bodyPost_ret (results_ct rfl _ _ gb521 41 #[.int .i64 0, .slice none 0 0, .slice none 0 0] (0, 0) _ rfl (by refine bk ?_; refine blk_put (cs := #[.int .i64 0, .slice none 0 0, .slice none 0 0]) ?_ 2 _ rfl; refine bk ?_; refine blk_put (cs := #[.int .i64 0, .slice none 0 0, .slice none 0 0]) ?_ 1 _ rfl; refine bk ?_; refine blk_put (cs := #[.int .i64 x522000_1, .slice none 0 0, .slice none 0 0]) ?_ 0 _ rfl; refine bk ?_; exact BK521.out) Try.underlying41 rfl (by kernel_rfl)) rfl ?_
      exact ⟨_, _, by first | rfl | (simp [errW_none, errW_some] <;> rfl) | (simp [*, errW_none, errW_some] <;> rfl), by first | exact Kd.R_nil _ _ _ _ _ | exact Kd.N_nil _ _ _ _ _ | exact Kd.V_nil _ _ _ _ _ | exact Kd.Q_nil _ _ _ _ _ | exact Kd.S_nil _ _ _ _ _, by first | exact Kd.R_nil _ _ _ _ _ | exact Kd.N_nil _ _ _ _ _ | exact Kd.V_nil _ _ _ _ _ | exact Kd.Q_nil _ _ _ _ _ | exact Kd.S_nil _ _ _ _ _, bl HB.out⟩
 ·rw [if_neg c3] at H
  exact absurd H (by simp)
def spec_l01Once.f (s0_0 : List Int) (s0_1 : Int) (s0_2 : Int) (a1 : Int) : Option (Bool × Int × Int) := (spec_l01Below.f s0_0 s0_1 s0_2 a1).bind fun bt537 => (some ((bt537.1 == 0), bt537.2.1, bt537.2.2))
set_option maxHeartbeats 8000000 in
set_option maxRecDepth 100000 in
theorem spec_l01Once.calls (g : Nat) (s0_0 : List Int) (s0_1 : Int) (s0_2 : Int) (a1 : Int) (r1 : Bool) (r2 : Int) (r3 : Int) (w0 w : World) (hI : IsS116 w0 w g s0_0 s0_1 s0_2) (hB : Below w0.heap.size w0 w) (h : spec_l01Once.f s0_0 s0_1 s0_2 a1 = some (r1, r2, r3)) :
  Calls Try.prog 123 #[.pointer (some ⟨g, 0, none⟩), .int .i64 a1] w fun e w' => e = .returned (.bool r1) ∧ IsS116 w0 w' g s0_0 r2 r3 ∧ Below w0.heap.size w0 w' ∧ KeepBut w w' g none := by
 have HI0 := Aside0.mk hI
 have HK := Aside0.mk (KeepBut.refl w g none)
 have HL := Aside0.mk hB.size
 clear hI
 have HW0 := Aside0.mk hB.size
 have HB := Aside0.mk hB
 clear hB
 have H : ((spec_l01Below.f s0_0 s0_1 s0_2 a1).bind fun bt537 => (some ((bt537.1 == 0), bt537.2.1, bt537.2.2))) = some (r1, r2, r3) := h
 clear h
 replace H := Option.bind_eq_some_iff.mp H
 obtain ⟨⟨t537, t538, t539⟩, A30, H⟩ := H
 try dsimp only at H
 have A3 := Aside0.mk A30
 clear A30
 simp only [Option.some.injEq, Prod.mk.injEq] at H
 obtain ⟨rfl, rfl, rfl⟩ := H
 go_enter Try.func123, Try.ntmps123
 go_wp2_with (first | ((with_reducible refine gate_callee (f := 78) rfl ?_); refine goesL_ (some 7) rfl rfl Try.func78 (by kernel_rfl) rfl #[.pointer (some ⟨g, 0, none⟩), .int .i64 a1] rfl mapd ?_; (with_reducible refine (spec_l01Below.calls g s0_0 s0_1 s0_2 a1 t537 t538 t539 w0 _ ?side1 ?side2 A3.out).mono ?_); (case side1 => exact is116 HI0.out); (case side2 => exact bl116 HB.out); rintro e w4 ⟨rfl, hi, hb, hk⟩; refine ⟨_, rfl, ?_⟩; replace HK := Aside0.mk (KeepBut.trans (kp HK.out) hk (.inl rfl)); replace HB := Aside0.mk (hb); replace HI0 := Aside0.mk (hi); (try clear hb); (try clear hb2); (try clear hk); (try clear hi)))
 go_ret
 exact ⟨by first | rfl | (simp [errW_none, errW_some] <;> rfl) | (simp [*, errW_none, errW_some] <;> rfl), is116 HI0.out, bl116 HB.out, kp HK.out⟩
end Go.Proofs.Ytbpjidekjogfeaa.A

namespace Go.Proofs.Ytbpjidekjogfeaa.A
open Go.RowKit Go.Proofs.YtbpjidekjogfeaaW.PrintWords Go.Proofs.YtbpjidekjogfeaaW.PrintLast Go.Proofs.YtbpjidekjogfeaaW.PrintMore
attribute [local go_sem] max2_int min2_int max_two min_two max_three min_three max_four min_four   
set_option linter.unusedVariables false
set_option linter.unusedSimpArgs false
mutual
def spec_SetJam.l0 : Nat → Int → Bool → Int → Int → List Int → List (S98) → Int → List Int → List (S98) → Option (Int × List Int × (List (S98)) × Bool)
 | 0, _, _, _, _, _, _, _, _, _ => none
 | k + 1, x1, x2, x9, x541000, x541001, x541002, x550000, x550001, x550002 => if x9 < (x541002.length : Int) then ((spec_ColumnOk.f k x541000 x541001 x541002).bind fun t550 => (spec_SetJam.j1 k x1 x2 x9 t550 x541000 x541001 x541002 x550000 x550001 x550002)) else (spec_SetJam.j1 k x1 x2 x9 false x541000 x541001 x541002 x550000 x550001 x550002)
def spec_SetJam.j1 : Nat → Int → Bool → Int → Bool → Int → List Int → List (S98) → Int → List Int → List (S98) → Option (Int × List Int × (List (S98)) × Bool)
 | 0, _, _, _, _, _, _, _, _, _, _ => none
 | k + 1, x1, x2, x9, x20, x541000, x541001, x541002, x550000, x550001, x550002 => if x20 = true then (if 0 ≤ x9 then (if x9 < (x541002.length : Int) then ((spec_l01In.f x1 ((rd_T98 x541002 x9).f0) (wrap64 ((wrap64 (((rd_T98 x541002 x9).f0) + ((rd_T98 x541002 x9).f1))) - 1))).bind fun t554 => (if t554 = true then (if x9 < (x550002.length : Int) then (some (x550000, x550001, (x550002.set (x9 : Int).toNat (⟨(rd_T98 x550002 x9).f0, (rd_T98 x550002 x9).f1, (rd_T98 x550002 x9).f2, x2⟩ : S98)), true)) else (none)) else (spec_SetJam.l0 k x1 x2 (wrap64 (x9 + 1)) x541000 x541001 x541002 x550000 x550001 x550002))) else (none)) else (none)) else (some (x550000, x550001, x550002, false))
end
def spec_SetJam.f (k : Nat) (a0_0 : Int) (l0_1 : List Int) (l0_2 : List (S98)) (a1 : Int) (a2 : Bool) : Option (Int × List Int × (List (S98)) × Bool) := (spec_l02Copy.f a0_0 l0_1 l0_2).bind fun bt542 => (spec_SetJam.l0 k a1 a2 0 a0_0 l0_1 l0_2 bt542.1 bt542.2.1 bt542.2.2)
set_option maxHeartbeats 8000000 in
set_option maxRecDepth 100000 in
theorem spec_SetJam.calls (k : Nat) (a0_0 : Int) (A0_1 : Option Addr) (c0_1 : Nat) (l0_1 : List Int) (A0_2 : Option Addr) (c0_2 : Nat) (l0_2 : List (S98)) (a1 : Int) (a2 : Bool) (r1 : Int) (r2 : List Int) (r3 : List (S98)) (r4 : Bool) (w : World) (hr0_1 : Kd.C (Kd.int .i64) w A0_1 l0_1.length l0_1) (hc0_1 : l0_1.length ≤ c0_1) (hr0_2 : Kd.C k98 w A0_2 l0_2.length l0_2) (hc0_2 : l0_2.length ≤ c0_2) (h : spec_SetJam.f k a0_0 l0_1 l0_2 a1 a2 = some (r1, r2, r3, r4)) :
  Calls Try.prog 125 #[.agg #[.int .i64 a0_0, .slice A0_1 l0_1.length c0_1, .slice A0_2 l0_2.length c0_2], .int .i64 a1, .bool a2] w fun e w' => ∃ v1_ v2_ : Value, e = .returned (.tuple #[.agg #[.int .i64 r1, v1_, v2_], .bool r4]) ∧ Kd.R (Kd.int .i64) 3 w' w.heap.size (fun _ => True) v1_ r2 ∧ Kd.R k98 98 w' w.heap.size (fun _ => True) v2_ r3 ∧ Below w.heap.size w w' := by
 have hu41 := Try.underlying41
 have HR0_1 := Aside0.mk hr0_1
 have HC0_1 := Aside0.mk hc0_1
 clear hr0_1 hc0_1
 have HR0_2 := Aside0.mk hr0_2
 have HC0_2 := Aside0.mk hc0_2
 clear hr0_2 hc0_2
 have HB := Aside0.mk (Below.refl w.heap.size w)
 have H : ((spec_l02Copy.f a0_0 l0_1 l0_2).bind fun bt542 => (spec_SetJam.l0 k a1 a2 0 a0_0 l0_1 l0_2 bt542.1 bt542.2.1 bt542.2.2)) = some (r1, r2, r3, r4) := h
 clear h
 replace H := Option.bind_eq_some_iff.mp H
 obtain ⟨⟨t542, t543, t546⟩, A40, H⟩ := H
 try dsimp only at H
 have A4 := Aside0.mk A40
 clear A40
 have H' := Aside0.mk H
 clear H
 go_enter Try.func125, Try.ntmps125
 go_wp2_with (first | ((with_reducible refine gate_dst (N := 3) rfl ?_); refine bx (cs := #[.int .i64 a0_0, .slice A0_1 l0_1.length c0_1, .slice A0_2 l0_2.length c0_2]) (t := 41) fun gb540 hg w5 hbox hb => ?_; have BK540 := Aside0.mk (hbox); have GW540 := Aside0.mk (gs HB.out hg); have GE540 := Aside0.mk (gs HB.out hg); replace HB := Aside0.mk (below_step (bl HB.out) hb); clear hb hbox hg) | ((with_reducible refine gate_dst (N := 6) rfl ?_); refine bx (cs := #[.int .i64 0, .slice none 0 0, .slice none 0 0]) (t := 41) fun gb541 hg w6 hbox hb => ?_; have BK541 := Aside0.mk (hbox); have GW541 := Aside0.mk (gs HB.out hg); have GE541 := Aside0.mk (gs HB.out hg); replace HB := Aside0.mk (below_step (bl HB.out) hb); have NB540_541 := Aside0.mk ((nl BK540.out hg)); have NB541_540 := Aside0.mk ((ng BK540.out hg)); replace BK540 := Aside0.mk (bb BK540.out hb); clear hb hbox hg; have hnb7 := NB540_541.out; have hnc7 := NB541_540.out; obtain ⟨hcz8_0, hcz8_1, hcz8_2, hfz8_0, hfz8_1, hfz8_2⟩ := cz3 BK540.out) | (go_at_call 86; (with_reducible refine (spec_l02Copy.calls a0_0 _ _ l0_1 _ _ l0_2 t542 t543 t546 _ ?side1 ?side2 ?side3 ?side4 A4.out).mono ?_); (case side1 => exact cb (Kd.C_below HR0_1.out HB.out)); (case side2 => exact HC0_1.out); (case side3 => exact cb (Kd.C_below HR0_2.out HB.out)); (case side4 => exact HC0_2.out); rintro e w9 ⟨v544, v547, rfl, ho0, ho1, hb⟩; have HO545 := Aside0.mk (Kd.R_lower ho0 (below_size (bl HB.out))); have HO548 := Aside0.mk (Kd.R_lower ho1 (below_size (bl HB.out))); replace BK540 := Aside0.mk (bb BK540.out hb); replace BK541 := Aside0.mk (bb BK541.out hb); replace HB := Aside0.mk (below_step (bl HB.out) hb); (try clear hb); (try clear hb2); (try clear hk); (try clear hi); (try clear ho0); (try clear ho1)) | ((with_reducible refine gate_dst (N := 8) rfl ?_); refine bx (cs := #[.int .i64 0, .slice none 0 0, .slice none 0 0]) (t := 41) fun gb549 hg w10 hbox hb => ?_; replace HO545 := Aside0.mk (Kd.R_below (rk HO545.out) hb); replace HO548 := Aside0.mk (Kd.R_below (rk HO548.out) hb); have BK549 := Aside0.mk (hbox); have GW549 := Aside0.mk (gs HB.out hg); have GE549 := Aside0.mk (gs HB.out hg); replace HB := Aside0.mk (below_step (bl HB.out) hb); have NB540_549 := Aside0.mk ((nl BK540.out hg)); have NB549_540 := Aside0.mk ((ng BK540.out hg)); replace BK540 := Aside0.mk (bb BK540.out hb); have NB541_549 := Aside0.mk ((nl BK541.out hg)); have NB549_541 := Aside0.mk ((ng BK541.out hg)); replace BK541 := Aside0.mk (bb BK541.out hb); clear hb hbox hg; have hnb11 := NB549_540.out; have hnc11 := NB540_549.out; have hnb12 := NB549_541.out; have hnc12 := NB541_549.out; obtain ⟨hcz13_0, hcz13_1, hcz13_2, hfz13_0, hfz13_1, hfz13_2⟩ := cz3 BK549.out; obtain ⟨Ao14, co14, eo14⟩ := Kd.R_slice HO545.out; subst eo14; obtain ⟨Ao15, co15, eo15⟩ := Kd.R_slice HO548.out; subst eo15))
 repeat (go_quiet (first | ((with_reducible refine gate_dst (N := 3) rfl ?_); refine bx (cs := #[.int .i64 a0_0, .slice A0_1 l0_1.length c0_1, .slice A0_2 l0_2.length c0_2]) (t := 41) fun gb540 hg w5 hbox hb => ?_; have BK540 := Aside0.mk (hbox); have GW540 := Aside0.mk (gs HB.out hg); have GE540 := Aside0.mk (gs HB.out hg); replace HB := Aside0.mk (below_step (bl HB.out) hb); clear hb hbox hg) | ((with_reducible refine gate_dst (N := 6) rfl ?_); refine bx (cs := #[.int .i64 0, .slice none 0 0, .slice none 0 0]) (t := 41) fun gb541 hg w6 hbox hb => ?_; have BK541 := Aside0.mk (hbox); have GW541 := Aside0.mk (gs HB.out hg); have GE541 := Aside0.mk (gs HB.out hg); replace HB := Aside0.mk (below_step (bl HB.out) hb); have NB540_541 := Aside0.mk ((nl BK540.out hg)); have NB541_540 := Aside0.mk ((ng BK540.out hg)); replace BK540 := Aside0.mk (bb BK540.out hb); clear hb hbox hg; have hnb7 := NB540_541.out; have hnc7 := NB541_540.out; obtain ⟨hcz8_0, hcz8_1, hcz8_2, hfz8_0, hfz8_1, hfz8_2⟩ := cz3 BK540.out) | (go_at_call 86; (with_reducible refine (spec_l02Copy.calls a0_0 _ _ l0_1 _ _ l0_2 t542 t543 t546 _ ?side1 ?side2 ?side3 ?side4 A4.out).mono ?_); (case side1 => exact cb (Kd.C_below HR0_1.out HB.out)); (case side2 => exact HC0_1.out); (case side3 => exact cb (Kd.C_below HR0_2.out HB.out)); (case side4 => exact HC0_2.out); rintro e w9 ⟨v544, v547, rfl, ho0, ho1, hb⟩; have HO545 := Aside0.mk (Kd.R_lower ho0 (below_size (bl HB.out))); have HO548 := Aside0.mk (Kd.R_lower ho1 (below_size (bl HB.out))); replace BK540 := Aside0.mk (bb BK540.out hb); replace BK541 := Aside0.mk (bb BK541.out hb); replace HB := Aside0.mk (below_step (bl HB.out) hb); (try clear hb); (try clear hb2); (try clear hk); (try clear hi); (try clear ho0); (try clear ho1)) | ((with_reducible refine gate_dst (N := 8) rfl ?_); refine bx (cs := #[.int .i64 0, .slice none 0 0, .slice none 0 0]) (t := 41) fun gb549 hg w10 hbox hb => ?_; replace HO545 := Aside0.mk (Kd.R_below (rk HO545.out) hb); replace HO548 := Aside0.mk (Kd.R_below (rk HO548.out) hb); have BK549 := Aside0.mk (hbox); have GW549 := Aside0.mk (gs HB.out hg); have GE549 := Aside0.mk (gs HB.out hg); replace HB := Aside0.mk (below_step (bl HB.out) hb); have NB540_549 := Aside0.mk ((nl BK540.out hg)); have NB549_540 := Aside0.mk ((ng BK540.out hg)); replace BK540 := Aside0.mk (bb BK540.out hb); have NB541_549 := Aside0.mk ((nl BK541.out hg)); have NB549_541 := Aside0.mk ((ng BK541.out hg)); replace BK541 := Aside0.mk (bb BK541.out hb); clear hb hbox hg; have hnb11 := NB549_540.out; have hnc11 := NB540_549.out; have hnb12 := NB549_541.out; have hnc12 := NB541_549.out; obtain ⟨hcz13_0, hcz13_1, hcz13_2, hfz13_0, hfz13_1, hfz13_2⟩ := cz3 BK549.out; obtain ⟨Ao14, co14, eo14⟩ := Kd.R_slice HO545.out; subst eo14; obtain ⟨Ao15, co15, eo15⟩ := Kd.R_slice HO548.out; subst eo15)); try go_wp2_with (first | ((with_reducible refine gate_dst (N := 3) rfl ?_); refine bx (cs := #[.int .i64 a0_0, .slice A0_1 l0_1.length c0_1, .slice A0_2 l0_2.length c0_2]) (t := 41) fun gb540 hg w5 hbox hb => ?_; have BK540 := Aside0.mk (hbox); have GW540 := Aside0.mk (gs HB.out hg); have GE540 := Aside0.mk (gs HB.out hg); replace HB := Aside0.mk (below_step (bl HB.out) hb); clear hb hbox hg) | ((with_reducible refine gate_dst (N := 6) rfl ?_); refine bx (cs := #[.int .i64 0, .slice none 0 0, .slice none 0 0]) (t := 41) fun gb541 hg w6 hbox hb => ?_; have BK541 := Aside0.mk (hbox); have GW541 := Aside0.mk (gs HB.out hg); have GE541 := Aside0.mk (gs HB.out hg); replace HB := Aside0.mk (below_step (bl HB.out) hb); have NB540_541 := Aside0.mk ((nl BK540.out hg)); have NB541_540 := Aside0.mk ((ng BK540.out hg)); replace BK540 := Aside0.mk (bb BK540.out hb); clear hb hbox hg; have hnb7 := NB540_541.out; have hnc7 := NB541_540.out; obtain ⟨hcz8_0, hcz8_1, hcz8_2, hfz8_0, hfz8_1, hfz8_2⟩ := cz3 BK540.out) | (go_at_call 86; (with_reducible refine (spec_l02Copy.calls a0_0 _ _ l0_1 _ _ l0_2 t542 t543 t546 _ ?side1 ?side2 ?side3 ?side4 A4.out).mono ?_); (case side1 => exact cb (Kd.C_below HR0_1.out HB.out)); (case side2 => exact HC0_1.out); (case side3 => exact cb (Kd.C_below HR0_2.out HB.out)); (case side4 => exact HC0_2.out); rintro e w9 ⟨v544, v547, rfl, ho0, ho1, hb⟩; have HO545 := Aside0.mk (Kd.R_lower ho0 (below_size (bl HB.out))); have HO548 := Aside0.mk (Kd.R_lower ho1 (below_size (bl HB.out))); replace BK540 := Aside0.mk (bb BK540.out hb); replace BK541 := Aside0.mk (bb BK541.out hb); replace HB := Aside0.mk (below_step (bl HB.out) hb); (try clear hb); (try clear hb2); (try clear hk); (try clear hi); (try clear ho0); (try clear ho1)) | ((with_reducible refine gate_dst (N := 8) rfl ?_); refine bx (cs := #[.int .i64 0, .slice none 0 0, .slice none 0 0]) (t := 41) fun gb549 hg w10 hbox hb => ?_; replace HO545 := Aside0.mk (Kd.R_below (rk HO545.out) hb); replace HO548 := Aside0.mk (Kd.R_below (rk HO548.out) hb); have BK549 := Aside0.mk (hbox); have GW549 := Aside0.mk (gs HB.out hg); have GE549 := Aside0.mk (gs HB.out hg); replace HB := Aside0.mk (below_step (bl HB.out) hb); have NB540_549 := Aside0.mk ((nl BK540.out hg)); have NB549_540 := Aside0.mk ((ng BK540.out hg)); replace BK540 := Aside0.mk (bb BK540.out hb); have NB541_549 := Aside0.mk ((nl BK541.out hg)); have NB549_541 := Aside0.mk ((ng BK541.out hg)); replace BK541 := Aside0.mk (bb BK541.out hb); clear hb hbox hg; have hnb11 := NB549_540.out; have hnc11 := NB540_549.out; have hnb12 := NB549_541.out; have hnc12 := NB541_549.out; obtain ⟨hcz13_0, hcz13_1, hcz13_2, hfz13_0, hfz13_1, hfz13_2⟩ := cz3 BK549.out; obtain ⟨Ao14, co14, eo14⟩ := Kd.R_slice HO545.out; subst eo14; obtain ⟨Ao15, co15, eo15⟩ := Kd.R_slice HO548.out; subst eo15)))
 go_loopg [9] k (fun kq v9 w' => ∃ (x9_1 : Int) (x542000_1 : Int) (x550002_1 : List (S98)) (u550002 : Value), v9 = .int .i64 x9_1 ∧ Aside0 (spec_SetJam.l0 kq a1 a2 x9_1 a0_0 l0_1 l0_2 t542 t543 x550002_1 = some (r1, r2, r3, r4)) ∧ Aside0 (kq ≤ k) ∧ Aside0 (Kd.R (Kd.int .i64) 3 w' w.heap.size (fun _ => True) (.slice Ao14 t543.length co14) t543) ∧ Aside0 (Kd.R k98 98 w' w.heap.size (fun _ => True) u550002 x550002_1) ∧ Aside0 (w'.heap[gb540]? = some (.cells #[.int .i64 a0_0, (.slice A0_1 l0_1.length c0_1), (.slice A0_2 l0_2.length c0_2)] 41 (0, 0))) ∧ Aside0 (w'.heap[gb541]? = some (.cells #[.int .i64 x542000_1, (.slice none 0 0), (.slice none 0 0)] 41 (0, 0))) ∧ Aside0 (w'.heap[gb549]? = some (.cells #[.int .i64 t542, (.slice Ao14 t543.length co14), u550002] 41 (0, 0))) ∧ Aside0 (Below w.heap.size w w'))
 case atStart => exact ⟨(0), (0), (t546), (.slice Ao15 t546.length co15), (by first | rfl | (simp; done) | (simp [*]; done)), H', ⟨Nat.le_refl _⟩, ⟨by refine rk ?_; exact Kd.R_mono (Kd.R_far (p := ⟨gb549, 2, none⟩) (Kd.R_far (p := ⟨gb549, 1, none⟩) (Kd.R_far (p := ⟨gb549, 0, none⟩) (Kd.R_types HO545.out BK549.out (by decide)) (fun _ hk => hk.2) (.int .i64 t542)) (fun _ hk => hk.2) (.slice Ao14 t543.length co14)) (fun _ hk => hk.2) (.slice Ao15 t546.length co15)) (fun _ hk => trivial)⟩, ⟨by refine rk ?_; exact Kd.R_mono (Kd.R_far (p := ⟨gb549, 2, none⟩) (Kd.R_far (p := ⟨gb549, 1, none⟩) (Kd.R_far (p := ⟨gb549, 0, none⟩) (Kd.R_types HO548.out BK549.out (by decide)) (fun _ hk => hk.2) (.int .i64 t542)) (fun _ hk => hk.2) (.slice Ao14 t543.length co14)) (fun _ hk => hk.2) (.slice Ao15 t546.length co15)) (fun _ hk => trivial)⟩, ⟨by refine bk ?_; refine blk_far ?_ NB540_549.out _; refine bk ?_; refine blk_far ?_ NB540_549.out _; refine bk ?_; refine blk_far ?_ NB540_549.out _; refine bk ?_; exact BK540.out⟩, ⟨by refine bk ?_; refine blk_far ?_ NB541_549.out _; refine bk ?_; refine blk_far ?_ NB541_549.out _; refine bk ?_; refine blk_far ?_ NB541_549.out _; refine bk ?_; exact BK541.out⟩, ⟨by refine bk ?_; refine blk_put (cs := #[.int .i64 t542, .slice Ao14 t543.length co14, .slice none 0 0]) ?_ 2 _ rfl; refine bk ?_; refine blk_put (cs := #[.int .i64 t542, .slice none 0 0, .slice none 0 0]) ?_ 1 _ rfl; refine bk ?_; refine blk_put (cs := #[.int .i64 0, .slice none 0 0, .slice none 0 0]) ?_ 0 _ rfl; refine bk ?_; exact BK549.out⟩, ⟨bl HB.out⟩⟩
 case round =>
  clear H'
  try clear c1
  try clear p2
  try clear c7
  try clear c11
  try clear c12
  try clear hcz13_0
  try clear hcz13_1
  try clear hcz13_2
  try clear hcz8_0
  try clear hcz8_1
  try clear hcz8_2
  try clear hfz13_0
  try clear hfz13_1
  try clear hfz13_2
  try clear hfz8_0
  try clear hfz8_1
  try clear hfz8_2
  obtain ⟨x9_1, x542000_1, x550002_1, u550002, rfl, HA, HK1, HO_550001, HO_550002, BK540, BK541, BK549, HB⟩ := hrel
  cases gk with
  | zero => exact absurd HA.out (by simp [spec_SetJam.l0])
  | succ k1 =>
   have H := HA.out
   clear HA
   simp only [spec_SetJam.l0] at H
   have HC16 := Aside0.mk H
   clear H
   go_upto_region 3 with (fail)
   repeat (go_quiet (fail); go_upto_region 3 with (fail))
   go_cut [20] (fun v20 wc => ∃ (kq : Nat) (x20_15 : Bool), v20 = .bool x20_15 ∧ Aside0 (spec_SetJam.j1 kq a1 a2 x9_1 x20_15 a0_0 l0_1 l0_2 t542 t543 x550002_1 = some (r1, r2, r3, r4)) ∧ Aside0 (kq ≤ k1) ∧ Aside0 (Kd.R (Kd.int .i64) 3 wc w.heap.size (fun _ => True) (.slice Ao14 t543.length co14) t543) ∧ Aside0 (Kd.R k98 98 wc w.heap.size (fun _ => True) u550002 x550002_1) ∧ Aside0 (wc.heap[gb540]? = some (.cells #[.int .i64 a0_0, (.slice A0_1 l0_1.length c0_1), (.slice A0_2 l0_2.length c0_2)] 41 (0, 0))) ∧ Aside0 (wc.heap[gb541]? = some (.cells #[.int .i64 x542000_1, (.slice none 0 0), (.slice none 0 0)] 41 (0, 0))) ∧ Aside0 (wc.heap[gb549]? = some (.cells #[.int .i64 t542, (.slice Ao14 t543.length co14), u550002] 41 (0, 0))) ∧ Aside0 (Below w.heap.size w wc))
   case first =>
    have H := HC16.out
    clear HC16
    by_cases c17 : x9_1 < (l0_2.length : Int)
    ·rw [if_pos c17] at H
     have c17b0 : decide (x9_1 < (l0_2.length : Int)) = true := decide_eq_true c17
     clear c17
     (first | rw [c17b0] | (simp only [i64_w, i32_w]; rw [c17b0]) | skip)
     replace H := Option.bind_eq_some_iff.mp H
     obtain ⟨t550, A180, H⟩ := H
     try dsimp only at H
     have A18 := Aside0.mk A180
     clear A180
     have H' := Aside0.mk H
     clear H
     have hnb19 := NB540_541.out
     have hnc19 := NB541_540.out
     have hnb20 := NB540_549.out
     have hnc20 := NB549_540.out
     obtain ⟨hcz21_0, hcz21_1, hcz21_2, hfz21_0, hfz21_1, hfz21_2⟩ := cz3 BK540.out
     go_wp2_with (first | (go_at_call 91; (with_reducible refine (spec_ColumnOk.calls k1 a0_0 _ _ l0_1 _ _ l0_2 t550 _ ?side1 ?side2 ?side3 ?side4 A18.out).mono ?_); (case side1 => exact cb (Kd.C_below HR0_1.out HB.out)); (case side2 => exact HC0_1.out); (case side3 => exact cb (Kd.C_below HR0_2.out HB.out)); (case side4 => exact HC0_2.out); rintro e w22 ⟨rfl, hb⟩; replace HO_550001 := Aside0.mk (Kd.R_below (rk HO_550001.out) hb); replace HO_550002 := Aside0.mk (Kd.R_below (rk HO_550002.out) hb); replace BK540 := Aside0.mk (bb BK540.out hb); replace BK541 := Aside0.mk (bb BK541.out hb); replace BK549 := Aside0.mk (bb BK549.out hb); replace HB := Aside0.mk (below_step (bl HB.out) hb); (try clear hb); (try clear hb2); (try clear hk); (try clear hi)))
     repeat (go_quiet (first | (go_at_call 91; (with_reducible refine (spec_ColumnOk.calls k1 a0_0 _ _ l0_1 _ _ l0_2 t550 _ ?side1 ?side2 ?side3 ?side4 A18.out).mono ?_); (case side1 => exact cb (Kd.C_below HR0_1.out HB.out)); (case side2 => exact HC0_1.out); (case side3 => exact cb (Kd.C_below HR0_2.out HB.out)); (case side4 => exact HC0_2.out); rintro e w22 ⟨rfl, hb⟩; replace HO_550001 := Aside0.mk (Kd.R_below (rk HO_550001.out) hb); replace HO_550002 := Aside0.mk (Kd.R_below (rk HO_550002.out) hb); replace BK540 := Aside0.mk (bb BK540.out hb); replace BK541 := Aside0.mk (bb BK541.out hb); replace BK549 := Aside0.mk (bb BK549.out hb); replace HB := Aside0.mk (below_step (bl HB.out) hb); (try clear hb); (try clear hb2); (try clear hk); (try clear hi))); try go_wp2_with (first | (go_at_call 91; (with_reducible refine (spec_ColumnOk.calls k1 a0_0 _ _ l0_1 _ _ l0_2 t550 _ ?side1 ?side2 ?side3 ?side4 A18.out).mono ?_); (case side1 => exact cb (Kd.C_below HR0_1.out HB.out)); (case side2 => exact HC0_1.out); (case side3 => exact cb (Kd.C_below HR0_2.out HB.out)); (case side4 => exact HC0_2.out); rintro e w22 ⟨rfl, hb⟩; replace HO_550001 := Aside0.mk (Kd.R_below (rk HO_550001.out) hb); replace HO_550002 := Aside0.mk (Kd.R_below (rk HO_550002.out) hb); replace BK540 := Aside0.mk (bb BK540.out hb); replace BK541 := Aside0.mk (bb BK541.out hb); replace BK549 := Aside0.mk (bb BK549.out hb); replace HB := Aside0.mk (below_step (bl HB.out) hb); (try clear hb); (try clear hb2); (try clear hk); (try clear hi))))
     go_meet
     case rel => exact ⟨_, (t550), (by first | rfl | (simp; done) | (simp [*]; done)), H', ⟨by have := HK1.out; first | omega | exact Nat.le_refl _⟩, ⟨rk HO_550001.out⟩, ⟨rk HO_550002.out⟩, ⟨by refine bk ?_; exact BK540.out⟩, ⟨by refine bk ?_; exact BK541.out⟩, ⟨by refine bk ?_; exact BK549.out⟩, ⟨bl HB.out⟩⟩
    ·rw [if_neg c17] at H
     have c17b0 : decide (x9_1 < (l0_2.length : Int)) = false := decide_eq_false c17
     clear c17
     (first | rw [c17b0] | (simp only [i64_w, i32_w]; rw [c17b0]) | skip)
     have H' := Aside0.mk H
     clear H
     have hnb23 := NB540_541.out
     have hnc23 := NB541_540.out
     have hnb24 := NB540_549.out
     have hnc24 := NB549_540.out
     obtain ⟨hcz25_0, hcz25_1, hcz25_2, hfz25_0, hfz25_1, hfz25_2⟩ := cz3 BK540.out
     go_wp2
     repeat (go_quiet (fail); try go_wp2)
     go_meet
     case rel => exact ⟨_, (false), (by first | rfl | (simp; done) | (simp [*]; done)), H', ⟨by have := HK1.out; first | omega | exact Nat.le_refl _⟩, ⟨rk HO_550001.out⟩, ⟨rk HO_550002.out⟩, ⟨by refine bk ?_; exact BK540.out⟩, ⟨by refine bk ?_; exact BK541.out⟩, ⟨by refine bk ?_; exact BK549.out⟩, ⟨bl HB.out⟩⟩
   case rest =>
    clear HC16
    try clear c1
    try clear c2
    try clear p2
    try clear c7
    try clear c11
    try clear c12
    try clear c17
    try clear c17b0
    try clear c19
    try clear c20
    try clear c23
    try clear c24
    try clear hcz13_0
    try clear hcz13_1
    try clear hcz13_2
    try clear hcz21_0
    try clear hcz21_1
    try clear hcz21_2
    try clear hcz25_0
    try clear hcz25_1
    try clear hcz25_2
    try clear hcz8_0
    try clear hcz8_1
    try clear hcz8_2
    try clear hfz13_0
    try clear hfz13_1
    try clear hfz13_2
    try clear hfz21_0
    try clear hfz21_1
    try clear hfz21_2
    try clear hfz25_0
    try clear hfz25_1
    try clear hfz25_2
    try clear hfz8_0
    try clear hfz8_1
    try clear hfz8_2
    try clear p2
    obtain ⟨kq, x20_15, rfl, HA, HJ15, HO_550001, HO_550002, BK540, BK541, BK549, HB⟩ := hcut
    cases kq with
    | zero => exact absurd HA.out (by simp [spec_SetJam.j1])
    | succ kj15 =>
     have H := HA.out
     clear HA
     simp only [spec_SetJam.j1] at H
     by_cases c26 : x20_15 = true
     ·subst c26
      rw [if_pos rfl] at H
      by_cases c27 : 0 ≤ x9_1
      ·rw [if_pos c27] at H
       have c27b0 : decide (0 ≤ x9_1) = true := decide_eq_true c27
       clear c27
       by_cases c28 : x9_1 < (l0_2.length : Int)
       ·rw [if_pos c28] at H
        have c28b0 : decide (x9_1 < (l0_2.length : Int)) = true := decide_eq_true c28
        clear c28
        replace H := Option.bind_eq_some_iff.mp H
        obtain ⟨t554, A290, H⟩ := H
        try dsimp only at H
        have A29 := Aside0.mk A290
        clear A290
        by_cases c30 : t554 = true
        ·subst c30
         rw [if_pos rfl] at H
         by_cases c31 : x9_1 < (x550002_1.length : Int)
         ·rw [if_pos c31] at H
          have c31b0 : decide (x9_1 < (x550002_1.length : Int)) = true := decide_eq_true c31
          clear c31
          obtain ⟨y555, hy555⟩ : ∃ y_ : List (S98), y_ = (x550002_1.set (x9_1 : Int).toNat (⟨(rd_T98 x550002_1 x9_1).f0, (rd_T98 x550002_1 x9_1).f1, (rd_T98 x550002_1 x9_1).f2, a2⟩ : S98)) := ⟨_, rfl⟩
          replace H : (some (t542, t543, y555, true)) = some (r1, r2, r3, r4) := by first | (rw [hy555]; with_reducible exact H) | (have H2_ := (Option.bind_some _ _).symm.trans H; rw [hy555]; with_reducible exact H2_) | (have H2_ := (Option.bind_some _ _).symm.trans H; with_reducible exact H2_) | with_reducible exact H | (rw [hy555]; exact H) | exact H
          have Ny555 := Aside0.mk hy555
          clear hy555
          simp only [Option.some.injEq, Prod.mk.injEq] at H
          obtain ⟨rfl, rfl, rfl, rfl⟩ := H
          have hnb33 := NB540_541.out
          have hnc33 := NB541_540.out
          have hnb34 := NB540_549.out
          have hnc34 := NB549_540.out
          obtain ⟨hcz35_0, hcz35_1, hcz35_2, hfz35_0, hfz35_1, hfz35_2⟩ := cz3 BK540.out
          have p551 : 0 ≤ (x9_1 : Int) := of_decide_eq_true asm
          have q551 : x9_1 < (l0_2.length : Int) := of_decide_eq_true asm
          obtain ⟨ad551, e551, hx551_0, hx551_1, hx551_2, hx551_3⟩ := at_T98 HR0_2.out x9_1 p551 q551
          cases e551
          replace hx551_0 := (HB.out.cell (World.block_lt_of_cell? w _ hx551_0)).trans hx551_0
          replace hx551_1 := (HB.out.cell (World.block_lt_of_cell? w _ hx551_1)).trans hx551_1
          replace hx551_2 := (HB.out.cell (World.block_lt_of_cell? w _ hx551_2)).trans hx551_2
          replace hx551_3 := (HB.out.cell (World.block_lt_of_cell? w _ hx551_3)).trans hx551_3
          replace p551 := eq_true p551
          replace q551 := eq_true q551
          have p552 : 0 ≤ (x9_1 : Int) := of_decide_eq_true asm
          have q552 : x9_1 < (l0_2.length : Int) := of_decide_eq_true asm
          obtain ⟨ad552, e552, hx552_0, hx552_1, hx552_2, hx552_3⟩ := at_T98 HR0_2.out x9_1 p552 q552
          obtain rfl : ad551 = ad552 := (by injection e552)
          replace hx552_0 := (HB.out.cell (World.block_lt_of_cell? w _ hx552_0)).trans hx552_0
          replace hx552_1 := (HB.out.cell (World.block_lt_of_cell? w _ hx552_1)).trans hx552_1
          replace hx552_2 := (HB.out.cell (World.block_lt_of_cell? w _ hx552_2)).trans hx552_2
          replace hx552_3 := (HB.out.cell (World.block_lt_of_cell? w _ hx552_3)).trans hx552_3
          replace p552 := eq_true p552
          replace q552 := eq_true q552
          have p553 : 0 ≤ (x9_1 : Int) := of_decide_eq_true asm
          have q553 : x9_1 < (l0_2.length : Int) := of_decide_eq_true asm
          obtain ⟨ad553, e553, hx553_0, hx553_1, hx553_2, hx553_3⟩ := at_T98 HR0_2.out x9_1 p553 q553
          obtain rfl : ad551 = ad553 := (by injection e553)
          replace hx553_0 := (HB.out.cell (World.block_lt_of_cell? w _ hx553_0)).trans hx553_0
          replace hx553_1 := (HB.out.cell (World.block_lt_of_cell? w _ hx553_1)).trans hx553_1
          replace hx553_2 := (HB.out.cell (World.block_lt_of_cell? w _ hx553_2)).trans hx553_2
          replace hx553_3 := (HB.out.cell (World.block_lt_of_cell? w _ hx553_3)).trans hx553_3
          replace p553 := eq_true p553
          replace q553 := eq_true q553
          have hnb36 := NB549_541.out; have hnc36 := NB541_549.out; obtain ⟨hcz37_0, hcz37_1, hcz37_2, hfz37_0, hfz37_1, hfz37_2⟩ := cz3 BK549.out; have p32 : 0 ≤ (x9_1 : Int) := of_decide_eq_true asm; have q32 : (x9_1 : Int) < ((x550002_1.length : Int) : Int) := of_decide_eq_true asm; obtain ⟨go32, co32, eo32, gb32, gl32, cl32, HG32⟩ := Kd.R_form HO_550002.out (by omega); (first | cases eo32 | (injection eo32 with ea_ en_ ec_; (first | subst ea_ | (injection ea_ with ea_; subst ea_)); subst ec_; clear en_)); have GB32 := Aside0.mk gb32; have GG32 := Aside0.mk HG32; clear gb32 gl32 HG32; obtain ⟨ce32, hcl32, hM32, hcc32, hfr32⟩ := Kd.R_elem HO_550002.out z98 (x9_1 : Int) p32 q32; obtain rfl := k98_openM hM32; have hx32_0 : wc.cell? ⟨go32, (x9_1 : Int).toNat * 4, none⟩ = some (.int .i64 ((rd_T98 x550002_1 x9_1).f0)) := hcc32 0 _ rfl; have hx32_1 : wc.cell? ⟨go32, (x9_1 : Int).toNat * 4 + 1, none⟩ = some (.int .i64 ((rd_T98 x550002_1 x9_1).f1)) := hcc32 1 _ rfl; have hx32_2 : wc.cell? ⟨go32, (x9_1 : Int).toNat * 4 + 2, none⟩ = some (.int .i64 ((rd_T98 x550002_1 x9_1).f2)) := hcc32 2 _ rfl; have hx32_3 : wc.cell? ⟨go32, (x9_1 : Int).toNat * 4 + 3, none⟩ = some (.bool ((rd_T98 x550002_1 x9_1).f3)) := hcc32 3 _ rfl; have hf32_0 : wc.frozen? ⟨go32, (x9_1 : Int).toNat * 4, none⟩ = false := hfr32 0; have hf32_1 : wc.frozen? ⟨go32, (x9_1 : Int).toNat * 4 + 1, none⟩ = false := hfr32 1; have hf32_2 : wc.frozen? ⟨go32, (x9_1 : Int).toNat * 4 + 2, none⟩ = false := hfr32 2; have hf32_3 : wc.frozen? ⟨go32, (x9_1 : Int).toNat * 4 + 3, none⟩ = false := hfr32 3; clear hcl32 hcc32 hfr32 hM32; replace p32 := eq_true p32; replace q32 := eq_true q32; have HX38 := Aside0.mk (show Kd.R k98 98 wc w.heap.size (fun _ => True) (.slice (some ⟨go32, 0, none⟩) x550002_1.length co32) x550002_1 from (rk HO_550002.out)); obtain ⟨ce38, hcl38, hM38, hcc38, hfr38⟩ := Kd.R_elem HX38.out z98 (x9_1 : Int) (of_decide_eq_true asm) (by have h_ : (x9_1 : Int) < ((x550002_1.length : Int) : Int) := of_decide_eq_true asm; first | exact h_ | (have e_ := (Kd.R_reads' HO_550002.out).1; omega) | simpa using h_); obtain rfl := k98_openM hM38; have HP38 := Kd.R_seg HX38.out (x9_1 : Int) (of_decide_eq_true asm) (by have h_ : (x9_1 : Int) < ((x550002_1.length : Int) : Int) := of_decide_eq_true asm; first | exact h_ | (have e_ := (Kd.R_reads' HO_550002.out).1; omega) | simpa using h_) (seg := [.bool a2]) (j := 3) hcl38 hcc38 (show 4 ≤ 4 from by decide) (x' := (⟨(rd_T98 x550002_1 x9_1).f0, (rd_T98 x550002_1 x9_1).f1, (rd_T98 x550002_1 x9_1).f2, a2⟩ : S98)) (k98_mkM _ _ _ (⟨(rd_T98 x550002_1 x9_1).f0, (rd_T98 x550002_1 x9_1).f1, (rd_T98 x550002_1 x9_1).f2, a2⟩ : S98) ) (fun _ hk => hk); have hx38_3 := hcc38 3 _ rfl; (try simp only [show (k98).sz = 4 from rfl, Nat.mul_one, Nat.add_zero] at hx38_3); have hf38_3 := hfr38 3; (try simp only [show (k98).sz = 4 from rfl, Nat.mul_one, Nat.add_zero] at hf38_3); clear hcl38 hcc38 hfr38 hM38
          go_wp2_with (first | (go_at_call 84; (with_reducible refine (spec_l01In.calls a1 ((rd_T98 l0_2 x9_1).f0) (wrap64 ((wrap64 (((rd_T98 l0_2 x9_1).f0) + ((rd_T98 l0_2 x9_1).f1))) - 1)) true _ A29.out).mono ?_); rintro e w' ⟨rfl, ⟨nd, rfl⟩⟩; (try exact dd)) | ((with_reducible refine gate_store (t := 4) (p := 50) rfl ?_); (try (rw [drewN_self wc]; generalize hq_ : World.drewN wc _ = wc; replace HO_550001 := Aside0.mk (Kd.R_at hq_ HO_550001.out); replace HO_550002 := Aside0.mk (Kd.R_at hq_ HO_550002.out); replace BK540 := Aside0.mk (blk_at hq_ BK540.out); replace BK541 := Aside0.mk (blk_at hq_ BK541.out); replace BK549 := Aside0.mk (blk_at hq_ BK549.out); replace HB := Aside0.mk (below_at hq_ HB.out); clear hq_; (try (have HX38 := Aside0.mk (show Kd.R k98 98 wc w.heap.size (fun _ => True) (.slice (some ⟨go32, 0, none⟩) x550002_1.length co32) x550002_1 from (rk HO_550002.out)))); (try (obtain ⟨ce38, hcl38, hM38, hcc38, hfr38⟩ := Kd.R_elem HX38.out z98 (x9_1 : Int) (of_decide_eq_true asm) (by have h_ : (x9_1 : Int) < ((x550002_1.length : Int) : Int) := of_decide_eq_true asm; first | exact h_ | (have e_ := (Kd.R_reads' HO_550002.out).1; omega) | simpa using h_))); (try (obtain rfl := k98_openM hM38)); (try (have HP38 := Kd.R_seg HX38.out (x9_1 : Int) (of_decide_eq_true asm) (by have h_ : (x9_1 : Int) < ((x550002_1.length : Int) : Int) := of_decide_eq_true asm; first | exact h_ | (have e_ := (Kd.R_reads' HO_550002.out).1; omega) | simpa using h_) (seg := [.bool a2]) (j := 3) hcl38 hcc38 (show 4 ≤ 4 from by decide) (x' := (⟨(rd_T98 x550002_1 x9_1).f0, (rd_T98 x550002_1 x9_1).f1, (rd_T98 x550002_1 x9_1).f2, a2⟩ : S98)) (k98_mkM _ _ _ (⟨(rd_T98 x550002_1 x9_1).f0, (rd_T98 x550002_1 x9_1).f1, (rd_T98 x550002_1 x9_1).f2, a2⟩ : S98) ) (fun _ hk => hk))); (try (have hx38_3 := hcc38 3 _ rfl)); (try (try simp only [show (k98).sz = 4 from rfl, Nat.mul_one, Nat.add_zero] at hx38_3)); (try (have hf38_3 := hfr38 3)); (try (try simp only [show (k98).sz = 4 from rfl, Nat.mul_one, Nat.add_zero] at hf38_3)); (try (clear hcl38 hcc38 hfr38 hM38)))); refine store_event (t := 4) (p := 50) (v := ?vo_w39) (w1 := (wc.setCell ⟨go32, (x9_1 : Int).toNat * 4 + 3, none⟩ (.bool a2))) ?hg ?ho ?hn ?hr ?_; (case ho => rfl); (case hg => rfl); (case hn => rfl); (case hr => first | (go_simp; done) | (go_simp; rfl)); intro w39 hw; have hg : wc.grownBy w39 (some go32) := (by rw [hw]; exact HP38.2); have hp_ : Kd.R k98 98 w39 w.heap.size (fun _ => True) (.slice (some ⟨go32, 0, none⟩) x550002_1.length co32) y555 := (by rw [hw, Ny555.out]; exact HP38.1); clear HP38; replace HO_550001 := Aside0.mk (Kd.R_over' (v := (.slice (some ⟨go32, 0, none⟩) x550002_1.length co32)) (rk HO_550001.out) (Kd.R_typed HO_550002.out) (by decide) hg); replace BK540 := Aside0.mk (blk_grown (g := gb540) (o := .cells #[.int .i64 a0_0, .slice A0_1 l0_1.length c0_1, .slice (some ad551) l0_2.length c0_2] 41 (0, 0)) (bk BK540.out) hg (Kd.R_ne HO_550002.out BK540.out (by decide))); replace BK541 := Aside0.mk (blk_grown (g := gb541) (o := .cells #[.int .i64 x542000_1, .slice none 0 0, .slice none 0 0] 41 (0, 0)) (bk BK541.out) hg (Kd.R_ne HO_550002.out BK541.out (by decide))); replace BK549 := Aside0.mk (blk_grown (g := gb549) (o := .cells #[.int .i64 t542, .slice Ao14 t543.length co14, .slice (some ⟨go32, 0, none⟩) x550002_1.length co32] 41 (0, 0)) (bk BK549.out) hg (Kd.R_ne HO_550002.out BK549.out (by decide))); replace HO_550002 := Aside0.mk (hp_); replace HB := Aside0.mk ((by rw [hw]; exact below_set (HB.out) GB32.out : Below w.heap.size w w39)); clear hg hw hp_; obtain ⟨hcz40_0, hcz40_1, hcz40_2, hfz40_0, hfz40_1, hfz40_2⟩ := cz3 BK549.out; obtain ⟨hcz41_0, hcz41_1, hcz41_2, hfz41_0, hfz41_1, hfz41_2⟩ := cz3 BK541.out))
          repeat (go_quiet (first | (go_at_call 84; (with_reducible refine (spec_l01In.calls a1 ((rd_T98 l0_2 x9_1).f0) (wrap64 ((wrap64 (((rd_T98 l0_2 x9_1).f0) + ((rd_T98 l0_2 x9_1).f1))) - 1)) true _ A29.out).mono ?_); rintro e w' ⟨rfl, ⟨nd, rfl⟩⟩; (try exact dd)) | ((with_reducible refine gate_store (t := 4) (p := 50) rfl ?_); (try (rw [drewN_self wc]; generalize hq_ : World.drewN wc _ = wc; replace HO_550001 := Aside0.mk (Kd.R_at hq_ HO_550001.out); replace HO_550002 := Aside0.mk (Kd.R_at hq_ HO_550002.out); replace BK540 := Aside0.mk (blk_at hq_ BK540.out); replace BK541 := Aside0.mk (blk_at hq_ BK541.out); replace BK549 := Aside0.mk (blk_at hq_ BK549.out); replace HB := Aside0.mk (below_at hq_ HB.out); clear hq_; (try (have HX38 := Aside0.mk (show Kd.R k98 98 wc w.heap.size (fun _ => True) (.slice (some ⟨go32, 0, none⟩) x550002_1.length co32) x550002_1 from (rk HO_550002.out)))); (try (obtain ⟨ce38, hcl38, hM38, hcc38, hfr38⟩ := Kd.R_elem HX38.out z98 (x9_1 : Int) (of_decide_eq_true asm) (by have h_ : (x9_1 : Int) < ((x550002_1.length : Int) : Int) := of_decide_eq_true asm; first | exact h_ | (have e_ := (Kd.R_reads' HO_550002.out).1; omega) | simpa using h_))); (try (obtain rfl := k98_openM hM38)); (try (have HP38 := Kd.R_seg HX38.out (x9_1 : Int) (of_decide_eq_true asm) (by have h_ : (x9_1 : Int) < ((x550002_1.length : Int) : Int) := of_decide_eq_true asm; first | exact h_ | (have e_ := (Kd.R_reads' HO_550002.out).1; omega) | simpa using h_) (seg := [.bool a2]) (j := 3) hcl38 hcc38 (show 4 ≤ 4 from by decide) (x' := (⟨(rd_T98 x550002_1 x9_1).f0, (rd_T98 x550002_1 x9_1).f1, (rd_T98 x550002_1 x9_1).f2, a2⟩ : S98)) (k98_mkM _ _ _ (⟨(rd_T98 x550002_1 x9_1).f0, (rd_T98 x550002_1 x9_1).f1, (rd_T98 x550002_1 x9_1).f2, a2⟩ : S98) ) (fun _ hk => hk))); (try (have hx38_3 := hcc38 3 _ rfl)); (try (try simp only [show (k98).sz = 4 from rfl, Nat.mul_one, Nat.add_zero] at hx38_3)); (try (have hf38_3 := hfr38 3)); (try (try simp only [show (k98).sz = 4 from rfl, Nat.mul_one, Nat.add_zero] at hf38_3)); (try (clear hcl38 hcc38 hfr38 hM38)))); refine store_event (t := 4) (p := 50) (v := ?vo_w39) (w1 := (wc.setCell ⟨go32, (x9_1 : Int).toNat * 4 + 3, none⟩ (.bool a2))) ?hg ?ho ?hn ?hr ?_; (case ho => rfl); (case hg => rfl); (case hn => rfl); (case hr => first | (go_simp; done) | (go_simp; rfl)); intro w39 hw; have hg : wc.grownBy w39 (some go32) := (by rw [hw]; exact HP38.2); have hp_ : Kd.R k98 98 w39 w.heap.size (fun _ => True) (.slice (some ⟨go32, 0, none⟩) x550002_1.length co32) y555 := (by rw [hw, Ny555.out]; exact HP38.1); clear HP38; replace HO_550001 := Aside0.mk (Kd.R_over' (v := (.slice (some ⟨go32, 0, none⟩) x550002_1.length co32)) (rk HO_550001.out) (Kd.R_typed HO_550002.out) (by decide) hg); replace BK540 := Aside0.mk (blk_grown (g := gb540) (o := .cells #[.int .i64 a0_0, .slice A0_1 l0_1.length c0_1, .slice (some ad551) l0_2.length c0_2] 41 (0, 0)) (bk BK540.out) hg (Kd.R_ne HO_550002.out BK540.out (by decide))); replace BK541 := Aside0.mk (blk_grown (g := gb541) (o := .cells #[.int .i64 x542000_1, .slice none 0 0, .slice none 0 0] 41 (0, 0)) (bk BK541.out) hg (Kd.R_ne HO_550002.out BK541.out (by decide))); replace BK549 := Aside0.mk (blk_grown (g := gb549) (o := .cells #[.int .i64 t542, .slice Ao14 t543.length co14, .slice (some ⟨go32, 0, none⟩) x550002_1.length co32] 41 (0, 0)) (bk BK549.out) hg (Kd.R_ne HO_550002.out BK549.out (by decide))); replace HO_550002 := Aside0.mk (hp_); replace HB := Aside0.mk ((by rw [hw]; exact below_set (HB.out) GB32.out : Below w.heap.size w w39)); clear hg hw hp_; obtain ⟨hcz40_0, hcz40_1, hcz40_2, hfz40_0, hfz40_1, hfz40_2⟩ := cz3 BK549.out; obtain ⟨hcz41_0, hcz41_1, hcz41_2, hfz41_0, hfz41_1, hfz41_2⟩ := cz3 BK541.out)); try go_wp2_with (first | (go_at_call 84; (with_reducible refine (spec_l01In.calls a1 ((rd_T98 l0_2 x9_1).f0) (wrap64 ((wrap64 (((rd_T98 l0_2 x9_1).f0) + ((rd_T98 l0_2 x9_1).f1))) - 1)) true _ A29.out).mono ?_); rintro e w' ⟨rfl, ⟨nd, rfl⟩⟩; (try exact dd)) | ((with_reducible refine gate_store (t := 4) (p := 50) rfl ?_); (try (rw [drewN_self wc]; generalize hq_ : World.drewN wc _ = wc; replace HO_550001 := Aside0.mk (Kd.R_at hq_ HO_550001.out); replace HO_550002 := Aside0.mk (Kd.R_at hq_ HO_550002.out); replace BK540 := Aside0.mk (blk_at hq_ BK540.out); replace BK541 := Aside0.mk (blk_at hq_ BK541.out); replace BK549 := Aside0.mk (blk_at hq_ BK549.out); replace HB := Aside0.mk (below_at hq_ HB.out); clear hq_; (try (have HX38 := Aside0.mk (show Kd.R k98 98 wc w.heap.size (fun _ => True) (.slice (some ⟨go32, 0, none⟩) x550002_1.length co32) x550002_1 from (rk HO_550002.out)))); (try (obtain ⟨ce38, hcl38, hM38, hcc38, hfr38⟩ := Kd.R_elem HX38.out z98 (x9_1 : Int) (of_decide_eq_true asm) (by have h_ : (x9_1 : Int) < ((x550002_1.length : Int) : Int) := of_decide_eq_true asm; first | exact h_ | (have e_ := (Kd.R_reads' HO_550002.out).1; omega) | simpa using h_))); (try (obtain rfl := k98_openM hM38)); (try (have HP38 := Kd.R_seg HX38.out (x9_1 : Int) (of_decide_eq_true asm) (by have h_ : (x9_1 : Int) < ((x550002_1.length : Int) : Int) := of_decide_eq_true asm; first | exact h_ | (have e_ := (Kd.R_reads' HO_550002.out).1; omega) | simpa using h_) (seg := [.bool a2]) (j := 3) hcl38 hcc38 (show 4 ≤ 4 from by decide) (x' := (⟨(rd_T98 x550002_1 x9_1).f0, (rd_T98 x550002_1 x9_1).f1, (rd_T98 x550002_1 x9_1).f2, a2⟩ : S98)) (k98_mkM _ _ _ (⟨(rd_T98 x550002_1 x9_1).f0, (rd_T98 x550002_1 x9_1).f1, (rd_T98 x550002_1 x9_1).f2, a2⟩ : S98) ) (fun _ hk => hk))); (try (have hx38_3 := hcc38 3 _ rfl)); (try (try simp only [show (k98).sz = 4 from rfl, Nat.mul_one, Nat.add_zero] at hx38_3)); (try (have hf38_3 := hfr38 3)); (try (try simp only [show (k98).sz = 4 from rfl, Nat.mul_one, Nat.add_zero] at hf38_3)); (try (clear hcl38 hcc38 hfr38 hM38)))); refine store_event (t := 4) (p := 50) (v := ?vo_w39) (w1 := (wc.setCell ⟨go32, (x9_1 : Int).toNat * 4 + 3, none⟩ (.bool a2))) ?hg ?ho ?hn ?hr ?_; (case ho => rfl); (case hg => rfl); (case hn => rfl); (case hr => first | (go_simp; done) | (go_simp; rfl)); intro w39 hw; have hg : wc.grownBy w39 (some go32) := (by rw [hw]; exact HP38.2); have hp_ : Kd.R k98 98 w39 w.heap.size (fun _ => True) (.slice (some ⟨go32, 0, none⟩) x550002_1.length co32) y555 := (by rw [hw, Ny555.out]; exact HP38.1); clear HP38; replace HO_550001 := Aside0.mk (Kd.R_over' (v := (.slice (some ⟨go32, 0, none⟩) x550002_1.length co32)) (rk HO_550001.out) (Kd.R_typed HO_550002.out) (by decide) hg); replace BK540 := Aside0.mk (blk_grown (g := gb540) (o := .cells #[.int .i64 a0_0, .slice A0_1 l0_1.length c0_1, .slice (some ad551) l0_2.length c0_2] 41 (0, 0)) (bk BK540.out) hg (Kd.R_ne HO_550002.out BK540.out (by decide))); replace BK541 := Aside0.mk (blk_grown (g := gb541) (o := .cells #[.int .i64 x542000_1, .slice none 0 0, .slice none 0 0] 41 (0, 0)) (bk BK541.out) hg (Kd.R_ne HO_550002.out BK541.out (by decide))); replace BK549 := Aside0.mk (blk_grown (g := gb549) (o := .cells #[.int .i64 t542, .slice Ao14 t543.length co14, .slice (some ⟨go32, 0, none⟩) x550002_1.length co32] 41 (0, 0)) (bk BK549.out) hg (Kd.R_ne HO_550002.out BK549.out (by decide))); replace HO_550002 := Aside0.mk (hp_); replace HB := Aside0.mk ((by rw [hw]; exact below_set (HB.out) GB32.out : Below w.heap.size w w39)); clear hg hw hp_; obtain ⟨hcz40_0, hcz40_1, hcz40_2, hfz40_0, hfz40_1, hfz40_2⟩ := cz3 BK549.out; obtain ⟨hcz41_0, hcz41_1, hcz41_2, hfz41_0, hfz41_1, hfz41_2⟩ := cz3 BK541.out)))
          refine bodyPost_ret (results_ct rfl _ _ gb541 41 #[.int .i64 t542, .slice Ao14 t543.length co14, .slice (some ⟨go32, 0, none⟩) x550002_1.length co32] (0, 0) _ rfl (by refine bk ?_; refine blk_put (cs := #[.int .i64 t542, .slice Ao14 t543.length co14, .slice none 0 0]) ?_ 2 _ rfl; refine bk ?_; refine blk_put (cs := #[.int .i64 t542, .slice none 0 0, .slice none 0 0]) ?_ 1 _ rfl; refine bk ?_; refine blk_put (cs := #[.int .i64 x542000_1, .slice none 0 0, .slice none 0 0]) ?_ 0 _ rfl; refine bk ?_; exact BK541.out) Try.underlying41 rfl (by kernel_rfl)) rfl ?_
          exact ⟨_, _, by first | rfl | (simp [errW_none, errW_some] <;> rfl) | (simp [*, errW_none, errW_some] <;> rfl), by refine rk ?_; exact Kd.R_mono (Kd.R_far (p := ⟨gb541, 2, none⟩) (Kd.R_far (p := ⟨gb541, 1, none⟩) (Kd.R_far (p := ⟨gb541, 0, none⟩) (Kd.R_types HO_550001.out BK541.out (by decide)) (fun _ hk => hk.2) (.int .i64 t542)) (fun _ hk => hk.2) (.slice Ao14 t543.length co14)) (fun _ hk => hk.2) (.slice (some ⟨go32, 0, none⟩) x550002_1.length co32)) (fun _ hk => trivial), by refine rk ?_; exact Kd.R_mono (Kd.R_far (p := ⟨gb541, 2, none⟩) (Kd.R_far (p := ⟨gb541, 1, none⟩) (Kd.R_far (p := ⟨gb541, 0, none⟩) (Kd.R_types HO_550002.out BK541.out (by decide)) (fun _ hk => hk.2) (.int .i64 t542)) (fun _ hk => hk.2) (.slice Ao14 t543.length co14)) (fun _ hk => hk.2) (.slice (some ⟨go32, 0, none⟩) x550002_1.length co32)) (fun _ hk => trivial), bl HB.out⟩
         ·rw [if_neg c31] at H
          exact absurd H (by simp)
        ·replace c30 := Bool.eq_false_iff.mpr c30
         subst c30
         rw [if_neg (show ¬ (false = true) by decide)] at H
         have H' := Aside0.mk H
         clear H
         have hnb42 := NB540_541.out
         have hnc42 := NB541_540.out
         have hnb43 := NB540_549.out
         have hnc43 := NB549_540.out
         obtain ⟨hcz44_0, hcz44_1, hcz44_2, hfz44_0, hfz44_1, hfz44_2⟩ := cz3 BK540.out
         have p551 : 0 ≤ (x9_1 : Int) := of_decide_eq_true asm
         have q551 : x9_1 < (l0_2.length : Int) := of_decide_eq_true asm
         obtain ⟨ad551, e551, hx551_0, hx551_1, hx551_2, hx551_3⟩ := at_T98 HR0_2.out x9_1 p551 q551
         cases e551
         replace hx551_0 := (HB.out.cell (World.block_lt_of_cell? w _ hx551_0)).trans hx551_0
         replace hx551_1 := (HB.out.cell (World.block_lt_of_cell? w _ hx551_1)).trans hx551_1
         replace hx551_2 := (HB.out.cell (World.block_lt_of_cell? w _ hx551_2)).trans hx551_2
         replace hx551_3 := (HB.out.cell (World.block_lt_of_cell? w _ hx551_3)).trans hx551_3
         replace p551 := eq_true p551
         replace q551 := eq_true q551
         have p552 : 0 ≤ (x9_1 : Int) := of_decide_eq_true asm
         have q552 : x9_1 < (l0_2.length : Int) := of_decide_eq_true asm
         obtain ⟨ad552, e552, hx552_0, hx552_1, hx552_2, hx552_3⟩ := at_T98 HR0_2.out x9_1 p552 q552
         obtain rfl : ad551 = ad552 := (by injection e552)
         replace hx552_0 := (HB.out.cell (World.block_lt_of_cell? w _ hx552_0)).trans hx552_0
         replace hx552_1 := (HB.out.cell (World.block_lt_of_cell? w _ hx552_1)).trans hx552_1
         replace hx552_2 := (HB.out.cell (World.block_lt_of_cell? w _ hx552_2)).trans hx552_2
         replace hx552_3 := (HB.out.cell (World.block_lt_of_cell? w _ hx552_3)).trans hx552_3
         replace p552 := eq_true p552
         replace q552 := eq_true q552
         have p553 : 0 ≤ (x9_1 : Int) := of_decide_eq_true asm
         have q553 : x9_1 < (l0_2.length : Int) := of_decide_eq_true asm
         obtain ⟨ad553, e553, hx553_0, hx553_1, hx553_2, hx553_3⟩ := at_T98 HR0_2.out x9_1 p553 q553
         obtain rfl : ad551 = ad553 := (by injection e553)
         replace hx553_0 := (HB.out.cell (World.block_lt_of_cell? w _ hx553_0)).trans hx553_0
         replace hx553_1 := (HB.out.cell (World.block_lt_of_cell? w _ hx553_1)).trans hx553_1
         replace hx553_2 := (HB.out.cell (World.block_lt_of_cell? w _ hx553_2)).trans hx553_2
         replace hx553_3 := (HB.out.cell (World.block_lt_of_cell? w _ hx553_3)).trans hx553_3
         replace p553 := eq_true p553
         replace q553 := eq_true q553
         go_wp2_with (first | (go_at_call 84; (with_reducible refine (spec_l01In.calls a1 ((rd_T98 l0_2 x9_1).f0) (wrap64 ((wrap64 (((rd_T98 l0_2 x9_1).f0) + ((rd_T98 l0_2 x9_1).f1))) - 1)) false _ A29.out).mono ?_); rintro e w' ⟨rfl, ⟨nd, rfl⟩⟩; (try exact dd)))
         repeat (go_quiet (first | (go_at_call 84; (with_reducible refine (spec_l01In.calls a1 ((rd_T98 l0_2 x9_1).f0) (wrap64 ((wrap64 (((rd_T98 l0_2 x9_1).f0) + ((rd_T98 l0_2 x9_1).f1))) - 1)) false _ A29.out).mono ?_); rintro e w' ⟨rfl, ⟨nd, rfl⟩⟩; (try exact dd))); try go_wp2_with (first | (go_at_call 84; (with_reducible refine (spec_l01In.calls a1 ((rd_T98 l0_2 x9_1).f0) (wrap64 ((wrap64 (((rd_T98 l0_2 x9_1).f0) + ((rd_T98 l0_2 x9_1).f1))) - 1)) false _ A29.out).mono ?_); rintro e w' ⟨rfl, ⟨nd, rfl⟩⟩; (try exact dd))))
         go_roundg kj15
         case measure => have := HK1.out; have := HJ15.out; omega
         case rel => exact ⟨(wrap64 (x9_1 + 1)), (x542000_1), (x550002_1), (u550002), (by first | rfl | (simp; done) | (simp [*]; done)), H', ⟨by have := HK1.out; have := HJ15.out; omega⟩, ⟨rk HO_550001.out⟩, ⟨rk HO_550002.out⟩, ⟨by refine bk ?_; exact BK540.out⟩, ⟨by refine bk ?_; exact BK541.out⟩, ⟨by refine bk ?_; exact BK549.out⟩, ⟨bl HB.out⟩⟩
       ·rw [if_neg c28] at H
        exact absurd H (by simp)
      ·rw [if_neg c27] at H
       exact absurd H (by simp)
     ·replace c26 := Bool.eq_false_iff.mpr c26
      subst c26
      rw [if_neg (show ¬ (false = true) by decide)] at H
      simp only [Option.some.injEq, Prod.mk.injEq] at H
      obtain ⟨rfl, rfl, rfl, rfl⟩ := H
      have hnb45 := NB549_540.out
      have hnc45 := NB540_549.out
      have hnb46 := NB549_541.out
      have hnc46 := NB541_549.out
      obtain ⟨hcz47_0, hcz47_1, hcz47_2, hfz47_0, hfz47_1, hfz47_2⟩ := cz3 BK549.out
      have hnb48 := NB541_540.out
      have hnc48 := NB540_541.out
      obtain ⟨hcz49_0, hcz49_1, hcz49_2, hfz49_0, hfz49_1, hfz49_2⟩ := cz3 BK541.out
      obtain ⟨Ao50, co50, eo50⟩ := Kd.R_slice HO_550002.out
      subst eo50
      go_wp2
      repeat (go_quiet (fail); try go_wp2)
      refine bodyPost_ret (results_ct rfl _ _ gb541 41 #[.int .i64 t542, .slice Ao14 t543.length co14, .slice Ao50 x550002_1.length co50] (0, 0) _ rfl (by refine bk ?_; refine blk_put (cs := #[.int .i64 t542, .slice Ao14 t543.length co14, .slice none 0 0]) ?_ 2 _ rfl; refine bk ?_; refine blk_put (cs := #[.int .i64 t542, .slice none 0 0, .slice none 0 0]) ?_ 1 _ rfl; refine bk ?_; refine blk_put (cs := #[.int .i64 x542000_1, .slice none 0 0, .slice none 0 0]) ?_ 0 _ rfl; refine bk ?_; exact BK541.out) Try.underlying41 rfl (by kernel_rfl)) rfl ?_
      exact ⟨_, _, by first | rfl | (simp [errW_none, errW_some] <;> rfl) | (simp [*, errW_none, errW_some] <;> rfl), by refine rk ?_; exact Kd.R_mono (Kd.R_far (p := ⟨gb541, 2, none⟩) (Kd.R_far (p := ⟨gb541, 1, none⟩) (Kd.R_far (p := ⟨gb541, 0, none⟩) (Kd.R_types HO_550001.out BK541.out (by decide)) (fun _ hk => hk.2) (.int .i64 t542)) (fun _ hk => hk.2) (.slice Ao14 t543.length co14)) (fun _ hk => hk.2) (.slice Ao50 x550002_1.length co50)) (fun _ hk => trivial), by refine rk ?_; exact Kd.R_mono (Kd.R_far (p := ⟨gb541, 2, none⟩) (Kd.R_far (p := ⟨gb541, 1, none⟩) (Kd.R_far (p := ⟨gb541, 0, none⟩) (Kd.R_types HO_550002.out BK541.out (by decide)) (fun _ hk => hk.2) (.int .i64 t542)) (fun _ hk => hk.2) (.slice Ao14 t543.length co14)) (fun _ hk => hk.2) (.slice Ao50 x550002_1.length co50)) (fun _ hk => trivial), bl HB.out⟩
end Go.Proofs.Ytbpjidekjogfeaa.A
