/- Used by the law FnBoxes. -/
import Derived.Test.YtbpjidekjogfeaaZFnBoxesx16
import Derived.Test.YtbpjidekjogfeaaZFnBoxesx17
import Derived.Test.YtbpjidekjogfeaaZFnBoxesx18
import Derived.Test.YtbpjidekjogfeaaZFnBoxesh
namespace Go.Proofs.Ytbpjidekjogfeaa.A
open Go.RowKit Go.Proofs.YtbpjidekjogfeaaW.PrintWords Go.Proofs.YtbpjidekjogfeaaW.PrintLast Go.Proofs.YtbpjidekjogfeaaW.PrintMore
attribute [local go_sem] max2_int min2_int max_two min_two max_three min_three max_four min_four   
set_option linter.unusedVariables false
set_option linter.unusedSimpArgs false
def spec_TakeOut.f (k : Nat) (a0_0 : Int) (l0_1 : List Int) (l0_2 : List (S98)) (a1 : Int) : Option (Int × List Int × (List (S98)) × Bool) := (spec_l02Copy.f a0_0 l0_1 l0_2).bind fun bt321 => ((spec_l02Box.f k a0_0 l0_1 l0_2 a1).bind fun t329 => ((spec_ColumnOk.f k a0_0 l0_1 l0_2).bind fun t330 => (if t330 = true then (if t329 < 0 then (some (bt321.1, bt321.2.1, bt321.2.2, false)) else (if 0 ≤ t329 then (if t329 < (l0_2.length : Int) then (if (rd_T98 l0_2 t329).f3 = true then (some (bt321.1, bt321.2.1, bt321.2.2, false)) else (if t329 < (bt321.2.2.length : Int) then (some (bt321.1, bt321.2.1, (bt321.2.2.set (t329 : Int).toNat (⟨(rd_T98 bt321.2.2 t329).f0, (rd_T98 bt321.2.2 t329).f1, 0, (rd_T98 bt321.2.2 t329).f3⟩ : S98)), true)) else (none))) else (none)) else (none))) else (some (bt321.1, bt321.2.1, bt321.2.2, false)))))
set_option maxHeartbeats 8000000 in
set_option maxRecDepth 100000 in
theorem spec_TakeOut.calls (k : Nat) (a0_0 : Int) (A0_1 : Option Addr) (c0_1 : Nat) (l0_1 : List Int) (A0_2 : Option Addr) (c0_2 : Nat) (l0_2 : List (S98)) (a1 : Int) (r1 : Int) (r2 : List Int) (r3 : List (S98)) (r4 : Bool) (w : World) (hr0_1 : Kd.C (Kd.int .i64) w A0_1 l0_1.length l0_1) (hc0_1 : l0_1.length ≤ c0_1) (hr0_2 : Kd.C k98 w A0_2 l0_2.length l0_2) (hc0_2 : l0_2.length ≤ c0_2) (h : spec_TakeOut.f k a0_0 l0_1 l0_2 a1 = some (r1, r2, r3, r4)) :
  Calls Try.prog 71 #[.agg #[.int .i64 a0_0, .slice A0_1 l0_1.length c0_1, .slice A0_2 l0_2.length c0_2], .int .i64 a1] w fun e w' => ∃ v1_ v2_ : Value, e = .returned (.tuple #[.agg #[.int .i64 r1, v1_, v2_], .bool r4]) ∧ Kd.R (Kd.int .i64) 3 w' w.heap.size (fun _ => True) v1_ r2 ∧ Kd.R k98 98 w' w.heap.size (fun _ => True) v2_ r3 ∧ Below w.heap.size w w' := by
 have hu41 := Try.underlying41
 have HR0_1 := Aside0.mk hr0_1
 have HC0_1 := Aside0.mk hc0_1
 clear hr0_1 hc0_1
 have HR0_2 := Aside0.mk hr0_2
 have HC0_2 := Aside0.mk hc0_2
 clear hr0_2 hc0_2
 have HB := Aside0.mk (Below.refl w.heap.size w)
 have H : ((spec_l02Copy.f a0_0 l0_1 l0_2).bind fun bt321 => ((spec_l02Box.f k a0_0 l0_1 l0_2 a1).bind fun t329 => ((spec_ColumnOk.f k a0_0 l0_1 l0_2).bind fun t330 => (if t330 = true then (if t329 < 0 then (some (bt321.1, bt321.2.1, bt321.2.2, false)) else (if 0 ≤ t329 then (if t329 < (l0_2.length : Int) then (if (rd_T98 l0_2 t329).f3 = true then (some (bt321.1, bt321.2.1, bt321.2.2, false)) else (if t329 < (bt321.2.2.length : Int) then (some (bt321.1, bt321.2.1, (bt321.2.2.set (t329 : Int).toNat (⟨(rd_T98 bt321.2.2 t329).f0, (rd_T98 bt321.2.2 t329).f1, 0, (rd_T98 bt321.2.2 t329).f3⟩ : S98)), true)) else (none))) else (none)) else (none))) else (some (bt321.1, bt321.2.1, bt321.2.2, false)))))) = some (r1, r2, r3, r4) := h
 clear h
 replace H := Option.bind_eq_some_iff.mp H
 obtain ⟨⟨t321, t322, t325⟩, A30, H⟩ := H
 try dsimp only at H
 have A3 := Aside0.mk A30
 clear A30
 replace H := Option.bind_eq_some_iff.mp H
 obtain ⟨t329, A40, H⟩ := H
 try dsimp only at H
 have A4 := Aside0.mk A40
 clear A40
 replace H := Option.bind_eq_some_iff.mp H
 obtain ⟨t330, A50, H⟩ := H
 try dsimp only at H
 have A5 := Aside0.mk A50
 clear A50
 by_cases c6 : t330 = true
 focus
  subst c6
  rw [if_pos rfl] at H
  by_cases c7 : t329 < 0
  focus
   rw [if_pos c7] at H
   have c7b0 : decide (t329 < 0) = true := decide_eq_true c7
   clear c7
   simp only [Option.some.injEq, Prod.mk.injEq] at H
   obtain ⟨rfl, rfl, rfl, rfl⟩ := H
  rotate_left
  focus
   rw [if_neg c7] at H
   have c7b0 : decide (t329 < 0) = false := decide_eq_false c7
   clear c7
   by_cases c25 : 0 ≤ t329
   focus
    rw [if_pos c25] at H
    have c25b0 : decide (0 ≤ t329) = true := decide_eq_true c25
    clear c25
    by_cases c26 : t329 < (l0_2.length : Int)
    focus
     rw [if_pos c26] at H
     have c26b0 : decide (t329 < (l0_2.length : Int)) = true := decide_eq_true c26
     clear c26
     obtain ⟨bq27, hbq27⟩ : ∃ b_ : Bool, b_ = ((rd_T98 l0_2 t329).f3) := ⟨_, rfl⟩
     replace H : (if bq27 = true then (some (t321, t322, t325, false)) else (if t329 < (t325.length : Int) then (some (t321, t322, (t325.set (t329 : Int).toNat (⟨(rd_T98 t325 t329).f0, (rd_T98 t325 t329).f1, 0, (rd_T98 t325 t329).f3⟩ : S98)), true)) else (none))) = some (r1, r2, r3, r4) := by rw [← hbq27] at H; exact H
     have Nbq27 := Aside0.mk hbq27
     clear hbq27
     by_cases c28 : bq27 = true
     focus
      subst c28
      rw [if_pos rfl] at H
      simp only [Option.some.injEq, Prod.mk.injEq] at H
      obtain ⟨rfl, rfl, rfl, rfl⟩ := H
     rotate_left
     focus
      replace c28 := Bool.eq_false_iff.mpr c28
      subst c28
      rw [if_neg (show ¬ (false = true) by decide)] at H
      by_cases c47 : t329 < (t325.length : Int)
      focus
       rw [if_pos c47] at H
       have c47b0 : decide (t329 < (t325.length : Int)) = true := decide_eq_true c47
       clear c47
       obtain ⟨y332, hy332⟩ : ∃ y_ : List (S98), y_ = (t325.set (t329 : Int).toNat (⟨(rd_T98 t325 t329).f0, (rd_T98 t325 t329).f1, 0, (rd_T98 t325 t329).f3⟩ : S98)) := ⟨_, rfl⟩
       replace H : (some (t321, t322, y332, true)) = some (r1, r2, r3, r4) := by first | (rw [hy332]; with_reducible exact H) | (have H2_ := (Option.bind_some _ _).symm.trans H; rw [hy332]; with_reducible exact H2_) | (have H2_ := (Option.bind_some _ _).symm.trans H; with_reducible exact H2_) | with_reducible exact H | (rw [hy332]; exact H) | exact H
       have Ny332 := Aside0.mk hy332
       clear hy332
       simp only [Option.some.injEq, Prod.mk.injEq] at H
       obtain ⟨rfl, rfl, rfl, rfl⟩ := H
      rotate_left
      ·rw [if_neg c47] at H
       exact absurd H (by simp)
     rotate_left
    rotate_left 2
    ·rw [if_neg c26] at H
     exact absurd H (by simp)
   rotate_left 2
   ·rw [if_neg c25] at H
    exact absurd H (by simp)
  rotate_left 2
 rotate_left 3
 focus
  replace c6 := Bool.eq_false_iff.mpr c6
  subst c6
  rw [if_neg (show ¬ (false = true) by decide)] at H
  simp only [Option.some.injEq, Prod.mk.injEq] at H
  obtain ⟨rfl, rfl, rfl, rfl⟩ := H
 rotate_left
 all_goals go_enter Try.func71, Try.ntmps71
 all_goals go_wp2_with (first | ((with_reducible refine gate_dst (N := 2) rfl ?_); refine bx (cs := #[.int .i64 a0_0, .slice A0_1 l0_1.length c0_1, .slice A0_2 l0_2.length c0_2]) (t := 41) fun gb319 hg w8 hbox hb => ?_; have BK319 := Aside0.mk (hbox); have GW319 := Aside0.mk (gs HB.out hg); have GE319 := Aside0.mk (gs HB.out hg); replace HB := Aside0.mk (below_step (bl HB.out) hb); clear hb hbox hg) | ((with_reducible refine gate_dst (N := 4) rfl ?_); refine bx (cs := #[.int .i64 0, .slice none 0 0, .slice none 0 0]) (t := 41) fun gb320 hg w9 hbox hb => ?_; have BK320 := Aside0.mk (hbox); have GW320 := Aside0.mk (gs HB.out hg); have GE320 := Aside0.mk (gs HB.out hg); replace HB := Aside0.mk (below_step (bl HB.out) hb); have NB319_320 := Aside0.mk ((nl BK319.out hg)); have NB320_319 := Aside0.mk ((ng BK319.out hg)); replace BK319 := Aside0.mk (bb BK319.out hb); clear hb hbox hg; have hnb10 := NB319_320.out; have hnc10 := NB320_319.out; obtain ⟨hcz11_0, hcz11_1, hcz11_2, hfz11_0, hfz11_1, hfz11_2⟩ := cz3 BK319.out) | ((with_reducible refine gate_callee (f := 86) rfl ?_); refine goesL_ (some 9) rfl rfl Try.func86 (by kernel_rfl) rfl #[.agg #[.int .i64 a0_0, .slice A0_1 l0_1.length c0_1, .slice A0_2 l0_2.length c0_2]] rfl mapd ?_; (with_reducible refine (spec_l02Copy.calls a0_0 _ _ l0_1 _ _ l0_2 t321 t322 t325 _ ?side1 ?side2 ?side3 ?side4 A3.out).mono ?_); (case side1 => exact cb (Kd.C_below HR0_1.out HB.out)); (case side2 => exact HC0_1.out); (case side3 => exact cb (Kd.C_below HR0_2.out HB.out)); (case side4 => exact HC0_2.out); rintro e w12 ⟨v323, v326, rfl, ho0, ho1, hb⟩; refine ⟨_, rfl, ?_⟩; have HO324 := Aside0.mk (Kd.R_lower ho0 (below_size (bl HB.out))); have HO327 := Aside0.mk (Kd.R_lower ho1 (below_size (bl HB.out))); replace BK319 := Aside0.mk (bb BK319.out hb); replace BK320 := Aside0.mk (bb BK320.out hb); replace HB := Aside0.mk (below_step (bl HB.out) hb); (try clear hb); (try clear hb2); (try clear hk); (try clear hi); (try clear ho0); (try clear ho1)) | ((with_reducible refine gate_dst (N := 6) rfl ?_); refine bx (cs := #[.int .i64 0, .slice none 0 0, .slice none 0 0]) (t := 41) fun gb328 hg w13 hbox hb => ?_; replace HO324 := Aside0.mk (Kd.R_below (rk HO324.out) hb); replace HO327 := Aside0.mk (Kd.R_below (rk HO327.out) hb); have BK328 := Aside0.mk (hbox); have GW328 := Aside0.mk (gs HB.out hg); have GE328 := Aside0.mk (gs HB.out hg); replace HB := Aside0.mk (below_step (bl HB.out) hb); have NB319_328 := Aside0.mk ((nl BK319.out hg)); have NB328_319 := Aside0.mk ((ng BK319.out hg)); replace BK319 := Aside0.mk (bb BK319.out hb); have NB320_328 := Aside0.mk ((nl BK320.out hg)); have NB328_320 := Aside0.mk ((ng BK320.out hg)); replace BK320 := Aside0.mk (bb BK320.out hb); clear hb hbox hg; have hnb14 := NB328_319.out; have hnc14 := NB319_328.out; have hnb15 := NB328_320.out; have hnc15 := NB320_328.out; obtain ⟨hcz16_0, hcz16_1, hcz16_2, hfz16_0, hfz16_1, hfz16_2⟩ := cz3 BK328.out; obtain ⟨Ao17, co17, eo17⟩ := Kd.R_slice HO324.out; subst eo17; obtain ⟨Ao18, co18, eo18⟩ := Kd.R_slice HO327.out; subst eo18; obtain ⟨hcz19_0, hcz19_1, hcz19_2, hfz19_0, hfz19_1, hfz19_2⟩ := cz3 BK319.out) | ((with_reducible refine gate_callee (f := 85) rfl ?_); refine goesL_ (some 12) rfl rfl Try.func85 (by kernel_rfl) rfl #[.agg #[.int .i64 a0_0, .slice A0_1 l0_1.length c0_1, .slice A0_2 l0_2.length c0_2], .int .i64 a1] rfl mapd ?_; (with_reducible refine (spec_l02Box.calls k a0_0 _ _ l0_1 _ _ l0_2 a1 t329 _ ?side1 ?side2 ?side3 ?side4 A4.out).mono ?_); (case side1 => exact Kd.C_below HR0_1.out (bl HB.out)); (case side2 => exact HC0_1.out); (case side3 => exact Kd.C_below HR0_2.out (bl HB.out)); (case side4 => exact HC0_2.out); rintro e w20 ⟨rfl, hb⟩; refine ⟨_, rfl, ?_⟩; replace HO324 := Aside0.mk (Kd.R_below (by refine rk ?_; exact (Kd.R_mono (Kd.R_far (p := ⟨gb328, 2, none⟩) (Kd.R_far (p := ⟨gb328, 1, none⟩) (Kd.R_far (p := ⟨gb328, 0, none⟩) (Kd.R_types HO324.out BK328.out (by decide)) (fun _ hk => hk.2) (.int .i64 t321)) (fun _ hk => hk.2) (.slice Ao17 t322.length co17)) (fun _ hk => hk.2) (.slice Ao18 t325.length co18)) (fun _ h_ => h_.1))) hb); replace HO327 := Aside0.mk (Kd.R_below (by refine rk ?_; exact (Kd.R_mono (Kd.R_far (p := ⟨gb328, 2, none⟩) (Kd.R_far (p := ⟨gb328, 1, none⟩) (Kd.R_far (p := ⟨gb328, 0, none⟩) (Kd.R_types HO327.out BK328.out (by decide)) (fun _ hk => hk.2) (.int .i64 t321)) (fun _ hk => hk.2) (.slice Ao17 t322.length co17)) (fun _ hk => hk.2) (.slice Ao18 t325.length co18)) (fun _ h_ => h_.1))) hb); replace BK319 := Aside0.mk (blk_below (g := gb319) (o := .cells #[.int .i64 a0_0, .slice A0_1 l0_1.length c0_1, .slice A0_2 l0_2.length c0_2] 41 (0, 0)) (bf BK319.out) hb); replace BK320 := Aside0.mk (blk_below (g := gb320) (o := .cells #[.int .i64 0, .slice none 0 0, .slice none 0 0] 41 (0, 0)) (bf BK320.out) hb); replace BK328 := Aside0.mk (blk_below (g := gb328) (o := .cells #[.int .i64 t321, .slice Ao17 t322.length co17, .slice Ao18 t325.length co18] 41 (0, 0)) (by refine bk ?_; refine blk_put (cs := #[.int .i64 t321, .slice Ao17 t322.length co17, .slice none 0 0]) ?_ 2 _ rfl; refine bk ?_; refine blk_put (cs := #[.int .i64 t321, .slice none 0 0, .slice none 0 0]) ?_ 1 _ rfl; refine bk ?_; refine blk_put (cs := #[.int .i64 0, .slice none 0 0, .slice none 0 0]) ?_ 0 _ rfl; refine bk ?_; exact BK328.out) hb); replace HB := Aside0.mk (below_step (bl HB.out) hb); (try clear hb); (try clear hb2); (try clear hk); (try clear hi); obtain ⟨hcz21_0, hcz21_1, hcz21_2, hfz21_0, hfz21_1, hfz21_2⟩ := cz3 BK319.out) | ((with_reducible refine gate_callee (f := 91) rfl ?_); refine goesL_ (some 14) rfl rfl Try.func91 (by kernel_rfl) rfl #[.agg #[.int .i64 a0_0, .slice A0_1 l0_1.length c0_1, .slice A0_2 l0_2.length c0_2]] rfl mapd ?_; (with_reducible refine (spec_ColumnOk.calls k a0_0 _ _ l0_1 _ _ l0_2 false _ ?side1 ?side2 ?side3 ?side4 A5.out).mono ?_); (case side1 => exact cb (Kd.C_below HR0_1.out HB.out)); (case side2 => exact HC0_1.out); (case side3 => exact cb (Kd.C_below HR0_2.out HB.out)); (case side4 => exact HC0_2.out); rintro e w84 ⟨rfl, hb⟩; refine ⟨_, rfl, ?_⟩; replace HO324 := Aside0.mk (Kd.R_below (rk HO324.out) hb); replace HO327 := Aside0.mk (Kd.R_below (rk HO327.out) hb); replace BK319 := Aside0.mk (bb BK319.out hb); replace BK320 := Aside0.mk (bb BK320.out hb); replace BK328 := Aside0.mk (bb BK328.out hb); replace HB := Aside0.mk (below_step (bl HB.out) hb); (try clear hb); (try clear hb2); (try clear hk); (try clear hi); obtain ⟨hcz85_0, hcz85_1, hcz85_2, hfz85_0, hfz85_1, hfz85_2⟩ := cz3 BK328.out; obtain ⟨hcz86_0, hcz86_1, hcz86_2, hfz86_0, hfz86_1, hfz86_2⟩ := cz3 BK320.out) | ((with_reducible refine gate_callee (f := 91) rfl ?_); refine goesL_ (some 14) rfl rfl Try.func91 (by kernel_rfl) rfl #[.agg #[.int .i64 a0_0, .slice A0_1 l0_1.length c0_1, .slice A0_2 l0_2.length c0_2]] rfl mapd ?_; (with_reducible refine (spec_ColumnOk.calls k a0_0 _ _ l0_1 _ _ l0_2 true _ ?side1 ?side2 ?side3 ?side4 A5.out).mono ?_); (case side1 => exact cb (Kd.C_below HR0_1.out HB.out)); (case side2 => exact HC0_1.out); (case side3 => exact cb (Kd.C_below HR0_2.out HB.out)); (case side4 => exact HC0_2.out); rintro e w63 ⟨rfl, hb⟩; refine ⟨_, rfl, ?_⟩; replace HO324 := Aside0.mk (Kd.R_below (rk HO324.out) hb); replace HO327 := Aside0.mk (Kd.R_below (rk HO327.out) hb); replace BK319 := Aside0.mk (bb BK319.out hb); replace BK320 := Aside0.mk (bb BK320.out hb); replace BK328 := Aside0.mk (bb BK328.out hb); replace HB := Aside0.mk (below_step (bl HB.out) hb); (try clear hb); (try clear hb2); (try clear hk); (try clear hi); obtain ⟨hcz64_0, hcz64_1, hcz64_2, hfz64_0, hfz64_1, hfz64_2⟩ := cz3 BK319.out; have p331 : 0 ≤ (t329 : Int) := of_decide_eq_true asm; have q331 : t329 < (l0_2.length : Int) := of_decide_eq_true asm; obtain ⟨ad331, e331, hx331_0, hx331_1, hx331_2, hx331_3⟩ := at_T98 HR0_2.out t329 p331 q331; (try rw [← Nbq27.out] at hx331_3); cases e331; replace hx331_0 := (HB.out.cell (World.block_lt_of_cell? w _ hx331_0)).trans hx331_0; replace hx331_1 := (HB.out.cell (World.block_lt_of_cell? w _ hx331_1)).trans hx331_1; replace hx331_2 := (HB.out.cell (World.block_lt_of_cell? w _ hx331_2)).trans hx331_2; replace hx331_3 := (HB.out.cell (World.block_lt_of_cell? w _ hx331_3)).trans hx331_3; replace p331 := eq_true p331; replace q331 := eq_true q331; obtain ⟨hcz65_0, hcz65_1, hcz65_2, hfz65_0, hfz65_1, hfz65_2⟩ := cz3 BK328.out; have p48 : 0 ≤ (t329 : Int) := of_decide_eq_true asm; have q48 : (t329 : Int) < ((t325.length : Int) : Int) := of_decide_eq_true asm; obtain ⟨go48, co48, eo48, gb48, gl48, cl48, HG48⟩ := Kd.R_form HO327.out (by omega); (first | cases eo48 | (injection eo48 with ea_ en_ ec_; (first | subst ea_ | (injection ea_ with ea_; subst ea_)); subst ec_; clear en_)); have GB48 := Aside0.mk gb48; have GG48 := Aside0.mk HG48; clear gb48 gl48 HG48; obtain ⟨ce48, hcl48, hM48, hcc48, hfr48⟩ := Kd.R_elem HO327.out z98 (t329 : Int) p48 q48; obtain rfl := k98_openM hM48; have hx48_0 : w63.cell? ⟨go48, (t329 : Int).toNat * 4, none⟩ = some (.int .i64 ((rd_T98 t325 t329).f0)) := hcc48 0 _ rfl; have hx48_1 : w63.cell? ⟨go48, (t329 : Int).toNat * 4 + 1, none⟩ = some (.int .i64 ((rd_T98 t325 t329).f1)) := hcc48 1 _ rfl; have hx48_2 : w63.cell? ⟨go48, (t329 : Int).toNat * 4 + 2, none⟩ = some (.int .i64 ((rd_T98 t325 t329).f2)) := hcc48 2 _ rfl; have hx48_3 : w63.cell? ⟨go48, (t329 : Int).toNat * 4 + 3, none⟩ = some (.bool ((rd_T98 t325 t329).f3)) := hcc48 3 _ rfl; have hf48_0 : w63.frozen? ⟨go48, (t329 : Int).toNat * 4, none⟩ = false := hfr48 0; have hf48_1 : w63.frozen? ⟨go48, (t329 : Int).toNat * 4 + 1, none⟩ = false := hfr48 1; have hf48_2 : w63.frozen? ⟨go48, (t329 : Int).toNat * 4 + 2, none⟩ = false := hfr48 2; have hf48_3 : w63.frozen? ⟨go48, (t329 : Int).toNat * 4 + 3, none⟩ = false := hfr48 3; clear hcl48 hcc48 hfr48 hM48; replace p48 := eq_true p48; replace q48 := eq_true q48; have HX66 := Aside0.mk (show Kd.R k98 98 w63 w.heap.size (fun _ => True) (.slice (some ⟨go48, 0, none⟩) t325.length co18) t325 from (rk HO327.out)); obtain ⟨ce66, hcl66, hM66, hcc66, hfr66⟩ := Kd.R_elem HX66.out z98 (t329 : Int) (of_decide_eq_true asm) (by have h_ : (t329 : Int) < ((t325.length : Int) : Int) := of_decide_eq_true asm; first | exact h_ | (have e_ := (Kd.R_reads' HO327.out).1; omega) | simpa using h_); obtain rfl := k98_openM hM66; have HP66 := Kd.R_seg HX66.out (t329 : Int) (of_decide_eq_true asm) (by have h_ : (t329 : Int) < ((t325.length : Int) : Int) := of_decide_eq_true asm; first | exact h_ | (have e_ := (Kd.R_reads' HO327.out).1; omega) | simpa using h_) (seg := [.int .i64 0]) (j := 2) hcl66 hcc66 (show 3 ≤ 4 from by decide) (x' := (⟨(rd_T98 t325 t329).f0, (rd_T98 t325 t329).f1, 0, (rd_T98 t325 t329).f3⟩ : S98)) (k98_mkM _ _ _ (⟨(rd_T98 t325 t329).f0, (rd_T98 t325 t329).f1, 0, (rd_T98 t325 t329).f3⟩ : S98) ) (fun _ hk => hk); have hx66_2 := hcc66 2 _ rfl; (try simp only [show (k98).sz = 4 from rfl, Nat.mul_one, Nat.add_zero] at hx66_2); have hf66_2 := hfr66 2; (try simp only [show (k98).sz = 4 from rfl, Nat.mul_one, Nat.add_zero] at hf66_2); clear hcl66 hcc66 hfr66 hM66) | ((with_reducible refine gate_store (t := 3) (p := 33) rfl ?_); refine store_event (t := 3) (p := 33) (v := ?vo_w67) (w1 := (w63.setCell ⟨go48, (t329 : Int).toNat * 4 + 2, none⟩ (.int .i64 0))) ?hg ?ho ?hn ?hr ?_; (case ho => rfl); (case hg => rfl); (case hn => rfl); (case hr => first | (go_simp; done) | (go_simp; rfl)); intro w67 hw; have hg : w63.grownBy w67 (some go48) := (by rw [hw]; exact HP66.2); have hp_ : Kd.R k98 98 w67 w.heap.size (fun _ => True) (.slice (some ⟨go48, 0, none⟩) t325.length co18) y332 := (by rw [hw, Ny332.out]; exact HP66.1); clear HP66; replace BK319 := Aside0.mk (blk_grown (g := gb319) (o := .cells #[.int .i64 a0_0, .slice A0_1 l0_1.length c0_1, .slice (some ad331) l0_2.length c0_2] 41 (0, 0)) (bk BK319.out) hg (Kd.R_ne HO327.out BK319.out (by decide))); replace BK320 := Aside0.mk (blk_grown (g := gb320) (o := .cells #[.int .i64 0, .slice none 0 0, .slice none 0 0] 41 (0, 0)) (bk BK320.out) hg (Kd.R_ne HO327.out BK320.out (by decide))); replace HO324 := Aside0.mk (Kd.R_over' (v := (.slice (some ⟨go48, 0, none⟩) t325.length co18)) (rk HO324.out) (Kd.R_typed HO327.out) (by decide) hg); replace BK328 := Aside0.mk (blk_grown (g := gb328) (o := .cells #[.int .i64 t321, .slice Ao17 t322.length co17, .slice (some ⟨go48, 0, none⟩) t325.length co18] 41 (0, 0)) (bk BK328.out) hg (Kd.R_ne HO327.out BK328.out (by decide))); replace HO327 := Aside0.mk (hp_); replace HB := Aside0.mk ((by rw [hw]; exact below_set (HB.out) GB48.out : Below w.heap.size w w67)); clear hg hw hp_; obtain ⟨hcz68_0, hcz68_1, hcz68_2, hfz68_0, hfz68_1, hfz68_2⟩ := cz3 BK328.out; obtain ⟨hcz69_0, hcz69_1, hcz69_2, hfz69_0, hfz69_1, hfz69_2⟩ := cz3 BK320.out) | ((with_reducible refine gate_callee (f := 91) rfl ?_); refine goesL_ (some 14) rfl rfl Try.func91 (by kernel_rfl) rfl #[.agg #[.int .i64 a0_0, .slice A0_1 l0_1.length c0_1, .slice A0_2 l0_2.length c0_2]] rfl mapd ?_; (with_reducible refine (spec_ColumnOk.calls k a0_0 _ _ l0_1 _ _ l0_2 true _ ?side1 ?side2 ?side3 ?side4 A5.out).mono ?_); (case side1 => exact cb (Kd.C_below HR0_1.out HB.out)); (case side2 => exact HC0_1.out); (case side3 => exact cb (Kd.C_below HR0_2.out HB.out)); (case side4 => exact HC0_2.out); rintro e w43 ⟨rfl, hb⟩; refine ⟨_, rfl, ?_⟩; replace HO324 := Aside0.mk (Kd.R_below (rk HO324.out) hb); replace HO327 := Aside0.mk (Kd.R_below (rk HO327.out) hb); replace BK319 := Aside0.mk (bb BK319.out hb); replace BK320 := Aside0.mk (bb BK320.out hb); replace BK328 := Aside0.mk (bb BK328.out hb); replace HB := Aside0.mk (below_step (bl HB.out) hb); (try clear hb); (try clear hb2); (try clear hk); (try clear hi); obtain ⟨hcz44_0, hcz44_1, hcz44_2, hfz44_0, hfz44_1, hfz44_2⟩ := cz3 BK319.out; have p331 : 0 ≤ (t329 : Int) := of_decide_eq_true asm; have q331 : t329 < (l0_2.length : Int) := of_decide_eq_true asm; obtain ⟨ad331, e331, hx331_0, hx331_1, hx331_2, hx331_3⟩ := at_T98 HR0_2.out t329 p331 q331; (try rw [← Nbq27.out] at hx331_3); cases e331; replace hx331_0 := (HB.out.cell (World.block_lt_of_cell? w _ hx331_0)).trans hx331_0; replace hx331_1 := (HB.out.cell (World.block_lt_of_cell? w _ hx331_1)).trans hx331_1; replace hx331_2 := (HB.out.cell (World.block_lt_of_cell? w _ hx331_2)).trans hx331_2; replace hx331_3 := (HB.out.cell (World.block_lt_of_cell? w _ hx331_3)).trans hx331_3; replace p331 := eq_true p331; replace q331 := eq_true q331; obtain ⟨hcz45_0, hcz45_1, hcz45_2, hfz45_0, hfz45_1, hfz45_2⟩ := cz3 BK328.out; obtain ⟨hcz46_0, hcz46_1, hcz46_2, hfz46_0, hfz46_1, hfz46_2⟩ := cz3 BK320.out) | ((with_reducible refine gate_callee (f := 91) rfl ?_); refine goesL_ (some 14) rfl rfl Try.func91 (by kernel_rfl) rfl #[.agg #[.int .i64 a0_0, .slice A0_1 l0_1.length c0_1, .slice A0_2 l0_2.length c0_2]] rfl mapd ?_; (with_reducible refine (spec_ColumnOk.calls k a0_0 _ _ l0_1 _ _ l0_2 true _ ?side1 ?side2 ?side3 ?side4 A5.out).mono ?_); (case side1 => exact cb (Kd.C_below HR0_1.out HB.out)); (case side2 => exact HC0_1.out); (case side3 => exact cb (Kd.C_below HR0_2.out HB.out)); (case side4 => exact HC0_2.out); rintro e w22 ⟨rfl, hb⟩; refine ⟨_, rfl, ?_⟩; replace HO324 := Aside0.mk (Kd.R_below (rk HO324.out) hb); replace HO327 := Aside0.mk (Kd.R_below (rk HO327.out) hb); replace BK319 := Aside0.mk (bb BK319.out hb); replace BK320 := Aside0.mk (bb BK320.out hb); replace BK328 := Aside0.mk (bb BK328.out hb); replace HB := Aside0.mk (below_step (bl HB.out) hb); (try clear hb); (try clear hb2); (try clear hk); (try clear hi); obtain ⟨hcz23_0, hcz23_1, hcz23_2, hfz23_0, hfz23_1, hfz23_2⟩ := cz3 BK328.out; obtain ⟨hcz24_0, hcz24_1, hcz24_2, hfz24_0, hfz24_1, hfz24_2⟩ := cz3 BK320.out))
 ·refine bodyPost_ret (results_ct rfl _ _ gb320 41 #[.int .i64 t321, .slice Ao17 t322.length co17, .slice Ao18 t325.length co18] (0, 0) _ rfl (by refine bk ?_; refine blk_put (cs := #[.int .i64 t321, .slice Ao17 t322.length co17, .slice none 0 0]) ?_ 2 _ rfl; refine bk ?_; refine blk_put (cs := #[.int .i64 t321, .slice none 0 0, .slice none 0 0]) ?_ 1 _ rfl; refine bk ?_; refine blk_put (cs := #[.int .i64 0, .slice none 0 0, .slice none 0 0]) ?_ 0 _ rfl; refine bk ?_; exact BK320.out) Try.underlying41 rfl (by kernel_rfl)) rfl ?_
  exact ⟨_, _, by first | rfl | (simp [errW_none, errW_some] <;> rfl) | (simp [*, errW_none, errW_some] <;> rfl), by refine rk ?_; exact Kd.R_mono (Kd.R_far (p := ⟨gb320, 2, none⟩) (Kd.R_far (p := ⟨gb320, 1, none⟩) (Kd.R_far (p := ⟨gb320, 0, none⟩) (Kd.R_types HO324.out BK320.out (by decide)) (fun _ hk => hk.2) (.int .i64 t321)) (fun _ hk => hk.2) (.slice Ao17 t322.length co17)) (fun _ hk => hk.2) (.slice Ao18 t325.length co18)) (fun _ hk => trivial), by refine rk ?_; exact Kd.R_mono (Kd.R_far (p := ⟨gb320, 2, none⟩) (Kd.R_far (p := ⟨gb320, 1, none⟩) (Kd.R_far (p := ⟨gb320, 0, none⟩) (Kd.R_types HO327.out BK320.out (by decide)) (fun _ hk => hk.2) (.int .i64 t321)) (fun _ hk => hk.2) (.slice Ao17 t322.length co17)) (fun _ hk => hk.2) (.slice Ao18 t325.length co18)) (fun _ hk => trivial), bl HB.out⟩
 ·refine bodyPost_ret (results_ct rfl _ _ gb320 41 #[.int .i64 t321, .slice Ao17 t322.length co17, .slice Ao18 t325.length co18] (0, 0) _ rfl (by refine bk ?_; refine blk_put (cs := #[.int .i64 t321, .slice Ao17 t322.length co17, .slice none 0 0]) ?_ 2 _ rfl; refine bk ?_; refine blk_put (cs := #[.int .i64 t321, .slice none 0 0, .slice none 0 0]) ?_ 1 _ rfl; refine bk ?_; refine blk_put (cs := #[.int .i64 0, .slice none 0 0, .slice none 0 0]) ?_ 0 _ rfl; refine bk ?_; exact BK320.out) Try.underlying41 rfl (by kernel_rfl)) rfl ?_
  exact ⟨_, _, by first | rfl | (simp [errW_none, errW_some] <;> rfl) | (simp [*, errW_none, errW_some] <;> rfl), by refine rk ?_; exact Kd.R_mono (Kd.R_far (p := ⟨gb320, 2, none⟩) (Kd.R_far (p := ⟨gb320, 1, none⟩) (Kd.R_far (p := ⟨gb320, 0, none⟩) (Kd.R_types HO324.out BK320.out (by decide)) (fun _ hk => hk.2) (.int .i64 t321)) (fun _ hk => hk.2) (.slice Ao17 t322.length co17)) (fun _ hk => hk.2) (.slice Ao18 t325.length co18)) (fun _ hk => trivial), by refine rk ?_; exact Kd.R_mono (Kd.R_far (p := ⟨gb320, 2, none⟩) (Kd.R_far (p := ⟨gb320, 1, none⟩) (Kd.R_far (p := ⟨gb320, 0, none⟩) (Kd.R_types HO327.out BK320.out (by decide)) (fun _ hk => hk.2) (.int .i64 t321)) (fun _ hk => hk.2) (.slice Ao17 t322.length co17)) (fun _ hk => hk.2) (.slice Ao18 t325.length co18)) (fun _ hk => trivial), bl HB.out⟩
 ·refine bodyPost_ret (results_ct rfl _ _ gb320 41 #[.int .i64 t321, .slice Ao17 t322.length co17, .slice (some ⟨go48, 0, none⟩) t325.length co18] (0, 0) _ rfl (by refine bk ?_; refine blk_put (cs := #[.int .i64 t321, .slice Ao17 t322.length co17, .slice none 0 0]) ?_ 2 _ rfl; refine bk ?_; refine blk_put (cs := #[.int .i64 t321, .slice none 0 0, .slice none 0 0]) ?_ 1 _ rfl; refine bk ?_; refine blk_put (cs := #[.int .i64 0, .slice none 0 0, .slice none 0 0]) ?_ 0 _ rfl; refine bk ?_; exact BK320.out) Try.underlying41 rfl (by kernel_rfl)) rfl ?_
  exact ⟨_, _, by first | rfl | (simp [errW_none, errW_some] <;> rfl) | (simp [*, errW_none, errW_some] <;> rfl), by refine rk ?_; exact Kd.R_mono (Kd.R_far (p := ⟨gb320, 2, none⟩) (Kd.R_far (p := ⟨gb320, 1, none⟩) (Kd.R_far (p := ⟨gb320, 0, none⟩) (Kd.R_types HO324.out BK320.out (by decide)) (fun _ hk => hk.2) (.int .i64 t321)) (fun _ hk => hk.2) (.slice Ao17 t322.length co17)) (fun _ hk => hk.2) (.slice (some ⟨go48, 0, none⟩) t325.length co18)) (fun _ hk => trivial), by refine rk ?_; exact Kd.R_mono (Kd.R_far (p := ⟨gb320, 2, none⟩) (Kd.R_far (p := ⟨gb320, 1, none⟩) (Kd.R_far (p := ⟨gb320, 0, none⟩) (Kd.R_types HO327.out BK320.out (by decide)) (fun _ hk => hk.2) (.int .i64 t321)) (fun _ hk => hk.2) (.slice Ao17 t322.length co17)) (fun _ hk => hk.2) (.slice (some ⟨go48, 0, none⟩) t325.length co18)) (fun _ hk => trivial), bl HB.out⟩
 ·refine bodyPost_ret (results_ct rfl _ _ gb320 41 #[.int .i64 t321, .slice Ao17 t322.length co17, .slice Ao18 t325.length co18] (0, 0) _ rfl (by refine bk ?_; refine blk_put (cs := #[.int .i64 t321, .slice Ao17 t322.length co17, .slice none 0 0]) ?_ 2 _ rfl; refine bk ?_; refine blk_put (cs := #[.int .i64 t321, .slice none 0 0, .slice none 0 0]) ?_ 1 _ rfl; refine bk ?_; refine blk_put (cs := #[.int .i64 0, .slice none 0 0, .slice none 0 0]) ?_ 0 _ rfl; refine bk ?_; exact BK320.out) Try.underlying41 rfl (by kernel_rfl)) rfl ?_
  exact ⟨_, _, by first | rfl | (simp [errW_none, errW_some] <;> rfl) | (simp [*, errW_none, errW_some] <;> rfl), by refine rk ?_; exact Kd.R_mono (Kd.R_far (p := ⟨gb320, 2, none⟩) (Kd.R_far (p := ⟨gb320, 1, none⟩) (Kd.R_far (p := ⟨gb320, 0, none⟩) (Kd.R_types HO324.out BK320.out (by decide)) (fun _ hk => hk.2) (.int .i64 t321)) (fun _ hk => hk.2) (.slice Ao17 t322.length co17)) (fun _ hk => hk.2) (.slice Ao18 t325.length co18)) (fun _ hk => trivial), by refine rk ?_; exact Kd.R_mono (Kd.R_far (p := ⟨gb320, 2, none⟩) (Kd.R_far (p := ⟨gb320, 1, none⟩) (Kd.R_far (p := ⟨gb320, 0, none⟩) (Kd.R_types HO327.out BK320.out (by decide)) (fun _ hk => hk.2) (.int .i64 t321)) (fun _ hk => hk.2) (.slice Ao17 t322.length co17)) (fun _ hk => hk.2) (.slice Ao18 t325.length co18)) (fun _ hk => trivial), bl HB.out⟩

theorem getD_at_ {α : Type} {l : List α} {i : Nat} (d : α) (h : i < l.length) : l.getD i d = l[i] := by
 rw [List.getD_eq_getElem?_getD, List.getElem?_eq_getElem h]; rfl
def idxP : List S98 → Int → Int → Int
 | [], _, _ => -1
 | b :: bs, p, i => if b.f2 = p then i else idxP bs p (i + 1)
set_option maxHeartbeats 8000000 in
set_option maxRecDepth 100000 in
theorem boxAt_is (b0 b1 b2 : Int) (b3 : Bool) (g : Nat) (p : Int) (w : World) (hc : w.cell? ⟨g, 0, none⟩ = some (.int .i64 p)) :
  Calls Try.prog 115 #[.agg #[.int .i64 b0, .int .i64 b1, .int .i64 b2, .bool b3], .pointer (some ⟨g, 0, none⟩)] w fun e w' => e = .returned (.bool (b2 == p)) ∧ Below w.heap.size w w' := by
 have hg : g < w.heap.size := World.block_lt_of_cell? w _ hc
 have hc' := fun o => (World.cell?_alloc_lt w o ⟨g, 0, none⟩ hg).trans hc
 have huB := Try.underlying98
 go_enter Try.func115, Try.ntmps115
 go_wp2
 go_ret
 exact ⟨rfl, by repeat (first | exact Below.refl _ _ | apply below_alloc | apply pw_below_drewN | apply below_drew1)⟩
set_option maxHeartbeats 8000000 in
set_option maxRecDepth 100000 in
theorem boxAt_index (A : Option Addr) (c : Nat) (l : List S98) (g : Nat) (p : Int) (w : World) (hr : Kd.C k98 w A l.length l) (hcell : w.cell? ⟨g, 0, none⟩ = some (.int .i64 p)) :
  Calls Try.prog 114 #[.slice A l.length c, .func (.func 115) #[] #[.pointer (some ⟨g, 0, none⟩)]] w fun e w' => e = .returned (.int .i64 (idxP l p 0)) ∧ Below w.heap.size w w' := by
 have hL : l.length ≤ 9223372036854775807 := hr.2.1
 have huB := Try.underlying98
 have HR := Aside0.mk hr
 clear hr
 have HL := Aside0.mk hL
 clear hL
 go_enter Try.func114, Try.ntmps114
 go_wp2
 go_loopw [8] (fun v8 wr => ∃ i : Int, v8 = .int .i64 i ∧ Aside0 (0 ≤ i ∧ i ≤ l.length) ∧ Aside0 (idxP l p 0 = idxP (l.drop i.toNat) p i) ∧ Aside0 (Below w.heap.size w wr)) (fun v8 _ => l.length - (intOf v8).toNat)
 case atStart => exact ⟨0, rfl, ⟨by omega⟩, ⟨rfl⟩, ⟨Below.refl _ _⟩⟩
 case round =>
  obtain ⟨i, rfl, hk, hi, HB⟩ := hrel
  have hcw := (HB.out.cell (World.block_lt_of_cell? w _ hcell)).trans hcell
  by_cases hlt : i < (l.length : Int)
  ·obtain ⟨ad, e1, h0, h1, h2, h3⟩ := at_T98 HR.out i hk.out.1 hlt
   subst e1
   replace h0 := (HB.out.cell (World.block_lt_of_cell? w _ h0)).trans h0
   replace h1 := (HB.out.cell (World.block_lt_of_cell? w _ h1)).trans h1
   replace h2 := (HB.out.cell (World.block_lt_of_cell? w _ h2)).trans h2
   replace h3 := (HB.out.cell (World.block_lt_of_cell? w _ h3)).trans h3
   have q0 := eq_true hk.out.1
   have q1 := eq_true hlt
   have hltb : decide (i < (l.length : Int)) = true := decide_eq_true hlt
   have hdrop : Aside0 (l.drop i.toNat = rd_T98 l i :: l.drop (i.toNat + 1)) := ⟨by
    have hn : i.toNat < l.length := by have := hk.out.1; omega
    rw [List.drop_eq_getElem_cons hn]
    unfold rd_T98
    rw [getD_at_ _ hn]⟩
   have hwr : Aside0 (wrap64 (i + 1) = i + 1) := ⟨by have := hk.out; have := HL.out; unfold wrap64; omega⟩
   have hlt2 := Aside0.mk hlt
   clear hlt
   by_cases hb : (rd_T98 l i).f2 = p
   ·have hbb : ((rd_T98 l i).f2 == p) = true := by simpa using hb
    have hres : Aside0 (idxP l p 0 = i) := ⟨by rw [hi.out, hdrop.out]; simp only [idxP]; rw [if_pos hb]⟩
    clear hb hi hdrop
    go_wp2_with (go_at_call 115; refine (boxAt_is _ _ _ _ g p _ hcw).mono ?_; rintro e w' ⟨rfl, hb1⟩)
    go_ret
    exact ⟨by rw [hres.out]; rfl, below_step HB.out hb1⟩
   ·have hbb : ((rd_T98 l i).f2 == p) = false := by simpa using hb
    have hres : Aside0 (idxP l p 0 = idxP (l.drop (i + 1).toNat) p (i + 1)) := ⟨by
     rw [hi.out, hdrop.out]; simp only [idxP]; rw [if_neg hb]
     congr 2
     have := hk.out.1
     omega⟩
    clear hb hi hdrop
    go_wp2_with (go_at_call 115; refine (boxAt_is _ _ _ _ g p _ hcw).mono ?_; rintro e w' ⟨rfl, hb1⟩)
    go_roundw
    case rel => exact ⟨i + 1, by rw [hwr.out], ⟨by have := hk.out; have := hlt2.out; omega⟩, hres, ⟨below_step HB.out hb1⟩⟩
    case measure =>
     have := hk.out; have := hlt2.out
     rw [hwr.out]
     simp [intOf]
     omega
  ·have hltb : decide (i < (l.length : Int)) = false := decide_eq_false hlt
   have hres : Aside0 (idxP l p 0 = -1) := ⟨by
    have := hk.out
    rw [hi.out, List.drop_eq_nil_of_le (by omega)]; rfl⟩
   clear hlt hi
   go_wp2
   go_ret
   exact ⟨by rw [hres.out]; rfl, HB.out⟩
theorem cell_new2 (w : World) (O : Obj) (v : Value) (t : TypeId) : ((w.alloc O).alloc (.cells #[v] t)).cell? ⟨w.heap.size + 1, 0, none⟩ = some v := by
 have h := (MapKept.heap_alloc (w.alloc O) (.cells #[v] t)).1
 have hs : (w.alloc O).heap.size = w.heap.size + 1 := Array.size_push _
 rw [hs] at h
 exact blk_cell h 0
def impl_boxAt.f (a0_0 : Int) (l0_1 : List Int) (l0_2 : List (S98)) (a1 : Int) : Option (Int) := some (idxP l0_2 a1 0)
set_option maxHeartbeats 8000000 in
set_option maxRecDepth 100000 in
theorem impl_boxAt.calls (a0_0 : Int) (A0_1 : Option Addr) (c0_1 : Nat) (l0_1 : List Int) (A0_2 : Option Addr) (c0_2 : Nat) (l0_2 : List (S98)) (a1 : Int) (r : Int) (w : World) (hr0_1 : Kd.C (Kd.int .i64) w A0_1 l0_1.length l0_1) (hc0_1 : l0_1.length ≤ c0_1) (hr0_2 : Kd.C k98 w A0_2 l0_2.length l0_2) (hc0_2 : l0_2.length ≤ c0_2) (h : impl_boxAt.f a0_0 l0_1 l0_2 a1 = some r) :
  Calls Try.prog 80 #[.agg #[.int .i64 a0_0, .slice A0_1 l0_1.length c0_1, .slice A0_2 l0_2.length c0_2], .int .i64 a1] w fun e w' => e = .returned (.int .i64 r) ∧ Below w.heap.size w w' := by
 obtain rfl := Option.some.inj h
 have HR := Aside0.mk hr0_2
 clear h hr0_1 hr0_2 hc0_1 hc0_2
 have huC := Try.underlying41
 go_enter Try.func80, Try.ntmps80
 go_wp2_with (go_at_call 114; refine (boxAt_index _ _ l0_2 (w.heap.size + 1) a1 _ (Kd.C_alloc (Kd.C_alloc HR.out _) _) (cell_new2 w _ _ _)).mono ?_; rintro e w' ⟨rfl, hb1⟩)
 go_ret
 exact ⟨rfl, below_step (below_alloc (below_alloc (Below.refl _ _) _) _) hb1⟩
end Go.Proofs.Ytbpjidekjogfeaa.A

namespace Go.Proofs.Ytbpjidekjogfeaa.A
open Go.RowKit Go.Proofs.YtbpjidekjogfeaaW.PrintWords Go.Proofs.YtbpjidekjogfeaaW.PrintLast Go.Proofs.YtbpjidekjogfeaaW.PrintMore
attribute [local go_sem] max2_int min2_int max_two min_two max_three min_three max_four min_four   
set_option linter.unusedVariables false
set_option linter.unusedSimpArgs false
def slices_Clone_int_int.f (l0 : List Int) : Option (List Int) := (some (([] : List Int) : List Int)).bind fun y349 => (if y349.length + l0.length < 17592186044416 then (some (y349 ++ l0)) else (none))
set_option maxHeartbeats 8000000 in
set_option maxRecDepth 100000 in
theorem slices_Clone_int_int.calls (A0 : Option Addr) (c0 : Nat) (l0 : List Int) (r : List Int) (w : World) (hr0 : Kd.C (Kd.int .i64) w A0 l0.length l0) (hc0 : l0.length ≤ c0) (h : slices_Clone_int_int.f l0 = some r) :
  Calls Try.prog 116 #[.slice A0 l0.length c0] w fun e w' => ∃ v0_ : Value, e = .returned (v0_) ∧ Kd.R (Kd.int .i64) 3 w' w.heap.size (fun _ => True) v0_ r ∧ Below w.heap.size w w' := by
 have heq_ := fun W => Go.Lib.run_eql_slice_nil (P := Try.prog) W 38 3 A0 l0.length c0 0 0 Try.underlying38
 by_cases hA_ : A0.isNone = true
 ·obtain rfl : A0 = none := by simpa using hA_
  obtain rfl : l0 = [] := by
   rcases l0 with _ | ⟨x, xs⟩
   ·rfl
   ·obtain ⟨ad, e, _⟩ := hr0.2.2 (by simp)
    cases e
  obtain rfl : r = [] := by
   have h2 := h
   simp [slices_Clone_int_int.f] at h2
   first | exact h2 | exact h2.symm
  clear hA_ h hr0 heq_
  have heq_ := fun W => Go.Lib.run_eql_slice_nil (P := Try.prog) W 38 3 none 0 c0 0 0 Try.underlying38
  show Calls _ _ #[.slice none 0 c0] w _
  go_enter Try.func116, Try.ntmps116
  go_wp2
  go_ret
  exact ⟨_, rfl, Kd.R_nil _ _ _ _ _, Below.refl _ _⟩
 replace hA_ : A0.isNone = false := Bool.eq_false_iff.mpr hA_
 have HR0 := Aside0.mk hr0
 have HC0 := Aside0.mk hc0
 clear hr0 hc0
 have HB := Aside0.mk (Below.refl w.heap.size w)
 have H : ((some (([] : List Int) : List Int)).bind fun y349 => (if y349.length + l0.length < 17592186044416 then (some (y349 ++ l0)) else (none))) = some r := h
 clear h
 obtain ⟨y349, hy349⟩ : ∃ y_ : List Int, y_ = (([] : List Int)) := ⟨_, rfl⟩
 replace H : (if y349.length + l0.length < 17592186044416 then (some (y349 ++ l0)) else (none)) = some r := by first | (rw [hy349]; with_reducible exact H) | (have H2_ := (Option.bind_some _ _).symm.trans H; rw [hy349]; with_reducible exact H2_) | (have H2_ := (Option.bind_some _ _).symm.trans H; with_reducible exact H2_) | with_reducible exact H | (rw [hy349]; exact H) | exact H
 have Ny349 := Aside0.mk hy349
 clear hy349
 by_cases c2 : y349.length + l0.length < 17592186044416
 ·rw [if_pos c2] at H
  have LMc2 := Aside0.mk c2
  clear c2
  obtain ⟨y352, hy352⟩ : ∃ y_ : List Int, y_ = (y349 ++ l0) := ⟨_, rfl⟩
  replace H : (some y352) = some r := by first | (rw [hy352]; with_reducible exact H) | (have H2_ := (Option.bind_some _ _).symm.trans H; rw [hy352]; with_reducible exact H2_) | (have H2_ := (Option.bind_some _ _).symm.trans H; with_reducible exact H2_) | with_reducible exact H | (rw [hy352]; exact H) | exact H
  have Ny352 := Aside0.mk hy352
  clear hy352
  obtain rfl := Option.some.inj H
  go_enter Try.func116, Try.ntmps116
  go_wp2_with (first | ((with_reducible refine gate_dst (N := 5) rfl ?_); refine Kd.R_lit (Kd.int .i64) _ 3 ?hg (N := 5) ?hd (xs := ([] : List Int)) (inner := []) (ok := fun _ => True) (okp := fun _ => True) ?hr ?hp (fun _ hk => hk) trivial (Below.refl _ _) (Nat.le_refl _) (by simp) ?_; (case hd => rfl); (case hg => rfl); (case hr => first | (go_simp; done) | (go_simp; rfl)); (case hp => exact (Reps.none _ _)); intro v350 w3 ho4 hb hg_ hnew_; clear hg_ hnew_; (first | rw [← Ny349.out] at ho4 | (simp only [Int.reduceToNat] at ho4; rw [← Ny349.out] at ho4)); have HO351 := Aside0.mk (Kd.R_lower ho4 (below_size (bl HB.out))); replace HB := Aside0.mk (below_step (bl HB.out) hb); clear hb ho4) | ((with_reducible refine gate_builtin (b := .append) (xs := #[.tmp 5, .tmp 6]) rfl ?_); at_builtin; refine Kd.R_append_rows (Kd.int .i64) (w0 := w) w.heap.size rfl (.tmp 5) (.tmp 6) 38 3 (.int .i64 0) 8 rfl Try.underlying38 info3 rfl (by decide) (by omega) v350 y349 l0 _ _ _ (fun _ => True) (fun _ => False) rfl rfl ?aO ?aR (fun _ _ h => h) (fun _ h => h.elim) ?aF ?aB ?aS ?aL ?_; (case aR => exact cb (Kd.C_below HR0.out HB.out)); (case aB => exact (bl HB.out)); (case aF => exact (fun _ _ => trivial)); (case aO => exact (rk HO351.out)); (case aS => exact (below_size (bl HB.out))); (case aL => have := LMc2.out; omega); intro v353 w5 ho hb hg hat; rw [← Ny352.out] at ho; replace HB := Aside0.mk (hb); have HO354 := Aside0.mk (ho); clear HO351; clear ho hb hg hat))
  go_ret
  exact ⟨_, by first | rfl | (simp [errW_none, errW_some] <;> rfl) | (simp [*, errW_none, errW_some] <;> rfl), rk HO354.out, bl HB.out⟩
 ·rw [if_neg c2] at H
  exact absurd H (by simp)
def impl_Box_117.f (l0 : List (S98)) : Option ((List (S98))) := (some (([] : List (S98)) : List (S98))).bind fun y355 => (if y355.length + l0.length < 4398046511104 then (some (y355 ++ l0)) else (none))
set_option maxHeartbeats 8000000 in
set_option maxRecDepth 100000 in
theorem impl_Box_117.calls (A0 : Option Addr) (c0 : Nat) (l0 : List (S98)) (r : List (S98)) (w : World) (hr0 : Kd.C k98 w A0 l0.length l0) (hc0 : l0.length ≤ c0) (h : impl_Box_117.f l0 = some r) :
  Calls Try.prog 117 #[.slice A0 l0.length c0] w fun e w' => ∃ v0_ : Value, e = .returned (v0_) ∧ Kd.R k98 98 w' w.heap.size (fun _ => True) v0_ r ∧ Below w.heap.size w w' := by
 have heq_ := fun W => Go.Lib.run_eql_slice_nil (P := Try.prog) W 39 98 A0 l0.length c0 0 0 Try.underlying39
 by_cases hA_ : A0.isNone = true
 ·obtain rfl : A0 = none := by simpa using hA_
  obtain rfl : l0 = [] := by
   rcases l0 with _ | ⟨x, xs⟩
   ·rfl
   ·obtain ⟨ad, e, _⟩ := hr0.2.2 (by simp)
    cases e
  obtain rfl : r = [] := by
   have h2 := h
   simp [impl_Box_117.f] at h2
   first | exact h2 | exact h2.symm
  clear hA_ h hr0 heq_
  have heq_ := fun W => Go.Lib.run_eql_slice_nil (P := Try.prog) W 39 98 none 0 c0 0 0 Try.underlying39
  show Calls _ _ #[.slice none 0 c0] w _
  go_enter Try.func117, Try.ntmps117
  go_wp2
  go_ret
  exact ⟨_, rfl, Kd.R_nil _ _ _ _ _, Below.refl _ _⟩
 replace hA_ : A0.isNone = false := Bool.eq_false_iff.mpr hA_
 have HR0 := Aside0.mk hr0
 have HC0 := Aside0.mk hc0
 clear hr0 hc0
 have HB := Aside0.mk (Below.refl w.heap.size w)
 have H : ((some (([] : List (S98)) : List (S98))).bind fun y355 => (if y355.length + l0.length < 4398046511104 then (some (y355 ++ l0)) else (none))) = some r := h
 clear h
 obtain ⟨y355, hy355⟩ : ∃ y_ : List (S98), y_ = (([] : List (S98))) := ⟨_, rfl⟩
 replace H : (if y355.length + l0.length < 4398046511104 then (some (y355 ++ l0)) else (none)) = some r := by first | (rw [hy355]; with_reducible exact H) | (have H2_ := (Option.bind_some _ _).symm.trans H; rw [hy355]; with_reducible exact H2_) | (have H2_ := (Option.bind_some _ _).symm.trans H; with_reducible exact H2_) | with_reducible exact H | (rw [hy355]; exact H) | exact H
 have Ny355 := Aside0.mk hy355
 clear hy355
 by_cases c2 : y355.length + l0.length < 4398046511104
 ·rw [if_pos c2] at H
  have LMc2 := Aside0.mk c2
  clear c2
  obtain ⟨y358, hy358⟩ : ∃ y_ : List (S98), y_ = (y355 ++ l0) := ⟨_, rfl⟩
  replace H : (some y358) = some r := by first | (rw [hy358]; with_reducible exact H) | (have H2_ := (Option.bind_some _ _).symm.trans H; rw [hy358]; with_reducible exact H2_) | (have H2_ := (Option.bind_some _ _).symm.trans H; with_reducible exact H2_) | with_reducible exact H | (rw [hy358]; exact H) | exact H
  have Ny358 := Aside0.mk hy358
  clear hy358
  obtain rfl := Option.some.inj H
  go_enter Try.func117, Try.ntmps117
  go_wp2_with (first | ((with_reducible refine gate_dst (N := 5) rfl ?_); refine Kd.R_lit k98 _ 98 ?hg (N := 5) ?hd (xs := ([] : List (S98))) (inner := []) (ok := fun _ => True) (okp := fun _ => True) ?hr ?hp (fun _ hk => hk) trivial (Below.refl _ _) (Nat.le_refl _) (by simp) ?_; (case hd => rfl); (case hg => rfl); (case hr => first | (go_simp; done) | (go_simp; rfl)); (case hp => exact (Reps.none _ _)); intro v356 w3 ho4 hb hg_ hnew_; clear hg_ hnew_; (first | rw [← Ny355.out] at ho4 | (simp only [Int.reduceToNat] at ho4; rw [← Ny355.out] at ho4)); have HO357 := Aside0.mk (Kd.R_lower ho4 (below_size (bl HB.out))); replace HB := Aside0.mk (below_step (bl HB.out) hb); clear hb ho4) | ((with_reducible refine gate_builtin (b := .append) (xs := #[.tmp 5, .tmp 6]) rfl ?_); at_builtin; refine Kd.R_append_rows k98 (w0 := w) w.heap.size rfl (.tmp 5) (.tmp 6) 39 98 (.agg #[(.int .i64 0), (.int .i64 0), (.int .i64 0), (.bool false)]) 32 rfl Try.underlying39 info98 rfl (by decide) (by omega) v356 y355 l0 _ _ _ (fun _ => True) (fun _ => False) rfl rfl ?aO ?aR (fun _ _ h => h) (fun _ h => h.elim) ?aF ?aB ?aS ?aL ?_; (case aR => exact cb (Kd.C_below HR0.out HB.out)); (case aB => exact (bl HB.out)); (case aF => exact (fun _ _ => trivial)); (case aO => exact (rk HO357.out)); (case aS => exact (below_size (bl HB.out))); (case aL => have := LMc2.out; omega); intro v359 w5 ho hb hg hat; rw [← Ny358.out] at ho; replace HB := Aside0.mk (hb); have HO360 := Aside0.mk (ho); clear HO357; clear ho hb hg hat))
  go_ret
  exact ⟨_, by first | rfl | (simp [errW_none, errW_some] <;> rfl) | (simp [*, errW_none, errW_some] <;> rfl), rk HO360.out, bl HB.out⟩
 ·rw [if_neg c2] at H
  exact absurd H (by simp)
def impl_copyColumn.f (a0_0 : Int) (l0_1 : List Int) (l0_2 : List (S98)) : Option (Int × List Int × (List (S98))) := (slices_Clone_int_int.f l0_1).bind fun t363 => ((impl_Box_117.f l0_2).bind fun t366 => (some (a0_0, t363, t366)))
def impl_copyColumn.T1 : Bool × List (List Nat × List Nat) := (true, [([], []), ([0], [0]), ([1], [1]), ([], []), ([3], [3]), ([4, 2], [4]), ([0, 1, 2, 3, 4], []), ([6, 2, 5, 0, 1, 2, 3, 4], [2, 6]), ([0, 1, 2, 3, 4, 5, 6, 7], []), ([8, 5, 7, 0, 1, 2, 3, 4, 5, 6, 7], [5, 8])])
def impl_copyColumn.B1 : List Nat := [0, 1, 3, 0, 8, 31, 31, 127, 255, 511]
theorem impl_copyColumn.tab1 : rtab .any (opsOf Try.f81 1) = impl_copyColumn.T1 := by kernel_rfl
theorem impl_copyColumn.bits1 : waitsOk impl_copyColumn.T1.2 impl_copyColumn.B1 = true := by kernel_rfl
set_option maxHeartbeats 8000000 in
set_option maxRecDepth 100000 in
theorem impl_copyColumn.calls (a0_0 : Int) (A0_1 : Option Addr) (c0_1 : Nat) (l0_1 : List Int) (A0_2 : Option Addr) (c0_2 : Nat) (l0_2 : List (S98)) (r1 : Int) (r2 : List Int) (r3 : List (S98)) (w : World) (hr0_1 : Kd.C (Kd.int .i64) w A0_1 l0_1.length l0_1) (hc0_1 : l0_1.length ≤ c0_1) (hr0_2 : Kd.C k98 w A0_2 l0_2.length l0_2) (hc0_2 : l0_2.length ≤ c0_2) (h : impl_copyColumn.f a0_0 l0_1 l0_2 = some (r1, r2, r3)) :
  Calls Try.prog 81 #[.agg #[.int .i64 a0_0, .slice A0_1 l0_1.length c0_1, .slice A0_2 l0_2.length c0_2]] w fun e w' => ∃ v1_ v2_ : Value, e = .returned (.agg #[.int .i64 r1, v1_, v2_]) ∧ Kd.R (Kd.int .i64) 3 w' w.heap.size (fun _ => True) v1_ r2 ∧ Kd.R k98 98 w' w.heap.size (fun _ => True) v2_ r3 ∧ Below w.heap.size w w' := by
 have hu41 := Try.underlying41
 have HR0_1 := Aside0.mk hr0_1
 have HC0_1 := Aside0.mk hc0_1
 clear hr0_1 hc0_1
 have HR0_2 := Aside0.mk hr0_2
 have HC0_2 := Aside0.mk hc0_2
 clear hr0_2 hc0_2
 have HB := Aside0.mk (Below.refl w.heap.size w)
 have H : ((slices_Clone_int_int.f l0_1).bind fun t363 => ((impl_Box_117.f l0_2).bind fun t366 => (some (a0_0, t363, t366)))) = some (r1, r2, r3) := h
 clear h
 replace H := Option.bind_eq_some_iff.mp H
 obtain ⟨t363, A20, H⟩ := H
 try dsimp only at H
 have A2 := Aside0.mk A20
 clear A20
 replace H := Option.bind_eq_some_iff.mp H
 obtain ⟨t366, A30, H⟩ := H
 try dsimp only at H
 have A3 := Aside0.mk A30
 clear A30
 simp only [Option.some.injEq, Prod.mk.injEq] at H
 obtain ⟨rfl, rfl, rfl⟩ := H
 go_enter Try.func81, Try.ntmps81
 try go_wp2_with (first | ((with_reducible refine gate_dst (N := 1) rfl ?_); refine bx (cs := #[.int .i64 a0_0, .slice A0_1 l0_1.length c0_1, .slice A0_2 l0_2.length c0_2]) (t := 41) fun gb361 hg w4 hbox hb => ?_; have BK361 := Aside0.mk (hbox); have GW361 := Aside0.mk (gs HB.out hg); have GE361 := Aside0.mk (gs HB.out hg); replace HB := Aside0.mk (below_step (bl HB.out) hb); clear hb hbox hg) | ((with_reducible refine gate_dst (N := 2) rfl ?_); refine bx (cs := #[.int .i64 0, .slice none 0 0, .slice none 0 0]) (t := 41) fun gb362 hg w5 hbox hb => ?_; have BK362 := Aside0.mk (hbox); have GW362 := Aside0.mk (gs HB.out hg); have GE362 := Aside0.mk (gs HB.out hg); replace HB := Aside0.mk (below_step (bl HB.out) hb); have NB361_362 := Aside0.mk ((nl BK361.out hg)); have NB362_361 := Aside0.mk ((ng BK361.out hg)); replace BK361 := Aside0.mk (bb BK361.out hb); clear hb hbox hg))
 replace BK361 := Aside0.mk (blk_drew BK361.out)
 replace BK362 := Aside0.mk (blk_drew BK362.out)
 replace HB := Aside0.mk (below_drew1 HB.out)
 refine start_ (n := 10) (S := fun w' => w'.cell? ⟨gb361, 0, none⟩ = some (.int .i64 a0_0) ∧ w'.cell? ⟨gb361, 1, none⟩ = some (.slice A0_1 l0_1.length c0_1) ∧ w'.cell? ⟨gb361, 2, none⟩ = some (.slice A0_2 l0_2.length c0_2)) (ds := [7, 9]) #[false, false, false, false, false, false, false, false, false, false] (by kernel_rfl) rfl rfl ⟨(blk_cell BK361.out 0).trans rfl, (blk_cell BK361.out 1).trans rfl, (blk_cell BK361.out 2).trans rfl⟩ (fun hHeld => ?_); refine with_tabW impl_copyColumn.tab1 impl_copyColumn.bits1 (fun HT_ HW_ => ?_)
 generalize w5.drew = w6 at BK361 BK362 HB hHeld ⊢
 refine puA (i := 0) (N := some 3) HT_.out ?_
 refine puA (i := 3) (N := some 6) HT_.out ?_
 refine tkA3 (i := 1) (N := some 4) HT_.out HW_.out hHeld ?_
 refine tkA3 (i := 4) (N := some 7) HT_.out HW_.out hHeld ?_
 refine onA (i := 2) (N := some 5) HT_.out (fun K hK => ?_)
 refine goes_ Try.func116 (by kernel_rfl) rfl #[.slice A0_1 l0_1.length c0_1] (by rfl) rfl rfl mapd ?_
 with_reducible refine (slices_Clone_int_int.calls _ _ l0_1 t363 _ ?side1 ?side2 A2.out).mono ?_
 (case side1 => exact cb (Kd.C_below HR0_1.out HB.out))
 (case side2 => exact HC0_1.out)
 rintro e w7 ⟨v364, rfl, ho0, hb⟩
 refine ⟨_, rfl, ?_⟩
 have HO365 := Aside0.mk (Kd.R_lower ho0 (below_size (bl HB.out)))
 replace BK361 := Aside0.mk (bb BK361.out hb)
 replace BK362 := Aside0.mk (bb BK362.out hb)
 replace HB := Aside0.mk (below_step (bl HB.out) hb)
 (try clear hb)
 (try clear hb2)
 (try clear hk)
 (try clear hi)
 (try clear ho0)
 refine hK.out _ _ ⟨(blk_cell BK361.out 0).trans rfl, (blk_cell BK361.out 1).trans rfl, (blk_cell BK361.out 2).trans rfl⟩ (fun hHeld => ?_)
 clear hK K
 refine norm_ (a' := ?_) ?_ ?_
 rotate_left
 ·show Act.put _ (some 5) _ = _
  simp only [Act.put, List.setIfInBounds_toArray, List.set_cons_zero, List.set_cons_succ, i64_w, i32_w]
  rfl
 refine puA (i := 6) (N := some 9) HT_.out ?_
 refine onA (i := 5) (N := some 8) HT_.out (fun K hK => ?_)
 refine goes_ Try.func117 (by kernel_rfl) rfl #[.slice A0_2 l0_2.length c0_2] (by rfl) rfl rfl mapd ?_
 with_reducible refine (impl_Box_117.calls _ _ l0_2 t366 _ ?side1 ?side2 A3.out).mono ?_
 (case side1 => exact cb (Kd.C_below HR0_2.out HB.out))
 (case side2 => exact HC0_2.out)
 rintro e w8 ⟨v367, rfl, ho0, hb⟩
 refine ⟨_, rfl, ?_⟩
 replace HO365 := Aside0.mk (Kd.R_below (rk HO365.out) hb)
 have HO368 := Aside0.mk (Kd.R_lower ho0 (below_size (bl HB.out)))
 replace BK361 := Aside0.mk (bb BK361.out hb)
 replace BK362 := Aside0.mk (bb BK362.out hb)
 replace HB := Aside0.mk (below_step (bl HB.out) hb)
 (try clear hb)
 (try clear hb2)
 (try clear hk)
 (try clear hi)
 (try clear ho0)
 obtain ⟨Ao9, co9, eo9⟩ := Kd.R_slice HO365.out
 (first | subst eo9 | (injection eo9 with f1_ f2_ f3_; have f4_ := f1_.symm; have f5_ := f3_.symm; clear f1_ f2_ f3_; subst f4_; subst f5_))
 obtain ⟨Ao11, co11, eo11⟩ := Kd.R_slice HO368.out
 (first | subst eo11 | (injection eo11 with f1_ f2_ f3_; have f4_ := f1_.symm; have f5_ := f3_.symm; clear f1_ f2_ f3_; subst f4_; subst f5_))
 refine hK.out _ _ ⟨(blk_cell BK361.out 0).trans rfl, (blk_cell BK361.out 1).trans rfl, (blk_cell BK361.out 2).trans rfl⟩ (fun hHeld => ?_)
 clear hK K
 refine norm_ (a' := ?_) ?_ ?_
 rotate_left
 ·show Act.put _ (some 8) _ = _
  simp only [Act.put, List.setIfInBounds_toArray, List.set_cons_zero, List.set_cons_succ, i64_w, i32_w]
  rfl
 refine last_ (i := 7) (N := none) #[true, true, true, true, true, true, true, true, false, false] rfl rfl (one_of HT_.out (by kernel_rfl)) (by decide) (fun K hK => ?_)
 have hs10 : w8.cell? ⟨gb361, 1, none⟩ = some (.slice A0_1 l0_1.length c0_1) := (blk_cell BK361.out 1).trans rfl
 have hfs10 := blk_frozen BK361.out 1
 have hns10_1 := NB362_361.out
 have hms10_1 := NB361_362.out
 refine skip_ (w1 := ?_) (by rfl) rfl ?_ ?_
 rotate_left
 ·go_simp
  rfl
 refine hK.out _ _ ?_
 clear hK K
 refine puA (i := 8) (N := some 10) HT_.out ?_
 refine last_ (i := 9) (N := none) #[true, true, true, true, true, true, true, true, true, true] rfl rfl (one_of HT_.out (by kernel_rfl)) (by decide) (fun K hK => ?_)
 have hs12 : w8.cell? ⟨gb361, 2, none⟩ = some (.slice A0_2 l0_2.length c0_2) := (blk_cell BK361.out 2).trans rfl
 have hfs12 := blk_frozen BK361.out 2
 have hns12_1 := NB362_361.out
 have hms12_1 := NB361_362.out
 refine skip_ (w1 := ?_) (by rfl) rfl ?_ ?_
 rotate_left
 ·go_simp
  rfl
 refine hK.out _ _ ?_
 clear hK K
 refine done_ (done_of HT_.out (by kernel_rfl)) ?_
 have hnb13 := NB361_362.out
 have hnc13 := NB362_361.out
 obtain ⟨hcz14_0, hcz14_1, hcz14_2, hfz14_0, hfz14_1, hfz14_2⟩ := cz3 BK361.out
 obtain ⟨hcz15_0, hcz15_1, hcz15_2, hfz15_0, hfz15_1, hfz15_2⟩ := cz3 BK362.out
 try go_wp2
 refine bodyPost_ret (results_cell_row rfl _ _ gb362 41 #[.int .i64 a0_0, .slice Ao9 t363.length co9, .slice Ao11 t366.length co11] (0, 0) _ rfl (by refine bk ?_; refine blk_put (cs := #[.int .i64 a0_0, .slice Ao9 t363.length co9, .slice none 0 0]) ?_ 2 _ rfl; refine bk ?_; refine blk_put (cs := #[.int .i64 a0_0, .slice none 0 0, .slice none 0 0]) ?_ 1 _ rfl; refine bk ?_; refine blk_put (cs := #[.int .i64 0, .slice none 0 0, .slice none 0 0]) ?_ 0 _ rfl; refine bk ?_; refine blk_far ?_ NB362_361.out _; refine bk ?_; refine blk_far ?_ NB362_361.out _; refine bk ?_; exact BK362.out) Try.underlying41 rfl (by kernel_rfl)) rfl ?_
 exact ⟨_, _, by first | rfl | (simp [errW_none, errW_some] <;> rfl) | (simp [*, errW_none, errW_some] <;> rfl), by refine rk ?_; exact Kd.R_mono (Kd.R_far (p := ⟨gb362, 2, none⟩) (Kd.R_far (p := ⟨gb362, 1, none⟩) (Kd.R_far (p := ⟨gb362, 0, none⟩) (Kd.R_far (p := ⟨gb361, 2, none⟩) (Kd.R_far (p := ⟨gb361, 1, none⟩) (Kd.R_types (Kd.R_types HO365.out BK361.out (by decide)) BK362.out (by decide)) (fun _ hk => hk.1.2) (.slice Ao9 t363.length co9)) (fun _ hk => hk.1.2) (.slice Ao11 t366.length co11)) (fun _ hk => hk.2) (.int .i64 a0_0)) (fun _ hk => hk.2) (.slice Ao9 t363.length co9)) (fun _ hk => hk.2) (.slice Ao11 t366.length co11)) (fun _ hk => trivial), by refine rk ?_; exact Kd.R_mono (Kd.R_far (p := ⟨gb362, 2, none⟩) (Kd.R_far (p := ⟨gb362, 1, none⟩) (Kd.R_far (p := ⟨gb362, 0, none⟩) (Kd.R_far (p := ⟨gb361, 2, none⟩) (Kd.R_far (p := ⟨gb361, 1, none⟩) (Kd.R_types (Kd.R_types HO368.out BK361.out (by decide)) BK362.out (by decide)) (fun _ hk => hk.1.2) (.slice Ao9 t363.length co9)) (fun _ hk => hk.1.2) (.slice Ao11 t366.length co11)) (fun _ hk => hk.2) (.int .i64 a0_0)) (fun _ hk => hk.2) (.slice Ao9 t363.length co9)) (fun _ hk => hk.2) (.slice Ao11 t366.length co11)) (fun _ hk => trivial), bl HB.out⟩
def impl_TakeOut.f (a0_0 : Int) (l0_1 : List Int) (l0_2 : List (S98)) (a1 : Int) : Option (Int × List Int × (List (S98)) × Bool) := (impl_copyColumn.f a0_0 l0_1 l0_2).bind fun bt371 => ((impl_boxAt.f a0_0 l0_1 l0_2 a1).bind fun t379 => ((impl_ColumnOk.f a0_0 l0_1 l0_2).bind fun t380 => (if t380 = true then (if a1 < 1 then (some (bt371.1, bt371.2.1, bt371.2.2, false)) else (if t379 < 0 then (some (bt371.1, bt371.2.1, bt371.2.2, false)) else (if 0 ≤ t379 then (if t379 < (l0_2.length : Int) then (if (rd_T98 l0_2 t379).f3 = true then (some (bt371.1, bt371.2.1, bt371.2.2, false)) else (if t379 < (bt371.2.2.length : Int) then (some (bt371.1, bt371.2.1, (bt371.2.2.set (t379 : Int).toNat (⟨(rd_T98 bt371.2.2 t379).f0, (rd_T98 bt371.2.2 t379).f1, 0, (rd_T98 bt371.2.2 t379).f3⟩ : S98)), true)) else (none))) else (none)) else (none)))) else (some (bt371.1, bt371.2.1, bt371.2.2, false)))))
set_option maxHeartbeats 8000000 in
set_option maxRecDepth 100000 in
theorem impl_TakeOut.calls (a0_0 : Int) (A0_1 : Option Addr) (c0_1 : Nat) (l0_1 : List Int) (A0_2 : Option Addr) (c0_2 : Nat) (l0_2 : List (S98)) (a1 : Int) (r1 : Int) (r2 : List Int) (r3 : List (S98)) (r4 : Bool) (w : World) (hr0_1 : Kd.C (Kd.int .i64) w A0_1 l0_1.length l0_1) (hc0_1 : l0_1.length ≤ c0_1) (hr0_2 : Kd.C k98 w A0_2 l0_2.length l0_2) (hc0_2 : l0_2.length ≤ c0_2) (h : impl_TakeOut.f a0_0 l0_1 l0_2 a1 = some (r1, r2, r3, r4)) :
  Calls Try.prog 32 #[.agg #[.int .i64 a0_0, .slice A0_1 l0_1.length c0_1, .slice A0_2 l0_2.length c0_2], .int .i64 a1] w fun e w' => ∃ v1_ v2_ : Value, e = .returned (.tuple #[.agg #[.int .i64 r1, v1_, v2_], .bool r4]) ∧ Kd.R (Kd.int .i64) 3 w' w.heap.size (fun _ => True) v1_ r2 ∧ Kd.R k98 98 w' w.heap.size (fun _ => True) v2_ r3 ∧ Below w.heap.size w w' := by
 have hu41 := Try.underlying41
 have HR0_1 := Aside0.mk hr0_1
 have HC0_1 := Aside0.mk hc0_1
 clear hr0_1 hc0_1
 have HR0_2 := Aside0.mk hr0_2
 have HC0_2 := Aside0.mk hc0_2
 clear hr0_2 hc0_2
 have HB := Aside0.mk (Below.refl w.heap.size w)
 have H : ((impl_copyColumn.f a0_0 l0_1 l0_2).bind fun bt371 => ((impl_boxAt.f a0_0 l0_1 l0_2 a1).bind fun t379 => ((impl_ColumnOk.f a0_0 l0_1 l0_2).bind fun t380 => (if t380 = true then (if a1 < 1 then (some (bt371.1, bt371.2.1, bt371.2.2, false)) else (if t379 < 0 then (some (bt371.1, bt371.2.1, bt371.2.2, false)) else (if 0 ≤ t379 then (if t379 < (l0_2.length : Int) then (if (rd_T98 l0_2 t379).f3 = true then (some (bt371.1, bt371.2.1, bt371.2.2, false)) else (if t379 < (bt371.2.2.length : Int) then (some (bt371.1, bt371.2.1, (bt371.2.2.set (t379 : Int).toNat (⟨(rd_T98 bt371.2.2 t379).f0, (rd_T98 bt371.2.2 t379).f1, 0, (rd_T98 bt371.2.2 t379).f3⟩ : S98)), true)) else (none))) else (none)) else (none)))) else (some (bt371.1, bt371.2.1, bt371.2.2, false)))))) = some (r1, r2, r3, r4) := h
 clear h
 replace H := Option.bind_eq_some_iff.mp H
 obtain ⟨⟨t371, t372, t375⟩, A30, H⟩ := H
 try dsimp only at H
 have A3 := Aside0.mk A30
 clear A30
 replace H := Option.bind_eq_some_iff.mp H
 obtain ⟨t379, A40, H⟩ := H
 try dsimp only at H
 have A4 := Aside0.mk A40
 clear A40
 replace H := Option.bind_eq_some_iff.mp H
 obtain ⟨t380, A50, H⟩ := H
 try dsimp only at H
 have A5 := Aside0.mk A50
 clear A50
 by_cases c6 : t380 = true
 focus
  subst c6
  rw [if_pos rfl] at H
  by_cases c7 : a1 < 1
  focus
   rw [if_pos c7] at H
   have c7b0 : decide (a1 < 1) = true := decide_eq_true c7
   clear c7
   simp only [Option.some.injEq, Prod.mk.injEq] at H
   obtain ⟨rfl, rfl, rfl, rfl⟩ := H
  rotate_left
  focus
   rw [if_neg c7] at H
   have c7b0 : decide (a1 < 1) = false := decide_eq_false c7
   clear c7
   by_cases c25 : t379 < 0
   focus
    rw [if_pos c25] at H
    have c25b0 : decide (t379 < 0) = true := decide_eq_true c25
    clear c25
    simp only [Option.some.injEq, Prod.mk.injEq] at H
    obtain ⟨rfl, rfl, rfl, rfl⟩ := H
   rotate_left
   focus
    rw [if_neg c25] at H
    have c25b0 : decide (t379 < 0) = false := decide_eq_false c25
    clear c25
    by_cases c43 : 0 ≤ t379
    focus
     rw [if_pos c43] at H
     have c43b0 : decide (0 ≤ t379) = true := decide_eq_true c43
     clear c43
     by_cases c44 : t379 < (l0_2.length : Int)
     focus
      rw [if_pos c44] at H
      have c44b0 : decide (t379 < (l0_2.length : Int)) = true := decide_eq_true c44
      clear c44
      obtain ⟨bq45, hbq45⟩ : ∃ b_ : Bool, b_ = ((rd_T98 l0_2 t379).f3) := ⟨_, rfl⟩
      replace H : (if bq45 = true then (some (t371, t372, t375, false)) else (if t379 < (t375.length : Int) then (some (t371, t372, (t375.set (t379 : Int).toNat (⟨(rd_T98 t375 t379).f0, (rd_T98 t375 t379).f1, 0, (rd_T98 t375 t379).f3⟩ : S98)), true)) else (none))) = some (r1, r2, r3, r4) := by rw [← hbq45] at H; exact H
      have Nbq45 := Aside0.mk hbq45
      clear hbq45
      by_cases c46 : bq45 = true
      focus
       subst c46
       rw [if_pos rfl] at H
       simp only [Option.some.injEq, Prod.mk.injEq] at H
       obtain ⟨rfl, rfl, rfl, rfl⟩ := H
      rotate_left
      focus
       replace c46 := Bool.eq_false_iff.mpr c46
       subst c46
       rw [if_neg (show ¬ (false = true) by decide)] at H
       by_cases c65 : t379 < (t375.length : Int)
       focus
        rw [if_pos c65] at H
        have c65b0 : decide (t379 < (t375.length : Int)) = true := decide_eq_true c65
        clear c65
        obtain ⟨y382, hy382⟩ : ∃ y_ : List (S98), y_ = (t375.set (t379 : Int).toNat (⟨(rd_T98 t375 t379).f0, (rd_T98 t375 t379).f1, 0, (rd_T98 t375 t379).f3⟩ : S98)) := ⟨_, rfl⟩
        replace H : (some (t371, t372, y382, true)) = some (r1, r2, r3, r4) := by first | (rw [hy382]; with_reducible exact H) | (have H2_ := (Option.bind_some _ _).symm.trans H; rw [hy382]; with_reducible exact H2_) | (have H2_ := (Option.bind_some _ _).symm.trans H; with_reducible exact H2_) | with_reducible exact H | (rw [hy382]; exact H) | exact H
        have Ny382 := Aside0.mk hy382
        clear hy382
        simp only [Option.some.injEq, Prod.mk.injEq] at H
        obtain ⟨rfl, rfl, rfl, rfl⟩ := H
       rotate_left
       ·rw [if_neg c65] at H
        exact absurd H (by simp)
      rotate_left
     rotate_left 2
     ·rw [if_neg c44] at H
      exact absurd H (by simp)
    rotate_left 2
    ·rw [if_neg c43] at H
     exact absurd H (by simp)
   rotate_left 2
  rotate_left 3
 rotate_left 4
 focus
  replace c6 := Bool.eq_false_iff.mpr c6
  subst c6
  rw [if_neg (show ¬ (false = true) by decide)] at H
  simp only [Option.some.injEq, Prod.mk.injEq] at H
  obtain ⟨rfl, rfl, rfl, rfl⟩ := H
 rotate_left
 all_goals go_enter Try.func32, Try.ntmps32
 all_goals go_wp2_with (first | ((with_reducible refine gate_dst (N := 2) rfl ?_); refine bx (cs := #[.int .i64 a0_0, .slice A0_1 l0_1.length c0_1, .slice A0_2 l0_2.length c0_2]) (t := 41) fun gb369 hg w8 hbox hb => ?_; have BK369 := Aside0.mk (hbox); have GW369 := Aside0.mk (gs HB.out hg); have GE369 := Aside0.mk (gs HB.out hg); replace HB := Aside0.mk (below_step (bl HB.out) hb); clear hb hbox hg) | ((with_reducible refine gate_dst (N := 4) rfl ?_); refine bx (cs := #[.int .i64 0, .slice none 0 0, .slice none 0 0]) (t := 41) fun gb370 hg w9 hbox hb => ?_; have BK370 := Aside0.mk (hbox); have GW370 := Aside0.mk (gs HB.out hg); have GE370 := Aside0.mk (gs HB.out hg); replace HB := Aside0.mk (below_step (bl HB.out) hb); have NB369_370 := Aside0.mk ((nl BK369.out hg)); have NB370_369 := Aside0.mk ((ng BK369.out hg)); replace BK369 := Aside0.mk (bb BK369.out hb); clear hb hbox hg; have hnb10 := NB369_370.out; have hnc10 := NB370_369.out; obtain ⟨hcz11_0, hcz11_1, hcz11_2, hfz11_0, hfz11_1, hfz11_2⟩ := cz3 BK369.out) | ((with_reducible refine gate_callee (f := 81) rfl ?_); refine goesL_ (some 9) rfl rfl Try.func81 (by kernel_rfl) rfl #[.agg #[.int .i64 a0_0, .slice A0_1 l0_1.length c0_1, .slice A0_2 l0_2.length c0_2]] rfl mapd ?_; (with_reducible refine (impl_copyColumn.calls a0_0 _ _ l0_1 _ _ l0_2 t371 t372 t375 _ ?side1 ?side2 ?side3 ?side4 A3.out).mono ?_); (case side1 => exact cb (Kd.C_below HR0_1.out HB.out)); (case side2 => exact HC0_1.out); (case side3 => exact cb (Kd.C_below HR0_2.out HB.out)); (case side4 => exact HC0_2.out); rintro e w12 ⟨v373, v376, rfl, ho0, ho1, hb⟩; refine ⟨_, rfl, ?_⟩; have HO374 := Aside0.mk (Kd.R_lower ho0 (below_size (bl HB.out))); have HO377 := Aside0.mk (Kd.R_lower ho1 (below_size (bl HB.out))); replace BK369 := Aside0.mk (bb BK369.out hb); replace BK370 := Aside0.mk (bb BK370.out hb); replace HB := Aside0.mk (below_step (bl HB.out) hb); (try clear hb); (try clear hb2); (try clear hk); (try clear hi); (try clear ho0); (try clear ho1)) | ((with_reducible refine gate_dst (N := 6) rfl ?_); refine bx (cs := #[.int .i64 0, .slice none 0 0, .slice none 0 0]) (t := 41) fun gb378 hg w13 hbox hb => ?_; replace HO374 := Aside0.mk (Kd.R_below (rk HO374.out) hb); replace HO377 := Aside0.mk (Kd.R_below (rk HO377.out) hb); have BK378 := Aside0.mk (hbox); have GW378 := Aside0.mk (gs HB.out hg); have GE378 := Aside0.mk (gs HB.out hg); replace HB := Aside0.mk (below_step (bl HB.out) hb); have NB369_378 := Aside0.mk ((nl BK369.out hg)); have NB378_369 := Aside0.mk ((ng BK369.out hg)); replace BK369 := Aside0.mk (bb BK369.out hb); have NB370_378 := Aside0.mk ((nl BK370.out hg)); have NB378_370 := Aside0.mk ((ng BK370.out hg)); replace BK370 := Aside0.mk (bb BK370.out hb); clear hb hbox hg; have hnb14 := NB378_369.out; have hnc14 := NB369_378.out; have hnb15 := NB378_370.out; have hnc15 := NB370_378.out; obtain ⟨hcz16_0, hcz16_1, hcz16_2, hfz16_0, hfz16_1, hfz16_2⟩ := cz3 BK378.out; obtain ⟨Ao17, co17, eo17⟩ := Kd.R_slice HO374.out; subst eo17; obtain ⟨Ao18, co18, eo18⟩ := Kd.R_slice HO377.out; subst eo18; obtain ⟨hcz19_0, hcz19_1, hcz19_2, hfz19_0, hfz19_1, hfz19_2⟩ := cz3 BK369.out) | ((with_reducible refine gate_callee (f := 80) rfl ?_); refine goesL_ (some 12) rfl rfl Try.func80 (by kernel_rfl) rfl #[.agg #[.int .i64 a0_0, .slice A0_1 l0_1.length c0_1, .slice A0_2 l0_2.length c0_2], .int .i64 a1] rfl mapd ?_; (with_reducible refine (impl_boxAt.calls a0_0 _ _ l0_1 _ _ l0_2 a1 t379 _ ?side1 ?side2 ?side3 ?side4 A4.out).mono ?_); (case side1 => exact Kd.C_below HR0_1.out (bl HB.out)); (case side2 => exact HC0_1.out); (case side3 => exact Kd.C_below HR0_2.out (bl HB.out)); (case side4 => exact HC0_2.out); rintro e w20 ⟨rfl, hb⟩; refine ⟨_, rfl, ?_⟩; replace HO374 := Aside0.mk (Kd.R_below (by refine rk ?_; exact (Kd.R_mono (Kd.R_far (p := ⟨gb378, 2, none⟩) (Kd.R_far (p := ⟨gb378, 1, none⟩) (Kd.R_far (p := ⟨gb378, 0, none⟩) (Kd.R_types HO374.out BK378.out (by decide)) (fun _ hk => hk.2) (.int .i64 t371)) (fun _ hk => hk.2) (.slice Ao17 t372.length co17)) (fun _ hk => hk.2) (.slice Ao18 t375.length co18)) (fun _ h_ => h_.1))) hb); replace HO377 := Aside0.mk (Kd.R_below (by refine rk ?_; exact (Kd.R_mono (Kd.R_far (p := ⟨gb378, 2, none⟩) (Kd.R_far (p := ⟨gb378, 1, none⟩) (Kd.R_far (p := ⟨gb378, 0, none⟩) (Kd.R_types HO377.out BK378.out (by decide)) (fun _ hk => hk.2) (.int .i64 t371)) (fun _ hk => hk.2) (.slice Ao17 t372.length co17)) (fun _ hk => hk.2) (.slice Ao18 t375.length co18)) (fun _ h_ => h_.1))) hb); replace BK369 := Aside0.mk (blk_below (g := gb369) (o := .cells #[.int .i64 a0_0, .slice A0_1 l0_1.length c0_1, .slice A0_2 l0_2.length c0_2] 41 (0, 0)) (bf BK369.out) hb); replace BK370 := Aside0.mk (blk_below (g := gb370) (o := .cells #[.int .i64 0, .slice none 0 0, .slice none 0 0] 41 (0, 0)) (bf BK370.out) hb); replace BK378 := Aside0.mk (blk_below (g := gb378) (o := .cells #[.int .i64 t371, .slice Ao17 t372.length co17, .slice Ao18 t375.length co18] 41 (0, 0)) (by refine bk ?_; refine blk_put (cs := #[.int .i64 t371, .slice Ao17 t372.length co17, .slice none 0 0]) ?_ 2 _ rfl; refine bk ?_; refine blk_put (cs := #[.int .i64 t371, .slice none 0 0, .slice none 0 0]) ?_ 1 _ rfl; refine bk ?_; refine blk_put (cs := #[.int .i64 0, .slice none 0 0, .slice none 0 0]) ?_ 0 _ rfl; refine bk ?_; exact BK378.out) hb); replace HB := Aside0.mk (below_step (bl HB.out) hb); (try clear hb); (try clear hb2); (try clear hk); (try clear hi); obtain ⟨hcz21_0, hcz21_1, hcz21_2, hfz21_0, hfz21_1, hfz21_2⟩ := cz3 BK369.out) | ((with_reducible refine gate_callee (f := 34) rfl ?_); refine goesL_ (some 14) rfl rfl Try.func34 (by kernel_rfl) rfl #[.agg #[.int .i64 a0_0, .slice A0_1 l0_1.length c0_1, .slice A0_2 l0_2.length c0_2]] rfl mapd ?_; (with_reducible refine (impl_ColumnOk.calls a0_0 _ _ l0_1 _ _ l0_2 false _ ?side1 ?side2 ?side3 ?side4 A5.out).mono ?_); (case side1 => exact cb (Kd.C_below HR0_1.out HB.out)); (case side2 => exact HC0_1.out); (case side3 => exact cb (Kd.C_below HR0_2.out HB.out)); (case side4 => exact HC0_2.out); rintro e w102 ⟨rfl, hb⟩; refine ⟨_, rfl, ?_⟩; replace HO374 := Aside0.mk (Kd.R_below (rk HO374.out) hb); replace HO377 := Aside0.mk (Kd.R_below (rk HO377.out) hb); replace BK369 := Aside0.mk (bb BK369.out hb); replace BK370 := Aside0.mk (bb BK370.out hb); replace BK378 := Aside0.mk (bb BK378.out hb); replace HB := Aside0.mk (below_step (bl HB.out) hb); (try clear hb); (try clear hb2); (try clear hk); (try clear hi); obtain ⟨hcz103_0, hcz103_1, hcz103_2, hfz103_0, hfz103_1, hfz103_2⟩ := cz3 BK378.out; obtain ⟨hcz104_0, hcz104_1, hcz104_2, hfz104_0, hfz104_1, hfz104_2⟩ := cz3 BK370.out) | ((with_reducible refine gate_callee (f := 34) rfl ?_); refine goesL_ (some 14) rfl rfl Try.func34 (by kernel_rfl) rfl #[.agg #[.int .i64 a0_0, .slice A0_1 l0_1.length c0_1, .slice A0_2 l0_2.length c0_2]] rfl mapd ?_; (with_reducible refine (impl_ColumnOk.calls a0_0 _ _ l0_1 _ _ l0_2 true _ ?side1 ?side2 ?side3 ?side4 A5.out).mono ?_); (case side1 => exact cb (Kd.C_below HR0_1.out HB.out)); (case side2 => exact HC0_1.out); (case side3 => exact cb (Kd.C_below HR0_2.out HB.out)); (case side4 => exact HC0_2.out); rintro e w81 ⟨rfl, hb⟩; refine ⟨_, rfl, ?_⟩; replace HO374 := Aside0.mk (Kd.R_below (rk HO374.out) hb); replace HO377 := Aside0.mk (Kd.R_below (rk HO377.out) hb); replace BK369 := Aside0.mk (bb BK369.out hb); replace BK370 := Aside0.mk (bb BK370.out hb); replace BK378 := Aside0.mk (bb BK378.out hb); replace HB := Aside0.mk (below_step (bl HB.out) hb); (try clear hb); (try clear hb2); (try clear hk); (try clear hi); obtain ⟨hcz82_0, hcz82_1, hcz82_2, hfz82_0, hfz82_1, hfz82_2⟩ := cz3 BK369.out; have p381 : 0 ≤ (t379 : Int) := of_decide_eq_true asm; have q381 : t379 < (l0_2.length : Int) := of_decide_eq_true asm; obtain ⟨ad381, e381, hx381_0, hx381_1, hx381_2, hx381_3⟩ := at_T98 HR0_2.out t379 p381 q381; (try rw [← Nbq45.out] at hx381_3); cases e381; replace hx381_0 := (HB.out.cell (World.block_lt_of_cell? w _ hx381_0)).trans hx381_0; replace hx381_1 := (HB.out.cell (World.block_lt_of_cell? w _ hx381_1)).trans hx381_1; replace hx381_2 := (HB.out.cell (World.block_lt_of_cell? w _ hx381_2)).trans hx381_2; replace hx381_3 := (HB.out.cell (World.block_lt_of_cell? w _ hx381_3)).trans hx381_3; replace p381 := eq_true p381; replace q381 := eq_true q381; obtain ⟨hcz83_0, hcz83_1, hcz83_2, hfz83_0, hfz83_1, hfz83_2⟩ := cz3 BK378.out; have p66 : 0 ≤ (t379 : Int) := of_decide_eq_true asm; have q66 : (t379 : Int) < ((t375.length : Int) : Int) := of_decide_eq_true asm; obtain ⟨go66, co66, eo66, gb66, gl66, cl66, HG66⟩ := Kd.R_form HO377.out (by omega); (first | cases eo66 | (injection eo66 with ea_ en_ ec_; (first | subst ea_ | (injection ea_ with ea_; subst ea_)); subst ec_; clear en_)); have GB66 := Aside0.mk gb66; have GG66 := Aside0.mk HG66; clear gb66 gl66 HG66; obtain ⟨ce66, hcl66, hM66, hcc66, hfr66⟩ := Kd.R_elem HO377.out z98 (t379 : Int) p66 q66; obtain rfl := k98_openM hM66; have hx66_0 : w81.cell? ⟨go66, (t379 : Int).toNat * 4, none⟩ = some (.int .i64 ((rd_T98 t375 t379).f0)) := hcc66 0 _ rfl; have hx66_1 : w81.cell? ⟨go66, (t379 : Int).toNat * 4 + 1, none⟩ = some (.int .i64 ((rd_T98 t375 t379).f1)) := hcc66 1 _ rfl; have hx66_2 : w81.cell? ⟨go66, (t379 : Int).toNat * 4 + 2, none⟩ = some (.int .i64 ((rd_T98 t375 t379).f2)) := hcc66 2 _ rfl; have hx66_3 : w81.cell? ⟨go66, (t379 : Int).toNat * 4 + 3, none⟩ = some (.bool ((rd_T98 t375 t379).f3)) := hcc66 3 _ rfl; have hf66_0 : w81.frozen? ⟨go66, (t379 : Int).toNat * 4, none⟩ = false := hfr66 0; have hf66_1 : w81.frozen? ⟨go66, (t379 : Int).toNat * 4 + 1, none⟩ = false := hfr66 1; have hf66_2 : w81.frozen? ⟨go66, (t379 : Int).toNat * 4 + 2, none⟩ = false := hfr66 2; have hf66_3 : w81.frozen? ⟨go66, (t379 : Int).toNat * 4 + 3, none⟩ = false := hfr66 3; clear hcl66 hcc66 hfr66 hM66; replace p66 := eq_true p66; replace q66 := eq_true q66; have HX84 := Aside0.mk (show Kd.R k98 98 w81 w.heap.size (fun _ => True) (.slice (some ⟨go66, 0, none⟩) t375.length co18) t375 from (rk HO377.out)); obtain ⟨ce84, hcl84, hM84, hcc84, hfr84⟩ := Kd.R_elem HX84.out z98 (t379 : Int) (of_decide_eq_true asm) (by have h_ : (t379 : Int) < ((t375.length : Int) : Int) := of_decide_eq_true asm; first | exact h_ | (have e_ := (Kd.R_reads' HO377.out).1; omega) | simpa using h_); obtain rfl := k98_openM hM84; have HP84 := Kd.R_seg HX84.out (t379 : Int) (of_decide_eq_true asm) (by have h_ : (t379 : Int) < ((t375.length : Int) : Int) := of_decide_eq_true asm; first | exact h_ | (have e_ := (Kd.R_reads' HO377.out).1; omega) | simpa using h_) (seg := [.int .i64 0]) (j := 2) hcl84 hcc84 (show 3 ≤ 4 from by decide) (x' := (⟨(rd_T98 t375 t379).f0, (rd_T98 t375 t379).f1, 0, (rd_T98 t375 t379).f3⟩ : S98)) (k98_mkM _ _ _ (⟨(rd_T98 t375 t379).f0, (rd_T98 t375 t379).f1, 0, (rd_T98 t375 t379).f3⟩ : S98) ) (fun _ hk => hk); have hx84_2 := hcc84 2 _ rfl; (try simp only [show (k98).sz = 4 from rfl, Nat.mul_one, Nat.add_zero] at hx84_2); have hf84_2 := hfr84 2; (try simp only [show (k98).sz = 4 from rfl, Nat.mul_one, Nat.add_zero] at hf84_2); clear hcl84 hcc84 hfr84 hM84) | ((with_reducible refine gate_store (t := 3) (p := 37) rfl ?_); refine store_event (t := 3) (p := 37) (v := ?vo_w85) (w1 := (w81.setCell ⟨go66, (t379 : Int).toNat * 4 + 2, none⟩ (.int .i64 0))) ?hg ?ho ?hn ?hr ?_; (case ho => rfl); (case hg => rfl); (case hn => rfl); (case hr => first | (go_simp; done) | (go_simp; rfl)); intro w85 hw; have hg : w81.grownBy w85 (some go66) := (by rw [hw]; exact HP84.2); have hp_ : Kd.R k98 98 w85 w.heap.size (fun _ => True) (.slice (some ⟨go66, 0, none⟩) t375.length co18) y382 := (by rw [hw, Ny382.out]; exact HP84.1); clear HP84; replace BK369 := Aside0.mk (blk_grown (g := gb369) (o := .cells #[.int .i64 a0_0, .slice A0_1 l0_1.length c0_1, .slice (some ad381) l0_2.length c0_2] 41 (0, 0)) (bk BK369.out) hg (Kd.R_ne HO377.out BK369.out (by decide))); replace BK370 := Aside0.mk (blk_grown (g := gb370) (o := .cells #[.int .i64 0, .slice none 0 0, .slice none 0 0] 41 (0, 0)) (bk BK370.out) hg (Kd.R_ne HO377.out BK370.out (by decide))); replace HO374 := Aside0.mk (Kd.R_over' (v := (.slice (some ⟨go66, 0, none⟩) t375.length co18)) (rk HO374.out) (Kd.R_typed HO377.out) (by decide) hg); replace BK378 := Aside0.mk (blk_grown (g := gb378) (o := .cells #[.int .i64 t371, .slice Ao17 t372.length co17, .slice (some ⟨go66, 0, none⟩) t375.length co18] 41 (0, 0)) (bk BK378.out) hg (Kd.R_ne HO377.out BK378.out (by decide))); replace HO377 := Aside0.mk (hp_); replace HB := Aside0.mk ((by rw [hw]; exact below_set (HB.out) GB66.out : Below w.heap.size w w85)); clear hg hw hp_; obtain ⟨hcz86_0, hcz86_1, hcz86_2, hfz86_0, hfz86_1, hfz86_2⟩ := cz3 BK378.out; obtain ⟨hcz87_0, hcz87_1, hcz87_2, hfz87_0, hfz87_1, hfz87_2⟩ := cz3 BK370.out) | ((with_reducible refine gate_callee (f := 34) rfl ?_); refine goesL_ (some 14) rfl rfl Try.func34 (by kernel_rfl) rfl #[.agg #[.int .i64 a0_0, .slice A0_1 l0_1.length c0_1, .slice A0_2 l0_2.length c0_2]] rfl mapd ?_; (with_reducible refine (impl_ColumnOk.calls a0_0 _ _ l0_1 _ _ l0_2 true _ ?side1 ?side2 ?side3 ?side4 A5.out).mono ?_); (case side1 => exact cb (Kd.C_below HR0_1.out HB.out)); (case side2 => exact HC0_1.out); (case side3 => exact cb (Kd.C_below HR0_2.out HB.out)); (case side4 => exact HC0_2.out); rintro e w61 ⟨rfl, hb⟩; refine ⟨_, rfl, ?_⟩; replace HO374 := Aside0.mk (Kd.R_below (rk HO374.out) hb); replace HO377 := Aside0.mk (Kd.R_below (rk HO377.out) hb); replace BK369 := Aside0.mk (bb BK369.out hb); replace BK370 := Aside0.mk (bb BK370.out hb); replace BK378 := Aside0.mk (bb BK378.out hb); replace HB := Aside0.mk (below_step (bl HB.out) hb); (try clear hb); (try clear hb2); (try clear hk); (try clear hi); obtain ⟨hcz62_0, hcz62_1, hcz62_2, hfz62_0, hfz62_1, hfz62_2⟩ := cz3 BK369.out; have p381 : 0 ≤ (t379 : Int) := of_decide_eq_true asm; have q381 : t379 < (l0_2.length : Int) := of_decide_eq_true asm; obtain ⟨ad381, e381, hx381_0, hx381_1, hx381_2, hx381_3⟩ := at_T98 HR0_2.out t379 p381 q381; (try rw [← Nbq45.out] at hx381_3); cases e381; replace hx381_0 := (HB.out.cell (World.block_lt_of_cell? w _ hx381_0)).trans hx381_0; replace hx381_1 := (HB.out.cell (World.block_lt_of_cell? w _ hx381_1)).trans hx381_1; replace hx381_2 := (HB.out.cell (World.block_lt_of_cell? w _ hx381_2)).trans hx381_2; replace hx381_3 := (HB.out.cell (World.block_lt_of_cell? w _ hx381_3)).trans hx381_3; replace p381 := eq_true p381; replace q381 := eq_true q381; obtain ⟨hcz63_0, hcz63_1, hcz63_2, hfz63_0, hfz63_1, hfz63_2⟩ := cz3 BK378.out; obtain ⟨hcz64_0, hcz64_1, hcz64_2, hfz64_0, hfz64_1, hfz64_2⟩ := cz3 BK370.out) | ((with_reducible refine gate_callee (f := 34) rfl ?_); refine goesL_ (some 14) rfl rfl Try.func34 (by kernel_rfl) rfl #[.agg #[.int .i64 a0_0, .slice A0_1 l0_1.length c0_1, .slice A0_2 l0_2.length c0_2]] rfl mapd ?_; (with_reducible refine (impl_ColumnOk.calls a0_0 _ _ l0_1 _ _ l0_2 true _ ?side1 ?side2 ?side3 ?side4 A5.out).mono ?_); (case side1 => exact cb (Kd.C_below HR0_1.out HB.out)); (case side2 => exact HC0_1.out); (case side3 => exact cb (Kd.C_below HR0_2.out HB.out)); (case side4 => exact HC0_2.out); rintro e w22 ⟨rfl, hb⟩; refine ⟨_, rfl, ?_⟩; replace HO374 := Aside0.mk (Kd.R_below (rk HO374.out) hb); replace HO377 := Aside0.mk (Kd.R_below (rk HO377.out) hb); replace BK369 := Aside0.mk (bb BK369.out hb); replace BK370 := Aside0.mk (bb BK370.out hb); replace BK378 := Aside0.mk (bb BK378.out hb); replace HB := Aside0.mk (below_step (bl HB.out) hb); (try clear hb); (try clear hb2); (try clear hk); (try clear hi); obtain ⟨hcz23_0, hcz23_1, hcz23_2, hfz23_0, hfz23_1, hfz23_2⟩ := cz3 BK378.out; obtain ⟨hcz24_0, hcz24_1, hcz24_2, hfz24_0, hfz24_1, hfz24_2⟩ := cz3 BK370.out))
 ·refine bodyPost_ret (results_ct rfl _ _ gb370 41 #[.int .i64 t371, .slice Ao17 t372.length co17, .slice Ao18 t375.length co18] (0, 0) _ rfl (by refine bk ?_; refine blk_put (cs := #[.int .i64 t371, .slice Ao17 t372.length co17, .slice none 0 0]) ?_ 2 _ rfl; refine bk ?_; refine blk_put (cs := #[.int .i64 t371, .slice none 0 0, .slice none 0 0]) ?_ 1 _ rfl; refine bk ?_; refine blk_put (cs := #[.int .i64 0, .slice none 0 0, .slice none 0 0]) ?_ 0 _ rfl; refine bk ?_; exact BK370.out) Try.underlying41 rfl (by kernel_rfl)) rfl ?_
  exact ⟨_, _, by first | rfl | (simp [errW_none, errW_some] <;> rfl) | (simp [*, errW_none, errW_some] <;> rfl), by refine rk ?_; exact Kd.R_mono (Kd.R_far (p := ⟨gb370, 2, none⟩) (Kd.R_far (p := ⟨gb370, 1, none⟩) (Kd.R_far (p := ⟨gb370, 0, none⟩) (Kd.R_types HO374.out BK370.out (by decide)) (fun _ hk => hk.2) (.int .i64 t371)) (fun _ hk => hk.2) (.slice Ao17 t372.length co17)) (fun _ hk => hk.2) (.slice Ao18 t375.length co18)) (fun _ hk => trivial), by refine rk ?_; exact Kd.R_mono (Kd.R_far (p := ⟨gb370, 2, none⟩) (Kd.R_far (p := ⟨gb370, 1, none⟩) (Kd.R_far (p := ⟨gb370, 0, none⟩) (Kd.R_types HO377.out BK370.out (by decide)) (fun _ hk => hk.2) (.int .i64 t371)) (fun _ hk => hk.2) (.slice Ao17 t372.length co17)) (fun _ hk => hk.2) (.slice Ao18 t375.length co18)) (fun _ hk => trivial), bl HB.out⟩
 ·refine bodyPost_ret (results_ct rfl _ _ gb370 41 #[.int .i64 t371, .slice Ao17 t372.length co17, .slice Ao18 t375.length co18] (0, 0) _ rfl (by refine bk ?_; refine blk_put (cs := #[.int .i64 t371, .slice Ao17 t372.length co17, .slice none 0 0]) ?_ 2 _ rfl; refine bk ?_; refine blk_put (cs := #[.int .i64 t371, .slice none 0 0, .slice none 0 0]) ?_ 1 _ rfl; refine bk ?_; refine blk_put (cs := #[.int .i64 0, .slice none 0 0, .slice none 0 0]) ?_ 0 _ rfl; refine bk ?_; exact BK370.out) Try.underlying41 rfl (by kernel_rfl)) rfl ?_
  exact ⟨_, _, by first | rfl | (simp [errW_none, errW_some] <;> rfl) | (simp [*, errW_none, errW_some] <;> rfl), by refine rk ?_; exact Kd.R_mono (Kd.R_far (p := ⟨gb370, 2, none⟩) (Kd.R_far (p := ⟨gb370, 1, none⟩) (Kd.R_far (p := ⟨gb370, 0, none⟩) (Kd.R_types HO374.out BK370.out (by decide)) (fun _ hk => hk.2) (.int .i64 t371)) (fun _ hk => hk.2) (.slice Ao17 t372.length co17)) (fun _ hk => hk.2) (.slice Ao18 t375.length co18)) (fun _ hk => trivial), by refine rk ?_; exact Kd.R_mono (Kd.R_far (p := ⟨gb370, 2, none⟩) (Kd.R_far (p := ⟨gb370, 1, none⟩) (Kd.R_far (p := ⟨gb370, 0, none⟩) (Kd.R_types HO377.out BK370.out (by decide)) (fun _ hk => hk.2) (.int .i64 t371)) (fun _ hk => hk.2) (.slice Ao17 t372.length co17)) (fun _ hk => hk.2) (.slice Ao18 t375.length co18)) (fun _ hk => trivial), bl HB.out⟩
 ·refine bodyPost_ret (results_ct rfl _ _ gb370 41 #[.int .i64 t371, .slice Ao17 t372.length co17, .slice Ao18 t375.length co18] (0, 0) _ rfl (by refine bk ?_; refine blk_put (cs := #[.int .i64 t371, .slice Ao17 t372.length co17, .slice none 0 0]) ?_ 2 _ rfl; refine bk ?_; refine blk_put (cs := #[.int .i64 t371, .slice none 0 0, .slice none 0 0]) ?_ 1 _ rfl; refine bk ?_; refine blk_put (cs := #[.int .i64 0, .slice none 0 0, .slice none 0 0]) ?_ 0 _ rfl; refine bk ?_; exact BK370.out) Try.underlying41 rfl (by kernel_rfl)) rfl ?_
  exact ⟨_, _, by first | rfl | (simp [errW_none, errW_some] <;> rfl) | (simp [*, errW_none, errW_some] <;> rfl), by refine rk ?_; exact Kd.R_mono (Kd.R_far (p := ⟨gb370, 2, none⟩) (Kd.R_far (p := ⟨gb370, 1, none⟩) (Kd.R_far (p := ⟨gb370, 0, none⟩) (Kd.R_types HO374.out BK370.out (by decide)) (fun _ hk => hk.2) (.int .i64 t371)) (fun _ hk => hk.2) (.slice Ao17 t372.length co17)) (fun _ hk => hk.2) (.slice Ao18 t375.length co18)) (fun _ hk => trivial), by refine rk ?_; exact Kd.R_mono (Kd.R_far (p := ⟨gb370, 2, none⟩) (Kd.R_far (p := ⟨gb370, 1, none⟩) (Kd.R_far (p := ⟨gb370, 0, none⟩) (Kd.R_types HO377.out BK370.out (by decide)) (fun _ hk => hk.2) (.int .i64 t371)) (fun _ hk => hk.2) (.slice Ao17 t372.length co17)) (fun _ hk => hk.2) (.slice Ao18 t375.length co18)) (fun _ hk => trivial), bl HB.out⟩
 ·refine bodyPost_ret (results_ct rfl _ _ gb370 41 #[.int .i64 t371, .slice Ao17 t372.length co17, .slice (some ⟨go66, 0, none⟩) t375.length co18] (0, 0) _ rfl (by refine bk ?_; refine blk_put (cs := #[.int .i64 t371, .slice Ao17 t372.length co17, .slice none 0 0]) ?_ 2 _ rfl; refine bk ?_; refine blk_put (cs := #[.int .i64 t371, .slice none 0 0, .slice none 0 0]) ?_ 1 _ rfl; refine bk ?_; refine blk_put (cs := #[.int .i64 0, .slice none 0 0, .slice none 0 0]) ?_ 0 _ rfl; refine bk ?_; exact BK370.out) Try.underlying41 rfl (by kernel_rfl)) rfl ?_
  exact ⟨_, _, by first | rfl | (simp [errW_none, errW_some] <;> rfl) | (simp [*, errW_none, errW_some] <;> rfl), by refine rk ?_; exact Kd.R_mono (Kd.R_far (p := ⟨gb370, 2, none⟩) (Kd.R_far (p := ⟨gb370, 1, none⟩) (Kd.R_far (p := ⟨gb370, 0, none⟩) (Kd.R_types HO374.out BK370.out (by decide)) (fun _ hk => hk.2) (.int .i64 t371)) (fun _ hk => hk.2) (.slice Ao17 t372.length co17)) (fun _ hk => hk.2) (.slice (some ⟨go66, 0, none⟩) t375.length co18)) (fun _ hk => trivial), by refine rk ?_; exact Kd.R_mono (Kd.R_far (p := ⟨gb370, 2, none⟩) (Kd.R_far (p := ⟨gb370, 1, none⟩) (Kd.R_far (p := ⟨gb370, 0, none⟩) (Kd.R_types HO377.out BK370.out (by decide)) (fun _ hk => hk.2) (.int .i64 t371)) (fun _ hk => hk.2) (.slice Ao17 t372.length co17)) (fun _ hk => hk.2) (.slice (some ⟨go66, 0, none⟩) t375.length co18)) (fun _ hk => trivial), bl HB.out⟩
 ·refine bodyPost_ret (results_ct rfl _ _ gb370 41 #[.int .i64 t371, .slice Ao17 t372.length co17, .slice Ao18 t375.length co18] (0, 0) _ rfl (by refine bk ?_; refine blk_put (cs := #[.int .i64 t371, .slice Ao17 t372.length co17, .slice none 0 0]) ?_ 2 _ rfl; refine bk ?_; refine blk_put (cs := #[.int .i64 t371, .slice none 0 0, .slice none 0 0]) ?_ 1 _ rfl; refine bk ?_; refine blk_put (cs := #[.int .i64 0, .slice none 0 0, .slice none 0 0]) ?_ 0 _ rfl; refine bk ?_; exact BK370.out) Try.underlying41 rfl (by kernel_rfl)) rfl ?_
  exact ⟨_, _, by first | rfl | (simp [errW_none, errW_some] <;> rfl) | (simp [*, errW_none, errW_some] <;> rfl), by refine rk ?_; exact Kd.R_mono (Kd.R_far (p := ⟨gb370, 2, none⟩) (Kd.R_far (p := ⟨gb370, 1, none⟩) (Kd.R_far (p := ⟨gb370, 0, none⟩) (Kd.R_types HO374.out BK370.out (by decide)) (fun _ hk => hk.2) (.int .i64 t371)) (fun _ hk => hk.2) (.slice Ao17 t372.length co17)) (fun _ hk => hk.2) (.slice Ao18 t375.length co18)) (fun _ hk => trivial), by refine rk ?_; exact Kd.R_mono (Kd.R_far (p := ⟨gb370, 2, none⟩) (Kd.R_far (p := ⟨gb370, 1, none⟩) (Kd.R_far (p := ⟨gb370, 0, none⟩) (Kd.R_types HO377.out BK370.out (by decide)) (fun _ hk => hk.2) (.int .i64 t371)) (fun _ hk => hk.2) (.slice Ao17 t372.length co17)) (fun _ hk => hk.2) (.slice Ao18 t375.length co18)) (fun _ hk => trivial), bl HB.out⟩

end Go.Proofs.Ytbpjidekjogfeaa.A

namespace Go.Proofs.Ytbpjidekjogfeaa.A
open Go.RowKit Go.Proofs.YtbpjidekjogfeaaW.PrintWords Go.Proofs.YtbpjidekjogfeaaW.PrintLast Go.Proofs.YtbpjidekjogfeaaW.PrintMore
attribute [local go_sem] max2_int min2_int max_two min_two max_three min_three max_four min_four   
set_option linter.unusedVariables false
set_option linter.unusedSimpArgs false
def slices_Index_int_int.l0 : Nat → List Int → Int → Int → Int → Option (Int)
 | 0, _, _, _, _ => none
 | k + 1, x0, x1, x7, x8 => if x8 < x7 then (if 0 ≤ x8 then (if x8 < (x0.length : Int) then (if x1 = (rd x0 x8) then (some x8) else (slices_Index_int_int.l0 k x0 x1 x7 (wrap64 (x8 + 1)))) else (none)) else (none)) else (some (-1))
def slices_Index_int_int.f (k : Nat) (l0 : List Int) (a1 : Int) : Option (Int) := slices_Index_int_int.l0 k l0 a1 (l0.length : Int) 0
set_option maxHeartbeats 8000000 in
set_option maxRecDepth 100000 in
theorem slices_Index_int_int.calls (k : Nat) (A0 : Option Addr) (c0 : Nat) (l0 : List Int) (a1 : Int) (r : Int) (w : World) (hr0 : Kd.C (Kd.int .i64) w A0 l0.length l0) (hc0 : l0.length ≤ c0) (h : slices_Index_int_int.f k l0 a1 = some r) :
  Calls Try.prog 127 #[.slice A0 l0.length c0, .int .i64 a1] w fun e w' => e = .returned (.int .i64 r) ∧ Drawn0 w w' := by
 have HR0 := Aside0.mk hr0
 have HC0 := Aside0.mk hc0
 clear hr0 hc0
 have H : (slices_Index_int_int.l0 k l0 a1 (l0.length : Int) 0) = some r := h
 clear h
 have H' := Aside0.mk H
 clear H
 go_enter Try.func127, Try.ntmps127
 go_wp2
 go_loopg [8] k (fun kq v8 w' => ∃ (x8_1 : Int), v8 = .int .i64 x8_1 ∧ Aside0 (slices_Index_int_int.l0 kq l0 a1 (l0.length : Int) x8_1 = some r) ∧ Aside0 (kq ≤ k) ∧ Drawn0 w w')
 case atStart => exact ⟨(0), (by first | rfl | (simp; done) | (simp [*]; done)), H', ⟨Nat.le_refl _⟩, by repeat (first | exact Drawn0.refl _ | apply Drawn0.step)⟩
 case round =>
  clear H'
  try clear c1
  try clear p2
  obtain ⟨x8_1, rfl, HA, HK1, ⟨m1, rfl⟩⟩ := hrel
  cases gk with
  | zero => exact absurd HA.out (by simp [slices_Index_int_int.l0])
  | succ k1 =>
   have H := HA.out
   clear HA
   simp only [slices_Index_int_int.l0] at H
   by_cases c3 : x8_1 < (l0.length : Int)
   ·rw [if_pos c3] at H
    have c3b0 : decide (x8_1 < (l0.length : Int)) = true := decide_eq_true c3
    clear c3
    by_cases c4 : 0 ≤ x8_1
    ·rw [if_pos c4] at H
     have c4b0 : decide (0 ≤ x8_1) = true := decide_eq_true c4
     clear c4
     by_cases c5 : x8_1 < (l0.length : Int)
     ·rw [if_pos c5] at H
      have c5b0 : decide (x8_1 < (l0.length : Int)) = true := decide_eq_true c5
      clear c5
      by_cases c6 : a1 = (rd l0 x8_1)
      ·rw [if_pos c6] at H
       have c6b0 : (a1 == (rd l0 x8_1)) = true := beq_iff_eq.mpr c6
       have c6b1 : (a1 != (rd l0 x8_1)) = false := bne_eq_false_iff_eq.mpr c6
       clear c6
       obtain rfl := Option.some.inj H
       have p206 : 0 ≤ (x8_1 : Int) := of_decide_eq_true asm
       have q206 : x8_1 < (l0.length : Int) := of_decide_eq_true asm
       obtain ⟨ad206, e206, hx206_0⟩ := Kd.at_int HR0.out x8_1 p206 q206
       cases e206
       replace p206 := eq_true p206
       replace q206 := eq_true q206
       go_wp2
       go_ret
       exact ⟨by first | rfl | (simp; done) | (simp [*]; done), by repeat (first | exact Drawn0.refl _ | apply Drawn0.step)⟩
      ·rw [if_neg c6] at H
       have c6b0 : (a1 == (rd l0 x8_1)) = false := beq_eq_false_iff_ne.mpr c6
       have c6b1 : (a1 != (rd l0 x8_1)) = true := bne_iff_ne.mpr c6
       have H' := Aside0.mk H
       clear H
       have p206 : 0 ≤ (x8_1 : Int) := of_decide_eq_true asm
       have q206 : x8_1 < (l0.length : Int) := of_decide_eq_true asm
       obtain ⟨ad206, e206, hx206_0⟩ := Kd.at_int HR0.out x8_1 p206 q206
       cases e206
       replace p206 := eq_true p206
       replace q206 := eq_true q206
       go_wp2
       go_roundg k1
       case measure => have := HK1.out; omega
       case rel => exact ⟨(wrap64 (x8_1 + 1)), (by first | rfl | (simp; done) | (simp [*]; done)), H', ⟨by have := HK1.out; omega⟩, by repeat (first | exact Drawn0.refl _ | apply Drawn0.step)⟩
     ·rw [if_neg c5] at H
      exact absurd H (by simp)
    ·rw [if_neg c4] at H
     exact absurd H (by simp)
   ·rw [if_neg c3] at H
    have c3b0 : decide (x8_1 < (l0.length : Int)) = false := decide_eq_false c3
    clear c3
    obtain rfl := Option.some.inj H
    go_wp2
    go_ret
    exact ⟨by first | rfl | (simp; done) | (simp [*]; done), by repeat (first | exact Drawn0.refl _ | apply Drawn0.step)⟩
def slices_Contains_int_int.f (k : Nat) (l0 : List Int) (a1 : Int) : Option (Bool) := (slices_Index_int_int.f k l0 a1).bind fun t207 => (some (decide (t207 ≥ 0)))
set_option maxHeartbeats 8000000 in
set_option maxRecDepth 100000 in
theorem slices_Contains_int_int.calls (k : Nat) (A0 : Option Addr) (c0 : Nat) (l0 : List Int) (a1 : Int) (r : Bool) (w : World) (hr0 : Kd.C (Kd.int .i64) w A0 l0.length l0) (hc0 : l0.length ≤ c0) (h : slices_Contains_int_int.f k l0 a1 = some r) :
  Calls Try.prog 124 #[.slice A0 l0.length c0, .int .i64 a1] w fun e w' => e = .returned (.bool r) ∧ Drawn0 w w' := by
 have HR0 := Aside0.mk hr0
 have HC0 := Aside0.mk hc0
 clear hr0 hc0
 have H : ((slices_Index_int_int.f k l0 a1).bind fun t207 => (some (decide (t207 ≥ 0)))) = some r := h
 clear h
 replace H := Option.bind_eq_some_iff.mp H
 obtain ⟨t207, A30, H⟩ := H
 try dsimp only at H
 have A3 := Aside0.mk A30
 clear A30
 obtain rfl := Option.some.inj H
 go_enter Try.func124, Try.ntmps124
 go_wp2_with (first | ((with_reducible refine gate_callee (f := 127) rfl ?_); refine goesL_ (some 7) rfl rfl Try.func127 (by kernel_rfl) rfl #[.slice A0 l0.length c0, .int .i64 a1] rfl mapd ?_; (with_reducible refine (slices_Index_int_int.calls k _ _ l0 a1 t207 _ ?side1 ?side2 A3.out).mono ?_); (case side1 => repeat (first | exact HR0.out | (with_reducible refine Kd.C_alloc ?_ _) | (with_reducible refine Kd.C_drewN ?_ _) | (with_reducible refine Kd.C_drew ?_))); (case side2 => exact HC0.out); rintro e w' ⟨rfl, ⟨nd, rfl⟩⟩; refine ⟨_, rfl, ?_⟩))
 go_ret
 exact ⟨by first | rfl | (simp; done) | (simp [*]; done), by repeat (first | exact Drawn0.refl _ | apply Drawn0.step)⟩
end Go.Proofs.Ytbpjidekjogfeaa.A
