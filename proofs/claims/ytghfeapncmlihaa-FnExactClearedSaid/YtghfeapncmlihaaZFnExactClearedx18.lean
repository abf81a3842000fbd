/- What the proof of the law FnExactCleared uses: lemmas, the Lean functions of the Go functions that it reaches, their contracts, and the pure statement's proof. -/
import Derived.Test.YtghfeapncmlihaaZFnExactClearedx14
import Derived.Test.YtghfeapncmlihaaZFnExactClearedh
namespace Go.Proofs.Ytghfeapncmlihaa.A
open Go.RowKit Go.Proofs.YtghfeapncmlihaaW.PrintWords Go.Proofs.YtghfeapncmlihaaW.PrintLast Go.Proofs.YtghfeapncmlihaaW.PrintMore
attribute [local go_sem] max2_int min2_int max_two min_two max_three min_three max_four min_four   
set_option linter.unusedVariables false
set_option linter.unusedSimpArgs false
mutual
def spec_l02Boxes.l0 : Nat → Int → Int → Int → List Int → List (S71) → Option (Bool)
  | 0, _, _, _, _, _ => none
  | k + 1, x3, x4, x105000, x105001, x105002 => if x4 < (x105002.length : Int) then (if 0 ≤ x4 then (if ((rd_T71 x105002 x4).f0) = x3 then ((spec_l01In.f ((rd_T71 x105002 x4).f1) 1 24).bind fun t107 => (if t107 = true then ((spec_l01In.f ((rd_T71 x105002 x4).f2) 0 999).bind fun t108 => (spec_l02Boxes.j1 k x3 x4 (!t108) x105000 x105001 x105002 ((rd_T71 x105002 x4).f0) ((rd_T71 x105002 x4).f1) ((rd_T71 x105002 x4).f2) ((rd_T71 x105002 x4).f3))) else (spec_l02Boxes.j1 k x3 x4 true x105000 x105001 x105002 ((rd_T71 x105002 x4).f0) ((rd_T71 x105002 x4).f1) ((rd_T71 x105002 x4).f2) ((rd_T71 x105002 x4).f3)))) else (spec_l02Boxes.j1 k x3 x4 true x105000 x105001 x105002 ((rd_T71 x105002 x4).f0) ((rd_T71 x105002 x4).f1) ((rd_T71 x105002 x4).f2) ((rd_T71 x105002 x4).f3))) else (none)) else (if (x105002.length : Int) > 0 then (some (x3 == x105000)) else (some false))
def spec_l02Boxes.j1 : Nat → Int → Int → Bool → Int → List Int → List (S71) → Int → Int → Int → Bool → Option (Bool)
  | 0, _, _, _, _, _, _, _, _, _, _ => none
  | k + 1, x3, x4, x34, x105000, x105001, x105002, x107000, x107001, x107002, x107003 => if x34 = true then (some false) else (spec_l02Boxes.l1 k x3 x4 0 x105000 x105001 x105002 x107000 x107001 x107002 x107003)
def spec_l02Boxes.l1 : Nat → Int → Int → Int → Int → List Int → List (S71) → Int → Int → Int → Bool → Option (Bool)
  | 0, _, _, _, _, _, _, _, _, _, _ => none
  | k + 1, x3, x4, x6, x105000, x105001, x105002, x107000, x107001, x107002, x107003 => if x6 < x4 then (if x107002 > 0 then (if 0 ≤ x6 then (if x6 < (x105002.length : Int) then (if ((rd_T71 x105002 x6).f2) = x107002 then (some false) else (spec_l02Boxes.l1 k x3 x4 (wrap64 (x6 + 1)) x105000 x105001 x105002 x107000 x107001 x107002 x107003)) else (none)) else (none)) else (spec_l02Boxes.l1 k x3 x4 (wrap64 (x6 + 1)) x105000 x105001 x105002 x107000 x107001 x107002 x107003)) else (if (wrap64 (x3 + x107001)) > 24 then (some false) else (spec_l02Boxes.l0 k (wrap64 (x3 + x107001)) (wrap64 (x4 + 1)) x105000 x105001 x105002))
end
def spec_l02Boxes.f (k : Nat) (a0_0 : Int) (l0_1 : List Int) (l0_2 : List (S71)) : Option (Bool) := spec_l02Boxes.l0 k 0 0 a0_0 l0_1 l0_2
set_option maxHeartbeats 8000000 in
set_option maxRecDepth 100000 in
theorem spec_l02Boxes.calls (k : Nat) (a0_0 : Int) (A0_1 : Option Addr) (c0_1 : Nat) (l0_1 : List Int) (A0_2 : Option Addr) (c0_2 : Nat) (l0_2 : List (S71)) (r : Bool) (w : World) (hr0_1 : Kd.C (Kd.int .i64) w A0_1 l0_1.length l0_1) (hc0_1 : l0_1.length ≤ c0_1) (hr0_2 : Kd.C k71 w A0_2 l0_2.length l0_2) (hc0_2 : l0_2.length ≤ c0_2) (h : spec_l02Boxes.f k a0_0 l0_1 l0_2 = some r) :
    Calls Try.prog 60 #[.agg #[.int .i64 a0_0, .slice A0_1 l0_1.length c0_1, .slice A0_2 l0_2.length c0_2]] w fun e w' => e = .returned (.bool r) ∧ Below w.heap.size w w' := by
  have hu30 := Try.underlying30
  have hu71 := Try.underlying71
  have HR0_1 := Aside0.mk hr0_1
  have HC0_1 := Aside0.mk hc0_1
  clear hr0_1 hc0_1
  have HR0_2 := Aside0.mk hr0_2
  have HC0_2 := Aside0.mk hc0_2
  clear hr0_2 hc0_2
  have HB := Aside0.mk (Below.refl w.heap.size w)
  have H : (spec_l02Boxes.l0 k 0 0 a0_0 l0_1 l0_2) = some r := h
  clear h
  have H' := Aside0.mk H
  clear H
  go_enter Try.func60, Try.ntmps60
  go_wp2_with (first | ((with_reducible refine gate_dst (N := 1) rfl ?_); refine bx (cs := #[.int .i64 a0_0, .slice A0_1 l0_1.length c0_1, .slice A0_2 l0_2.length c0_2]) (t := 30) fun gb104 hg w2 hbox hb => ?_; have BK104 := Aside0.mk (hbox); have GW104 := Aside0.mk (gs HB.out hg); have GE104 := Aside0.mk (gs HB.out hg); replace HB := Aside0.mk (below_step (bl HB.out) hb); clear hb hbox hg))
  repeat (go_quiet (first | ((with_reducible refine gate_dst (N := 1) rfl ?_); refine bx (cs := #[.int .i64 a0_0, .slice A0_1 l0_1.length c0_1, .slice A0_2 l0_2.length c0_2]) (t := 30) fun gb104 hg w2 hbox hb => ?_; have BK104 := Aside0.mk (hbox); have GW104 := Aside0.mk (gs HB.out hg); have GE104 := Aside0.mk (gs HB.out hg); replace HB := Aside0.mk (below_step (bl HB.out) hb); clear hb hbox hg)); try go_wp2_with (first | ((with_reducible refine gate_dst (N := 1) rfl ?_); refine bx (cs := #[.int .i64 a0_0, .slice A0_1 l0_1.length c0_1, .slice A0_2 l0_2.length c0_2]) (t := 30) fun gb104 hg w2 hbox hb => ?_; have BK104 := Aside0.mk (hbox); have GW104 := Aside0.mk (gs HB.out hg); have GE104 := Aside0.mk (gs HB.out hg); replace HB := Aside0.mk (below_step (bl HB.out) hb); clear hb hbox hg)))
  go_loopg [3, 4] k (fun kq v3 v4 w' => ∃ (x3_1 : Int) (x4_1 : Int), v3 = .int .i64 x3_1 ∧ v4 = .int .i64 x4_1 ∧ Aside0 (spec_l02Boxes.l0 kq x3_1 x4_1 a0_0 l0_1 l0_2 = some r) ∧ Aside0 (kq ≤ k) ∧ Aside0 (w'.heap[gb104]? = some (.cells #[.int .i64 a0_0, (.slice A0_1 l0_1.length c0_1), (.slice A0_2 l0_2.length c0_2)] 30 (0, 0))) ∧ Aside0 (Below w.heap.size w w'))
  case atStart => exact ⟨(0), (0), (by first | rfl | (simp; done) | (simp [*]; done)), (by first | rfl | (simp; done) | (simp [*]; done)), H', ⟨Nat.le_refl _⟩, ⟨by (with_reducible repeat (first | apply bN | apply bD | apply bA)); exact BK104.out⟩, ⟨bl HB.out⟩⟩
  case round =>
    clear H'
    try clear p2
    obtain ⟨x3_1, x4_1, rfl, rfl, HA, HK1, BK104, HB⟩ := hrel
    cases gk with
    | zero => exact absurd HA.out (by simp [spec_l02Boxes.l0])
    | succ k1 =>
      have H := HA.out
      clear HA
      simp only [spec_l02Boxes.l0] at H
      by_cases c3 : x4_1 < (l0_2.length : Int)
      · rw [if_pos c3] at H
        have c3b0 : decide (x4_1 < (l0_2.length : Int)) = true := decide_eq_true c3
        clear c3
        by_cases c4 : 0 ≤ x4_1
        · rw [if_pos c4] at H
          have c4b0 : decide (0 ≤ x4_1) = true := decide_eq_true c4
          clear c4
          have HC5 := Aside0.mk H
          clear H
          have hcz6_0 : wr.cell? ⟨gb104, 0, none⟩ = some (.int .i64 a0_0) := (blk_cell BK104.out 0).trans rfl
          have hcz6_1 : wr.cell? ⟨gb104, 1, none⟩ = some (.slice A0_1 l0_1.length c0_1) := (blk_cell BK104.out 1).trans rfl
          have hcz6_2 : wr.cell? ⟨gb104, 2, none⟩ = some (.slice A0_2 l0_2.length c0_2) := (blk_cell BK104.out 2).trans rfl
          have hfz6_0 := blk_frozen BK104.out 0
          have hfz6_1 := blk_frozen BK104.out 1
          have hfz6_2 := blk_frozen BK104.out 2
          have p105 : 0 ≤ (x4_1 : Int) := of_decide_eq_true (by first | (with_reducible assumption) | assumption)
          have q105 : x4_1 < (l0_2.length : Int) := of_decide_eq_true (by first | (with_reducible assumption) | assumption)
          obtain ⟨ad105, e105, hx105_0, hx105_1, hx105_2, hx105_3⟩ := at_T71 HR0_2.out x4_1 p105 q105
          cases e105
          replace hx105_0 := (HB.out.cell (World.block_lt_of_cell? w _ hx105_0)).trans hx105_0
          replace hx105_1 := (HB.out.cell (World.block_lt_of_cell? w _ hx105_1)).trans hx105_1
          replace hx105_2 := (HB.out.cell (World.block_lt_of_cell? w _ hx105_2)).trans hx105_2
          replace hx105_3 := (HB.out.cell (World.block_lt_of_cell? w _ hx105_3)).trans hx105_3
          replace p105 := eq_true p105
          replace q105 := eq_true q105
          go_upto_region 6 with (first | ((with_reducible refine gate_dst (N := 5) rfl ?_); refine bx (cs := #[.int .i64 0, .int .i64 0, .int .i64 0, .bool false]) (t := 71) fun gb106 hg w7 hbox hb => ?_; have n0_ := Aside0.mk (bb BK104.out hb); have n1_ := Aside0.mk (below_step (bl HB.out) hb); have n2_ := Aside0.mk (hbox); have n3_ := Aside0.mk (gs HB.out hg); have n4_ := Aside0.mk (gs HB.out hg); have n5_ := Aside0.mk ((nl BK104.out hg)); have n6_ := Aside0.mk ((ng BK104.out hg)); clear BK104; clear HB; have BK104 := n0_; have HB := n1_; have BK106 := n2_; have GW106 := n3_; have GE106 := n4_; have NB104_106 := n5_; have NB106_104 := n6_; clear n0_ n1_ n2_ n3_ n4_ n5_ n6_; clear hb hbox hg; have hnb8 := NB106_104.out; have hnc8 := NB104_106.out; have hcz9_0 : w7.cell? ⟨gb106, 0, none⟩ = some (.int .i64 0) := (blk_cell BK106.out 0).trans rfl; have hcz9_1 : w7.cell? ⟨gb106, 1, none⟩ = some (.int .i64 0) := (blk_cell BK106.out 1).trans rfl; have hcz9_2 : w7.cell? ⟨gb106, 2, none⟩ = some (.int .i64 0) := (blk_cell BK106.out 2).trans rfl; have hcz9_3 : w7.cell? ⟨gb106, 3, none⟩ = some (.bool false) := (blk_cell BK106.out 3).trans rfl; have hfz9_0 := blk_frozen BK106.out 0; have hfz9_1 := blk_frozen BK106.out 1; have hfz9_2 := blk_frozen BK106.out 2; have hfz9_3 := blk_frozen BK106.out 3))
          repeat (go_quiet (first | ((with_reducible refine gate_dst (N := 5) rfl ?_); refine bx (cs := #[.int .i64 0, .int .i64 0, .int .i64 0, .bool false]) (t := 71) fun gb106 hg w7 hbox hb => ?_; have n0_ := Aside0.mk (bb BK104.out hb); have n1_ := Aside0.mk (below_step (bl HB.out) hb); have n2_ := Aside0.mk (hbox); have n3_ := Aside0.mk (gs HB.out hg); have n4_ := Aside0.mk (gs HB.out hg); have n5_ := Aside0.mk ((nl BK104.out hg)); have n6_ := Aside0.mk ((ng BK104.out hg)); clear BK104; clear HB; have BK104 := n0_; have HB := n1_; have BK106 := n2_; have GW106 := n3_; have GE106 := n4_; have NB104_106 := n5_; have NB106_104 := n6_; clear n0_ n1_ n2_ n3_ n4_ n5_ n6_; clear hb hbox hg; have hnb8 := NB106_104.out; have hnc8 := NB104_106.out; have hcz9_0 : w7.cell? ⟨gb106, 0, none⟩ = some (.int .i64 0) := (blk_cell BK106.out 0).trans rfl; have hcz9_1 : w7.cell? ⟨gb106, 1, none⟩ = some (.int .i64 0) := (blk_cell BK106.out 1).trans rfl; have hcz9_2 : w7.cell? ⟨gb106, 2, none⟩ = some (.int .i64 0) := (blk_cell BK106.out 2).trans rfl; have hcz9_3 : w7.cell? ⟨gb106, 3, none⟩ = some (.bool false) := (blk_cell BK106.out 3).trans rfl; have hfz9_0 := blk_frozen BK106.out 0; have hfz9_1 := blk_frozen BK106.out 1; have hfz9_2 := blk_frozen BK106.out 2; have hfz9_3 := blk_frozen BK106.out 3)); go_upto_region 6 with (first | ((with_reducible refine gate_dst (N := 5) rfl ?_); refine bx (cs := #[.int .i64 0, .int .i64 0, .int .i64 0, .bool false]) (t := 71) fun gb106 hg w7 hbox hb => ?_; have n0_ := Aside0.mk (bb BK104.out hb); have n1_ := Aside0.mk (below_step (bl HB.out) hb); have n2_ := Aside0.mk (hbox); have n3_ := Aside0.mk (gs HB.out hg); have n4_ := Aside0.mk (gs HB.out hg); have n5_ := Aside0.mk ((nl BK104.out hg)); have n6_ := Aside0.mk ((ng BK104.out hg)); clear BK104; clear HB; have BK104 := n0_; have HB := n1_; have BK106 := n2_; have GW106 := n3_; have GE106 := n4_; have NB104_106 := n5_; have NB106_104 := n6_; clear n0_ n1_ n2_ n3_ n4_ n5_ n6_; clear hb hbox hg; have hnb8 := NB106_104.out; have hnc8 := NB104_106.out; have hcz9_0 : w7.cell? ⟨gb106, 0, none⟩ = some (.int .i64 0) := (blk_cell BK106.out 0).trans rfl; have hcz9_1 : w7.cell? ⟨gb106, 1, none⟩ = some (.int .i64 0) := (blk_cell BK106.out 1).trans rfl; have hcz9_2 : w7.cell? ⟨gb106, 2, none⟩ = some (.int .i64 0) := (blk_cell BK106.out 2).trans rfl; have hcz9_3 : w7.cell? ⟨gb106, 3, none⟩ = some (.bool false) := (blk_cell BK106.out 3).trans rfl; have hfz9_0 := blk_frozen BK106.out 0; have hfz9_1 := blk_frozen BK106.out 1; have hfz9_2 := blk_frozen BK106.out 2; have hfz9_3 := blk_frozen BK106.out 3)))
          (try simp only [Act.put, List.setIfInBounds_toArray, List.set_cons_zero, List.set_cons_succ])
          go_cut [34] (fun v34 wc => ∃ (kq : Nat) (x34_4 : Bool), v34 = .bool x34_4 ∧ Aside0 (spec_l02Boxes.j1 kq x3_1 x4_1 x34_4 a0_0 l0_1 l0_2 ((rd_T71 l0_2 x4_1).f0) ((rd_T71 l0_2 x4_1).f1) ((rd_T71 l0_2 x4_1).f2) ((rd_T71 l0_2 x4_1).f3) = some r) ∧ Aside0 (kq ≤ k1) ∧ Aside0 (wc.heap[gb104]? = some (.cells #[.int .i64 a0_0, (.slice A0_1 l0_1.length c0_1), (.slice (some ad105) l0_2.length c0_2)] 30 (0, 0))) ∧ Aside0 (wc.heap[gb106]? = some (.cells #[.int .i64 ((rd_T71 l0_2 x4_1).f0), .int .i64 ((rd_T71 l0_2 x4_1).f1), .int .i64 ((rd_T71 l0_2 x4_1).f2), .bool ((rd_T71 l0_2 x4_1).f3)] 71 (0, 0))) ∧ Aside0 (Below w.heap.size w wc))
          case first =>
            have H := HC5.out
            clear HC5
            by_cases c10 : ((rd_T71 l0_2 x4_1).f0) = x3_1
            · rw [if_pos c10] at H
              have c10b0 : (((rd_T71 l0_2 x4_1).f0) == x3_1) = true := beq_iff_eq.mpr c10
              have c10b1 : (((rd_T71 l0_2 x4_1).f0) != x3_1) = false := bne_eq_false_iff_eq.mpr c10
              clear c10
              (first | rw [c10b0] | (simp only [i64_w, i32_w]; rw [c10b0]) | skip)
              replace H := Option.bind_eq_some_iff.mp H
              obtain ⟨t107, A110, H⟩ := H
              replace H : (if t107 = true then ((spec_l01In.f ((rd_T71 l0_2 x4_1).f2) 0 999).bind fun t108 => (spec_l02Boxes.j1 k1 x3_1 x4_1 (!t108) a0_0 l0_1 l0_2 ((rd_T71 l0_2 x4_1).f0) ((rd_T71 l0_2 x4_1).f1) ((rd_T71 l0_2 x4_1).f2) ((rd_T71 l0_2 x4_1).f3))) else (spec_l02Boxes.j1 k1 x3_1 x4_1 true a0_0 l0_1 l0_2 ((rd_T71 l0_2 x4_1).f0) ((rd_T71 l0_2 x4_1).f1) ((rd_T71 l0_2 x4_1).f2) ((rd_T71 l0_2 x4_1).f3))) = some r := H
              have A11 := Aside0.mk A110
              clear A110
              by_cases c12 : t107 = true
              · subst c12
                have H1 : ((spec_l01In.f ((rd_T71 l0_2 x4_1).f2) 0 999).bind fun t108 => (spec_l02Boxes.j1 k1 x3_1 x4_1 (!t108) a0_0 l0_1 l0_2 ((rd_T71 l0_2 x4_1).f0) ((rd_T71 l0_2 x4_1).f1) ((rd_T71 l0_2 x4_1).f2) ((rd_T71 l0_2 x4_1).f3))) = some r := by rw [if_pos rfl] at H; exact H
                clear H
                have H := H1
                clear H1
                replace H := Option.bind_eq_some_iff.mp H
                obtain ⟨t108, A130, H⟩ := H
                replace H : (spec_l02Boxes.j1 k1 x3_1 x4_1 (!t108) a0_0 l0_1 l0_2 ((rd_T71 l0_2 x4_1).f0) ((rd_T71 l0_2 x4_1).f1) ((rd_T71 l0_2 x4_1).f2) ((rd_T71 l0_2 x4_1).f3)) = some r := H
                have A13 := Aside0.mk A130
                clear A130
                have H' := Aside0.mk H
                clear H
                have hnb14 := NB106_104.out
                have hnc14 := NB104_106.out
                have hcz15_0 : w7.cell? ⟨gb106, 0, none⟩ = some (.int .i64 0) := (blk_cell BK106.out 0).trans rfl
                have hcz15_1 : w7.cell? ⟨gb106, 1, none⟩ = some (.int .i64 0) := (blk_cell BK106.out 1).trans rfl
                have hcz15_2 : w7.cell? ⟨gb106, 2, none⟩ = some (.int .i64 0) := (blk_cell BK106.out 2).trans rfl
                have hcz15_3 : w7.cell? ⟨gb106, 3, none⟩ = some (.bool false) := (blk_cell BK106.out 3).trans rfl
                have hfz15_0 := blk_frozen BK106.out 0
                have hfz15_1 := blk_frozen BK106.out 1
                have hfz15_2 := blk_frozen BK106.out 2
                have hfz15_3 := blk_frozen BK106.out 3
                go_wp2_with (first | (go_at_call 59; (with_reducible refine (spec_l01In.calls ((rd_T71 l0_2 x4_1).f1) 1 24 true _ A11.out).mono ?_); rintro e w' ⟨rfl, ⟨nd, rfl⟩⟩; (try first | exact ⟨rfl, _, World.drewN_drewN _ _ _⟩ | exact ⟨rfl, _, Eq.trans (World.drewN_drewN _ _ _) (congrArg (World.drewN _) (Nat.add_assoc _ _ _))⟩)) | (go_at_call 59; (with_reducible refine (spec_l01In.calls ((rd_T71 l0_2 x4_1).f2) 0 999 t108 _ A13.out).mono ?_); rintro e w' ⟨rfl, ⟨nd, rfl⟩⟩; (try first | exact ⟨rfl, _, World.drewN_drewN _ _ _⟩ | exact ⟨rfl, _, Eq.trans (World.drewN_drewN _ _ _) (congrArg (World.drewN _) (Nat.add_assoc _ _ _))⟩)))
                repeat (go_quiet (first | (go_at_call 59; (with_reducible refine (spec_l01In.calls ((rd_T71 l0_2 x4_1).f1) 1 24 true _ A11.out).mono ?_); rintro e w' ⟨rfl, ⟨nd, rfl⟩⟩; (try first | exact ⟨rfl, _, World.drewN_drewN _ _ _⟩ | exact ⟨rfl, _, Eq.trans (World.drewN_drewN _ _ _) (congrArg (World.drewN _) (Nat.add_assoc _ _ _))⟩)) | (go_at_call 59; (with_reducible refine (spec_l01In.calls ((rd_T71 l0_2 x4_1).f2) 0 999 t108 _ A13.out).mono ?_); rintro e w' ⟨rfl, ⟨nd, rfl⟩⟩; (try first | exact ⟨rfl, _, World.drewN_drewN _ _ _⟩ | exact ⟨rfl, _, Eq.trans (World.drewN_drewN _ _ _) (congrArg (World.drewN _) (Nat.add_assoc _ _ _))⟩))); try go_wp2_with (first | (go_at_call 59; (with_reducible refine (spec_l01In.calls ((rd_T71 l0_2 x4_1).f1) 1 24 true _ A11.out).mono ?_); rintro e w' ⟨rfl, ⟨nd, rfl⟩⟩; (try first | exact ⟨rfl, _, World.drewN_drewN _ _ _⟩ | exact ⟨rfl, _, Eq.trans (World.drewN_drewN _ _ _) (congrArg (World.drewN _) (Nat.add_assoc _ _ _))⟩)) | (go_at_call 59; (with_reducible refine (spec_l01In.calls ((rd_T71 l0_2 x4_1).f2) 0 999 t108 _ A13.out).mono ?_); rintro e w' ⟨rfl, ⟨nd, rfl⟩⟩; (try first | exact ⟨rfl, _, World.drewN_drewN _ _ _⟩ | exact ⟨rfl, _, Eq.trans (World.drewN_drewN _ _ _) (congrArg (World.drewN _) (Nat.add_assoc _ _ _))⟩))))
                go_meet
                case rel => exact ⟨_, (!t108), (by first | rfl | (simp; done) | (simp [*]; done)), H', ⟨by have := HK1.out; first | omega | exact Nat.le_refl _⟩, ⟨by (with_reducible repeat (first | apply bN | apply bD | apply bA)); refine blk_far ?_ NB104_106.out _; (with_reducible repeat (first | apply bN | apply bD | apply bA)); refine blk_far ?_ NB104_106.out _; (with_reducible repeat (first | apply bN | apply bD | apply bA)); refine blk_far ?_ NB104_106.out _; (with_reducible repeat (first | apply bN | apply bD | apply bA)); refine blk_far ?_ NB104_106.out _; (with_reducible repeat (first | apply bN | apply bD | apply bA)); exact BK104.out⟩, ⟨by (with_reducible repeat (first | apply bN | apply bD | apply bA)); refine blk_put (cs := #[.int .i64 ((rd_T71 l0_2 x4_1).f0), .int .i64 ((rd_T71 l0_2 x4_1).f1), .int .i64 ((rd_T71 l0_2 x4_1).f2), .bool false]) ?_ 3 _ rfl; (with_reducible repeat (first | apply bN | apply bD | apply bA)); refine blk_put (cs := #[.int .i64 ((rd_T71 l0_2 x4_1).f0), .int .i64 ((rd_T71 l0_2 x4_1).f1), .int .i64 0, .bool false]) ?_ 2 _ rfl; (with_reducible repeat (first | apply bN | apply bD | apply bA)); refine blk_put (cs := #[.int .i64 ((rd_T71 l0_2 x4_1).f0), .int .i64 0, .int .i64 0, .bool false]) ?_ 1 _ rfl; (with_reducible repeat (first | apply bN | apply bD | apply bA)); refine blk_put (cs := #[.int .i64 0, .int .i64 0, .int .i64 0, .bool false]) ?_ 0 _ rfl; (with_reducible repeat (first | apply bN | apply bD | apply bA)); exact BK106.out⟩, ⟨bl HB.out⟩⟩
              · replace c12 := Bool.eq_false_iff.mpr c12
                subst c12
                have H1 : (spec_l02Boxes.j1 k1 x3_1 x4_1 true a0_0 l0_1 l0_2 ((rd_T71 l0_2 x4_1).f0) ((rd_T71 l0_2 x4_1).f1) ((rd_T71 l0_2 x4_1).f2) ((rd_T71 l0_2 x4_1).f3)) = some r := by rw [if_neg (show ¬ (false = true) by decide)] at H; exact H
                clear H
                have H := H1
                clear H1
                have H' := Aside0.mk H
                clear H
                have hnb16 := NB106_104.out
                have hnc16 := NB104_106.out
                have hcz17_0 : w7.cell? ⟨gb106, 0, none⟩ = some (.int .i64 0) := (blk_cell BK106.out 0).trans rfl
                have hcz17_1 : w7.cell? ⟨gb106, 1, none⟩ = some (.int .i64 0) := (blk_cell BK106.out 1).trans rfl
                have hcz17_2 : w7.cell? ⟨gb106, 2, none⟩ = some (.int .i64 0) := (blk_cell BK106.out 2).trans rfl
                have hcz17_3 : w7.cell? ⟨gb106, 3, none⟩ = some (.bool false) := (blk_cell BK106.out 3).trans rfl
                have hfz17_0 := blk_frozen BK106.out 0
                have hfz17_1 := blk_frozen BK106.out 1
                have hfz17_2 := blk_frozen BK106.out 2
                have hfz17_3 := blk_frozen BK106.out 3
                go_wp2_with (first | (go_at_call 59; (with_reducible refine (spec_l01In.calls ((rd_T71 l0_2 x4_1).f1) 1 24 false _ A11.out).mono ?_); rintro e w' ⟨rfl, ⟨nd, rfl⟩⟩; (try first | exact ⟨rfl, _, World.drewN_drewN _ _ _⟩ | exact ⟨rfl, _, Eq.trans (World.drewN_drewN _ _ _) (congrArg (World.drewN _) (Nat.add_assoc _ _ _))⟩)))
                repeat (go_quiet (first | (go_at_call 59; (with_reducible refine (spec_l01In.calls ((rd_T71 l0_2 x4_1).f1) 1 24 false _ A11.out).mono ?_); rintro e w' ⟨rfl, ⟨nd, rfl⟩⟩; (try first | exact ⟨rfl, _, World.drewN_drewN _ _ _⟩ | exact ⟨rfl, _, Eq.trans (World.drewN_drewN _ _ _) (congrArg (World.drewN _) (Nat.add_assoc _ _ _))⟩))); try go_wp2_with (first | (go_at_call 59; (with_reducible refine (spec_l01In.calls ((rd_T71 l0_2 x4_1).f1) 1 24 false _ A11.out).mono ?_); rintro e w' ⟨rfl, ⟨nd, rfl⟩⟩; (try first | exact ⟨rfl, _, World.drewN_drewN _ _ _⟩ | exact ⟨rfl, _, Eq.trans (World.drewN_drewN _ _ _) (congrArg (World.drewN _) (Nat.add_assoc _ _ _))⟩))))
                go_meet
                case rel => exact ⟨_, (true), (by first | rfl | (simp; done) | (simp [*]; done)), H', ⟨by have := HK1.out; first | omega | exact Nat.le_refl _⟩, ⟨by (with_reducible repeat (first | apply bN | apply bD | apply bA)); refine blk_far ?_ NB104_106.out _; (with_reducible repeat (first | apply bN | apply bD | apply bA)); refine blk_far ?_ NB104_106.out _; (with_reducible repeat (first | apply bN | apply bD | apply bA)); refine blk_far ?_ NB104_106.out _; (with_reducible repeat (first | apply bN | apply bD | apply bA)); refine blk_far ?_ NB104_106.out _; (with_reducible repeat (first | apply bN | apply bD | apply bA)); exact BK104.out⟩, ⟨by (with_reducible repeat (first | apply bN | apply bD | apply bA)); refine blk_put (cs := #[.int .i64 ((rd_T71 l0_2 x4_1).f0), .int .i64 ((rd_T71 l0_2 x4_1).f1), .int .i64 ((rd_T71 l0_2 x4_1).f2), .bool false]) ?_ 3 _ rfl; (with_reducible repeat (first | apply bN | apply bD | apply bA)); refine blk_put (cs := #[.int .i64 ((rd_T71 l0_2 x4_1).f0), .int .i64 ((rd_T71 l0_2 x4_1).f1), .int .i64 0, .bool false]) ?_ 2 _ rfl; (with_reducible repeat (first | apply bN | apply bD | apply bA)); refine blk_put (cs := #[.int .i64 ((rd_T71 l0_2 x4_1).f0), .int .i64 0, .int .i64 0, .bool false]) ?_ 1 _ rfl; (with_reducible repeat (first | apply bN | apply bD | apply bA)); refine blk_put (cs := #[.int .i64 0, .int .i64 0, .int .i64 0, .bool false]) ?_ 0 _ rfl; (with_reducible repeat (first | apply bN | apply bD | apply bA)); exact BK106.out⟩, ⟨bl HB.out⟩⟩
            · rw [if_neg c10] at H
              have c10b0 : (((rd_T71 l0_2 x4_1).f0) == x3_1) = false := beq_eq_false_iff_ne.mpr c10
              have c10b1 : (((rd_T71 l0_2 x4_1).f0) != x3_1) = true := bne_iff_ne.mpr c10
              (first | rw [c10b0] | (simp only [i64_w, i32_w]; rw [c10b0]) | skip)
              have H' := Aside0.mk H
              clear H
              have hnb18 := NB106_104.out
              have hnc18 := NB104_106.out
              have hcz19_0 : w7.cell? ⟨gb106, 0, none⟩ = some (.int .i64 0) := (blk_cell BK106.out 0).trans rfl
              have hcz19_1 : w7.cell? ⟨gb106, 1, none⟩ = some (.int .i64 0) := (blk_cell BK106.out 1).trans rfl
              have hcz19_2 : w7.cell? ⟨gb106, 2, none⟩ = some (.int .i64 0) := (blk_cell BK106.out 2).trans rfl
              have hcz19_3 : w7.cell? ⟨gb106, 3, none⟩ = some (.bool false) := (blk_cell BK106.out 3).trans rfl
              have hfz19_0 := blk_frozen BK106.out 0
              have hfz19_1 := blk_frozen BK106.out 1
              have hfz19_2 := blk_frozen BK106.out 2
              have hfz19_3 := blk_frozen BK106.out 3
              go_wp2
              repeat (go_quiet (fail); try go_wp2)
              go_meet
              case rel => exact ⟨_, (true), (by first | rfl | (simp; done) | (simp [*]; done)), H', ⟨by have := HK1.out; first | omega | exact Nat.le_refl _⟩, ⟨by (with_reducible repeat (first | apply bN | apply bD | apply bA)); refine blk_far ?_ NB104_106.out _; (with_reducible repeat (first | apply bN | apply bD | apply bA)); refine blk_far ?_ NB104_106.out _; (with_reducible repeat (first | apply bN | apply bD | apply bA)); refine blk_far ?_ NB104_106.out _; (with_reducible repeat (first | apply bN | apply bD | apply bA)); refine blk_far ?_ NB104_106.out _; (with_reducible repeat (first | apply bN | apply bD | apply bA)); exact BK104.out⟩, ⟨by (with_reducible repeat (first | apply bN | apply bD | apply bA)); refine blk_put (cs := #[.int .i64 ((rd_T71 l0_2 x4_1).f0), .int .i64 ((rd_T71 l0_2 x4_1).f1), .int .i64 ((rd_T71 l0_2 x4_1).f2), .bool false]) ?_ 3 _ rfl; (with_reducible repeat (first | apply bN | apply bD | apply bA)); refine blk_put (cs := #[.int .i64 ((rd_T71 l0_2 x4_1).f0), .int .i64 ((rd_T71 l0_2 x4_1).f1), .int .i64 0, .bool false]) ?_ 2 _ rfl; (with_reducible repeat (first | apply bN | apply bD | apply bA)); refine blk_put (cs := #[.int .i64 ((rd_T71 l0_2 x4_1).f0), .int .i64 0, .int .i64 0, .bool false]) ?_ 1 _ rfl; (with_reducible repeat (first | apply bN | apply bD | apply bA)); refine blk_put (cs := #[.int .i64 0, .int .i64 0, .int .i64 0, .bool false]) ?_ 0 _ rfl; (with_reducible repeat (first | apply bN | apply bD | apply bA)); exact BK106.out⟩, ⟨bl HB.out⟩⟩
          case rest =>
            clear HC5
            try clear c1
            try clear p1
            try clear q1
            try clear hx1
            try clear p2
            try clear c3
            try clear c3b0
            try clear c4
            try clear c4b0
            try clear c6
            try clear c8
            try clear c10
            try clear c10b0
            try clear c10b1
            try clear p10
            try clear q10
            try clear hx10
            try clear c12
            try clear c14
            try clear c16
            try clear c18
            try clear hcz15_0
            try clear hcz15_1
            try clear hcz15_2
            try clear hcz15_3
            try clear hcz17_0
            try clear hcz17_1
            try clear hcz17_2
            try clear hcz17_3
            try clear hcz19_0
            try clear hcz19_1
            try clear hcz19_2
            try clear hcz19_3
            try clear hcz6_0
            try clear hcz6_1
            try clear hcz6_2
            try clear hcz9_0
            try clear hcz9_1
            try clear hcz9_2
            try clear hcz9_3
            try clear hfz15_0
            try clear hfz15_1
            try clear hfz15_2
            try clear hfz15_3
            try clear hfz17_0
            try clear hfz17_1
            try clear hfz17_2
            try clear hfz17_3
            try clear hfz19_0
            try clear hfz19_1
            try clear hfz19_2
            try clear hfz19_3
            try clear hfz6_0
            try clear hfz6_1
            try clear hfz6_2
            try clear hfz9_0
            try clear hfz9_1
            try clear hfz9_2
            try clear hfz9_3
            try clear hx105_0
            try clear hx105_1
            try clear hx105_2
            try clear hx105_3
            try clear p105
            try clear p2
            try clear q105
            obtain ⟨kq, x34_4, rfl, HA, HJ4, BK104, BK106, HB⟩ := hcut
            cases kq with
            | zero => exact absurd HA.out (by simp [spec_l02Boxes.j1])
            | succ kj4 =>
              have H := HA.out
              clear HA
              simp only [spec_l02Boxes.j1] at H
              by_cases c20 : x34_4 = true
              · subst c20
                have H1 : (some false) = some r := by rw [if_pos rfl] at H; exact H
                clear H
                have H := H1
                clear H1
                obtain rfl := Option.some.inj H
                go_wp2
                repeat (go_quiet (fail); try go_wp2)
                go_ret
                exact ⟨by first | rfl | (simp [errW_none, errW_some] <;> rfl) | (simp [*, errW_none, errW_some] <;> rfl), bl HB.out⟩
              · replace c20 := Bool.eq_false_iff.mpr c20
                subst c20
                have H1 : (spec_l02Boxes.l1 kj4 x3_1 x4_1 0 a0_0 l0_1 l0_2 ((rd_T71 l0_2 x4_1).f0) ((rd_T71 l0_2 x4_1).f1) ((rd_T71 l0_2 x4_1).f2) ((rd_T71 l0_2 x4_1).f3)) = some r := by rw [if_neg (show ¬ (false = true) by decide)] at H; exact H
                clear H
                have H := H1
                clear H1
                have H' := Aside0.mk H
                clear H
                go_wp2
                repeat (go_quiet (fail); try go_wp2)
                go_loopg [6] kj4 (fun kq v6 w' => ∃ (x6_3 : Int), v6 = .int .i64 x6_3 ∧ Aside0 (spec_l02Boxes.l1 kq x3_1 x4_1 x6_3 a0_0 l0_1 l0_2 ((rd_T71 l0_2 x4_1).f0) ((rd_T71 l0_2 x4_1).f1) ((rd_T71 l0_2 x4_1).f2) ((rd_T71 l0_2 x4_1).f3) = some r) ∧ Aside0 (kq ≤ kj4) ∧ Aside0 (w'.heap[gb104]? = some (.cells #[.int .i64 a0_0, (.slice A0_1 l0_1.length c0_1), (.slice (some ad105) l0_2.length c0_2)] 30 (0, 0))) ∧ Aside0 (w'.heap[gb106]? = some (.cells #[.int .i64 ((rd_T71 l0_2 x4_1).f0), .int .i64 ((rd_T71 l0_2 x4_1).f1), .int .i64 ((rd_T71 l0_2 x4_1).f2), .bool ((rd_T71 l0_2 x4_1).f3)] 71 (0, 0))) ∧ Aside0 (Below w.heap.size w w'))
                case atStart => exact ⟨(0), (by first | rfl | (simp; done) | (simp [*]; done)), H', ⟨Nat.le_refl _⟩, ⟨by (with_reducible repeat (first | apply bN | apply bD | apply bA)); exact BK104.out⟩, ⟨by (with_reducible repeat (first | apply bN | apply bD | apply bA)); exact BK106.out⟩, ⟨bl HB.out⟩⟩
                case round =>
                  clear H'
                  try clear c1
                  try clear p1
                  try clear q1
                  try clear hx1
                  try clear c2
                  try clear p2
                  try clear c3
                  try clear c3b0
                  try clear c4
                  try clear c4b0
                  try clear c6
                  try clear c8
                  try clear c10
                  try clear c10b0
                  try clear c10b1
                  try clear p10
                  try clear q10
                  try clear hx10
                  try clear c12
                  try clear c14
                  try clear c16
                  try clear c18
                  try clear c20
                  try clear hcz15_0
                  try clear hcz15_1
                  try clear hcz15_2
                  try clear hcz15_3
                  try clear hcz17_0
                  try clear hcz17_1
                  try clear hcz17_2
                  try clear hcz17_3
                  try clear hcz19_0
                  try clear hcz19_1
                  try clear hcz19_2
                  try clear hcz19_3
                  try clear hcz6_0
                  try clear hcz6_1
                  try clear hcz6_2
                  try clear hcz9_0
                  try clear hcz9_1
                  try clear hcz9_2
                  try clear hcz9_3
                  try clear hfz15_0
                  try clear hfz15_1
                  try clear hfz15_2
                  try clear hfz15_3
                  try clear hfz17_0
                  try clear hfz17_1
                  try clear hfz17_2
                  try clear hfz17_3
                  try clear hfz19_0
                  try clear hfz19_1
                  try clear hfz19_2
                  try clear hfz19_3
                  try clear hfz6_0
                  try clear hfz6_1
                  try clear hfz6_2
                  try clear hfz9_0
                  try clear hfz9_1
                  try clear hfz9_2
                  try clear hfz9_3
                  try clear hx105_0
                  try clear hx105_1
                  try clear hx105_2
                  try clear hx105_3
                  try clear p1
                  try clear p10
                  try clear p105
                  try clear p2
                  try clear q1
                  try clear q10
                  try clear q105
                  obtain ⟨x6_3, rfl, HA, HK3, BK104, BK106, HB⟩ := hrel
                  cases gk with
                  | zero => exact absurd HA.out (by simp [spec_l02Boxes.l1])
                  | succ k3 =>
                    have H := HA.out
                    clear HA
                    simp only [spec_l02Boxes.l1] at H
                    by_cases c21 : x6_3 < x4_1
                    · rw [if_pos c21] at H
                      have c21b0 : decide (x6_3 < x4_1) = true := decide_eq_true c21
                      clear c21
                      by_cases c22 : ((rd_T71 l0_2 x4_1).f2) > 0
                      · rw [if_pos c22] at H
                        have c22b0 : decide (0 < ((rd_T71 l0_2 x4_1).f2)) = true := decide_eq_true c22
                        clear c22
                        by_cases c23 : 0 ≤ x6_3
                        · rw [if_pos c23] at H
                          have c23b0 : decide (0 ≤ x6_3) = true := decide_eq_true c23
                          clear c23
                          by_cases c24 : x6_3 < (l0_2.length : Int)
                          · rw [if_pos c24] at H
                            have c24b0 : decide (x6_3 < (l0_2.length : Int)) = true := decide_eq_true c24
                            clear c24
                            by_cases c25 : ((rd_T71 l0_2 x6_3).f2) = ((rd_T71 l0_2 x4_1).f2)
                            · rw [if_pos c25] at H
                              have c25b0 : (((rd_T71 l0_2 x6_3).f2) == ((rd_T71 l0_2 x4_1).f2)) = true := beq_iff_eq.mpr c25
                              have c25b1 : (((rd_T71 l0_2 x6_3).f2) != ((rd_T71 l0_2 x4_1).f2)) = false := bne_eq_false_iff_eq.mpr c25
                              clear c25
                              obtain rfl := Option.some.inj H
                              have hnb26 := NB106_104.out
                              have hnc26 := NB104_106.out
                              have hcz27_0 : wr.cell? ⟨gb106, 0, none⟩ = some (.int .i64 ((rd_T71 l0_2 x4_1).f0)) := (blk_cell BK106.out 0).trans rfl
                              have hcz27_1 : wr.cell? ⟨gb106, 1, none⟩ = some (.int .i64 ((rd_T71 l0_2 x4_1).f1)) := (blk_cell BK106.out 1).trans rfl
                              have hcz27_2 : wr.cell? ⟨gb106, 2, none⟩ = some (.int .i64 ((rd_T71 l0_2 x4_1).f2)) := (blk_cell BK106.out 2).trans rfl
                              have hcz27_3 : wr.cell? ⟨gb106, 3, none⟩ = some (.bool ((rd_T71 l0_2 x4_1).f3)) := (blk_cell BK106.out 3).trans rfl
                              have hfz27_0 := blk_frozen BK106.out 0
                              have hfz27_1 := blk_frozen BK106.out 1
                              have hfz27_2 := blk_frozen BK106.out 2
                              have hfz27_3 := blk_frozen BK106.out 3
                              have hcz28_0 : wr.cell? ⟨gb104, 0, none⟩ = some (.int .i64 a0_0) := (blk_cell BK104.out 0).trans rfl
                              have hcz28_1 : wr.cell? ⟨gb104, 1, none⟩ = some (.slice A0_1 l0_1.length c0_1) := (blk_cell BK104.out 1).trans rfl
                              have hcz28_2 : wr.cell? ⟨gb104, 2, none⟩ = some (.slice (some ad105) l0_2.length c0_2) := (blk_cell BK104.out 2).trans rfl
                              have hfz28_0 := blk_frozen BK104.out 0
                              have hfz28_1 := blk_frozen BK104.out 1
                              have hfz28_2 := blk_frozen BK104.out 2
                              have p109 : 0 ≤ (x6_3 : Int) := of_decide_eq_true (by first | (with_reducible assumption) | assumption)
                              have q109 : x6_3 < (l0_2.length : Int) := of_decide_eq_true (by first | (with_reducible assumption) | assumption)
                              obtain ⟨ad109, e109, hx109_0, hx109_1, hx109_2, hx109_3⟩ := at_T71 HR0_2.out x6_3 p109 q109
                              obtain rfl : ad105 = ad109 := (by injection e109)
                              replace hx109_0 := (HB.out.cell (World.block_lt_of_cell? w _ hx109_0)).trans hx109_0
                              replace hx109_1 := (HB.out.cell (World.block_lt_of_cell? w _ hx109_1)).trans hx109_1
                              replace hx109_2 := (HB.out.cell (World.block_lt_of_cell? w _ hx109_2)).trans hx109_2
                              replace hx109_3 := (HB.out.cell (World.block_lt_of_cell? w _ hx109_3)).trans hx109_3
                              replace p109 := eq_true p109
                              replace q109 := eq_true q109
                              go_wp2
                              repeat (go_quiet (fail); try go_wp2)
                              go_ret
                              exact ⟨by first | rfl | (simp [errW_none, errW_some] <;> rfl) | (simp [*, errW_none, errW_some] <;> rfl), bl HB.out⟩
                            · rw [if_neg c25] at H
                              have c25b0 : (((rd_T71 l0_2 x6_3).f2) == ((rd_T71 l0_2 x4_1).f2)) = false := beq_eq_false_iff_ne.mpr c25
                              have c25b1 : (((rd_T71 l0_2 x6_3).f2) != ((rd_T71 l0_2 x4_1).f2)) = true := bne_iff_ne.mpr c25
                              have H' := Aside0.mk H
                              clear H
                              have hnb29 := NB106_104.out
                              have hnc29 := NB104_106.out
                              have hcz30_0 : wr.cell? ⟨gb106, 0, none⟩ = some (.int .i64 ((rd_T71 l0_2 x4_1).f0)) := (blk_cell BK106.out 0).trans rfl
                              have hcz30_1 : wr.cell? ⟨gb106, 1, none⟩ = some (.int .i64 ((rd_T71 l0_2 x4_1).f1)) := (blk_cell BK106.out 1).trans rfl
                              have hcz30_2 : wr.cell? ⟨gb106, 2, none⟩ = some (.int .i64 ((rd_T71 l0_2 x4_1).f2)) := (blk_cell BK106.out 2).trans rfl
                              have hcz30_3 : wr.cell? ⟨gb106, 3, none⟩ = some (.bool ((rd_T71 l0_2 x4_1).f3)) := (blk_cell BK106.out 3).trans rfl
                              have hfz30_0 := blk_frozen BK106.out 0
                              have hfz30_1 := blk_frozen BK106.out 1
                              have hfz30_2 := blk_frozen BK106.out 2
                              have hfz30_3 := blk_frozen BK106.out 3
                              have hcz31_0 : wr.cell? ⟨gb104, 0, none⟩ = some (.int .i64 a0_0) := (blk_cell BK104.out 0).trans rfl
                              have hcz31_1 : wr.cell? ⟨gb104, 1, none⟩ = some (.slice A0_1 l0_1.length c0_1) := (blk_cell BK104.out 1).trans rfl
                              have hcz31_2 : wr.cell? ⟨gb104, 2, none⟩ = some (.slice (some ad105) l0_2.length c0_2) := (blk_cell BK104.out 2).trans rfl
                              have hfz31_0 := blk_frozen BK104.out 0
                              have hfz31_1 := blk_frozen BK104.out 1
                              have hfz31_2 := blk_frozen BK104.out 2
                              have p109 : 0 ≤ (x6_3 : Int) := of_decide_eq_true (by first | (with_reducible assumption) | assumption)
                              have q109 : x6_3 < (l0_2.length : Int) := of_decide_eq_true (by first | (with_reducible assumption) | assumption)
                              obtain ⟨ad109, e109, hx109_0, hx109_1, hx109_2, hx109_3⟩ := at_T71 HR0_2.out x6_3 p109 q109
                              obtain rfl : ad105 = ad109 := (by injection e109)
                              replace hx109_0 := (HB.out.cell (World.block_lt_of_cell? w _ hx109_0)).trans hx109_0
                              replace hx109_1 := (HB.out.cell (World.block_lt_of_cell? w _ hx109_1)).trans hx109_1
                              replace hx109_2 := (HB.out.cell (World.block_lt_of_cell? w _ hx109_2)).trans hx109_2
                              replace hx109_3 := (HB.out.cell (World.block_lt_of_cell? w _ hx109_3)).trans hx109_3
                              replace p109 := eq_true p109
                              replace q109 := eq_true q109
                              go_wp2
                              repeat (go_quiet (fail); try go_wp2)
                              go_roundg k3
                              case measure => have := HK1.out; have := HJ4.out; have := HK3.out; omega
                              case rel => exact ⟨(wrap64 (x6_3 + 1)), (by first | rfl | (simp; done) | (simp [*]; done)), H', ⟨by have := HK1.out; have := HJ4.out; have := HK3.out; omega⟩, ⟨by (with_reducible repeat (first | apply bN | apply bD | apply bA)); exact BK104.out⟩, ⟨by (with_reducible repeat (first | apply bN | apply bD | apply bA)); exact BK106.out⟩, ⟨bl HB.out⟩⟩
                          · rw [if_neg c24] at H
                            exact absurd H (by simp)
                        · rw [if_neg c23] at H
                          exact absurd H (by simp)
                      · rw [if_neg c22] at H
                        have c22b0 : decide (0 < ((rd_T71 l0_2 x4_1).f2)) = false := decide_eq_false c22
                        clear c22
                        have H' := Aside0.mk H
                        clear H
                        have hnb32 := NB106_104.out
                        have hnc32 := NB104_106.out
                        have hcz33_0 : wr.cell? ⟨gb106, 0, none⟩ = some (.int .i64 ((rd_T71 l0_2 x4_1).f0)) := (blk_cell BK106.out 0).trans rfl
                        have hcz33_1 : wr.cell? ⟨gb106, 1, none⟩ = some (.int .i64 ((rd_T71 l0_2 x4_1).f1)) := (blk_cell BK106.out 1).trans rfl
                        have hcz33_2 : wr.cell? ⟨gb106, 2, none⟩ = some (.int .i64 ((rd_T71 l0_2 x4_1).f2)) := (blk_cell BK106.out 2).trans rfl
                        have hcz33_3 : wr.cell? ⟨gb106, 3, none⟩ = some (.bool ((rd_T71 l0_2 x4_1).f3)) := (blk_cell BK106.out 3).trans rfl
                        have hfz33_0 := blk_frozen BK106.out 0
                        have hfz33_1 := blk_frozen BK106.out 1
                        have hfz33_2 := blk_frozen BK106.out 2
                        have hfz33_3 := blk_frozen BK106.out 3
                        go_wp2
                        repeat (go_quiet (fail); try go_wp2)
                        go_roundg k3
                        case measure => have := HK1.out; have := HJ4.out; have := HK3.out; omega
                        case rel => exact ⟨(wrap64 (x6_3 + 1)), (by first | rfl | (simp; done) | (simp [*]; done)), H', ⟨by have := HK1.out; have := HJ4.out; have := HK3.out; omega⟩, ⟨by (with_reducible repeat (first | apply bN | apply bD | apply bA)); exact BK104.out⟩, ⟨by (with_reducible repeat (first | apply bN | apply bD | apply bA)); exact BK106.out⟩, ⟨bl HB.out⟩⟩
                    · rw [if_neg c21] at H
                      have c21b0 : decide (x6_3 < x4_1) = false := decide_eq_false c21
                      clear c21
                      by_cases c34 : (wrap64 (x3_1 + ((rd_T71 l0_2 x4_1).f1))) > 24
                      · rw [if_pos c34] at H
                        have c34b0 : decide (24 < (wrap64 (x3_1 + ((rd_T71 l0_2 x4_1).f1)))) = true := decide_eq_true c34
                        clear c34
                        obtain rfl := Option.some.inj H
                        have hnb35 := NB106_104.out
                        have hnc35 := NB104_106.out
                        have hcz36_0 : wr.cell? ⟨gb106, 0, none⟩ = some (.int .i64 ((rd_T71 l0_2 x4_1).f0)) := (blk_cell BK106.out 0).trans rfl
                        have hcz36_1 : wr.cell? ⟨gb106, 1, none⟩ = some (.int .i64 ((rd_T71 l0_2 x4_1).f1)) := (blk_cell BK106.out 1).trans rfl
                        have hcz36_2 : wr.cell? ⟨gb106, 2, none⟩ = some (.int .i64 ((rd_T71 l0_2 x4_1).f2)) := (blk_cell BK106.out 2).trans rfl
                        have hcz36_3 : wr.cell? ⟨gb106, 3, none⟩ = some (.bool ((rd_T71 l0_2 x4_1).f3)) := (blk_cell BK106.out 3).trans rfl
                        have hfz36_0 := blk_frozen BK106.out 0
                        have hfz36_1 := blk_frozen BK106.out 1
                        have hfz36_2 := blk_frozen BK106.out 2
                        have hfz36_3 := blk_frozen BK106.out 3
                        go_wp2
                        repeat (go_quiet (fail); try go_wp2)
                        go_ret
                        exact ⟨by first | rfl | (simp [errW_none, errW_some] <;> rfl) | (simp [*, errW_none, errW_some] <;> rfl), bl HB.out⟩
                      · rw [if_neg c34] at H
                        have c34b0 : decide (24 < (wrap64 (x3_1 + ((rd_T71 l0_2 x4_1).f1)))) = false := decide_eq_false c34
                        clear c34
                        have H' := Aside0.mk H
                        clear H
                        have hnb37 := NB106_104.out
                        have hnc37 := NB104_106.out
                        have hcz38_0 : wr.cell? ⟨gb106, 0, none⟩ = some (.int .i64 ((rd_T71 l0_2 x4_1).f0)) := (blk_cell BK106.out 0).trans rfl
                        have hcz38_1 : wr.cell? ⟨gb106, 1, none⟩ = some (.int .i64 ((rd_T71 l0_2 x4_1).f1)) := (blk_cell BK106.out 1).trans rfl
                        have hcz38_2 : wr.cell? ⟨gb106, 2, none⟩ = some (.int .i64 ((rd_T71 l0_2 x4_1).f2)) := (blk_cell BK106.out 2).trans rfl
                        have hcz38_3 : wr.cell? ⟨gb106, 3, none⟩ = some (.bool ((rd_T71 l0_2 x4_1).f3)) := (blk_cell BK106.out 3).trans rfl
                        have hfz38_0 := blk_frozen BK106.out 0
                        have hfz38_1 := blk_frozen BK106.out 1
                        have hfz38_2 := blk_frozen BK106.out 2
                        have hfz38_3 := blk_frozen BK106.out 3
                        go_wp2
                        repeat (go_quiet (fail); try go_wp2)
                        go_roundg k3
                        case measure => have := HK1.out; have := HJ4.out; have := HK3.out; omega
                        case rel => exact ⟨(wrap64 (x3_1 + ((rd_T71 l0_2 x4_1).f1))), (wrap64 (x4_1 + 1)), (by first | rfl | (simp; done) | (simp [*]; done)), (by first | rfl | (simp; done) | (simp [*]; done)), H', ⟨by have := HK1.out; have := HJ4.out; have := HK3.out; omega⟩, ⟨by (with_reducible repeat (first | apply bN | apply bD | apply bA)); exact BK104.out⟩, ⟨bl HB.out⟩⟩
        · rw [if_neg c4] at H
          exact absurd H (by simp)
      · rw [if_neg c3] at H
        have c3b0 : decide (x4_1 < (l0_2.length : Int)) = false := decide_eq_false c3
        clear c3
        by_cases c39 : (l0_2.length : Int) > 0
        · rw [if_pos c39] at H
          have c39b0 : decide (0 < (l0_2.length : Int)) = true := decide_eq_true c39
          have c39b1 : decide (0 < l0_2.length) = true := decide_eq_true (by omega)
          clear c39
          obtain rfl := Option.some.inj H
          have hcz40_0 : wr.cell? ⟨gb104, 0, none⟩ = some (.int .i64 a0_0) := (blk_cell BK104.out 0).trans rfl
          have hcz40_1 : wr.cell? ⟨gb104, 1, none⟩ = some (.slice A0_1 l0_1.length c0_1) := (blk_cell BK104.out 1).trans rfl
          have hcz40_2 : wr.cell? ⟨gb104, 2, none⟩ = some (.slice A0_2 l0_2.length c0_2) := (blk_cell BK104.out 2).trans rfl
          have hfz40_0 := blk_frozen BK104.out 0
          have hfz40_1 := blk_frozen BK104.out 1
          have hfz40_2 := blk_frozen BK104.out 2
          go_wp2
          repeat (go_quiet (fail); try go_wp2)
          go_ret
          exact ⟨by first | rfl | (simp [errW_none, errW_some] <;> rfl) | (simp [*, errW_none, errW_some] <;> rfl), bl HB.out⟩
        · rw [if_neg c39] at H
          have c39b0 : decide (0 < (l0_2.length : Int)) = false := decide_eq_false c39
          have c39b1 : decide (0 < l0_2.length) = false := decide_eq_false (by omega)
          clear c39
          obtain rfl := Option.some.inj H
          have hcz41_0 : wr.cell? ⟨gb104, 0, none⟩ = some (.int .i64 a0_0) := (blk_cell BK104.out 0).trans rfl
          have hcz41_1 : wr.cell? ⟨gb104, 1, none⟩ = some (.slice A0_1 l0_1.length c0_1) := (blk_cell BK104.out 1).trans rfl
          have hcz41_2 : wr.cell? ⟨gb104, 2, none⟩ = some (.slice A0_2 l0_2.length c0_2) := (blk_cell BK104.out 2).trans rfl
          have hfz41_0 := blk_frozen BK104.out 0
          have hfz41_1 := blk_frozen BK104.out 1
          have hfz41_2 := blk_frozen BK104.out 2
          go_wp2
          repeat (go_quiet (fail); try go_wp2)
          go_ret
          exact ⟨by first | rfl | (simp [errW_none, errW_some] <;> rfl) | (simp [*, errW_none, errW_some] <;> rfl), bl HB.out⟩
end Go.Proofs.Ytghfeapncmlihaa.A

namespace Go.Proofs.Ytghfeapncmlihaa.A
open Go.RowKit Go.Proofs.YtghfeapncmlihaaW.PrintWords Go.Proofs.YtghfeapncmlihaaW.PrintLast Go.Proofs.YtghfeapncmlihaaW.PrintMore
attribute [local go_sem] max2_int min2_int max_two min_two max_three min_three max_four min_four   
set_option linter.unusedVariables false
set_option linter.unusedSimpArgs false
mutual
def spec_ColumnOk.j0 : Nat → Bool → Int → List Int → List (S71) → Option (Bool)
  | 0, _, _, _, _ => none
  | k + 1, x14, x111000, x111001, x111002 => if x14 = true then (some false) else (spec_ColumnOk.l0 k 0 x111000 x111001 x111002)
def spec_ColumnOk.l0 : Nat → Int → Int → List Int → List (S71) → Option (Bool)
  | 0, _, _, _, _ => none
  | k + 1, x3, x111000, x111001, x111002 => if x3 < (x111001.length : Int) then (if 0 ≤ x3 then ((spec_l01In.f (rd x111001 x3) 1 (wrap64 (x111000 - 1))).bind fun t114 => (if t114 = true then (if x3 > 0 then (if 0 ≤ (wrap64 (x3 - 1)) then (if (wrap64 (x3 - 1)) < (x111001.length : Int) then (spec_ColumnOk.j2 k x3 (decide ((rd x111001 x3) ≤ (rd x111001 (wrap64 (x3 - 1))))) x111000 x111001 x111002) else (none)) else (none)) else (spec_ColumnOk.j2 k x3 false x111000 x111001 x111002)) else (spec_ColumnOk.j2 k x3 true x111000 x111001 x111002))) else (none)) else (some true)
def spec_ColumnOk.j2 : Nat → Int → Bool → Int → List Int → List (S71) → Option (Bool)
  | 0, _, _, _, _, _ => none
  | k + 1, x3, x49, x111000, x111001, x111002 => if x49 = true then (some false) else (spec_ColumnOk.l1 k x3 false 0 x111000 x111001 x111002)
def spec_ColumnOk.l1 : Nat → Int → Bool → Int → Int → List Int → List (S71) → Option (Bool)
  | 0, _, _, _, _, _, _ => none
  | k + 1, x3, x4, x5, x111000, x111001, x111002 => if x5 < (x111002.length : Int) then (if x4 = true then (spec_ColumnOk.l1 k x3 true (wrap64 (x5 + 1)) x111000 x111001 x111002) else (if 0 ≤ x5 then (if 0 ≤ x3 then (if x3 < (x111001.length : Int) then (spec_ColumnOk.l1 k x3 (((rd_T71 x111002 x5).f0) == (rd x111001 x3)) (wrap64 (x5 + 1)) x111000 x111001 x111002) else (none)) else (none)) else (none))) else (if x4 = true then (spec_ColumnOk.l0 k (wrap64 (x3 + 1)) x111000 x111001 x111002) else (some false))
end
def spec_ColumnOk.f (k : Nat) (a0_0 : Int) (l0_1 : List Int) (l0_2 : List (S71)) : Option (Bool) := (spec_l01In.f a0_0 1 24).bind fun t111 => (if t111 = true then ((spec_l02Boxes.f k a0_0 l0_1 l0_2).bind fun t112 => (spec_ColumnOk.j0 k (!t112) a0_0 l0_1 l0_2)) else (spec_ColumnOk.j0 k true a0_0 l0_1 l0_2))
set_option maxHeartbeats 8000000 in
set_option maxRecDepth 100000 in
theorem spec_ColumnOk.calls (k : Nat) (a0_0 : Int) (A0_1 : Option Addr) (c0_1 : Nat) (l0_1 : List Int) (A0_2 : Option Addr) (c0_2 : Nat) (l0_2 : List (S71)) (r : Bool) (w : World) (hr0_1 : Kd.C (Kd.int .i64) w A0_1 l0_1.length l0_1) (hc0_1 : l0_1.length ≤ c0_1) (hr0_2 : Kd.C k71 w A0_2 l0_2.length l0_2) (hc0_2 : l0_2.length ≤ c0_2) (h : spec_ColumnOk.f k a0_0 l0_1 l0_2 = some r) :
    Calls Try.prog 16 #[.agg #[.int .i64 a0_0, .slice A0_1 l0_1.length c0_1, .slice A0_2 l0_2.length c0_2]] w fun e w' => e = .returned (.bool r) ∧ Below w.heap.size w w' := by
  have hu30 := Try.underlying30
  have HR0_1 := Aside0.mk hr0_1
  have HC0_1 := Aside0.mk hc0_1
  clear hr0_1 hc0_1
  have HR0_2 := Aside0.mk hr0_2
  have HC0_2 := Aside0.mk hc0_2
  clear hr0_2 hc0_2
  have HB := Aside0.mk (Below.refl w.heap.size w)
  have H : ((spec_l01In.f a0_0 1 24).bind fun t111 => (if t111 = true then ((spec_l02Boxes.f k a0_0 l0_1 l0_2).bind fun t112 => (spec_ColumnOk.j0 k (!t112) a0_0 l0_1 l0_2)) else (spec_ColumnOk.j0 k true a0_0 l0_1 l0_2))) = some r := h
  clear h
  have HC2 := Aside0.mk H
  clear H
  go_enter Try.func16, Try.ntmps16
  go_upto_region 1 with (first | ((with_reducible refine gate_dst (N := 1) rfl ?_); refine bx (cs := #[.int .i64 a0_0, .slice A0_1 l0_1.length c0_1, .slice A0_2 l0_2.length c0_2]) (t := 30) fun gb110 hg w3 hbox hb => ?_; have BK110 := Aside0.mk (hbox); have GW110 := Aside0.mk (gs HB.out hg); have GE110 := Aside0.mk (gs HB.out hg); replace HB := Aside0.mk (below_step (bl HB.out) hb); clear hb hbox hg))
  repeat (go_quiet (first | ((with_reducible refine gate_dst (N := 1) rfl ?_); refine bx (cs := #[.int .i64 a0_0, .slice A0_1 l0_1.length c0_1, .slice A0_2 l0_2.length c0_2]) (t := 30) fun gb110 hg w3 hbox hb => ?_; have BK110 := Aside0.mk (hbox); have GW110 := Aside0.mk (gs HB.out hg); have GE110 := Aside0.mk (gs HB.out hg); replace HB := Aside0.mk (below_step (bl HB.out) hb); clear hb hbox hg)); go_upto_region 1 with (first | ((with_reducible refine gate_dst (N := 1) rfl ?_); refine bx (cs := #[.int .i64 a0_0, .slice A0_1 l0_1.length c0_1, .slice A0_2 l0_2.length c0_2]) (t := 30) fun gb110 hg w3 hbox hb => ?_; have BK110 := Aside0.mk (hbox); have GW110 := Aside0.mk (gs HB.out hg); have GE110 := Aside0.mk (gs HB.out hg); replace HB := Aside0.mk (below_step (bl HB.out) hb); clear hb hbox hg)))
  (try simp only [Act.put, List.setIfInBounds_toArray, List.set_cons_zero, List.set_cons_succ])
  go_cut [14] (fun v14 wc => ∃ (kq : Nat) (x14_1 : Bool), v14 = .bool x14_1 ∧ Aside0 (spec_ColumnOk.j0 kq x14_1 a0_0 l0_1 l0_2 = some r) ∧ Aside0 (kq ≤ k) ∧ Aside0 (wc.heap[gb110]? = some (.cells #[.int .i64 a0_0, (.slice A0_1 l0_1.length c0_1), (.slice A0_2 l0_2.length c0_2)] 30 (0, 0))) ∧ Aside0 (Below w.heap.size w wc))
  case first =>
    have H := HC2.out
    clear HC2
    replace H := Option.bind_eq_some_iff.mp H
    obtain ⟨t111, A40, H⟩ := H
    replace H : (if t111 = true then ((spec_l02Boxes.f k a0_0 l0_1 l0_2).bind fun t112 => (spec_ColumnOk.j0 k (!t112) a0_0 l0_1 l0_2)) else (spec_ColumnOk.j0 k true a0_0 l0_1 l0_2)) = some r := H
    have A4 := Aside0.mk A40
    clear A40
    by_cases c5 : t111 = true
    · subst c5
      have H1 : ((spec_l02Boxes.f k a0_0 l0_1 l0_2).bind fun t112 => (spec_ColumnOk.j0 k (!t112) a0_0 l0_1 l0_2)) = some r := by rw [if_pos rfl] at H; exact H
      clear H
      have H := H1
      clear H1
      replace H := Option.bind_eq_some_iff.mp H
      obtain ⟨t112, A60, H⟩ := H
      replace H : (spec_ColumnOk.j0 k (!t112) a0_0 l0_1 l0_2) = some r := H
      have A6 := Aside0.mk A60
      clear A60
      have H' := Aside0.mk H
      clear H
      have hcz7_0 : w3.cell? ⟨gb110, 0, none⟩ = some (.int .i64 a0_0) := (blk_cell BK110.out 0).trans rfl
      have hcz7_1 : w3.cell? ⟨gb110, 1, none⟩ = some (.slice A0_1 l0_1.length c0_1) := (blk_cell BK110.out 1).trans rfl
      have hcz7_2 : w3.cell? ⟨gb110, 2, none⟩ = some (.slice A0_2 l0_2.length c0_2) := (blk_cell BK110.out 2).trans rfl
      have hfz7_0 := blk_frozen BK110.out 0
      have hfz7_1 := blk_frozen BK110.out 1
      have hfz7_2 := blk_frozen BK110.out 2
      go_wp2_with (first | (go_at_call 59; (with_reducible refine (spec_l01In.calls a0_0 1 24 true _ A4.out).mono ?_); rintro e w' ⟨rfl, ⟨nd, rfl⟩⟩; (try first | exact ⟨rfl, _, World.drewN_drewN _ _ _⟩ | exact ⟨rfl, _, Eq.trans (World.drewN_drewN _ _ _) (congrArg (World.drewN _) (Nat.add_assoc _ _ _))⟩)) | (go_at_call 60; (with_reducible refine (spec_l02Boxes.calls k a0_0 _ _ l0_1 _ _ l0_2 t112 _ ?side1 ?side2 ?side3 ?side4 A6.out).mono ?_); (case side1 => repeat (first | exact (Kd.C_below HR0_1.out (bl HB.out)) | (with_reducible refine Kd.C_alloc ?_ _) | (with_reducible refine Kd.C_drewN ?_ _) | (with_reducible refine Kd.C_drew ?_))); (case side2 => exact HC0_1.out); (case side3 => repeat (first | exact (Kd.C_below HR0_2.out (bl HB.out)) | (with_reducible refine Kd.C_alloc ?_ _) | (with_reducible refine Kd.C_drewN ?_ _) | (with_reducible refine Kd.C_drew ?_))); (case side4 => exact HC0_2.out); rintro e w8 ⟨rfl, hb⟩; have n0_ := Aside0.mk (bb BK110.out hb); have n1_ := Aside0.mk (below_step (bl HB.out) hb); clear BK110; clear HB; have BK110 := n0_; have HB := n1_; clear n0_ n1_; (try clear hb); (try clear hb2); (try clear hk); (try clear hi)))
      repeat (go_quiet (first | (go_at_call 59; (with_reducible refine (spec_l01In.calls a0_0 1 24 true _ A4.out).mono ?_); rintro e w' ⟨rfl, ⟨nd, rfl⟩⟩; (try first | exact ⟨rfl, _, World.drewN_drewN _ _ _⟩ | exact ⟨rfl, _, Eq.trans (World.drewN_drewN _ _ _) (congrArg (World.drewN _) (Nat.add_assoc _ _ _))⟩)) | (go_at_call 60; (with_reducible refine (spec_l02Boxes.calls k a0_0 _ _ l0_1 _ _ l0_2 t112 _ ?side1 ?side2 ?side3 ?side4 A6.out).mono ?_); (case side1 => repeat (first | exact (Kd.C_below HR0_1.out (bl HB.out)) | (with_reducible refine Kd.C_alloc ?_ _) | (with_reducible refine Kd.C_drewN ?_ _) | (with_reducible refine Kd.C_drew ?_))); (case side2 => exact HC0_1.out); (case side3 => repeat (first | exact (Kd.C_below HR0_2.out (bl HB.out)) | (with_reducible refine Kd.C_alloc ?_ _) | (with_reducible refine Kd.C_drewN ?_ _) | (with_reducible refine Kd.C_drew ?_))); (case side4 => exact HC0_2.out); rintro e w8 ⟨rfl, hb⟩; have n0_ := Aside0.mk (bb BK110.out hb); have n1_ := Aside0.mk (below_step (bl HB.out) hb); clear BK110; clear HB; have BK110 := n0_; have HB := n1_; clear n0_ n1_; (try clear hb); (try clear hb2); (try clear hk); (try clear hi))); try go_wp2_with (first | (go_at_call 59; (with_reducible refine (spec_l01In.calls a0_0 1 24 true _ A4.out).mono ?_); rintro e w' ⟨rfl, ⟨nd, rfl⟩⟩; (try first | exact ⟨rfl, _, World.drewN_drewN _ _ _⟩ | exact ⟨rfl, _, Eq.trans (World.drewN_drewN _ _ _) (congrArg (World.drewN _) (Nat.add_assoc _ _ _))⟩)) | (go_at_call 60; (with_reducible refine (spec_l02Boxes.calls k a0_0 _ _ l0_1 _ _ l0_2 t112 _ ?side1 ?side2 ?side3 ?side4 A6.out).mono ?_); (case side1 => repeat (first | exact (Kd.C_below HR0_1.out (bl HB.out)) | (with_reducible refine Kd.C_alloc ?_ _) | (with_reducible refine Kd.C_drewN ?_ _) | (with_reducible refine Kd.C_drew ?_))); (case side2 => exact HC0_1.out); (case side3 => repeat (first | exact (Kd.C_below HR0_2.out (bl HB.out)) | (with_reducible refine Kd.C_alloc ?_ _) | (with_reducible refine Kd.C_drewN ?_ _) | (with_reducible refine Kd.C_drew ?_))); (case side4 => exact HC0_2.out); rintro e w8 ⟨rfl, hb⟩; have n0_ := Aside0.mk (bb BK110.out hb); have n1_ := Aside0.mk (below_step (bl HB.out) hb); clear BK110; clear HB; have BK110 := n0_; have HB := n1_; clear n0_ n1_; (try clear hb); (try clear hb2); (try clear hk); (try clear hi))))
      go_meet
      case rel => exact ⟨_, (!t112), (by first | rfl | (simp; done) | (simp [*]; done)), H', ⟨by first | omega | exact Nat.le_refl _⟩, ⟨by (with_reducible repeat (first | apply bN | apply bD | apply bA)); exact BK110.out⟩, ⟨bl HB.out⟩⟩
    · replace c5 := Bool.eq_false_iff.mpr c5
      subst c5
      have H1 : (spec_ColumnOk.j0 k true a0_0 l0_1 l0_2) = some r := by rw [if_neg (show ¬ (false = true) by decide)] at H; exact H
      clear H
      have H := H1
      clear H1
      have H' := Aside0.mk H
      clear H
      have hcz9_0 : w3.cell? ⟨gb110, 0, none⟩ = some (.int .i64 a0_0) := (blk_cell BK110.out 0).trans rfl
      have hcz9_1 : w3.cell? ⟨gb110, 1, none⟩ = some (.slice A0_1 l0_1.length c0_1) := (blk_cell BK110.out 1).trans rfl
      have hcz9_2 : w3.cell? ⟨gb110, 2, none⟩ = some (.slice A0_2 l0_2.length c0_2) := (blk_cell BK110.out 2).trans rfl
      have hfz9_0 := blk_frozen BK110.out 0
      have hfz9_1 := blk_frozen BK110.out 1
      have hfz9_2 := blk_frozen BK110.out 2
      go_wp2_with (first | (go_at_call 59; (with_reducible refine (spec_l01In.calls a0_0 1 24 false _ A4.out).mono ?_); rintro e w' ⟨rfl, ⟨nd, rfl⟩⟩; (try first | exact ⟨rfl, _, World.drewN_drewN _ _ _⟩ | exact ⟨rfl, _, Eq.trans (World.drewN_drewN _ _ _) (congrArg (World.drewN _) (Nat.add_assoc _ _ _))⟩)))
      repeat (go_quiet (first | (go_at_call 59; (with_reducible refine (spec_l01In.calls a0_0 1 24 false _ A4.out).mono ?_); rintro e w' ⟨rfl, ⟨nd, rfl⟩⟩; (try first | exact ⟨rfl, _, World.drewN_drewN _ _ _⟩ | exact ⟨rfl, _, Eq.trans (World.drewN_drewN _ _ _) (congrArg (World.drewN _) (Nat.add_assoc _ _ _))⟩))); try go_wp2_with (first | (go_at_call 59; (with_reducible refine (spec_l01In.calls a0_0 1 24 false _ A4.out).mono ?_); rintro e w' ⟨rfl, ⟨nd, rfl⟩⟩; (try first | exact ⟨rfl, _, World.drewN_drewN _ _ _⟩ | exact ⟨rfl, _, Eq.trans (World.drewN_drewN _ _ _) (congrArg (World.drewN _) (Nat.add_assoc _ _ _))⟩))))
      go_meet
      case rel => exact ⟨_, (true), (by first | rfl | (simp; done) | (simp [*]; done)), H', ⟨by first | omega | exact Nat.le_refl _⟩, ⟨by (with_reducible repeat (first | apply bN | apply bD | apply bA)); exact BK110.out⟩, ⟨bl HB.out⟩⟩
  case rest =>
    clear HC2
    try clear c1
    try clear p2
    try clear c5
    try clear hcz7_0
    try clear hcz7_1
    try clear hcz7_2
    try clear hcz9_0
    try clear hcz9_1
    try clear hcz9_2
    try clear hfz7_0
    try clear hfz7_1
    try clear hfz7_2
    try clear hfz9_0
    try clear hfz9_1
    try clear hfz9_2
    obtain ⟨kq, x14_1, rfl, HA, HJ1, BK110, HB⟩ := hcut
    cases kq with
    | zero => exact absurd HA.out (by simp [spec_ColumnOk.j0])
    | succ kj1 =>
      have H := HA.out
      clear HA
      simp only [spec_ColumnOk.j0] at H
      by_cases c10 : x14_1 = true
      · subst c10
        have H1 : (some false) = some r := by rw [if_pos rfl] at H; exact H
        clear H
        have H := H1
        clear H1
        obtain rfl := Option.some.inj H
        go_wp2
        repeat (go_quiet (fail); try go_wp2)
        go_ret
        exact ⟨by first | rfl | (simp [errW_none, errW_some] <;> rfl) | (simp [*, errW_none, errW_some] <;> rfl), bl HB.out⟩
      · replace c10 := Bool.eq_false_iff.mpr c10
        subst c10
        have H1 : (spec_ColumnOk.l0 kj1 0 a0_0 l0_1 l0_2) = some r := by rw [if_neg (show ¬ (false = true) by decide)] at H; exact H
        clear H
        have H := H1
        clear H1
        have H' := Aside0.mk H
        clear H
        go_wp2
        repeat (go_quiet (fail); try go_wp2)
        go_loopg [3] kj1 (fun kq v3 w' => ∃ (x3_2 : Int), v3 = .int .i64 x3_2 ∧ Aside0 (spec_ColumnOk.l0 kq x3_2 a0_0 l0_1 l0_2 = some r) ∧ Aside0 (kq ≤ kj1) ∧ Aside0 (w'.heap[gb110]? = some (.cells #[.int .i64 a0_0, (.slice A0_1 l0_1.length c0_1), (.slice A0_2 l0_2.length c0_2)] 30 (0, 0))) ∧ Aside0 (Below w.heap.size w w'))
        case atStart => exact ⟨(0), (by first | rfl | (simp; done) | (simp [*]; done)), H', ⟨Nat.le_refl _⟩, ⟨by (with_reducible repeat (first | apply bN | apply bD | apply bA)); exact BK110.out⟩, ⟨bl HB.out⟩⟩
        case round =>
          clear H'
          try clear c1
          try clear p2
          try clear c5
          try clear c10
          try clear hcz7_0
          try clear hcz7_1
          try clear hcz7_2
          try clear hcz9_0
          try clear hcz9_1
          try clear hcz9_2
          try clear hfz7_0
          try clear hfz7_1
          try clear hfz7_2
          try clear hfz9_0
          try clear hfz9_1
          try clear hfz9_2
          try clear p2
          obtain ⟨x3_2, rfl, HA, HK2, BK110, HB⟩ := hrel
          cases gk with
          | zero => exact absurd HA.out (by simp [spec_ColumnOk.l0])
          | succ k2 =>
            have H := HA.out
            clear HA
            simp only [spec_ColumnOk.l0] at H
            by_cases c11 : x3_2 < (l0_1.length : Int)
            · rw [if_pos c11] at H
              have c11b0 : decide (x3_2 < (l0_1.length : Int)) = true := decide_eq_true c11
              clear c11
              have HC12 := Aside0.mk H
              clear H
              have hcz13_0 : wr.cell? ⟨gb110, 0, none⟩ = some (.int .i64 a0_0) := (blk_cell BK110.out 0).trans rfl
              have hcz13_1 : wr.cell? ⟨gb110, 1, none⟩ = some (.slice A0_1 l0_1.length c0_1) := (blk_cell BK110.out 1).trans rfl
              have hcz13_2 : wr.cell? ⟨gb110, 2, none⟩ = some (.slice A0_2 l0_2.length c0_2) := (blk_cell BK110.out 2).trans rfl
              have hfz13_0 := blk_frozen BK110.out 0
              have hfz13_1 := blk_frozen BK110.out 1
              have hfz13_2 := blk_frozen BK110.out 2
              go_upto_region 6 with (fail)
              repeat (go_quiet (fail); go_upto_region 6 with (fail))
              go_cut [49] (fun v49 wc => ∃ (kq : Nat) (x49_11 : Bool), v49 = .bool x49_11 ∧ Aside0 (spec_ColumnOk.j2 kq x3_2 x49_11 a0_0 l0_1 l0_2 = some r) ∧ Aside0 (kq ≤ k2) ∧ Aside0 (wc.heap[gb110]? = some (.cells #[.int .i64 a0_0, (.slice A0_1 l0_1.length c0_1), (.slice A0_2 l0_2.length c0_2)] 30 (0, 0))) ∧ Aside0 (Below w.heap.size w wc))
              case first =>
                have H := HC12.out
                clear HC12
                by_cases c14 : 0 ≤ x3_2
                · rw [if_pos c14] at H
                  have c14b0 : decide (0 ≤ x3_2) = true := decide_eq_true c14
                  clear c14
                  (first | rw [c14b0] | (simp only [i64_w, i32_w]; rw [c14b0]) | skip)
                  replace H := Option.bind_eq_some_iff.mp H
                  obtain ⟨t114, A150, H⟩ := H
                  replace H : (if t114 = true then (if x3_2 > 0 then (if 0 ≤ (wrap64 (x3_2 - 1)) then (if (wrap64 (x3_2 - 1)) < (l0_1.length : Int) then (spec_ColumnOk.j2 k2 x3_2 (decide ((rd l0_1 x3_2) ≤ (rd l0_1 (wrap64 (x3_2 - 1))))) a0_0 l0_1 l0_2) else (none)) else (none)) else (spec_ColumnOk.j2 k2 x3_2 false a0_0 l0_1 l0_2)) else (spec_ColumnOk.j2 k2 x3_2 true a0_0 l0_1 l0_2)) = some r := H
                  have A15 := Aside0.mk A150
                  clear A150
                  by_cases c16 : t114 = true
                  · subst c16
                    have H1 : (if x3_2 > 0 then (if 0 ≤ (wrap64 (x3_2 - 1)) then (if (wrap64 (x3_2 - 1)) < (l0_1.length : Int) then (spec_ColumnOk.j2 k2 x3_2 (decide ((rd l0_1 x3_2) ≤ (rd l0_1 (wrap64 (x3_2 - 1))))) a0_0 l0_1 l0_2) else (none)) else (none)) else (spec_ColumnOk.j2 k2 x3_2 false a0_0 l0_1 l0_2)) = some r := by rw [if_pos rfl] at H; exact H
                    clear H
                    have H := H1
                    clear H1
                    by_cases c17 : x3_2 > 0
                    · rw [if_pos c17] at H
                      have c17b0 : decide (0 < x3_2) = true := decide_eq_true c17
                      clear c17
                      obtain ⟨ji18, hji18⟩ : ∃ j_ : Int, (wrap64 (x3_2 - 1)) = j_ := ⟨_, rfl⟩
                      replace H : (if 0 ≤ (ji18) then (if (ji18) < (l0_1.length : Int) then (spec_ColumnOk.j2 k2 x3_2 (decide ((rd l0_1 x3_2) ≤ (rd l0_1 (ji18)))) a0_0 l0_1 l0_2) else (none)) else (none)) = some r := by first | (rw [hji18] at H; exact H) | (simp only [hji18] at H ⊢; exact H)
                      (try rw [hji18] at A15)
                      have hji18w : (IntKind.i64.wrap (x3_2 - 1)) = ji18 := (i64_w _).trans hji18
                      by_cases c19 : 0 ≤ (ji18)
                      · rw [if_pos c19] at H
                        have c19b0 : decide (0 ≤ (ji18)) = true := decide_eq_true c19
                        clear c19
                        by_cases c20 : (ji18) < (l0_1.length : Int)
                        · rw [if_pos c20] at H
                          have c20b0 : decide ((ji18) < (l0_1.length : Int)) = true := decide_eq_true c20
                          clear c20
                          have H' := Aside0.mk H
                          clear H
                          have hcz21_0 : wr.cell? ⟨gb110, 0, none⟩ = some (.int .i64 a0_0) := (blk_cell BK110.out 0).trans rfl
                          have hcz21_1 : wr.cell? ⟨gb110, 1, none⟩ = some (.slice A0_1 l0_1.length c0_1) := (blk_cell BK110.out 1).trans rfl
                          have hcz21_2 : wr.cell? ⟨gb110, 2, none⟩ = some (.slice A0_2 l0_2.length c0_2) := (blk_cell BK110.out 2).trans rfl
                          have hfz21_0 := blk_frozen BK110.out 0
                          have hfz21_1 := blk_frozen BK110.out 1
                          have hfz21_2 := blk_frozen BK110.out 2
                          have p113 : 0 ≤ (x3_2 : Int) := of_decide_eq_true (by first | (with_reducible assumption) | assumption)
                          have q113 : x3_2 < (l0_1.length : Int) := of_decide_eq_true (by first | (with_reducible assumption) | assumption)
                          obtain ⟨ad113, e113, hx113_0⟩ := Kd.at_int HR0_1.out x3_2 p113 q113
                          cases e113
                          replace hx113_0 := (HB.out.cell (World.block_lt_of_cell? w _ hx113_0)).trans hx113_0
                          replace p113 := eq_true p113
                          replace q113 := eq_true q113
                          have p115 : 0 ≤ (x3_2 : Int) := of_decide_eq_true (by first | (with_reducible assumption) | assumption); have q115 : x3_2 < (l0_1.length : Int) := of_decide_eq_true (by first | (with_reducible assumption) | assumption); obtain ⟨ad115, e115, hx115_0⟩ := Kd.at_int HR0_1.out x3_2 p115 q115; obtain rfl : ad113 = ad115 := (by injection e115); replace hx115_0 := (HB.out.cell (World.block_lt_of_cell? w _ hx115_0)).trans hx115_0; replace p115 := eq_true p115; replace q115 := eq_true q115; have p116 : 0 ≤ ((ji18) : Int) := of_decide_eq_true (by first | (with_reducible assumption) | assumption); have q116 : (ji18) < (l0_1.length : Int) := of_decide_eq_true (by first | (with_reducible assumption) | assumption); obtain ⟨ad116, e116, hx116_0⟩ := Kd.at_int HR0_1.out (ji18) p116 q116; obtain rfl : ad113 = ad116 := (by injection e116); replace hx116_0 := (HB.out.cell (World.block_lt_of_cell? w _ hx116_0)).trans hx116_0; replace p116 := eq_true p116; replace q116 := eq_true q116
                          go_wp2_with (first | (go_at_call 59; (with_reducible refine (spec_l01In.calls (rd l0_1 x3_2) 1 (wrap64 (a0_0 - 1)) true _ A15.out).mono ?_); rintro e w' ⟨rfl, ⟨nd, rfl⟩⟩; (try first | exact ⟨rfl, _, World.drewN_drewN _ _ _⟩ | exact ⟨rfl, _, Eq.trans (World.drewN_drewN _ _ _) (congrArg (World.drewN _) (Nat.add_assoc _ _ _))⟩)))
                          repeat (go_quiet (first | (go_at_call 59; (with_reducible refine (spec_l01In.calls (rd l0_1 x3_2) 1 (wrap64 (a0_0 - 1)) true _ A15.out).mono ?_); rintro e w' ⟨rfl, ⟨nd, rfl⟩⟩; (try first | exact ⟨rfl, _, World.drewN_drewN _ _ _⟩ | exact ⟨rfl, _, Eq.trans (World.drewN_drewN _ _ _) (congrArg (World.drewN _) (Nat.add_assoc _ _ _))⟩))); try go_wp2_with (first | (go_at_call 59; (with_reducible refine (spec_l01In.calls (rd l0_1 x3_2) 1 (wrap64 (a0_0 - 1)) true _ A15.out).mono ?_); rintro e w' ⟨rfl, ⟨nd, rfl⟩⟩; (try first | exact ⟨rfl, _, World.drewN_drewN _ _ _⟩ | exact ⟨rfl, _, Eq.trans (World.drewN_drewN _ _ _) (congrArg (World.drewN _) (Nat.add_assoc _ _ _))⟩))))
                          go_meet
                          case rel => exact ⟨_, (decide ((rd l0_1 x3_2) ≤ (rd l0_1 (ji18)))), (by first | rfl | (simp; done) | (simp only [← hji18] <;> (first | rfl | simp)) | (simp [*]; done)), H', ⟨by have := HJ1.out; have := HK2.out; first | omega | exact Nat.le_refl _⟩, ⟨by (with_reducible repeat (first | apply bN | apply bD | apply bA)); exact BK110.out⟩, ⟨bl HB.out⟩⟩
                        · rw [if_neg c20] at H
                          exact absurd H (by simp)
                      · rw [if_neg c19] at H
                        exact absurd H (by simp)
                    · rw [if_neg c17] at H
                      have c17b0 : decide (0 < x3_2) = false := decide_eq_false c17
                      clear c17
                      have H' := Aside0.mk H
                      clear H
                      have hcz22_0 : wr.cell? ⟨gb110, 0, none⟩ = some (.int .i64 a0_0) := (blk_cell BK110.out 0).trans rfl
                      have hcz22_1 : wr.cell? ⟨gb110, 1, none⟩ = some (.slice A0_1 l0_1.length c0_1) := (blk_cell BK110.out 1).trans rfl
                      have hcz22_2 : wr.cell? ⟨gb110, 2, none⟩ = some (.slice A0_2 l0_2.length c0_2) := (blk_cell BK110.out 2).trans rfl
                      have hfz22_0 := blk_frozen BK110.out 0
                      have hfz22_1 := blk_frozen BK110.out 1
                      have hfz22_2 := blk_frozen BK110.out 2
                      have p113 : 0 ≤ (x3_2 : Int) := of_decide_eq_true (by first | (with_reducible assumption) | assumption)
                      have q113 : x3_2 < (l0_1.length : Int) := of_decide_eq_true (by first | (with_reducible assumption) | assumption)
                      obtain ⟨ad113, e113, hx113_0⟩ := Kd.at_int HR0_1.out x3_2 p113 q113
                      cases e113
                      replace hx113_0 := (HB.out.cell (World.block_lt_of_cell? w _ hx113_0)).trans hx113_0
                      replace p113 := eq_true p113
                      replace q113 := eq_true q113
                      go_wp2_with (first | (go_at_call 59; (with_reducible refine (spec_l01In.calls (rd l0_1 x3_2) 1 (wrap64 (a0_0 - 1)) true _ A15.out).mono ?_); rintro e w' ⟨rfl, ⟨nd, rfl⟩⟩; (try first | exact ⟨rfl, _, World.drewN_drewN _ _ _⟩ | exact ⟨rfl, _, Eq.trans (World.drewN_drewN _ _ _) (congrArg (World.drewN _) (Nat.add_assoc _ _ _))⟩)))
                      repeat (go_quiet (first | (go_at_call 59; (with_reducible refine (spec_l01In.calls (rd l0_1 x3_2) 1 (wrap64 (a0_0 - 1)) true _ A15.out).mono ?_); rintro e w' ⟨rfl, ⟨nd, rfl⟩⟩; (try first | exact ⟨rfl, _, World.drewN_drewN _ _ _⟩ | exact ⟨rfl, _, Eq.trans (World.drewN_drewN _ _ _) (congrArg (World.drewN _) (Nat.add_assoc _ _ _))⟩))); try go_wp2_with (first | (go_at_call 59; (with_reducible refine (spec_l01In.calls (rd l0_1 x3_2) 1 (wrap64 (a0_0 - 1)) true _ A15.out).mono ?_); rintro e w' ⟨rfl, ⟨nd, rfl⟩⟩; (try first | exact ⟨rfl, _, World.drewN_drewN _ _ _⟩ | exact ⟨rfl, _, Eq.trans (World.drewN_drewN _ _ _) (congrArg (World.drewN _) (Nat.add_assoc _ _ _))⟩))))
                      go_meet
                      case rel => exact ⟨_, (false), (by first | rfl | (simp; done) | (simp [*]; done)), H', ⟨by have := HJ1.out; have := HK2.out; first | omega | exact Nat.le_refl _⟩, ⟨by (with_reducible repeat (first | apply bN | apply bD | apply bA)); exact BK110.out⟩, ⟨bl HB.out⟩⟩
                  · replace c16 := Bool.eq_false_iff.mpr c16
                    subst c16
                    have H1 : (spec_ColumnOk.j2 k2 x3_2 true a0_0 l0_1 l0_2) = some r := by rw [if_neg (show ¬ (false = true) by decide)] at H; exact H
                    clear H
                    have H := H1
                    clear H1
                    have H' := Aside0.mk H
                    clear H
                    have hcz23_0 : wr.cell? ⟨gb110, 0, none⟩ = some (.int .i64 a0_0) := (blk_cell BK110.out 0).trans rfl
                    have hcz23_1 : wr.cell? ⟨gb110, 1, none⟩ = some (.slice A0_1 l0_1.length c0_1) := (blk_cell BK110.out 1).trans rfl
                    have hcz23_2 : wr.cell? ⟨gb110, 2, none⟩ = some (.slice A0_2 l0_2.length c0_2) := (blk_cell BK110.out 2).trans rfl
                    have hfz23_0 := blk_frozen BK110.out 0
                    have hfz23_1 := blk_frozen BK110.out 1
                    have hfz23_2 := blk_frozen BK110.out 2
                    have p113 : 0 ≤ (x3_2 : Int) := of_decide_eq_true (by first | (with_reducible assumption) | assumption)
                    have q113 : x3_2 < (l0_1.length : Int) := of_decide_eq_true (by first | (with_reducible assumption) | assumption)
                    obtain ⟨ad113, e113, hx113_0⟩ := Kd.at_int HR0_1.out x3_2 p113 q113
                    cases e113
                    replace hx113_0 := (HB.out.cell (World.block_lt_of_cell? w _ hx113_0)).trans hx113_0
                    replace p113 := eq_true p113
                    replace q113 := eq_true q113
                    go_wp2_with (first | (go_at_call 59; (with_reducible refine (spec_l01In.calls (rd l0_1 x3_2) 1 (wrap64 (a0_0 - 1)) false _ A15.out).mono ?_); rintro e w' ⟨rfl, ⟨nd, rfl⟩⟩; (try first | exact ⟨rfl, _, World.drewN_drewN _ _ _⟩ | exact ⟨rfl, _, Eq.trans (World.drewN_drewN _ _ _) (congrArg (World.drewN _) (Nat.add_assoc _ _ _))⟩)))
                    repeat (go_quiet (first | (go_at_call 59; (with_reducible refine (spec_l01In.calls (rd l0_1 x3_2) 1 (wrap64 (a0_0 - 1)) false _ A15.out).mono ?_); rintro e w' ⟨rfl, ⟨nd, rfl⟩⟩; (try first | exact ⟨rfl, _, World.drewN_drewN _ _ _⟩ | exact ⟨rfl, _, Eq.trans (World.drewN_drewN _ _ _) (congrArg (World.drewN _) (Nat.add_assoc _ _ _))⟩))); try go_wp2_with (first | (go_at_call 59; (with_reducible refine (spec_l01In.calls (rd l0_1 x3_2) 1 (wrap64 (a0_0 - 1)) false _ A15.out).mono ?_); rintro e w' ⟨rfl, ⟨nd, rfl⟩⟩; (try first | exact ⟨rfl, _, World.drewN_drewN _ _ _⟩ | exact ⟨rfl, _, Eq.trans (World.drewN_drewN _ _ _) (congrArg (World.drewN _) (Nat.add_assoc _ _ _))⟩))))
                    go_meet
                    case rel => exact ⟨_, (true), (by first | rfl | (simp; done) | (simp [*]; done)), H', ⟨by have := HJ1.out; have := HK2.out; first | omega | exact Nat.le_refl _⟩, ⟨by (with_reducible repeat (first | apply bN | apply bD | apply bA)); exact BK110.out⟩, ⟨bl HB.out⟩⟩
                · rw [if_neg c14] at H
                  exact absurd H (by simp)
              case rest =>
                clear HC12
                try clear c1
                try clear p1
                try clear q1
                try clear hx1
                try clear c2
                try clear p2
                try clear c5
                try clear p6
                try clear c10
                try clear c11
                try clear c11b0
                try clear p11
                try clear q11
                try clear hx11
                try clear c14
                try clear c14b0
                try clear c16
                try clear c17
                try clear c17b0
                try clear c19
                try clear c19b0
                try clear c20
                try clear c20b0
                try clear hcz13_0
                try clear hcz13_1
                try clear hcz13_2
                try clear hcz21_0
                try clear hcz21_1
                try clear hcz21_2
                try clear hcz22_0
                try clear hcz22_1
                try clear hcz22_2
                try clear hcz23_0
                try clear hcz23_1
                try clear hcz23_2
                try clear hcz7_0
                try clear hcz7_1
                try clear hcz7_2
                try clear hcz9_0
                try clear hcz9_1
                try clear hcz9_2
                try clear hfz13_0
                try clear hfz13_1
                try clear hfz13_2
                try clear hfz21_0
                try clear hfz21_1
                try clear hfz21_2
                try clear hfz22_0
                try clear hfz22_1
                try clear hfz22_2
                try clear hfz23_0
                try clear hfz23_1
                try clear hfz23_2
                try clear hfz7_0
                try clear hfz7_1
                try clear hfz7_2
                try clear hfz9_0
                try clear hfz9_1
                try clear hfz9_2
                try clear hx113_0
                try clear hx115_0
                try clear hx116_0
                try clear p113
                try clear p115
                try clear p116
                try clear p2
                try clear q113
                try clear q115
                try clear q116
                obtain ⟨kq, x49_11, rfl, HA, HJ11, BK110, HB⟩ := hcut
                cases kq with
                | zero => exact absurd HA.out (by simp [spec_ColumnOk.j2])
                | succ kj11 =>
                  have H := HA.out
                  clear HA
                  simp only [spec_ColumnOk.j2] at H
                  by_cases c24 : x49_11 = true
                  · subst c24
                    have H1 : (some false) = some r := by rw [if_pos rfl] at H; exact H
                    clear H
                    have H := H1
                    clear H1
                    obtain rfl := Option.some.inj H
                    go_wp2
                    repeat (go_quiet (fail); try go_wp2)
                    go_ret
                    exact ⟨by first | rfl | (simp [errW_none, errW_some] <;> rfl) | (simp [*, errW_none, errW_some] <;> rfl), bl HB.out⟩
                  · replace c24 := Bool.eq_false_iff.mpr c24
                    subst c24
                    have H1 : (spec_ColumnOk.l1 kj11 x3_2 false 0 a0_0 l0_1 l0_2) = some r := by rw [if_neg (show ¬ (false = true) by decide)] at H; exact H
                    clear H
                    have H := H1
                    clear H1
                    have H' := Aside0.mk H
                    clear H
                    go_wp2
                    repeat (go_quiet (fail); try go_wp2)
                    go_loopg [4, 5] kj11 (fun kq v4 v5 w' => ∃ (x4_4 : Bool) (x5_4 : Int), v4 = .bool x4_4 ∧ v5 = .int .i64 x5_4 ∧ Aside0 (spec_ColumnOk.l1 kq x3_2 x4_4 x5_4 a0_0 l0_1 l0_2 = some r) ∧ Aside0 (kq ≤ kj11) ∧ Aside0 (w'.heap[gb110]? = some (.cells #[.int .i64 a0_0, (.slice A0_1 l0_1.length c0_1), (.slice A0_2 l0_2.length c0_2)] 30 (0, 0))) ∧ Aside0 (Below w.heap.size w w'))
                    case atStart => exact ⟨(false), (0), (by first | rfl | (simp; done) | (simp [*]; done)), (by first | rfl | (simp; done) | (simp [*]; done)), H', ⟨Nat.le_refl _⟩, ⟨by (with_reducible repeat (first | apply bN | apply bD | apply bA)); exact BK110.out⟩, ⟨bl HB.out⟩⟩
                    case round =>
                      clear H'
                      try clear c1
                      try clear p1
                      try clear q1
                      try clear hx1
                      try clear c2
                      try clear p2
                      try clear c5
                      try clear p6
                      try clear c10
                      try clear c11
                      try clear c11b0
                      try clear p11
                      try clear q11
                      try clear hx11
                      try clear c14
                      try clear c14b0
                      try clear c16
                      try clear c17
                      try clear c17b0
                      try clear c19
                      try clear c19b0
                      try clear c20
                      try clear c20b0
                      try clear c24
                      try clear hcz13_0
                      try clear hcz13_1
                      try clear hcz13_2
                      try clear hcz21_0
                      try clear hcz21_1
                      try clear hcz21_2
                      try clear hcz22_0
                      try clear hcz22_1
                      try clear hcz22_2
                      try clear hcz23_0
                      try clear hcz23_1
                      try clear hcz23_2
                      try clear hcz7_0
                      try clear hcz7_1
                      try clear hcz7_2
                      try clear hcz9_0
                      try clear hcz9_1
                      try clear hcz9_2
                      try clear hfz13_0
                      try clear hfz13_1
                      try clear hfz13_2
                      try clear hfz21_0
                      try clear hfz21_1
                      try clear hfz21_2
                      try clear hfz22_0
                      try clear hfz22_1
                      try clear hfz22_2
                      try clear hfz23_0
                      try clear hfz23_1
                      try clear hfz23_2
                      try clear hfz7_0
                      try clear hfz7_1
                      try clear hfz7_2
                      try clear hfz9_0
                      try clear hfz9_1
                      try clear hfz9_2
                      try clear hx113_0
                      try clear hx115_0
                      try clear hx116_0
                      try clear p1
                      try clear p11
                      try clear p113
                      try clear p115
                      try clear p116
                      try clear p2
                      try clear p6
                      try clear q1
                      try clear q11
                      try clear q113
                      try clear q115
                      try clear q116
                      obtain ⟨x4_4, x5_4, rfl, rfl, HA, HK4, BK110, HB⟩ := hrel
                      cases gk with
                      | zero => exact absurd HA.out (by simp [spec_ColumnOk.l1])
                      | succ k4 =>
                        have H := HA.out
                        clear HA
                        simp only [spec_ColumnOk.l1] at H
                        by_cases c25 : x5_4 < (l0_2.length : Int)
                        · rw [if_pos c25] at H
                          have c25b0 : decide (x5_4 < (l0_2.length : Int)) = true := decide_eq_true c25
                          clear c25
                          by_cases c26 : x4_4 = true
                          · subst c26
                            have H1 : (spec_ColumnOk.l1 k4 x3_2 true (wrap64 (x5_4 + 1)) a0_0 l0_1 l0_2) = some r := by rw [if_pos rfl] at H; exact H
                            clear H
                            have H := H1
                            clear H1
                            have H' := Aside0.mk H
                            clear H
                            have hcz27_0 : wr.cell? ⟨gb110, 0, none⟩ = some (.int .i64 a0_0) := (blk_cell BK110.out 0).trans rfl
                            have hcz27_1 : wr.cell? ⟨gb110, 1, none⟩ = some (.slice A0_1 l0_1.length c0_1) := (blk_cell BK110.out 1).trans rfl
                            have hcz27_2 : wr.cell? ⟨gb110, 2, none⟩ = some (.slice A0_2 l0_2.length c0_2) := (blk_cell BK110.out 2).trans rfl
                            have hfz27_0 := blk_frozen BK110.out 0
                            have hfz27_1 := blk_frozen BK110.out 1
                            have hfz27_2 := blk_frozen BK110.out 2
                            go_wp2
                            repeat (go_quiet (fail); try go_wp2)
                            go_roundg k4
                            case measure => have := HJ1.out; have := HK2.out; have := HJ11.out; have := HK4.out; omega
                            case rel => exact ⟨(true), (wrap64 (x5_4 + 1)), (by first | rfl | (simp; done) | (simp [*]; done)), (by first | rfl | (simp; done) | (simp [*]; done)), H', ⟨by have := HJ1.out; have := HK2.out; have := HJ11.out; have := HK4.out; omega⟩, ⟨by (with_reducible repeat (first | apply bN | apply bD | apply bA)); exact BK110.out⟩, ⟨bl HB.out⟩⟩
                          · replace c26 := Bool.eq_false_iff.mpr c26
                            subst c26
                            have H1 : (if 0 ≤ x5_4 then (if 0 ≤ x3_2 then (if x3_2 < (l0_1.length : Int) then (spec_ColumnOk.l1 k4 x3_2 (((rd_T71 l0_2 x5_4).f0) == (rd l0_1 x3_2)) (wrap64 (x5_4 + 1)) a0_0 l0_1 l0_2) else (none)) else (none)) else (none)) = some r := by rw [if_neg (show ¬ (false = true) by decide)] at H; exact H
                            clear H
                            have H := H1
                            clear H1
                            by_cases c28 : 0 ≤ x5_4
                            · rw [if_pos c28] at H
                              have c28b0 : decide (0 ≤ x5_4) = true := decide_eq_true c28
                              clear c28
                              by_cases c29 : 0 ≤ x3_2
                              · rw [if_pos c29] at H
                                have c29b0 : decide (0 ≤ x3_2) = true := decide_eq_true c29
                                clear c29
                                by_cases c30 : x3_2 < (l0_1.length : Int)
                                · rw [if_pos c30] at H
                                  have c30b0 : decide (x3_2 < (l0_1.length : Int)) = true := decide_eq_true c30
                                  clear c30
                                  have H' := Aside0.mk H
                                  clear H
                                  have hcz31_0 : wr.cell? ⟨gb110, 0, none⟩ = some (.int .i64 a0_0) := (blk_cell BK110.out 0).trans rfl
                                  have hcz31_1 : wr.cell? ⟨gb110, 1, none⟩ = some (.slice A0_1 l0_1.length c0_1) := (blk_cell BK110.out 1).trans rfl
                                  have hcz31_2 : wr.cell? ⟨gb110, 2, none⟩ = some (.slice A0_2 l0_2.length c0_2) := (blk_cell BK110.out 2).trans rfl
                                  have hfz31_0 := blk_frozen BK110.out 0
                                  have hfz31_1 := blk_frozen BK110.out 1
                                  have hfz31_2 := blk_frozen BK110.out 2
                                  have p117 : 0 ≤ (x5_4 : Int) := of_decide_eq_true (by first | (with_reducible assumption) | assumption)
                                  have q117 : x5_4 < (l0_2.length : Int) := of_decide_eq_true (by first | (with_reducible assumption) | assumption)
                                  obtain ⟨ad117, e117, hx117_0, hx117_1, hx117_2, hx117_3⟩ := at_T71 HR0_2.out x5_4 p117 q117
                                  cases e117
                                  replace hx117_0 := (HB.out.cell (World.block_lt_of_cell? w _ hx117_0)).trans hx117_0
                                  replace hx117_1 := (HB.out.cell (World.block_lt_of_cell? w _ hx117_1)).trans hx117_1
                                  replace hx117_2 := (HB.out.cell (World.block_lt_of_cell? w _ hx117_2)).trans hx117_2
                                  replace hx117_3 := (HB.out.cell (World.block_lt_of_cell? w _ hx117_3)).trans hx117_3
                                  replace p117 := eq_true p117
                                  replace q117 := eq_true q117
                                  have p118 : 0 ≤ (x3_2 : Int) := of_decide_eq_true (by first | (with_reducible assumption) | assumption)
                                  have q118 : x3_2 < (l0_1.length : Int) := of_decide_eq_true (by first | (with_reducible assumption) | assumption)
                                  obtain ⟨ad118, e118, hx118_0⟩ := Kd.at_int HR0_1.out x3_2 p118 q118
                                  cases e118
                                  replace hx118_0 := (HB.out.cell (World.block_lt_of_cell? w _ hx118_0)).trans hx118_0
                                  replace p118 := eq_true p118
                                  replace q118 := eq_true q118
                                  go_wp2
                                  repeat (go_quiet (fail); try go_wp2)
                                  go_roundg k4
                                  case measure => have := HJ1.out; have := HK2.out; have := HJ11.out; have := HK4.out; omega
                                  case rel => exact ⟨((((rd_T71 l0_2 x5_4).f0) == (rd l0_1 x3_2))), (wrap64 (x5_4 + 1)), (by first | rfl | (simp; done) | (simp [*]; done)), (by first | rfl | (simp; done) | (simp [*]; done)), H', ⟨by have := HJ1.out; have := HK2.out; have := HJ11.out; have := HK4.out; omega⟩, ⟨by (with_reducible repeat (first | apply bN | apply bD | apply bA)); exact BK110.out⟩, ⟨bl HB.out⟩⟩
                                · rw [if_neg c30] at H
                                  exact absurd H (by simp)
                              · rw [if_neg c29] at H
                                exact absurd H (by simp)
                            · rw [if_neg c28] at H
                              exact absurd H (by simp)
                        · rw [if_neg c25] at H
                          have c25b0 : decide (x5_4 < (l0_2.length : Int)) = false := decide_eq_false c25
                          clear c25
                          by_cases c32 : x4_4 = true
                          · subst c32
                            have H1 : (spec_ColumnOk.l0 k4 (wrap64 (x3_2 + 1)) a0_0 l0_1 l0_2) = some r := by rw [if_pos rfl] at H; exact H
                            clear H
                            have H := H1
                            clear H1
                            have H' := Aside0.mk H
                            clear H
                            have hcz33_0 : wr.cell? ⟨gb110, 0, none⟩ = some (.int .i64 a0_0) := (blk_cell BK110.out 0).trans rfl
                            have hcz33_1 : wr.cell? ⟨gb110, 1, none⟩ = some (.slice A0_1 l0_1.length c0_1) := (blk_cell BK110.out 1).trans rfl
                            have hcz33_2 : wr.cell? ⟨gb110, 2, none⟩ = some (.slice A0_2 l0_2.length c0_2) := (blk_cell BK110.out 2).trans rfl
                            have hfz33_0 := blk_frozen BK110.out 0
                            have hfz33_1 := blk_frozen BK110.out 1
                            have hfz33_2 := blk_frozen BK110.out 2
                            go_wp2
                            repeat (go_quiet (fail); try go_wp2)
                            go_roundg k4
                            case measure => have := HJ1.out; have := HK2.out; have := HJ11.out; have := HK4.out; omega
                            case rel => exact ⟨(wrap64 (x3_2 + 1)), (by first | rfl | (simp; done) | (simp [*]; done)), H', ⟨by have := HJ1.out; have := HK2.out; have := HJ11.out; have := HK4.out; omega⟩, ⟨by (with_reducible repeat (first | apply bN | apply bD | apply bA)); exact BK110.out⟩, ⟨bl HB.out⟩⟩
                          · replace c32 := Bool.eq_false_iff.mpr c32
                            subst c32
                            have H1 : (some false) = some r := by rw [if_neg (show ¬ (false = true) by decide)] at H; exact H
                            clear H
                            have H := H1
                            clear H1
                            obtain rfl := Option.some.inj H
                            have hcz34_0 : wr.cell? ⟨gb110, 0, none⟩ = some (.int .i64 a0_0) := (blk_cell BK110.out 0).trans rfl
                            have hcz34_1 : wr.cell? ⟨gb110, 1, none⟩ = some (.slice A0_1 l0_1.length c0_1) := (blk_cell BK110.out 1).trans rfl
                            have hcz34_2 : wr.cell? ⟨gb110, 2, none⟩ = some (.slice A0_2 l0_2.length c0_2) := (blk_cell BK110.out 2).trans rfl
                            have hfz34_0 := blk_frozen BK110.out 0
                            have hfz34_1 := blk_frozen BK110.out 1
                            have hfz34_2 := blk_frozen BK110.out 2
                            go_wp2
                            repeat (go_quiet (fail); try go_wp2)
                            go_ret
                            exact ⟨by first | rfl | (simp [errW_none, errW_some] <;> rfl) | (simp [*, errW_none, errW_some] <;> rfl), bl HB.out⟩
            · rw [if_neg c11] at H
              have c11b0 : decide (x3_2 < (l0_1.length : Int)) = false := decide_eq_false c11
              clear c11
              obtain rfl := Option.some.inj H
              have hcz35_0 : wr.cell? ⟨gb110, 0, none⟩ = some (.int .i64 a0_0) := (blk_cell BK110.out 0).trans rfl
              have hcz35_1 : wr.cell? ⟨gb110, 1, none⟩ = some (.slice A0_1 l0_1.length c0_1) := (blk_cell BK110.out 1).trans rfl
              have hcz35_2 : wr.cell? ⟨gb110, 2, none⟩ = some (.slice A0_2 l0_2.length c0_2) := (blk_cell BK110.out 2).trans rfl
              have hfz35_0 := blk_frozen BK110.out 0
              have hfz35_1 := blk_frozen BK110.out 1
              have hfz35_2 := blk_frozen BK110.out 2
              go_wp2
              repeat (go_quiet (fail); try go_wp2)
              go_ret
              exact ⟨by first | rfl | (simp [errW_none, errW_some] <;> rfl) | (simp [*, errW_none, errW_some] <;> rfl), bl HB.out⟩
end Go.Proofs.Ytghfeapncmlihaa.A

namespace Go.Proofs.Ytghfeapncmlihaa.A
open Go.RowKit Go.Proofs.YtghfeapncmlihaaW.PrintWords Go.Proofs.YtghfeapncmlihaaW.PrintLast Go.Proofs.YtghfeapncmlihaaW.PrintMore
attribute [local go_sem] max2_int min2_int max_two min_two max_three min_three max_four min_four   
set_option linter.unusedVariables false
set_option linter.unusedSimpArgs false
def spec_l02Open.f (a0_0 : Int) (a0_1 : Int) (a0_2 : Int) (a0_3 : Bool) : Option (Bool) := if a0_2 = 0 then (some (!a0_3)) else (some false)
set_option maxHeartbeats 8000000 in
set_option maxRecDepth 100000 in
theorem spec_l02Open.calls (a0_0 : Int) (a0_1 : Int) (a0_2 : Int) (a0_3 : Bool) (r : Bool) (w : World) (h : spec_l02Open.f a0_0 a0_1 a0_2 a0_3 = some r) :
    Calls Try.prog 75 #[.agg #[.int .i64 a0_0, .int .i64 a0_1, .int .i64 a0_2, .bool a0_3]] w fun e w' => e = .returned (.bool r) ∧ Below w.heap.size w w' := by
  have hu71 := Try.underlying71
  have HB := Aside0.mk (Below.refl w.heap.size w)
  have H : (if a0_2 = 0 then (some (!a0_3)) else (some false)) = some r := h
  clear h
  by_cases c2 : a0_2 = 0
  · rw [if_pos c2] at H
    have c2b0 : (a0_2 == 0) = true := beq_iff_eq.mpr c2
    have c2b1 : (a0_2 != 0) = false := bne_eq_false_iff_eq.mpr c2
    clear c2
    obtain rfl := Option.some.inj H
    go_enter Try.func75, Try.ntmps75
    go_wp2_with (first | ((with_reducible refine gate_dst (N := 1) rfl ?_); refine bx (cs := #[.int .i64 a0_0, .int .i64 a0_1, .int .i64 a0_2, .bool a0_3]) (t := 71) fun gb484 hg w3 hbox hb => ?_; have BK484 := Aside0.mk (hbox); have GW484 := Aside0.mk (gs HB.out hg); have GE484 := Aside0.mk (gs HB.out hg); replace HB := Aside0.mk (below_step (bl HB.out) hb); clear hb hbox hg; have hcz4_0 : w3.cell? ⟨gb484, 0, none⟩ = some (.int .i64 a0_0) := (blk_cell BK484.out 0).trans rfl; have hcz4_1 : w3.cell? ⟨gb484, 1, none⟩ = some (.int .i64 a0_1) := (blk_cell BK484.out 1).trans rfl; have hcz4_2 : w3.cell? ⟨gb484, 2, none⟩ = some (.int .i64 a0_2) := (blk_cell BK484.out 2).trans rfl; have hcz4_3 : w3.cell? ⟨gb484, 3, none⟩ = some (.bool a0_3) := (blk_cell BK484.out 3).trans rfl; have hfz4_0 := blk_frozen BK484.out 0; have hfz4_1 := blk_frozen BK484.out 1; have hfz4_2 := blk_frozen BK484.out 2; have hfz4_3 := blk_frozen BK484.out 3))
    go_ret
    exact ⟨by first | rfl | (simp [errW_none, errW_some] <;> rfl) | (simp [*, errW_none, errW_some] <;> rfl), bl HB.out⟩
  · rw [if_neg c2] at H
    have c2b0 : (a0_2 == 0) = false := beq_eq_false_iff_ne.mpr c2
    have c2b1 : (a0_2 != 0) = true := bne_iff_ne.mpr c2
    obtain rfl := Option.some.inj H
    go_enter Try.func75, Try.ntmps75
    go_wp2_with (first | ((with_reducible refine gate_dst (N := 1) rfl ?_); refine bx (cs := #[.int .i64 a0_0, .int .i64 a0_1, .int .i64 a0_2, .bool a0_3]) (t := 71) fun gb484 hg w5 hbox hb => ?_; have BK484 := Aside0.mk (hbox); have GW484 := Aside0.mk (gs HB.out hg); have GE484 := Aside0.mk (gs HB.out hg); replace HB := Aside0.mk (below_step (bl HB.out) hb); clear hb hbox hg; have hcz6_0 : w5.cell? ⟨gb484, 0, none⟩ = some (.int .i64 a0_0) := (blk_cell BK484.out 0).trans rfl; have hcz6_1 : w5.cell? ⟨gb484, 1, none⟩ = some (.int .i64 a0_1) := (blk_cell BK484.out 1).trans rfl; have hcz6_2 : w5.cell? ⟨gb484, 2, none⟩ = some (.int .i64 a0_2) := (blk_cell BK484.out 2).trans rfl; have hcz6_3 : w5.cell? ⟨gb484, 3, none⟩ = some (.bool a0_3) := (blk_cell BK484.out 3).trans rfl; have hfz6_0 := blk_frozen BK484.out 0; have hfz6_1 := blk_frozen BK484.out 1; have hfz6_2 := blk_frozen BK484.out 2; have hfz6_3 := blk_frozen BK484.out 3))
    go_ret
    exact ⟨by first | rfl | (simp [errW_none, errW_some] <;> rfl) | (simp [*, errW_none, errW_some] <;> rfl), bl HB.out⟩
def spec_l02Has.l0 : Nat → List Int → Int → Int → Option (Bool)
  | 0, _, _, _ => none
  | k + 1, x0, x1, x5 => if x5 < (x0.length : Int) then (if 0 ≤ x5 then (if (rd x0 x5) = x1 then (some true) else (spec_l02Has.l0 k x0 x1 (wrap64 (x5 + 1)))) else (none)) else (some false)
def spec_l02Has.f (k : Nat) (l0 : List Int) (a1 : Int) : Option (Bool) := spec_l02Has.l0 k l0 a1 0
set_option maxHeartbeats 8000000 in
set_option maxRecDepth 100000 in
theorem spec_l02Has.calls (k : Nat) (A0 : Option Addr) (c0 : Nat) (l0 : List Int) (a1 : Int) (r : Bool) (w : World) (hr0 : Kd.C (Kd.int .i64) w A0 l0.length l0) (hc0 : l0.length ≤ c0) (h : spec_l02Has.f k l0 a1 = some r) :
    Calls Try.prog 76 #[.slice A0 l0.length c0, .int .i64 a1] w fun e w' => e = .returned (.bool r) ∧ Drawn0 w w' := by
  have HR0 := Aside0.mk hr0
  have HC0 := Aside0.mk hc0
  clear hr0 hc0
  have H : (spec_l02Has.l0 k l0 a1 0) = some r := h
  clear h
  have H' := Aside0.mk H
  clear H
  go_enter Try.func76, Try.ntmps76
  go_wp2
  go_loopg [5] k (fun kq v5 w' => ∃ (x5_1 : Int), v5 = .int .i64 x5_1 ∧ Aside0 (spec_l02Has.l0 kq l0 a1 x5_1 = some r) ∧ Aside0 (kq ≤ k) ∧ Drawn0 w w')
  case atStart => exact ⟨(0), (by first | rfl | (simp; done) | (simp [*]; done)), H', ⟨Nat.le_refl _⟩, by repeat (first | exact Drawn0.refl _ | apply Drawn0.step)⟩
  case round =>
    clear H'
    try clear p2
    obtain ⟨x5_1, rfl, HA, HK1, ⟨m1, rfl⟩⟩ := hrel
    cases gk with
    | zero => exact absurd HA.out (by simp [spec_l02Has.l0])
    | succ k1 =>
      have H := HA.out
      clear HA
      simp only [spec_l02Has.l0] at H
      by_cases c3 : x5_1 < (l0.length : Int)
      · rw [if_pos c3] at H
        have c3b0 : decide (x5_1 < (l0.length : Int)) = true := decide_eq_true c3
        clear c3
        by_cases c4 : 0 ≤ x5_1
        · rw [if_pos c4] at H
          have c4b0 : decide (0 ≤ x5_1) = true := decide_eq_true c4
          clear c4
          by_cases c5 : (rd l0 x5_1) = a1
          · rw [if_pos c5] at H
            have c5b0 : ((rd l0 x5_1) == a1) = true := beq_iff_eq.mpr c5
            have c5b1 : ((rd l0 x5_1) != a1) = false := bne_eq_false_iff_eq.mpr c5
            clear c5
            obtain rfl := Option.some.inj H
            have p485 : 0 ≤ (x5_1 : Int) := of_decide_eq_true (by first | (with_reducible assumption) | assumption)
            have q485 : x5_1 < (l0.length : Int) := of_decide_eq_true (by first | (with_reducible assumption) | assumption)
            obtain ⟨ad485, e485, hx485_0⟩ := Kd.at_int HR0.out x5_1 p485 q485
            cases e485
            replace p485 := eq_true p485
            replace q485 := eq_true q485
            go_wp2
            go_ret
            exact ⟨by first | rfl | (simp; done) | (simp [*]; done), by repeat (first | exact Drawn0.refl _ | apply Drawn0.step)⟩
          · rw [if_neg c5] at H
            have c5b0 : ((rd l0 x5_1) == a1) = false := beq_eq_false_iff_ne.mpr c5
            have c5b1 : ((rd l0 x5_1) != a1) = true := bne_iff_ne.mpr c5
            have H' := Aside0.mk H
            clear H
            have p485 : 0 ≤ (x5_1 : Int) := of_decide_eq_true (by first | (with_reducible assumption) | assumption)
            have q485 : x5_1 < (l0.length : Int) := of_decide_eq_true (by first | (with_reducible assumption) | assumption)
            obtain ⟨ad485, e485, hx485_0⟩ := Kd.at_int HR0.out x5_1 p485 q485
            cases e485
            replace p485 := eq_true p485
            replace q485 := eq_true q485
            go_wp2
            go_roundg k1
            case measure => have := HK1.out; omega
            case rel => exact ⟨(wrap64 (x5_1 + 1)), (by first | rfl | (simp; done) | (simp [*]; done)), H', ⟨by have := HK1.out; omega⟩, by repeat (first | exact Drawn0.refl _ | apply Drawn0.step)⟩
        · rw [if_neg c4] at H
          exact absurd H (by simp)
      · rw [if_neg c3] at H
        have c3b0 : decide (x5_1 < (l0.length : Int)) = false := decide_eq_false c3
        clear c3
        obtain rfl := Option.some.inj H
        go_wp2
        go_ret
        exact ⟨by first | rfl | (simp; done) | (simp [*]; done), by repeat (first | exact Drawn0.refl _ | apply Drawn0.step)⟩
end Go.Proofs.Ytghfeapncmlihaa.A
