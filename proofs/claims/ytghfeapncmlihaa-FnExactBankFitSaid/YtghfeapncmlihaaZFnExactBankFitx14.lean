/- What the proof of the law FnExactBankFit uses: lemmas, the Lean functions of the Go functions that it reaches, their contracts, and the pure statement's proof. -/
import Derived.Test.YtghfeapncmlihaaZFnExactBankFitx11
import Derived.Test.YtghfeapncmlihaaZFnExactBankFitx12
import Derived.Test.YtghfeapncmlihaaZFnExactBankFitx13
namespace Go.Proofs.Ytghfeapncmlihaa.A
open Go.RowKit Go.Proofs.YtghfeapncmlihaaW.PrintWords Go.Proofs.YtghfeapncmlihaaW.PrintLast Go.Proofs.YtghfeapncmlihaaW.PrintMore
attribute [local go_sem] max2_int min2_int max_two min_two max_three min_three max_four min_four   
set_option linter.unusedVariables false
set_option linter.unusedSimpArgs false
def laws_toColumnS.l0 : Nat → List (S25) → List (S30) → Int → Option ((List (S30)))
  | 0, _, _, _ => none
  | k + 1, x0, x3, x4 => if x4 < (x0.length : Int) then (if 0 ≤ x4 then ((laws_toColumn.f k ((rd_T25 x0 x4).f0) ((rd_T25 x0 x4).f1) ((rd_T25 x0 x4).f2)).bind fun bt306 => (if x4 < (x3.length : Int) then (laws_toColumnS.l0 k x0 (x3.set (x4 : Int).toNat (⟨bt306.1, bt306.2.1, bt306.2.2⟩ : S30)) (wrap64 (x4 + 1))) else (none))) else (none)) else (some x3)
def laws_toColumnS.f (k : Nat) (l0 : List (S25)) : Option ((List (S30))) := if 0 ≤ (l0.length : Int) then (if ((l0.length : Int) : Int).toNat ≤ 5026338869833 then (laws_toColumnS.l0 k l0 (List.replicate ((l0.length : Int) : Int).toNat z30) 0) else (none)) else (none)
set_option maxHeartbeats 8000000 in
set_option maxRecDepth 100000 in
theorem laws_toColumnS.calls (k : Nat) (A0 : Option Addr) (c0 : Nat) (l0 : List (S25)) (r : List (S30)) (w : World) (hr0 : Kd.C k25 w A0 l0.length l0) (hc0 : l0.length ≤ c0) (h : laws_toColumnS.f k l0 = some r) :
    Calls Try.prog 29 #[.slice A0 l0.length c0] w fun e w' => ∃ v0_ : Value, e = .returned (v0_) ∧ Kd.S k30 30 w' w.heap.size (fun _ => True) v0_ r ∧ Below w.heap.size w w' := by
  have hu25 := Try.underlying25
  have hu30 := Try.underlying30
  have HR0 := Aside0.mk hr0
  have HC0 := Aside0.mk hc0
  clear hr0 hc0
  have HB := Aside0.mk (Below.refl w.heap.size w)
  have H : (if 0 ≤ (l0.length : Int) then (if ((l0.length : Int) : Int).toNat ≤ 5026338869833 then (laws_toColumnS.l0 k l0 (List.replicate ((l0.length : Int) : Int).toNat z30) 0) else (none)) else (none)) = some r := h
  clear h
  by_cases c2 : 0 ≤ (l0.length : Int)
  · rw [if_pos c2] at H
    have c2b0 := eq_true c2
    have c2b1 : decide (0 ≤ (l0.length : Int)) = true := decide_eq_true c2
    clear c2
    by_cases c3 : ((l0.length : Int) : Int).toNat ≤ 5026338869833
    · rw [if_pos c3] at H
      have c3b0 := eq_true c3
      have c3b1 : decide (((l0.length : Int) : Int).toNat ≤ 5026338869833) = true := decide_eq_true c3
      clear c3
      obtain ⟨y302, hy302⟩ : ∃ y_ : List (S30), y_ = (List.replicate ((l0.length : Int) : Int).toNat z30) := ⟨_, rfl⟩
      replace H : (laws_toColumnS.l0 k l0 y302 0) = some r := by first | (rw [hy302]; with_reducible exact H) | (have H2_ := (Option.bind_some _ _).symm.trans H; rw [hy302]; with_reducible exact H2_) | (have H2_ := (Option.bind_some _ _).symm.trans H; with_reducible exact H2_) | with_reducible exact H | (rw [hy302]; exact H) | exact H
      have Ny302 := Aside0.mk hy302
      clear hy302
      have H' := Aside0.mk H
      clear H
      go_enter Try.func29, Try.ntmps29
      go_wp2_with (first | ((with_reducible refine gate_dst (N := 7) rfl ?_); refine Kd.S_make k30 _ 30 rfl (N := 7) rfl 44 _ _ rfl (l0.length : Int) rfl rfl Try.underlying44 (.agg #[(.int .i64 0), (.slice none 0 0), (.slice none 0 0)]) 56 info30 rfl (by decide) (by omega) z30 (ok := fun _ => True) (okp := fun _ => True) (k30_mkM _ _ _ z30 (Kd.R_nil _ _ _ _ _) (Kd.R_nil _ _ _ _ _)) (fun _ hk => hk) trivial (of_decide_eq_true (by first | (with_reducible assumption) | assumption)) (Nat.le_trans (Nat.mul_le_mul_right _ (of_decide_eq_true (by first | (with_reducible assumption) | assumption) : (l0.length : Int).toNat ≤ 5026338869833)) (by omega)) (Below.refl _ _) (Nat.le_refl _) ?_; intro v303 w4 ho5 hb hg_ hnew_; clear hg_ hnew_; (first | rw [← Ny302.out] at ho5 | (simp only [Int.reduceToNat] at ho5; rw [← Ny302.out] at ho5)); have n0_ := Aside0.mk (Kd.S_lower ho5 (below_size (by repeat (first | (with_reducible first | exact HB.out | apply below_alloc | apply pw_below_drewN | apply below_drew1) | exact HB.out)))); have n1_ := Aside0.mk (below_step (by repeat (first | (with_reducible first | exact HB.out | apply below_alloc | apply pw_below_drewN | apply below_drew1) | exact HB.out)) hb); clear HB; have HO304 := n0_; have HB := n1_; clear n0_ n1_; clear hb ho5))
      go_loopg [4] k (fun kq v4 w' => ∃ (x3_1 : List (S30)) (x4_1 : Int), v4 = .int .i64 x4_1 ∧ Aside0 (laws_toColumnS.l0 kq l0 x3_1 x4_1 = some r) ∧ Aside0 (kq ≤ k) ∧ Aside0 (Kd.S k30 30 w' w.heap.size (fun _ => True) v303 x3_1) ∧ Aside0 (Below w.heap.size w w'))
      case atStart => exact ⟨(y302), (0), (by first | rfl | (simp; done) | (simp [*]; done)), H', ⟨Nat.le_refl _⟩, ⟨by (with_reducible repeat (first | apply Kd.S_alloc | apply Kd.S_drewN | apply Kd.S_drew)); exact HO304.out⟩, ⟨by repeat (first | (with_reducible first | exact HB.out | apply below_alloc | apply pw_below_drewN | apply below_drew1) | exact HB.out)⟩⟩
      case round =>
        clear H'
        try clear c2
        try clear c2b0
        try clear c2b1
        try clear p2
        try clear c3
        try clear c3b0
        try clear c3b1
        obtain ⟨x3_1, x4_1, rfl, HA, HK1, HO_3, HB⟩ := hrel
        cases gk with
        | zero => exact absurd HA.out (by simp [laws_toColumnS.l0])
        | succ k1 =>
          have H := HA.out
          clear HA
          simp only [laws_toColumnS.l0] at H
          by_cases c6 : x4_1 < (l0.length : Int)
          · rw [if_pos c6] at H
            have c6b0 : decide (x4_1 < (l0.length : Int)) = true := decide_eq_true c6
            clear c6
            by_cases c7 : 0 ≤ x4_1
            · rw [if_pos c7] at H
              have c7b0 : decide (0 ≤ x4_1) = true := decide_eq_true c7
              clear c7
              replace H := Option.bind_eq_some_iff.mp H
              obtain ⟨⟨t306, t307, t310⟩, A80, H⟩ := H
              replace H : (if x4_1 < (x3_1.length : Int) then (laws_toColumnS.l0 k1 l0 (x3_1.set (x4_1 : Int).toNat (⟨t306, t307, t310⟩ : S30)) (wrap64 (x4_1 + 1))) else (none)) = some r := H
              have A8 := Aside0.mk A80
              clear A80
              by_cases c9 : x4_1 < (x3_1.length : Int)
              · rw [if_pos c9] at H
                have c9b0 : decide (x4_1 < (x3_1.length : Int)) = true := decide_eq_true c9
                clear c9
                obtain ⟨y313, hy313⟩ : ∃ y_ : List (S30), y_ = (x3_1.set (x4_1 : Int).toNat (⟨t306, t307, t310⟩ : S30)) := ⟨_, rfl⟩
                replace H : (laws_toColumnS.l0 k1 l0 y313 (wrap64 (x4_1 + 1))) = some r := by first | (rw [hy313]; with_reducible exact H) | (have H2_ := (Option.bind_some _ _).symm.trans H; rw [hy313]; with_reducible exact H2_) | (have H2_ := (Option.bind_some _ _).symm.trans H; with_reducible exact H2_) | with_reducible exact H | (rw [hy313]; exact H) | exact H
                have Ny313 := Aside0.mk hy313
                clear hy313
                have H' := Aside0.mk H
                clear H
                have p305 : 0 ≤ (x4_1 : Int) := of_decide_eq_true (by first | (with_reducible assumption) | assumption)
                have q305 : x4_1 < (l0.length : Int) := of_decide_eq_true (by first | (with_reducible assumption) | assumption)
                obtain ⟨ad305, A305_1, c305_1, A305_2, c305_2, e305, hx305_0, hx305_1, hx305_2, hl305_1, hi305_1, hl305_2, hi305_2⟩ := at_T25 HR0.out x4_1 p305 q305
                cases e305
                replace hx305_0 := (HB.out.cell (World.block_lt_of_cell? w _ hx305_0)).trans hx305_0
                replace hx305_1 := (HB.out.cell (World.block_lt_of_cell? w _ hx305_1)).trans hx305_1
                replace hx305_2 := (HB.out.cell (World.block_lt_of_cell? w _ hx305_2)).trans hx305_2
                have HR305_1 := Aside0.mk hi305_1
                have HC305_1 := Aside0.mk hl305_1
                clear hi305_1 hl305_1
                have HR305_2 := Aside0.mk hi305_2
                have HC305_2 := Aside0.mk hl305_2
                clear hi305_2 hl305_2
                replace p305 := eq_true p305
                replace q305 := eq_true q305
                go_wp2_with (first | ((with_reducible refine gate_callee (f := 17) rfl ?_); refine goesL_ (some 20) rfl rfl Try.func17 (by kernel_rfl) rfl #[.agg #[.int .i64 ((rd_T25 l0 x4_1).f0), .slice A305_1 ((rd_T25 l0 x4_1).f1).length c305_1, .slice A305_2 ((rd_T25 l0 x4_1).f2).length c305_2]] rfl (by (try simp only [List.map_toArray, List.map_cons, List.map_nil]); first | done | rfl | (simp only [List.length_drop, List.length_take]; rfl)) ?_; (with_reducible refine (laws_toColumn.calls k1 ((rd_T25 l0 x4_1).f0) _ _ ((rd_T25 l0 x4_1).f1) _ _ ((rd_T25 l0 x4_1).f2) t306 t307 t310 _ ?side1 ?side2 ?side3 ?side4 A8.out).mono ?_); (case side1 => repeat (first | exact (Kd.C_below HR305_1.out HB.out) | (with_reducible refine Kd.C_alloc ?_ _) | (with_reducible refine Kd.C_drewN ?_ _) | (with_reducible refine Kd.C_drew ?_))); (case side2 => exact HC305_1.out); (case side3 => repeat (first | exact (Kd.C_below HR305_2.out HB.out) | (with_reducible refine Kd.C_alloc ?_ _) | (with_reducible refine Kd.C_drewN ?_ _) | (with_reducible refine Kd.C_drew ?_))); (case side4 => exact HC305_2.out); rintro e w11 ⟨v308, v311, rfl, ho0, ho1, hb⟩; refine ⟨_, rfl, ?_⟩; have n0_ := Aside0.mk (Kd.S_mono (Kd.S_told (Kd.S_told (Kd.S_old (by (with_reducible repeat (first | apply Kd.S_alloc | apply Kd.S_drewN | apply Kd.S_drew)); exact HO_3.out) hb) (Kd.R_base ho0)) (Kd.R_base ho1)) (fun _ h_ => h_.1)); have n1_ := Aside0.mk (Kd.R_lower ho0 (below_size (by repeat (first | (with_reducible first | exact HB.out | apply below_alloc | apply pw_below_drewN | apply below_drew1) | exact HB.out)))); have n2_ := Aside0.mk (Kd.R_lower ho1 (below_size (by repeat (first | (with_reducible first | exact HB.out | apply below_alloc | apply pw_below_drewN | apply below_drew1) | exact HB.out)))); have n3_ := Aside0.mk (below_step (by repeat (first | (with_reducible first | exact HB.out | apply below_alloc | apply pw_below_drewN | apply below_drew1) | exact HB.out)) hb); clear HO_3; clear HB; have HO_3 := n0_; have HO309 := n1_; have HO312 := n2_; have HB := n3_; clear n0_ n1_ n2_ n3_; (try clear hb); (try clear hb2); (try clear hk); (try clear hi); (try clear ho0); (try clear ho1); have p10 : 0 ≤ (x4_1 : Int) := of_decide_eq_true (by first | (with_reducible assumption) | assumption); have q10 : (x4_1 : Int) < ((x3_1.length : Int) : Int) := of_decide_eq_true (by first | (with_reducible assumption) | assumption); obtain ⟨go10, co10, eo10, gb10, gl10, cl10, HG10⟩ := Kd.S_form HO_3.out (by omega); (first | cases eo10 | (injection eo10 with ea_ en_ ec_; (first | subst ea_ | (injection ea_ with ea_; subst ea_)); subst ec_; clear en_)); have GB10 := Aside0.mk gb10; have GG10 := Aside0.mk HG10; clear gb10 gl10 HG10; obtain ⟨_, ce10, hcl10, hM10, hcc10, hfr10, _, _⟩ := Kd.S_elem HO_3.out z30 (x4_1 : Int) p10 q10; obtain ⟨ve10_1, ve10_2, rfl, ge10_1, ge10_2⟩ := k30_openM hM10; have hx10_0 : w11.cell? ⟨go10, (x4_1 : Int).toNat * 3, none⟩ = some (.int .i64 ((rd_T30 x3_1 x4_1).f0)) := hcc10 0 _ rfl; have hx10_1 : w11.cell? ⟨go10, (x4_1 : Int).toNat * 3 + 1, none⟩ = some (ve10_1) := hcc10 1 _ rfl; have hx10_2 : w11.cell? ⟨go10, (x4_1 : Int).toNat * 3 + 2, none⟩ = some (ve10_2) := hcc10 2 _ rfl; have hf10_0 : w11.frozen? ⟨go10, (x4_1 : Int).toNat * 3, none⟩ = false := hfr10 0; have hf10_1 : w11.frozen? ⟨go10, (x4_1 : Int).toNat * 3 + 1, none⟩ = false := hfr10 1; have hf10_2 : w11.frozen? ⟨go10, (x4_1 : Int).toNat * 3 + 2, none⟩ = false := hfr10 2; clear hcl10 hcc10 hfr10 hM10; replace p10 := eq_true p10; replace q10 := eq_true q10; have n_ := Aside0.mk (Kd.S_mono (ok' := (fun k_ => some k_ ≠ (v308 : Value).ownBlock ∧ some k_ ≠ (v311 : Value).ownBlock)) HO_3.out (fun k_ hk => ⟨hk.1.2, hk.2⟩)); clear HO_3; have HO_3 := n_; clear n_; have HX12 := Aside0.mk (show Kd.S k30 30 w11 w.heap.size (fun k_ => ((fun _ => True)) k_ ∧ ¬ ((fun k_ => some k_ = (v308 : Value).ownBlock ∨ some k_ = (v311 : Value).ownBlock)) k_) (.slice (some ⟨go10, 0, none⟩) x3_1.length co10) x3_1 from (by (with_reducible repeat (first | apply Kd.S_alloc | apply Kd.S_drewN | apply Kd.S_drew)); exact Kd.S_mono HO_3.out (fun k_ hk => ⟨trivial, fun e_ => e_.elim (fun h_ => hk.1 h_) (fun h_ => hk.2 h_)⟩))); obtain ⟨oki12, ce12, hcl12, hM12, hcc12, hfr12, hoki12, hH12⟩ := Kd.S_elem HX12.out z30 (x4_1 : Int) (of_decide_eq_true (by first | (with_reducible assumption) | assumption)) (by have h_ : (x4_1 : Int) < ((x3_1.length : Int) : Int) := of_decide_eq_true (by first | (with_reducible assumption) | assumption); first | exact h_ | (have e_ := (Kd.S_reads' HO_3.out).1; omega) | simpa using h_); obtain ⟨ve12_1, ve12_2, rfl, ge12_1, ge12_2⟩ := k30_openM hM12; have HP12 := Kd.S_seg hH12 (of_decide_eq_true (by first | (with_reducible assumption) | assumption)) (by have h_ : (x4_1 : Int) < ((x3_1.length : Int) : Int) := of_decide_eq_true (by first | (with_reducible assumption) | assumption); first | exact h_ | (have e_ := (Kd.S_reads' HO_3.out).1; omega) | simpa using h_) (seg := [.int .i64 t306, v308, v311]) (j := 0) (show 3 ≤ 3 from by decide) (x' := (⟨t306, t307, t310⟩ : S30)) (k30_mkM _ _ _ (⟨t306, t307, t310⟩ : S30) (Kd.R_mono (Kd.R_tight rfl (Kd.R_mono (ok' := fun k_ => ((fun _ => True)) k_ ∧ k_ ≠ go10) (Kd.R_apart' (HO309.out) (Kd.S_typed HO_3.out) (by decide)) (fun k_ hk => ⟨trivial, fun e_ => (hk.2) (by rw [e_]; rfl)⟩))) (fun _ h_ => Or.inr (Or.inl h_))) (Kd.R_mono (Kd.R_tight rfl (Kd.R_mono (ok' := fun k_ => ((fun _ => True)) k_ ∧ k_ ≠ go10) (Kd.R_apart' (HO312.out) (Kd.S_typed HO_3.out) (by decide)) (fun k_ hk => ⟨trivial, fun e_ => (hk.2) (by rw [e_]; rfl)⟩))) (fun _ h_ => Or.inr (Or.inr (h_))))) (fun _ hk => hk) (fun k_ hk_ => hk_.elim (fun h_ => ((Kd.R_mono (ok' := fun k_ => ((fun _ => True)) k_ ∧ k_ ≠ go10) (Kd.R_apart' (HO309.out) (Kd.S_typed HO_3.out) (by decide)) (fun k_ hk => ⟨trivial, fun e_ => (hk.2) (by rw [e_]; rfl)⟩))).1 k_ h_.symm) (fun h_ => ((Kd.R_mono (ok' := fun k_ => ((fun _ => True)) k_ ∧ k_ ≠ go10) (Kd.R_apart' (HO312.out) (Kd.S_typed HO_3.out) (by decide)) (fun k_ hk => ⟨trivial, fun e_ => (hk.2) (by rw [e_]; rfl)⟩))).1 k_ h_.symm)); have hx12_0 := hcc12 0 _ rfl; (try simp only [show (k30).sz = 3 from rfl, Nat.mul_one, Nat.add_zero] at hx12_0); have hf12_0 := hfr12 0; (try simp only [show (k30).sz = 3 from rfl, Nat.mul_one, Nat.add_zero] at hf12_0); have hx12_1 := hcc12 1 _ rfl; (try simp only [show (k30).sz = 3 from rfl, Nat.mul_one, Nat.add_zero] at hx12_1); have hf12_1 := hfr12 1; (try simp only [show (k30).sz = 3 from rfl, Nat.mul_one, Nat.add_zero] at hf12_1); have hx12_2 := hcc12 2 _ rfl; (try simp only [show (k30).sz = 3 from rfl, Nat.mul_one, Nat.add_zero] at hx12_2); have hf12_2 := hfr12 2; (try simp only [show (k30).sz = 3 from rfl, Nat.mul_one, Nat.add_zero] at hf12_2); clear hcl12 hcc12 hfr12 hM12 hoki12 hH12) | ((with_reducible refine gate_store (t := 30) (p := 21) rfl ?_); refine store_event (t := 30) (p := 21) (v := ?vo_w13) (w1 := (((w11.setCell ⟨go10, (x4_1 : Int).toNat * 3, none⟩ (.int .i64 t306)).setCell ⟨go10, (x4_1 : Int).toNat * 3 + 1, none⟩ (v308)).setCell ⟨go10, (x4_1 : Int).toNat * 3 + 2, none⟩ (v311))) ?hg ?ho ?hn ?hr ?_; (case ho => rfl); (case hg => rfl); (case hn => rfl); (case hr => (try (obtain ⟨As308_, cs308_, es308_⟩ := Kd.R_slice HO309.out; subst es308_)); (try (obtain ⟨As311_, cs311_, es311_⟩ := Kd.R_slice HO312.out; subst es311_)); first | (go_simp; done) | (go_simp; rfl)); intro w13 hw; have hg : w11.grownBy w13 (some go10) := (by rw [hw]; exact HP12.2); have hp_ : Kd.S k30 30 w13 w.heap.size (fun _ => True) (.slice (some ⟨go10, 0, none⟩) x3_1.length co10) y313 := (by rw [hw, Ny313.out]; exact HP12.1); clear HP12; have n0_ := Aside0.mk (hp_); have n1_ := Aside0.mk ((by rw [hw]; exact below_set (below_set (below_set (HB.out) GB10.out) GB10.out) GB10.out : Below w.heap.size w w13)); clear HO_3; clear HB; clear HO309; clear HO312; have HO_3 := n0_; have HB := n1_; clear n0_ n1_; clear hg hw hp_))
                go_roundg k1
                case measure => have := HK1.out; omega
                case rel => exact ⟨(y313), (wrap64 (x4_1 + 1)), (by first | rfl | (simp; done) | (simp [*]; done)), H', ⟨by have := HK1.out; omega⟩, ⟨by (with_reducible repeat (first | apply Kd.S_alloc | apply Kd.S_drewN | apply Kd.S_drew)); exact HO_3.out⟩, ⟨by repeat (first | (with_reducible first | exact HB.out | apply below_alloc | apply pw_below_drewN | apply below_drew1) | exact HB.out)⟩⟩
              · rw [if_neg c9] at H
                exact absurd H (by simp)
            · rw [if_neg c7] at H
              exact absurd H (by simp)
          · rw [if_neg c6] at H
            have c6b0 : decide (x4_1 < (l0.length : Int)) = false := decide_eq_false c6
            clear c6
            obtain rfl := Option.some.inj H
            go_wp2
            go_ret
            exact ⟨_, by first | rfl | (simp [errW_none, errW_some] <;> rfl) | (simp [*, errW_none, errW_some] <;> rfl), by (with_reducible repeat (first | apply Kd.S_alloc | apply Kd.S_drewN | apply Kd.S_drew)); exact HO_3.out, by repeat (first | (with_reducible first | exact HB.out | apply below_alloc | apply pw_below_drewN | apply below_drew1) | exact HB.out)⟩
    · rw [if_neg c3] at H
      exact absurd H (by simp)
  · rw [if_neg c2] at H
    exact absurd H (by simp)
def parP : List S71 → List Int → Option (List Int)
  | [], ps => some ps
  | b :: bs, ps => if 0 < b.f2 ∧ b.f2 ∈ ps then none else parP bs (b.f2 :: ps)
def bankL : List S30 → List Int → Bool
  | [], _ => true
  | c :: cs, ps => colP c.f0 c.f1 c.f2 && (match parP c.f2 ps with | none => false | some qs => bankL cs qs)
def bankP (cs : List S30) : Bool := decide (1 ≤ (cs.length : Int) ∧ (cs.length : Int) ≤ 6) && bankL cs []
theorem col3 {W : World} {g : Nat} {t : TypeId} {a b c : Value} (v0 v1 v2 : Value) (h : W.heap[g]? = some (.cells #[a, b, c] t (0, 0))) :
    (((W.setCell ⟨g, 0, none⟩ v0).setCell ⟨g, 1, none⟩ v1).setCell ⟨g, 2, none⟩ v2).heap[g]? = some (.cells #[v0, v1, v2] t (0, 0)) ∧
    W.grownBy (((W.setCell ⟨g, 0, none⟩ v0).setCell ⟨g, 1, none⟩ v1).setCell ⟨g, 2, none⟩ v2) (some g) := by
  refine ⟨blk_set (blk_set (blk_set h 0 v0) 1 v1) 2 v2, rfl, rfl, rfl, ?_, fun k _ hk => ?_⟩
  · simp [World.setCell]
  · have hk' : k ≠ g := fun e => hk (by rw [e])
    rw [Below.heap_setCell _ _ _ _ hk', Below.heap_setCell _ _ _ _ hk', Below.heap_setCell _ _ _ _ hk']
theorem boxP_in (h : Int) : ∀ (bs : List S71) (low : Int) (ls ps : List Int) (z : Int × List Int), low ≤ h → boxP h bs low ls ps = some z → (bs.length : Int) ≤ h - low ∧ ∀ b ∈ bs, 0 ≤ b.f2 ∧ b.f2 ≤ 999
  | [], low, ls, ps, z, hl, e => ⟨by simp; omega, by simp⟩
  | b :: bs, low, ls, ps, z, hl, e => by
    simp only [boxP] at e
    split at e
    · next hc =>
      obtain ⟨h1, h2⟩ := boxP_in h bs _ _ _ _ (by omega) e
      refine ⟨by simp; omega, fun x hx => ?_⟩
      rcases List.mem_cons.mp hx with rfl | hx
      · exact hc.2.2.1
      · exact h2 x hx
    · simp at e
theorem colP_in (h : Int) (fx : List Int) (bx : List S71) (e : colP h fx bx = true) : (bx.length : Int) ≤ 24 ∧ ∀ b ∈ bx, 0 ≤ b.f2 ∧ b.f2 ≤ 999 := by
  unfold colP at e
  simp only [Bool.and_eq_true, decide_eq_true_eq] at e
  cases hb : boxP h bx 0 [] [] with
  | none => rw [hb] at e; simp at e
  | some z =>
    obtain ⟨h1, h2⟩ := boxP_in h bx 0 [] [] z (by omega) hb
    exact ⟨by omega, h2⟩
def impl_BankOk.f (l0 : List (S30)) : Option (Bool) := some (bankP l0)
set_option maxHeartbeats 8000000 in
set_option maxRecDepth 100000 in
theorem impl_BankOk.calls (A0 : Option Addr) (c0 : Nat) (l0 : List (S30)) (r : Bool) (w : World) (hr0 : Kd.C k30 w A0 l0.length l0) (hc0 : l0.length ≤ c0) (h : impl_BankOk.f l0 = some r) :
    Calls Try.prog 30 #[.slice A0 l0.length c0] w fun e w' => e = .returned (.bool r) ∧ Below w.heap.size w w' := by
  have hrE : Aside0 (bankP l0 = r) := ⟨Option.some.inj h⟩
  have HR := Aside0.mk hr0
  have L0 := Aside0.mk hr0.2.1
  clear h hr0 hc0
  have hu30 := Try.underlying30
  have hu71 := Try.underlying71
  have HB := Aside0.mk (Below.refl w.heap.size w)
  by_cases hh : 1 ≤ (l0.length : Int) ∧ (l0.length : Int) ≤ 6
  · have hW : Aside0 (impl_within.f (l0.length : Int) 1 6 = some true) := ⟨by rw [within_is, decide_eq_true hh]⟩
    have hr1 : Aside0 (r = bankL l0 []) := ⟨by rw [← hrE.out]; unfold bankP; rw [decide_eq_true hh, Bool.true_and]⟩
    have hL6 := Aside0.mk hh
    clear hh hrE
    have hzero : ∀ W : World, (zeroValue 4).run Try.prog W = .ok (.bool false) W := fun W => by kernel_rfl
    go_enter Try.func30, Try.ntmps30
    go_wp2_with (first | (go_at_call 62; (with_reducible refine (impl_within.calls ((l0.length : Int)) 1 6 true _ hW.out).mono ?_); rintro e w' ⟨rfl, ⟨nd, rfl⟩⟩) | ((with_reducible refine gate_dst (N := 12) rfl ?_); refine map_event 3 4 ?hg (N := 12) ?hd 76 ?ho ?_; (case hd => rfl); (case hg => rfl); (case ho => rfl); intro b3 hg w3 hm hb; have M := Aside0.mk hm; have n1_ := Aside0.mk (below_step (show Below w.heap.size w _ from by repeat (first | exact HB.out | apply pw_below_drewN)) hb); have G3 := Aside0.mk (by rw [hg]; exact (show Below w.heap.size w _ from by repeat (first | exact HB.out | apply pw_below_drewN)).size : w.heap.size ≤ b3); clear HB; have HB := n1_; clear n1_ hm hg hb))
    go_loopw [15] (fun v15 wr => ∃ (i : Int) (ps : List Int), v15 = .int .i64 i ∧ Aside0 (0 ≤ i ∧ i ≤ l0.length) ∧ Aside0 (r = bankL (l0.drop i.toNat) ps) ∧ Aside0 ((ps.length : Int) ≤ 24 * i) ∧ Aside0 (MapSet Try.prog 3 4 wr b3 ps) ∧ Aside0 (Below w.heap.size w wr)) (fun v15 _ => l0.length - (intOf v15).toNat)
    case atStart => exact ⟨0, [], rfl, ⟨by omega⟩, hr1, ⟨by simp⟩, M, HB⟩
    case round =>
      clear M HB hr1
      obtain ⟨i, ps, rfl, hk, hr1, hlen, M, HB⟩ := hrel
      by_cases hlt : i < (l0.length : Int)
      · have hdrop : Aside0 (l0.drop i.toNat = rd_T30 l0 i :: l0.drop (i.toNat + 1)) := ⟨by
          have hn : i.toNat < l0.length := by have := hk.out.1; omega
          rw [List.drop_eq_getElem_cons hn]
          unfold rd_T30
          rw [List.getD_eq_getElem?_getD, List.getElem?_eq_getElem hn]; rfl⟩
        obtain ⟨ad, A1, c1, A2, c2, e1, h0, h1, h2, l1_, g1_, l2_, g2_⟩ := at_T30 HR.out i hk.out.1 hlt
        subst e1
        have l1 := Aside0.mk l1_
        have g1 := Aside0.mk g1_
        have l2 := Aside0.mk l2_
        have g2 := Aside0.mk g2_
        have L2 := Aside0.mk g2_.2.1
        clear l1_ g1_ l2_ g2_
        replace h0 := (HB.out.cell (World.block_lt_of_cell? w _ h0)).trans h0
        replace h1 := (HB.out.cell (World.block_lt_of_cell? w _ h1)).trans h1
        replace h2 := (HB.out.cell (World.block_lt_of_cell? w _ h2)).trans h2
        have q0 := eq_true hk.out.1
        have q1 := eq_true hlt
        have hltb : decide (i < (l0.length : Int)) = true := decide_eq_true hlt
        have hwr : Aside0 (wrap64 (i + 1) = i + 1) := ⟨by have := hk.out; have := L0.out; unfold wrap64; omega⟩
        have hlt2 := Aside0.mk hlt
        clear hlt
        by_cases hc : colP (rd_T30 l0 i).f0 (rd_T30 l0 i).f1 (rd_T30 l0 i).f2 = true
        · have WC : Aside0 (impl_ColumnOk.f (rd_T30 l0 i).f0 (rd_T30 l0 i).f1 (rd_T30 l0 i).f2 = some true) := ⟨congrArg some hc⟩
          have h24 := Aside0.mk (colP_in _ _ _ hc).1
          have hall := Aside0.mk (colP_in _ _ _ hc).2
          have hr2 : Aside0 (r = (match parP (rd_T30 l0 i).f2 ps with | none => false | some qs => bankL (l0.drop (i + 1).toNat) qs)) := ⟨by
            rw [hr1.out, hdrop.out, show (i + 1).toNat = i.toNat + 1 by have := hk.out.1; omega]
            simp only [bankL]
            rw [hc, Bool.true_and]⟩
          clear hc hr1 hdrop
          go_wp2_with (first | ((with_reducible refine gate_dst (N := 5) rfl ?_); refine box_event ?hg (N := 5) ?hd (cs := #[.int .i64 0, .slice none 0 0, .slice none 0 0]) (t := 30) ?hr ?_; (case hd => rfl); (case hg => rfl); (case hr => first | (go_simp; done) | (go_simp; rfl)); intro gc hg w5 hbox hb; have n1_ := Aside0.mk (below_step HB.out hb); have n2_ := Aside0.mk (M.out.below hb); have GC := Aside0.mk (by rw [hg]; exact HB.out.size : w.heap.size ≤ gc); have NC := Aside0.mk (by rw [hg]; exact Nat.ne_of_lt M.out.lt : b3 ≠ gc); have BK := Aside0.mk hbox; clear HB M; have HB := n1_; have M := n2_; clear n1_ n2_ hbox hb hg; have hcy0 := (blk_cell BK.out 0).trans rfl; have hcy1 := (blk_cell BK.out 1).trans rfl; have hcy2 := (blk_cell BK.out 2).trans rfl; have hfy0 := blk_frozen BK.out 0; have hfy1 := blk_frozen BK.out 1; have hfy2 := blk_frozen BK.out 2) | ((with_reducible refine gate_store (t := 30) (p := 5) rfl ?_); refine store_event (t := 30) (p := 5) (v := ?voc) (w1 := (((w5.setCell ⟨gc, 0, none⟩ (.int .i64 (rd_T30 l0 i).f0)).setCell ⟨gc, 1, none⟩ (.slice A1 (rd_T30 l0 i).f1.length c1)).setCell ⟨gc, 2, none⟩ (.slice A2 (rd_T30 l0 i).f2.length c2))) ?hg ?ho ?hn ?hr ?_; (case ho => rfl); (case hg => rfl); (case hn => rfl); (case hr => first | (go_simp; done) | (go_simp; rfl)); intro w6 hw; obtain ⟨k1_, k2_⟩ := col3 (.int .i64 (rd_T30 l0 i).f0) (.slice A1 (rd_T30 l0 i).f1.length c1) (.slice A2 (rd_T30 l0 i).f2.length c2) BK.out; rw [← hw] at k1_ k2_; clear hw hcy0 hcy1 hcy2 hfy0 hfy1 hfy2; have n1_ := Aside0.mk (pw_below_grown HB.out (some gc) HB.out.size k2_ (fun k e => by have e2 : gc = k := Option.some.inj e; rw [← e2]; exact GC.out)); have n2_ := Aside0.mk (M.out.kept k2_ (fun e => NC.out (Option.some.inj e))); clear HB M BK; have HB := n1_; have M := n2_; have BK := Aside0.mk k1_; clear n1_ n2_ k1_ k2_; have hcz0 := (blk_cell BK.out 0).trans rfl; have hcz1 := (blk_cell BK.out 1).trans rfl; have hcz2 := (blk_cell BK.out 2).trans rfl) | (go_at_call 18; (with_reducible refine (impl_ColumnOk.calls (rd_T30 l0 i).f0 _ _ (rd_T30 l0 i).f1 _ _ (rd_T30 l0 i).f2 true _ (Kd.C_below g1.out HB.out) l1.out (Kd.C_below g2.out HB.out) l2.out WC.out).mono ?_); rintro e w7 ⟨rfl, hb⟩; have n0_ := Aside0.mk (blk_below BK.out hb); have n1_ := Aside0.mk (below_step HB.out hb); have n2_ := Aside0.mk (M.out.below hb); clear HB M BK; have BK := n0_; have HB := n1_; have M := n2_; clear n0_ n1_ n2_ hb hcz0 hcz1 hcz2; have hcz0 := (blk_cell BK.out 0).trans rfl; have hcz1 := (blk_cell BK.out 1).trans rfl; have hcz2 := (blk_cell BK.out 2).trans rfl))
          clear h0 h1 h2 q0 q1 hcz0 hcz1 hcz2
          go_loopw [25] (fun v25 wr => ∃ (j : Int) (qs : List Int), v25 = .int .i64 j ∧ Aside0 (0 ≤ j ∧ j ≤ (rd_T30 l0 i).f2.length) ∧ Aside0 (parP (rd_T30 l0 i).f2 ps = parP ((rd_T30 l0 i).f2.drop j.toNat) qs) ∧ Aside0 ((qs.length : Int) ≤ 24 * i + j) ∧ Aside0 (MapSet Try.prog 3 4 wr b3 qs) ∧ Aside0 (wr.heap[gc]? = some (.cells #[.int .i64 (rd_T30 l0 i).f0, .slice A1 (rd_T30 l0 i).f1.length c1, .slice A2 (rd_T30 l0 i).f2.length c2] 30 (0, 0))) ∧ Aside0 (Below w.heap.size w wr)) (fun v25 _ => (rd_T30 l0 i).f2.length - (intOf v25).toNat)
          case atStart => exact ⟨0, ps, rfl, ⟨by omega⟩, ⟨rfl⟩, ⟨by have := hlen.out; omega⟩, M, BK, HB⟩
          case round =>
            clear M BK HB hlen
            obtain ⟨j, qs, rfl, hj, hp, hlen, M, BK, HB⟩ := hrel
            have hcz0 := (blk_cell BK.out 0).trans rfl
            have hcz1 := (blk_cell BK.out 1).trans rfl
            have hcz2 := (blk_cell BK.out 2).trans rfl
            by_cases hlj : j < ((rd_T30 l0 i).f2.length : Int)
            · have hdj : Aside0 ((rd_T30 l0 i).f2.drop j.toNat = (rd_T71 (rd_T30 l0 i).f2 j) :: (rd_T30 l0 i).f2.drop (j.toNat + 1)) := ⟨by
                have hn : j.toNat < (rd_T30 l0 i).f2.length := by have := hj.out.1; omega
                rw [List.drop_eq_getElem_cons hn]
                unfold rd_T71
                rw [List.getD_eq_getElem?_getD, List.getElem?_eq_getElem hn]; rfl⟩
              have hpar : Aside0 (0 ≤ (rd_T71 (rd_T30 l0 i).f2 j).f2 ∧ (rd_T71 (rd_T30 l0 i).f2 j).f2 ≤ 999) := ⟨hall.out _ (List.mem_of_mem_drop (hdj.out ▸ List.mem_cons_self))⟩
              obtain ⟨ad2, e2, h0, h1, h2, h3⟩ := at_T71 g2.out j hj.out.1 hlj
              subst e2
              replace h0 := (HB.out.cell (World.block_lt_of_cell? w _ h0)).trans h0
              replace h1 := (HB.out.cell (World.block_lt_of_cell? w _ h1)).trans h1
              replace h2 := (HB.out.cell (World.block_lt_of_cell? w _ h2)).trans h2
              replace h3 := (HB.out.cell (World.block_lt_of_cell? w _ h3)).trans h3
              have q0 := eq_true hj.out.1
              have q1 := eq_true hlj
              have hljb : decide (j < ((rd_T30 l0 i).f2.length : Int)) = true := decide_eq_true hlj
              have hwj : Aside0 (wrap64 (j + 1) = j + 1) := ⟨by have := hj.out; have := L2.out; unfold wrap64; omega⟩
              have hlj2 := Aside0.mk hlj
              clear hlj
              by_cases h3 : 0 < (rd_T71 (rd_T30 l0 i).f2 j).f2
              · have c3b : decide (0 < (rd_T71 (rd_T30 l0 i).f2 j).f2) = true := decide_eq_true h3
                by_cases h4 : (rd_T71 (rd_T30 l0 i).f2 j).f2 ∈ qs
                · have hdm : decide ((rd_T71 (rd_T30 l0 i).f2 j).f2 ∈ qs) = true := decide_eq_true h4
                  have hres : Aside0 (r = false) := ⟨by
                    rw [hr2.out, hp.out, hdj.out]
                    simp only [parP]
                    rw [if_pos ⟨h3, h4⟩]⟩
                  clear h3 h4 hdj hp
                  go_wp2_with (first | ((with_reducible refine gate_dst (N := 7) rfl ?_); refine box_event ?hg (N := 7) ?hd (cs := #[.int .i64 0, .int .i64 0, .int .i64 0, .bool false]) (t := 71) ?hr ?_; (case hd => rfl); (case hg => rfl); (case hr => first | (go_simp; done) | (go_simp; rfl)); intro gb hg w7 hbox hb; have n0_ := Aside0.mk (blk_below BK.out hb); have n1_ := Aside0.mk (below_step HB.out hb); have n2_ := Aside0.mk (M.out.below hb); have GB := Aside0.mk (by rw [hg]; exact HB.out.size : w.heap.size ≤ gb); have NB := Aside0.mk (by rw [hg]; exact Nat.ne_of_lt (blk_lt BK.out) : gc ≠ gb); have NB3 := Aside0.mk (by rw [hg]; exact Nat.ne_of_lt M.out.lt : b3 ≠ gb); have BB := Aside0.mk hbox; clear BK HB M; have BK := n0_; have HB := n1_; have M := n2_; clear n0_ n1_ n2_ hbox hb hg; have hcy0 := (blk_cell BB.out 0).trans rfl; have hcy1 := (blk_cell BB.out 1).trans rfl; have hcy2 := (blk_cell BB.out 2).trans rfl; have hcy3 := (blk_cell BB.out 3).trans rfl; have hfy0 := blk_frozen BB.out 0; have hfy1 := blk_frozen BB.out 1; have hfy2 := blk_frozen BB.out 2; have hfy3 := blk_frozen BB.out 3) | ((with_reducible refine gate_store (t := 71) (p := 7) rfl ?_); refine store_event (t := 71) (p := 7) (v := ?vo) (w1 := ((((w7.setCell ⟨gb, 0, none⟩ (.int .i64 (rd_T71 (rd_T30 l0 i).f2 j).f0)).setCell ⟨gb, 1, none⟩ (.int .i64 (rd_T71 (rd_T30 l0 i).f2 j).f1)).setCell ⟨gb, 2, none⟩ (.int .i64 (rd_T71 (rd_T30 l0 i).f2 j).f2)).setCell ⟨gb, 3, none⟩ (.bool (rd_T71 (rd_T30 l0 i).f2 j).f3))) ?hg ?ho ?hn ?hr ?_; (case ho => rfl); (case hg => rfl); (case hn => rfl); (case hr => first | (go_simp; done) | (go_simp; rfl)); intro w8 hw; obtain ⟨k1_, k2_⟩ := box4 (.int .i64 (rd_T71 (rd_T30 l0 i).f2 j).f0) (.int .i64 (rd_T71 (rd_T30 l0 i).f2 j).f1) (.int .i64 (rd_T71 (rd_T30 l0 i).f2 j).f2) (.bool (rd_T71 (rd_T30 l0 i).f2 j).f3) BB.out; rw [← hw] at k1_ k2_; clear hw hcy0 hcy1 hcy2 hcy3 hfy0 hfy1 hfy2 hfy3; have n0_ := Aside0.mk (blk_grown BK.out k2_ (fun e => NB.out (Option.some.inj e))); have n1_ := Aside0.mk (pw_below_grown HB.out (some gb) HB.out.size k2_ (fun k e => by have e2 : gb = k := Option.some.inj e; rw [← e2]; exact GB.out)); have n2_ := Aside0.mk (M.out.kept k2_ (fun e => NB3.out (Option.some.inj e))); clear BK HB M BB; have BK := n0_; have HB := n1_; have M := n2_; have BB := Aside0.mk k1_; clear n0_ n1_ n2_ k1_ k2_; have hcz0 := (blk_cell BK.out 0).trans rfl; have hcz1 := (blk_cell BK.out 1).trans rfl; have hcz2 := (blk_cell BK.out 2).trans rfl; have hcx0 := (blk_cell BB.out 0).trans rfl; have hcx1 := (blk_cell BB.out 1).trans rfl; have hcx2 := (blk_cell BB.out 2).trans rfl; have hcx3 := (blk_cell BB.out 3).trans rfl; have hlk := MapSet.look M.out Try.underlying3 Try.underlying4 Try.underlying76 (hzero _) (rd_T71 (rd_T30 l0 i).f2 j).f2 (int_wf (by have := hpar.out; omega)); rw [hdm] at hlk))
                  go_ret
                  exact ⟨by rw [hres.out]; rfl, HB.out⟩
                · have hdm : decide ((rd_T71 (rd_T30 l0 i).f2 j).f2 ∈ qs) = false := decide_eq_false h4
                  have c34 : ¬ (0 < (rd_T71 (rd_T30 l0 i).f2 j).f2 ∧ (rd_T71 (rd_T30 l0 i).f2 j).f2 ∈ qs) := fun h => h4 h.2
                  clear h3 h4
                  have hnew : Aside0 (parP (rd_T30 l0 i).f2 ps = parP ((rd_T30 l0 i).f2.drop (j + 1).toNat) ((rd_T71 (rd_T30 l0 i).f2 j).f2 :: qs)) := ⟨by
                    rw [hp.out, hdj.out, show (j + 1).toNat = j.toNat + 1 by have := hj.out.1; omega]
                    simp only [parP]
                    rw [if_neg c34]⟩
                  clear hdj hp c34
                  go_wp2_with (first | ((with_reducible refine gate_dst (N := 7) rfl ?_); refine box_event ?hg (N := 7) ?hd (cs := #[.int .i64 0, .int .i64 0, .int .i64 0, .bool false]) (t := 71) ?hr ?_; (case hd => rfl); (case hg => rfl); (case hr => first | (go_simp; done) | (go_simp; rfl)); intro gb hg w7 hbox hb; have n0_ := Aside0.mk (blk_below BK.out hb); have n1_ := Aside0.mk (below_step HB.out hb); have n2_ := Aside0.mk (M.out.below hb); have GB := Aside0.mk (by rw [hg]; exact HB.out.size : w.heap.size ≤ gb); have NB := Aside0.mk (by rw [hg]; exact Nat.ne_of_lt (blk_lt BK.out) : gc ≠ gb); have NB3 := Aside0.mk (by rw [hg]; exact Nat.ne_of_lt M.out.lt : b3 ≠ gb); have BB := Aside0.mk hbox; clear BK HB M; have BK := n0_; have HB := n1_; have M := n2_; clear n0_ n1_ n2_ hbox hb hg; have hcy0 := (blk_cell BB.out 0).trans rfl; have hcy1 := (blk_cell BB.out 1).trans rfl; have hcy2 := (blk_cell BB.out 2).trans rfl; have hcy3 := (blk_cell BB.out 3).trans rfl; have hfy0 := blk_frozen BB.out 0; have hfy1 := blk_frozen BB.out 1; have hfy2 := blk_frozen BB.out 2; have hfy3 := blk_frozen BB.out 3) | ((with_reducible refine gate_store (t := 71) (p := 7) rfl ?_); refine store_event (t := 71) (p := 7) (v := ?vo) (w1 := ((((w7.setCell ⟨gb, 0, none⟩ (.int .i64 (rd_T71 (rd_T30 l0 i).f2 j).f0)).setCell ⟨gb, 1, none⟩ (.int .i64 (rd_T71 (rd_T30 l0 i).f2 j).f1)).setCell ⟨gb, 2, none⟩ (.int .i64 (rd_T71 (rd_T30 l0 i).f2 j).f2)).setCell ⟨gb, 3, none⟩ (.bool (rd_T71 (rd_T30 l0 i).f2 j).f3))) ?hg ?ho ?hn ?hr ?_; (case ho => rfl); (case hg => rfl); (case hn => rfl); (case hr => first | (go_simp; done) | (go_simp; rfl)); intro w8 hw; obtain ⟨k1_, k2_⟩ := box4 (.int .i64 (rd_T71 (rd_T30 l0 i).f2 j).f0) (.int .i64 (rd_T71 (rd_T30 l0 i).f2 j).f1) (.int .i64 (rd_T71 (rd_T30 l0 i).f2 j).f2) (.bool (rd_T71 (rd_T30 l0 i).f2 j).f3) BB.out; rw [← hw] at k1_ k2_; clear hw hcy0 hcy1 hcy2 hcy3 hfy0 hfy1 hfy2 hfy3; have n0_ := Aside0.mk (blk_grown BK.out k2_ (fun e => NB.out (Option.some.inj e))); have n1_ := Aside0.mk (pw_below_grown HB.out (some gb) HB.out.size k2_ (fun k e => by have e2 : gb = k := Option.some.inj e; rw [← e2]; exact GB.out)); have n2_ := Aside0.mk (M.out.kept k2_ (fun e => NB3.out (Option.some.inj e))); clear BK HB M BB; have BK := n0_; have HB := n1_; have M := n2_; have BB := Aside0.mk k1_; clear n0_ n1_ n2_ k1_ k2_; have hcz0 := (blk_cell BK.out 0).trans rfl; have hcz1 := (blk_cell BK.out 1).trans rfl; have hcz2 := (blk_cell BK.out 2).trans rfl; have hcx0 := (blk_cell BB.out 0).trans rfl; have hcx1 := (blk_cell BB.out 1).trans rfl; have hcx2 := (blk_cell BB.out 2).trans rfl; have hcx3 := (blk_cell BB.out 3).trans rfl; have hlk := MapSet.look M.out Try.underlying3 Try.underlying4 Try.underlying76 (hzero _) (rd_T71 (rd_T30 l0 i).f2 j).f2 (int_wf (by have := hpar.out; omega)); rw [hdm] at hlk) | (refine wpList_putSet _ rfl (.tmp 38) (.tmp 40) (.const (.bool true)) 76 rfl Try.underlying3 Try.underlying4 Try.underlying76 b3 qs rfl M.out (by have := hlen.out; have := hk.out; have := hL6.out; have := hj.out; have := h24.out; unfold maxLen; omega) (rd_T71 (rd_T30 l0 i).f2 j).f2 rfl rfl (int_wf (by have := hpar.out; omega)) ?_; intro w10 p2_ p3_; have n0_ := Aside0.mk (blk_grown BK.out p3_ (fun e => NC.out (Option.some.inj e).symm)); have n1_ := Aside0.mk (pw_below_grown HB.out (some b3) HB.out.size p3_ (fun k e => by have e2 : b3 = k := Option.some.inj e; rw [← e2]; exact G3.out)); have n2_ := Aside0.mk p2_; clear HB M BK BB hcz0 hcz1 hcz2 hcx0 hcx1 hcx2 hcx3; have BK := n0_; have HB := n1_; have M := n2_; clear n0_ n1_ n2_ p2_ p3_))
                  go_roundw
                  case rel => exact ⟨j + 1, (rd_T71 (rd_T30 l0 i).f2 j).f2 :: qs, by rw [hwj.out], ⟨by have := hj.out; have := hlj2.out; omega⟩, hnew, ⟨by have := hlen.out; simp; omega⟩, M, BK, HB⟩
                  case measure =>
                    have := hj.out; have := hlj2.out
                    rw [hwj.out]
                    simp [intOf]
                    omega
              · have c3b : decide (0 < (rd_T71 (rd_T30 l0 i).f2 j).f2) = false := decide_eq_false h3
                have c34 : ¬ (0 < (rd_T71 (rd_T30 l0 i).f2 j).f2 ∧ (rd_T71 (rd_T30 l0 i).f2 j).f2 ∈ qs) := fun h => h3 h.1
                clear h3
                have hnew : Aside0 (parP (rd_T30 l0 i).f2 ps = parP ((rd_T30 l0 i).f2.drop (j + 1).toNat) ((rd_T71 (rd_T30 l0 i).f2 j).f2 :: qs)) := ⟨by
                  rw [hp.out, hdj.out, show (j + 1).toNat = j.toNat + 1 by have := hj.out.1; omega]
                  simp only [parP]
                  rw [if_neg c34]⟩
                clear hdj hp c34
                go_wp2_with (first | ((with_reducible refine gate_dst (N := 7) rfl ?_); refine box_event ?hg (N := 7) ?hd (cs := #[.int .i64 0, .int .i64 0, .int .i64 0, .bool false]) (t := 71) ?hr ?_; (case hd => rfl); (case hg => rfl); (case hr => first | (go_simp; done) | (go_simp; rfl)); intro gb hg w7 hbox hb; have n0_ := Aside0.mk (blk_below BK.out hb); have n1_ := Aside0.mk (below_step HB.out hb); have n2_ := Aside0.mk (M.out.below hb); have GB := Aside0.mk (by rw [hg]; exact HB.out.size : w.heap.size ≤ gb); have NB := Aside0.mk (by rw [hg]; exact Nat.ne_of_lt (blk_lt BK.out) : gc ≠ gb); have NB3 := Aside0.mk (by rw [hg]; exact Nat.ne_of_lt M.out.lt : b3 ≠ gb); have BB := Aside0.mk hbox; clear BK HB M; have BK := n0_; have HB := n1_; have M := n2_; clear n0_ n1_ n2_ hbox hb hg; have hcy0 := (blk_cell BB.out 0).trans rfl; have hcy1 := (blk_cell BB.out 1).trans rfl; have hcy2 := (blk_cell BB.out 2).trans rfl; have hcy3 := (blk_cell BB.out 3).trans rfl; have hfy0 := blk_frozen BB.out 0; have hfy1 := blk_frozen BB.out 1; have hfy2 := blk_frozen BB.out 2; have hfy3 := blk_frozen BB.out 3) | ((with_reducible refine gate_store (t := 71) (p := 7) rfl ?_); refine store_event (t := 71) (p := 7) (v := ?vo) (w1 := ((((w7.setCell ⟨gb, 0, none⟩ (.int .i64 (rd_T71 (rd_T30 l0 i).f2 j).f0)).setCell ⟨gb, 1, none⟩ (.int .i64 (rd_T71 (rd_T30 l0 i).f2 j).f1)).setCell ⟨gb, 2, none⟩ (.int .i64 (rd_T71 (rd_T30 l0 i).f2 j).f2)).setCell ⟨gb, 3, none⟩ (.bool (rd_T71 (rd_T30 l0 i).f2 j).f3))) ?hg ?ho ?hn ?hr ?_; (case ho => rfl); (case hg => rfl); (case hn => rfl); (case hr => first | (go_simp; done) | (go_simp; rfl)); intro w8 hw; obtain ⟨k1_, k2_⟩ := box4 (.int .i64 (rd_T71 (rd_T30 l0 i).f2 j).f0) (.int .i64 (rd_T71 (rd_T30 l0 i).f2 j).f1) (.int .i64 (rd_T71 (rd_T30 l0 i).f2 j).f2) (.bool (rd_T71 (rd_T30 l0 i).f2 j).f3) BB.out; rw [← hw] at k1_ k2_; clear hw hcy0 hcy1 hcy2 hcy3 hfy0 hfy1 hfy2 hfy3; have n0_ := Aside0.mk (blk_grown BK.out k2_ (fun e => NB.out (Option.some.inj e))); have n1_ := Aside0.mk (pw_below_grown HB.out (some gb) HB.out.size k2_ (fun k e => by have e2 : gb = k := Option.some.inj e; rw [← e2]; exact GB.out)); have n2_ := Aside0.mk (M.out.kept k2_ (fun e => NB3.out (Option.some.inj e))); clear BK HB M BB; have BK := n0_; have HB := n1_; have M := n2_; have BB := Aside0.mk k1_; clear n0_ n1_ n2_ k1_ k2_; have hcz0 := (blk_cell BK.out 0).trans rfl; have hcz1 := (blk_cell BK.out 1).trans rfl; have hcz2 := (blk_cell BK.out 2).trans rfl; have hcx0 := (blk_cell BB.out 0).trans rfl; have hcx1 := (blk_cell BB.out 1).trans rfl; have hcx2 := (blk_cell BB.out 2).trans rfl; have hcx3 := (blk_cell BB.out 3).trans rfl) | (refine wpList_putSet _ rfl (.tmp 38) (.tmp 40) (.const (.bool true)) 76 rfl Try.underlying3 Try.underlying4 Try.underlying76 b3 qs rfl M.out (by have := hlen.out; have := hk.out; have := hL6.out; have := hj.out; have := h24.out; unfold maxLen; omega) (rd_T71 (rd_T30 l0 i).f2 j).f2 rfl rfl (int_wf (by have := hpar.out; omega)) ?_; intro w10 p2_ p3_; have n0_ := Aside0.mk (blk_grown BK.out p3_ (fun e => NC.out (Option.some.inj e).symm)); have n1_ := Aside0.mk (pw_below_grown HB.out (some b3) HB.out.size p3_ (fun k e => by have e2 : b3 = k := Option.some.inj e; rw [← e2]; exact G3.out)); have n2_ := Aside0.mk p2_; clear HB M BK BB hcz0 hcz1 hcz2 hcx0 hcx1 hcx2 hcx3; have BK := n0_; have HB := n1_; have M := n2_; clear n0_ n1_ n2_ p2_ p3_))
                go_roundw
                case rel => exact ⟨j + 1, (rd_T71 (rd_T30 l0 i).f2 j).f2 :: qs, by rw [hwj.out], ⟨by have := hj.out; have := hlj2.out; omega⟩, hnew, ⟨by have := hlen.out; simp; omega⟩, M, BK, HB⟩
                case measure =>
                  have := hj.out; have := hlj2.out
                  rw [hwj.out]
                  simp [intOf]
                  omega
            · have hljb : decide (j < ((rd_T30 l0 i).f2.length : Int)) = false := decide_eq_false hlj
              have hnew : Aside0 (r = bankL (l0.drop (i + 1).toNat) qs) := ⟨by
                rw [hr2.out, hp.out, List.drop_eq_nil_of_le (by omega)]
                simp only [parP]⟩
              have hl3 : Aside0 ((qs.length : Int) ≤ 24 * (i + 1)) := ⟨by have := hlen.out; have := h24.out; have := hj.out; omega⟩
              clear hlj
              go_wp2
              go_roundw
              case rel => exact ⟨i + 1, qs, by rw [hwr.out], ⟨by have := hk.out; have := hlt2.out; omega⟩, hnew, hl3, M, HB⟩
              case measure =>
                have := hk.out; have := hlt2.out
                rw [hwr.out]
                simp [intOf]
                omega
        · have hcf : colP (rd_T30 l0 i).f0 (rd_T30 l0 i).f1 (rd_T30 l0 i).f2 = false := by simpa using hc
          have WC : Aside0 (impl_ColumnOk.f (rd_T30 l0 i).f0 (rd_T30 l0 i).f1 (rd_T30 l0 i).f2 = some false) := ⟨congrArg some hcf⟩
          have hres : Aside0 (r = false) := ⟨by
            rw [hr1.out, hdrop.out]
            simp only [bankL]
            rw [hcf, Bool.false_and]⟩
          clear hc hcf hr1 hdrop
          go_wp2_with (first | ((with_reducible refine gate_dst (N := 5) rfl ?_); refine box_event ?hg (N := 5) ?hd (cs := #[.int .i64 0, .slice none 0 0, .slice none 0 0]) (t := 30) ?hr ?_; (case hd => rfl); (case hg => rfl); (case hr => first | (go_simp; done) | (go_simp; rfl)); intro gc hg w5 hbox hb; have n1_ := Aside0.mk (below_step HB.out hb); have n2_ := Aside0.mk (M.out.below hb); have GC := Aside0.mk (by rw [hg]; exact HB.out.size : w.heap.size ≤ gc); have NC := Aside0.mk (by rw [hg]; exact Nat.ne_of_lt M.out.lt : b3 ≠ gc); have BK := Aside0.mk hbox; clear HB M; have HB := n1_; have M := n2_; clear n1_ n2_ hbox hb hg; have hcy0 := (blk_cell BK.out 0).trans rfl; have hcy1 := (blk_cell BK.out 1).trans rfl; have hcy2 := (blk_cell BK.out 2).trans rfl; have hfy0 := blk_frozen BK.out 0; have hfy1 := blk_frozen BK.out 1; have hfy2 := blk_frozen BK.out 2) | ((with_reducible refine gate_store (t := 30) (p := 5) rfl ?_); refine store_event (t := 30) (p := 5) (v := ?voc) (w1 := (((w5.setCell ⟨gc, 0, none⟩ (.int .i64 (rd_T30 l0 i).f0)).setCell ⟨gc, 1, none⟩ (.slice A1 (rd_T30 l0 i).f1.length c1)).setCell ⟨gc, 2, none⟩ (.slice A2 (rd_T30 l0 i).f2.length c2))) ?hg ?ho ?hn ?hr ?_; (case ho => rfl); (case hg => rfl); (case hn => rfl); (case hr => first | (go_simp; done) | (go_simp; rfl)); intro w6 hw; obtain ⟨k1_, k2_⟩ := col3 (.int .i64 (rd_T30 l0 i).f0) (.slice A1 (rd_T30 l0 i).f1.length c1) (.slice A2 (rd_T30 l0 i).f2.length c2) BK.out; rw [← hw] at k1_ k2_; clear hw hcy0 hcy1 hcy2 hfy0 hfy1 hfy2; have n1_ := Aside0.mk (pw_below_grown HB.out (some gc) HB.out.size k2_ (fun k e => by have e2 : gc = k := Option.some.inj e; rw [← e2]; exact GC.out)); have n2_ := Aside0.mk (M.out.kept k2_ (fun e => NC.out (Option.some.inj e))); clear HB M BK; have HB := n1_; have M := n2_; have BK := Aside0.mk k1_; clear n1_ n2_ k1_ k2_; have hcz0 := (blk_cell BK.out 0).trans rfl; have hcz1 := (blk_cell BK.out 1).trans rfl; have hcz2 := (blk_cell BK.out 2).trans rfl) | (go_at_call 18; (with_reducible refine (impl_ColumnOk.calls (rd_T30 l0 i).f0 _ _ (rd_T30 l0 i).f1 _ _ (rd_T30 l0 i).f2 false _ (Kd.C_below g1.out HB.out) l1.out (Kd.C_below g2.out HB.out) l2.out WC.out).mono ?_); rintro e w7 ⟨rfl, hb⟩; have n0_ := Aside0.mk (blk_below BK.out hb); have n1_ := Aside0.mk (below_step HB.out hb); have n2_ := Aside0.mk (M.out.below hb); clear HB M BK; have BK := n0_; have HB := n1_; have M := n2_; clear n0_ n1_ n2_ hb hcz0 hcz1 hcz2; have hcz0 := (blk_cell BK.out 0).trans rfl; have hcz1 := (blk_cell BK.out 1).trans rfl; have hcz2 := (blk_cell BK.out 2).trans rfl))
          go_ret
          exact ⟨by rw [hres.out]; rfl, by repeat (first | exact HB.out | apply pw_below_drewN)⟩
      · have hltb : decide (i < (l0.length : Int)) = false := decide_eq_false hlt
        have hres : Aside0 (r = true) := ⟨by rw [hr1.out, List.drop_eq_nil_of_le (by omega)]; rfl⟩
        clear hlt hr1
        go_wp2
        go_ret
        exact ⟨by rw [hres.out]; rfl, HB.out⟩
  · have hW : Aside0 (impl_within.f (l0.length : Int) 1 6 = some false) := ⟨by rw [within_is, decide_eq_false hh]⟩
    have hr1 : Aside0 (r = false) := ⟨by rw [← hrE.out]; unfold bankP; rw [decide_eq_false hh]; rfl⟩
    clear hh hrE
    go_enter Try.func30, Try.ntmps30
    go_wp2_with (first | (go_at_call 62; (with_reducible refine (impl_within.calls ((l0.length : Int)) 1 6 false _ hW.out).mono ?_); rintro e w' ⟨rfl, ⟨nd, rfl⟩⟩))
    go_ret
    exact ⟨by rw [hr1.out]; rfl, by repeat (first | exact HB.out | apply pw_below_drewN)⟩
end Go.Proofs.Ytghfeapncmlihaa.A

namespace Go.Proofs.Ytghfeapncmlihaa.A
open Go.RowKit Go.Proofs.YtghfeapncmlihaaW.PrintWords Go.Proofs.YtghfeapncmlihaaW.PrintLast Go.Proofs.YtghfeapncmlihaaW.PrintMore
attribute [local go_sem] max2_int min2_int max_two min_two max_three min_three max_four min_four   
set_option linter.unusedVariables false
set_option linter.unusedSimpArgs false
def laws_eqIntS.l0 : Nat → List Int → List Int → Int → Option (Bool)
  | 0, _, _, _ => none
  | k + 1, x0, x1, x5 => if x5 < (x0.length : Int) then (if 0 ≤ x5 then (if x5 < (x1.length : Int) then (if (rd x0 x5) = (rd x1 x5) then (laws_eqIntS.l0 k x0 x1 (wrap64 (x5 + 1))) else (some false)) else (none)) else (none)) else (some true)
def laws_eqIntS.f (k : Nat) (l0 : List Int) (l1 : List Int) : Option (Bool) := if (l0.length : Int) = (l1.length : Int) then (laws_eqIntS.l0 k l0 l1 0) else (some false)
set_option maxHeartbeats 8000000 in
set_option maxRecDepth 100000 in
theorem laws_eqIntS.calls (k : Nat) (A0 : Option Addr) (c0 : Nat) (l0 : List Int) (A1 : Option Addr) (c1 : Nat) (l1 : List Int) (r : Bool) (w : World) (hr0 : Kd.C (Kd.int .i64) w A0 l0.length l0) (hc0 : l0.length ≤ c0) (hr1 : Kd.C (Kd.int .i64) w A1 l1.length l1) (hc1 : l1.length ≤ c1) (h : laws_eqIntS.f k l0 l1 = some r) :
    Calls Try.prog 23 #[.slice A0 l0.length c0, .slice A1 l1.length c1] w fun e w' => e = .returned (.bool r) ∧ Drawn0 w w' := by
  have HR0 := Aside0.mk hr0
  have HC0 := Aside0.mk hc0
  clear hr0 hc0
  have HR1 := Aside0.mk hr1
  have HC1 := Aside0.mk hc1
  clear hr1 hc1
  have H : (if (l0.length : Int) = (l1.length : Int) then (laws_eqIntS.l0 k l0 l1 0) else (some false)) = some r := h
  clear h
  by_cases c3 : (l0.length : Int) = (l1.length : Int)
  · rw [if_pos c3] at H
    have c3b0 : ((l0.length : Int) == (l1.length : Int)) = true := beq_iff_eq.mpr c3
    have c3b1 : ((l0.length : Int) != (l1.length : Int)) = false := bne_eq_false_iff_eq.mpr c3
    have c3b2 : (l0.length == l1.length) = true := by first | simpa using c3 | (simp at c3 ⊢; omega)
    clear c3
    have H' := Aside0.mk H
    clear H
    go_enter Try.func23, Try.ntmps23
    go_wp2
    repeat (go_quiet (fail); try go_wp2)
    go_loopg [5] k (fun kq v5 w' => ∃ (x5_1 : Int), v5 = .int .i64 x5_1 ∧ Aside0 (laws_eqIntS.l0 kq l0 l1 x5_1 = some r) ∧ Aside0 (kq ≤ k) ∧ Drawn0 w w')
    case atStart => exact ⟨(0), (by first | rfl | (simp; done) | (simp [*]; done)), H', ⟨Nat.le_refl _⟩, by repeat (first | exact Drawn0.refl _ | apply Drawn0.step)⟩
    case round =>
      clear H'
      try clear c1
      try clear c2
      try clear p2
      try clear c3
      try clear c3b0
      try clear c3b1
      try clear c3b2
      obtain ⟨x5_1, rfl, HA, HK1, ⟨m1, rfl⟩⟩ := hrel
      cases gk with
      | zero => exact absurd HA.out (by simp [laws_eqIntS.l0])
      | succ k1 =>
        have H := HA.out
        clear HA
        simp only [laws_eqIntS.l0] at H
        by_cases c4 : x5_1 < (l0.length : Int)
        · rw [if_pos c4] at H
          have c4b0 : decide (x5_1 < (l0.length : Int)) = true := decide_eq_true c4
          clear c4
          by_cases c5 : 0 ≤ x5_1
          · rw [if_pos c5] at H
            have c5b0 : decide (0 ≤ x5_1) = true := decide_eq_true c5
            clear c5
            by_cases c6 : x5_1 < (l1.length : Int)
            · rw [if_pos c6] at H
              have c6b0 : decide (x5_1 < (l1.length : Int)) = true := decide_eq_true c6
              clear c6
              by_cases c7 : (rd l0 x5_1) = (rd l1 x5_1)
              · rw [if_pos c7] at H
                have c7b0 : ((rd l0 x5_1) == (rd l1 x5_1)) = true := beq_iff_eq.mpr c7
                have c7b1 : ((rd l0 x5_1) != (rd l1 x5_1)) = false := bne_eq_false_iff_eq.mpr c7
                clear c7
                have H' := Aside0.mk H
                clear H
                have p145 : 0 ≤ (x5_1 : Int) := of_decide_eq_true (by first | (with_reducible assumption) | assumption)
                have q145 : x5_1 < (l0.length : Int) := of_decide_eq_true (by first | (with_reducible assumption) | assumption)
                obtain ⟨ad145, e145, hx145_0⟩ := Kd.at_int HR0.out x5_1 p145 q145
                cases e145
                replace p145 := eq_true p145
                replace q145 := eq_true q145
                have p146 : 0 ≤ (x5_1 : Int) := of_decide_eq_true (by first | (with_reducible assumption) | assumption)
                have q146 : x5_1 < (l1.length : Int) := of_decide_eq_true (by first | (with_reducible assumption) | assumption)
                obtain ⟨ad146, e146, hx146_0⟩ := Kd.at_int HR1.out x5_1 p146 q146
                cases e146
                replace p146 := eq_true p146
                replace q146 := eq_true q146
                go_wp2
                repeat (go_quiet (fail); try go_wp2)
                go_roundg k1
                case measure => have := HK1.out; omega
                case rel => exact ⟨(wrap64 (x5_1 + 1)), (by first | rfl | (simp; done) | (simp [*]; done)), H', ⟨by have := HK1.out; omega⟩, by repeat (first | exact Drawn0.refl _ | apply Drawn0.step)⟩
              · rw [if_neg c7] at H
                have c7b0 : ((rd l0 x5_1) == (rd l1 x5_1)) = false := beq_eq_false_iff_ne.mpr c7
                have c7b1 : ((rd l0 x5_1) != (rd l1 x5_1)) = true := bne_iff_ne.mpr c7
                obtain rfl := Option.some.inj H
                have p145 : 0 ≤ (x5_1 : Int) := of_decide_eq_true (by first | (with_reducible assumption) | assumption)
                have q145 : x5_1 < (l0.length : Int) := of_decide_eq_true (by first | (with_reducible assumption) | assumption)
                obtain ⟨ad145, e145, hx145_0⟩ := Kd.at_int HR0.out x5_1 p145 q145
                cases e145
                replace p145 := eq_true p145
                replace q145 := eq_true q145
                have p146 : 0 ≤ (x5_1 : Int) := of_decide_eq_true (by first | (with_reducible assumption) | assumption)
                have q146 : x5_1 < (l1.length : Int) := of_decide_eq_true (by first | (with_reducible assumption) | assumption)
                obtain ⟨ad146, e146, hx146_0⟩ := Kd.at_int HR1.out x5_1 p146 q146
                cases e146
                replace p146 := eq_true p146
                replace q146 := eq_true q146
                go_wp2
                repeat (go_quiet (fail); try go_wp2)
                go_ret
                exact ⟨by first | rfl | (simp; done) | (simp [*]; done), by repeat (first | exact Drawn0.refl _ | apply Drawn0.step)⟩
            · rw [if_neg c6] at H
              exact absurd H (by simp)
          · rw [if_neg c5] at H
            exact absurd H (by simp)
        · rw [if_neg c4] at H
          have c4b0 : decide (x5_1 < (l0.length : Int)) = false := decide_eq_false c4
          clear c4
          obtain rfl := Option.some.inj H
          go_wp2
          repeat (go_quiet (fail); try go_wp2)
          go_ret
          exact ⟨by first | rfl | (simp; done) | (simp [*]; done), by repeat (first | exact Drawn0.refl _ | apply Drawn0.step)⟩
  · rw [if_neg c3] at H
    have c3b0 : ((l0.length : Int) == (l1.length : Int)) = false := beq_eq_false_iff_ne.mpr c3
    have c3b1 : ((l0.length : Int) != (l1.length : Int)) = true := bne_iff_ne.mpr c3
    have c3b2 : (l0.length == l1.length) = false := by first | simpa using c3 | (simp at c3 ⊢; omega)
    obtain rfl := Option.some.inj H
    go_enter Try.func23, Try.ntmps23
    go_wp2
    repeat (go_quiet (fail); try go_wp2)
    go_ret
    exact ⟨by first | rfl | (simp; done) | (simp [*]; done), by repeat (first | exact Drawn0.refl _ | apply Drawn0.step)⟩
def laws_eqBox.f (a0_0 : Int) (a0_1 : Int) (a0_2 : Int) (a0_3 : Bool) (a1_0 : Int) (a1_1 : Int) (a1_2 : Int) (a1_3 : Bool) : Option (Bool) := if a0_0 = a1_0 then (if a0_1 = a1_1 then (if a0_2 = a1_2 then (if (a0_3 != a1_3) = true then (some false) else (some true)) else (some false)) else (some false)) else (some false)
set_option maxHeartbeats 8000000 in
set_option maxRecDepth 100000 in
theorem laws_eqBox.calls (a0_0 : Int) (a0_1 : Int) (a0_2 : Int) (a0_3 : Bool) (a1_0 : Int) (a1_1 : Int) (a1_2 : Int) (a1_3 : Bool) (r : Bool) (w : World) (h : laws_eqBox.f a0_0 a0_1 a0_2 a0_3 a1_0 a1_1 a1_2 a1_3 = some r) :
    Calls Try.prog 87 #[.agg #[.int .i64 a0_0, .int .i64 a0_1, .int .i64 a0_2, .bool a0_3], .agg #[.int .i64 a1_0, .int .i64 a1_1, .int .i64 a1_2, .bool a1_3]] w fun e w' => e = .returned (.bool r) ∧ Below w.heap.size w w' := by
  have hu71 := Try.underlying71
  have HB := Aside0.mk (Below.refl w.heap.size w)
  have H : (if a0_0 = a1_0 then (if a0_1 = a1_1 then (if a0_2 = a1_2 then (if (a0_3 != a1_3) = true then (some false) else (some true)) else (some false)) else (some false)) else (some false)) = some r := h
  clear h
  by_cases c3 : a0_0 = a1_0
  · rw [if_pos c3] at H
    have c3b0 : (a0_0 == a1_0) = true := beq_iff_eq.mpr c3
    have c3b1 : (a0_0 != a1_0) = false := bne_eq_false_iff_eq.mpr c3
    clear c3
    by_cases c4 : a0_1 = a1_1
    · rw [if_pos c4] at H
      have c4b0 : (a0_1 == a1_1) = true := beq_iff_eq.mpr c4
      have c4b1 : (a0_1 != a1_1) = false := bne_eq_false_iff_eq.mpr c4
      clear c4
      by_cases c5 : a0_2 = a1_2
      · rw [if_pos c5] at H
        have c5b0 : (a0_2 == a1_2) = true := beq_iff_eq.mpr c5
        have c5b1 : (a0_2 != a1_2) = false := bne_eq_false_iff_eq.mpr c5
        clear c5
        by_cases c6 : (a0_3 != a1_3) = true
        · rw [if_pos c6] at H
          have c6b0 : (a0_3 != a1_3) = true := c6
          (try (have c6b1 : decide (a0_3 = a1_3) = false := by simpa using c6))
          (try (have c6b2 : (a0_3 == a1_3) = false := by simpa using c6))
          (try (have c6b3 : ¬ (a0_3 = a1_3) := by simpa using c6))
          clear c6
          obtain rfl := Option.some.inj H
          go_enter Try.func87, Try.ntmps87
          go_wp2_with (first | ((with_reducible refine gate_dst (N := 2) rfl ?_); refine box_event ?hg (N := 2) ?hd (cs := #[.int .i64 a0_0, .int .i64 a0_1, .int .i64 a0_2, .bool a0_3]) (t := 71) ?hr ?_; (case hd => rfl); (case hg => rfl); (case hr => first | (go_simp; done) | (go_simp; rfl)); intro gb147 hg w7 hbox hb; have n0_ := Aside0.mk (below_step (by repeat (first | (with_reducible first | exact HB.out | apply below_alloc | apply pw_below_drewN | apply below_drew1) | exact HB.out)) hb); have n1_ := Aside0.mk (hbox); have n2_ := Aside0.mk ((by rw [hg]; exact (below_size (by repeat (first | (with_reducible first | exact HB.out | apply below_alloc | apply pw_below_drewN | apply below_drew1) | exact HB.out))) : w.heap.size ≤ gb147)); have n3_ := Aside0.mk ((by rw [hg]; exact (below_size (by repeat (first | (with_reducible first | exact HB.out | apply below_alloc | apply pw_below_drewN | apply below_drew1) | exact HB.out))) : w.heap.size ≤ gb147)); clear HB; have HB := n0_; have BK147 := n1_; have GW147 := n2_; have GE147 := n3_; clear n0_ n1_ n2_ n3_; clear hb hbox hg) | ((with_reducible refine gate_dst (N := 3) rfl ?_); refine box_event ?hg (N := 3) ?hd (cs := #[.int .i64 a1_0, .int .i64 a1_1, .int .i64 a1_2, .bool a1_3]) (t := 71) ?hr ?_; (case hd => rfl); (case hg => rfl); (case hr => first | (go_simp; done) | (go_simp; rfl)); intro gb148 hg w8 hbox hb; have n0_ := Aside0.mk (blk_below (g := gb147) (o := .cells #[.int .i64 a0_0, .int .i64 a0_1, .int .i64 a0_2, .bool a0_3] 71 (0, 0)) (by (with_reducible repeat (first | refine blk_drewN ?_ _ | refine blk_drew ?_ | refine blk_alloc ?_ _)); exact BK147.out) hb); have n1_ := Aside0.mk (below_step (by repeat (first | (with_reducible first | exact HB.out | apply below_alloc | apply pw_below_drewN | apply below_drew1 | refine below_set ?_ GE147.out) | exact HB.out)) hb); have n2_ := Aside0.mk (hbox); have n3_ := Aside0.mk ((by rw [hg]; exact (below_size (by repeat (first | (with_reducible first | exact HB.out | apply below_alloc | apply pw_below_drewN | apply below_drew1 | refine below_set ?_ GE147.out) | exact HB.out))) : w.heap.size ≤ gb148)); have n4_ := Aside0.mk ((by rw [hg]; exact (below_size (by repeat (first | (with_reducible first | exact HB.out | apply below_alloc | apply pw_below_drewN | apply below_drew1 | refine below_set ?_ GE147.out) | exact HB.out))) : w.heap.size ≤ gb148)); have n5_ := Aside0.mk ((by rw [hg]; exact Nat.ne_of_lt (blk_lt (g := gb147) (o := .cells #[.int .i64 a0_0, .int .i64 a0_1, .int .i64 a0_2, .bool a0_3] 71 (0, 0)) (by (with_reducible repeat (first | refine blk_drewN ?_ _ | refine blk_drew ?_ | refine blk_alloc ?_ _)); exact BK147.out)) : gb147 ≠ gb148)); have n6_ := Aside0.mk ((by rw [hg]; exact Nat.ne_of_gt (blk_lt (g := gb147) (o := .cells #[.int .i64 a0_0, .int .i64 a0_1, .int .i64 a0_2, .bool a0_3] 71 (0, 0)) (by (with_reducible repeat (first | refine blk_drewN ?_ _ | refine blk_drew ?_ | refine blk_alloc ?_ _)); exact BK147.out)) : gb148 ≠ gb147)); clear BK147; clear HB; have BK147 := n0_; have HB := n1_; have BK148 := n2_; have GW148 := n3_; have GE148 := n4_; have NB147_148 := n5_; have NB148_147 := n6_; clear n0_ n1_ n2_ n3_ n4_ n5_ n6_; clear hb hbox hg; have hnb9 := NB147_148.out; have hnc9 := NB148_147.out; have hcz10_0 : w8.cell? ⟨gb147, 0, none⟩ = some (.int .i64 a0_0) := (blk_cell BK147.out 0).trans rfl; have hcz10_1 : w8.cell? ⟨gb147, 1, none⟩ = some (.int .i64 a0_1) := (blk_cell BK147.out 1).trans rfl; have hcz10_2 : w8.cell? ⟨gb147, 2, none⟩ = some (.int .i64 a0_2) := (blk_cell BK147.out 2).trans rfl; have hcz10_3 : w8.cell? ⟨gb147, 3, none⟩ = some (.bool a0_3) := (blk_cell BK147.out 3).trans rfl; have hfz10_0 := blk_frozen BK147.out 0; have hfz10_1 := blk_frozen BK147.out 1; have hfz10_2 := blk_frozen BK147.out 2; have hfz10_3 := blk_frozen BK147.out 3; have hcz11_0 : w8.cell? ⟨gb148, 0, none⟩ = some (.int .i64 a1_0) := (blk_cell BK148.out 0).trans rfl; have hcz11_1 : w8.cell? ⟨gb148, 1, none⟩ = some (.int .i64 a1_1) := (blk_cell BK148.out 1).trans rfl; have hcz11_2 : w8.cell? ⟨gb148, 2, none⟩ = some (.int .i64 a1_2) := (blk_cell BK148.out 2).trans rfl; have hcz11_3 : w8.cell? ⟨gb148, 3, none⟩ = some (.bool a1_3) := (blk_cell BK148.out 3).trans rfl; have hfz11_0 := blk_frozen BK148.out 0; have hfz11_1 := blk_frozen BK148.out 1; have hfz11_2 := blk_frozen BK148.out 2; have hfz11_3 := blk_frozen BK148.out 3))
          go_ret
          exact ⟨by first | rfl | (simp [errW_none, errW_some] <;> rfl) | (simp [*, errW_none, errW_some] <;> rfl), by repeat (first | (with_reducible first | exact HB.out | apply below_alloc | apply pw_below_drewN | apply below_drew1 | refine below_set ?_ GE147.out | refine below_set ?_ GE148.out) | exact HB.out)⟩
        · rw [if_neg c6] at H
          have c6b0 : (a0_3 != a1_3) = false := by simpa using c6
          (try (have c6b1 : decide (a0_3 = a1_3) = true := by simpa using c6))
          (try (have c6b2 : (a0_3 == a1_3) = true := by simpa using c6))
          clear c6
          obtain rfl := Option.some.inj H
          go_enter Try.func87, Try.ntmps87
          go_wp2_with (first | ((with_reducible refine gate_dst (N := 2) rfl ?_); refine box_event ?hg (N := 2) ?hd (cs := #[.int .i64 a0_0, .int .i64 a0_1, .int .i64 a0_2, .bool a0_3]) (t := 71) ?hr ?_; (case hd => rfl); (case hg => rfl); (case hr => first | (go_simp; done) | (go_simp; rfl)); intro gb147 hg w12 hbox hb; have n0_ := Aside0.mk (below_step (by repeat (first | (with_reducible first | exact HB.out | apply below_alloc | apply pw_below_drewN | apply below_drew1) | exact HB.out)) hb); have n1_ := Aside0.mk (hbox); have n2_ := Aside0.mk ((by rw [hg]; exact (below_size (by repeat (first | (with_reducible first | exact HB.out | apply below_alloc | apply pw_below_drewN | apply below_drew1) | exact HB.out))) : w.heap.size ≤ gb147)); have n3_ := Aside0.mk ((by rw [hg]; exact (below_size (by repeat (first | (with_reducible first | exact HB.out | apply below_alloc | apply pw_below_drewN | apply below_drew1) | exact HB.out))) : w.heap.size ≤ gb147)); clear HB; have HB := n0_; have BK147 := n1_; have GW147 := n2_; have GE147 := n3_; clear n0_ n1_ n2_ n3_; clear hb hbox hg) | ((with_reducible refine gate_dst (N := 3) rfl ?_); refine box_event ?hg (N := 3) ?hd (cs := #[.int .i64 a1_0, .int .i64 a1_1, .int .i64 a1_2, .bool a1_3]) (t := 71) ?hr ?_; (case hd => rfl); (case hg => rfl); (case hr => first | (go_simp; done) | (go_simp; rfl)); intro gb148 hg w13 hbox hb; have n0_ := Aside0.mk (blk_below (g := gb147) (o := .cells #[.int .i64 a0_0, .int .i64 a0_1, .int .i64 a0_2, .bool a0_3] 71 (0, 0)) (by (with_reducible repeat (first | refine blk_drewN ?_ _ | refine blk_drew ?_ | refine blk_alloc ?_ _)); exact BK147.out) hb); have n1_ := Aside0.mk (below_step (by repeat (first | (with_reducible first | exact HB.out | apply below_alloc | apply pw_below_drewN | apply below_drew1 | refine below_set ?_ GE147.out) | exact HB.out)) hb); have n2_ := Aside0.mk (hbox); have n3_ := Aside0.mk ((by rw [hg]; exact (below_size (by repeat (first | (with_reducible first | exact HB.out | apply below_alloc | apply pw_below_drewN | apply below_drew1 | refine below_set ?_ GE147.out) | exact HB.out))) : w.heap.size ≤ gb148)); have n4_ := Aside0.mk ((by rw [hg]; exact (below_size (by repeat (first | (with_reducible first | exact HB.out | apply below_alloc | apply pw_below_drewN | apply below_drew1 | refine below_set ?_ GE147.out) | exact HB.out))) : w.heap.size ≤ gb148)); have n5_ := Aside0.mk ((by rw [hg]; exact Nat.ne_of_lt (blk_lt (g := gb147) (o := .cells #[.int .i64 a0_0, .int .i64 a0_1, .int .i64 a0_2, .bool a0_3] 71 (0, 0)) (by (with_reducible repeat (first | refine blk_drewN ?_ _ | refine blk_drew ?_ | refine blk_alloc ?_ _)); exact BK147.out)) : gb147 ≠ gb148)); have n6_ := Aside0.mk ((by rw [hg]; exact Nat.ne_of_gt (blk_lt (g := gb147) (o := .cells #[.int .i64 a0_0, .int .i64 a0_1, .int .i64 a0_2, .bool a0_3] 71 (0, 0)) (by (with_reducible repeat (first | refine blk_drewN ?_ _ | refine blk_drew ?_ | refine blk_alloc ?_ _)); exact BK147.out)) : gb148 ≠ gb147)); clear BK147; clear HB; have BK147 := n0_; have HB := n1_; have BK148 := n2_; have GW148 := n3_; have GE148 := n4_; have NB147_148 := n5_; have NB148_147 := n6_; clear n0_ n1_ n2_ n3_ n4_ n5_ n6_; clear hb hbox hg; have hnb14 := NB147_148.out; have hnc14 := NB148_147.out; have hcz15_0 : w13.cell? ⟨gb147, 0, none⟩ = some (.int .i64 a0_0) := (blk_cell BK147.out 0).trans rfl; have hcz15_1 : w13.cell? ⟨gb147, 1, none⟩ = some (.int .i64 a0_1) := (blk_cell BK147.out 1).trans rfl; have hcz15_2 : w13.cell? ⟨gb147, 2, none⟩ = some (.int .i64 a0_2) := (blk_cell BK147.out 2).trans rfl; have hcz15_3 : w13.cell? ⟨gb147, 3, none⟩ = some (.bool a0_3) := (blk_cell BK147.out 3).trans rfl; have hfz15_0 := blk_frozen BK147.out 0; have hfz15_1 := blk_frozen BK147.out 1; have hfz15_2 := blk_frozen BK147.out 2; have hfz15_3 := blk_frozen BK147.out 3; have hcz16_0 : w13.cell? ⟨gb148, 0, none⟩ = some (.int .i64 a1_0) := (blk_cell BK148.out 0).trans rfl; have hcz16_1 : w13.cell? ⟨gb148, 1, none⟩ = some (.int .i64 a1_1) := (blk_cell BK148.out 1).trans rfl; have hcz16_2 : w13.cell? ⟨gb148, 2, none⟩ = some (.int .i64 a1_2) := (blk_cell BK148.out 2).trans rfl; have hcz16_3 : w13.cell? ⟨gb148, 3, none⟩ = some (.bool a1_3) := (blk_cell BK148.out 3).trans rfl; have hfz16_0 := blk_frozen BK148.out 0; have hfz16_1 := blk_frozen BK148.out 1; have hfz16_2 := blk_frozen BK148.out 2; have hfz16_3 := blk_frozen BK148.out 3))
          go_ret
          exact ⟨by first | rfl | (simp [errW_none, errW_some] <;> rfl) | (simp [*, errW_none, errW_some] <;> rfl), by repeat (first | (with_reducible first | exact HB.out | apply below_alloc | apply pw_below_drewN | apply below_drew1 | refine below_set ?_ GE147.out | refine below_set ?_ GE148.out) | exact HB.out)⟩
      · rw [if_neg c5] at H
        have c5b0 : (a0_2 == a1_2) = false := beq_eq_false_iff_ne.mpr c5
        have c5b1 : (a0_2 != a1_2) = true := bne_iff_ne.mpr c5
        obtain rfl := Option.some.inj H
        go_enter Try.func87, Try.ntmps87
        go_wp2_with (first | ((with_reducible refine gate_dst (N := 2) rfl ?_); refine box_event ?hg (N := 2) ?hd (cs := #[.int .i64 a0_0, .int .i64 a0_1, .int .i64 a0_2, .bool a0_3]) (t := 71) ?hr ?_; (case hd => rfl); (case hg => rfl); (case hr => first | (go_simp; done) | (go_simp; rfl)); intro gb147 hg w17 hbox hb; have n0_ := Aside0.mk (below_step (by repeat (first | (with_reducible first | exact HB.out | apply below_alloc | apply pw_below_drewN | apply below_drew1) | exact HB.out)) hb); have n1_ := Aside0.mk (hbox); have n2_ := Aside0.mk ((by rw [hg]; exact (below_size (by repeat (first | (with_reducible first | exact HB.out | apply below_alloc | apply pw_below_drewN | apply below_drew1) | exact HB.out))) : w.heap.size ≤ gb147)); have n3_ := Aside0.mk ((by rw [hg]; exact (below_size (by repeat (first | (with_reducible first | exact HB.out | apply below_alloc | apply pw_below_drewN | apply below_drew1) | exact HB.out))) : w.heap.size ≤ gb147)); clear HB; have HB := n0_; have BK147 := n1_; have GW147 := n2_; have GE147 := n3_; clear n0_ n1_ n2_ n3_; clear hb hbox hg) | ((with_reducible refine gate_dst (N := 3) rfl ?_); refine box_event ?hg (N := 3) ?hd (cs := #[.int .i64 a1_0, .int .i64 a1_1, .int .i64 a1_2, .bool a1_3]) (t := 71) ?hr ?_; (case hd => rfl); (case hg => rfl); (case hr => first | (go_simp; done) | (go_simp; rfl)); intro gb148 hg w18 hbox hb; have n0_ := Aside0.mk (blk_below (g := gb147) (o := .cells #[.int .i64 a0_0, .int .i64 a0_1, .int .i64 a0_2, .bool a0_3] 71 (0, 0)) (by (with_reducible repeat (first | refine blk_drewN ?_ _ | refine blk_drew ?_ | refine blk_alloc ?_ _)); exact BK147.out) hb); have n1_ := Aside0.mk (below_step (by repeat (first | (with_reducible first | exact HB.out | apply below_alloc | apply pw_below_drewN | apply below_drew1 | refine below_set ?_ GE147.out) | exact HB.out)) hb); have n2_ := Aside0.mk (hbox); have n3_ := Aside0.mk ((by rw [hg]; exact (below_size (by repeat (first | (with_reducible first | exact HB.out | apply below_alloc | apply pw_below_drewN | apply below_drew1 | refine below_set ?_ GE147.out) | exact HB.out))) : w.heap.size ≤ gb148)); have n4_ := Aside0.mk ((by rw [hg]; exact (below_size (by repeat (first | (with_reducible first | exact HB.out | apply below_alloc | apply pw_below_drewN | apply below_drew1 | refine below_set ?_ GE147.out) | exact HB.out))) : w.heap.size ≤ gb148)); have n5_ := Aside0.mk ((by rw [hg]; exact Nat.ne_of_lt (blk_lt (g := gb147) (o := .cells #[.int .i64 a0_0, .int .i64 a0_1, .int .i64 a0_2, .bool a0_3] 71 (0, 0)) (by (with_reducible repeat (first | refine blk_drewN ?_ _ | refine blk_drew ?_ | refine blk_alloc ?_ _)); exact BK147.out)) : gb147 ≠ gb148)); have n6_ := Aside0.mk ((by rw [hg]; exact Nat.ne_of_gt (blk_lt (g := gb147) (o := .cells #[.int .i64 a0_0, .int .i64 a0_1, .int .i64 a0_2, .bool a0_3] 71 (0, 0)) (by (with_reducible repeat (first | refine blk_drewN ?_ _ | refine blk_drew ?_ | refine blk_alloc ?_ _)); exact BK147.out)) : gb148 ≠ gb147)); clear BK147; clear HB; have BK147 := n0_; have HB := n1_; have BK148 := n2_; have GW148 := n3_; have GE148 := n4_; have NB147_148 := n5_; have NB148_147 := n6_; clear n0_ n1_ n2_ n3_ n4_ n5_ n6_; clear hb hbox hg; have hnb19 := NB147_148.out; have hnc19 := NB148_147.out; have hcz20_0 : w18.cell? ⟨gb147, 0, none⟩ = some (.int .i64 a0_0) := (blk_cell BK147.out 0).trans rfl; have hcz20_1 : w18.cell? ⟨gb147, 1, none⟩ = some (.int .i64 a0_1) := (blk_cell BK147.out 1).trans rfl; have hcz20_2 : w18.cell? ⟨gb147, 2, none⟩ = some (.int .i64 a0_2) := (blk_cell BK147.out 2).trans rfl; have hcz20_3 : w18.cell? ⟨gb147, 3, none⟩ = some (.bool a0_3) := (blk_cell BK147.out 3).trans rfl; have hfz20_0 := blk_frozen BK147.out 0; have hfz20_1 := blk_frozen BK147.out 1; have hfz20_2 := blk_frozen BK147.out 2; have hfz20_3 := blk_frozen BK147.out 3; have hcz21_0 : w18.cell? ⟨gb148, 0, none⟩ = some (.int .i64 a1_0) := (blk_cell BK148.out 0).trans rfl; have hcz21_1 : w18.cell? ⟨gb148, 1, none⟩ = some (.int .i64 a1_1) := (blk_cell BK148.out 1).trans rfl; have hcz21_2 : w18.cell? ⟨gb148, 2, none⟩ = some (.int .i64 a1_2) := (blk_cell BK148.out 2).trans rfl; have hcz21_3 : w18.cell? ⟨gb148, 3, none⟩ = some (.bool a1_3) := (blk_cell BK148.out 3).trans rfl; have hfz21_0 := blk_frozen BK148.out 0; have hfz21_1 := blk_frozen BK148.out 1; have hfz21_2 := blk_frozen BK148.out 2; have hfz21_3 := blk_frozen BK148.out 3))
        go_ret
        exact ⟨by first | rfl | (simp [errW_none, errW_some] <;> rfl) | (simp [*, errW_none, errW_some] <;> rfl), by repeat (first | (with_reducible first | exact HB.out | apply below_alloc | apply pw_below_drewN | apply below_drew1 | refine below_set ?_ GE147.out | refine below_set ?_ GE148.out) | exact HB.out)⟩
    · rw [if_neg c4] at H
      have c4b0 : (a0_1 == a1_1) = false := beq_eq_false_iff_ne.mpr c4
      have c4b1 : (a0_1 != a1_1) = true := bne_iff_ne.mpr c4
      obtain rfl := Option.some.inj H
      go_enter Try.func87, Try.ntmps87
      go_wp2_with (first | ((with_reducible refine gate_dst (N := 2) rfl ?_); refine box_event ?hg (N := 2) ?hd (cs := #[.int .i64 a0_0, .int .i64 a0_1, .int .i64 a0_2, .bool a0_3]) (t := 71) ?hr ?_; (case hd => rfl); (case hg => rfl); (case hr => first | (go_simp; done) | (go_simp; rfl)); intro gb147 hg w22 hbox hb; have n0_ := Aside0.mk (below_step (by repeat (first | (with_reducible first | exact HB.out | apply below_alloc | apply pw_below_drewN | apply below_drew1) | exact HB.out)) hb); have n1_ := Aside0.mk (hbox); have n2_ := Aside0.mk ((by rw [hg]; exact (below_size (by repeat (first | (with_reducible first | exact HB.out | apply below_alloc | apply pw_below_drewN | apply below_drew1) | exact HB.out))) : w.heap.size ≤ gb147)); have n3_ := Aside0.mk ((by rw [hg]; exact (below_size (by repeat (first | (with_reducible first | exact HB.out | apply below_alloc | apply pw_below_drewN | apply below_drew1) | exact HB.out))) : w.heap.size ≤ gb147)); clear HB; have HB := n0_; have BK147 := n1_; have GW147 := n2_; have GE147 := n3_; clear n0_ n1_ n2_ n3_; clear hb hbox hg) | ((with_reducible refine gate_dst (N := 3) rfl ?_); refine box_event ?hg (N := 3) ?hd (cs := #[.int .i64 a1_0, .int .i64 a1_1, .int .i64 a1_2, .bool a1_3]) (t := 71) ?hr ?_; (case hd => rfl); (case hg => rfl); (case hr => first | (go_simp; done) | (go_simp; rfl)); intro gb148 hg w23 hbox hb; have n0_ := Aside0.mk (blk_below (g := gb147) (o := .cells #[.int .i64 a0_0, .int .i64 a0_1, .int .i64 a0_2, .bool a0_3] 71 (0, 0)) (by (with_reducible repeat (first | refine blk_drewN ?_ _ | refine blk_drew ?_ | refine blk_alloc ?_ _)); exact BK147.out) hb); have n1_ := Aside0.mk (below_step (by repeat (first | (with_reducible first | exact HB.out | apply below_alloc | apply pw_below_drewN | apply below_drew1 | refine below_set ?_ GE147.out) | exact HB.out)) hb); have n2_ := Aside0.mk (hbox); have n3_ := Aside0.mk ((by rw [hg]; exact (below_size (by repeat (first | (with_reducible first | exact HB.out | apply below_alloc | apply pw_below_drewN | apply below_drew1 | refine below_set ?_ GE147.out) | exact HB.out))) : w.heap.size ≤ gb148)); have n4_ := Aside0.mk ((by rw [hg]; exact (below_size (by repeat (first | (with_reducible first | exact HB.out | apply below_alloc | apply pw_below_drewN | apply below_drew1 | refine below_set ?_ GE147.out) | exact HB.out))) : w.heap.size ≤ gb148)); have n5_ := Aside0.mk ((by rw [hg]; exact Nat.ne_of_lt (blk_lt (g := gb147) (o := .cells #[.int .i64 a0_0, .int .i64 a0_1, .int .i64 a0_2, .bool a0_3] 71 (0, 0)) (by (with_reducible repeat (first | refine blk_drewN ?_ _ | refine blk_drew ?_ | refine blk_alloc ?_ _)); exact BK147.out)) : gb147 ≠ gb148)); have n6_ := Aside0.mk ((by rw [hg]; exact Nat.ne_of_gt (blk_lt (g := gb147) (o := .cells #[.int .i64 a0_0, .int .i64 a0_1, .int .i64 a0_2, .bool a0_3] 71 (0, 0)) (by (with_reducible repeat (first | refine blk_drewN ?_ _ | refine blk_drew ?_ | refine blk_alloc ?_ _)); exact BK147.out)) : gb148 ≠ gb147)); clear BK147; clear HB; have BK147 := n0_; have HB := n1_; have BK148 := n2_; have GW148 := n3_; have GE148 := n4_; have NB147_148 := n5_; have NB148_147 := n6_; clear n0_ n1_ n2_ n3_ n4_ n5_ n6_; clear hb hbox hg; have hnb24 := NB147_148.out; have hnc24 := NB148_147.out; have hcz25_0 : w23.cell? ⟨gb147, 0, none⟩ = some (.int .i64 a0_0) := (blk_cell BK147.out 0).trans rfl; have hcz25_1 : w23.cell? ⟨gb147, 1, none⟩ = some (.int .i64 a0_1) := (blk_cell BK147.out 1).trans rfl; have hcz25_2 : w23.cell? ⟨gb147, 2, none⟩ = some (.int .i64 a0_2) := (blk_cell BK147.out 2).trans rfl; have hcz25_3 : w23.cell? ⟨gb147, 3, none⟩ = some (.bool a0_3) := (blk_cell BK147.out 3).trans rfl; have hfz25_0 := blk_frozen BK147.out 0; have hfz25_1 := blk_frozen BK147.out 1; have hfz25_2 := blk_frozen BK147.out 2; have hfz25_3 := blk_frozen BK147.out 3; have hcz26_0 : w23.cell? ⟨gb148, 0, none⟩ = some (.int .i64 a1_0) := (blk_cell BK148.out 0).trans rfl; have hcz26_1 : w23.cell? ⟨gb148, 1, none⟩ = some (.int .i64 a1_1) := (blk_cell BK148.out 1).trans rfl; have hcz26_2 : w23.cell? ⟨gb148, 2, none⟩ = some (.int .i64 a1_2) := (blk_cell BK148.out 2).trans rfl; have hcz26_3 : w23.cell? ⟨gb148, 3, none⟩ = some (.bool a1_3) := (blk_cell BK148.out 3).trans rfl; have hfz26_0 := blk_frozen BK148.out 0; have hfz26_1 := blk_frozen BK148.out 1; have hfz26_2 := blk_frozen BK148.out 2; have hfz26_3 := blk_frozen BK148.out 3))
      go_ret
      exact ⟨by first | rfl | (simp [errW_none, errW_some] <;> rfl) | (simp [*, errW_none, errW_some] <;> rfl), by repeat (first | (with_reducible first | exact HB.out | apply below_alloc | apply pw_below_drewN | apply below_drew1 | refine below_set ?_ GE147.out | refine below_set ?_ GE148.out) | exact HB.out)⟩
  · rw [if_neg c3] at H
    have c3b0 : (a0_0 == a1_0) = false := beq_eq_false_iff_ne.mpr c3
    have c3b1 : (a0_0 != a1_0) = true := bne_iff_ne.mpr c3
    obtain rfl := Option.some.inj H
    go_enter Try.func87, Try.ntmps87
    go_wp2_with (first | ((with_reducible refine gate_dst (N := 2) rfl ?_); refine box_event ?hg (N := 2) ?hd (cs := #[.int .i64 a0_0, .int .i64 a0_1, .int .i64 a0_2, .bool a0_3]) (t := 71) ?hr ?_; (case hd => rfl); (case hg => rfl); (case hr => first | (go_simp; done) | (go_simp; rfl)); intro gb147 hg w27 hbox hb; have n0_ := Aside0.mk (below_step (by repeat (first | (with_reducible first | exact HB.out | apply below_alloc | apply pw_below_drewN | apply below_drew1) | exact HB.out)) hb); have n1_ := Aside0.mk (hbox); have n2_ := Aside0.mk ((by rw [hg]; exact (below_size (by repeat (first | (with_reducible first | exact HB.out | apply below_alloc | apply pw_below_drewN | apply below_drew1) | exact HB.out))) : w.heap.size ≤ gb147)); have n3_ := Aside0.mk ((by rw [hg]; exact (below_size (by repeat (first | (with_reducible first | exact HB.out | apply below_alloc | apply pw_below_drewN | apply below_drew1) | exact HB.out))) : w.heap.size ≤ gb147)); clear HB; have HB := n0_; have BK147 := n1_; have GW147 := n2_; have GE147 := n3_; clear n0_ n1_ n2_ n3_; clear hb hbox hg) | ((with_reducible refine gate_dst (N := 3) rfl ?_); refine box_event ?hg (N := 3) ?hd (cs := #[.int .i64 a1_0, .int .i64 a1_1, .int .i64 a1_2, .bool a1_3]) (t := 71) ?hr ?_; (case hd => rfl); (case hg => rfl); (case hr => first | (go_simp; done) | (go_simp; rfl)); intro gb148 hg w28 hbox hb; have n0_ := Aside0.mk (blk_below (g := gb147) (o := .cells #[.int .i64 a0_0, .int .i64 a0_1, .int .i64 a0_2, .bool a0_3] 71 (0, 0)) (by (with_reducible repeat (first | refine blk_drewN ?_ _ | refine blk_drew ?_ | refine blk_alloc ?_ _)); exact BK147.out) hb); have n1_ := Aside0.mk (below_step (by repeat (first | (with_reducible first | exact HB.out | apply below_alloc | apply pw_below_drewN | apply below_drew1 | refine below_set ?_ GE147.out) | exact HB.out)) hb); have n2_ := Aside0.mk (hbox); have n3_ := Aside0.mk ((by rw [hg]; exact (below_size (by repeat (first | (with_reducible first | exact HB.out | apply below_alloc | apply pw_below_drewN | apply below_drew1 | refine below_set ?_ GE147.out) | exact HB.out))) : w.heap.size ≤ gb148)); have n4_ := Aside0.mk ((by rw [hg]; exact (below_size (by repeat (first | (with_reducible first | exact HB.out | apply below_alloc | apply pw_below_drewN | apply below_drew1 | refine below_set ?_ GE147.out) | exact HB.out))) : w.heap.size ≤ gb148)); have n5_ := Aside0.mk ((by rw [hg]; exact Nat.ne_of_lt (blk_lt (g := gb147) (o := .cells #[.int .i64 a0_0, .int .i64 a0_1, .int .i64 a0_2, .bool a0_3] 71 (0, 0)) (by (with_reducible repeat (first | refine blk_drewN ?_ _ | refine blk_drew ?_ | refine blk_alloc ?_ _)); exact BK147.out)) : gb147 ≠ gb148)); have n6_ := Aside0.mk ((by rw [hg]; exact Nat.ne_of_gt (blk_lt (g := gb147) (o := .cells #[.int .i64 a0_0, .int .i64 a0_1, .int .i64 a0_2, .bool a0_3] 71 (0, 0)) (by (with_reducible repeat (first | refine blk_drewN ?_ _ | refine blk_drew ?_ | refine blk_alloc ?_ _)); exact BK147.out)) : gb148 ≠ gb147)); clear BK147; clear HB; have BK147 := n0_; have HB := n1_; have BK148 := n2_; have GW148 := n3_; have GE148 := n4_; have NB147_148 := n5_; have NB148_147 := n6_; clear n0_ n1_ n2_ n3_ n4_ n5_ n6_; clear hb hbox hg; have hnb29 := NB147_148.out; have hnc29 := NB148_147.out; have hcz30_0 : w28.cell? ⟨gb147, 0, none⟩ = some (.int .i64 a0_0) := (blk_cell BK147.out 0).trans rfl; have hcz30_1 : w28.cell? ⟨gb147, 1, none⟩ = some (.int .i64 a0_1) := (blk_cell BK147.out 1).trans rfl; have hcz30_2 : w28.cell? ⟨gb147, 2, none⟩ = some (.int .i64 a0_2) := (blk_cell BK147.out 2).trans rfl; have hcz30_3 : w28.cell? ⟨gb147, 3, none⟩ = some (.bool a0_3) := (blk_cell BK147.out 3).trans rfl; have hfz30_0 := blk_frozen BK147.out 0; have hfz30_1 := blk_frozen BK147.out 1; have hfz30_2 := blk_frozen BK147.out 2; have hfz30_3 := blk_frozen BK147.out 3; have hcz31_0 : w28.cell? ⟨gb148, 0, none⟩ = some (.int .i64 a1_0) := (blk_cell BK148.out 0).trans rfl; have hcz31_1 : w28.cell? ⟨gb148, 1, none⟩ = some (.int .i64 a1_1) := (blk_cell BK148.out 1).trans rfl; have hcz31_2 : w28.cell? ⟨gb148, 2, none⟩ = some (.int .i64 a1_2) := (blk_cell BK148.out 2).trans rfl; have hcz31_3 : w28.cell? ⟨gb148, 3, none⟩ = some (.bool a1_3) := (blk_cell BK148.out 3).trans rfl; have hfz31_0 := blk_frozen BK148.out 0; have hfz31_1 := blk_frozen BK148.out 1; have hfz31_2 := blk_frozen BK148.out 2; have hfz31_3 := blk_frozen BK148.out 3))
    go_ret
    exact ⟨by first | rfl | (simp [errW_none, errW_some] <;> rfl) | (simp [*, errW_none, errW_some] <;> rfl), by repeat (first | (with_reducible first | exact HB.out | apply below_alloc | apply pw_below_drewN | apply below_drew1 | refine below_set ?_ GE147.out | refine below_set ?_ GE148.out) | exact HB.out)⟩
end Go.Proofs.Ytghfeapncmlihaa.A
