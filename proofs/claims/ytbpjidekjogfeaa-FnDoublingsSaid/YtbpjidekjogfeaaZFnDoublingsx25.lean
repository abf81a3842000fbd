/- Used by the law FnDoublings. -/
import Derived.Test.YtbpjidekjogfeaaZFnDoublingsx16
import Derived.Test.YtbpjidekjogfeaaZFnDoublingsx20
import Derived.Test.YtbpjidekjogfeaaZFnDoublingsx19
import Derived.Test.YtbpjidekjogfeaaZFnDoublingsx24
import Derived.Test.YtbpjidekjogfeaaZFnDoublingsx17
import Derived.Test.YtbpjidekjogfeaaZFnDoublingsx18
import Derived.Test.YtbpjidekjogfeaaZFnDoublingsh
namespace Go.Proofs.Ytbpjidekjogfeaa.A
open Go.RowKit Go.Proofs.YtbpjidekjogfeaaW.PrintWords Go.Proofs.YtbpjidekjogfeaaW.PrintLast Go.Proofs.YtbpjidekjogfeaaW.PrintMore
attribute [local go_sem] max2_int min2_int max_two min_two max_three min_three max_four min_four   
set_option linter.unusedVariables false
set_option linter.unusedSimpArgs false
def impl_filled.l0 : Nat → Int → List (S98) → List (S113) → Int → Int → Int → List Int → List (S98) → Int → List Int → List (S98) → Option (Int × List Int × (List (S98)))
 | 0, _, _, _, _, _, _, _, _, _, _, _ => none
 | k + 1, x1, x2, x13, x14, x15, x723000, x723001, x723002, x732000, x732001, x732002 => if x15 < x14 then (if 0 ≤ x15 then (if x15 < (x13.length : Int) then (if ((rd_T113 x13 x15).f0.f1) = x1 then (if 0 ≤ ((rd_T113 x13 x15).f1) then (if ((rd_T113 x13 x15).f1) ≤ (x723002.length : Int) then (if 0 ≤ ((rd_T113 x13 x15).f2) then (if ((rd_T113 x13 x15).f2) ≤ (x723002.length : Int) then ((impl_Box_126.f k (([(x723002.take (((rd_T113 x13 x15).f1) : Int).toNat), x2, (x723002.drop (((rd_T113 x13 x15).f2) : Int).toNat)] : List (List (S98))))).bind fun t750 => (impl_filled.l0 k x1 x2 x13 x14 (wrap64 (x15 + 1)) x723000 x723001 x723002 x732000 x732001 t750)) else (none)) else (none)) else (none)) else (none)) else (impl_filled.l0 k x1 x2 x13 x14 (wrap64 (x15 + 1)) x723000 x723001 x723002 x732000 x732001 x732002)) else (none)) else (none)) else (some (x732000, x732001, x732002))
def impl_filled.f (k : Nat) (a0_0 : Int) (l0_1 : List Int) (l0_2 : List (S98)) (a1 : Int) (l2 : List (S98)) : Option (Int × List Int × (List (S98))) := (impl_copyColumn.f a0_0 l0_1 l0_2).bind fun bt724 => ((impl_runsOf.f k a0_0 l0_1 l0_2).bind fun t732 => (impl_filled.l0 k a1 l2 t732 (t732.length : Int) 0 a0_0 l0_1 l0_2 bt724.1 bt724.2.1 bt724.2.2))
def impl_filled.T6 : Bool × List (List Nat × List Nat) := (true, [([], []), ([0], [0]), ([], []), ([2], [2]), ([1, 3], [1, 3]), ([], []), ([], []), ([6], [6]), ([], []), ([8], [8]), ([7, 9], [7, 9]), ([4, 5, 10], [4, 5, 10]), ([11], [11]), ([0, 1, 2, 3, 4, 5, 6, 7, 8, 9, 10, 11, 12], []), ([13, 12, 12, 0, 1, 2, 3, 4, 5, 6, 7, 8, 9, 10, 11, 12], [12, 13])])
def impl_filled.B6 : List Nat := [0, 1, 0, 4, 15, 0, 0, 64, 0, 256, 960, 2047, 4095, 8191, 16383]
theorem impl_filled.tab6 : rtab .any (opsOf Try.f118 6) = impl_filled.T6 := by kernel_rfl
theorem impl_filled.bits6 : waitsOk impl_filled.T6.2 impl_filled.B6 = true := by kernel_rfl
set_option maxHeartbeats 8000000 in
set_option maxRecDepth 100000 in
theorem impl_filled.calls (k : Nat) (a0_0 : Int) (A0_1 : Option Addr) (c0_1 : Nat) (l0_1 : List Int) (P0_2_ : Nat → Prop) (A0_2 : Option Addr) (c0_2 : Nat) (l0_2 : List (S98)) (a1 : Int) (P2_ : Nat → Prop) (A2 : Option Addr) (c2 : Nat) (l2 : List (S98)) (r1 : Int) (r2 : List Int) (r3 : List (S98)) (w : World) (hr0_1 : Kd.C (Kd.int .i64) w A0_1 l0_1.length l0_1) (hc0_1 : l0_1.length ≤ c0_1) (hs0_2 : Kd.V k98 98 w w.heap.size (fun k_ => P0_2_ k_) (.slice A0_2 l0_2.length c0_2) l0_2) (hs2 : Kd.V k98 98 w w.heap.size (fun k_ => P2_ k_) (.slice A2 l2.length c2) l2) (h : impl_filled.f k a0_0 l0_1 l0_2 a1 l2 = some (r1, r2, r3)) :
  Calls Try.prog 118 #[.agg #[.int .i64 a0_0, .slice A0_1 l0_1.length c0_1, .slice A0_2 l0_2.length c0_2], .int .i64 a1, .slice A2 l2.length c2] w fun e w' => ∃ v1_ v2_ : Value, e = .returned (.agg #[.int .i64 r1, v1_, v2_]) ∧ Kd.R (Kd.int .i64) 3 w' w.heap.size (fun k_ => (w.heap.size ≤ k_)) v1_ r2 ∧ Kd.R k98 98 w' w.heap.size (fun k_ => (w.heap.size ≤ k_)) v2_ r3 ∧ Below w.heap.size w w' := by
 have hu41 := Try.underlying41
 have hu113 := Try.underlying113
 have HR0_1 := Aside0.mk hr0_1
 have HC0_1 := Aside0.mk hc0_1
 clear hr0_1 hc0_1
 have HO0_2 := Aside0.mk (show Kd.V k98 98 w w.heap.size (fun k_ => ((P0_2_ k_ ∨ P2_ k_) ∨ w.heap.size ≤ k_)) (.slice A0_2 l0_2.length c0_2) l0_2 from Kd.V_mono hs0_2 (fun k_ hk => .inl (.inl hk)))
 have HO2 := Aside0.mk (show Kd.V k98 98 w w.heap.size (fun k_ => ((P0_2_ k_ ∨ P2_ k_) ∨ w.heap.size ≤ k_)) (.slice A2 l2.length c2) l2 from Kd.V_mono hs2 (fun k_ hk => .inl (.inr hk)))
 have HB := Aside0.mk (Below.refl w.heap.size w)
 have H : ((impl_copyColumn.f a0_0 l0_1 l0_2).bind fun bt724 => ((impl_runsOf.f k a0_0 l0_1 l0_2).bind fun t732 => (impl_filled.l0 k a1 l2 t732 (t732.length : Int) 0 a0_0 l0_1 l0_2 bt724.1 bt724.2.1 bt724.2.2))) = some (r1, r2, r3) := h
 clear h
 replace H := Option.bind_eq_some_iff.mp H
 obtain ⟨⟨t724, t725, t728⟩, A40, H⟩ := H
 try dsimp only at H
 have A4 := Aside0.mk A40
 clear A40
 replace H := Option.bind_eq_some_iff.mp H
 obtain ⟨t732, A50, H⟩ := H
 try dsimp only at H
 have A5 := Aside0.mk A50
 clear A50
 have H' := Aside0.mk H
 clear H
 go_enter Try.func118, Try.ntmps118
 go_wp2_with (first | ((with_reducible refine gate_dst (N := 3) rfl ?_); refine bx (cs := #[.int .i64 a0_0, .slice A0_1 l0_1.length c0_1, .slice A0_2 l0_2.length c0_2]) (t := 41) fun gb722 hg w6 hbox hb => ?_; replace HO0_2 := Aside0.mk (Kd.V_below (Kd.V_elderB (by (with_reducible repeat (first | apply Kd.V_alloc | apply Kd.V_drewN | apply Kd.V_drew)); exact HO0_2.out) gb722 (Nat.le_of_eq hg.symm)) hb); replace HO2 := Aside0.mk (Kd.V_below (Kd.V_elderB (by (with_reducible repeat (first | apply Kd.V_alloc | apply Kd.V_drewN | apply Kd.V_drew)); exact HO2.out) gb722 (Nat.le_of_eq hg.symm)) hb); have BK722 := Aside0.mk (hbox); have GW722 := Aside0.mk (gs HB.out hg); have GE722 := Aside0.mk (gs HB.out hg); replace HB := Aside0.mk (below_step (bl HB.out) hb); clear hb hbox hg) | ((with_reducible refine gate_dst (N := 6) rfl ?_); refine bx (cs := #[.int .i64 0, .slice none 0 0, .slice none 0 0]) (t := 41) fun gb723 hg w7 hbox hb => ?_; replace HO0_2 := Aside0.mk (Kd.V_below (Kd.V_elderB (by (with_reducible repeat (first | apply Kd.V_alloc | apply Kd.V_drewN | apply Kd.V_drew)); exact HO0_2.out) gb723 (Nat.le_of_eq hg.symm)) hb); replace HO2 := Aside0.mk (Kd.V_below (Kd.V_elderB (by (with_reducible repeat (first | apply Kd.V_alloc | apply Kd.V_drewN | apply Kd.V_drew)); exact HO2.out) gb723 (Nat.le_of_eq hg.symm)) hb); have BK723 := Aside0.mk (hbox); have GW723 := Aside0.mk (gs HB.out hg); have GE723 := Aside0.mk (gs HB.out hg); replace HB := Aside0.mk (below_step (bl HB.out) hb); have NB722_723 := Aside0.mk ((nl BK722.out hg)); have NB723_722 := Aside0.mk ((ng BK722.out hg)); replace BK722 := Aside0.mk (bb BK722.out hb); clear hb hbox hg; have hnb8 := NB722_723.out; have hnc8 := NB723_722.out; obtain ⟨hcz9_0, hcz9_1, hcz9_2, hfz9_0, hfz9_1, hfz9_2⟩ := cz3 BK722.out) | ((with_reducible refine gate_callee (f := 81) rfl ?_); refine goesL_ (some 11) rfl rfl Try.func81 (by kernel_rfl) rfl #[.agg #[.int .i64 a0_0, .slice A0_1 l0_1.length c0_1, .slice A0_2 l0_2.length c0_2]] rfl mapd ?_; (with_reducible refine (impl_copyColumn.calls a0_0 _ _ l0_1 _ _ l0_2 t724 t725 t728 _ ?side1 ?side2 ?side3 ?side4 A4.out).mono ?_); (case side1 => exact cb (Kd.C_below HR0_1.out HB.out)); (case side2 => exact HC0_1.out); (case side3 => exact cb ((Kd.V_reads' HO0_2.out).2.2)); (case side4 => exact (Kd.V_reads' HO0_2.out).2.1); rintro e w10 ⟨v726, v729, rfl, ho0, ho1, hb⟩; refine ⟨_, rfl, ?_⟩; replace HO0_2 := Aside0.mk (Kd.V_mono (Kd.V_told (Kd.V_told (Kd.V_old (by (with_reducible repeat (first | apply Kd.V_alloc | apply Kd.V_drewN | apply Kd.V_drew)); exact HO0_2.out) hb) (Kd.R_base ho0)) (Kd.R_base ho1)) (fun _ h_ => h_.1)); replace HO2 := Aside0.mk (Kd.V_mono (Kd.V_told (Kd.V_told (Kd.V_old (by (with_reducible repeat (first | apply Kd.V_alloc | apply Kd.V_drewN | apply Kd.V_drew)); exact HO2.out) hb) (Kd.R_base ho0)) (Kd.R_base ho1)) (fun _ h_ => h_.1)); have HO727 := Aside0.mk (Kd.R_lower (Kd.R_newM (M := fun k_ => (w.heap.size ≤ k_)) ho0 (below_size (bl HB.out)) (fun k_ h_ => h_)) (below_size (bl HB.out))); have HO730 := Aside0.mk (Kd.R_lower (Kd.R_newM (M := fun k_ => (w.heap.size ≤ k_)) ho1 (below_size (bl HB.out)) (fun k_ h_ => h_)) (below_size (bl HB.out))); replace BK722 := Aside0.mk (bb BK722.out hb); replace BK723 := Aside0.mk (bb BK723.out hb); replace HB := Aside0.mk (below_step (bl HB.out) hb); (try clear hb); (try clear hb2); (try clear hk); (try clear hi); (try clear ho0); (try clear ho1)) | ((with_reducible refine gate_dst (N := 7) rfl ?_); refine bx (cs := #[.int .i64 0, .slice none 0 0, .slice none 0 0]) (t := 41) fun gb731 hg w11 hbox hb => ?_; replace HO0_2 := Aside0.mk (Kd.V_below (Kd.V_elderB (by (with_reducible repeat (first | apply Kd.V_alloc | apply Kd.V_drewN | apply Kd.V_drew)); exact HO0_2.out) gb731 (Nat.le_of_eq hg.symm)) hb); replace HO2 := Aside0.mk (Kd.V_below (Kd.V_elderB (by (with_reducible repeat (first | apply Kd.V_alloc | apply Kd.V_drewN | apply Kd.V_drew)); exact HO2.out) gb731 (Nat.le_of_eq hg.symm)) hb); replace HO727 := Aside0.mk (Kd.R_below (rk HO727.out) hb); replace HO730 := Aside0.mk (Kd.R_below (rk HO730.out) hb); have BK731 := Aside0.mk (hbox); have GW731 := Aside0.mk (gs HB.out hg); have GE731 := Aside0.mk (gs HB.out hg); replace HB := Aside0.mk (below_step (bl HB.out) hb); have NB722_731 := Aside0.mk ((nl BK722.out hg)); have NB731_722 := Aside0.mk ((ng BK722.out hg)); replace BK722 := Aside0.mk (bb BK722.out hb); have NB723_731 := Aside0.mk ((nl BK723.out hg)); have NB731_723 := Aside0.mk ((ng BK723.out hg)); replace BK723 := Aside0.mk (bb BK723.out hb); clear hb hbox hg; have hnb12 := NB731_722.out; have hnc12 := NB722_731.out; have hnb13 := NB731_723.out; have hnc13 := NB723_731.out; obtain ⟨hcz14_0, hcz14_1, hcz14_2, hfz14_0, hfz14_1, hfz14_2⟩ := cz3 BK731.out; obtain ⟨Ao15, co15, eo15⟩ := Kd.R_slice HO727.out; subst eo15; obtain ⟨Ao16, co16, eo16⟩ := Kd.R_slice HO730.out; subst eo16; obtain ⟨hcz17_0, hcz17_1, hcz17_2, hfz17_0, hfz17_1, hfz17_2⟩ := cz3 BK722.out) | ((with_reducible refine gate_callee (f := 109) rfl ?_); refine goesL_ (some 13) rfl rfl Try.func109 (by kernel_rfl) rfl #[.agg #[.int .i64 a0_0, .slice A0_1 l0_1.length c0_1, .slice A0_2 l0_2.length c0_2]] rfl mapd ?_; (with_reducible refine (impl_runsOf.calls k a0_0 _ _ l0_1 _ _ l0_2 t732 _ ?side1 ?side2 ?side3 ?side4 A5.out).mono ?_); (case side1 => exact Kd.C_below HR0_1.out (bl HB.out)); (case side2 => exact HC0_1.out); (case side3 => refine (Kd.V_reads' (e := 98) (base := w.heap.size) (ok := fun k_ => (((((((P0_2_ k_ ∨ P2_ k_) ∨ w.heap.size ≤ k_) ∧ k_ ≠ gb722) ∧ k_ ≠ gb723) ∧ some k_ ≠ (.slice Ao15 t725.length co15 : Value).ownBlock) ∧ some k_ ≠ (.slice Ao16 t728.length co16 : Value).ownBlock) ∧ k_ ≠ gb731)) (n := l0_2.length) (c := c0_2) ?_).2.2; exact (by (with_reducible repeat (first | apply Kd.V_alloc | apply Kd.V_drewN | apply Kd.V_drew)); exact (Kd.V_mono (Kd.V_far (p := ⟨gb731, 2, none⟩) (Kd.V_far (p := ⟨gb731, 1, none⟩) (Kd.V_far (p := ⟨gb731, 0, none⟩) (Kd.V_mono HO0_2.out (fun k_ hk => (⟨hk, hk.2⟩ : _ ∧ k_ ≠ gb731))) (fun _ hk => hk.2) (.int .i64 t724)) (fun _ hk => hk.2) (.slice Ao15 t725.length co15)) (fun _ hk => hk.2) (.slice Ao16 t728.length co16)) (fun _ h_ => h_.1)))); (case side4 => exact (Kd.V_reads' HO0_2.out).2.1); rintro e w18 ⟨v733, rfl, ho0, hb⟩; refine ⟨_, rfl, ?_⟩; replace HO0_2 := Aside0.mk (Kd.V_elder' (by (with_reducible repeat (first | apply Kd.V_alloc | apply Kd.V_drewN | apply Kd.V_drew)); exact (Kd.V_mono (Kd.V_far (p := ⟨gb731, 2, none⟩) (Kd.V_far (p := ⟨gb731, 1, none⟩) (Kd.V_far (p := ⟨gb731, 0, none⟩) (Kd.V_mono HO0_2.out (fun k_ hk => (⟨hk, hk.2⟩ : _ ∧ k_ ≠ gb731))) (fun _ hk => hk.2) (.int .i64 t724)) (fun _ hk => hk.2) (.slice Ao15 t725.length co15)) (fun _ hk => hk.2) (.slice Ao16 t728.length co16)) (fun _ h_ => h_.1))) (Kd.R_base ho0) hb); replace HO2 := Aside0.mk (Kd.V_elder' (by (with_reducible repeat (first | apply Kd.V_alloc | apply Kd.V_drewN | apply Kd.V_drew)); exact (Kd.V_mono (Kd.V_far (p := ⟨gb731, 2, none⟩) (Kd.V_far (p := ⟨gb731, 1, none⟩) (Kd.V_far (p := ⟨gb731, 0, none⟩) (Kd.V_mono HO2.out (fun k_ hk => (⟨hk, hk.2⟩ : _ ∧ k_ ≠ gb731))) (fun _ hk => hk.2) (.int .i64 t724)) (fun _ hk => hk.2) (.slice Ao15 t725.length co15)) (fun _ hk => hk.2) (.slice Ao16 t728.length co16)) (fun _ h_ => h_.1))) (Kd.R_base ho0) hb); replace HO727 := Aside0.mk (Kd.R_below (by refine rk ?_; exact (Kd.R_mono (Kd.R_far (p := ⟨gb731, 2, none⟩) (Kd.R_far (p := ⟨gb731, 1, none⟩) (Kd.R_far (p := ⟨gb731, 0, none⟩) (Kd.R_types HO727.out BK731.out (by decide)) (fun _ hk => hk.2) (.int .i64 t724)) (fun _ hk => hk.2) (.slice Ao15 t725.length co15)) (fun _ hk => hk.2) (.slice Ao16 t728.length co16)) (fun _ h_ => h_.1))) hb); replace HO730 := Aside0.mk (Kd.R_below (by refine rk ?_; exact (Kd.R_mono (Kd.R_far (p := ⟨gb731, 2, none⟩) (Kd.R_far (p := ⟨gb731, 1, none⟩) (Kd.R_far (p := ⟨gb731, 0, none⟩) (Kd.R_types HO730.out BK731.out (by decide)) (fun _ hk => hk.2) (.int .i64 t724)) (fun _ hk => hk.2) (.slice Ao15 t725.length co15)) (fun _ hk => hk.2) (.slice Ao16 t728.length co16)) (fun _ h_ => h_.1))) hb); have HO734 := Aside0.mk (Kd.R_lower (Kd.R_newM (M := fun k_ => (w.heap.size ≤ k_)) ho0 (below_size (bl HB.out)) (fun k_ h_ => h_)) (below_size (bl HB.out))); replace BK722 := Aside0.mk (blk_below (g := gb722) (o := .cells #[.int .i64 a0_0, .slice A0_1 l0_1.length c0_1, .slice A0_2 l0_2.length c0_2] 41 (0, 0)) (bf BK722.out) hb); replace BK723 := Aside0.mk (blk_below (g := gb723) (o := .cells #[.int .i64 0, .slice none 0 0, .slice none 0 0] 41 (0, 0)) (bf BK723.out) hb); replace BK731 := Aside0.mk (blk_below (g := gb731) (o := .cells #[.int .i64 t724, .slice Ao15 t725.length co15, .slice Ao16 t728.length co16] 41 (0, 0)) (by refine bk ?_; refine blk_put (cs := #[.int .i64 t724, .slice Ao15 t725.length co15, .slice none 0 0]) ?_ 2 _ rfl; refine bk ?_; refine blk_put (cs := #[.int .i64 t724, .slice none 0 0, .slice none 0 0]) ?_ 1 _ rfl; refine bk ?_; refine blk_put (cs := #[.int .i64 0, .slice none 0 0, .slice none 0 0]) ?_ 0 _ rfl; refine bk ?_; exact BK731.out) hb); replace HB := Aside0.mk (below_step (bl HB.out) hb); (try clear hb); (try clear hb2); (try clear hk); (try clear hi); (try clear ho0); obtain ⟨Ao19, co19, eo19⟩ := Kd.R_slice HO734.out; subst eo19))
 go_loopg [15] k (fun kq v15 w' => ∃ (x15_1 : Int) (x732002_1 : List (S98)) (u732002 : Value), v15 = .int .i64 x15_1 ∧ Aside0 (impl_filled.l0 kq a1 l2 t732 (t732.length : Int) x15_1 a0_0 l0_1 l0_2 t724 t725 x732002_1 = some (r1, r2, r3)) ∧ Aside0 (kq ≤ k) ∧ Aside0 (Kd.V k98 98 w' w.heap.size (fun k_ => ((P0_2_ k_ ∨ P2_ k_) ∨ w.heap.size ≤ k_) ∧ some k_ ≠ ((.slice Ao19 t732.length co19) : Value).ownBlock ∧ some k_ ≠ ((.slice Ao15 t725.length co15) : Value).ownBlock ∧ some k_ ≠ (u732002 : Value).ownBlock ∧ k_ ≠ gb722 ∧ k_ ≠ gb723 ∧ k_ ≠ gb731) (.slice A2 l2.length c2) l2) ∧ Aside0 (Kd.R k113 113 w' w.heap.size (fun k_ => (w.heap.size ≤ k_)) (.slice Ao19 t732.length co19) t732) ∧ Aside0 (Kd.V k98 98 w' w.heap.size (fun k_ => ((P0_2_ k_ ∨ P2_ k_) ∨ w.heap.size ≤ k_) ∧ some k_ ≠ ((.slice Ao19 t732.length co19) : Value).ownBlock ∧ some k_ ≠ ((.slice Ao15 t725.length co15) : Value).ownBlock ∧ some k_ ≠ (u732002 : Value).ownBlock ∧ k_ ≠ gb722 ∧ k_ ≠ gb723 ∧ k_ ≠ gb731) (.slice A0_2 l0_2.length c0_2) l0_2) ∧ Aside0 (Kd.R (Kd.int .i64) 3 w' w.heap.size (fun k_ => (w.heap.size ≤ k_)) (.slice Ao15 t725.length co15) t725) ∧ Aside0 (Kd.R k98 98 w' w.heap.size (fun k_ => (w.heap.size ≤ k_)) u732002 x732002_1) ∧ Aside0 (w'.heap[gb722]? = some (.cells #[.int .i64 a0_0, (.slice A0_1 l0_1.length c0_1), (.slice A0_2 l0_2.length c0_2)] 41 (0, 0))) ∧ Aside0 (w'.heap[gb723]? = some (.cells #[.int .i64 0, (.slice none 0 0), (.slice none 0 0)] 41 (0, 0))) ∧ Aside0 (w'.heap[gb731]? = some (.cells #[.int .i64 t724, (.slice Ao15 t725.length co15), u732002] 41 (0, 0))) ∧ Aside0 (Below w.heap.size w w'))
 case atStart => exact ⟨(0), (t728), (.slice Ao16 t728.length co16), (by first | rfl | (simp; done) | (simp [*]; done)), H', ⟨Nat.le_refl _⟩, ⟨by (with_reducible repeat (first | apply Kd.V_alloc | apply Kd.V_drewN | apply Kd.V_drew)); exact Kd.V_mono HO2.out (fun _ hk => ⟨hk.1.1.1.1.1.1, ⟨hk.2, ⟨hk.1.1.1.2, ⟨hk.1.1.2, ⟨hk.1.1.1.1.1.2, ⟨hk.1.1.1.1.2, hk.1.2⟩⟩⟩⟩⟩⟩)⟩, ⟨by refine rk ?_; exact Kd.R_mono HO734.out (fun _ hk => hk.1)⟩, ⟨by (with_reducible repeat (first | apply Kd.V_alloc | apply Kd.V_drewN | apply Kd.V_drew)); exact Kd.V_mono HO0_2.out (fun _ hk => ⟨hk.1.1.1.1.1.1, ⟨hk.2, ⟨hk.1.1.1.2, ⟨hk.1.1.2, ⟨hk.1.1.1.1.1.2, ⟨hk.1.1.1.1.2, hk.1.2⟩⟩⟩⟩⟩⟩)⟩, ⟨by refine rk ?_; exact Kd.R_mono HO727.out (fun _ hk => hk.1)⟩, ⟨by refine rk ?_; exact Kd.R_mono HO730.out (fun _ hk => hk.1)⟩, ⟨by refine bk ?_; exact BK722.out⟩, ⟨by refine bk ?_; exact BK723.out⟩, ⟨by refine bk ?_; exact BK731.out⟩, ⟨bl HB.out⟩⟩
 case round =>
  clear H'
  try clear c1
  try clear c2
  try clear p2
  try clear c8
  try clear c10
  try clear c11
  try clear c12
  try clear c13
  try clear hcz14_0
  try clear hcz14_1
  try clear hcz14_2
  try clear hcz17_0
  try clear hcz17_1
  try clear hcz17_2
  try clear hcz9_0
  try clear hcz9_1
  try clear hcz9_2
  try clear hfz14_0
  try clear hfz14_1
  try clear hfz14_2
  try clear hfz17_0
  try clear hfz17_1
  try clear hfz17_2
  try clear hfz9_0
  try clear hfz9_1
  try clear hfz9_2
  obtain ⟨x15_1, x732002_1, u732002, rfl, HA, HK1, HO_2, HO_13, HO_723002, HO_732001, HO_732002, BK722, BK723, BK731, HB⟩ := hrel
  cases gk with
  | zero => exact absurd HA.out (by simp [impl_filled.l0])
  | succ k1 =>
   have H := HA.out
   clear HA
   simp only [impl_filled.l0] at H
   by_cases c20 : x15_1 < (t732.length : Int)
   ·rw [if_pos c20] at H
    have c20b0 : decide (x15_1 < (t732.length : Int)) = true := decide_eq_true c20
    clear c20
    by_cases c21 : 0 ≤ x15_1
    ·rw [if_pos c21] at H
     have c21b0 : decide (0 ≤ x15_1) = true := decide_eq_true c21
     clear c21
     by_cases c22 : x15_1 < (t732.length : Int)
     ·rw [if_pos c22] at H
      have c22b0 : decide (x15_1 < (t732.length : Int)) = true := decide_eq_true c22
      clear c22
      by_cases c23 : ((rd_T113 t732 x15_1).f0.f1) = a1
      ·rw [if_pos c23] at H
       have c23b0 : (((rd_T113 t732 x15_1).f0.f1) == a1) = true := beq_iff_eq.mpr c23
       have c23b1 : (((rd_T113 t732 x15_1).f0.f1) != a1) = false := bne_eq_false_iff_eq.mpr c23
       clear c23
       by_cases c24 : 0 ≤ ((rd_T113 t732 x15_1).f1)
       ·rw [if_pos c24] at H
        have c24b0 := eq_true c24
        have c24b1 : decide (0 ≤ ((rd_T113 t732 x15_1).f1)) = true := decide_eq_true c24
        clear c24
        by_cases c25 : ((rd_T113 t732 x15_1).f1) ≤ (l0_2.length : Int)
        ·rw [if_pos c25] at H
         have c25b0 := eq_true c25
         have c25b1 : decide (((rd_T113 t732 x15_1).f1) ≤ (l0_2.length : Int)) = true := decide_eq_true c25
         clear c25
         obtain ⟨y737, hy737⟩ : ∃ y_ : List (S98), y_ = (l0_2.take (((rd_T113 t732 x15_1).f1) : Int).toNat) := ⟨_, rfl⟩
         replace H : (if 0 ≤ ((rd_T113 t732 x15_1).f2) then (if ((rd_T113 t732 x15_1).f2) ≤ (l0_2.length : Int) then ((impl_Box_126.f k1 (([y737, l2, (l0_2.drop (((rd_T113 t732 x15_1).f2) : Int).toNat)] : List (List (S98))))).bind fun t750 => (impl_filled.l0 k1 a1 l2 t732 (t732.length : Int) (wrap64 (x15_1 + 1)) a0_0 l0_1 l0_2 t724 t725 t750)) else (none)) else (none)) = some (r1, r2, r3) := by first | (rw [hy737]; with_reducible exact H) | (have H2_ := (Option.bind_some _ _).symm.trans H; rw [hy737]; with_reducible exact H2_) | (have H2_ := (Option.bind_some _ _).symm.trans H; with_reducible exact H2_) | with_reducible exact H | (rw [hy737]; exact H) | exact H
         have Ny737 := Aside0.mk hy737
         clear hy737
         by_cases c26 : 0 ≤ ((rd_T113 t732 x15_1).f2)
         ·rw [if_pos c26] at H
          have c26b0 := eq_true c26
          have c26b1 : decide (0 ≤ ((rd_T113 t732 x15_1).f2)) = true := decide_eq_true c26
          clear c26
          by_cases c27 : ((rd_T113 t732 x15_1).f2) ≤ (l0_2.length : Int)
          ·rw [if_pos c27] at H
           have c27b0 := eq_true c27
           have c27b1 : decide (((rd_T113 t732 x15_1).f2) ≤ (l0_2.length : Int)) = true := decide_eq_true c27
           clear c27
           obtain ⟨y742, hy742⟩ : ∃ y_ : List (S98), y_ = (l0_2.drop (((rd_T113 t732 x15_1).f2) : Int).toNat) := ⟨_, rfl⟩
           replace H : ((impl_Box_126.f k1 (([y737, l2, y742] : List (List (S98))))).bind fun t750 => (impl_filled.l0 k1 a1 l2 t732 (t732.length : Int) (wrap64 (x15_1 + 1)) a0_0 l0_1 l0_2 t724 t725 t750)) = some (r1, r2, r3) := by first | (rw [hy742]; with_reducible exact H) | (have H2_ := (Option.bind_some _ _).symm.trans H; rw [hy742]; with_reducible exact H2_) | (have H2_ := (Option.bind_some _ _).symm.trans H; with_reducible exact H2_) | with_reducible exact H | (rw [hy742]; exact H) | exact H
           have Ny742 := Aside0.mk hy742
           clear hy742
           obtain ⟨y747, hy747⟩ : ∃ y_ : List (List (S98)), y_ = (([y737, l2, y742] : List (List (S98)))) := ⟨_, rfl⟩
           replace H : ((impl_Box_126.f k1 y747).bind fun t750 => (impl_filled.l0 k1 a1 l2 t732 (t732.length : Int) (wrap64 (x15_1 + 1)) a0_0 l0_1 l0_2 t724 t725 t750)) = some (r1, r2, r3) := by first | (rw [hy747]; with_reducible exact H) | (have H2_ := (Option.bind_some _ _).symm.trans H; rw [hy747]; with_reducible exact H2_) | (have H2_ := (Option.bind_some _ _).symm.trans H; with_reducible exact H2_) | with_reducible exact H | (rw [hy747]; exact H) | exact H
           have Ny747 := Aside0.mk hy747
           clear hy747
           replace H := Option.bind_eq_some_iff.mp H
           obtain ⟨t750, A280, H⟩ := H
           try dsimp only at H
           have A28 := Aside0.mk A280
           clear A280
           have H' := Aside0.mk H
           clear H
           have p735 : 0 ≤ (x15_1 : Int) := of_decide_eq_true asm
           have q735 : x15_1 < (t732.length : Int) := of_decide_eq_true asm
           obtain ⟨ad735, e735, hx735_0, hx735_1, hx735_2, hx735_3, hx735_4⟩ := at_T113 (Kd.R_reads' HO_13.out).2.2 x15_1 p735 q735
           cases e735
           replace p735 := eq_true p735
           replace q735 := eq_true q735
           try go_wp2_with (first | ((with_reducible refine gate_dst (N := 9) rfl ?_); refine bx (cs := #[.int .i64 0, .int .i64 0, .int .i64 0, .int .i64 0, .int .i64 0]) (t := 113) fun gb736 hg w29 hbox hb => ?_; replace HO_2 := Aside0.mk (Kd.V_below (Kd.V_elderB (by (with_reducible repeat (first | apply Kd.V_alloc | apply Kd.V_drewN | apply Kd.V_drew)); exact HO_2.out) gb736 (Nat.le_of_eq hg.symm)) hb); replace HO_13 := Aside0.mk (Kd.R_below (Kd.R_elderB (rk HO_13.out) gb736 (Nat.le_of_eq hg.symm)) hb); replace HO_723002 := Aside0.mk (Kd.V_below (Kd.V_elderB (by (with_reducible repeat (first | apply Kd.V_alloc | apply Kd.V_drewN | apply Kd.V_drew)); exact HO_723002.out) gb736 (Nat.le_of_eq hg.symm)) hb); replace HO_732001 := Aside0.mk (Kd.R_below (rk HO_732001.out) hb); replace HO_732002 := Aside0.mk (Kd.R_below (rk HO_732002.out) hb); have BK736 := Aside0.mk (hbox); have GW736 := Aside0.mk (gs HB.out hg); have GE736 := Aside0.mk (gs HB.out hg); replace HB := Aside0.mk (below_step (bl HB.out) hb); have NB722_736 := Aside0.mk ((nl BK722.out hg)); have NB736_722 := Aside0.mk ((ng BK722.out hg)); replace BK722 := Aside0.mk (bb BK722.out hb); have NB723_736 := Aside0.mk ((nl BK723.out hg)); have NB736_723 := Aside0.mk ((ng BK723.out hg)); replace BK723 := Aside0.mk (bb BK723.out hb); have NB731_736 := Aside0.mk ((nl BK731.out hg)); have NB736_731 := Aside0.mk ((ng BK731.out hg)); replace BK731 := Aside0.mk (bb BK731.out hb); clear hb hbox hg; have hnb30 := NB736_722.out; have hnc30 := NB722_736.out; have hnb31 := NB736_723.out; have hnc31 := NB723_736.out; have hnb32 := NB736_731.out; have hnc32 := NB731_736.out; obtain ⟨hcz33_0, hcz33_1, hcz33_2, hcz33_3, hcz33_4, hfz33_0, hfz33_1, hfz33_2, hfz33_3, hfz33_4⟩ := cz5 BK736.out))
           have n0_ : Aside0 (Kd.V k98 98 (((((w29.setCell ⟨gb736, 0, none⟩ (.int .i64 ((rd_T113 t732 x15_1).f0.f0))).setCell ⟨gb736, 1, none⟩ (.int .i64 ((rd_T113 t732 x15_1).f0.f1))).setCell ⟨gb736, 2, none⟩ (.int .i64 ((rd_T113 t732 x15_1).f0.f2))).setCell ⟨gb736, 3, none⟩ (.int .i64 ((rd_T113 t732 x15_1).f1))).setCell ⟨gb736, 4, none⟩ (.int .i64 ((rd_T113 t732 x15_1).f2))) w.heap.size (fun k_ => ((P0_2_ k_ ∨ P2_ k_) ∨ w.heap.size ≤ k_) ∧ some k_ ≠ (.slice (some ad735) t732.length co19 : Value).ownBlock ∧ some k_ ≠ (.slice Ao15 t725.length co15 : Value).ownBlock ∧ some k_ ≠ (u732002 : Value).ownBlock ∧ k_ ≠ gb722 ∧ k_ ≠ gb723 ∧ k_ ≠ gb731 ∧ k_ ≠ gb736) (.slice A2 l2.length c2) l2) := ⟨by (with_reducible repeat (first | apply Kd.V_alloc | apply Kd.V_drewN | apply Kd.V_drew)); exact Kd.V_mono (Kd.V_far (p := ⟨gb736, 4, none⟩) (Kd.V_far (p := ⟨gb736, 3, none⟩) (Kd.V_far (p := ⟨gb736, 2, none⟩) (Kd.V_far (p := ⟨gb736, 1, none⟩) (Kd.V_far (p := ⟨gb736, 0, none⟩) (Kd.V_mono HO_2.out (fun k_ hk => (⟨hk, hk.2⟩ : _ ∧ k_ ≠ gb736))) (fun _ hk => hk.2) (.int .i64 ((rd_T113 t732 x15_1).f0.f0))) (fun _ hk => hk.2) (.int .i64 ((rd_T113 t732 x15_1).f0.f1))) (fun _ hk => hk.2) (.int .i64 ((rd_T113 t732 x15_1).f0.f2))) (fun _ hk => hk.2) (.int .i64 ((rd_T113 t732 x15_1).f1))) (fun _ hk => hk.2) (.int .i64 ((rd_T113 t732 x15_1).f2))) (fun _ hk => ⟨hk.1.1.1, ⟨hk.1.1.2.1, ⟨hk.1.1.2.2.1, ⟨hk.1.1.2.2.2.1, ⟨hk.1.1.2.2.2.2.1, ⟨hk.1.1.2.2.2.2.2.1, ⟨hk.1.1.2.2.2.2.2.2, hk.1.2⟩⟩⟩⟩⟩⟩⟩)⟩
           have n1_ : Aside0 (Kd.R k113 113 (((((w29.setCell ⟨gb736, 0, none⟩ (.int .i64 ((rd_T113 t732 x15_1).f0.f0))).setCell ⟨gb736, 1, none⟩ (.int .i64 ((rd_T113 t732 x15_1).f0.f1))).setCell ⟨gb736, 2, none⟩ (.int .i64 ((rd_T113 t732 x15_1).f0.f2))).setCell ⟨gb736, 3, none⟩ (.int .i64 ((rd_T113 t732 x15_1).f1))).setCell ⟨gb736, 4, none⟩ (.int .i64 ((rd_T113 t732 x15_1).f2))) w.heap.size (fun k_ => (w.heap.size ≤ k_) ∧ k_ ≠ gb736) (.slice (some ad735) t732.length co19) t732) := ⟨by refine rk ?_; exact Kd.R_mono (Kd.R_far (p := ⟨gb736, 4, none⟩) (Kd.R_far (p := ⟨gb736, 3, none⟩) (Kd.R_far (p := ⟨gb736, 2, none⟩) (Kd.R_far (p := ⟨gb736, 1, none⟩) (Kd.R_far (p := ⟨gb736, 0, none⟩) (Kd.R_mono HO_13.out (fun k_ hk => (⟨hk, hk.2⟩ : _ ∧ k_ ≠ gb736))) (fun _ hk => hk.2) (.int .i64 ((rd_T113 t732 x15_1).f0.f0))) (fun _ hk => hk.2) (.int .i64 ((rd_T113 t732 x15_1).f0.f1))) (fun _ hk => hk.2) (.int .i64 ((rd_T113 t732 x15_1).f0.f2))) (fun _ hk => hk.2) (.int .i64 ((rd_T113 t732 x15_1).f1))) (fun _ hk => hk.2) (.int .i64 ((rd_T113 t732 x15_1).f2))) (fun _ hk => ⟨hk.1.1, hk.1.2⟩)⟩
           have n2_ : Aside0 (Kd.V k98 98 (((((w29.setCell ⟨gb736, 0, none⟩ (.int .i64 ((rd_T113 t732 x15_1).f0.f0))).setCell ⟨gb736, 1, none⟩ (.int .i64 ((rd_T113 t732 x15_1).f0.f1))).setCell ⟨gb736, 2, none⟩ (.int .i64 ((rd_T113 t732 x15_1).f0.f2))).setCell ⟨gb736, 3, none⟩ (.int .i64 ((rd_T113 t732 x15_1).f1))).setCell ⟨gb736, 4, none⟩ (.int .i64 ((rd_T113 t732 x15_1).f2))) w.heap.size (fun k_ => ((P0_2_ k_ ∨ P2_ k_) ∨ w.heap.size ≤ k_) ∧ some k_ ≠ (.slice (some ad735) t732.length co19 : Value).ownBlock ∧ some k_ ≠ (.slice Ao15 t725.length co15 : Value).ownBlock ∧ some k_ ≠ (u732002 : Value).ownBlock ∧ k_ ≠ gb722 ∧ k_ ≠ gb723 ∧ k_ ≠ gb731 ∧ k_ ≠ gb736) (.slice A0_2 l0_2.length c0_2) l0_2) := ⟨by (with_reducible repeat (first | apply Kd.V_alloc | apply Kd.V_drewN | apply Kd.V_drew)); exact Kd.V_mono (Kd.V_far (p := ⟨gb736, 4, none⟩) (Kd.V_far (p := ⟨gb736, 3, none⟩) (Kd.V_far (p := ⟨gb736, 2, none⟩) (Kd.V_far (p := ⟨gb736, 1, none⟩) (Kd.V_far (p := ⟨gb736, 0, none⟩) (Kd.V_mono HO_723002.out (fun k_ hk => (⟨hk, hk.2⟩ : _ ∧ k_ ≠ gb736))) (fun _ hk => hk.2) (.int .i64 ((rd_T113 t732 x15_1).f0.f0))) (fun _ hk => hk.2) (.int .i64 ((rd_T113 t732 x15_1).f0.f1))) (fun _ hk => hk.2) (.int .i64 ((rd_T113 t732 x15_1).f0.f2))) (fun _ hk => hk.2) (.int .i64 ((rd_T113 t732 x15_1).f1))) (fun _ hk => hk.2) (.int .i64 ((rd_T113 t732 x15_1).f2))) (fun _ hk => ⟨hk.1.1.1, ⟨hk.1.1.2.1, ⟨hk.1.1.2.2.1, ⟨hk.1.1.2.2.2.1, ⟨hk.1.1.2.2.2.2.1, ⟨hk.1.1.2.2.2.2.2.1, ⟨hk.1.1.2.2.2.2.2.2, hk.1.2⟩⟩⟩⟩⟩⟩⟩)⟩
           have n3_ : Aside0 (Kd.R (Kd.int .i64) 3 (((((w29.setCell ⟨gb736, 0, none⟩ (.int .i64 ((rd_T113 t732 x15_1).f0.f0))).setCell ⟨gb736, 1, none⟩ (.int .i64 ((rd_T113 t732 x15_1).f0.f1))).setCell ⟨gb736, 2, none⟩ (.int .i64 ((rd_T113 t732 x15_1).f0.f2))).setCell ⟨gb736, 3, none⟩ (.int .i64 ((rd_T113 t732 x15_1).f1))).setCell ⟨gb736, 4, none⟩ (.int .i64 ((rd_T113 t732 x15_1).f2))) w.heap.size (fun k_ => (w.heap.size ≤ k_)) (.slice Ao15 t725.length co15) t725) := ⟨by refine rk ?_; exact Kd.R_mono (Kd.R_far (p := ⟨gb736, 4, none⟩) (Kd.R_far (p := ⟨gb736, 3, none⟩) (Kd.R_far (p := ⟨gb736, 2, none⟩) (Kd.R_far (p := ⟨gb736, 1, none⟩) (Kd.R_far (p := ⟨gb736, 0, none⟩) (Kd.R_types HO_732001.out BK736.out (by decide)) (fun _ hk => hk.2) (.int .i64 ((rd_T113 t732 x15_1).f0.f0))) (fun _ hk => hk.2) (.int .i64 ((rd_T113 t732 x15_1).f0.f1))) (fun _ hk => hk.2) (.int .i64 ((rd_T113 t732 x15_1).f0.f2))) (fun _ hk => hk.2) (.int .i64 ((rd_T113 t732 x15_1).f1))) (fun _ hk => hk.2) (.int .i64 ((rd_T113 t732 x15_1).f2))) (fun _ hk => hk.1)⟩
           have n4_ : Aside0 (Kd.R k98 98 (((((w29.setCell ⟨gb736, 0, none⟩ (.int .i64 ((rd_T113 t732 x15_1).f0.f0))).setCell ⟨gb736, 1, none⟩ (.int .i64 ((rd_T113 t732 x15_1).f0.f1))).setCell ⟨gb736, 2, none⟩ (.int .i64 ((rd_T113 t732 x15_1).f0.f2))).setCell ⟨gb736, 3, none⟩ (.int .i64 ((rd_T113 t732 x15_1).f1))).setCell ⟨gb736, 4, none⟩ (.int .i64 ((rd_T113 t732 x15_1).f2))) w.heap.size (fun k_ => (w.heap.size ≤ k_)) u732002 x732002_1) := ⟨by refine rk ?_; exact Kd.R_mono (Kd.R_far (p := ⟨gb736, 4, none⟩) (Kd.R_far (p := ⟨gb736, 3, none⟩) (Kd.R_far (p := ⟨gb736, 2, none⟩) (Kd.R_far (p := ⟨gb736, 1, none⟩) (Kd.R_far (p := ⟨gb736, 0, none⟩) (Kd.R_types HO_732002.out BK736.out (by decide)) (fun _ hk => hk.2) (.int .i64 ((rd_T113 t732 x15_1).f0.f0))) (fun _ hk => hk.2) (.int .i64 ((rd_T113 t732 x15_1).f0.f1))) (fun _ hk => hk.2) (.int .i64 ((rd_T113 t732 x15_1).f0.f2))) (fun _ hk => hk.2) (.int .i64 ((rd_T113 t732 x15_1).f1))) (fun _ hk => hk.2) (.int .i64 ((rd_T113 t732 x15_1).f2))) (fun _ hk => hk.1)⟩
           have n5_ : Aside0 ((((((w29.setCell ⟨gb736, 0, none⟩ (.int .i64 ((rd_T113 t732 x15_1).f0.f0))).setCell ⟨gb736, 1, none⟩ (.int .i64 ((rd_T113 t732 x15_1).f0.f1))).setCell ⟨gb736, 2, none⟩ (.int .i64 ((rd_T113 t732 x15_1).f0.f2))).setCell ⟨gb736, 3, none⟩ (.int .i64 ((rd_T113 t732 x15_1).f1))).setCell ⟨gb736, 4, none⟩ (.int .i64 ((rd_T113 t732 x15_1).f2))).heap[gb722]? = some (.cells #[.int .i64 a0_0, .slice A0_1 l0_1.length c0_1, .slice A0_2 l0_2.length c0_2] 41 (0, 0))) := ⟨by refine bk ?_; refine blk_far ?_ NB722_736.out _; refine bk ?_; refine blk_far ?_ NB722_736.out _; refine bk ?_; refine blk_far ?_ NB722_736.out _; refine bk ?_; refine blk_far ?_ NB722_736.out _; refine bk ?_; refine blk_far ?_ NB722_736.out _; refine bk ?_; exact BK722.out⟩
           have n6_ : Aside0 ((((((w29.setCell ⟨gb736, 0, none⟩ (.int .i64 ((rd_T113 t732 x15_1).f0.f0))).setCell ⟨gb736, 1, none⟩ (.int .i64 ((rd_T113 t732 x15_1).f0.f1))).setCell ⟨gb736, 2, none⟩ (.int .i64 ((rd_T113 t732 x15_1).f0.f2))).setCell ⟨gb736, 3, none⟩ (.int .i64 ((rd_T113 t732 x15_1).f1))).setCell ⟨gb736, 4, none⟩ (.int .i64 ((rd_T113 t732 x15_1).f2))).heap[gb723]? = some (.cells #[.int .i64 0, .slice none 0 0, .slice none 0 0] 41 (0, 0))) := ⟨by refine bk ?_; refine blk_far ?_ NB723_736.out _; refine bk ?_; refine blk_far ?_ NB723_736.out _; refine bk ?_; refine blk_far ?_ NB723_736.out _; refine bk ?_; refine blk_far ?_ NB723_736.out _; refine bk ?_; refine blk_far ?_ NB723_736.out _; refine bk ?_; exact BK723.out⟩
           have n7_ : Aside0 ((((((w29.setCell ⟨gb736, 0, none⟩ (.int .i64 ((rd_T113 t732 x15_1).f0.f0))).setCell ⟨gb736, 1, none⟩ (.int .i64 ((rd_T113 t732 x15_1).f0.f1))).setCell ⟨gb736, 2, none⟩ (.int .i64 ((rd_T113 t732 x15_1).f0.f2))).setCell ⟨gb736, 3, none⟩ (.int .i64 ((rd_T113 t732 x15_1).f1))).setCell ⟨gb736, 4, none⟩ (.int .i64 ((rd_T113 t732 x15_1).f2))).heap[gb731]? = some (.cells #[.int .i64 t724, .slice Ao15 t725.length co15, u732002] 41 (0, 0))) := ⟨by refine bk ?_; refine blk_far ?_ NB731_736.out _; refine bk ?_; refine blk_far ?_ NB731_736.out _; refine bk ?_; refine blk_far ?_ NB731_736.out _; refine bk ?_; refine blk_far ?_ NB731_736.out _; refine bk ?_; refine blk_far ?_ NB731_736.out _; refine bk ?_; exact BK731.out⟩
           have n8_ : Aside0 ((((((w29.setCell ⟨gb736, 0, none⟩ (.int .i64 ((rd_T113 t732 x15_1).f0.f0))).setCell ⟨gb736, 1, none⟩ (.int .i64 ((rd_T113 t732 x15_1).f0.f1))).setCell ⟨gb736, 2, none⟩ (.int .i64 ((rd_T113 t732 x15_1).f0.f2))).setCell ⟨gb736, 3, none⟩ (.int .i64 ((rd_T113 t732 x15_1).f1))).setCell ⟨gb736, 4, none⟩ (.int .i64 ((rd_T113 t732 x15_1).f2))).heap[gb736]? = some (.cells #[.int .i64 ((rd_T113 t732 x15_1).f0.f0), .int .i64 ((rd_T113 t732 x15_1).f0.f1), .int .i64 ((rd_T113 t732 x15_1).f0.f2), .int .i64 ((rd_T113 t732 x15_1).f1), .int .i64 ((rd_T113 t732 x15_1).f2)] 113 (0, 0))) := ⟨by refine bk ?_; refine blk_put (cs := #[.int .i64 ((rd_T113 t732 x15_1).f0.f0), .int .i64 ((rd_T113 t732 x15_1).f0.f1), .int .i64 ((rd_T113 t732 x15_1).f0.f2), .int .i64 ((rd_T113 t732 x15_1).f1), .int .i64 0]) ?_ 4 _ rfl; refine bk ?_; refine blk_put (cs := #[.int .i64 ((rd_T113 t732 x15_1).f0.f0), .int .i64 ((rd_T113 t732 x15_1).f0.f1), .int .i64 ((rd_T113 t732 x15_1).f0.f2), .int .i64 0, .int .i64 0]) ?_ 3 _ rfl; refine bk ?_; refine blk_put (cs := #[.int .i64 ((rd_T113 t732 x15_1).f0.f0), .int .i64 ((rd_T113 t732 x15_1).f0.f1), .int .i64 0, .int .i64 0, .int .i64 0]) ?_ 2 _ rfl; refine bk ?_; refine blk_put (cs := #[.int .i64 ((rd_T113 t732 x15_1).f0.f0), .int .i64 0, .int .i64 0, .int .i64 0, .int .i64 0]) ?_ 1 _ rfl; refine bk ?_; refine blk_put (cs := #[.int .i64 0, .int .i64 0, .int .i64 0, .int .i64 0, .int .i64 0]) ?_ 0 _ rfl; refine bk ?_; exact BK736.out⟩
           have n9_ : Aside0 (Below w.heap.size w (((((w29.setCell ⟨gb736, 0, none⟩ (.int .i64 ((rd_T113 t732 x15_1).f0.f0))).setCell ⟨gb736, 1, none⟩ (.int .i64 ((rd_T113 t732 x15_1).f0.f1))).setCell ⟨gb736, 2, none⟩ (.int .i64 ((rd_T113 t732 x15_1).f0.f2))).setCell ⟨gb736, 3, none⟩ (.int .i64 ((rd_T113 t732 x15_1).f1))).setCell ⟨gb736, 4, none⟩ (.int .i64 ((rd_T113 t732 x15_1).f2)))) := ⟨bl HB.out⟩
           (try clear HO_2)
           (try clear HO_13)
           (try clear HO_723002)
           (try clear HO_732001)
           (try clear HO_732002)
           (try clear BK722)
           (try clear BK723)
           (try clear BK731)
           (try clear BK736)
           (try clear HB)
           generalize (((((w29.setCell ⟨gb736, 0, none⟩ (.int .i64 ((rd_T113 t732 x15_1).f0.f0))).setCell ⟨gb736, 1, none⟩ (.int .i64 ((rd_T113 t732 x15_1).f0.f1))).setCell ⟨gb736, 2, none⟩ (.int .i64 ((rd_T113 t732 x15_1).f0.f2))).setCell ⟨gb736, 3, none⟩ (.int .i64 ((rd_T113 t732 x15_1).f1))).setCell ⟨gb736, 4, none⟩ (.int .i64 ((rd_T113 t732 x15_1).f2))) = w34 at n0_ n1_ n2_ n3_ n4_ n5_ n6_ n7_ n8_ n9_ ⊢
           have HO_2 := n0_
           have HO_13 := n1_
           have HO_723002 := n2_
           have HO_732001 := n3_
           have HO_732002 := n4_
           have BK722 := n5_
           have BK723 := n6_
           have BK731 := n7_
           have BK736 := n8_
           have HB := n9_
           clear n0_ n1_ n2_ n3_ n4_ n5_ n6_ n7_ n8_ n9_
           replace HO_2 := Aside0.mk (Kd.V_drew HO_2.out)
           replace HO_13 := Aside0.mk (Kd.R_drew HO_13.out)
           replace HO_723002 := Aside0.mk (Kd.V_drew HO_723002.out)
           replace HO_732001 := Aside0.mk (Kd.R_drew HO_732001.out)
           replace HO_732002 := Aside0.mk (Kd.R_drew HO_732002.out)
           replace BK722 := Aside0.mk (blk_drew BK722.out)
           replace BK723 := Aside0.mk (blk_drew BK723.out)
           replace BK731 := Aside0.mk (blk_drew BK731.out)
           replace BK736 := Aside0.mk (blk_drew BK736.out)
           replace HB := Aside0.mk (below_drew1 HB.out)
           have q36 : (((rd_T113 t732 x15_1).f1) : Int) ≤ ((l0_2.length : Int) : Int) := of_decide_eq_true asm
           obtain ⟨i036, hi036, _, hsz36, _⟩ := info_parts info98
           have hroom36 : l0_2.length ≤ c0_2 := (Kd.V_reads' HO_723002.out).2.1
           have hC36 : Kd.F k98 _ _ A0_2 l0_2.length l0_2 := (Kd.V_at (base := w.heap.size) HO_723002.out).2.2
           have hcut36 := cut_to (P := Try.prog) 39 98 .i64 Try.underlying39 hi036 A0_2 l0_2.length c0_2 ((rd_T113 t732 x15_1).f1) (of_decide_eq_true asm) q36 hroom36
           have hr36 := Kd.F_take (m := (((rd_T113 t732 x15_1).f1) : Int).toNat) hC36 (by omega)
           have hy36 : y737.length = (((rd_T113 t732 x15_1).f1) : Int).toNat := (by rw [Ny737.out, List.length_take]; omega)
           rw [← Ny737.out] at hr36
           rw [← hy36] at hcut36
           have HO741 := Aside0.mk (show Kd.V k98 98 _ w.heap.size _ (.slice A0_2 y737.length c0_2) y737 from Kd.V_mk (by omega) hr36)
           have HC741 := Aside0.mk (show y737.length ≤ c0_2 from by omega)
           clear hr36 hC36 hroom36 hi036 hsz36
           have KY36 := Aside0.mk hy36
           clear hy36
           replace q36 := eq_true q36
           have q37 : (((rd_T113 t732 x15_1).f2) : Int) ≤ ((l0_2.length : Int) : Int) := of_decide_eq_true asm
           obtain ⟨i037, hi037, _, hsz37, _⟩ := info_parts info98
           have hroom37 : l0_2.length ≤ c0_2 := (Kd.V_reads' HO_723002.out).2.1
           have hC37 : Kd.F k98 _ _ A0_2 l0_2.length l0_2 := (Kd.V_at (base := w.heap.size) HO_723002.out).2.2
           have q037 : (0 : Int) ≤ (((rd_T113 t732 x15_1).f2) : Int) := of_decide_eq_true asm
           have hcut37 := cut_from (P := Try.prog) 39 98 .i64 Try.underlying39 hi037 4 hsz37 A0_2 l0_2.length c0_2 ((rd_T113 t732 x15_1).f2) q037 q37
           have hr37 := Kd.F_cut (m := (((rd_T113 t732 x15_1).f2) : Int).toNat) (c := c0_2) hC37 (by omega) hroom37
           obtain ⟨A37, hA37⟩ : ∃ A1, A1 = (if c0_2 = (((rd_T113 t732 x15_1).f2) : Int).toNat then A0_2 else (A0_2 : Option Addr).map (·.add ((((rd_T113 t732 x15_1).f2) : Int).toNat * 4))) := ⟨_, rfl⟩
           obtain ⟨c37, hc37⟩ : ∃ c1, c1 = c0_2 - (((rd_T113 t732 x15_1).f2) : Int).toNat := ⟨_, rfl⟩
           have hy37 : y742.length = l0_2.length - (((rd_T113 t732 x15_1).f2) : Int).toNat := (by rw [Ny742.out, List.length_drop] <;> omega)
           rw [show (l0_2).drop (((rd_T113 t732 x15_1).f2) : Int).toNat = y742 from Ny742.out.symm] at hr37
           replace hr37 : Kd.F k98 _ _ A37 y742.length y742 := (by rw [hA37]; exact hr37)
           rw [← hy37, ← hA37, ← hc37] at hcut37
           have HO746 := Aside0.mk (show Kd.V k98 98 _ w.heap.size _ (.slice A37 y742.length c37) y742 from Kd.V_mk (by rw [hy37, hc37]; exact Nat.sub_le_sub_right hroom37 _) hr37)
           have HC746 := Aside0.mk (show y742.length ≤ c37 from by rw [hy37, hc37]; exact Nat.sub_le_sub_right hroom37 _)
           clear hr37 hC37 hroom37 hi037 hsz37 hc37
           have KY37 := Aside0.mk hy37
           have KA37 := Aside0.mk hA37
           clear hy37 hA37
           replace q37 := eq_true q37
           refine start_ (n := 15) (S := fun w' => w'.cell? ⟨gb722, 0, none⟩ = some (.int .i64 a0_0) ∧ w'.cell? ⟨gb722, 1, none⟩ = some (.slice A0_1 l0_1.length c0_1) ∧ w'.cell? ⟨gb722, 2, none⟩ = some (.slice A0_2 l0_2.length c0_2) ∧ w'.cell? ⟨gb736, 0, none⟩ = some (.int .i64 ((rd_T113 t732 x15_1).f0.f0)) ∧ w'.cell? ⟨gb736, 1, none⟩ = some (.int .i64 ((rd_T113 t732 x15_1).f0.f1)) ∧ w'.cell? ⟨gb736, 2, none⟩ = some (.int .i64 ((rd_T113 t732 x15_1).f0.f2)) ∧ w'.cell? ⟨gb736, 3, none⟩ = some (.int .i64 ((rd_T113 t732 x15_1).f1)) ∧ w'.cell? ⟨gb736, 4, none⟩ = some (.int .i64 ((rd_T113 t732 x15_1).f2))) (ds := []) #[false, false, false, false, false, false, false, false, false, false, false, false, false, false, false] (by kernel_rfl) rfl rfl ⟨(blk_cell BK722.out 0).trans rfl, (blk_cell BK722.out 1).trans rfl, (blk_cell BK722.out 2).trans rfl, (blk_cell BK736.out 0).trans rfl, (blk_cell BK736.out 1).trans rfl, (blk_cell BK736.out 2).trans rfl, (blk_cell BK736.out 3).trans rfl, (blk_cell BK736.out 4).trans rfl⟩ (fun hHeld => ?_); refine with_tabW impl_filled.tab6 impl_filled.bits6 (fun HT_ HW_ => ?_)
           generalize w34.drew = w35 at HO_2 HO_13 HO_723002 HO_732001 HO_732002 BK722 BK723 BK731 BK736 HB HO741 HO746 hHeld ⊢
           refine puA (i := 0) (N := some 24) HT_.out ?_
           refine puA (i := 2) (N := some 26) HT_.out ?_
           refine puA (i := 5) (N := some 29) HT_.out ?_
           refine puA (i := 6) (N := some 30) HT_.out ?_
           refine puA (i := 8) (N := some 32) HT_.out ?_
           refine tkA8 (i := 1) (N := some 25) HT_.out HW_.out hHeld ?_
           refine tkA8 (i := 3) (N := some 27) HT_.out HW_.out hHeld ?_
           refine puA (i := 4) (N := some 28) HT_.out ?_
           refine tkA8 (i := 7) (N := some 31) HT_.out HW_.out hHeld ?_
           refine tkA8 (i := 9) (N := some 33) HT_.out HW_.out hHeld ?_
           refine puA (i := 10) (N := some 34) HT_.out ?_
           refine onA (i := 11) (N := some 35) HT_.out (fun K hK => ?_)
           refine Kd.N_lit_step (Kd.slice 98 k98) _ 39 ?hg (N' := 35) ?hd (xs := ([y737, l2, y742] : List (List (S98)))) (inner := [.slice A0_2 y737.length c0_2, .slice A2 l2.length c2, .slice A37 y742.length c37]) (ok := (fun k_ => ((P0_2_ k_ ∨ P2_ k_) ∨ w.heap.size ≤ k_) ∧ some k_ ≠ (.slice (some ad735) t732.length co19 : Value).ownBlock ∧ some k_ ≠ (.slice Ao15 t725.length co15 : Value).ownBlock ∧ some k_ ≠ (u732002 : Value).ownBlock ∧ k_ ≠ gb722 ∧ k_ ≠ gb723 ∧ k_ ≠ gb731 ∧ k_ ≠ gb736)) (okp := (fun k_ => ((P0_2_ k_ ∨ P2_ k_) ∨ w.heap.size ≤ k_) ∧ some k_ ≠ (.slice (some ad735) t732.length co19 : Value).ownBlock ∧ some k_ ≠ (.slice Ao15 t725.length co15 : Value).ownBlock ∧ some k_ ≠ (u732002 : Value).ownBlock ∧ k_ ≠ gb722 ∧ k_ ≠ gb723 ∧ k_ ≠ gb731 ∧ k_ ≠ gb736)) ?hr ?hp (fun _ hk => hk) ((show ∀ k_, w35.heap.size ≤ k_ → (fun k_ => ((P0_2_ k_ ∨ P2_ k_) ∨ w.heap.size ≤ k_) ∧ some k_ ≠ (.slice (some ad735) t732.length co19 : Value).ownBlock ∧ some k_ ≠ (.slice Ao15 t725.length co15 : Value).ownBlock ∧ some k_ ≠ (u732002 : Value).ownBlock ∧ k_ ≠ gb722 ∧ k_ ≠ gb723 ∧ k_ ≠ gb731 ∧ k_ ≠ gb736) k_ from fun k_ hk => ⟨(.inr (Nat.le_trans (below_size (bl HB.out)) hk)), Kd.fresh' (Kd.R_lt (rk HO_13.out)) k_ hk, Kd.fresh' (Kd.R_lt (rk HO_732001.out)) k_ hk, Kd.fresh' (Kd.R_lt (rk HO_732002.out)) k_ hk, Kd.freshB (g := gb722) (o := .cells #[.int .i64 a0_0, .slice A0_1 l0_1.length c0_1, .slice A0_2 l0_2.length c0_2] 41 (0, 0)) (bk BK722.out) k_ hk, Kd.freshB (g := gb723) (o := .cells #[.int .i64 0, .slice none 0 0, .slice none 0 0] 41 (0, 0)) (bk BK723.out) k_ hk, Kd.freshB (g := gb731) (o := .cells #[.int .i64 t724, .slice Ao15 t725.length co15, u732002] 41 (0, 0)) (bk BK731.out) k_ hk, Kd.freshB (g := gb736) (o := .cells #[.int .i64 ((rd_T113 t732 x15_1).f0.f0), .int .i64 ((rd_T113 t732 x15_1).f0.f1), .int .i64 ((rd_T113 t732 x15_1).f0.f2), .int .i64 ((rd_T113 t732 x15_1).f1), .int .i64 ((rd_T113 t732 x15_1).f2)] 113 (0, 0)) (bk BK736.out) k_ hk⟩) _ (Nat.le_refl _)) (Below.refl _ _) (Nat.le_refl _) (by simp) ?_; (case hd => rfl); (case hg => rfl); (case hr => first | (go_simp; done) | (go_simp; rfl)); (case hp => exact (Reps.one (show Kd.FK (Kd.slice 98 k98) _ _ y737 [.slice A0_2 y737.length c0_2] from (Kd.FK_slice_mk (Kd.V_reads' (Kd.V_mono (ok' := (fun k_ => ((P0_2_ k_ ∨ P2_ k_) ∨ w.heap.size ≤ k_) ∧ some k_ ≠ (.slice (some ad735) t732.length co19 : Value).ownBlock ∧ some k_ ≠ (.slice Ao15 t725.length co15 : Value).ownBlock ∧ some k_ ≠ (u732002 : Value).ownBlock ∧ k_ ≠ gb722 ∧ k_ ≠ gb723 ∧ k_ ≠ gb731 ∧ k_ ≠ gb736)) (HO741.out) (fun k_ hk => ⟨hk.1, ⟨hk.2.1, ⟨hk.2.2.1, ⟨hk.2.2.2.1, ⟨hk.2.2.2.2.1, ⟨hk.2.2.2.2.2.1, ⟨hk.2.2.2.2.2.2.1, hk.2.2.2.2.2.2.2⟩⟩⟩⟩⟩⟩⟩))).2.1 (Kd.V_F (Kd.V_mono (ok' := (fun k_ => ((P0_2_ k_ ∨ P2_ k_) ∨ w.heap.size ≤ k_) ∧ some k_ ≠ (.slice (some ad735) t732.length co19 : Value).ownBlock ∧ some k_ ≠ (.slice Ao15 t725.length co15 : Value).ownBlock ∧ some k_ ≠ (u732002 : Value).ownBlock ∧ k_ ≠ gb722 ∧ k_ ≠ gb723 ∧ k_ ≠ gb731 ∧ k_ ≠ gb736)) (HO741.out) (fun k_ hk => ⟨hk.1, ⟨hk.2.1, ⟨hk.2.2.1, ⟨hk.2.2.2.1, ⟨hk.2.2.2.2.1, ⟨hk.2.2.2.2.2.1, ⟨hk.2.2.2.2.2.2.1, hk.2.2.2.2.2.2.2⟩⟩⟩⟩⟩⟩⟩))))) (Reps.one (show Kd.FK (Kd.slice 98 k98) _ _ l2 [.slice A2 l2.length c2] from (Kd.FK_slice_mk (Kd.V_reads' (Kd.V_mono (ok' := (fun k_ => ((P0_2_ k_ ∨ P2_ k_) ∨ w.heap.size ≤ k_) ∧ some k_ ≠ (.slice (some ad735) t732.length co19 : Value).ownBlock ∧ some k_ ≠ (.slice Ao15 t725.length co15 : Value).ownBlock ∧ some k_ ≠ (u732002 : Value).ownBlock ∧ k_ ≠ gb722 ∧ k_ ≠ gb723 ∧ k_ ≠ gb731 ∧ k_ ≠ gb736)) (HO_2.out) (fun k_ hk => ⟨hk.1, ⟨hk.2.1, ⟨hk.2.2.1, ⟨hk.2.2.2.1, ⟨hk.2.2.2.2.1, ⟨hk.2.2.2.2.2.1, ⟨hk.2.2.2.2.2.2.1, hk.2.2.2.2.2.2.2⟩⟩⟩⟩⟩⟩⟩))).2.1 (Kd.V_F (Kd.V_mono (ok' := (fun k_ => ((P0_2_ k_ ∨ P2_ k_) ∨ w.heap.size ≤ k_) ∧ some k_ ≠ (.slice (some ad735) t732.length co19 : Value).ownBlock ∧ some k_ ≠ (.slice Ao15 t725.length co15 : Value).ownBlock ∧ some k_ ≠ (u732002 : Value).ownBlock ∧ k_ ≠ gb722 ∧ k_ ≠ gb723 ∧ k_ ≠ gb731 ∧ k_ ≠ gb736)) (HO_2.out) (fun k_ hk => ⟨hk.1, ⟨hk.2.1, ⟨hk.2.2.1, ⟨hk.2.2.2.1, ⟨hk.2.2.2.2.1, ⟨hk.2.2.2.2.2.1, ⟨hk.2.2.2.2.2.2.1, hk.2.2.2.2.2.2.2⟩⟩⟩⟩⟩⟩⟩))))) (Reps.one (show Kd.FK (Kd.slice 98 k98) _ _ y742 [.slice A37 y742.length c37] from (Kd.FK_slice_mk (Kd.V_reads' (Kd.V_mono (ok' := (fun k_ => ((P0_2_ k_ ∨ P2_ k_) ∨ w.heap.size ≤ k_) ∧ some k_ ≠ (.slice (some ad735) t732.length co19 : Value).ownBlock ∧ some k_ ≠ (.slice Ao15 t725.length co15 : Value).ownBlock ∧ some k_ ≠ (u732002 : Value).ownBlock ∧ k_ ≠ gb722 ∧ k_ ≠ gb723 ∧ k_ ≠ gb731 ∧ k_ ≠ gb736)) (HO746.out) (fun k_ hk => ⟨hk.1, ⟨hk.2.1, ⟨hk.2.2.1, ⟨hk.2.2.2.1, ⟨hk.2.2.2.2.1, ⟨hk.2.2.2.2.2.1, ⟨hk.2.2.2.2.2.2.1, hk.2.2.2.2.2.2.2⟩⟩⟩⟩⟩⟩⟩))).2.1 (Kd.V_F (Kd.V_mono (ok' := (fun k_ => ((P0_2_ k_ ∨ P2_ k_) ∨ w.heap.size ≤ k_) ∧ some k_ ≠ (.slice (some ad735) t732.length co19 : Value).ownBlock ∧ some k_ ≠ (.slice Ao15 t725.length co15 : Value).ownBlock ∧ some k_ ≠ (u732002 : Value).ownBlock ∧ k_ ≠ gb722 ∧ k_ ≠ gb723 ∧ k_ ≠ gb731 ∧ k_ ≠ gb736)) (HO746.out) (fun k_ hk => ⟨hk.1, ⟨hk.2.1, ⟨hk.2.2.1, ⟨hk.2.2.2.1, ⟨hk.2.2.2.2.1, ⟨hk.2.2.2.2.2.1, ⟨hk.2.2.2.2.2.2.1, hk.2.2.2.2.2.2.2⟩⟩⟩⟩⟩⟩⟩))))) (Reps.none _ _)))))
           intro v748 w38 ho39 hb hg_ hnew_
           clear hg_ hnew_
           (first | rw [← Ny747.out] at ho39 | (simp only [Int.reduceToNat] at ho39; rw [← Ny747.out] at ho39))
           replace HO_2 := Aside0.mk (Kd.V_elder' (by (with_reducible repeat (first | apply Kd.V_alloc | apply Kd.V_drewN | apply Kd.V_drew)); exact HO_2.out) (Kd.N_base ho39) hb)
           replace HO_13 := Aside0.mk (Kd.R_below (rk HO_13.out) hb)
           replace HO_723002 := Aside0.mk (Kd.V_elder' (by (with_reducible repeat (first | apply Kd.V_alloc | apply Kd.V_drewN | apply Kd.V_drew)); exact HO_723002.out) (Kd.N_base ho39) hb)
           replace HO_732001 := Aside0.mk (Kd.R_below (rk HO_732001.out) hb)
           replace HO_732002 := Aside0.mk (Kd.R_below (rk HO_732002.out) hb)
           replace HO741 := Aside0.mk (Kd.V_elder' (by (with_reducible repeat (first | apply Kd.V_alloc | apply Kd.V_drewN | apply Kd.V_drew)); exact HO741.out) (Kd.N_base ho39) hb)
           replace HO746 := Aside0.mk (Kd.V_elder' (by (with_reducible repeat (first | apply Kd.V_alloc | apply Kd.V_drewN | apply Kd.V_drew)); exact HO746.out) (Kd.N_base ho39) hb)
           have HO749 := Aside0.mk (Kd.N_lower ho39 (below_size (bl HB.out)))
           replace BK722 := Aside0.mk (bb BK722.out hb)
           replace BK723 := Aside0.mk (bb BK723.out hb)
           replace BK731 := Aside0.mk (bb BK731.out hb)
           replace BK736 := Aside0.mk (bb BK736.out hb)
           replace HB := Aside0.mk (below_step (bl HB.out) hb)
           clear hb ho39
           obtain ⟨Ao40, co40, eo40⟩ := Kd.N_slice HO749.out
           (first | subst eo40 | (injection eo40 with f1_ f2_ f3_; have f4_ := f1_.symm; have f5_ := f3_.symm; clear f1_ f2_ f3_; subst f4_; subst f5_))
           refine hK.out _ _ ⟨(blk_cell BK722.out 0).trans rfl, (blk_cell BK722.out 1).trans rfl, (blk_cell BK722.out 2).trans rfl, (blk_cell BK736.out 0).trans rfl, (blk_cell BK736.out 1).trans rfl, (blk_cell BK736.out 2).trans rfl, (blk_cell BK736.out 3).trans rfl, (blk_cell BK736.out 4).trans rfl⟩ (fun hHeld => ?_)
           clear hK K
           refine norm_ (a' := ?_) ?_ ?_
           rotate_left
           ·show Act.put _ (some 35) _ = _
            simp only [Act.put, List.setIfInBounds_toArray, List.set_cons_zero, List.set_cons_succ, i64_w, i32_w]
            rfl
           refine onA (i := 12) (N := some 36) HT_.out (fun K hK => ?_)
           refine goes_ Try.func126 (by kernel_rfl) rfl #[.slice Ao40 y747.length co40] (by rfl) rfl rfl mapd ?_
           with_reducible refine (impl_Box_126.calls k1 _ _ y747 t750 _ ?side1 ?side2 A28.out).mono ?_
           (case side1 => exact cb ((Kd.N_reads' HO749.out).2.2))
           (case side2 => exact (Kd.N_reads' HO749.out).2.1)
           rintro e w41 ⟨v751, rfl, ho0, hb⟩
           refine ⟨_, rfl, ?_⟩
           replace HO_2 := Aside0.mk (Kd.V_elder' (by (with_reducible repeat (first | apply Kd.V_alloc | apply Kd.V_drewN | apply Kd.V_drew)); exact HO_2.out) (Kd.R_base ho0) hb)
           replace HO_13 := Aside0.mk (Kd.R_below (rk HO_13.out) hb)
           replace HO_723002 := Aside0.mk (Kd.V_elder' (by (with_reducible repeat (first | apply Kd.V_alloc | apply Kd.V_drewN | apply Kd.V_drew)); exact HO_723002.out) (Kd.R_base ho0) hb)
           replace HO_732001 := Aside0.mk (Kd.R_below (rk HO_732001.out) hb)
           replace HO741 := Aside0.mk (Kd.V_elder' (by (with_reducible repeat (first | apply Kd.V_alloc | apply Kd.V_drewN | apply Kd.V_drew)); exact HO741.out) (Kd.R_base ho0) hb)
           replace HO746 := Aside0.mk (Kd.V_elder' (by (with_reducible repeat (first | apply Kd.V_alloc | apply Kd.V_drewN | apply Kd.V_drew)); exact HO746.out) (Kd.R_base ho0) hb)
           replace HO749 := Aside0.mk (Kd.N_elder' (nk HO749.out) (Kd.R_base ho0) hb)
           have HO752 := Aside0.mk (Kd.R_lower (Kd.R_new' (Kd.R_newM (M := fun k_ => (w.heap.size ≤ k_)) ho0 (below_size (bl HB.out)) (fun k_ h_ => h_)) (Kd.R_lt (rk HO_732002.out))) (below_size (bl HB.out)))
           replace HO_732002 := Aside0.mk (Kd.R_elder' (rk HO_732002.out) (Kd.R_base ho0) hb)
           replace BK722 := Aside0.mk (bb BK722.out hb)
           replace BK723 := Aside0.mk (bb BK723.out hb)
           replace BK731 := Aside0.mk (bb BK731.out hb)
           replace BK736 := Aside0.mk (bb BK736.out hb)
           replace HB := Aside0.mk (below_step (bl HB.out) hb)
           (try clear hb)
           (try clear hb2)
           (try clear hk)
           (try clear hi)
           (try clear ho0)
           obtain ⟨Ao42, co42, eo42⟩ := Kd.R_slice HO752.out
           (first | subst eo42 | (injection eo42 with f1_ f2_ f3_; have f4_ := f1_.symm; have f5_ := f3_.symm; clear f1_ f2_ f3_; subst f4_; subst f5_))
           refine hK.out _ _ ⟨(blk_cell BK722.out 0).trans rfl, (blk_cell BK722.out 1).trans rfl, (blk_cell BK722.out 2).trans rfl, (blk_cell BK736.out 0).trans rfl, (blk_cell BK736.out 1).trans rfl, (blk_cell BK736.out 2).trans rfl, (blk_cell BK736.out 3).trans rfl, (blk_cell BK736.out 4).trans rfl⟩ (fun hHeld => ?_)
           clear hK K
           refine norm_ (a' := ?_) ?_ ?_
           rotate_left
           ·show Act.put _ (some 36) _ = _
            simp only [Act.put, List.setIfInBounds_toArray, List.set_cons_zero, List.set_cons_succ, i64_w, i32_w]
            rfl
           refine puA (i := 13) (N := some 37) HT_.out ?_
           refine onA (i := 14) (N := none) HT_.out (fun K hK => ?_)
           have hs43 : w41.cell? ⟨gb731, 2, none⟩ = some (u732002) := (blk_cell BK731.out 2).trans rfl
           have hfs43 := blk_frozen BK731.out 2
           have hns43_0 := NB722_731.out
           have hns43_1 := NB723_731.out
           have hns43_3 := NB736_731.out
           have hms43_0 := NB731_722.out
           have hms43_1 := NB731_723.out
           have hms43_3 := NB731_736.out
           refine skip_ (w1 := ?_) (by rfl) rfl ?_ ?_
           rotate_left
           ·go_simp
            rfl
           refine hK.out _ _ ⟨((cell_far (p := ⟨gb731, _, none⟩) NB722_731.out _).trans (hHeld.1)), ((cell_far (p := ⟨gb731, _, none⟩) NB722_731.out _).trans (hHeld.2.1)), ((cell_far (p := ⟨gb731, _, none⟩) NB722_731.out _).trans (hHeld.2.2.1)), ((cell_far (p := ⟨gb731, _, none⟩) NB736_731.out _).trans (hHeld.2.2.2.1)), ((cell_far (p := ⟨gb731, _, none⟩) NB736_731.out _).trans (hHeld.2.2.2.2.1)), ((cell_far (p := ⟨gb731, _, none⟩) NB736_731.out _).trans (hHeld.2.2.2.2.2.1)), ((cell_far (p := ⟨gb731, _, none⟩) NB736_731.out _).trans (hHeld.2.2.2.2.2.2.1)), ((cell_far (p := ⟨gb731, _, none⟩) NB736_731.out _).trans (hHeld.2.2.2.2.2.2.2))⟩ (fun hHeld => ?_)
           clear hK K
           refine done_ (done_of HT_.out (by kernel_rfl)) ?_
           try go_wp2
           go_roundg k1
           case measure => have := HK1.out; omega
           case rel => exact ⟨(wrap64 (x15_1 + 1)), (t750), (.slice Ao42 t750.length co42), (by first | rfl | (simp; done) | (simp [*]; done)), H', ⟨by have := HK1.out; omega⟩, ⟨by (with_reducible repeat (first | apply Kd.V_alloc | apply Kd.V_drewN | apply Kd.V_drew)); exact Kd.V_mono (Kd.V_far (p := ⟨gb731, 2, none⟩) (Kd.V_mono HO_2.out (fun k_ hk => (⟨hk, hk.1.1.2.2.2.2.2.2.1⟩ : _ ∧ k_ ≠ gb731))) (fun _ hk => hk.2) (.slice Ao42 t750.length co42)) (fun _ hk => ⟨hk.1.1.1.1, ⟨hk.1.1.1.2.1, ⟨hk.1.1.1.2.2.1, ⟨hk.1.2, ⟨hk.1.1.1.2.2.2.2.1, ⟨hk.1.1.1.2.2.2.2.2.1, hk.1.1.1.2.2.2.2.2.2.1⟩⟩⟩⟩⟩⟩)⟩, ⟨by refine rk ?_; exact Kd.R_mono (Kd.R_far (p := ⟨gb731, 2, none⟩) (Kd.R_types HO_13.out BK731.out (by decide)) (fun _ hk => hk.2) (.slice Ao42 t750.length co42)) (fun _ hk => hk.1.1)⟩, ⟨by (with_reducible repeat (first | apply Kd.V_alloc | apply Kd.V_drewN | apply Kd.V_drew)); exact Kd.V_mono (Kd.V_far (p := ⟨gb731, 2, none⟩) (Kd.V_mono HO_723002.out (fun k_ hk => (⟨hk, hk.1.1.2.2.2.2.2.2.1⟩ : _ ∧ k_ ≠ gb731))) (fun _ hk => hk.2) (.slice Ao42 t750.length co42)) (fun _ hk => ⟨hk.1.1.1.1, ⟨hk.1.1.1.2.1, ⟨hk.1.1.1.2.2.1, ⟨hk.1.2, ⟨hk.1.1.1.2.2.2.2.1, ⟨hk.1.1.1.2.2.2.2.2.1, hk.1.1.1.2.2.2.2.2.2.1⟩⟩⟩⟩⟩⟩)⟩, ⟨by refine rk ?_; exact Kd.R_mono (Kd.R_far (p := ⟨gb731, 2, none⟩) (Kd.R_types HO_732001.out BK731.out (by decide)) (fun _ hk => hk.2) (.slice Ao42 t750.length co42)) (fun _ hk => hk.1)⟩, ⟨by refine rk ?_; exact Kd.R_mono (Kd.R_far (p := ⟨gb731, 2, none⟩) (Kd.R_types HO752.out BK731.out (by decide)) (fun _ hk => hk.2) (.slice Ao42 t750.length co42)) (fun _ hk => hk.1.1.1)⟩, ⟨by refine bk ?_; refine blk_far ?_ NB722_731.out _; refine bk ?_; exact BK722.out⟩, ⟨by refine bk ?_; refine blk_far ?_ NB723_731.out _; refine bk ?_; exact BK723.out⟩, ⟨by refine bk ?_; refine blk_put (cs := #[.int .i64 t724, .slice Ao15 t725.length co15, u732002]) ?_ 2 _ rfl; refine bk ?_; exact BK731.out⟩, ⟨bl HB.out⟩⟩
          ·rw [if_neg c27] at H
           exact absurd H (by simp)
         ·rw [if_neg c26] at H
          exact absurd H (by simp)
        ·rw [if_neg c25] at H
         exact absurd H (by simp)
       ·rw [if_neg c24] at H
        exact absurd H (by simp)
      ·rw [if_neg c23] at H
       have c23b0 : (((rd_T113 t732 x15_1).f0.f1) == a1) = false := beq_eq_false_iff_ne.mpr c23
       have c23b1 : (((rd_T113 t732 x15_1).f0.f1) != a1) = true := bne_iff_ne.mpr c23
       have H' := Aside0.mk H
       clear H
       have p735 : 0 ≤ (x15_1 : Int) := of_decide_eq_true asm
       have q735 : x15_1 < (t732.length : Int) := of_decide_eq_true asm
       obtain ⟨ad735, e735, hx735_0, hx735_1, hx735_2, hx735_3, hx735_4⟩ := at_T113 (Kd.R_reads' HO_13.out).2.2 x15_1 p735 q735
       cases e735
       replace p735 := eq_true p735
       replace q735 := eq_true q735
       go_wp2_with (first | ((with_reducible refine gate_dst (N := 9) rfl ?_); refine bx (cs := #[.int .i64 0, .int .i64 0, .int .i64 0, .int .i64 0, .int .i64 0]) (t := 113) fun gb736 hg w44 hbox hb => ?_; replace HO_2 := Aside0.mk (Kd.V_below (Kd.V_elderB (by (with_reducible repeat (first | apply Kd.V_alloc | apply Kd.V_drewN | apply Kd.V_drew)); exact HO_2.out) gb736 (Nat.le_of_eq hg.symm)) hb); replace HO_13 := Aside0.mk (Kd.R_below (Kd.R_elderB (rk HO_13.out) gb736 (Nat.le_of_eq hg.symm)) hb); replace HO_723002 := Aside0.mk (Kd.V_below (Kd.V_elderB (by (with_reducible repeat (first | apply Kd.V_alloc | apply Kd.V_drewN | apply Kd.V_drew)); exact HO_723002.out) gb736 (Nat.le_of_eq hg.symm)) hb); replace HO_732001 := Aside0.mk (Kd.R_below (rk HO_732001.out) hb); replace HO_732002 := Aside0.mk (Kd.R_below (rk HO_732002.out) hb); have BK736 := Aside0.mk (hbox); have GW736 := Aside0.mk (gs HB.out hg); have GE736 := Aside0.mk (gs HB.out hg); replace HB := Aside0.mk (below_step (bl HB.out) hb); have NB722_736 := Aside0.mk ((nl BK722.out hg)); have NB736_722 := Aside0.mk ((ng BK722.out hg)); replace BK722 := Aside0.mk (bb BK722.out hb); have NB723_736 := Aside0.mk ((nl BK723.out hg)); have NB736_723 := Aside0.mk ((ng BK723.out hg)); replace BK723 := Aside0.mk (bb BK723.out hb); have NB731_736 := Aside0.mk ((nl BK731.out hg)); have NB736_731 := Aside0.mk ((ng BK731.out hg)); replace BK731 := Aside0.mk (bb BK731.out hb); clear hb hbox hg; have hnb45 := NB736_722.out; have hnc45 := NB722_736.out; have hnb46 := NB736_723.out; have hnc46 := NB723_736.out; have hnb47 := NB736_731.out; have hnc47 := NB731_736.out; obtain ⟨hcz48_0, hcz48_1, hcz48_2, hcz48_3, hcz48_4, hfz48_0, hfz48_1, hfz48_2, hfz48_3, hfz48_4⟩ := cz5 BK736.out))
       go_roundg k1
       case measure => have := HK1.out; omega
       case rel => exact ⟨(wrap64 (x15_1 + 1)), (x732002_1), (u732002), (by first | rfl | (simp; done) | (simp [*]; done)), H', ⟨by have := HK1.out; omega⟩, ⟨by (with_reducible repeat (first | apply Kd.V_alloc | apply Kd.V_drewN | apply Kd.V_drew)); exact Kd.V_mono (Kd.V_far (p := ⟨gb736, 4, none⟩) (Kd.V_far (p := ⟨gb736, 3, none⟩) (Kd.V_far (p := ⟨gb736, 2, none⟩) (Kd.V_far (p := ⟨gb736, 1, none⟩) (Kd.V_far (p := ⟨gb736, 0, none⟩) (Kd.V_mono HO_2.out (fun k_ hk => (⟨hk, hk.2⟩ : _ ∧ k_ ≠ gb736))) (fun _ hk => hk.2) (.int .i64 ((rd_T113 t732 x15_1).f0.f0))) (fun _ hk => hk.2) (.int .i64 ((rd_T113 t732 x15_1).f0.f1))) (fun _ hk => hk.2) (.int .i64 ((rd_T113 t732 x15_1).f0.f2))) (fun _ hk => hk.2) (.int .i64 ((rd_T113 t732 x15_1).f1))) (fun _ hk => hk.2) (.int .i64 ((rd_T113 t732 x15_1).f2))) (fun _ hk => ⟨hk.1.1.1, ⟨hk.1.1.2.1, ⟨hk.1.1.2.2.1, ⟨hk.1.1.2.2.2.1, ⟨hk.1.1.2.2.2.2.1, ⟨hk.1.1.2.2.2.2.2.1, hk.1.1.2.2.2.2.2.2⟩⟩⟩⟩⟩⟩)⟩, ⟨by refine rk ?_; exact Kd.R_mono (Kd.R_far (p := ⟨gb736, 4, none⟩) (Kd.R_far (p := ⟨gb736, 3, none⟩) (Kd.R_far (p := ⟨gb736, 2, none⟩) (Kd.R_far (p := ⟨gb736, 1, none⟩) (Kd.R_far (p := ⟨gb736, 0, none⟩) (Kd.R_mono HO_13.out (fun k_ hk => (⟨hk, hk.2⟩ : _ ∧ k_ ≠ gb736))) (fun _ hk => hk.2) (.int .i64 ((rd_T113 t732 x15_1).f0.f0))) (fun _ hk => hk.2) (.int .i64 ((rd_T113 t732 x15_1).f0.f1))) (fun _ hk => hk.2) (.int .i64 ((rd_T113 t732 x15_1).f0.f2))) (fun _ hk => hk.2) (.int .i64 ((rd_T113 t732 x15_1).f1))) (fun _ hk => hk.2) (.int .i64 ((rd_T113 t732 x15_1).f2))) (fun _ hk => hk.1.1)⟩, ⟨by (with_reducible repeat (first | apply Kd.V_alloc | apply Kd.V_drewN | apply Kd.V_drew)); exact Kd.V_mono (Kd.V_far (p := ⟨gb736, 4, none⟩) (Kd.V_far (p := ⟨gb736, 3, none⟩) (Kd.V_far (p := ⟨gb736, 2, none⟩) (Kd.V_far (p := ⟨gb736, 1, none⟩) (Kd.V_far (p := ⟨gb736, 0, none⟩) (Kd.V_mono HO_723002.out (fun k_ hk => (⟨hk, hk.2⟩ : _ ∧ k_ ≠ gb736))) (fun _ hk => hk.2) (.int .i64 ((rd_T113 t732 x15_1).f0.f0))) (fun _ hk => hk.2) (.int .i64 ((rd_T113 t732 x15_1).f0.f1))) (fun _ hk => hk.2) (.int .i64 ((rd_T113 t732 x15_1).f0.f2))) (fun _ hk => hk.2) (.int .i64 ((rd_T113 t732 x15_1).f1))) (fun _ hk => hk.2) (.int .i64 ((rd_T113 t732 x15_1).f2))) (fun _ hk => ⟨hk.1.1.1, ⟨hk.1.1.2.1, ⟨hk.1.1.2.2.1, ⟨hk.1.1.2.2.2.1, ⟨hk.1.1.2.2.2.2.1, ⟨hk.1.1.2.2.2.2.2.1, hk.1.1.2.2.2.2.2.2⟩⟩⟩⟩⟩⟩)⟩, ⟨by refine rk ?_; exact Kd.R_mono (Kd.R_far (p := ⟨gb736, 4, none⟩) (Kd.R_far (p := ⟨gb736, 3, none⟩) (Kd.R_far (p := ⟨gb736, 2, none⟩) (Kd.R_far (p := ⟨gb736, 1, none⟩) (Kd.R_far (p := ⟨gb736, 0, none⟩) (Kd.R_types HO_732001.out BK736.out (by decide)) (fun _ hk => hk.2) (.int .i64 ((rd_T113 t732 x15_1).f0.f0))) (fun _ hk => hk.2) (.int .i64 ((rd_T113 t732 x15_1).f0.f1))) (fun _ hk => hk.2) (.int .i64 ((rd_T113 t732 x15_1).f0.f2))) (fun _ hk => hk.2) (.int .i64 ((rd_T113 t732 x15_1).f1))) (fun _ hk => hk.2) (.int .i64 ((rd_T113 t732 x15_1).f2))) (fun _ hk => hk.1)⟩, ⟨by refine rk ?_; exact Kd.R_mono (Kd.R_far (p := ⟨gb736, 4, none⟩) (Kd.R_far (p := ⟨gb736, 3, none⟩) (Kd.R_far (p := ⟨gb736, 2, none⟩) (Kd.R_far (p := ⟨gb736, 1, none⟩) (Kd.R_far (p := ⟨gb736, 0, none⟩) (Kd.R_types HO_732002.out BK736.out (by decide)) (fun _ hk => hk.2) (.int .i64 ((rd_T113 t732 x15_1).f0.f0))) (fun _ hk => hk.2) (.int .i64 ((rd_T113 t732 x15_1).f0.f1))) (fun _ hk => hk.2) (.int .i64 ((rd_T113 t732 x15_1).f0.f2))) (fun _ hk => hk.2) (.int .i64 ((rd_T113 t732 x15_1).f1))) (fun _ hk => hk.2) (.int .i64 ((rd_T113 t732 x15_1).f2))) (fun _ hk => hk.1)⟩, ⟨by refine bk ?_; refine blk_far ?_ NB722_736.out _; refine bk ?_; refine blk_far ?_ NB722_736.out _; refine bk ?_; refine blk_far ?_ NB722_736.out _; refine bk ?_; refine blk_far ?_ NB722_736.out _; refine bk ?_; refine blk_far ?_ NB722_736.out _; refine bk ?_; exact BK722.out⟩, ⟨by refine bk ?_; refine blk_far ?_ NB723_736.out _; refine bk ?_; refine blk_far ?_ NB723_736.out _; refine bk ?_; refine blk_far ?_ NB723_736.out _; refine bk ?_; refine blk_far ?_ NB723_736.out _; refine bk ?_; refine blk_far ?_ NB723_736.out _; refine bk ?_; exact BK723.out⟩, ⟨by refine bk ?_; refine blk_far ?_ NB731_736.out _; refine bk ?_; refine blk_far ?_ NB731_736.out _; refine bk ?_; refine blk_far ?_ NB731_736.out _; refine bk ?_; refine blk_far ?_ NB731_736.out _; refine bk ?_; refine blk_far ?_ NB731_736.out _; refine bk ?_; exact BK731.out⟩, ⟨bl HB.out⟩⟩
     ·rw [if_neg c22] at H
      exact absurd H (by simp)
    ·rw [if_neg c21] at H
     exact absurd H (by simp)
   ·rw [if_neg c20] at H
    have c20b0 : decide (x15_1 < (t732.length : Int)) = false := decide_eq_false c20
    clear c20
    simp only [Option.some.injEq, Prod.mk.injEq] at H
    obtain ⟨rfl, rfl, rfl⟩ := H
    have hnb49 := NB731_722.out
    have hnc49 := NB722_731.out
    have hnb50 := NB731_723.out
    have hnc50 := NB723_731.out
    obtain ⟨hcz51_0, hcz51_1, hcz51_2, hfz51_0, hfz51_1, hfz51_2⟩ := cz3 BK731.out
    have hnb52 := NB723_722.out
    have hnc52 := NB722_723.out
    obtain ⟨hcz53_0, hcz53_1, hcz53_2, hfz53_0, hfz53_1, hfz53_2⟩ := cz3 BK723.out
    obtain ⟨Ao54, co54, eo54⟩ := Kd.R_slice HO_732002.out
    subst eo54
    go_wp2
    refine bodyPost_ret (results_cell_row rfl _ _ gb723 41 #[.int .i64 t724, .slice Ao15 t725.length co15, .slice Ao54 x732002_1.length co54] (0, 0) _ rfl (by refine bk ?_; refine blk_put (cs := #[.int .i64 t724, .slice Ao15 t725.length co15, .slice none 0 0]) ?_ 2 _ rfl; refine bk ?_; refine blk_put (cs := #[.int .i64 t724, .slice none 0 0, .slice none 0 0]) ?_ 1 _ rfl; refine bk ?_; refine blk_put (cs := #[.int .i64 0, .slice none 0 0, .slice none 0 0]) ?_ 0 _ rfl; refine bk ?_; exact BK723.out) Try.underlying41 rfl (by kernel_rfl)) rfl ?_
    exact ⟨_, _, by first | rfl | (simp [errW_none, errW_some] <;> rfl) | (simp [*, errW_none, errW_some] <;> rfl), by refine rk ?_; exact Kd.R_mono (Kd.R_far (p := ⟨gb723, 2, none⟩) (Kd.R_far (p := ⟨gb723, 1, none⟩) (Kd.R_far (p := ⟨gb723, 0, none⟩) (Kd.R_types HO_732001.out BK723.out (by decide)) (fun _ hk => hk.2) (.int .i64 t724)) (fun _ hk => hk.2) (.slice Ao15 t725.length co15)) (fun _ hk => hk.2) (.slice Ao54 x732002_1.length co54)) (fun _ hk => hk.1), by refine rk ?_; exact Kd.R_mono (Kd.R_far (p := ⟨gb723, 2, none⟩) (Kd.R_far (p := ⟨gb723, 1, none⟩) (Kd.R_far (p := ⟨gb723, 0, none⟩) (Kd.R_types HO_732002.out BK723.out (by decide)) (fun _ hk => hk.2) (.int .i64 t724)) (fun _ hk => hk.2) (.slice Ao15 t725.length co15)) (fun _ hk => hk.2) (.slice Ao54 x732002_1.length co54)) (fun _ hk => hk.1), bl HB.out⟩
end Go.Proofs.Ytbpjidekjogfeaa.A

namespace Go.Proofs.Ytbpjidekjogfeaa.A
open Go.RowKit Go.Proofs.YtbpjidekjogfeaaW.PrintWords Go.Proofs.YtbpjidekjogfeaaW.PrintLast Go.Proofs.YtbpjidekjogfeaaW.PrintMore
attribute [local go_sem] max2_int min2_int max_two min_two max_three min_three max_four min_four   
set_option linter.unusedVariables false
set_option linter.unusedSimpArgs false
def impl_placed.f (k : Nat) (a0_0 : Int) (l0_1 : List Int) (l0_2 : List (S98)) (a1_0 : Int) (a1_1 : Int) (a1_2 : Int) (a2 : Int) (a3 : Int) : Option (Int × List Int × (List (S98))) := (some (([(⟨a1_1, a3, a2, false⟩ : S98)] : List (S98)) : List (S98))).bind fun y756 => (if a1_2 > a3 then (if y756.length < 4398046511104 then ((impl_filled.f k a0_0 l0_1 l0_2 a1_1 (y756 ++ [(⟨wrap64 (a1_1 + a3), wrap64 (a1_2 - a3), 0, false⟩ : S98)])).bind fun bt762 => (some (bt762.1, bt762.2.1, bt762.2.2))) else (none)) else ((impl_filled.f k a0_0 l0_1 l0_2 a1_1 y756).bind fun bt769 => (some (bt769.1, bt769.2.1, bt769.2.2))))
set_option maxHeartbeats 8000000 in
set_option maxRecDepth 100000 in
theorem impl_placed.calls (k : Nat) (a0_0 : Int) (A0_1 : Option Addr) (c0_1 : Nat) (l0_1 : List Int) (A0_2 : Option Addr) (c0_2 : Nat) (l0_2 : List (S98)) (a1_0 : Int) (a1_1 : Int) (a1_2 : Int) (a2 : Int) (a3 : Int) (r1 : Int) (r2 : List Int) (r3 : List (S98)) (w : World) (hr0_1 : Kd.C (Kd.int .i64) w A0_1 l0_1.length l0_1) (hc0_1 : l0_1.length ≤ c0_1) (hr0_2 : Kd.C k98 w A0_2 l0_2.length l0_2) (hc0_2 : l0_2.length ≤ c0_2) (h : impl_placed.f k a0_0 l0_1 l0_2 a1_0 a1_1 a1_2 a2 a3 = some (r1, r2, r3)) :
  Calls Try.prog 82 #[.agg #[.int .i64 a0_0, .slice A0_1 l0_1.length c0_1, .slice A0_2 l0_2.length c0_2], .agg #[.int .i64 a1_0, .int .i64 a1_1, .int .i64 a1_2], .int .i64 a2, .int .i64 a3] w fun e w' => ∃ v1_ v2_ : Value, e = .returned (.agg #[.int .i64 r1, v1_, v2_]) ∧ Kd.R (Kd.int .i64) 3 w' w.heap.size (fun _ => True) v1_ r2 ∧ Kd.R k98 98 w' w.heap.size (fun _ => True) v2_ r3 ∧ Below w.heap.size w w' := by
 have hu41 := Try.underlying41
 have hu50 := Try.underlying50
 have hu98 := Try.underlying98
 have HR0_1 := Aside0.mk hr0_1
 have HC0_1 := Aside0.mk hc0_1
 clear hr0_1 hc0_1
 have HR0_2 := Aside0.mk hr0_2
 have HC0_2 := Aside0.mk hc0_2
 clear hr0_2 hc0_2
 have HB := Aside0.mk (Below.refl w.heap.size w)
 have H : ((some (([(⟨a1_1, a3, a2, false⟩ : S98)] : List (S98)) : List (S98))).bind fun y756 => (if a1_2 > a3 then (if y756.length < 4398046511104 then ((impl_filled.f k a0_0 l0_1 l0_2 a1_1 (y756 ++ [(⟨wrap64 (a1_1 + a3), wrap64 (a1_2 - a3), 0, false⟩ : S98)])).bind fun bt762 => (some (bt762.1, bt762.2.1, bt762.2.2))) else (none)) else ((impl_filled.f k a0_0 l0_1 l0_2 a1_1 y756).bind fun bt769 => (some (bt769.1, bt769.2.1, bt769.2.2))))) = some (r1, r2, r3) := h
 clear h
 obtain ⟨y756, hy756⟩ : ∃ y_ : List (S98), y_ = (([(⟨a1_1, a3, a2, false⟩ : S98)] : List (S98))) := ⟨_, rfl⟩
 replace H : (if a1_2 > a3 then (if y756.length < 4398046511104 then ((impl_filled.f k a0_0 l0_1 l0_2 a1_1 (y756 ++ [(⟨wrap64 (a1_1 + a3), wrap64 (a1_2 - a3), 0, false⟩ : S98)])).bind fun bt762 => (some (bt762.1, bt762.2.1, bt762.2.2))) else (none)) else ((impl_filled.f k a0_0 l0_1 l0_2 a1_1 y756).bind fun bt769 => (some (bt769.1, bt769.2.1, bt769.2.2)))) = some (r1, r2, r3) := by first | (rw [hy756]; with_reducible exact H) | (have H2_ := (Option.bind_some _ _).symm.trans H; rw [hy756]; with_reducible exact H2_) | (have H2_ := (Option.bind_some _ _).symm.trans H; with_reducible exact H2_) | with_reducible exact H | (rw [hy756]; exact H) | exact H
 have Ny756 := Aside0.mk hy756
 clear hy756
 by_cases c5 : a1_2 > a3
 ·rw [if_pos c5] at H
  have c5b0 : decide (a3 < a1_2) = true := decide_eq_true c5
  clear c5
  by_cases c6 : y756.length < 4398046511104
  ·rw [if_pos c6] at H
   have LMc6 := Aside0.mk c6
   clear c6
   obtain ⟨y759, hy759⟩ : ∃ y_ : List (S98), y_ = (y756 ++ [(⟨wrap64 (a1_1 + a3), wrap64 (a1_2 - a3), 0, false⟩ : S98)]) := ⟨_, rfl⟩
   replace H : ((impl_filled.f k a0_0 l0_1 l0_2 a1_1 y759).bind fun bt762 => (some (bt762.1, bt762.2.1, bt762.2.2))) = some (r1, r2, r3) := by first | (rw [hy759]; with_reducible exact H) | (have H2_ := (Option.bind_some _ _).symm.trans H; rw [hy759]; with_reducible exact H2_) | (have H2_ := (Option.bind_some _ _).symm.trans H; with_reducible exact H2_) | with_reducible exact H | (rw [hy759]; exact H) | exact H
   have Ny759 := Aside0.mk hy759
   clear hy759
   replace H := Option.bind_eq_some_iff.mp H
   obtain ⟨⟨t762, t763, t766⟩, A70, H⟩ := H
   try dsimp only at H
   have A7 := Aside0.mk A70
   clear A70
   simp only [Option.some.injEq, Prod.mk.injEq] at H
   obtain ⟨rfl, rfl, rfl⟩ := H
   go_enter Try.func82, Try.ntmps82
   go_wp2_with (first | ((with_reducible refine gate_dst (N := 4) rfl ?_); refine bx (cs := #[.int .i64 a0_0, .slice A0_1 l0_1.length c0_1, .slice A0_2 l0_2.length c0_2]) (t := 41) fun gb753 hg w8 hbox hb => ?_; have BK753 := Aside0.mk (hbox); have GW753 := Aside0.mk (gs HB.out hg); have GE753 := Aside0.mk (gs HB.out hg); replace HB := Aside0.mk (below_step (bl HB.out) hb); clear hb hbox hg) | ((with_reducible refine gate_dst (N := 5) rfl ?_); refine bx (cs := #[.int .i64 a1_0, .int .i64 a1_1, .int .i64 a1_2]) (t := 50) fun gb754 hg w9 hbox hb => ?_; have BK754 := Aside0.mk (hbox); have GW754 := Aside0.mk (gs HB.out hg); have GE754 := Aside0.mk (gs HB.out hg); replace HB := Aside0.mk (below_step (bl HB.out) hb); have NB753_754 := Aside0.mk ((nl BK753.out hg)); have NB754_753 := Aside0.mk ((ng BK753.out hg)); replace BK753 := Aside0.mk (bb BK753.out hb); clear hb hbox hg) | ((with_reducible refine gate_dst (N := 8) rfl ?_); refine bx (cs := #[.int .i64 0, .slice none 0 0, .slice none 0 0]) (t := 41) fun gb755 hg w10 hbox hb => ?_; have BK755 := Aside0.mk (hbox); have GW755 := Aside0.mk (gs HB.out hg); have GE755 := Aside0.mk (gs HB.out hg); replace HB := Aside0.mk (below_step (bl HB.out) hb); have NB753_755 := Aside0.mk ((nl BK753.out hg)); have NB755_753 := Aside0.mk ((ng BK753.out hg)); replace BK753 := Aside0.mk (bb BK753.out hb); have NB754_755 := Aside0.mk ((nl BK754.out hg)); have NB755_754 := Aside0.mk ((ng BK754.out hg)); replace BK754 := Aside0.mk (bb BK754.out hb); clear hb hbox hg; have hnb11 := NB754_753.out; have hnc11 := NB753_754.out; have hnb12 := NB754_755.out; have hnc12 := NB755_754.out; obtain ⟨hcz13_0, hcz13_1, hcz13_2, hfz13_0, hfz13_1, hfz13_2⟩ := cz3 BK754.out) | ((with_reducible refine gate_dst (N := 15) rfl ?_); refine Kd.R_lit k98 _ 98 ?hg (N := 15) ?hd (xs := ([(⟨a1_1, a3, a2, false⟩ : S98)] : List (S98))) (inner := [.int .i64 a1_1, .int .i64 a3, .int .i64 a2, .bool false]) (ok := fun _ => True) (okp := fun _ => True) ?hr ?hp (fun _ hk => hk) trivial (Below.refl _ _) (Nat.le_refl _) (by simp) ?_; (case hd => rfl); (case hg => rfl); (case hr => first | (go_simp; done) | (go_simp; rfl)); (case hp => exact (Reps.c4 (show Kd.M k98 _ _ _ (⟨a1_1, a3, a2, false⟩ : S98) [.int .i64 a1_1, .int .i64 a3, .int .i64 a2, .bool false] from (k98_mkM _ _ _ (⟨a1_1, a3, a2, false⟩ : S98) )) (Reps.none _ _))); intro v757 w14 ho15 hb hg_ hnew_; clear hg_ hnew_; (first | rw [← Ny756.out] at ho15 | (simp only [Int.reduceToNat] at ho15; rw [← Ny756.out] at ho15)); have HO758 := Aside0.mk (Kd.R_lower ho15 (below_size (bl HB.out))); replace BK753 := Aside0.mk (bb BK753.out hb); replace BK754 := Aside0.mk (bb BK754.out hb); replace BK755 := Aside0.mk (bb BK755.out hb); replace HB := Aside0.mk (below_step (bl HB.out) hb); clear hb ho15; obtain ⟨hcz16_0, hcz16_1, hcz16_2, hfz16_0, hfz16_1, hfz16_2⟩ := cz3 BK754.out) | ((with_reducible refine gate_builtin (b := .append) (xs := #[.tmp 20, .tmp 30]) rfl ?_); at_builtin; refine Kd.R_append k98 (w0 := w) w.heap.size rfl (.tmp 20) (.tmp 30) 39 98 (.agg #[(.int .i64 0), (.int .i64 0), (.int .i64 0), (.bool false)]) 32 rfl Try.underlying39 info98 rfl (by decide) (by omega) v757 y756 (⟨wrap64 (a1_1 + a3), wrap64 (a1_2 - a3), 0, false⟩ : S98) [.int .i64 (wrap64 (a1_1 + a3)), .int .i64 (wrap64 (a1_2 - a3)), .int .i64 0, .bool false] (fun _ => True) (fun _ => False) rfl rfl ?aP (fun _ hk => hk.elim) ?aF ?aO ?aB ?aS ?aL ?_; (case aP => exact k98_mkM _ _ _ (⟨wrap64 (a1_1 + a3), wrap64 (a1_2 - a3), 0, false⟩ : S98)); (case aB => exact (bl HB.out)); (case aF => exact (fun _ _ => trivial)); (case aO => exact (rk HO758.out)); (case aS => exact (below_size (bl HB.out))); (case aL => have := LMc6.out; omega); intro v760 w17 ho hb hg hat; rw [← Ny759.out] at ho; replace BK753 := Aside0.mk (blk_grown (g := gb753) (o := .cells #[.int .i64 a0_0, .slice A0_1 l0_1.length c0_1, .slice A0_2 l0_2.length c0_2] 41 (0, 0)) (bk BK753.out) hg (Kd.R_ne HO758.out BK753.out (by decide))); replace BK754 := Aside0.mk (blk_grown (g := gb754) (o := .cells #[.int .i64 a1_0, .int .i64 a1_1, .int .i64 a1_2] 50 (0, 0)) (bk BK754.out) hg (Kd.R_ne HO758.out BK754.out (by decide))); replace BK755 := Aside0.mk (blk_grown (g := gb755) (o := .cells #[.int .i64 0, .slice none 0 0, .slice none 0 0] 41 (0, 0)) (bk BK755.out) hg (Kd.R_ne HO758.out BK755.out (by decide))); replace HB := Aside0.mk (hb); have HO761 := Aside0.mk (ho); clear HO758; clear ho hb hg hat; have hnb18 := NB753_755.out; have hnc18 := NB755_753.out; obtain ⟨hcz19_0, hcz19_1, hcz19_2, hfz19_0, hfz19_1, hfz19_2⟩ := cz3 BK753.out; obtain ⟨hcz20_0, hcz20_1, hcz20_2, hfz20_0, hfz20_1, hfz20_2⟩ := cz3 BK754.out; obtain ⟨Ao21, co21, eo21⟩ := Kd.R_slice HO761.out; subst eo21) | ((with_reducible refine gate_callee (f := 118) rfl ?_); refine goesL_ (some 36) rfl rfl Try.func118 (by kernel_rfl) rfl #[.agg #[.int .i64 a0_0, .slice A0_1 l0_1.length c0_1, .slice A0_2 l0_2.length c0_2], .int .i64 a1_1, .slice Ao21 y759.length co21] rfl mapd ?_; (with_reducible refine (impl_filled.calls k a0_0 _ _ l0_1 (fun k_ => k_ < w.heap.size) _ _ l0_2 a1_1 (fun k_ => some k_ = (.slice Ao21 y759.length co21 : Value).ownBlock) _ _ y759 t762 t763 t766 _ ?side1 ?side2 ?side3 ?side4 A7.out).mono ?_); (case side1 => exact cb (Kd.C_below HR0_1.out HB.out)); (case side2 => exact HC0_1.out); (case side3 => exact Kd.V_mk HC0_2.out (Kd.F_below (Kd.C_F k98_heap HR0_2.out) (bl HB.out))); (case side4 => exact Kd.R_V (Kd.R_tight rfl (Kd.R_types (Kd.R_types (Kd.R_types (HO761.out) BK753.out (by decide)) BK754.out (by decide)) BK755.out (by decide)))); rintro e w22 ⟨v764, v767, rfl, ho0, ho1, hb⟩; refine ⟨_, rfl, ?_⟩; have HO765 := Aside0.mk (Kd.R_lower (Kd.R_mono (ok' := fun k_ => True) ho0 (fun _ hk_ => trivial)) (below_size (bl HB.out))); have HO768 := Aside0.mk (Kd.R_lower (Kd.R_new' (Kd.R_mono (ok' := fun k_ => True) ho1 (fun _ hk_ => trivial)) (Kd.R_lt (rk HO761.out))) (below_size (bl HB.out))); replace HO761 := Aside0.mk (Kd.R_elder' (rk HO761.out) (Kd.R_base ho1) hb); replace BK753 := Aside0.mk (bb BK753.out hb); replace BK754 := Aside0.mk (bb BK754.out hb); replace BK755 := Aside0.mk (bb BK755.out hb); replace HB := Aside0.mk (below_step (bl HB.out) hb); (try clear hb); (try clear hb2); (try clear hk); (try clear hi); (try clear ho0); (try clear ho1); obtain ⟨hcz23_0, hcz23_1, hcz23_2, hfz23_0, hfz23_1, hfz23_2⟩ := cz3 BK755.out; obtain ⟨Ao24, co24, eo24⟩ := Kd.R_slice HO765.out; subst eo24; obtain ⟨Ao25, co25, eo25⟩ := Kd.R_slice HO768.out; subst eo25))
   refine bodyPost_ret (results_cell_row rfl _ _ gb755 41 #[.int .i64 t762, .slice Ao24 t763.length co24, .slice Ao25 t766.length co25] (0, 0) _ rfl (by refine bk ?_; refine blk_put (cs := #[.int .i64 t762, .slice Ao24 t763.length co24, .slice none 0 0]) ?_ 2 _ rfl; refine bk ?_; refine blk_put (cs := #[.int .i64 t762, .slice none 0 0, .slice none 0 0]) ?_ 1 _ rfl; refine bk ?_; refine blk_put (cs := #[.int .i64 0, .slice none 0 0, .slice none 0 0]) ?_ 0 _ rfl; refine bk ?_; exact BK755.out) Try.underlying41 rfl (by kernel_rfl)) rfl ?_
   exact ⟨_, _, by first | rfl | (simp [errW_none, errW_some] <;> rfl) | (simp [*, errW_none, errW_some] <;> rfl), by refine rk ?_; exact Kd.R_mono (Kd.R_far (p := ⟨gb755, 2, none⟩) (Kd.R_far (p := ⟨gb755, 1, none⟩) (Kd.R_far (p := ⟨gb755, 0, none⟩) (Kd.R_types HO765.out BK755.out (by decide)) (fun _ hk => hk.2) (.int .i64 t762)) (fun _ hk => hk.2) (.slice Ao24 t763.length co24)) (fun _ hk => hk.2) (.slice Ao25 t766.length co25)) (fun _ hk => trivial), by refine rk ?_; exact Kd.R_mono (Kd.R_far (p := ⟨gb755, 2, none⟩) (Kd.R_far (p := ⟨gb755, 1, none⟩) (Kd.R_far (p := ⟨gb755, 0, none⟩) (Kd.R_types HO768.out BK755.out (by decide)) (fun _ hk => hk.2) (.int .i64 t762)) (fun _ hk => hk.2) (.slice Ao24 t763.length co24)) (fun _ hk => hk.2) (.slice Ao25 t766.length co25)) (fun _ hk => trivial), bl HB.out⟩
  ·rw [if_neg c6] at H
   exact absurd H (by simp)
 ·rw [if_neg c5] at H
  have c5b0 : decide (a3 < a1_2) = false := decide_eq_false c5
  clear c5
  replace H := Option.bind_eq_some_iff.mp H
  obtain ⟨⟨t769, t770, t773⟩, A260, H⟩ := H
  try dsimp only at H
  have A26 := Aside0.mk A260
  clear A260
  simp only [Option.some.injEq, Prod.mk.injEq] at H
  obtain ⟨rfl, rfl, rfl⟩ := H
  go_enter Try.func82, Try.ntmps82
  go_wp2_with (first | ((with_reducible refine gate_dst (N := 4) rfl ?_); refine bx (cs := #[.int .i64 a0_0, .slice A0_1 l0_1.length c0_1, .slice A0_2 l0_2.length c0_2]) (t := 41) fun gb753 hg w27 hbox hb => ?_; have BK753 := Aside0.mk (hbox); have GW753 := Aside0.mk (gs HB.out hg); have GE753 := Aside0.mk (gs HB.out hg); replace HB := Aside0.mk (below_step (bl HB.out) hb); clear hb hbox hg) | ((with_reducible refine gate_dst (N := 5) rfl ?_); refine bx (cs := #[.int .i64 a1_0, .int .i64 a1_1, .int .i64 a1_2]) (t := 50) fun gb754 hg w28 hbox hb => ?_; have BK754 := Aside0.mk (hbox); have GW754 := Aside0.mk (gs HB.out hg); have GE754 := Aside0.mk (gs HB.out hg); replace HB := Aside0.mk (below_step (bl HB.out) hb); have NB753_754 := Aside0.mk ((nl BK753.out hg)); have NB754_753 := Aside0.mk ((ng BK753.out hg)); replace BK753 := Aside0.mk (bb BK753.out hb); clear hb hbox hg) | ((with_reducible refine gate_dst (N := 8) rfl ?_); refine bx (cs := #[.int .i64 0, .slice none 0 0, .slice none 0 0]) (t := 41) fun gb755 hg w29 hbox hb => ?_; have BK755 := Aside0.mk (hbox); have GW755 := Aside0.mk (gs HB.out hg); have GE755 := Aside0.mk (gs HB.out hg); replace HB := Aside0.mk (below_step (bl HB.out) hb); have NB753_755 := Aside0.mk ((nl BK753.out hg)); have NB755_753 := Aside0.mk ((ng BK753.out hg)); replace BK753 := Aside0.mk (bb BK753.out hb); have NB754_755 := Aside0.mk ((nl BK754.out hg)); have NB755_754 := Aside0.mk ((ng BK754.out hg)); replace BK754 := Aside0.mk (bb BK754.out hb); clear hb hbox hg; have hnb30 := NB754_753.out; have hnc30 := NB753_754.out; have hnb31 := NB754_755.out; have hnc31 := NB755_754.out; obtain ⟨hcz32_0, hcz32_1, hcz32_2, hfz32_0, hfz32_1, hfz32_2⟩ := cz3 BK754.out) | ((with_reducible refine gate_dst (N := 15) rfl ?_); refine Kd.R_lit k98 _ 98 ?hg (N := 15) ?hd (xs := ([(⟨a1_1, a3, a2, false⟩ : S98)] : List (S98))) (inner := [.int .i64 a1_1, .int .i64 a3, .int .i64 a2, .bool false]) (ok := fun _ => True) (okp := fun _ => True) ?hr ?hp (fun _ hk => hk) trivial (Below.refl _ _) (Nat.le_refl _) (by simp) ?_; (case hd => rfl); (case hg => rfl); (case hr => first | (go_simp; done) | (go_simp; rfl)); (case hp => exact (Reps.c4 (show Kd.M k98 _ _ _ (⟨a1_1, a3, a2, false⟩ : S98) [.int .i64 a1_1, .int .i64 a3, .int .i64 a2, .bool false] from (k98_mkM _ _ _ (⟨a1_1, a3, a2, false⟩ : S98) )) (Reps.none _ _))); intro v757 w33 ho34 hb hg_ hnew_; clear hg_ hnew_; (first | rw [← Ny756.out] at ho34 | (simp only [Int.reduceToNat] at ho34; rw [← Ny756.out] at ho34)); have HO758 := Aside0.mk (Kd.R_lower ho34 (below_size (bl HB.out))); replace BK753 := Aside0.mk (bb BK753.out hb); replace BK754 := Aside0.mk (bb BK754.out hb); replace BK755 := Aside0.mk (bb BK755.out hb); replace HB := Aside0.mk (below_step (bl HB.out) hb); clear hb ho34; obtain ⟨hcz35_0, hcz35_1, hcz35_2, hfz35_0, hfz35_1, hfz35_2⟩ := cz3 BK754.out; have hnb36 := NB753_755.out; have hnc36 := NB755_753.out; obtain ⟨hcz37_0, hcz37_1, hcz37_2, hfz37_0, hfz37_1, hfz37_2⟩ := cz3 BK753.out; obtain ⟨Ao38, co38, eo38⟩ := Kd.R_slice HO758.out; subst eo38) | ((with_reducible refine gate_callee (f := 118) rfl ?_); refine goesL_ (some 36) rfl rfl Try.func118 (by kernel_rfl) rfl #[.agg #[.int .i64 a0_0, .slice A0_1 l0_1.length c0_1, .slice A0_2 l0_2.length c0_2], .int .i64 a1_1, .slice Ao38 y756.length co38] rfl mapd ?_; (with_reducible refine (impl_filled.calls k a0_0 _ _ l0_1 (fun k_ => k_ < w.heap.size) _ _ l0_2 a1_1 (fun k_ => some k_ = (.slice Ao38 y756.length co38 : Value).ownBlock) _ _ y756 t769 t770 t773 _ ?side1 ?side2 ?side3 ?side4 A26.out).mono ?_); (case side1 => exact cb (Kd.C_below HR0_1.out HB.out)); (case side2 => exact HC0_1.out); (case side3 => exact Kd.V_mk HC0_2.out (Kd.F_below (Kd.C_F k98_heap HR0_2.out) (bl HB.out))); (case side4 => exact Kd.R_V (Kd.R_tight rfl (Kd.R_types (Kd.R_types (Kd.R_types (HO758.out) BK753.out (by decide)) BK754.out (by decide)) BK755.out (by decide)))); rintro e w39 ⟨v771, v774, rfl, ho0, ho1, hb⟩; refine ⟨_, rfl, ?_⟩; have HO772 := Aside0.mk (Kd.R_lower (Kd.R_mono (ok' := fun k_ => True) ho0 (fun _ hk_ => trivial)) (below_size (bl HB.out))); have HO775 := Aside0.mk (Kd.R_lower (Kd.R_new' (Kd.R_mono (ok' := fun k_ => True) ho1 (fun _ hk_ => trivial)) (Kd.R_lt (rk HO758.out))) (below_size (bl HB.out))); replace HO758 := Aside0.mk (Kd.R_elder' (rk HO758.out) (Kd.R_base ho1) hb); replace BK753 := Aside0.mk (bb BK753.out hb); replace BK754 := Aside0.mk (bb BK754.out hb); replace BK755 := Aside0.mk (bb BK755.out hb); replace HB := Aside0.mk (below_step (bl HB.out) hb); (try clear hb); (try clear hb2); (try clear hk); (try clear hi); (try clear ho0); (try clear ho1); obtain ⟨hcz40_0, hcz40_1, hcz40_2, hfz40_0, hfz40_1, hfz40_2⟩ := cz3 BK755.out; obtain ⟨Ao41, co41, eo41⟩ := Kd.R_slice HO772.out; subst eo41; obtain ⟨Ao42, co42, eo42⟩ := Kd.R_slice HO775.out; subst eo42))
  refine bodyPost_ret (results_cell_row rfl _ _ gb755 41 #[.int .i64 t769, .slice Ao41 t770.length co41, .slice Ao42 t773.length co42] (0, 0) _ rfl (by refine bk ?_; refine blk_put (cs := #[.int .i64 t769, .slice Ao41 t770.length co41, .slice none 0 0]) ?_ 2 _ rfl; refine bk ?_; refine blk_put (cs := #[.int .i64 t769, .slice none 0 0, .slice none 0 0]) ?_ 1 _ rfl; refine bk ?_; refine blk_put (cs := #[.int .i64 0, .slice none 0 0, .slice none 0 0]) ?_ 0 _ rfl; refine bk ?_; exact BK755.out) Try.underlying41 rfl (by kernel_rfl)) rfl ?_
  exact ⟨_, _, by first | rfl | (simp [errW_none, errW_some] <;> rfl) | (simp [*, errW_none, errW_some] <;> rfl), by refine rk ?_; exact Kd.R_mono (Kd.R_far (p := ⟨gb755, 2, none⟩) (Kd.R_far (p := ⟨gb755, 1, none⟩) (Kd.R_far (p := ⟨gb755, 0, none⟩) (Kd.R_types HO772.out BK755.out (by decide)) (fun _ hk => hk.2) (.int .i64 t769)) (fun _ hk => hk.2) (.slice Ao41 t770.length co41)) (fun _ hk => hk.2) (.slice Ao42 t773.length co42)) (fun _ hk => trivial), by refine rk ?_; exact Kd.R_mono (Kd.R_far (p := ⟨gb755, 2, none⟩) (Kd.R_far (p := ⟨gb755, 1, none⟩) (Kd.R_far (p := ⟨gb755, 0, none⟩) (Kd.R_types HO775.out BK755.out (by decide)) (fun _ hk => hk.2) (.int .i64 t769)) (fun _ hk => hk.2) (.slice Ao41 t770.length co41)) (fun _ hk => hk.2) (.slice Ao42 t773.length co42)) (fun _ hk => trivial), bl HB.out⟩
end Go.Proofs.Ytbpjidekjogfeaa.A
