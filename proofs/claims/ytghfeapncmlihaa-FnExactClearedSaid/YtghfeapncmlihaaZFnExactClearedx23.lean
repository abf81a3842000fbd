/- What the proof of the law FnExactCleared uses: lemmas, the Lean functions of the Go functions that it reaches, their contracts, and the pure statement's proof. -/
import Derived.Test.YtghfeapncmlihaaZFnExactClearedx14
import Derived.Test.YtghfeapncmlihaaZFnExactClearedx21
import Derived.Test.YtghfeapncmlihaaZFnExactClearedx22
import Derived.Test.YtghfeapncmlihaaZFnExactClearedh
namespace Go.Proofs.Ytghfeapncmlihaa.A
open Go.RowKit Go.Proofs.YtghfeapncmlihaaW.PrintWords Go.Proofs.YtghfeapncmlihaaW.PrintLast Go.Proofs.YtghfeapncmlihaaW.PrintMore
attribute [local go_sem] max2_int min2_int max_two min_two max_three min_three max_four min_four   
set_option linter.unusedVariables false
set_option linter.unusedSimpArgs false
def impl_filled.l0 : Nat → Int → List (S71) → List (S85) → Int → Int → Int → List Int → List (S71) → Int → List Int → List (S71) → Option (Int × List Int × (List (S71)))
  | 0, _, _, _, _, _, _, _, _, _, _, _ => none
  | k + 1, x1, x2, x13, x14, x15, x894000, x894001, x894002, x903000, x903001, x903002 => if x15 < x14 then (if 0 ≤ x15 then (if x15 < (x13.length : Int) then (if ((rd_T85 x13 x15).f0.f1) = x1 then (if 0 ≤ ((rd_T85 x13 x15).f1) then (if ((rd_T85 x13 x15).f1) ≤ (x894002.length : Int) then (if 0 ≤ ((rd_T85 x13 x15).f2) then (if ((rd_T85 x13 x15).f2) ≤ (x894002.length : Int) then ((impl_Box_95.f k (([(x894002.take (((rd_T85 x13 x15).f1) : Int).toNat), x2, (x894002.drop (((rd_T85 x13 x15).f2) : Int).toNat)] : List (List (S71))))).bind fun t921 => (impl_filled.l0 k x1 x2 x13 x14 (wrap64 (x15 + 1)) x894000 x894001 x894002 x903000 x903001 t921)) else (none)) else (none)) else (none)) else (none)) else (impl_filled.l0 k x1 x2 x13 x14 (wrap64 (x15 + 1)) x894000 x894001 x894002 x903000 x903001 x903002)) else (none)) else (none)) else (some (x903000, x903001, x903002))
def impl_filled.f (k : Nat) (a0_0 : Int) (l0_1 : List Int) (l0_2 : List (S71)) (a1 : Int) (l2 : List (S71)) : Option (Int × List Int × (List (S71))) := (impl_copyColumn.f a0_0 l0_1 l0_2).bind fun bt895 => ((impl_runsOf.f k a0_0 l0_1 l0_2).bind fun t903 => (impl_filled.l0 k a1 l2 t903 (t903.length : Int) 0 a0_0 l0_1 l0_2 bt895.1 bt895.2.1 bt895.2.2))
def impl_filled.T6 : Bool × List (List Nat × List Nat) := (true, [([], []), ([0], [0]), ([], []), ([2], [2]), ([1, 3], [1, 3]), ([], []), ([], []), ([6], [6]), ([], []), ([8], [8]), ([7, 9], [7, 9]), ([4, 5, 10], [4, 5, 10]), ([11], [11]), ([0, 1, 2, 3, 4, 5, 6, 7, 8, 9, 10, 11, 12], []), ([13, 12, 12, 0, 1, 2, 3, 4, 5, 6, 7, 8, 9, 10, 11, 12], [12, 13])])
def impl_filled.B6 : List Nat := [0, 1, 0, 4, 15, 0, 0, 64, 0, 256, 960, 2047, 4095, 8191, 16383]
theorem impl_filled.tab6 : rtab .any (opsOf Try.f81 6) = impl_filled.T6 := by kernel_rfl
theorem impl_filled.bits6 : waitsOk impl_filled.T6.2 impl_filled.B6 = true := by kernel_rfl
set_option maxHeartbeats 8000000 in
set_option maxRecDepth 100000 in
theorem impl_filled.calls (k : Nat) (a0_0 : Int) (A0_1 : Option Addr) (c0_1 : Nat) (l0_1 : List Int) (P0_2_ : Nat → Prop) (A0_2 : Option Addr) (c0_2 : Nat) (l0_2 : List (S71)) (a1 : Int) (P2_ : Nat → Prop) (A2 : Option Addr) (c2 : Nat) (l2 : List (S71)) (r1 : Int) (r2 : List Int) (r3 : List (S71)) (w : World) (hr0_1 : Kd.C (Kd.int .i64) w A0_1 l0_1.length l0_1) (hc0_1 : l0_1.length ≤ c0_1) (hs0_2 : Kd.V k71 71 w w.heap.size (fun k_ => P0_2_ k_) (.slice A0_2 l0_2.length c0_2) l0_2) (hs2 : Kd.V k71 71 w w.heap.size (fun k_ => P2_ k_) (.slice A2 l2.length c2) l2) (h : impl_filled.f k a0_0 l0_1 l0_2 a1 l2 = some (r1, r2, r3)) :
    Calls Try.prog 81 #[.agg #[.int .i64 a0_0, .slice A0_1 l0_1.length c0_1, .slice A0_2 l0_2.length c0_2], .int .i64 a1, .slice A2 l2.length c2] w fun e w' => ∃ v1_ v2_ : Value, e = .returned (.agg #[.int .i64 r1, v1_, v2_]) ∧ Kd.R (Kd.int .i64) 3 w' w.heap.size (fun k_ => (w.heap.size ≤ k_)) v1_ r2 ∧ Kd.R k71 71 w' w.heap.size (fun k_ => (w.heap.size ≤ k_)) v2_ r3 ∧ Below w.heap.size w w' := by
  have hu30 := Try.underlying30
  have hu85 := Try.underlying85
  have HR0_1 := Aside0.mk hr0_1
  have HC0_1 := Aside0.mk hc0_1
  clear hr0_1 hc0_1
  have HO0_2 := Aside0.mk (show Kd.V k71 71 w w.heap.size (fun k_ => ((P0_2_ k_ ∨ P2_ k_) ∨ w.heap.size ≤ k_)) (.slice A0_2 l0_2.length c0_2) l0_2 from Kd.V_mono hs0_2 (fun k_ hk => .inl (.inl hk)))
  have HO2 := Aside0.mk (show Kd.V k71 71 w w.heap.size (fun k_ => ((P0_2_ k_ ∨ P2_ k_) ∨ w.heap.size ≤ k_)) (.slice A2 l2.length c2) l2 from Kd.V_mono hs2 (fun k_ hk => .inl (.inr hk)))
  have HB := Aside0.mk (Below.refl w.heap.size w)
  have H : ((impl_copyColumn.f a0_0 l0_1 l0_2).bind fun bt895 => ((impl_runsOf.f k a0_0 l0_1 l0_2).bind fun t903 => (impl_filled.l0 k a1 l2 t903 (t903.length : Int) 0 a0_0 l0_1 l0_2 bt895.1 bt895.2.1 bt895.2.2))) = some (r1, r2, r3) := h
  clear h
  replace H := Option.bind_eq_some_iff.mp H
  obtain ⟨⟨t895, t896, t899⟩, A40, H⟩ := H
  replace H : ((impl_runsOf.f k a0_0 l0_1 l0_2).bind fun t903 => (impl_filled.l0 k a1 l2 t903 (t903.length : Int) 0 a0_0 l0_1 l0_2 t895 t896 t899)) = some (r1, r2, r3) := H
  have A4 := Aside0.mk A40
  clear A40
  replace H := Option.bind_eq_some_iff.mp H
  obtain ⟨t903, A50, H⟩ := H
  replace H : (impl_filled.l0 k a1 l2 t903 (t903.length : Int) 0 a0_0 l0_1 l0_2 t895 t896 t899) = some (r1, r2, r3) := H
  have A5 := Aside0.mk A50
  clear A50
  have H' := Aside0.mk H
  clear H
  go_enter Try.func81, Try.ntmps81
  go_wp2_with (first | ((with_reducible refine gate_dst (N := 3) rfl ?_); refine bx (cs := #[.int .i64 a0_0, .slice A0_1 l0_1.length c0_1, .slice A0_2 l0_2.length c0_2]) (t := 30) fun gb893 hg w6 hbox hb => ?_; have n0_ := Aside0.mk (Kd.V_below (Kd.V_elderB (by (with_reducible repeat (first | apply Kd.V_alloc | apply Kd.V_drewN | apply Kd.V_drew)); exact HO0_2.out) gb893 (Nat.le_of_eq hg.symm)) hb); have n1_ := Aside0.mk (Kd.V_below (Kd.V_elderB (by (with_reducible repeat (first | apply Kd.V_alloc | apply Kd.V_drewN | apply Kd.V_drew)); exact HO2.out) gb893 (Nat.le_of_eq hg.symm)) hb); have n2_ := Aside0.mk (below_step (bl HB.out) hb); have n3_ := Aside0.mk (hbox); have n4_ := Aside0.mk (gs HB.out hg); have n5_ := Aside0.mk (gs HB.out hg); clear HO0_2; clear HO2; clear HB; have HO0_2 := n0_; have HO2 := n1_; have HB := n2_; have BK893 := n3_; have GW893 := n4_; have GE893 := n5_; clear n0_ n1_ n2_ n3_ n4_ n5_; clear hb hbox hg) | ((with_reducible refine gate_dst (N := 6) rfl ?_); refine bx (cs := #[.int .i64 0, .slice none 0 0, .slice none 0 0]) (t := 30) fun gb894 hg w7 hbox hb => ?_; have n0_ := Aside0.mk (Kd.V_below (Kd.V_elderB (by (with_reducible repeat (first | apply Kd.V_alloc | apply Kd.V_drewN | apply Kd.V_drew)); exact HO0_2.out) gb894 (Nat.le_of_eq hg.symm)) hb); have n1_ := Aside0.mk (Kd.V_below (Kd.V_elderB (by (with_reducible repeat (first | apply Kd.V_alloc | apply Kd.V_drewN | apply Kd.V_drew)); exact HO2.out) gb894 (Nat.le_of_eq hg.symm)) hb); have n2_ := Aside0.mk (bb BK893.out hb); have n3_ := Aside0.mk (below_step (bl HB.out) hb); have n4_ := Aside0.mk (hbox); have n5_ := Aside0.mk (gs HB.out hg); have n6_ := Aside0.mk (gs HB.out hg); have n7_ := Aside0.mk ((nl BK893.out hg)); have n8_ := Aside0.mk ((ng BK893.out hg)); clear HO0_2; clear HO2; clear BK893; clear HB; have HO0_2 := n0_; have HO2 := n1_; have BK893 := n2_; have HB := n3_; have BK894 := n4_; have GW894 := n5_; have GE894 := n6_; have NB893_894 := n7_; have NB894_893 := n8_; clear n0_ n1_ n2_ n3_ n4_ n5_ n6_ n7_ n8_; clear hb hbox hg; have hnb8 := NB893_894.out; have hnc8 := NB894_893.out; have hcz9_0 : w7.cell? ⟨gb893, 0, none⟩ = some (.int .i64 a0_0) := (blk_cell BK893.out 0).trans rfl; have hcz9_1 : w7.cell? ⟨gb893, 1, none⟩ = some (.slice A0_1 l0_1.length c0_1) := (blk_cell BK893.out 1).trans rfl; have hcz9_2 : w7.cell? ⟨gb893, 2, none⟩ = some (.slice A0_2 l0_2.length c0_2) := (blk_cell BK893.out 2).trans rfl; have hfz9_0 := blk_frozen BK893.out 0; have hfz9_1 := blk_frozen BK893.out 1; have hfz9_2 := blk_frozen BK893.out 2) | ((with_reducible refine gate_callee (f := 72) rfl ?_); refine goesL_ (some 11) rfl rfl Try.func72 (by kernel_rfl) rfl #[.agg #[.int .i64 a0_0, .slice A0_1 l0_1.length c0_1, .slice A0_2 l0_2.length c0_2]] rfl (by (try simp only [List.map_toArray, List.map_cons, List.map_nil]); first | done | rfl | (simp only [List.length_drop, List.length_take]; rfl)) ?_; (with_reducible refine (impl_copyColumn.calls a0_0 _ _ l0_1 _ _ l0_2 t895 t896 t899 _ ?side1 ?side2 ?side3 ?side4 A4.out).mono ?_); (case side1 => repeat (first | exact (Kd.C_below HR0_1.out HB.out) | (with_reducible refine Kd.C_alloc ?_ _) | (with_reducible refine Kd.C_drewN ?_ _) | (with_reducible refine Kd.C_drew ?_))); (case side2 => exact HC0_1.out); (case side3 => repeat (first | exact (Kd.V_reads' HO0_2.out).2.2 | (with_reducible refine Kd.C_alloc ?_ _) | (with_reducible refine Kd.C_drewN ?_ _) | (with_reducible refine Kd.C_drew ?_))); (case side4 => exact (Kd.V_reads' HO0_2.out).2.1); rintro e w10 ⟨v897, v900, rfl, ho0, ho1, hb⟩; refine ⟨_, rfl, ?_⟩; have n0_ := Aside0.mk (Kd.V_mono (Kd.V_told (Kd.V_told (Kd.V_old (by (with_reducible repeat (first | apply Kd.V_alloc | apply Kd.V_drewN | apply Kd.V_drew)); exact HO0_2.out) hb) (Kd.R_base ho0)) (Kd.R_base ho1)) (fun _ h_ => h_.1)); have n1_ := Aside0.mk (Kd.V_mono (Kd.V_told (Kd.V_told (Kd.V_old (by (with_reducible repeat (first | apply Kd.V_alloc | apply Kd.V_drewN | apply Kd.V_drew)); exact HO2.out) hb) (Kd.R_base ho0)) (Kd.R_base ho1)) (fun _ h_ => h_.1)); have n2_ := Aside0.mk (Kd.R_lower (Kd.R_newM (M := fun k_ => (w.heap.size ≤ k_)) ho0 (below_size (bl HB.out)) (fun k_ h_ => h_)) (below_size (bl HB.out))); have n3_ := Aside0.mk (Kd.R_lower (Kd.R_newM (M := fun k_ => (w.heap.size ≤ k_)) ho1 (below_size (bl HB.out)) (fun k_ h_ => h_)) (below_size (bl HB.out))); have n4_ := Aside0.mk (bb BK893.out hb); have n5_ := Aside0.mk (bb BK894.out hb); have n6_ := Aside0.mk (below_step (bl HB.out) hb); clear HO0_2; clear HO2; clear BK893; clear BK894; clear HB; have HO0_2 := n0_; have HO2 := n1_; have HO898 := n2_; have HO901 := n3_; have BK893 := n4_; have BK894 := n5_; have HB := n6_; clear n0_ n1_ n2_ n3_ n4_ n5_ n6_; (try clear hb); (try clear hb2); (try clear hk); (try clear hi); (try clear ho0); (try clear ho1)) | ((with_reducible refine gate_dst (N := 7) rfl ?_); refine bx (cs := #[.int .i64 0, .slice none 0 0, .slice none 0 0]) (t := 30) fun gb902 hg w11 hbox hb => ?_; have n0_ := Aside0.mk (Kd.V_below (Kd.V_elderB (by (with_reducible repeat (first | apply Kd.V_alloc | apply Kd.V_drewN | apply Kd.V_drew)); exact HO0_2.out) gb902 (Nat.le_of_eq hg.symm)) hb); have n1_ := Aside0.mk (Kd.V_below (Kd.V_elderB (by (with_reducible repeat (first | apply Kd.V_alloc | apply Kd.V_drewN | apply Kd.V_drew)); exact HO2.out) gb902 (Nat.le_of_eq hg.symm)) hb); have n2_ := Aside0.mk (Kd.R_below (rk HO898.out) hb); have n3_ := Aside0.mk (Kd.R_below (rk HO901.out) hb); have n4_ := Aside0.mk (bb BK893.out hb); have n5_ := Aside0.mk (bb BK894.out hb); have n6_ := Aside0.mk (below_step (bl HB.out) hb); have n7_ := Aside0.mk (hbox); have n8_ := Aside0.mk (gs HB.out hg); have n9_ := Aside0.mk (gs HB.out hg); have n10_ := Aside0.mk ((nl BK893.out hg)); have n11_ := Aside0.mk ((ng BK893.out hg)); have n12_ := Aside0.mk ((nl BK894.out hg)); have n13_ := Aside0.mk ((ng BK894.out hg)); clear HO0_2; clear HO2; clear HO898; clear HO901; clear BK893; clear BK894; clear HB; have HO0_2 := n0_; have HO2 := n1_; have HO898 := n2_; have HO901 := n3_; have BK893 := n4_; have BK894 := n5_; have HB := n6_; have BK902 := n7_; have GW902 := n8_; have GE902 := n9_; have NB893_902 := n10_; have NB902_893 := n11_; have NB894_902 := n12_; have NB902_894 := n13_; clear n0_ n1_ n2_ n3_ n4_ n5_ n6_ n7_ n8_ n9_ n10_ n11_ n12_ n13_; clear hb hbox hg; have hnb12 := NB902_893.out; have hnc12 := NB893_902.out; have hnb13 := NB902_894.out; have hnc13 := NB894_902.out; have hcz14_0 : w11.cell? ⟨gb902, 0, none⟩ = some (.int .i64 0) := (blk_cell BK902.out 0).trans rfl; have hcz14_1 : w11.cell? ⟨gb902, 1, none⟩ = some (.slice none 0 0) := (blk_cell BK902.out 1).trans rfl; have hcz14_2 : w11.cell? ⟨gb902, 2, none⟩ = some (.slice none 0 0) := (blk_cell BK902.out 2).trans rfl; have hfz14_0 := blk_frozen BK902.out 0; have hfz14_1 := blk_frozen BK902.out 1; have hfz14_2 := blk_frozen BK902.out 2; obtain ⟨Ao15, co15, eo15⟩ := Kd.R_slice HO898.out; subst eo15; obtain ⟨Ao16, co16, eo16⟩ := Kd.R_slice HO901.out; subst eo16; have hcz17_0 : w11.cell? ⟨gb893, 0, none⟩ = some (.int .i64 a0_0) := (blk_cell BK893.out 0).trans rfl; have hcz17_1 : w11.cell? ⟨gb893, 1, none⟩ = some (.slice A0_1 l0_1.length c0_1) := (blk_cell BK893.out 1).trans rfl; have hcz17_2 : w11.cell? ⟨gb893, 2, none⟩ = some (.slice A0_2 l0_2.length c0_2) := (blk_cell BK893.out 2).trans rfl; have hfz17_0 := blk_frozen BK893.out 0; have hfz17_1 := blk_frozen BK893.out 1; have hfz17_2 := blk_frozen BK893.out 2) | ((with_reducible refine gate_callee (f := 77) rfl ?_); refine goesL_ (some 13) rfl rfl Try.func77 (by kernel_rfl) rfl #[.agg #[.int .i64 a0_0, .slice A0_1 l0_1.length c0_1, .slice A0_2 l0_2.length c0_2]] rfl (by (try simp only [List.map_toArray, List.map_cons, List.map_nil]); first | done | rfl | (simp only [List.length_drop, List.length_take]; rfl)) ?_; (with_reducible refine (impl_runsOf.calls k a0_0 _ _ l0_1 _ _ l0_2 t903 _ ?side1 ?side2 ?side3 ?side4 A5.out).mono ?_); (case side1 => exact Kd.C_below HR0_1.out (bl HB.out)); (case side2 => exact HC0_1.out); (case side3 => refine (Kd.V_reads' (e := 71) (base := w.heap.size) (ok := fun k_ => (((((((P0_2_ k_ ∨ P2_ k_) ∨ w.heap.size ≤ k_) ∧ k_ ≠ gb893) ∧ k_ ≠ gb894) ∧ some k_ ≠ (.slice Ao15 t896.length co15 : Value).ownBlock) ∧ some k_ ≠ (.slice Ao16 t899.length co16 : Value).ownBlock) ∧ k_ ≠ gb902)) (n := l0_2.length) (c := c0_2) ?_).2.2; exact (by (with_reducible repeat (first | apply Kd.V_alloc | apply Kd.V_drewN | apply Kd.V_drew)); exact (Kd.V_mono (Kd.V_far (p := ⟨gb902, 2, none⟩) (Kd.V_far (p := ⟨gb902, 1, none⟩) (Kd.V_far (p := ⟨gb902, 0, none⟩) (Kd.V_mono HO0_2.out (fun k_ hk => (⟨hk, hk.2⟩ : _ ∧ k_ ≠ gb902))) (fun _ hk => hk.2) (.int .i64 t895)) (fun _ hk => hk.2) (.slice Ao15 t896.length co15)) (fun _ hk => hk.2) (.slice Ao16 t899.length co16)) (fun _ h_ => h_.1)))); (case side4 => exact (Kd.V_reads' HO0_2.out).2.1); rintro e w18 ⟨v904, rfl, ho0, hb⟩; refine ⟨_, rfl, ?_⟩; have n0_ := Aside0.mk (Kd.V_elder' (by (with_reducible repeat (first | apply Kd.V_alloc | apply Kd.V_drewN | apply Kd.V_drew)); exact (Kd.V_mono (Kd.V_far (p := ⟨gb902, 2, none⟩) (Kd.V_far (p := ⟨gb902, 1, none⟩) (Kd.V_far (p := ⟨gb902, 0, none⟩) (Kd.V_mono HO0_2.out (fun k_ hk => (⟨hk, hk.2⟩ : _ ∧ k_ ≠ gb902))) (fun _ hk => hk.2) (.int .i64 t895)) (fun _ hk => hk.2) (.slice Ao15 t896.length co15)) (fun _ hk => hk.2) (.slice Ao16 t899.length co16)) (fun _ h_ => h_.1))) (Kd.R_base ho0) hb); have n1_ := Aside0.mk (Kd.V_elder' (by (with_reducible repeat (first | apply Kd.V_alloc | apply Kd.V_drewN | apply Kd.V_drew)); exact (Kd.V_mono (Kd.V_far (p := ⟨gb902, 2, none⟩) (Kd.V_far (p := ⟨gb902, 1, none⟩) (Kd.V_far (p := ⟨gb902, 0, none⟩) (Kd.V_mono HO2.out (fun k_ hk => (⟨hk, hk.2⟩ : _ ∧ k_ ≠ gb902))) (fun _ hk => hk.2) (.int .i64 t895)) (fun _ hk => hk.2) (.slice Ao15 t896.length co15)) (fun _ hk => hk.2) (.slice Ao16 t899.length co16)) (fun _ h_ => h_.1))) (Kd.R_base ho0) hb); have n2_ := Aside0.mk (Kd.R_below (by (with_reducible repeat (first | apply Kd.R_alloc | apply Kd.R_drewN | apply Kd.R_drew)); exact (Kd.R_mono (Kd.R_far (p := ⟨gb902, 2, none⟩) (Kd.R_far (p := ⟨gb902, 1, none⟩) (Kd.R_far (p := ⟨gb902, 0, none⟩) (Kd.R_types HO898.out BK902.out (by decide)) (fun _ hk => hk.2) (.int .i64 t895)) (fun _ hk => hk.2) (.slice Ao15 t896.length co15)) (fun _ hk => hk.2) (.slice Ao16 t899.length co16)) (fun _ h_ => h_.1))) hb); have n3_ := Aside0.mk (Kd.R_below (by (with_reducible repeat (first | apply Kd.R_alloc | apply Kd.R_drewN | apply Kd.R_drew)); exact (Kd.R_mono (Kd.R_far (p := ⟨gb902, 2, none⟩) (Kd.R_far (p := ⟨gb902, 1, none⟩) (Kd.R_far (p := ⟨gb902, 0, none⟩) (Kd.R_types HO901.out BK902.out (by decide)) (fun _ hk => hk.2) (.int .i64 t895)) (fun _ hk => hk.2) (.slice Ao15 t896.length co15)) (fun _ hk => hk.2) (.slice Ao16 t899.length co16)) (fun _ h_ => h_.1))) hb); have n4_ := Aside0.mk (Kd.R_lower (Kd.R_newM (M := fun k_ => (w.heap.size ≤ k_)) ho0 (below_size (bl HB.out)) (fun k_ h_ => h_)) (below_size (bl HB.out))); have n5_ := Aside0.mk (blk_below (g := gb893) (o := .cells #[.int .i64 a0_0, .slice A0_1 l0_1.length c0_1, .slice A0_2 l0_2.length c0_2] 30 (0, 0)) (by (with_reducible repeat (first | apply bN | apply bD | apply bA)); refine blk_far ?_ NB893_902.out _; (with_reducible repeat (first | apply bN | apply bD | apply bA)); refine blk_far ?_ NB893_902.out _; (with_reducible repeat (first | apply bN | apply bD | apply bA)); refine blk_far ?_ NB893_902.out _; (with_reducible repeat (first | apply bN | apply bD | apply bA)); exact BK893.out) hb); have n6_ := Aside0.mk (blk_below (g := gb894) (o := .cells #[.int .i64 0, .slice none 0 0, .slice none 0 0] 30 (0, 0)) (by (with_reducible repeat (first | apply bN | apply bD | apply bA)); refine blk_far ?_ NB894_902.out _; (with_reducible repeat (first | apply bN | apply bD | apply bA)); refine blk_far ?_ NB894_902.out _; (with_reducible repeat (first | apply bN | apply bD | apply bA)); refine blk_far ?_ NB894_902.out _; (with_reducible repeat (first | apply bN | apply bD | apply bA)); exact BK894.out) hb); have n7_ := Aside0.mk (blk_below (g := gb902) (o := .cells #[.int .i64 t895, .slice Ao15 t896.length co15, .slice Ao16 t899.length co16] 30 (0, 0)) (by (with_reducible repeat (first | apply bN | apply bD | apply bA)); refine blk_put (cs := #[.int .i64 t895, .slice Ao15 t896.length co15, .slice none 0 0]) ?_ 2 _ rfl; (with_reducible repeat (first | apply bN | apply bD | apply bA)); refine blk_put (cs := #[.int .i64 t895, .slice none 0 0, .slice none 0 0]) ?_ 1 _ rfl; (with_reducible repeat (first | apply bN | apply bD | apply bA)); refine blk_put (cs := #[.int .i64 0, .slice none 0 0, .slice none 0 0]) ?_ 0 _ rfl; (with_reducible repeat (first | apply bN | apply bD | apply bA)); exact BK902.out) hb); have n8_ := Aside0.mk (below_step (bl HB.out) hb); clear HO0_2; clear HO2; clear HO898; clear HO901; clear BK893; clear BK894; clear BK902; clear HB; have HO0_2 := n0_; have HO2 := n1_; have HO898 := n2_; have HO901 := n3_; have HO905 := n4_; have BK893 := n5_; have BK894 := n6_; have BK902 := n7_; have HB := n8_; clear n0_ n1_ n2_ n3_ n4_ n5_ n6_ n7_ n8_; (try clear hb); (try clear hb2); (try clear hk); (try clear hi); (try clear ho0); obtain ⟨Ao19, co19, eo19⟩ := Kd.R_slice HO905.out; subst eo19))
  go_loopg [15] k (fun kq v15 w' => ∃ (x15_1 : Int) (x903002_1 : List (S71)) (u903002 : Value), v15 = .int .i64 x15_1 ∧ Aside0 (impl_filled.l0 kq a1 l2 t903 (t903.length : Int) x15_1 a0_0 l0_1 l0_2 t895 t896 x903002_1 = some (r1, r2, r3)) ∧ Aside0 (kq ≤ k) ∧ Aside0 (Kd.V k71 71 w' w.heap.size (fun k_ => ((P0_2_ k_ ∨ P2_ k_) ∨ w.heap.size ≤ k_) ∧ some k_ ≠ ((.slice Ao19 t903.length co19) : Value).ownBlock ∧ some k_ ≠ ((.slice Ao15 t896.length co15) : Value).ownBlock ∧ some k_ ≠ (u903002 : Value).ownBlock ∧ k_ ≠ gb893 ∧ k_ ≠ gb894 ∧ k_ ≠ gb902) (.slice A2 l2.length c2) l2) ∧ Aside0 (Kd.R k85 85 w' w.heap.size (fun k_ => (w.heap.size ≤ k_)) (.slice Ao19 t903.length co19) t903) ∧ Aside0 (Kd.V k71 71 w' w.heap.size (fun k_ => ((P0_2_ k_ ∨ P2_ k_) ∨ w.heap.size ≤ k_) ∧ some k_ ≠ ((.slice Ao19 t903.length co19) : Value).ownBlock ∧ some k_ ≠ ((.slice Ao15 t896.length co15) : Value).ownBlock ∧ some k_ ≠ (u903002 : Value).ownBlock ∧ k_ ≠ gb893 ∧ k_ ≠ gb894 ∧ k_ ≠ gb902) (.slice A0_2 l0_2.length c0_2) l0_2) ∧ Aside0 (Kd.R (Kd.int .i64) 3 w' w.heap.size (fun k_ => (w.heap.size ≤ k_)) (.slice Ao15 t896.length co15) t896) ∧ Aside0 (Kd.R k71 71 w' w.heap.size (fun k_ => (w.heap.size ≤ k_)) u903002 x903002_1) ∧ Aside0 (w'.heap[gb893]? = some (.cells #[.int .i64 a0_0, (.slice A0_1 l0_1.length c0_1), (.slice A0_2 l0_2.length c0_2)] 30 (0, 0))) ∧ Aside0 (w'.heap[gb894]? = some (.cells #[.int .i64 0, (.slice none 0 0), (.slice none 0 0)] 30 (0, 0))) ∧ Aside0 (w'.heap[gb902]? = some (.cells #[.int .i64 t895, (.slice Ao15 t896.length co15), u903002] 30 (0, 0))) ∧ Aside0 (Below w.heap.size w w'))
  case atStart => exact ⟨(0), (t899), (.slice Ao16 t899.length co16), (by first | rfl | (simp; done) | (simp [*]; done)), H', ⟨Nat.le_refl _⟩, ⟨by (with_reducible repeat (first | apply Kd.V_alloc | apply Kd.V_drewN | apply Kd.V_drew)); exact Kd.V_mono HO2.out (fun _ hk => ⟨hk.1.1.1.1.1.1, ⟨hk.2, ⟨hk.1.1.1.2, ⟨hk.1.1.2, ⟨hk.1.1.1.1.1.2, ⟨hk.1.1.1.1.2, hk.1.2⟩⟩⟩⟩⟩⟩)⟩, ⟨by (with_reducible repeat (first | apply Kd.R_alloc | apply Kd.R_drewN | apply Kd.R_drew)); exact Kd.R_mono HO905.out (fun _ hk => hk.1)⟩, ⟨by (with_reducible repeat (first | apply Kd.V_alloc | apply Kd.V_drewN | apply Kd.V_drew)); exact Kd.V_mono HO0_2.out (fun _ hk => ⟨hk.1.1.1.1.1.1, ⟨hk.2, ⟨hk.1.1.1.2, ⟨hk.1.1.2, ⟨hk.1.1.1.1.1.2, ⟨hk.1.1.1.1.2, hk.1.2⟩⟩⟩⟩⟩⟩)⟩, ⟨by (with_reducible repeat (first | apply Kd.R_alloc | apply Kd.R_drewN | apply Kd.R_drew)); exact Kd.R_mono HO898.out (fun _ hk => hk.1)⟩, ⟨by (with_reducible repeat (first | apply Kd.R_alloc | apply Kd.R_drewN | apply Kd.R_drew)); exact Kd.R_mono HO901.out (fun _ hk => hk.1)⟩, ⟨by (with_reducible repeat (first | apply bN | apply bD | apply bA)); exact BK893.out⟩, ⟨by (with_reducible repeat (first | apply bN | apply bD | apply bA)); exact BK894.out⟩, ⟨by (with_reducible repeat (first | apply bN | apply bD | apply bA)); exact BK902.out⟩, ⟨bl HB.out⟩⟩
  case round =>
    clear H'
    try clear c1
    try clear c2
    try clear p2
    try clear c7
    try clear c8
    try clear c12
    try clear c13
    try clear hcz14_0
    try clear hcz14_1
    try clear hcz14_2
    try clear hcz17_0
    try clear hcz17_1
    try clear hcz17_2
    try clear hcz9_0
    try clear hcz9_1
    try clear hcz9_2
    try clear hfz14_0
    try clear hfz14_1
    try clear hfz14_2
    try clear hfz17_0
    try clear hfz17_1
    try clear hfz17_2
    try clear hfz9_0
    try clear hfz9_1
    try clear hfz9_2
    obtain ⟨x15_1, x903002_1, u903002, rfl, HA, HK1, HO_2, HO_13, HO_894002, HO_903001, HO_903002, BK893, BK894, BK902, HB⟩ := hrel
    cases gk with
    | zero => exact absurd HA.out (by simp [impl_filled.l0])
    | succ k1 =>
      have H := HA.out
      clear HA
      simp only [impl_filled.l0] at H
      by_cases c20 : x15_1 < (t903.length : Int)
      · rw [if_pos c20] at H
        have c20b0 : decide (x15_1 < (t903.length : Int)) = true := decide_eq_true c20
        clear c20
        by_cases c21 : 0 ≤ x15_1
        · rw [if_pos c21] at H
          have c21b0 : decide (0 ≤ x15_1) = true := decide_eq_true c21
          clear c21
          by_cases c22 : x15_1 < (t903.length : Int)
          · rw [if_pos c22] at H
            have c22b0 : decide (x15_1 < (t903.length : Int)) = true := decide_eq_true c22
            clear c22
            by_cases c23 : ((rd_T85 t903 x15_1).f0.f1) = a1
            · rw [if_pos c23] at H
              have c23b0 : (((rd_T85 t903 x15_1).f0.f1) == a1) = true := beq_iff_eq.mpr c23
              have c23b1 : (((rd_T85 t903 x15_1).f0.f1) != a1) = false := bne_eq_false_iff_eq.mpr c23
              clear c23
              by_cases c24 : 0 ≤ ((rd_T85 t903 x15_1).f1)
              · rw [if_pos c24] at H
                have c24b0 := eq_true c24
                have c24b1 : decide (0 ≤ ((rd_T85 t903 x15_1).f1)) = true := decide_eq_true c24
                clear c24
                by_cases c25 : ((rd_T85 t903 x15_1).f1) ≤ (l0_2.length : Int)
                · rw [if_pos c25] at H
                  have c25b0 := eq_true c25
                  have c25b1 : decide (((rd_T85 t903 x15_1).f1) ≤ (l0_2.length : Int)) = true := decide_eq_true c25
                  clear c25
                  obtain ⟨y908, hy908⟩ : ∃ y_ : List (S71), y_ = (l0_2.take (((rd_T85 t903 x15_1).f1) : Int).toNat) := ⟨_, rfl⟩
                  replace H : (if 0 ≤ ((rd_T85 t903 x15_1).f2) then (if ((rd_T85 t903 x15_1).f2) ≤ (l0_2.length : Int) then ((impl_Box_95.f k1 (([y908, l2, (l0_2.drop (((rd_T85 t903 x15_1).f2) : Int).toNat)] : List (List (S71))))).bind fun t921 => (impl_filled.l0 k1 a1 l2 t903 (t903.length : Int) (wrap64 (x15_1 + 1)) a0_0 l0_1 l0_2 t895 t896 t921)) else (none)) else (none)) = some (r1, r2, r3) := by first | (rw [hy908]; with_reducible exact H) | (have H2_ := (Option.bind_some _ _).symm.trans H; rw [hy908]; with_reducible exact H2_) | (have H2_ := (Option.bind_some _ _).symm.trans H; with_reducible exact H2_) | with_reducible exact H | (rw [hy908]; exact H) | exact H
                  have Ny908 := Aside0.mk hy908
                  clear hy908
                  by_cases c26 : 0 ≤ ((rd_T85 t903 x15_1).f2)
                  · rw [if_pos c26] at H
                    have c26b0 := eq_true c26
                    have c26b1 : decide (0 ≤ ((rd_T85 t903 x15_1).f2)) = true := decide_eq_true c26
                    clear c26
                    by_cases c27 : ((rd_T85 t903 x15_1).f2) ≤ (l0_2.length : Int)
                    · rw [if_pos c27] at H
                      have c27b0 := eq_true c27
                      have c27b1 : decide (((rd_T85 t903 x15_1).f2) ≤ (l0_2.length : Int)) = true := decide_eq_true c27
                      clear c27
                      obtain ⟨y913, hy913⟩ : ∃ y_ : List (S71), y_ = (l0_2.drop (((rd_T85 t903 x15_1).f2) : Int).toNat) := ⟨_, rfl⟩
                      replace H : ((impl_Box_95.f k1 (([y908, l2, y913] : List (List (S71))))).bind fun t921 => (impl_filled.l0 k1 a1 l2 t903 (t903.length : Int) (wrap64 (x15_1 + 1)) a0_0 l0_1 l0_2 t895 t896 t921)) = some (r1, r2, r3) := by first | (rw [hy913]; with_reducible exact H) | (have H2_ := (Option.bind_some _ _).symm.trans H; rw [hy913]; with_reducible exact H2_) | (have H2_ := (Option.bind_some _ _).symm.trans H; with_reducible exact H2_) | with_reducible exact H | (rw [hy913]; exact H) | exact H
                      have Ny913 := Aside0.mk hy913
                      clear hy913
                      obtain ⟨y918, hy918⟩ : ∃ y_ : List (List (S71)), y_ = (([y908, l2, y913] : List (List (S71)))) := ⟨_, rfl⟩
                      replace H : ((impl_Box_95.f k1 y918).bind fun t921 => (impl_filled.l0 k1 a1 l2 t903 (t903.length : Int) (wrap64 (x15_1 + 1)) a0_0 l0_1 l0_2 t895 t896 t921)) = some (r1, r2, r3) := by first | (rw [hy918]; with_reducible exact H) | (have H2_ := (Option.bind_some _ _).symm.trans H; rw [hy918]; with_reducible exact H2_) | (have H2_ := (Option.bind_some _ _).symm.trans H; with_reducible exact H2_) | with_reducible exact H | (rw [hy918]; exact H) | exact H
                      have Ny918 := Aside0.mk hy918
                      clear hy918
                      replace H := Option.bind_eq_some_iff.mp H
                      obtain ⟨t921, A280, H⟩ := H
                      replace H : (impl_filled.l0 k1 a1 l2 t903 (t903.length : Int) (wrap64 (x15_1 + 1)) a0_0 l0_1 l0_2 t895 t896 t921) = some (r1, r2, r3) := H
                      have A28 := Aside0.mk A280
                      clear A280
                      have H' := Aside0.mk H
                      clear H
                      have p906 : 0 ≤ (x15_1 : Int) := of_decide_eq_true (by first | (with_reducible assumption) | assumption)
                      have q906 : x15_1 < (t903.length : Int) := of_decide_eq_true (by first | (with_reducible assumption) | assumption)
                      obtain ⟨ad906, e906, hx906_0, hx906_1, hx906_2, hx906_3, hx906_4⟩ := at_T85 (Kd.R_reads' HO_13.out).2.2 x15_1 p906 q906
                      cases e906
                      replace p906 := eq_true p906
                      replace q906 := eq_true q906
                      try go_wp2_with (first | ((with_reducible refine gate_dst (N := 9) rfl ?_); refine bx (cs := #[.int .i64 0, .int .i64 0, .int .i64 0, .int .i64 0, .int .i64 0]) (t := 85) fun gb907 hg w29 hbox hb => ?_; have n0_ := Aside0.mk (Kd.V_below (Kd.V_elderB (by (with_reducible repeat (first | apply Kd.V_alloc | apply Kd.V_drewN | apply Kd.V_drew)); exact HO_2.out) gb907 (Nat.le_of_eq hg.symm)) hb); have n1_ := Aside0.mk (Kd.R_below (Kd.R_elderB (rk HO_13.out) gb907 (Nat.le_of_eq hg.symm)) hb); have n2_ := Aside0.mk (Kd.V_below (Kd.V_elderB (by (with_reducible repeat (first | apply Kd.V_alloc | apply Kd.V_drewN | apply Kd.V_drew)); exact HO_894002.out) gb907 (Nat.le_of_eq hg.symm)) hb); have n3_ := Aside0.mk (Kd.R_below (rk HO_903001.out) hb); have n4_ := Aside0.mk (Kd.R_below (rk HO_903002.out) hb); have n5_ := Aside0.mk (bb BK893.out hb); have n6_ := Aside0.mk (bb BK894.out hb); have n7_ := Aside0.mk (bb BK902.out hb); have n8_ := Aside0.mk (below_step (bl HB.out) hb); have n9_ := Aside0.mk (hbox); have n10_ := Aside0.mk (gs HB.out hg); have n11_ := Aside0.mk (gs HB.out hg); have n12_ := Aside0.mk ((nl BK893.out hg)); have n13_ := Aside0.mk ((ng BK893.out hg)); have n14_ := Aside0.mk ((nl BK894.out hg)); have n15_ := Aside0.mk ((ng BK894.out hg)); have n16_ := Aside0.mk ((nl BK902.out hg)); have n17_ := Aside0.mk ((ng BK902.out hg)); clear HO_2; clear HO_13; clear HO_894002; clear HO_903001; clear HO_903002; clear BK893; clear BK894; clear BK902; clear HB; have HO_2 := n0_; have HO_13 := n1_; have HO_894002 := n2_; have HO_903001 := n3_; have HO_903002 := n4_; have BK893 := n5_; have BK894 := n6_; have BK902 := n7_; have HB := n8_; have BK907 := n9_; have GW907 := n10_; have GE907 := n11_; have NB893_907 := n12_; have NB907_893 := n13_; have NB894_907 := n14_; have NB907_894 := n15_; have NB902_907 := n16_; have NB907_902 := n17_; clear n0_ n1_ n2_ n3_ n4_ n5_ n6_ n7_ n8_ n9_ n10_ n11_ n12_ n13_ n14_ n15_ n16_ n17_; clear hb hbox hg; have hnb30 := NB907_893.out; have hnc30 := NB893_907.out; have hnb31 := NB907_894.out; have hnc31 := NB894_907.out; have hnb32 := NB907_902.out; have hnc32 := NB902_907.out; have hcz33_0 : w29.cell? ⟨gb907, 0, none⟩ = some (.int .i64 0) := (blk_cell BK907.out 0).trans rfl; have hcz33_1 : w29.cell? ⟨gb907, 1, none⟩ = some (.int .i64 0) := (blk_cell BK907.out 1).trans rfl; have hcz33_2 : w29.cell? ⟨gb907, 2, none⟩ = some (.int .i64 0) := (blk_cell BK907.out 2).trans rfl; have hcz33_3 : w29.cell? ⟨gb907, 3, none⟩ = some (.int .i64 0) := (blk_cell BK907.out 3).trans rfl; have hcz33_4 : w29.cell? ⟨gb907, 4, none⟩ = some (.int .i64 0) := (blk_cell BK907.out 4).trans rfl; have hfz33_0 := blk_frozen BK907.out 0; have hfz33_1 := blk_frozen BK907.out 1; have hfz33_2 := blk_frozen BK907.out 2; have hfz33_3 := blk_frozen BK907.out 3; have hfz33_4 := blk_frozen BK907.out 4))
                      have n0_ : Aside0 (Kd.V k71 71 (((((w29.setCell ⟨gb907, 0, none⟩ (.int .i64 ((rd_T85 t903 x15_1).f0.f0))).setCell ⟨gb907, 1, none⟩ (.int .i64 ((rd_T85 t903 x15_1).f0.f1))).setCell ⟨gb907, 2, none⟩ (.int .i64 ((rd_T85 t903 x15_1).f0.f2))).setCell ⟨gb907, 3, none⟩ (.int .i64 ((rd_T85 t903 x15_1).f1))).setCell ⟨gb907, 4, none⟩ (.int .i64 ((rd_T85 t903 x15_1).f2))) w.heap.size (fun k_ => ((P0_2_ k_ ∨ P2_ k_) ∨ w.heap.size ≤ k_) ∧ some k_ ≠ (.slice (some ad906) t903.length co19 : Value).ownBlock ∧ some k_ ≠ (.slice Ao15 t896.length co15 : Value).ownBlock ∧ some k_ ≠ (u903002 : Value).ownBlock ∧ k_ ≠ gb893 ∧ k_ ≠ gb894 ∧ k_ ≠ gb902 ∧ k_ ≠ gb907) (.slice A2 l2.length c2) l2) := ⟨by (with_reducible repeat (first | apply Kd.V_alloc | apply Kd.V_drewN | apply Kd.V_drew)); exact Kd.V_mono (Kd.V_far (p := ⟨gb907, 4, none⟩) (Kd.V_far (p := ⟨gb907, 3, none⟩) (Kd.V_far (p := ⟨gb907, 2, none⟩) (Kd.V_far (p := ⟨gb907, 1, none⟩) (Kd.V_far (p := ⟨gb907, 0, none⟩) (Kd.V_mono HO_2.out (fun k_ hk => (⟨hk, hk.2⟩ : _ ∧ k_ ≠ gb907))) (fun _ hk => hk.2) (.int .i64 ((rd_T85 t903 x15_1).f0.f0))) (fun _ hk => hk.2) (.int .i64 ((rd_T85 t903 x15_1).f0.f1))) (fun _ hk => hk.2) (.int .i64 ((rd_T85 t903 x15_1).f0.f2))) (fun _ hk => hk.2) (.int .i64 ((rd_T85 t903 x15_1).f1))) (fun _ hk => hk.2) (.int .i64 ((rd_T85 t903 x15_1).f2))) (fun _ hk => ⟨hk.1.1.1, ⟨hk.1.1.2.1, ⟨hk.1.1.2.2.1, ⟨hk.1.1.2.2.2.1, ⟨hk.1.1.2.2.2.2.1, ⟨hk.1.1.2.2.2.2.2.1, ⟨hk.1.1.2.2.2.2.2.2, hk.1.2⟩⟩⟩⟩⟩⟩⟩)⟩
                      have n1_ : Aside0 (Kd.R k85 85 (((((w29.setCell ⟨gb907, 0, none⟩ (.int .i64 ((rd_T85 t903 x15_1).f0.f0))).setCell ⟨gb907, 1, none⟩ (.int .i64 ((rd_T85 t903 x15_1).f0.f1))).setCell ⟨gb907, 2, none⟩ (.int .i64 ((rd_T85 t903 x15_1).f0.f2))).setCell ⟨gb907, 3, none⟩ (.int .i64 ((rd_T85 t903 x15_1).f1))).setCell ⟨gb907, 4, none⟩ (.int .i64 ((rd_T85 t903 x15_1).f2))) w.heap.size (fun k_ => (w.heap.size ≤ k_) ∧ k_ ≠ gb907) (.slice (some ad906) t903.length co19) t903) := ⟨by (with_reducible repeat (first | apply Kd.R_alloc | apply Kd.R_drewN | apply Kd.R_drew)); exact Kd.R_mono (Kd.R_far (p := ⟨gb907, 4, none⟩) (Kd.R_far (p := ⟨gb907, 3, none⟩) (Kd.R_far (p := ⟨gb907, 2, none⟩) (Kd.R_far (p := ⟨gb907, 1, none⟩) (Kd.R_far (p := ⟨gb907, 0, none⟩) (Kd.R_mono HO_13.out (fun k_ hk => (⟨hk, hk.2⟩ : _ ∧ k_ ≠ gb907))) (fun _ hk => hk.2) (.int .i64 ((rd_T85 t903 x15_1).f0.f0))) (fun _ hk => hk.2) (.int .i64 ((rd_T85 t903 x15_1).f0.f1))) (fun _ hk => hk.2) (.int .i64 ((rd_T85 t903 x15_1).f0.f2))) (fun _ hk => hk.2) (.int .i64 ((rd_T85 t903 x15_1).f1))) (fun _ hk => hk.2) (.int .i64 ((rd_T85 t903 x15_1).f2))) (fun _ hk => ⟨hk.1.1, hk.1.2⟩)⟩
                      have n2_ : Aside0 (Kd.V k71 71 (((((w29.setCell ⟨gb907, 0, none⟩ (.int .i64 ((rd_T85 t903 x15_1).f0.f0))).setCell ⟨gb907, 1, none⟩ (.int .i64 ((rd_T85 t903 x15_1).f0.f1))).setCell ⟨gb907, 2, none⟩ (.int .i64 ((rd_T85 t903 x15_1).f0.f2))).setCell ⟨gb907, 3, none⟩ (.int .i64 ((rd_T85 t903 x15_1).f1))).setCell ⟨gb907, 4, none⟩ (.int .i64 ((rd_T85 t903 x15_1).f2))) w.heap.size (fun k_ => ((P0_2_ k_ ∨ P2_ k_) ∨ w.heap.size ≤ k_) ∧ some k_ ≠ (.slice (some ad906) t903.length co19 : Value).ownBlock ∧ some k_ ≠ (.slice Ao15 t896.length co15 : Value).ownBlock ∧ some k_ ≠ (u903002 : Value).ownBlock ∧ k_ ≠ gb893 ∧ k_ ≠ gb894 ∧ k_ ≠ gb902 ∧ k_ ≠ gb907) (.slice A0_2 l0_2.length c0_2) l0_2) := ⟨by (with_reducible repeat (first | apply Kd.V_alloc | apply Kd.V_drewN | apply Kd.V_drew)); exact Kd.V_mono (Kd.V_far (p := ⟨gb907, 4, none⟩) (Kd.V_far (p := ⟨gb907, 3, none⟩) (Kd.V_far (p := ⟨gb907, 2, none⟩) (Kd.V_far (p := ⟨gb907, 1, none⟩) (Kd.V_far (p := ⟨gb907, 0, none⟩) (Kd.V_mono HO_894002.out (fun k_ hk => (⟨hk, hk.2⟩ : _ ∧ k_ ≠ gb907))) (fun _ hk => hk.2) (.int .i64 ((rd_T85 t903 x15_1).f0.f0))) (fun _ hk => hk.2) (.int .i64 ((rd_T85 t903 x15_1).f0.f1))) (fun _ hk => hk.2) (.int .i64 ((rd_T85 t903 x15_1).f0.f2))) (fun _ hk => hk.2) (.int .i64 ((rd_T85 t903 x15_1).f1))) (fun _ hk => hk.2) (.int .i64 ((rd_T85 t903 x15_1).f2))) (fun _ hk => ⟨hk.1.1.1, ⟨hk.1.1.2.1, ⟨hk.1.1.2.2.1, ⟨hk.1.1.2.2.2.1, ⟨hk.1.1.2.2.2.2.1, ⟨hk.1.1.2.2.2.2.2.1, ⟨hk.1.1.2.2.2.2.2.2, hk.1.2⟩⟩⟩⟩⟩⟩⟩)⟩
                      have n3_ : Aside0 (Kd.R (Kd.int .i64) 3 (((((w29.setCell ⟨gb907, 0, none⟩ (.int .i64 ((rd_T85 t903 x15_1).f0.f0))).setCell ⟨gb907, 1, none⟩ (.int .i64 ((rd_T85 t903 x15_1).f0.f1))).setCell ⟨gb907, 2, none⟩ (.int .i64 ((rd_T85 t903 x15_1).f0.f2))).setCell ⟨gb907, 3, none⟩ (.int .i64 ((rd_T85 t903 x15_1).f1))).setCell ⟨gb907, 4, none⟩ (.int .i64 ((rd_T85 t903 x15_1).f2))) w.heap.size (fun k_ => (w.heap.size ≤ k_)) (.slice Ao15 t896.length co15) t896) := ⟨by (with_reducible repeat (first | apply Kd.R_alloc | apply Kd.R_drewN | apply Kd.R_drew)); exact Kd.R_mono (Kd.R_far (p := ⟨gb907, 4, none⟩) (Kd.R_far (p := ⟨gb907, 3, none⟩) (Kd.R_far (p := ⟨gb907, 2, none⟩) (Kd.R_far (p := ⟨gb907, 1, none⟩) (Kd.R_far (p := ⟨gb907, 0, none⟩) (Kd.R_types HO_903001.out BK907.out (by decide)) (fun _ hk => hk.2) (.int .i64 ((rd_T85 t903 x15_1).f0.f0))) (fun _ hk => hk.2) (.int .i64 ((rd_T85 t903 x15_1).f0.f1))) (fun _ hk => hk.2) (.int .i64 ((rd_T85 t903 x15_1).f0.f2))) (fun _ hk => hk.2) (.int .i64 ((rd_T85 t903 x15_1).f1))) (fun _ hk => hk.2) (.int .i64 ((rd_T85 t903 x15_1).f2))) (fun _ hk => hk.1)⟩
                      have n4_ : Aside0 (Kd.R k71 71 (((((w29.setCell ⟨gb907, 0, none⟩ (.int .i64 ((rd_T85 t903 x15_1).f0.f0))).setCell ⟨gb907, 1, none⟩ (.int .i64 ((rd_T85 t903 x15_1).f0.f1))).setCell ⟨gb907, 2, none⟩ (.int .i64 ((rd_T85 t903 x15_1).f0.f2))).setCell ⟨gb907, 3, none⟩ (.int .i64 ((rd_T85 t903 x15_1).f1))).setCell ⟨gb907, 4, none⟩ (.int .i64 ((rd_T85 t903 x15_1).f2))) w.heap.size (fun k_ => (w.heap.size ≤ k_)) u903002 x903002_1) := ⟨by (with_reducible repeat (first | apply Kd.R_alloc | apply Kd.R_drewN | apply Kd.R_drew)); exact Kd.R_mono (Kd.R_far (p := ⟨gb907, 4, none⟩) (Kd.R_far (p := ⟨gb907, 3, none⟩) (Kd.R_far (p := ⟨gb907, 2, none⟩) (Kd.R_far (p := ⟨gb907, 1, none⟩) (Kd.R_far (p := ⟨gb907, 0, none⟩) (Kd.R_types HO_903002.out BK907.out (by decide)) (fun _ hk => hk.2) (.int .i64 ((rd_T85 t903 x15_1).f0.f0))) (fun _ hk => hk.2) (.int .i64 ((rd_T85 t903 x15_1).f0.f1))) (fun _ hk => hk.2) (.int .i64 ((rd_T85 t903 x15_1).f0.f2))) (fun _ hk => hk.2) (.int .i64 ((rd_T85 t903 x15_1).f1))) (fun _ hk => hk.2) (.int .i64 ((rd_T85 t903 x15_1).f2))) (fun _ hk => hk.1)⟩
                      have n5_ : Aside0 ((((((w29.setCell ⟨gb907, 0, none⟩ (.int .i64 ((rd_T85 t903 x15_1).f0.f0))).setCell ⟨gb907, 1, none⟩ (.int .i64 ((rd_T85 t903 x15_1).f0.f1))).setCell ⟨gb907, 2, none⟩ (.int .i64 ((rd_T85 t903 x15_1).f0.f2))).setCell ⟨gb907, 3, none⟩ (.int .i64 ((rd_T85 t903 x15_1).f1))).setCell ⟨gb907, 4, none⟩ (.int .i64 ((rd_T85 t903 x15_1).f2))).heap[gb893]? = some (.cells #[.int .i64 a0_0, .slice A0_1 l0_1.length c0_1, .slice A0_2 l0_2.length c0_2] 30 (0, 0))) := ⟨by (with_reducible repeat (first | apply bN | apply bD | apply bA)); refine blk_far ?_ NB893_907.out _; (with_reducible repeat (first | apply bN | apply bD | apply bA)); refine blk_far ?_ NB893_907.out _; (with_reducible repeat (first | apply bN | apply bD | apply bA)); refine blk_far ?_ NB893_907.out _; (with_reducible repeat (first | apply bN | apply bD | apply bA)); refine blk_far ?_ NB893_907.out _; (with_reducible repeat (first | apply bN | apply bD | apply bA)); refine blk_far ?_ NB893_907.out _; (with_reducible repeat (first | apply bN | apply bD | apply bA)); exact BK893.out⟩
                      have n6_ : Aside0 ((((((w29.setCell ⟨gb907, 0, none⟩ (.int .i64 ((rd_T85 t903 x15_1).f0.f0))).setCell ⟨gb907, 1, none⟩ (.int .i64 ((rd_T85 t903 x15_1).f0.f1))).setCell ⟨gb907, 2, none⟩ (.int .i64 ((rd_T85 t903 x15_1).f0.f2))).setCell ⟨gb907, 3, none⟩ (.int .i64 ((rd_T85 t903 x15_1).f1))).setCell ⟨gb907, 4, none⟩ (.int .i64 ((rd_T85 t903 x15_1).f2))).heap[gb894]? = some (.cells #[.int .i64 0, .slice none 0 0, .slice none 0 0] 30 (0, 0))) := ⟨by (with_reducible repeat (first | apply bN | apply bD | apply bA)); refine blk_far ?_ NB894_907.out _; (with_reducible repeat (first | apply bN | apply bD | apply bA)); refine blk_far ?_ NB894_907.out _; (with_reducible repeat (first | apply bN | apply bD | apply bA)); refine blk_far ?_ NB894_907.out _; (with_reducible repeat (first | apply bN | apply bD | apply bA)); refine blk_far ?_ NB894_907.out _; (with_reducible repeat (first | apply bN | apply bD | apply bA)); refine blk_far ?_ NB894_907.out _; (with_reducible repeat (first | apply bN | apply bD | apply bA)); exact BK894.out⟩
                      have n7_ : Aside0 ((((((w29.setCell ⟨gb907, 0, none⟩ (.int .i64 ((rd_T85 t903 x15_1).f0.f0))).setCell ⟨gb907, 1, none⟩ (.int .i64 ((rd_T85 t903 x15_1).f0.f1))).setCell ⟨gb907, 2, none⟩ (.int .i64 ((rd_T85 t903 x15_1).f0.f2))).setCell ⟨gb907, 3, none⟩ (.int .i64 ((rd_T85 t903 x15_1).f1))).setCell ⟨gb907, 4, none⟩ (.int .i64 ((rd_T85 t903 x15_1).f2))).heap[gb902]? = some (.cells #[.int .i64 t895, .slice Ao15 t896.length co15, u903002] 30 (0, 0))) := ⟨by (with_reducible repeat (first | apply bN | apply bD | apply bA)); refine blk_far ?_ NB902_907.out _; (with_reducible repeat (first | apply bN | apply bD | apply bA)); refine blk_far ?_ NB902_907.out _; (with_reducible repeat (first | apply bN | apply bD | apply bA)); refine blk_far ?_ NB902_907.out _; (with_reducible repeat (first | apply bN | apply bD | apply bA)); refine blk_far ?_ NB902_907.out _; (with_reducible repeat (first | apply bN | apply bD | apply bA)); refine blk_far ?_ NB902_907.out _; (with_reducible repeat (first | apply bN | apply bD | apply bA)); exact BK902.out⟩
                      have n8_ : Aside0 ((((((w29.setCell ⟨gb907, 0, none⟩ (.int .i64 ((rd_T85 t903 x15_1).f0.f0))).setCell ⟨gb907, 1, none⟩ (.int .i64 ((rd_T85 t903 x15_1).f0.f1))).setCell ⟨gb907, 2, none⟩ (.int .i64 ((rd_T85 t903 x15_1).f0.f2))).setCell ⟨gb907, 3, none⟩ (.int .i64 ((rd_T85 t903 x15_1).f1))).setCell ⟨gb907, 4, none⟩ (.int .i64 ((rd_T85 t903 x15_1).f2))).heap[gb907]? = some (.cells #[.int .i64 ((rd_T85 t903 x15_1).f0.f0), .int .i64 ((rd_T85 t903 x15_1).f0.f1), .int .i64 ((rd_T85 t903 x15_1).f0.f2), .int .i64 ((rd_T85 t903 x15_1).f1), .int .i64 ((rd_T85 t903 x15_1).f2)] 85 (0, 0))) := ⟨by (with_reducible repeat (first | apply bN | apply bD | apply bA)); refine blk_put (cs := #[.int .i64 ((rd_T85 t903 x15_1).f0.f0), .int .i64 ((rd_T85 t903 x15_1).f0.f1), .int .i64 ((rd_T85 t903 x15_1).f0.f2), .int .i64 ((rd_T85 t903 x15_1).f1), .int .i64 0]) ?_ 4 _ rfl; (with_reducible repeat (first | apply bN | apply bD | apply bA)); refine blk_put (cs := #[.int .i64 ((rd_T85 t903 x15_1).f0.f0), .int .i64 ((rd_T85 t903 x15_1).f0.f1), .int .i64 ((rd_T85 t903 x15_1).f0.f2), .int .i64 0, .int .i64 0]) ?_ 3 _ rfl; (with_reducible repeat (first | apply bN | apply bD | apply bA)); refine blk_put (cs := #[.int .i64 ((rd_T85 t903 x15_1).f0.f0), .int .i64 ((rd_T85 t903 x15_1).f0.f1), .int .i64 0, .int .i64 0, .int .i64 0]) ?_ 2 _ rfl; (with_reducible repeat (first | apply bN | apply bD | apply bA)); refine blk_put (cs := #[.int .i64 ((rd_T85 t903 x15_1).f0.f0), .int .i64 0, .int .i64 0, .int .i64 0, .int .i64 0]) ?_ 1 _ rfl; (with_reducible repeat (first | apply bN | apply bD | apply bA)); refine blk_put (cs := #[.int .i64 0, .int .i64 0, .int .i64 0, .int .i64 0, .int .i64 0]) ?_ 0 _ rfl; (with_reducible repeat (first | apply bN | apply bD | apply bA)); exact BK907.out⟩
                      have n9_ : Aside0 (Below w.heap.size w (((((w29.setCell ⟨gb907, 0, none⟩ (.int .i64 ((rd_T85 t903 x15_1).f0.f0))).setCell ⟨gb907, 1, none⟩ (.int .i64 ((rd_T85 t903 x15_1).f0.f1))).setCell ⟨gb907, 2, none⟩ (.int .i64 ((rd_T85 t903 x15_1).f0.f2))).setCell ⟨gb907, 3, none⟩ (.int .i64 ((rd_T85 t903 x15_1).f1))).setCell ⟨gb907, 4, none⟩ (.int .i64 ((rd_T85 t903 x15_1).f2)))) := ⟨bl HB.out⟩
                      (try clear HO_2)
                      (try clear HO_13)
                      (try clear HO_894002)
                      (try clear HO_903001)
                      (try clear HO_903002)
                      (try clear BK893)
                      (try clear BK894)
                      (try clear BK902)
                      (try clear BK907)
                      (try clear HB)
                      generalize (((((w29.setCell ⟨gb907, 0, none⟩ (.int .i64 ((rd_T85 t903 x15_1).f0.f0))).setCell ⟨gb907, 1, none⟩ (.int .i64 ((rd_T85 t903 x15_1).f0.f1))).setCell ⟨gb907, 2, none⟩ (.int .i64 ((rd_T85 t903 x15_1).f0.f2))).setCell ⟨gb907, 3, none⟩ (.int .i64 ((rd_T85 t903 x15_1).f1))).setCell ⟨gb907, 4, none⟩ (.int .i64 ((rd_T85 t903 x15_1).f2))) = w34 at n0_ n1_ n2_ n3_ n4_ n5_ n6_ n7_ n8_ n9_ ⊢
                      have HO_2 := n0_
                      have HO_13 := n1_
                      have HO_894002 := n2_
                      have HO_903001 := n3_
                      have HO_903002 := n4_
                      have BK893 := n5_
                      have BK894 := n6_
                      have BK902 := n7_
                      have BK907 := n8_
                      have HB := n9_
                      clear n0_ n1_ n2_ n3_ n4_ n5_ n6_ n7_ n8_ n9_
                      have n0_ := Aside0.mk (Kd.V_drew HO_2.out)
                      have n1_ := Aside0.mk (Kd.R_drew HO_13.out)
                      have n2_ := Aside0.mk (Kd.V_drew HO_894002.out)
                      have n3_ := Aside0.mk (Kd.R_drew HO_903001.out)
                      have n4_ := Aside0.mk (Kd.R_drew HO_903002.out)
                      have n5_ := Aside0.mk (blk_drew BK893.out)
                      have n6_ := Aside0.mk (blk_drew BK894.out)
                      have n7_ := Aside0.mk (blk_drew BK902.out)
                      have n8_ := Aside0.mk (blk_drew BK907.out)
                      have n9_ := Aside0.mk (below_drew1 HB.out)
                      clear HO_2
                      clear HO_13
                      clear HO_894002
                      clear HO_903001
                      clear HO_903002
                      clear BK893
                      clear BK894
                      clear BK902
                      clear BK907
                      clear HB
                      have HO_2 := n0_
                      have HO_13 := n1_
                      have HO_894002 := n2_
                      have HO_903001 := n3_
                      have HO_903002 := n4_
                      have BK893 := n5_
                      have BK894 := n6_
                      have BK902 := n7_
                      have BK907 := n8_
                      have HB := n9_
                      clear n0_ n1_ n2_ n3_ n4_ n5_ n6_ n7_ n8_ n9_
                      have q36 : (((rd_T85 t903 x15_1).f1) : Int) ≤ ((l0_2.length : Int) : Int) := of_decide_eq_true (by first | (with_reducible assumption) | assumption)
                      obtain ⟨i036, hi036, _, hsz36, _⟩ := info_parts info71
                      have hroom36 : l0_2.length ≤ c0_2 := (Kd.V_reads' HO_894002.out).2.1
                      have hC36 : Kd.F k71 _ _ A0_2 l0_2.length l0_2 := (Kd.V_at (base := w.heap.size) HO_894002.out).2.2
                      have hcut36 := cut_to (P := Try.prog) 28 71 .i64 Try.underlying28 hi036 A0_2 l0_2.length c0_2 ((rd_T85 t903 x15_1).f1) (of_decide_eq_true (by first | (with_reducible assumption) | assumption)) q36 hroom36
                      have hr36 := Kd.F_take (m := (((rd_T85 t903 x15_1).f1) : Int).toNat) hC36 (by omega)
                      have hy36 : y908.length = (((rd_T85 t903 x15_1).f1) : Int).toNat := (by rw [Ny908.out, List.length_take]; omega)
                      rw [← Ny908.out] at hr36
                      rw [← hy36] at hcut36
                      have HO912 := Aside0.mk (show Kd.V k71 71 _ w.heap.size _ (.slice A0_2 y908.length c0_2) y908 from Kd.V_mk (by omega) hr36)
                      have HC912 := Aside0.mk (show y908.length ≤ c0_2 from by omega)
                      clear hr36 hC36 hroom36 hi036 hsz36
                      have KY36 := Aside0.mk hy36
                      clear hy36
                      replace q36 := eq_true q36
                      have q37 : (((rd_T85 t903 x15_1).f2) : Int) ≤ ((l0_2.length : Int) : Int) := of_decide_eq_true (by first | (with_reducible assumption) | assumption)
                      obtain ⟨i037, hi037, _, hsz37, _⟩ := info_parts info71
                      have hroom37 : l0_2.length ≤ c0_2 := (Kd.V_reads' HO_894002.out).2.1
                      have hC37 : Kd.F k71 _ _ A0_2 l0_2.length l0_2 := (Kd.V_at (base := w.heap.size) HO_894002.out).2.2
                      have q037 : (0 : Int) ≤ (((rd_T85 t903 x15_1).f2) : Int) := of_decide_eq_true (by first | (with_reducible assumption) | assumption)
                      have hcut37 := cut_from (P := Try.prog) 28 71 .i64 Try.underlying28 hi037 4 hsz37 A0_2 l0_2.length c0_2 ((rd_T85 t903 x15_1).f2) q037 q37
                      have hr37 := Kd.F_cut (m := (((rd_T85 t903 x15_1).f2) : Int).toNat) (c := c0_2) hC37 (by omega) hroom37
                      obtain ⟨A37, hA37⟩ : ∃ A1, A1 = (if c0_2 = (((rd_T85 t903 x15_1).f2) : Int).toNat then A0_2 else (A0_2 : Option Addr).map (·.add ((((rd_T85 t903 x15_1).f2) : Int).toNat * 4))) := ⟨_, rfl⟩
                      obtain ⟨c37, hc37⟩ : ∃ c1, c1 = c0_2 - (((rd_T85 t903 x15_1).f2) : Int).toNat := ⟨_, rfl⟩
                      have hy37 : y913.length = l0_2.length - (((rd_T85 t903 x15_1).f2) : Int).toNat := (by rw [Ny913.out, List.length_drop] <;> omega)
                      rw [show (l0_2).drop (((rd_T85 t903 x15_1).f2) : Int).toNat = y913 from Ny913.out.symm] at hr37
                      replace hr37 : Kd.F k71 _ _ A37 y913.length y913 := (by rw [hA37]; exact hr37)
                      rw [← hy37, ← hA37, ← hc37] at hcut37
                      have HO917 := Aside0.mk (show Kd.V k71 71 _ w.heap.size _ (.slice A37 y913.length c37) y913 from Kd.V_mk (by rw [hy37, hc37]; exact Nat.sub_le_sub_right hroom37 _) hr37)
                      have HC917 := Aside0.mk (show y913.length ≤ c37 from by rw [hy37, hc37]; exact Nat.sub_le_sub_right hroom37 _)
                      clear hr37 hC37 hroom37 hi037 hsz37 hc37
                      have KY37 := Aside0.mk hy37
                      have KA37 := Aside0.mk hA37
                      clear hy37 hA37
                      replace q37 := eq_true q37
                      refine start_ (n := 15) (S := fun w' => w'.cell? ⟨gb893, 0, none⟩ = some (.int .i64 a0_0) ∧ w'.cell? ⟨gb893, 1, none⟩ = some (.slice A0_1 l0_1.length c0_1) ∧ w'.cell? ⟨gb893, 2, none⟩ = some (.slice A0_2 l0_2.length c0_2) ∧ w'.cell? ⟨gb907, 0, none⟩ = some (.int .i64 ((rd_T85 t903 x15_1).f0.f0)) ∧ w'.cell? ⟨gb907, 1, none⟩ = some (.int .i64 ((rd_T85 t903 x15_1).f0.f1)) ∧ w'.cell? ⟨gb907, 2, none⟩ = some (.int .i64 ((rd_T85 t903 x15_1).f0.f2)) ∧ w'.cell? ⟨gb907, 3, none⟩ = some (.int .i64 ((rd_T85 t903 x15_1).f1)) ∧ w'.cell? ⟨gb907, 4, none⟩ = some (.int .i64 ((rd_T85 t903 x15_1).f2))) (ds := []) #[false, false, false, false, false, false, false, false, false, false, false, false, false, false, false] (by kernel_rfl) rfl rfl ⟨(blk_cell BK893.out 0).trans rfl, (blk_cell BK893.out 1).trans rfl, (blk_cell BK893.out 2).trans rfl, (blk_cell BK907.out 0).trans rfl, (blk_cell BK907.out 1).trans rfl, (blk_cell BK907.out 2).trans rfl, (blk_cell BK907.out 3).trans rfl, (blk_cell BK907.out 4).trans rfl⟩ (fun hHeld => ?_); refine with_tabW impl_filled.tab6 impl_filled.bits6 (fun HT_ HW_ => ?_)
                      generalize w34.drew = w35 at HO_2 HO_13 HO_894002 HO_903001 HO_903002 BK893 BK894 BK902 BK907 HB HO912 HO917 hHeld ⊢
                      refine pure_ (i := 0) (N := some 24) (v := ?_) (a' := ?_) #[true, false, false, false, false, false, false, false, false, false, false, false, false, false, false] rfl rfl (any_of HT_.out (by kernel_rfl)) (fun _ _ _ h => h) (Or.inl ⟨by rfl, ?_⟩) ?_ ?_
                      rotate_left
                      · intro w'
                        go_simp
                        with_reducible rfl
                      rotate_left
                      · simp only [Act.put, List.setIfInBounds_toArray, List.set_cons_zero, List.set_cons_succ, i64_w, i32_w]
                        rfl
                      refine pure_ (i := 2) (N := some 26) (v := ?_) (a' := ?_) #[true, false, true, false, false, false, false, false, false, false, false, false, false, false, false] rfl rfl (any_of HT_.out (by kernel_rfl)) (fun _ _ _ h => h) (Or.inl ⟨by rfl, ?_⟩) ?_ ?_
                      rotate_left
                      · intro w'
                        go_simp
                        with_reducible rfl
                      rotate_left
                      · simp only [Act.put, List.setIfInBounds_toArray, List.set_cons_zero, List.set_cons_succ, i64_w, i32_w]
                        rfl
                      refine pure_ (i := 5) (N := some 29) (v := ?_) (a' := ?_) #[true, false, true, false, false, true, false, false, false, false, false, false, false, false, false] rfl rfl (any_of HT_.out (by kernel_rfl)) (fun _ _ _ h => h) (Or.inl ⟨by rfl, ?_⟩) ?_ ?_
                      rotate_left
                      · intro w'
                        go_simp
                        with_reducible rfl
                      rotate_left
                      · simp only [Act.put, List.setIfInBounds_toArray, List.set_cons_zero, List.set_cons_succ, i64_w, i32_w]
                        rfl
                      refine pure_ (i := 6) (N := some 30) (v := ?_) (a' := ?_) #[true, false, true, false, false, true, true, false, false, false, false, false, false, false, false] rfl rfl (any_of HT_.out (by kernel_rfl)) (fun _ _ _ h => h) (Or.inl ⟨by rfl, ?_⟩) ?_ ?_
                      rotate_left
                      · intro w'
                        go_simp
                        with_reducible rfl
                      rotate_left
                      · simp only [Act.put, List.setIfInBounds_toArray, List.set_cons_zero, List.set_cons_succ, i64_w, i32_w]
                        rfl
                      refine pure_ (i := 8) (N := some 32) (v := ?_) (a' := ?_) #[true, false, true, false, false, true, true, false, true, false, false, false, false, false, false] rfl rfl (any_of HT_.out (by kernel_rfl)) (fun _ _ _ h => h) (Or.inl ⟨by rfl, ?_⟩) ?_ ?_
                      rotate_left
                      · intro w'
                        go_simp
                        with_reducible rfl
                      rotate_left
                      · simp only [Act.put, List.setIfInBounds_toArray, List.set_cons_zero, List.set_cons_succ, i64_w, i32_w]
                        rfl
                      refine take_ (i := 1) (N := some 25) (v := ?_) (a' := ?_) #[true, true, true, false, false, true, true, false, true, false, false, false, false, false, false] rfl rfl (take_ofW HT_.out HW_.out (by kernel_rfl)) (fun _ _ _ h => h) (Or.inl ⟨by rfl, ?_⟩) hHeld ?_ ?_
                      rotate_left
                      · rintro w' ⟨s0, s1, s2, s3, s4, s5, s6, s7⟩
                        go_simp
                        with_reducible rfl
                      rotate_left
                      · simp only [Act.put, List.setIfInBounds_toArray, List.set_cons_zero, List.set_cons_succ, i64_w, i32_w]
                        rfl
                      refine take_ (i := 3) (N := some 27) (v := ?_) (a' := ?_) #[true, true, true, true, false, true, true, false, true, false, false, false, false, false, false] rfl rfl (take_ofW HT_.out HW_.out (by kernel_rfl)) (fun _ _ _ h => h) (Or.inl ⟨by rfl, ?_⟩) hHeld ?_ ?_
                      rotate_left
                      · rintro w' ⟨s0, s1, s2, s3, s4, s5, s6, s7⟩
                        go_simp
                        with_reducible rfl
                      rotate_left
                      · simp only [Act.put, List.setIfInBounds_toArray, List.set_cons_zero, List.set_cons_succ, i64_w, i32_w]
                        rfl
                      refine pure_ (i := 4) (N := some 28) (v := ?_) (a' := ?_) #[true, true, true, true, true, true, true, false, true, false, false, false, false, false, false] rfl rfl (any_of HT_.out (by kernel_rfl)) (fun _ _ _ h => h) (Or.inl ⟨by rfl, ?_⟩) ?_ ?_
                      rotate_left
                      · intro w'
                        go_simp
                        with_reducible rfl
                      rotate_left
                      · simp only [Act.put, List.setIfInBounds_toArray, List.set_cons_zero, List.set_cons_succ, i64_w, i32_w]
                        rfl
                      refine take_ (i := 7) (N := some 31) (v := ?_) (a' := ?_) #[true, true, true, true, true, true, true, true, true, false, false, false, false, false, false] rfl rfl (take_ofW HT_.out HW_.out (by kernel_rfl)) (fun _ _ _ h => h) (Or.inl ⟨by rfl, ?_⟩) hHeld ?_ ?_
                      rotate_left
                      · rintro w' ⟨s0, s1, s2, s3, s4, s5, s6, s7⟩
                        go_simp
                        with_reducible rfl
                      rotate_left
                      · simp only [Act.put, List.setIfInBounds_toArray, List.set_cons_zero, List.set_cons_succ, i64_w, i32_w]
                        rfl
                      refine take_ (i := 9) (N := some 33) (v := ?_) (a' := ?_) #[true, true, true, true, true, true, true, true, true, true, false, false, false, false, false] rfl rfl (take_ofW HT_.out HW_.out (by kernel_rfl)) (fun _ _ _ h => h) (Or.inl ⟨by rfl, ?_⟩) hHeld ?_ ?_
                      rotate_left
                      · rintro w' ⟨s0, s1, s2, s3, s4, s5, s6, s7⟩
                        go_simp
                        with_reducible rfl
                      rotate_left
                      · simp only [Act.put, List.setIfInBounds_toArray, List.set_cons_zero, List.set_cons_succ, i64_w, i32_w]
                        rfl
                      refine pure_ (i := 10) (N := some 34) (v := ?_) (a' := ?_) #[true, true, true, true, true, true, true, true, true, true, true, false, false, false, false] rfl rfl (any_of HT_.out (by kernel_rfl)) (fun _ _ _ h => h) (Or.inl ⟨by rfl, ?_⟩) ?_ ?_
                      rotate_left
                      · intro w'
                        go_simp
                        with_reducible rfl
                      rotate_left
                      · simp only [Act.put, List.setIfInBounds_toArray, List.set_cons_zero, List.set_cons_succ, i64_w, i32_w]
                        rfl
                      refine one_ (i := 11) (N := some 35) #[true, true, true, true, true, true, true, true, true, true, true, true, false, false, false] rfl rfl (one_of HT_.out (by kernel_rfl)) (by decide) (fun K hK => ?_)
                      refine Kd.N_lit_step (Kd.slice 71 k71) _ 28 ?hg (N' := 35) ?hd (xs := ([y908, l2, y913] : List (List (S71)))) (inner := [.slice A0_2 y908.length c0_2, .slice A2 l2.length c2, .slice A37 y913.length c37]) (ok := (fun k_ => ((P0_2_ k_ ∨ P2_ k_) ∨ w.heap.size ≤ k_) ∧ some k_ ≠ (.slice (some ad906) t903.length co19 : Value).ownBlock ∧ some k_ ≠ (.slice Ao15 t896.length co15 : Value).ownBlock ∧ some k_ ≠ (u903002 : Value).ownBlock ∧ k_ ≠ gb893 ∧ k_ ≠ gb894 ∧ k_ ≠ gb902 ∧ k_ ≠ gb907)) (okp := (fun k_ => ((P0_2_ k_ ∨ P2_ k_) ∨ w.heap.size ≤ k_) ∧ some k_ ≠ (.slice (some ad906) t903.length co19 : Value).ownBlock ∧ some k_ ≠ (.slice Ao15 t896.length co15 : Value).ownBlock ∧ some k_ ≠ (u903002 : Value).ownBlock ∧ k_ ≠ gb893 ∧ k_ ≠ gb894 ∧ k_ ≠ gb902 ∧ k_ ≠ gb907)) ?hr ?hp (fun _ hk => hk) ((show ∀ k_, w35.heap.size ≤ k_ → (fun k_ => ((P0_2_ k_ ∨ P2_ k_) ∨ w.heap.size ≤ k_) ∧ some k_ ≠ (.slice (some ad906) t903.length co19 : Value).ownBlock ∧ some k_ ≠ (.slice Ao15 t896.length co15 : Value).ownBlock ∧ some k_ ≠ (u903002 : Value).ownBlock ∧ k_ ≠ gb893 ∧ k_ ≠ gb894 ∧ k_ ≠ gb902 ∧ k_ ≠ gb907) k_ from fun k_ hk => ⟨(.inr (Nat.le_trans (below_size (bl HB.out)) hk)), Kd.fresh' (Kd.R_lt (rk HO_13.out)) k_ hk, Kd.fresh' (Kd.R_lt (rk HO_903001.out)) k_ hk, Kd.fresh' (Kd.R_lt (rk HO_903002.out)) k_ hk, Kd.freshB (g := gb893) (o := .cells #[.int .i64 a0_0, .slice A0_1 l0_1.length c0_1, .slice A0_2 l0_2.length c0_2] 30 (0, 0)) (bk BK893.out) k_ hk, Kd.freshB (g := gb894) (o := .cells #[.int .i64 0, .slice none 0 0, .slice none 0 0] 30 (0, 0)) (bk BK894.out) k_ hk, Kd.freshB (g := gb902) (o := .cells #[.int .i64 t895, .slice Ao15 t896.length co15, u903002] 30 (0, 0)) (bk BK902.out) k_ hk, Kd.freshB (g := gb907) (o := .cells #[.int .i64 ((rd_T85 t903 x15_1).f0.f0), .int .i64 ((rd_T85 t903 x15_1).f0.f1), .int .i64 ((rd_T85 t903 x15_1).f0.f2), .int .i64 ((rd_T85 t903 x15_1).f1), .int .i64 ((rd_T85 t903 x15_1).f2)] 85 (0, 0)) (bk BK907.out) k_ hk⟩) _ (Nat.le_refl _)) (Below.refl _ _) (Nat.le_refl _) (by simp) ?_; (case hd => rfl); (case hg => rfl); (case hr => first | (go_simp; done) | (go_simp; rfl)); (case hp => exact (Reps.one (show Kd.FK (Kd.slice 71 k71) _ _ y908 [.slice A0_2 y908.length c0_2] from (Kd.FK_slice_mk (Kd.V_reads' (Kd.V_mono (ok' := (fun k_ => ((P0_2_ k_ ∨ P2_ k_) ∨ w.heap.size ≤ k_) ∧ some k_ ≠ (.slice (some ad906) t903.length co19 : Value).ownBlock ∧ some k_ ≠ (.slice Ao15 t896.length co15 : Value).ownBlock ∧ some k_ ≠ (u903002 : Value).ownBlock ∧ k_ ≠ gb893 ∧ k_ ≠ gb894 ∧ k_ ≠ gb902 ∧ k_ ≠ gb907)) (HO912.out) (fun k_ hk => ⟨hk.1, ⟨hk.2.1, ⟨hk.2.2.1, ⟨hk.2.2.2.1, ⟨hk.2.2.2.2.1, ⟨hk.2.2.2.2.2.1, ⟨hk.2.2.2.2.2.2.1, hk.2.2.2.2.2.2.2⟩⟩⟩⟩⟩⟩⟩))).2.1 (Kd.V_F (Kd.V_mono (ok' := (fun k_ => ((P0_2_ k_ ∨ P2_ k_) ∨ w.heap.size ≤ k_) ∧ some k_ ≠ (.slice (some ad906) t903.length co19 : Value).ownBlock ∧ some k_ ≠ (.slice Ao15 t896.length co15 : Value).ownBlock ∧ some k_ ≠ (u903002 : Value).ownBlock ∧ k_ ≠ gb893 ∧ k_ ≠ gb894 ∧ k_ ≠ gb902 ∧ k_ ≠ gb907)) (HO912.out) (fun k_ hk => ⟨hk.1, ⟨hk.2.1, ⟨hk.2.2.1, ⟨hk.2.2.2.1, ⟨hk.2.2.2.2.1, ⟨hk.2.2.2.2.2.1, ⟨hk.2.2.2.2.2.2.1, hk.2.2.2.2.2.2.2⟩⟩⟩⟩⟩⟩⟩))))) (Reps.one (show Kd.FK (Kd.slice 71 k71) _ _ l2 [.slice A2 l2.length c2] from (Kd.FK_slice_mk (Kd.V_reads' (Kd.V_mono (ok' := (fun k_ => ((P0_2_ k_ ∨ P2_ k_) ∨ w.heap.size ≤ k_) ∧ some k_ ≠ (.slice (some ad906) t903.length co19 : Value).ownBlock ∧ some k_ ≠ (.slice Ao15 t896.length co15 : Value).ownBlock ∧ some k_ ≠ (u903002 : Value).ownBlock ∧ k_ ≠ gb893 ∧ k_ ≠ gb894 ∧ k_ ≠ gb902 ∧ k_ ≠ gb907)) (HO_2.out) (fun k_ hk => ⟨hk.1, ⟨hk.2.1, ⟨hk.2.2.1, ⟨hk.2.2.2.1, ⟨hk.2.2.2.2.1, ⟨hk.2.2.2.2.2.1, ⟨hk.2.2.2.2.2.2.1, hk.2.2.2.2.2.2.2⟩⟩⟩⟩⟩⟩⟩))).2.1 (Kd.V_F (Kd.V_mono (ok' := (fun k_ => ((P0_2_ k_ ∨ P2_ k_) ∨ w.heap.size ≤ k_) ∧ some k_ ≠ (.slice (some ad906) t903.length co19 : Value).ownBlock ∧ some k_ ≠ (.slice Ao15 t896.length co15 : Value).ownBlock ∧ some k_ ≠ (u903002 : Value).ownBlock ∧ k_ ≠ gb893 ∧ k_ ≠ gb894 ∧ k_ ≠ gb902 ∧ k_ ≠ gb907)) (HO_2.out) (fun k_ hk => ⟨hk.1, ⟨hk.2.1, ⟨hk.2.2.1, ⟨hk.2.2.2.1, ⟨hk.2.2.2.2.1, ⟨hk.2.2.2.2.2.1, ⟨hk.2.2.2.2.2.2.1, hk.2.2.2.2.2.2.2⟩⟩⟩⟩⟩⟩⟩))))) (Reps.one (show Kd.FK (Kd.slice 71 k71) _ _ y913 [.slice A37 y913.length c37] from (Kd.FK_slice_mk (Kd.V_reads' (Kd.V_mono (ok' := (fun k_ => ((P0_2_ k_ ∨ P2_ k_) ∨ w.heap.size ≤ k_) ∧ some k_ ≠ (.slice (some ad906) t903.length co19 : Value).ownBlock ∧ some k_ ≠ (.slice Ao15 t896.length co15 : Value).ownBlock ∧ some k_ ≠ (u903002 : Value).ownBlock ∧ k_ ≠ gb893 ∧ k_ ≠ gb894 ∧ k_ ≠ gb902 ∧ k_ ≠ gb907)) (HO917.out) (fun k_ hk => ⟨hk.1, ⟨hk.2.1, ⟨hk.2.2.1, ⟨hk.2.2.2.1, ⟨hk.2.2.2.2.1, ⟨hk.2.2.2.2.2.1, ⟨hk.2.2.2.2.2.2.1, hk.2.2.2.2.2.2.2⟩⟩⟩⟩⟩⟩⟩))).2.1 (Kd.V_F (Kd.V_mono (ok' := (fun k_ => ((P0_2_ k_ ∨ P2_ k_) ∨ w.heap.size ≤ k_) ∧ some k_ ≠ (.slice (some ad906) t903.length co19 : Value).ownBlock ∧ some k_ ≠ (.slice Ao15 t896.length co15 : Value).ownBlock ∧ some k_ ≠ (u903002 : Value).ownBlock ∧ k_ ≠ gb893 ∧ k_ ≠ gb894 ∧ k_ ≠ gb902 ∧ k_ ≠ gb907)) (HO917.out) (fun k_ hk => ⟨hk.1, ⟨hk.2.1, ⟨hk.2.2.1, ⟨hk.2.2.2.1, ⟨hk.2.2.2.2.1, ⟨hk.2.2.2.2.2.1, ⟨hk.2.2.2.2.2.2.1, hk.2.2.2.2.2.2.2⟩⟩⟩⟩⟩⟩⟩))))) (Reps.none _ _)))))
                      intro v919 w38 ho39 hb hg_ hnew_
                      clear hg_ hnew_
                      (first | rw [← Ny918.out] at ho39 | (simp only [Int.reduceToNat] at ho39; rw [← Ny918.out] at ho39))
                      have n0_ := Aside0.mk (Kd.V_elder' (by (with_reducible repeat (first | apply Kd.V_alloc | apply Kd.V_drewN | apply Kd.V_drew)); exact HO_2.out) (Kd.N_base ho39) hb)
                      have n1_ := Aside0.mk (Kd.R_below (rk HO_13.out) hb)
                      have n2_ := Aside0.mk (Kd.V_elder' (by (with_reducible repeat (first | apply Kd.V_alloc | apply Kd.V_drewN | apply Kd.V_drew)); exact HO_894002.out) (Kd.N_base ho39) hb)
                      have n3_ := Aside0.mk (Kd.R_below (rk HO_903001.out) hb)
                      have n4_ := Aside0.mk (Kd.R_below (rk HO_903002.out) hb)
                      have n5_ := Aside0.mk (Kd.V_elder' (by (with_reducible repeat (first | apply Kd.V_alloc | apply Kd.V_drewN | apply Kd.V_drew)); exact HO912.out) (Kd.N_base ho39) hb)
                      have n6_ := Aside0.mk (Kd.V_elder' (by (with_reducible repeat (first | apply Kd.V_alloc | apply Kd.V_drewN | apply Kd.V_drew)); exact HO917.out) (Kd.N_base ho39) hb)
                      have n7_ := Aside0.mk (Kd.N_lower ho39 (below_size (bl HB.out)))
                      have n8_ := Aside0.mk (bb BK893.out hb)
                      have n9_ := Aside0.mk (bb BK894.out hb)
                      have n10_ := Aside0.mk (bb BK902.out hb)
                      have n11_ := Aside0.mk (bb BK907.out hb)
                      have n12_ := Aside0.mk (below_step (bl HB.out) hb)
                      clear HO_2
                      clear HO_13
                      clear HO_894002
                      clear HO_903001
                      clear HO_903002
                      clear HO912
                      clear HO917
                      clear BK893
                      clear BK894
                      clear BK902
                      clear BK907
                      clear HB
                      have HO_2 := n0_
                      have HO_13 := n1_
                      have HO_894002 := n2_
                      have HO_903001 := n3_
                      have HO_903002 := n4_
                      have HO912 := n5_
                      have HO917 := n6_
                      have HO920 := n7_
                      have BK893 := n8_
                      have BK894 := n9_
                      have BK902 := n10_
                      have BK907 := n11_
                      have HB := n12_
                      clear n0_ n1_ n2_ n3_ n4_ n5_ n6_ n7_ n8_ n9_ n10_ n11_ n12_
                      clear hb ho39
                      obtain ⟨Ao40, co40, eo40⟩ := Kd.N_slice HO920.out
                      (first | subst eo40 | (injection eo40 with f1_ f2_ f3_; have f4_ := f1_.symm; have f5_ := f3_.symm; clear f1_ f2_ f3_; subst f4_; subst f5_))
                      refine hK.out _ _ ⟨(blk_cell BK893.out 0).trans rfl, (blk_cell BK893.out 1).trans rfl, (blk_cell BK893.out 2).trans rfl, (blk_cell BK907.out 0).trans rfl, (blk_cell BK907.out 1).trans rfl, (blk_cell BK907.out 2).trans rfl, (blk_cell BK907.out 3).trans rfl, (blk_cell BK907.out 4).trans rfl⟩ (fun hHeld => ?_)
                      clear hK K
                      refine norm_ (a' := ?_) ?_ ?_
                      rotate_left
                      · show Act.put _ (some 35) _ = _
                        simp only [Act.put, List.setIfInBounds_toArray, List.set_cons_zero, List.set_cons_succ, i64_w, i32_w]
                        rfl
                      refine one_ (i := 12) (N := some 36) #[true, true, true, true, true, true, true, true, true, true, true, true, true, false, false] rfl rfl (one_of HT_.out (by kernel_rfl)) (by decide) (fun K hK => ?_)
                      refine goes_ Try.func95 (by kernel_rfl) rfl #[.slice Ao40 y918.length co40] (by rfl) rfl rfl (by (try simp only [List.map_toArray, List.map_cons, List.map_nil]); first | done | rfl | (simp only [List.length_drop, List.length_take]; rfl)) ?_
                      with_reducible refine (impl_Box_95.calls k1 _ _ y918 t921 _ ?side1 ?side2 A28.out).mono ?_
                      (case side1 => repeat (first | exact (Kd.N_reads' HO920.out).2.2 | (with_reducible refine Kd.C_alloc ?_ _) | (with_reducible refine Kd.C_drewN ?_ _) | (with_reducible refine Kd.C_drew ?_)))
                      (case side2 => exact (Kd.N_reads' HO920.out).2.1)
                      rintro e w41 ⟨v922, rfl, ho0, hb⟩
                      refine ⟨_, rfl, ?_⟩
                      have n0_ := Aside0.mk (Kd.V_elder' (by (with_reducible repeat (first | apply Kd.V_alloc | apply Kd.V_drewN | apply Kd.V_drew)); exact HO_2.out) (Kd.R_base ho0) hb)
                      have n1_ := Aside0.mk (Kd.R_below (rk HO_13.out) hb)
                      have n2_ := Aside0.mk (Kd.V_elder' (by (with_reducible repeat (first | apply Kd.V_alloc | apply Kd.V_drewN | apply Kd.V_drew)); exact HO_894002.out) (Kd.R_base ho0) hb)
                      have n3_ := Aside0.mk (Kd.R_below (rk HO_903001.out) hb)
                      have n4_ := Aside0.mk (Kd.R_elder' (rk HO_903002.out) (Kd.R_base ho0) hb)
                      have n5_ := Aside0.mk (Kd.V_elder' (by (with_reducible repeat (first | apply Kd.V_alloc | apply Kd.V_drewN | apply Kd.V_drew)); exact HO912.out) (Kd.R_base ho0) hb)
                      have n6_ := Aside0.mk (Kd.V_elder' (by (with_reducible repeat (first | apply Kd.V_alloc | apply Kd.V_drewN | apply Kd.V_drew)); exact HO917.out) (Kd.R_base ho0) hb)
                      have n7_ := Aside0.mk (Kd.N_elder' (by (with_reducible repeat (first | apply Kd.N_alloc | apply Kd.N_drewN | apply Kd.N_drew)); exact HO920.out) (Kd.R_base ho0) hb)
                      have n8_ := Aside0.mk (Kd.R_lower (Kd.R_new' (Kd.R_newM (M := fun k_ => (w.heap.size ≤ k_)) ho0 (below_size (bl HB.out)) (fun k_ h_ => h_)) (Kd.R_lt (rk HO_903002.out))) (below_size (bl HB.out)))
                      have n9_ := Aside0.mk (bb BK893.out hb)
                      have n10_ := Aside0.mk (bb BK894.out hb)
                      have n11_ := Aside0.mk (bb BK902.out hb)
                      have n12_ := Aside0.mk (bb BK907.out hb)
                      have n13_ := Aside0.mk (below_step (bl HB.out) hb)
                      clear HO_2
                      clear HO_13
                      clear HO_894002
                      clear HO_903001
                      clear HO_903002
                      clear HO912
                      clear HO917
                      clear HO920
                      clear BK893
                      clear BK894
                      clear BK902
                      clear BK907
                      clear HB
                      have HO_2 := n0_
                      have HO_13 := n1_
                      have HO_894002 := n2_
                      have HO_903001 := n3_
                      have HO_903002 := n4_
                      have HO912 := n5_
                      have HO917 := n6_
                      have HO920 := n7_
                      have HO923 := n8_
                      have BK893 := n9_
                      have BK894 := n10_
                      have BK902 := n11_
                      have BK907 := n12_
                      have HB := n13_
                      clear n0_ n1_ n2_ n3_ n4_ n5_ n6_ n7_ n8_ n9_ n10_ n11_ n12_ n13_
                      (try clear hb)
                      (try clear hb2)
                      (try clear hk)
                      (try clear hi)
                      (try clear ho0)
                      obtain ⟨Ao42, co42, eo42⟩ := Kd.R_slice HO923.out
                      (first | subst eo42 | (injection eo42 with f1_ f2_ f3_; have f4_ := f1_.symm; have f5_ := f3_.symm; clear f1_ f2_ f3_; subst f4_; subst f5_))
                      refine hK.out _ _ ⟨(blk_cell BK893.out 0).trans rfl, (blk_cell BK893.out 1).trans rfl, (blk_cell BK893.out 2).trans rfl, (blk_cell BK907.out 0).trans rfl, (blk_cell BK907.out 1).trans rfl, (blk_cell BK907.out 2).trans rfl, (blk_cell BK907.out 3).trans rfl, (blk_cell BK907.out 4).trans rfl⟩ (fun hHeld => ?_)
                      clear hK K
                      refine norm_ (a' := ?_) ?_ ?_
                      rotate_left
                      · show Act.put _ (some 36) _ = _
                        simp only [Act.put, List.setIfInBounds_toArray, List.set_cons_zero, List.set_cons_succ, i64_w, i32_w]
                        rfl
                      refine pure_ (i := 13) (N := some 37) (v := ?_) (a' := ?_) #[true, true, true, true, true, true, true, true, true, true, true, true, true, true, false] rfl rfl (any_of HT_.out (by kernel_rfl)) (fun _ _ _ h => h) (Or.inl ⟨by rfl, ?_⟩) ?_ ?_
                      rotate_left
                      · intro w'
                        go_simp
                        with_reducible rfl
                      rotate_left
                      · simp only [Act.put, List.setIfInBounds_toArray, List.set_cons_zero, List.set_cons_succ, i64_w, i32_w]
                        rfl
                      refine one_ (i := 14) (N := none) #[true, true, true, true, true, true, true, true, true, true, true, true, true, true, true] rfl rfl (one_of HT_.out (by kernel_rfl)) (by decide) (fun K hK => ?_)
                      have hs43 : w41.cell? ⟨gb902, 2, none⟩ = some (u903002) := (blk_cell BK902.out 2).trans rfl
                      have hfs43 := blk_frozen BK902.out 2
                      have hns43_0 := NB893_902.out
                      have hns43_1 := NB894_902.out
                      have hns43_3 := NB907_902.out
                      have hms43_0 := NB902_893.out
                      have hms43_1 := NB902_894.out
                      have hms43_3 := NB902_907.out
                      refine skip_ (w1 := ?_) (by rfl) rfl ?_ ?_
                      rotate_left
                      · go_simp
                        rfl
                      refine hK.out _ _ ⟨((cell_far (p := ⟨gb902, _, none⟩) NB893_902.out _).trans (hHeld.1)), ((cell_far (p := ⟨gb902, _, none⟩) NB893_902.out _).trans (hHeld.2.1)), ((cell_far (p := ⟨gb902, _, none⟩) NB893_902.out _).trans (hHeld.2.2.1)), ((cell_far (p := ⟨gb902, _, none⟩) NB907_902.out _).trans (hHeld.2.2.2.1)), ((cell_far (p := ⟨gb902, _, none⟩) NB907_902.out _).trans (hHeld.2.2.2.2.1)), ((cell_far (p := ⟨gb902, _, none⟩) NB907_902.out _).trans (hHeld.2.2.2.2.2.1)), ((cell_far (p := ⟨gb902, _, none⟩) NB907_902.out _).trans (hHeld.2.2.2.2.2.2.1)), ((cell_far (p := ⟨gb902, _, none⟩) NB907_902.out _).trans (hHeld.2.2.2.2.2.2.2))⟩ (fun hHeld => ?_)
                      clear hK K
                      refine done_ (done_of HT_.out (by kernel_rfl)) ?_
                      try go_wp2
                      go_roundg k1
                      case measure => have := HK1.out; omega
                      case rel => exact ⟨(wrap64 (x15_1 + 1)), (t921), (.slice Ao42 t921.length co42), (by first | rfl | (simp; done) | (simp [*]; done)), H', ⟨by have := HK1.out; omega⟩, ⟨by (with_reducible repeat (first | apply Kd.V_alloc | apply Kd.V_drewN | apply Kd.V_drew)); exact Kd.V_mono (Kd.V_far (p := ⟨gb902, 2, none⟩) (Kd.V_mono HO_2.out (fun k_ hk => (⟨hk, hk.1.1.2.2.2.2.2.2.1⟩ : _ ∧ k_ ≠ gb902))) (fun _ hk => hk.2) (.slice Ao42 t921.length co42)) (fun _ hk => ⟨hk.1.1.1.1, ⟨hk.1.1.1.2.1, ⟨hk.1.1.1.2.2.1, ⟨hk.1.2, ⟨hk.1.1.1.2.2.2.2.1, ⟨hk.1.1.1.2.2.2.2.2.1, hk.1.1.1.2.2.2.2.2.2.1⟩⟩⟩⟩⟩⟩)⟩, ⟨by (with_reducible repeat (first | apply Kd.R_alloc | apply Kd.R_drewN | apply Kd.R_drew)); exact Kd.R_mono (Kd.R_far (p := ⟨gb902, 2, none⟩) (Kd.R_types HO_13.out BK902.out (by decide)) (fun _ hk => hk.2) (.slice Ao42 t921.length co42)) (fun _ hk => hk.1.1)⟩, ⟨by (with_reducible repeat (first | apply Kd.V_alloc | apply Kd.V_drewN | apply Kd.V_drew)); exact Kd.V_mono (Kd.V_far (p := ⟨gb902, 2, none⟩) (Kd.V_mono HO_894002.out (fun k_ hk => (⟨hk, hk.1.1.2.2.2.2.2.2.1⟩ : _ ∧ k_ ≠ gb902))) (fun _ hk => hk.2) (.slice Ao42 t921.length co42)) (fun _ hk => ⟨hk.1.1.1.1, ⟨hk.1.1.1.2.1, ⟨hk.1.1.1.2.2.1, ⟨hk.1.2, ⟨hk.1.1.1.2.2.2.2.1, ⟨hk.1.1.1.2.2.2.2.2.1, hk.1.1.1.2.2.2.2.2.2.1⟩⟩⟩⟩⟩⟩)⟩, ⟨by (with_reducible repeat (first | apply Kd.R_alloc | apply Kd.R_drewN | apply Kd.R_drew)); exact Kd.R_mono (Kd.R_far (p := ⟨gb902, 2, none⟩) (Kd.R_types HO_903001.out BK902.out (by decide)) (fun _ hk => hk.2) (.slice Ao42 t921.length co42)) (fun _ hk => hk.1)⟩, ⟨by (with_reducible repeat (first | apply Kd.R_alloc | apply Kd.R_drewN | apply Kd.R_drew)); exact Kd.R_mono (Kd.R_far (p := ⟨gb902, 2, none⟩) (Kd.R_types HO923.out BK902.out (by decide)) (fun _ hk => hk.2) (.slice Ao42 t921.length co42)) (fun _ hk => hk.1.1.1)⟩, ⟨by (with_reducible repeat (first | apply bN | apply bD | apply bA)); refine blk_far ?_ NB893_902.out _; (with_reducible repeat (first | apply bN | apply bD | apply bA)); exact BK893.out⟩, ⟨by (with_reducible repeat (first | apply bN | apply bD | apply bA)); refine blk_far ?_ NB894_902.out _; (with_reducible repeat (first | apply bN | apply bD | apply bA)); exact BK894.out⟩, ⟨by (with_reducible repeat (first | apply bN | apply bD | apply bA)); refine blk_put (cs := #[.int .i64 t895, .slice Ao15 t896.length co15, u903002]) ?_ 2 _ rfl; (with_reducible repeat (first | apply bN | apply bD | apply bA)); exact BK902.out⟩, ⟨bl HB.out⟩⟩
                    · rw [if_neg c27] at H
                      exact absurd H (by simp)
                  · rw [if_neg c26] at H
                    exact absurd H (by simp)
                · rw [if_neg c25] at H
                  exact absurd H (by simp)
              · rw [if_neg c24] at H
                exact absurd H (by simp)
            · rw [if_neg c23] at H
              have c23b0 : (((rd_T85 t903 x15_1).f0.f1) == a1) = false := beq_eq_false_iff_ne.mpr c23
              have c23b1 : (((rd_T85 t903 x15_1).f0.f1) != a1) = true := bne_iff_ne.mpr c23
              have H' := Aside0.mk H
              clear H
              have p906 : 0 ≤ (x15_1 : Int) := of_decide_eq_true (by first | (with_reducible assumption) | assumption)
              have q906 : x15_1 < (t903.length : Int) := of_decide_eq_true (by first | (with_reducible assumption) | assumption)
              obtain ⟨ad906, e906, hx906_0, hx906_1, hx906_2, hx906_3, hx906_4⟩ := at_T85 (Kd.R_reads' HO_13.out).2.2 x15_1 p906 q906
              cases e906
              replace p906 := eq_true p906
              replace q906 := eq_true q906
              go_wp2_with (first | ((with_reducible refine gate_dst (N := 9) rfl ?_); refine bx (cs := #[.int .i64 0, .int .i64 0, .int .i64 0, .int .i64 0, .int .i64 0]) (t := 85) fun gb907 hg w44 hbox hb => ?_; have n0_ := Aside0.mk (Kd.V_below (Kd.V_elderB (by (with_reducible repeat (first | apply Kd.V_alloc | apply Kd.V_drewN | apply Kd.V_drew)); exact HO_2.out) gb907 (Nat.le_of_eq hg.symm)) hb); have n1_ := Aside0.mk (Kd.R_below (Kd.R_elderB (rk HO_13.out) gb907 (Nat.le_of_eq hg.symm)) hb); have n2_ := Aside0.mk (Kd.V_below (Kd.V_elderB (by (with_reducible repeat (first | apply Kd.V_alloc | apply Kd.V_drewN | apply Kd.V_drew)); exact HO_894002.out) gb907 (Nat.le_of_eq hg.symm)) hb); have n3_ := Aside0.mk (Kd.R_below (rk HO_903001.out) hb); have n4_ := Aside0.mk (Kd.R_below (rk HO_903002.out) hb); have n5_ := Aside0.mk (bb BK893.out hb); have n6_ := Aside0.mk (bb BK894.out hb); have n7_ := Aside0.mk (bb BK902.out hb); have n8_ := Aside0.mk (below_step (bl HB.out) hb); have n9_ := Aside0.mk (hbox); have n10_ := Aside0.mk (gs HB.out hg); have n11_ := Aside0.mk (gs HB.out hg); have n12_ := Aside0.mk ((nl BK893.out hg)); have n13_ := Aside0.mk ((ng BK893.out hg)); have n14_ := Aside0.mk ((nl BK894.out hg)); have n15_ := Aside0.mk ((ng BK894.out hg)); have n16_ := Aside0.mk ((nl BK902.out hg)); have n17_ := Aside0.mk ((ng BK902.out hg)); clear HO_2; clear HO_13; clear HO_894002; clear HO_903001; clear HO_903002; clear BK893; clear BK894; clear BK902; clear HB; have HO_2 := n0_; have HO_13 := n1_; have HO_894002 := n2_; have HO_903001 := n3_; have HO_903002 := n4_; have BK893 := n5_; have BK894 := n6_; have BK902 := n7_; have HB := n8_; have BK907 := n9_; have GW907 := n10_; have GE907 := n11_; have NB893_907 := n12_; have NB907_893 := n13_; have NB894_907 := n14_; have NB907_894 := n15_; have NB902_907 := n16_; have NB907_902 := n17_; clear n0_ n1_ n2_ n3_ n4_ n5_ n6_ n7_ n8_ n9_ n10_ n11_ n12_ n13_ n14_ n15_ n16_ n17_; clear hb hbox hg; have hnb45 := NB907_893.out; have hnc45 := NB893_907.out; have hnb46 := NB907_894.out; have hnc46 := NB894_907.out; have hnb47 := NB907_902.out; have hnc47 := NB902_907.out; have hcz48_0 : w44.cell? ⟨gb907, 0, none⟩ = some (.int .i64 0) := (blk_cell BK907.out 0).trans rfl; have hcz48_1 : w44.cell? ⟨gb907, 1, none⟩ = some (.int .i64 0) := (blk_cell BK907.out 1).trans rfl; have hcz48_2 : w44.cell? ⟨gb907, 2, none⟩ = some (.int .i64 0) := (blk_cell BK907.out 2).trans rfl; have hcz48_3 : w44.cell? ⟨gb907, 3, none⟩ = some (.int .i64 0) := (blk_cell BK907.out 3).trans rfl; have hcz48_4 : w44.cell? ⟨gb907, 4, none⟩ = some (.int .i64 0) := (blk_cell BK907.out 4).trans rfl; have hfz48_0 := blk_frozen BK907.out 0; have hfz48_1 := blk_frozen BK907.out 1; have hfz48_2 := blk_frozen BK907.out 2; have hfz48_3 := blk_frozen BK907.out 3; have hfz48_4 := blk_frozen BK907.out 4))
              go_roundg k1
              case measure => have := HK1.out; omega
              case rel => exact ⟨(wrap64 (x15_1 + 1)), (x903002_1), (u903002), (by first | rfl | (simp; done) | (simp [*]; done)), H', ⟨by have := HK1.out; omega⟩, ⟨by (with_reducible repeat (first | apply Kd.V_alloc | apply Kd.V_drewN | apply Kd.V_drew)); exact Kd.V_mono (Kd.V_far (p := ⟨gb907, 4, none⟩) (Kd.V_far (p := ⟨gb907, 3, none⟩) (Kd.V_far (p := ⟨gb907, 2, none⟩) (Kd.V_far (p := ⟨gb907, 1, none⟩) (Kd.V_far (p := ⟨gb907, 0, none⟩) (Kd.V_mono HO_2.out (fun k_ hk => (⟨hk, hk.2⟩ : _ ∧ k_ ≠ gb907))) (fun _ hk => hk.2) (.int .i64 ((rd_T85 t903 x15_1).f0.f0))) (fun _ hk => hk.2) (.int .i64 ((rd_T85 t903 x15_1).f0.f1))) (fun _ hk => hk.2) (.int .i64 ((rd_T85 t903 x15_1).f0.f2))) (fun _ hk => hk.2) (.int .i64 ((rd_T85 t903 x15_1).f1))) (fun _ hk => hk.2) (.int .i64 ((rd_T85 t903 x15_1).f2))) (fun _ hk => ⟨hk.1.1.1, ⟨hk.1.1.2.1, ⟨hk.1.1.2.2.1, ⟨hk.1.1.2.2.2.1, ⟨hk.1.1.2.2.2.2.1, ⟨hk.1.1.2.2.2.2.2.1, hk.1.1.2.2.2.2.2.2⟩⟩⟩⟩⟩⟩)⟩, ⟨by (with_reducible repeat (first | apply Kd.R_alloc | apply Kd.R_drewN | apply Kd.R_drew)); exact Kd.R_mono (Kd.R_far (p := ⟨gb907, 4, none⟩) (Kd.R_far (p := ⟨gb907, 3, none⟩) (Kd.R_far (p := ⟨gb907, 2, none⟩) (Kd.R_far (p := ⟨gb907, 1, none⟩) (Kd.R_far (p := ⟨gb907, 0, none⟩) (Kd.R_mono HO_13.out (fun k_ hk => (⟨hk, hk.2⟩ : _ ∧ k_ ≠ gb907))) (fun _ hk => hk.2) (.int .i64 ((rd_T85 t903 x15_1).f0.f0))) (fun _ hk => hk.2) (.int .i64 ((rd_T85 t903 x15_1).f0.f1))) (fun _ hk => hk.2) (.int .i64 ((rd_T85 t903 x15_1).f0.f2))) (fun _ hk => hk.2) (.int .i64 ((rd_T85 t903 x15_1).f1))) (fun _ hk => hk.2) (.int .i64 ((rd_T85 t903 x15_1).f2))) (fun _ hk => hk.1.1)⟩, ⟨by (with_reducible repeat (first | apply Kd.V_alloc | apply Kd.V_drewN | apply Kd.V_drew)); exact Kd.V_mono (Kd.V_far (p := ⟨gb907, 4, none⟩) (Kd.V_far (p := ⟨gb907, 3, none⟩) (Kd.V_far (p := ⟨gb907, 2, none⟩) (Kd.V_far (p := ⟨gb907, 1, none⟩) (Kd.V_far (p := ⟨gb907, 0, none⟩) (Kd.V_mono HO_894002.out (fun k_ hk => (⟨hk, hk.2⟩ : _ ∧ k_ ≠ gb907))) (fun _ hk => hk.2) (.int .i64 ((rd_T85 t903 x15_1).f0.f0))) (fun _ hk => hk.2) (.int .i64 ((rd_T85 t903 x15_1).f0.f1))) (fun _ hk => hk.2) (.int .i64 ((rd_T85 t903 x15_1).f0.f2))) (fun _ hk => hk.2) (.int .i64 ((rd_T85 t903 x15_1).f1))) (fun _ hk => hk.2) (.int .i64 ((rd_T85 t903 x15_1).f2))) (fun _ hk => ⟨hk.1.1.1, ⟨hk.1.1.2.1, ⟨hk.1.1.2.2.1, ⟨hk.1.1.2.2.2.1, ⟨hk.1.1.2.2.2.2.1, ⟨hk.1.1.2.2.2.2.2.1, hk.1.1.2.2.2.2.2.2⟩⟩⟩⟩⟩⟩)⟩, ⟨by (with_reducible repeat (first | apply Kd.R_alloc | apply Kd.R_drewN | apply Kd.R_drew)); exact Kd.R_mono (Kd.R_far (p := ⟨gb907, 4, none⟩) (Kd.R_far (p := ⟨gb907, 3, none⟩) (Kd.R_far (p := ⟨gb907, 2, none⟩) (Kd.R_far (p := ⟨gb907, 1, none⟩) (Kd.R_far (p := ⟨gb907, 0, none⟩) (Kd.R_types HO_903001.out BK907.out (by decide)) (fun _ hk => hk.2) (.int .i64 ((rd_T85 t903 x15_1).f0.f0))) (fun _ hk => hk.2) (.int .i64 ((rd_T85 t903 x15_1).f0.f1))) (fun _ hk => hk.2) (.int .i64 ((rd_T85 t903 x15_1).f0.f2))) (fun _ hk => hk.2) (.int .i64 ((rd_T85 t903 x15_1).f1))) (fun _ hk => hk.2) (.int .i64 ((rd_T85 t903 x15_1).f2))) (fun _ hk => hk.1)⟩, ⟨by (with_reducible repeat (first | apply Kd.R_alloc | apply Kd.R_drewN | apply Kd.R_drew)); exact Kd.R_mono (Kd.R_far (p := ⟨gb907, 4, none⟩) (Kd.R_far (p := ⟨gb907, 3, none⟩) (Kd.R_far (p := ⟨gb907, 2, none⟩) (Kd.R_far (p := ⟨gb907, 1, none⟩) (Kd.R_far (p := ⟨gb907, 0, none⟩) (Kd.R_types HO_903002.out BK907.out (by decide)) (fun _ hk => hk.2) (.int .i64 ((rd_T85 t903 x15_1).f0.f0))) (fun _ hk => hk.2) (.int .i64 ((rd_T85 t903 x15_1).f0.f1))) (fun _ hk => hk.2) (.int .i64 ((rd_T85 t903 x15_1).f0.f2))) (fun _ hk => hk.2) (.int .i64 ((rd_T85 t903 x15_1).f1))) (fun _ hk => hk.2) (.int .i64 ((rd_T85 t903 x15_1).f2))) (fun _ hk => hk.1)⟩, ⟨by (with_reducible repeat (first | apply bN | apply bD | apply bA)); refine blk_far ?_ NB893_907.out _; (with_reducible repeat (first | apply bN | apply bD | apply bA)); refine blk_far ?_ NB893_907.out _; (with_reducible repeat (first | apply bN | apply bD | apply bA)); refine blk_far ?_ NB893_907.out _; (with_reducible repeat (first | apply bN | apply bD | apply bA)); refine blk_far ?_ NB893_907.out _; (with_reducible repeat (first | apply bN | apply bD | apply bA)); refine blk_far ?_ NB893_907.out _; (with_reducible repeat (first | apply bN | apply bD | apply bA)); exact BK893.out⟩, ⟨by (with_reducible repeat (first | apply bN | apply bD | apply bA)); refine blk_far ?_ NB894_907.out _; (with_reducible repeat (first | apply bN | apply bD | apply bA)); refine blk_far ?_ NB894_907.out _; (with_reducible repeat (first | apply bN | apply bD | apply bA)); refine blk_far ?_ NB894_907.out _; (with_reducible repeat (first | apply bN | apply bD | apply bA)); refine blk_far ?_ NB894_907.out _; (with_reducible repeat (first | apply bN | apply bD | apply bA)); refine blk_far ?_ NB894_907.out _; (with_reducible repeat (first | apply bN | apply bD | apply bA)); exact BK894.out⟩, ⟨by (with_reducible repeat (first | apply bN | apply bD | apply bA)); refine blk_far ?_ NB902_907.out _; (with_reducible repeat (first | apply bN | apply bD | apply bA)); refine blk_far ?_ NB902_907.out _; (with_reducible repeat (first | apply bN | apply bD | apply bA)); refine blk_far ?_ NB902_907.out _; (with_reducible repeat (first | apply bN | apply bD | apply bA)); refine blk_far ?_ NB902_907.out _; (with_reducible repeat (first | apply bN | apply bD | apply bA)); refine blk_far ?_ NB902_907.out _; (with_reducible repeat (first | apply bN | apply bD | apply bA)); exact BK902.out⟩, ⟨bl HB.out⟩⟩
          · rw [if_neg c22] at H
            exact absurd H (by simp)
        · rw [if_neg c21] at H
          exact absurd H (by simp)
      · rw [if_neg c20] at H
        have c20b0 : decide (x15_1 < (t903.length : Int)) = false := decide_eq_false c20
        clear c20
        simp only [Option.some.injEq, Prod.mk.injEq] at H
        obtain ⟨rfl, rfl, rfl⟩ := H
        have hnb49 := NB902_893.out
        have hnc49 := NB893_902.out
        have hnb50 := NB902_894.out
        have hnc50 := NB894_902.out
        have hcz51_0 : wr.cell? ⟨gb902, 0, none⟩ = some (.int .i64 t895) := (blk_cell BK902.out 0).trans rfl
        have hcz51_1 : wr.cell? ⟨gb902, 1, none⟩ = some (.slice Ao15 t896.length co15) := (blk_cell BK902.out 1).trans rfl
        have hcz51_2 : wr.cell? ⟨gb902, 2, none⟩ = some (u903002) := (blk_cell BK902.out 2).trans rfl
        have hfz51_0 := blk_frozen BK902.out 0
        have hfz51_1 := blk_frozen BK902.out 1
        have hfz51_2 := blk_frozen BK902.out 2
        have hnb52 := NB894_893.out
        have hnc52 := NB893_894.out
        have hcz53_0 : wr.cell? ⟨gb894, 0, none⟩ = some (.int .i64 0) := (blk_cell BK894.out 0).trans rfl
        have hcz53_1 : wr.cell? ⟨gb894, 1, none⟩ = some (.slice none 0 0) := (blk_cell BK894.out 1).trans rfl
        have hcz53_2 : wr.cell? ⟨gb894, 2, none⟩ = some (.slice none 0 0) := (blk_cell BK894.out 2).trans rfl
        have hfz53_0 := blk_frozen BK894.out 0
        have hfz53_1 := blk_frozen BK894.out 1
        have hfz53_2 := blk_frozen BK894.out 2
        obtain ⟨Ao54, co54, eo54⟩ := Kd.R_slice HO_903002.out
        subst eo54
        go_wp2
        refine bodyPost_ret (results_cell_row rfl _ _ gb894 30 #[.int .i64 t895, .slice Ao15 t896.length co15, .slice Ao54 x903002_1.length co54] (0, 0) _ rfl (by (with_reducible repeat (first | apply bN | apply bD | apply bA)); refine blk_put (cs := #[.int .i64 t895, .slice Ao15 t896.length co15, .slice none 0 0]) ?_ 2 _ rfl; (with_reducible repeat (first | apply bN | apply bD | apply bA)); refine blk_put (cs := #[.int .i64 t895, .slice none 0 0, .slice none 0 0]) ?_ 1 _ rfl; (with_reducible repeat (first | apply bN | apply bD | apply bA)); refine blk_put (cs := #[.int .i64 0, .slice none 0 0, .slice none 0 0]) ?_ 0 _ rfl; (with_reducible repeat (first | apply bN | apply bD | apply bA)); exact BK894.out) Try.underlying30 rfl (by kernel_rfl)) rfl ?_
        exact ⟨_, _, by first | rfl | (simp [errW_none, errW_some] <;> rfl) | (simp [*, errW_none, errW_some] <;> rfl), by (with_reducible repeat (first | apply Kd.R_alloc | apply Kd.R_drewN | apply Kd.R_drew)); exact Kd.R_mono (Kd.R_far (p := ⟨gb894, 2, none⟩) (Kd.R_far (p := ⟨gb894, 1, none⟩) (Kd.R_far (p := ⟨gb894, 0, none⟩) (Kd.R_types HO_903001.out BK894.out (by decide)) (fun _ hk => hk.2) (.int .i64 t895)) (fun _ hk => hk.2) (.slice Ao15 t896.length co15)) (fun _ hk => hk.2) (.slice Ao54 x903002_1.length co54)) (fun _ hk => hk.1), by (with_reducible repeat (first | apply Kd.R_alloc | apply Kd.R_drewN | apply Kd.R_drew)); exact Kd.R_mono (Kd.R_far (p := ⟨gb894, 2, none⟩) (Kd.R_far (p := ⟨gb894, 1, none⟩) (Kd.R_far (p := ⟨gb894, 0, none⟩) (Kd.R_types HO_903002.out BK894.out (by decide)) (fun _ hk => hk.2) (.int .i64 t895)) (fun _ hk => hk.2) (.slice Ao15 t896.length co15)) (fun _ hk => hk.2) (.slice Ao54 x903002_1.length co54)) (fun _ hk => hk.1), bl HB.out⟩
end Go.Proofs.Ytghfeapncmlihaa.A
