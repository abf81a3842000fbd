/- What the proof of the law FnGaps uses: lemmas, the Lean functions of the Go functions that it reaches, their contracts, and the pure statement's proof. -/
import Derived.Test.YtghfeapncmlihaaZFnGapsx16
import Derived.Test.YtghfeapncmlihaaZFnGapsx21
import Derived.Test.YtghfeapncmlihaaZFnGapsx19
import Derived.Test.YtghfeapncmlihaaZFnGapsh
namespace Go.Proofs.Ytghfeapncmlihaa.A
open Go.RowKit Go.Proofs.YtghfeapncmlihaaW.PrintWords Go.Proofs.YtghfeapncmlihaaW.PrintLast Go.Proofs.YtghfeapncmlihaaW.PrintMore
attribute [local go_sem] max2_int min2_int max_two min_two max_three min_three max_four min_four   
set_option linter.unusedVariables false
set_option linter.unusedSimpArgs false
def impl_filled.l0 : Nat → Int → List (S71) → List (S85) → Int → Int → Int → List Int → List (S71) → Int → List Int → List (S71) → Option (Int × List Int × (List (S71)))
 | 0, _, _, _, _, _, _, _, _, _, _, _ => none
 | k + 1, x1, x2, x13, x14, x15, x894000, x894001, x894002, x903000, x903001, x903002 => if x15 < x14 then (if 0 ≤ x15 then (if x15 < (x13.length : Int) then (if ((rd_T85 x13 x15).f0.f1) = x1 then (if 0 ≤ ((rd_T85 x13 x15).f1) then (if ((rd_T85 x13 x15).f1) ≤ (x894002.length : Int) then (if 0 ≤ ((rd_T85 x13 x15).f2) then (if ((rd_T85 x13 x15).f2) ≤ (x894002.length : Int) then ((impl_Box_95.f k (([(x894002.take (((rd_T85 x13 x15).f1) : Int).toNat), x2, (x894002.drop (((rd_T85 x13 x15).f2) : Int).toNat)] : List (List (S71))))).bind fun t921 => (impl_filled.l0 k x1 x2 x13 x14 (wrap64 (x15 + 1)) x894000 x894001 x894002 x903000 x903001 t921)) else (none)) else (none)) else (none)) else (none)) else (impl_filled.l0 k x1 x2 x13 x14 (wrap64 (x15 + 1)) x894000 x894001 x894002 x903000 x903001 x903002)) else (none)) else (none)) else (some (x903000, x903001, x903002))
def impl_filled.f (k : Nat) (a0_0 : Int) (l0_1 : List Int) (l0_2 : List (S71)) (a1 : Int) (l2 : List (S71)) : Option (Int × List Int × (List (S71))) := (impl_copyColumn.f a0_0 l0_1 l0_2).bind fun bt895 => ((impl_runsOf.f k a0_0 l0_1 l0_2).bind fun t903 => (impl_filled.l0 k a1 l2 t903 (t903.length : Int) 0 a0_0 l0_1 l0_2 bt895.1 bt895.2.1 bt895.2.2))
def impl_filled.T6 : Bool × List (List Nat × List Nat) := (true, [([], []), ([0], [0]), ([], []), ([2], [2]), ([1, 3], [1, 3]), ([], []), ([], []), ([6], [6]), ([], []), ([8], [8]), ([7, 9], [7, 9]), ([4, 5, 10], [4, 5, 10]), ([11], [11]), ([0, 1, 2, 3, 4, 5, 6, 7, 8, 9, 10, 11, 12], []), ([13, 12, 12, 0, 1, 2, 3, 4, 5, 6, 7, 8, 9, 10, 11, 12], [12, 13])])
def impl_filled.B6 : List Nat := [0, 1, 0, 4, 15, 0, 0, 64, 0, 256, 960, 2047, 4095, 8191, 16383]
theorem impl_filled.tab6 : rtab .any (opsOf Try.f81 6) = impl_filled.T6 := by kernel_rfl
theorem impl_filled.bits6 : waitsOk impl_filled.T6.2 impl_filled.B6 = true := by kernel_rfl
set_option maxHeartbeats 8000000 in
set_option maxRecDepth 100000 in
theorem impl_filled.calls (k : Nat) (a0_0 : Int) (A0_1 : Option Addr) (c0_1 : Nat) (l0_1 : List Int) (P0_2_ : Nat → Prop) (A0_2 : Option Addr) (c0_2 : Nat) (l0_2 : List (S71)) (a1 : Int) (P2_ : Nat → Prop) (A2 : Option Addr) (c2 : Nat) (l2 : List (S71)) (r1 : Int) (r2 : List Int) (r3 : List (S71)) (w : World) (hr0_1 : Kd.C (Kd.int .i64) w A0_1 l0_1.length l0_1) (hc0_1 : l0_1.length ≤ c0_1) (hs0_2 : Kd.V k71 71 w w.heap.size (fun k_ => P0_2_ k_) (.slice A0_2 l0_2.length c0_2) l0_2) (hs2 : Kd.V k71 71 w w.heap.size (fun k_ => P2_ k_) (.slice A2 l2.length c2) l2) (h : impl_filled.f k a0_0 l0_1 l0_2 a1 l2 = some (r1, r2, r3)) :
  Calls Try.prog 81 #[.agg #[.int .i64 a0_0, .slice A0_1 l0_1.length c0_1, .slice A0_2 l0_2.length c0_2], .int .i64 a1, .slice A2 l2.length c2] w fun e w' => ∃ v1_ v2_ : Value, e = .returned (.agg #[.int .i64 r1, v1_, v2_]) ∧ Kd.R (Kd.int .i64) 3 w' w.heap.size (fun k_ => (w.heap.size ≤ k_)) v1_ r2 ∧ Kd.R k71 71 w' w.heap.size (fun k_ => (w.heap.size ≤ k_)) v2_ r3 ∧ Below w.heap.size w w' := by
 have hu30 := Try.underlying30
 have hu85 := Try.underlying85
 have HR0_1 := Aside0.mk hr0_1
 have HC0_1 := Aside0.mk hc0_1
 clear hr0_1 hc0_1
 have HO0_2 := Aside0.mk (show Kd.V k71 71 w w.heap.size (fun k_ => ((P0_2_ k_ ∨ P2_ k_) ∨ w.heap.size ≤ k_)) (.slice A0_2 l0_2.length c0_2) l0_2 from Kd.V_mono hs0_2 (fun k_ hk => .inl (.inl hk)))
 have HO2 := Aside0.mk (show Kd.V k71 71 w w.heap.size (fun k_ => ((P0_2_ k_ ∨ P2_ k_) ∨ w.heap.size ≤ k_)) (.slice A2 l2.length c2) l2 from Kd.V_mono hs2 (fun k_ hk => .inl (.inr hk)))
 have HB := Aside0.mk (Below.refl w.heap.size w)
 have H : ((impl_copyColumn.f a0_0 l0_1 l0_2).bind fun bt895 => ((impl_runsOf.f k a0_0 l0_1 l0_2).bind fun t903 => (impl_filled.l0 k a1 l2 t903 (t903.length : Int) 0 a0_0 l0_1 l0_2 bt895.1 bt895.2.1 bt895.2.2))) = some (r1, r2, r3) := h
 clear h
 replace H := Option.bind_eq_some_iff.mp H
 obtain ⟨⟨t895, t896, t899⟩, A40, H⟩ := H
 try dsimp only at H
 have A4 := Aside0.mk A40
 clear A40
 replace H := Option.bind_eq_some_iff.mp H
 obtain ⟨t903, A50, H⟩ := H
 try dsimp only at H
 have A5 := Aside0.mk A50
 clear A50
 have H' := Aside0.mk H
 clear H
 go_enter Try.func81, Try.ntmps81
 go_wp2_with (first | ((with_reducible refine gate_dst (N := 3) rfl ?_); refine bx (cs := #[.int .i64 a0_0, .slice A0_1 l0_1.length c0_1, .slice A0_2 l0_2.length c0_2]) (t := 30) fun gb893 hg w6 hbox hb => ?_; replace HO0_2 := Aside0.mk (Kd.V_below (Kd.V_elderB (by (with_reducible repeat (first | apply Kd.V_alloc | apply Kd.V_drewN | apply Kd.V_drew)); exact HO0_2.out) gb893 (Nat.le_of_eq hg.symm)) hb); replace HO2 := Aside0.mk (Kd.V_below (Kd.V_elderB (by (with_reducible repeat (first | apply Kd.V_alloc | apply Kd.V_drewN | apply Kd.V_drew)); exact HO2.out) gb893 (Nat.le_of_eq hg.symm)) hb); have BK893 := Aside0.mk (hbox); have GW893 := Aside0.mk (gs HB.out hg); have GE893 := Aside0.mk (gs HB.out hg); replace HB := Aside0.mk (below_step (bl HB.out) hb); clear hb hbox hg) | ((with_reducible refine gate_dst (N := 6) rfl ?_); refine bx (cs := #[.int .i64 0, .slice none 0 0, .slice none 0 0]) (t := 30) fun gb894 hg w7 hbox hb => ?_; replace HO0_2 := Aside0.mk (Kd.V_below (Kd.V_elderB (by (with_reducible repeat (first | apply Kd.V_alloc | apply Kd.V_drewN | apply Kd.V_drew)); exact HO0_2.out) gb894 (Nat.le_of_eq hg.symm)) hb); replace HO2 := Aside0.mk (Kd.V_below (Kd.V_elderB (by (with_reducible repeat (first | apply Kd.V_alloc | apply Kd.V_drewN | apply Kd.V_drew)); exact HO2.out) gb894 (Nat.le_of_eq hg.symm)) hb); have BK894 := Aside0.mk (hbox); have GW894 := Aside0.mk (gs HB.out hg); have GE894 := Aside0.mk (gs HB.out hg); replace HB := Aside0.mk (below_step (bl HB.out) hb); have NB893_894 := Aside0.mk ((nl BK893.out hg)); have NB894_893 := Aside0.mk ((ng BK893.out hg)); replace BK893 := Aside0.mk (bb BK893.out hb); clear hb hbox hg; have hnb8 := NB893_894.out; have hnc8 := NB894_893.out; obtain ⟨hcz9_0, hcz9_1, hcz9_2, hfz9_0, hfz9_1, hfz9_2⟩ := cz3 BK893.out) | ((with_reducible refine gate_callee (f := 72) rfl ?_); refine goesL_ (some 11) rfl rfl Try.func72 (by kernel_rfl) rfl #[.agg #[.int .i64 a0_0, .slice A0_1 l0_1.length c0_1, .slice A0_2 l0_2.length c0_2]] rfl mapd ?_; (with_reducible refine (impl_copyColumn.calls a0_0 _ _ l0_1 _ _ l0_2 t895 t896 t899 _ ?side1 ?side2 ?side3 ?side4 A4.out).mono ?_); (case side1 => exact cb (Kd.C_below HR0_1.out HB.out)); (case side2 => exact HC0_1.out); (case side3 => exact cb ((Kd.V_reads' HO0_2.out).2.2)); (case side4 => exact (Kd.V_reads' HO0_2.out).2.1); rintro e w10 ⟨v897, v900, rfl, ho0, ho1, hb⟩; refine ⟨_, rfl, ?_⟩; replace HO0_2 := Aside0.mk (Kd.V_mono (Kd.V_told (Kd.V_told (Kd.V_old (by (with_reducible repeat (first | apply Kd.V_alloc | apply Kd.V_drewN | apply Kd.V_drew)); exact HO0_2.out) hb) (Kd.R_base ho0)) (Kd.R_base ho1)) (fun _ h_ => h_.1)); replace HO2 := Aside0.mk (Kd.V_mono (Kd.V_told (Kd.V_told (Kd.V_old (by (with_reducible repeat (first | apply Kd.V_alloc | apply Kd.V_drewN | apply Kd.V_drew)); exact HO2.out) hb) (Kd.R_base ho0)) (Kd.R_base ho1)) (fun _ h_ => h_.1)); have HO898 := Aside0.mk (Kd.R_lower (Kd.R_newM (M := fun k_ => (w.heap.size ≤ k_)) ho0 (below_size (bl HB.out)) (fun k_ h_ => h_)) (below_size (bl HB.out))); have HO901 := Aside0.mk (Kd.R_lower (Kd.R_newM (M := fun k_ => (w.heap.size ≤ k_)) ho1 (below_size (bl HB.out)) (fun k_ h_ => h_)) (below_size (bl HB.out))); replace BK893 := Aside0.mk (bb BK893.out hb); replace BK894 := Aside0.mk (bb BK894.out hb); replace HB := Aside0.mk (below_step (bl HB.out) hb); (try clear hb); (try clear hb2); (try clear hk); (try clear hi); (try clear ho0); (try clear ho1)) | ((with_reducible refine gate_dst (N := 7) rfl ?_); refine bx (cs := #[.int .i64 0, .slice none 0 0, .slice none 0 0]) (t := 30) fun gb902 hg w11 hbox hb => ?_; replace HO0_2 := Aside0.mk (Kd.V_below (Kd.V_elderB (by (with_reducible repeat (first | apply Kd.V_alloc | apply Kd.V_drewN | apply Kd.V_drew)); exact HO0_2.out) gb902 (Nat.le_of_eq hg.symm)) hb); replace HO2 := Aside0.mk (Kd.V_below (Kd.V_elderB (by (with_reducible repeat (first | apply Kd.V_alloc | apply Kd.V_drewN | apply Kd.V_drew)); exact HO2.out) gb902 (Nat.le_of_eq hg.symm)) hb); replace HO898 := Aside0.mk (Kd.R_below (rk HO898.out) hb); replace HO901 := Aside0.mk (Kd.R_below (rk HO901.out) hb); have BK902 := Aside0.mk (hbox); have GW902 := Aside0.mk (gs HB.out hg); have GE902 := Aside0.mk (gs HB.out hg); replace HB := Aside0.mk (below_step (bl HB.out) hb); have NB893_902 := Aside0.mk ((nl BK893.out hg)); have NB902_893 := Aside0.mk ((ng BK893.out hg)); replace BK893 := Aside0.mk (bb BK893.out hb); have NB894_902 := Aside0.mk ((nl BK894.out hg)); have NB902_894 := Aside0.mk ((ng BK894.out hg)); replace BK894 := Aside0.mk (bb BK894.out hb); clear hb hbox hg; have hnb12 := NB902_893.out; have hnc12 := NB893_902.out; have hnb13 := NB902_894.out; have hnc13 := NB894_902.out; obtain ⟨hcz14_0, hcz14_1, hcz14_2, hfz14_0, hfz14_1, hfz14_2⟩ := cz3 BK902.out; obtain ⟨Ao15, co15, eo15⟩ := Kd.R_slice HO898.out; subst eo15; obtain ⟨Ao16, co16, eo16⟩ := Kd.R_slice HO901.out; subst eo16; obtain ⟨hcz17_0, hcz17_1, hcz17_2, hfz17_0, hfz17_1, hfz17_2⟩ := cz3 BK893.out) | ((with_reducible refine gate_callee (f := 77) rfl ?_); refine goesL_ (some 13) rfl rfl Try.func77 (by kernel_rfl) rfl #[.agg #[.int .i64 a0_0, .slice A0_1 l0_1.length c0_1, .slice A0_2 l0_2.length c0_2]] rfl mapd ?_; (with_reducible refine (impl_runsOf.calls k a0_0 _ _ l0_1 _ _ l0_2 t903 _ ?side1 ?side2 ?side3 ?side4 A5.out).mono ?_); (case side1 => exact Kd.C_below HR0_1.out (bl HB.out)); (case side2 => exact HC0_1.out); (case side3 => refine (Kd.V_reads' (e := 71) (base := w.heap.size) (ok := fun k_ => (((((((P0_2_ k_ ∨ P2_ k_) ∨ w.heap.size ≤ k_) ∧ k_ ≠ gb893) ∧ k_ ≠ gb894) ∧ some k_ ≠ (.slice Ao15 t896.length co15 : Value).ownBlock) ∧ some k_ ≠ (.slice Ao16 t899.length co16 : Value).ownBlock) ∧ k_ ≠ gb902)) (n := l0_2.length) (c := c0_2) ?_).2.2; exact (by (with_reducible repeat (first | apply Kd.V_alloc | apply Kd.V_drewN | apply Kd.V_drew)); exact (Kd.V_mono (Kd.V_far (p := ⟨gb902, 2, none⟩) (Kd.V_far (p := ⟨gb902, 1, none⟩) (Kd.V_far (p := ⟨gb902, 0, none⟩) (Kd.V_mono HO0_2.out (fun k_ hk => (⟨hk, hk.2⟩ : _ ∧ k_ ≠ gb902))) (fun _ hk => hk.2) (.int .i64 t895)) (fun _ hk => hk.2) (.slice Ao15 t896.length co15)) (fun _ hk => hk.2) (.slice Ao16 t899.length co16)) (fun _ h_ => h_.1)))); (case side4 => exact (Kd.V_reads' HO0_2.out).2.1); rintro e w18 ⟨v904, rfl, ho0, hb⟩; refine ⟨_, rfl, ?_⟩; replace HO0_2 := Aside0.mk (Kd.V_elder' (by (with_reducible repeat (first | apply Kd.V_alloc | apply Kd.V_drewN | apply Kd.V_drew)); exact (Kd.V_mono (Kd.V_far (p := ⟨gb902, 2, none⟩) (Kd.V_far (p := ⟨gb902, 1, none⟩) (Kd.V_far (p := ⟨gb902, 0, none⟩) (Kd.V_mono HO0_2.out (fun k_ hk => (⟨hk, hk.2⟩ : _ ∧ k_ ≠ gb902))) (fun _ hk => hk.2) (.int .i64 t895)) (fun _ hk => hk.2) (.slice Ao15 t896.length co15)) (fun _ hk => hk.2) (.slice Ao16 t899.length co16)) (fun _ h_ => h_.1))) (Kd.R_base ho0) hb); replace HO2 := Aside0.mk (Kd.V_elder' (by (with_reducible repeat (first | apply Kd.V_alloc | apply Kd.V_drewN | apply Kd.V_drew)); exact (Kd.V_mono (Kd.V_far (p := ⟨gb902, 2, none⟩) (Kd.V_far (p := ⟨gb902, 1, none⟩) (Kd.V_far (p := ⟨gb902, 0, none⟩) (Kd.V_mono HO2.out (fun k_ hk => (⟨hk, hk.2⟩ : _ ∧ k_ ≠ gb902))) (fun _ hk => hk.2) (.int .i64 t895)) (fun _ hk => hk.2) (.slice Ao15 t896.length co15)) (fun _ hk => hk.2) (.slice Ao16 t899.length co16)) (fun _ h_ => h_.1))) (Kd.R_base ho0) hb); replace HO898 := Aside0.mk (Kd.R_below (by refine rk ?_; exact (Kd.R_mono (Kd.R_far (p := ⟨gb902, 2, none⟩) (Kd.R_far (p := ⟨gb902, 1, none⟩) (Kd.R_far (p := ⟨gb902, 0, none⟩) (Kd.R_types HO898.out BK902.out (by decide)) (fun _ hk => hk.2) (.int .i64 t895)) (fun _ hk => hk.2) (.slice Ao15 t896.length co15)) (fun _ hk => hk.2) (.slice Ao16 t899.length co16)) (fun _ h_ => h_.1))) hb); replace HO901 := Aside0.mk (Kd.R_below (by refine rk ?_; exact (Kd.R_mono (Kd.R_far (p := ⟨gb902, 2, none⟩) (Kd.R_far (p := ⟨gb902, 1, none⟩) (Kd.R_far (p := ⟨gb902, 0, none⟩) (Kd.R_types HO901.out BK902.out (by decide)) (fun _ hk => hk.2) (.int .i64 t895)) (fun _ hk => hk.2) (.slice Ao15 t896.length co15)) (fun _ hk => hk.2) (.slice Ao16 t899.length co16)) (fun _ h_ => h_.1))) hb); have HO905 := Aside0.mk (Kd.R_lower (Kd.R_newM (M := fun k_ => (w.heap.size ≤ k_)) ho0 (below_size (bl HB.out)) (fun k_ h_ => h_)) (below_size (bl HB.out))); replace BK893 := Aside0.mk (blk_below (g := gb893) (o := .cells #[.int .i64 a0_0, .slice A0_1 l0_1.length c0_1, .slice A0_2 l0_2.length c0_2] 30 (0, 0)) (bf BK893.out) hb); replace BK894 := Aside0.mk (blk_below (g := gb894) (o := .cells #[.int .i64 0, .slice none 0 0, .slice none 0 0] 30 (0, 0)) (bf BK894.out) hb); replace BK902 := Aside0.mk (blk_below (g := gb902) (o := .cells #[.int .i64 t895, .slice Ao15 t896.length co15, .slice Ao16 t899.length co16] 30 (0, 0)) (by refine bk ?_; refine blk_put (cs := #[.int .i64 t895, .slice Ao15 t896.length co15, .slice none 0 0]) ?_ 2 _ rfl; refine bk ?_; refine blk_put (cs := #[.int .i64 t895, .slice none 0 0, .slice none 0 0]) ?_ 1 _ rfl; refine bk ?_; refine blk_put (cs := #[.int .i64 0, .slice none 0 0, .slice none 0 0]) ?_ 0 _ rfl; refine bk ?_; exact BK902.out) hb); replace HB := Aside0.mk (below_step (bl HB.out) hb); (try clear hb); (try clear hb2); (try clear hk); (try clear hi); (try clear ho0); obtain ⟨Ao19, co19, eo19⟩ := Kd.R_slice HO905.out; subst eo19))
 go_loopg [15] k (fun kq v15 w' => ∃ (x15_1 : Int) (x903002_1 : List (S71)) (u903002 : Value), v15 = .int .i64 x15_1 ∧ Aside0 (impl_filled.l0 kq a1 l2 t903 (t903.length : Int) x15_1 a0_0 l0_1 l0_2 t895 t896 x903002_1 = some (r1, r2, r3)) ∧ Aside0 (kq ≤ k) ∧ Aside0 (Kd.V k71 71 w' w.heap.size (fun k_ => ((P0_2_ k_ ∨ P2_ k_) ∨ w.heap.size ≤ k_) ∧ some k_ ≠ ((.slice Ao19 t903.length co19) : Value).ownBlock ∧ some k_ ≠ ((.slice Ao15 t896.length co15) : Value).ownBlock ∧ some k_ ≠ (u903002 : Value).ownBlock ∧ k_ ≠ gb893 ∧ k_ ≠ gb894 ∧ k_ ≠ gb902) (.slice A2 l2.length c2) l2) ∧ Aside0 (Kd.R k85 85 w' w.heap.size (fun k_ => (w.heap.size ≤ k_)) (.slice Ao19 t903.length co19) t903) ∧ Aside0 (Kd.V k71 71 w' w.heap.size (fun k_ => ((P0_2_ k_ ∨ P2_ k_) ∨ w.heap.size ≤ k_) ∧ some k_ ≠ ((.slice Ao19 t903.length co19) : Value).ownBlock ∧ some k_ ≠ ((.slice Ao15 t896.length co15) : Value).ownBlock ∧ some k_ ≠ (u903002 : Value).ownBlock ∧ k_ ≠ gb893 ∧ k_ ≠ gb894 ∧ k_ ≠ gb902) (.slice A0_2 l0_2.length c0_2) l0_2) ∧ Aside0 (Kd.R (Kd.int .i64) 3 w' w.heap.size (fun k_ => (w.heap.size ≤ k_)) (.slice Ao15 t896.length co15) t896) ∧ Aside0 (Kd.R k71 71 w' w.heap.size (fun k_ => (w.heap.size ≤ k_)) u903002 x903002_1) ∧ Aside0 (w'.heap[gb893]? = some (.cells #[.int .i64 a0_0, (.slice A0_1 l0_1.length c0_1), (.slice A0_2 l0_2.length c0_2)] 30 (0, 0))) ∧ Aside0 (w'.heap[gb894]? = some (.cells #[.int .i64 0, (.slice none 0 0), (.slice none 0 0)] 30 (0, 0))) ∧ Aside0 (w'.heap[gb902]? = some (.cells #[.int .i64 t895, (.slice Ao15 t896.length co15), u903002] 30 (0, 0))) ∧ Aside0 (Below w.heap.size w w'))
 case atStart => exact ⟨(0), (t899), (.slice Ao16 t899.length co16), (by first | rfl | (simp; done) | (simp [*]; done)), H', ⟨Nat.le_refl _⟩, ⟨by (with_reducible repeat (first | apply Kd.V_alloc | apply Kd.V_drewN | apply Kd.V_drew)); exact Kd.V_mono HO2.out (fun _ hk => ⟨hk.1.1.1.1.1.1, ⟨hk.2, ⟨hk.1.1.1.2, ⟨hk.1.1.2, ⟨hk.1.1.1.1.1.2, ⟨hk.1.1.1.1.2, hk.1.2⟩⟩⟩⟩⟩⟩)⟩, ⟨by refine rk ?_; exact Kd.R_mono HO905.out (fun _ hk => hk.1)⟩, ⟨by (with_reducible repeat (first | apply Kd.V_alloc | apply Kd.V_drewN | apply Kd.V_drew)); exact Kd.V_mono HO0_2.out (fun _ hk => ⟨hk.1.1.1.1.1.1, ⟨hk.2, ⟨hk.1.1.1.2, ⟨hk.1.1.2, ⟨hk.1.1.1.1.1.2, ⟨hk.1.1.1.1.2, hk.1.2⟩⟩⟩⟩⟩⟩)⟩, ⟨by refine rk ?_; exact Kd.R_mono HO898.out (fun _ hk => hk.1)⟩, ⟨by refine rk ?_; exact Kd.R_mono HO901.out (fun _ hk => hk.1)⟩, ⟨by refine bk ?_; exact BK893.out⟩, ⟨by refine bk ?_; exact BK894.out⟩, ⟨by refine bk ?_; exact BK902.out⟩, ⟨bl HB.out⟩⟩
 case round =>
  clear H'
  try clear c1
  try clear c2
  try clear p2
  try clear c7
  try clear c8
  try clear c12
  try clear c13
  try clear hcz14_0
  try clear hcz14_1
  try clear hcz14_2
  try clear hcz17_0
  try clear hcz17_1
  try clear hcz17_2
  try clear hcz9_0
  try clear hcz9_1
  try clear hcz9_2
  try clear hfz14_0
  try clear hfz14_1
  try clear hfz14_2
  try clear hfz17_0
  try clear hfz17_1
  try clear hfz17_2
  try clear hfz9_0
  try clear hfz9_1
  try clear hfz9_2
  obtain ⟨x15_1, x903002_1, u903002, rfl, HA, HK1, HO_2, HO_13, HO_894002, HO_903001, HO_903002, BK893, BK894, BK902, HB⟩ := hrel
  cases gk with
  | zero => exact absurd HA.out (by simp [impl_filled.l0])
  | succ k1 =>
   have H := HA.out
   clear HA
   simp only [impl_filled.l0] at H
   by_cases c20 : x15_1 < (t903.length : Int)
   ·rw [if_pos c20] at H
    have c20b0 : decide (x15_1 < (t903.length : Int)) = true := decide_eq_true c20
    clear c20
    by_cases c21 : 0 ≤ x15_1
    ·rw [if_pos c21] at H
     have c21b0 : decide (0 ≤ x15_1) = true := decide_eq_true c21
     clear c21
     by_cases c22 : x15_1 < (t903.length : Int)
     ·rw [if_pos c22] at H
      have c22b0 : decide (x15_1 < (t903.length : Int)) = true := decide_eq_true c22
      clear c22
      by_cases c23 : ((rd_T85 t903 x15_1).f0.f1) = a1
      ·rw [if_pos c23] at H
       have c23b0 : (((rd_T85 t903 x15_1).f0.f1) == a1) = true := beq_iff_eq.mpr c23
       have c23b1 : (((rd_T85 t903 x15_1).f0.f1) != a1) = false := bne_eq_false_iff_eq.mpr c23
       clear c23
       by_cases c24 : 0 ≤ ((rd_T85 t903 x15_1).f1)
       ·rw [if_pos c24] at H
        have c24b0 := eq_true c24
        have c24b1 : decide (0 ≤ ((rd_T85 t903 x15_1).f1)) = true := decide_eq_true c24
        clear c24
        by_cases c25 : ((rd_T85 t903 x15_1).f1) ≤ (l0_2.length : Int)
        ·rw [if_pos c25] at H
         have c25b0 := eq_true c25
         have c25b1 : decide (((rd_T85 t903 x15_1).f1) ≤ (l0_2.length : Int)) = true := decide_eq_true c25
         clear c25
         obtain ⟨y908, hy908⟩ : ∃ y_ : List (S71), y_ = (l0_2.take (((rd_T85 t903 x15_1).f1) : Int).toNat) := ⟨_, rfl⟩
         replace H : (if 0 ≤ ((rd_T85 t903 x15_1).f2) then (if ((rd_T85 t903 x15_1).f2) ≤ (l0_2.length : Int) then ((impl_Box_95.f k1 (([y908, l2, (l0_2.drop (((rd_T85 t903 x15_1).f2) : Int).toNat)] : List (List (S71))))).bind fun t921 => (impl_filled.l0 k1 a1 l2 t903 (t903.length : Int) (wrap64 (x15_1 + 1)) a0_0 l0_1 l0_2 t895 t896 t921)) else (none)) else (none)) = some (r1, r2, r3) := by first | (rw [hy908]; with_reducible exact H) | (have H2_ := (Option.bind_some _ _).symm.trans H; rw [hy908]; with_reducible exact H2_) | (have H2_ := (Option.bind_some _ _).symm.trans H; with_reducible exact H2_) | with_reducible exact H | (rw [hy908]; exact H) | exact H
         have Ny908 := Aside0.mk hy908
         clear hy908
         by_cases c26 : 0 ≤ ((rd_T85 t903 x15_1).f2)
         ·rw [if_pos c26] at H
          have c26b0 := eq_true c26
          have c26b1 : decide (0 ≤ ((rd_T85 t903 x15_1).f2)) = true := decide_eq_true c26
          clear c26
          by_cases c27 : ((rd_T85 t903 x15_1).f2) ≤ (l0_2.length : Int)
          ·rw [if_pos c27] at H
           have c27b0 := eq_true c27
           have c27b1 : decide (((rd_T85 t903 x15_1).f2) ≤ (l0_2.length : Int)) = true := decide_eq_true c27
           clear c27
           obtain ⟨y913, hy913⟩ : ∃ y_ : List (S71), y_ = (l0_2.drop (((rd_T85 t903 x15_1).f2) : Int).toNat) := ⟨_, rfl⟩
           replace H : ((impl_Box_95.f k1 (([y908, l2, y913] : List (List (S71))))).bind fun t921 => (impl_filled.l0 k1 a1 l2 t903 (t903.length : Int) (wrap64 (x15_1 + 1)) a0_0 l0_1 l0_2 t895 t896 t921)) = some (r1, r2, r3) := by first | (rw [hy913]; with_reducible exact H) | (have H2_ := (Option.bind_some _ _).symm.trans H; rw [hy913]; with_reducible exact H2_) | (have H2_ := (Option.bind_some _ _).symm.trans H; with_reducible exact H2_) | with_reducible exact H | (rw [hy913]; exact H) | exact H
           have Ny913 := Aside0.mk hy913
           clear hy913
           obtain ⟨y918, hy918⟩ : ∃ y_ : List (List (S71)), y_ = (([y908, l2, y913] : List (List (S71)))) := ⟨_, rfl⟩
           replace H : ((impl_Box_95.f k1 y918).bind fun t921 => (impl_filled.l0 k1 a1 l2 t903 (t903.length : Int) (wrap64 (x15_1 + 1)) a0_0 l0_1 l0_2 t895 t896 t921)) = some (r1, r2, r3) := by first | (rw [hy918]; with_reducible exact H) | (have H2_ := (Option.bind_some _ _).symm.trans H; rw [hy918]; with_reducible exact H2_) | (have H2_ := (Option.bind_some _ _).symm.trans H; with_reducible exact H2_) | with_reducible exact H | (rw [hy918]; exact H) | exact H
           have Ny918 := Aside0.mk hy918
           clear hy918
           replace H := Option.bind_eq_some_iff.mp H
           obtain ⟨t921, A280, H⟩ := H
           try dsimp only at H
           have A28 := Aside0.mk A280
           clear A280
           have H' := Aside0.mk H
           clear H
           have p906 : 0 ≤ (x15_1 : Int) := of_decide_eq_true asm
           have q906 : x15_1 < (t903.length : Int) := of_decide_eq_true asm
           obtain ⟨ad906, e906, hx906_0, hx906_1, hx906_2, hx906_3, hx906_4⟩ := at_T85 (Kd.R_reads' HO_13.out).2.2 x15_1 p906 q906
           cases e906
           replace p906 := eq_true p906
           replace q906 := eq_true q906
           try go_wp2_with (first | ((with_reducible refine gate_dst (N := 9) rfl ?_); refine bx (cs := #[.int .i64 0, .int .i64 0, .int .i64 0, .int .i64 0, .int .i64 0]) (t := 85) fun gb907 hg w29 hbox hb => ?_; replace HO_2 := Aside0.mk (Kd.V_below (Kd.V_elderB (by (with_reducible repeat (first | apply Kd.V_alloc | apply Kd.V_drewN | apply Kd.V_drew)); exact HO_2.out) gb907 (Nat.le_of_eq hg.symm)) hb); replace HO_13 := Aside0.mk (Kd.R_below (Kd.R_elderB (rk HO_13.out) gb907 (Nat.le_of_eq hg.symm)) hb); replace HO_894002 := Aside0.mk (Kd.V_below (Kd.V_elderB (by (with_reducible repeat (first | apply Kd.V_alloc | apply Kd.V_drewN | apply Kd.V_drew)); exact HO_894002.out) gb907 (Nat.le_of_eq hg.symm)) hb); replace HO_903001 := Aside0.mk (Kd.R_below (rk HO_903001.out) hb); replace HO_903002 := Aside0.mk (Kd.R_below (rk HO_903002.out) hb); have BK907 := Aside0.mk (hbox); have GW907 := Aside0.mk (gs HB.out hg); have GE907 := Aside0.mk (gs HB.out hg); replace HB := Aside0.mk (below_step (bl HB.out) hb); have NB893_907 := Aside0.mk ((nl BK893.out hg)); have NB907_893 := Aside0.mk ((ng BK893.out hg)); replace BK893 := Aside0.mk (bb BK893.out hb); have NB894_907 := Aside0.mk ((nl BK894.out hg)); have NB907_894 := Aside0.mk ((ng BK894.out hg)); replace BK894 := Aside0.mk (bb BK894.out hb); have NB902_907 := Aside0.mk ((nl BK902.out hg)); have NB907_902 := Aside0.mk ((ng BK902.out hg)); replace BK902 := Aside0.mk (bb BK902.out hb); clear hb hbox hg; have hnb30 := NB907_893.out; have hnc30 := NB893_907.out; have hnb31 := NB907_894.out; have hnc31 := NB894_907.out; have hnb32 := NB907_902.out; have hnc32 := NB902_907.out; obtain ⟨hcz33_0, hcz33_1, hcz33_2, hcz33_3, hcz33_4, hfz33_0, hfz33_1, hfz33_2, hfz33_3, hfz33_4⟩ := cz5 BK907.out))
           have n0_ : Aside0 (Kd.V k71 71 (((((w29.setCell ⟨gb907, 0, none⟩ (.int .i64 ((rd_T85 t903 x15_1).f0.f0))).setCell ⟨gb907, 1, none⟩ (.int .i64 ((rd_T85 t903 x15_1).f0.f1))).setCell ⟨gb907, 2, none⟩ (.int .i64 ((rd_T85 t903 x15_1).f0.f2))).setCell ⟨gb907, 3, none⟩ (.int .i64 ((rd_T85 t903 x15_1).f1))).setCell ⟨gb907, 4, none⟩ (.int .i64 ((rd_T85 t903 x15_1).f2))) w.heap.size (fun k_ => ((P0_2_ k_ ∨ P2_ k_) ∨ w.heap.size ≤ k_) ∧ some k_ ≠ (.slice (some ad906) t903.length co19 : Value).ownBlock ∧ some k_ ≠ (.slice Ao15 t896.length co15 : Value).ownBlock ∧ some k_ ≠ (u903002 : Value).ownBlock ∧ k_ ≠ gb893 ∧ k_ ≠ gb894 ∧ k_ ≠ gb902 ∧ k_ ≠ gb907) (.slice A2 l2.length c2) l2) := ⟨by (with_reducible repeat (first | apply Kd.V_alloc | apply Kd.V_drewN | apply Kd.V_drew)); exact Kd.V_mono (Kd.V_far (p := ⟨gb907, 4, none⟩) (Kd.V_far (p := ⟨gb907, 3, none⟩) (Kd.V_far (p := ⟨gb907, 2, none⟩) (Kd.V_far (p := ⟨gb907, 1, none⟩) (Kd.V_far (p := ⟨gb907, 0, none⟩) (Kd.V_mono HO_2.out (fun k_ hk => (⟨hk, hk.2⟩ : _ ∧ k_ ≠ gb907))) (fun _ hk => hk.2) (.int .i64 ((rd_T85 t903 x15_1).f0.f0))) (fun _ hk => hk.2) (.int .i64 ((rd_T85 t903 x15_1).f0.f1))) (fun _ hk => hk.2) (.int .i64 ((rd_T85 t903 x15_1).f0.f2))) (fun _ hk => hk.2) (.int .i64 ((rd_T85 t903 x15_1).f1))) (fun _ hk => hk.2) (.int .i64 ((rd_T85 t903 x15_1).f2))) (fun _ hk => ⟨hk.1.1.1, ⟨hk.1.1.2.1, ⟨hk.1.1.2.2.1, ⟨hk.1.1.2.2.2.1, ⟨hk.1.1.2.2.2.2.1, ⟨hk.1.1.2.2.2.2.2.1, ⟨hk.1.1.2.2.2.2.2.2, hk.1.2⟩⟩⟩⟩⟩⟩⟩)⟩
           have n1_ : Aside0 (Kd.R k85 85 (((((w29.setCell ⟨gb907, 0, none⟩ (.int .i64 ((rd_T85 t903 x15_1).f0.f0))).setCell ⟨gb907, 1, none⟩ (.int .i64 ((rd_T85 t903 x15_1).f0.f1))).setCell ⟨gb907, 2, none⟩ (.int .i64 ((rd_T85 t903 x15_1).f0.f2))).setCell ⟨gb907, 3, none⟩ (.int .i64 ((rd_T85 t903 x15_1).f1))).setCell ⟨gb907, 4, none⟩ (.int .i64 ((rd_T85 t903 x15_1).f2))) w.heap.size (fun k_ => (w.heap.size ≤ k_) ∧ k_ ≠ gb907) (.slice (some ad906) t903.length co19) t903) := ⟨by refine rk ?_; exact Kd.R_mono (Kd.R_far (p := ⟨gb907, 4, none⟩) (Kd.R_far (p := ⟨gb907, 3, none⟩) (Kd.R_far (p := ⟨gb907, 2, none⟩) (Kd.R_far (p := ⟨gb907, 1, none⟩) (Kd.R_far (p := ⟨gb907, 0, none⟩) (Kd.R_mono HO_13.out (fun k_ hk => (⟨hk, hk.2⟩ : _ ∧ k_ ≠ gb907))) (fun _ hk => hk.2) (.int .i64 ((rd_T85 t903 x15_1).f0.f0))) (fun _ hk => hk.2) (.int .i64 ((rd_T85 t903 x15_1).f0.f1))) (fun _ hk => hk.2) (.int .i64 ((rd_T85 t903 x15_1).f0.f2))) (fun _ hk => hk.2) (.int .i64 ((rd_T85 t903 x15_1).f1))) (fun _ hk => hk.2) (.int .i64 ((rd_T85 t903 x15_1).f2))) (fun _ hk => ⟨hk.1.1, hk.1.2⟩)⟩
           have n2_ : Aside0 (Kd.V k71 71 (((((w29.setCell ⟨gb907, 0, none⟩ (.int .i64 ((rd_T85 t903 x15_1).f0.f0))).setCell ⟨gb907, 1, none⟩ (.int .i64 ((rd_T85 t903 x15_1).f0.f1))).setCell ⟨gb907, 2, none⟩ (.int .i64 ((rd_T85 t903 x15_1).f0.f2))).setCell ⟨gb907, 3, none⟩ (.int .i64 ((rd_T85 t903 x15_1).f1))).setCell ⟨gb907, 4, none⟩ (.int .i64 ((rd_T85 t903 x15_1).f2))) w.heap.size (fun k_ => ((P0_2_ k_ ∨ P2_ k_) ∨ w.heap.size ≤ k_) ∧ some k_ ≠ (.slice (some ad906) t903.length co19 : Value).ownBlock ∧ some k_ ≠ (.slice Ao15 t896.length co15 : Value).ownBlock ∧ some k_ ≠ (u903002 : Value).ownBlock ∧ k_ ≠ gb893 ∧ k_ ≠ gb894 ∧ k_ ≠ gb902 ∧ k_ ≠ gb907) (.slice A0_2 l0_2.length c0_2) l0_2) := ⟨by (with_reducible repeat (first | apply Kd.V_alloc | apply Kd.V_drewN | apply Kd.V_drew)); exact Kd.V_mono (Kd.V_far (p := ⟨gb907, 4, none⟩) (Kd.V_far (p := ⟨gb907, 3, none⟩) (Kd.V_far (p := ⟨gb907, 2, none⟩) (Kd.V_far (p := ⟨gb907, 1, none⟩) (Kd.V_far (p := ⟨gb907, 0, none⟩) (Kd.V_mono HO_894002.out (fun k_ hk => (⟨hk, hk.2⟩ : _ ∧ k_ ≠ gb907))) (fun _ hk => hk.2) (.int .i64 ((rd_T85 t903 x15_1).f0.f0))) (fun _ hk => hk.2) (.int .i64 ((rd_T85 t903 x15_1).f0.f1))) (fun _ hk => hk.2) (.int .i64 ((rd_T85 t903 x15_1).f0.f2))) (fun _ hk => hk.2) (.int .i64 ((rd_T85 t903 x15_1).f1))) (fun _ hk => hk.2) (.int .i64 ((rd_T85 t903 x15_1).f2))) (fun _ hk => ⟨hk.1.1.1, ⟨hk.1.1.2.1, ⟨hk.1.1.2.2.1, ⟨hk.1.1.2.2.2.1, ⟨hk.1.1.2.2.2.2.1, ⟨hk.1.1.2.2.2.2.2.1, ⟨hk.1.1.2.2.2.2.2.2, hk.1.2⟩⟩⟩⟩⟩⟩⟩)⟩
           have n3_ : Aside0 (Kd.R (Kd.int .i64) 3 (((((w29.setCell ⟨gb907, 0, none⟩ (.int .i64 ((rd_T85 t903 x15_1).f0.f0))).setCell ⟨gb907, 1, none⟩ (.int .i64 ((rd_T85 t903 x15_1).f0.f1))).setCell ⟨gb907, 2, none⟩ (.int .i64 ((rd_T85 t903 x15_1).f0.f2))).setCell ⟨gb907, 3, none⟩ (.int .i64 ((rd_T85 t903 x15_1).f1))).setCell ⟨gb907, 4, none⟩ (.int .i64 ((rd_T85 t903 x15_1).f2))) w.heap.size (fun k_ => (w.heap.size ≤ k_)) (.slice Ao15 t896.length co15) t896) := ⟨by refine rk ?_; exact Kd.R_mono (Kd.R_far (p := ⟨gb907, 4, none⟩) (Kd.R_far (p := ⟨gb907, 3, none⟩) (Kd.R_far (p := ⟨gb907, 2, none⟩) (Kd.R_far (p := ⟨gb907, 1, none⟩) (Kd.R_far (p := ⟨gb907, 0, none⟩) (Kd.R_types HO_903001.out BK907.out (by decide)) (fun _ hk => hk.2) (.int .i64 ((rd_T85 t903 x15_1).f0.f0))) (fun _ hk => hk.2) (.int .i64 ((rd_T85 t903 x15_1).f0.f1))) (fun _ hk => hk.2) (.int .i64 ((rd_T85 t903 x15_1).f0.f2))) (fun _ hk => hk.2) (.int .i64 ((rd_T85 t903 x15_1).f1))) (fun _ hk => hk.2) (.int .i64 ((rd_T85 t903 x15_1).f2))) (fun _ hk => hk.1)⟩
           have n4_ : Aside0 (Kd.R k71 71 (((((w29.setCell ⟨gb907, 0, none⟩ (.int .i64 ((rd_T85 t903 x15_1).f0.f0))).setCell ⟨gb907, 1, none⟩ (.int .i64 ((rd_T85 t903 x15_1).f0.f1))).setCell ⟨gb907, 2, none⟩ (.int .i64 ((rd_T85 t903 x15_1).f0.f2))).setCell ⟨gb907, 3, none⟩ (.int .i64 ((rd_T85 t903 x15_1).f1))).setCell ⟨gb907, 4, none⟩ (.int .i64 ((rd_T85 t903 x15_1).f2))) w.heap.size (fun k_ => (w.heap.size ≤ k_)) u903002 x903002_1) := ⟨by refine rk ?_; exact Kd.R_mono (Kd.R_far (p := ⟨gb907, 4, none⟩) (Kd.R_far (p := ⟨gb907, 3, none⟩) (Kd.R_far (p := ⟨gb907, 2, none⟩) (Kd.R_far (p := ⟨gb907, 1, none⟩) (Kd.R_far (p := ⟨gb907, 0, none⟩) (Kd.R_types HO_903002.out BK907.out (by decide)) (fun _ hk => hk.2) (.int .i64 ((rd_T85 t903 x15_1).f0.f0))) (fun _ hk => hk.2) (.int .i64 ((rd_T85 t903 x15_1).f0.f1))) (fun _ hk => hk.2) (.int .i64 ((rd_T85 t903 x15_1).f0.f2))) (fun _ hk => hk.2) (.int .i64 ((rd_T85 t903 x15_1).f1))) (fun _ hk => hk.2) (.int .i64 ((rd_T85 t903 x15_1).f2))) (fun _ hk => hk.1)⟩
           have n5_ : Aside0 ((((((w29.setCell ⟨gb907, 0, none⟩ (.int .i64 ((rd_T85 t903 x15_1).f0.f0))).setCell ⟨gb907, 1, none⟩ (.int .i64 ((rd_T85 t903 x15_1).f0.f1))).setCell ⟨gb907, 2, none⟩ (.int .i64 ((rd_T85 t903 x15_1).f0.f2))).setCell ⟨gb907, 3, none⟩ (.int .i64 ((rd_T85 t903 x15_1).f1))).setCell ⟨gb907, 4, none⟩ (.int .i64 ((rd_T85 t903 x15_1).f2))).heap[gb893]? = some (.cells #[.int .i64 a0_0, .slice A0_1 l0_1.length c0_1, .slice A0_2 l0_2.length c0_2] 30 (0, 0))) := ⟨by refine bk ?_; refine blk_far ?_ NB893_907.out _; refine bk ?_; refine blk_far ?_ NB893_907.out _; refine bk ?_; refine blk_far ?_ NB893_907.out _; refine bk ?_; refine blk_far ?_ NB893_907.out _; refine bk ?_; refine blk_far ?_ NB893_907.out _; refine bk ?_; exact BK893.out⟩
           have n6_ : Aside0 ((((((w29.setCell ⟨gb907, 0, none⟩ (.int .i64 ((rd_T85 t903 x15_1).f0.f0))).setCell ⟨gb907, 1, none⟩ (.int .i64 ((rd_T85 t903 x15_1).f0.f1))).setCell ⟨gb907, 2, none⟩ (.int .i64 ((rd_T85 t903 x15_1).f0.f2))).setCell ⟨gb907, 3, none⟩ (.int .i64 ((rd_T85 t903 x15_1).f1))).setCell ⟨gb907, 4, none⟩ (.int .i64 ((rd_T85 t903 x15_1).f2))).heap[gb894]? = some (.cells #[.int .i64 0, .slice none 0 0, .slice none 0 0] 30 (0, 0))) := ⟨by refine bk ?_; refine blk_far ?_ NB894_907.out _; refine bk ?_; refine blk_far ?_ NB894_907.out _; refine bk ?_; refine blk_far ?_ NB894_907.out _; refine bk ?_; refine blk_far ?_ NB894_907.out _; refine bk ?_; refine blk_far ?_ NB894_907.out _; refine bk ?_; exact BK894.out⟩
           have n7_ : Aside0 ((((((w29.setCell ⟨gb907, 0, none⟩ (.int .i64 ((rd_T85 t903 x15_1).f0.f0))).setCell ⟨gb907, 1, none⟩ (.int .i64 ((rd_T85 t903 x15_1).f0.f1))).setCell ⟨gb907, 2, none⟩ (.int .i64 ((rd_T85 t903 x15_1).f0.f2))).setCell ⟨gb907, 3, none⟩ (.int .i64 ((rd_T85 t903 x15_1).f1))).setCell ⟨gb907, 4, none⟩ (.int .i64 ((rd_T85 t903 x15_1).f2))).heap[gb902]? = some (.cells #[.int .i64 t895, .slice Ao15 t896.length co15, u903002] 30 (0, 0))) := ⟨by refine bk ?_; refine blk_far ?_ NB902_907.out _; refine bk ?_; refine blk_far ?_ NB902_907.out _; refine bk ?_; refine blk_far ?_ NB902_907.out _; refine bk ?_; refine blk_far ?_ NB902_907.out _; refine bk ?_; refine blk_far ?_ NB902_907.out _; refine bk ?_; exact BK902.out⟩
           have n8_ : Aside0 ((((((w29.setCell ⟨gb907, 0, none⟩ (.int .i64 ((rd_T85 t903 x15_1).f0.f0))).setCell ⟨gb907, 1, none⟩ (.int .i64 ((rd_T85 t903 x15_1).f0.f1))).setCell ⟨gb907, 2, none⟩ (.int .i64 ((rd_T85 t903 x15_1).f0.f2))).setCell ⟨gb907, 3, none⟩ (.int .i64 ((rd_T85 t903 x15_1).f1))).setCell ⟨gb907, 4, none⟩ (.int .i64 ((rd_T85 t903 x15_1).f2))).heap[gb907]? = some (.cells #[.int .i64 ((rd_T85 t903 x15_1).f0.f0), .int .i64 ((rd_T85 t903 x15_1).f0.f1), .int .i64 ((rd_T85 t903 x15_1).f0.f2), .int .i64 ((rd_T85 t903 x15_1).f1), .int .i64 ((rd_T85 t903 x15_1).f2)] 85 (0, 0))) := ⟨by refine bk ?_; refine blk_put (cs := #[.int .i64 ((rd_T85 t903 x15_1).f0.f0), .int .i64 ((rd_T85 t903 x15_1).f0.f1), .int .i64 ((rd_T85 t903 x15_1).f0.f2), .int .i64 ((rd_T85 t903 x15_1).f1), .int .i64 0]) ?_ 4 _ rfl; refine bk ?_; refine blk_put (cs := #[.int .i64 ((rd_T85 t903 x15_1).f0.f0), .int .i64 ((rd_T85 t903 x15_1).f0.f1), .int .i64 ((rd_T85 t903 x15_1).f0.f2), .int .i64 0, .int .i64 0]) ?_ 3 _ rfl; refine bk ?_; refine blk_put (cs := #[.int .i64 ((rd_T85 t903 x15_1).f0.f0), .int .i64 ((rd_T85 t903 x15_1).f0.f1), .int .i64 0, .int .i64 0, .int .i64 0]) ?_ 2 _ rfl; refine bk ?_; refine blk_put (cs := #[.int .i64 ((rd_T85 t903 x15_1).f0.f0), .int .i64 0, .int .i64 0, .int .i64 0, .int .i64 0]) ?_ 1 _ rfl; refine bk ?_; refine blk_put (cs := #[.int .i64 0, .int .i64 0, .int .i64 0, .int .i64 0, .int .i64 0]) ?_ 0 _ rfl; refine bk ?_; exact BK907.out⟩
           have n9_ : Aside0 (Below w.heap.size w (((((w29.setCell ⟨gb907, 0, none⟩ (.int .i64 ((rd_T85 t903 x15_1).f0.f0))).setCell ⟨gb907, 1, none⟩ (.int .i64 ((rd_T85 t903 x15_1).f0.f1))).setCell ⟨gb907, 2, none⟩ (.int .i64 ((rd_T85 t903 x15_1).f0.f2))).setCell ⟨gb907, 3, none⟩ (.int .i64 ((rd_T85 t903 x15_1).f1))).setCell ⟨gb907, 4, none⟩ (.int .i64 ((rd_T85 t903 x15_1).f2)))) := ⟨bl HB.out⟩
           (try clear HO_2)
           (try clear HO_13)
           (try clear HO_894002)
           (try clear HO_903001)
           (try clear HO_903002)
           (try clear BK893)
           (try clear BK894)
           (try clear BK902)
           (try clear BK907)
           (try clear HB)
           generalize (((((w29.setCell ⟨gb907, 0, none⟩ (.int .i64 ((rd_T85 t903 x15_1).f0.f0))).setCell ⟨gb907, 1, none⟩ (.int .i64 ((rd_T85 t903 x15_1).f0.f1))).setCell ⟨gb907, 2, none⟩ (.int .i64 ((rd_T85 t903 x15_1).f0.f2))).setCell ⟨gb907, 3, none⟩ (.int .i64 ((rd_T85 t903 x15_1).f1))).setCell ⟨gb907, 4, none⟩ (.int .i64 ((rd_T85 t903 x15_1).f2))) = w34 at n0_ n1_ n2_ n3_ n4_ n5_ n6_ n7_ n8_ n9_ ⊢
           have HO_2 := n0_
           have HO_13 := n1_
           have HO_894002 := n2_
           have HO_903001 := n3_
           have HO_903002 := n4_
           have BK893 := n5_
           have BK894 := n6_
           have BK902 := n7_
           have BK907 := n8_
           have HB := n9_
           clear n0_ n1_ n2_ n3_ n4_ n5_ n6_ n7_ n8_ n9_
           replace HO_2 := Aside0.mk (Kd.V_drew HO_2.out)
           replace HO_13 := Aside0.mk (Kd.R_drew HO_13.out)
           replace HO_894002 := Aside0.mk (Kd.V_drew HO_894002.out)
           replace HO_903001 := Aside0.mk (Kd.R_drew HO_903001.out)
           replace HO_903002 := Aside0.mk (Kd.R_drew HO_903002.out)
           replace BK893 := Aside0.mk (blk_drew BK893.out)
           replace BK894 := Aside0.mk (blk_drew BK894.out)
           replace BK902 := Aside0.mk (blk_drew BK902.out)
           replace BK907 := Aside0.mk (blk_drew BK907.out)
           replace HB := Aside0.mk (below_drew1 HB.out)
           have q36 : (((rd_T85 t903 x15_1).f1) : Int) ≤ ((l0_2.length : Int) : Int) := of_decide_eq_true asm
           obtain ⟨i036, hi036, _, hsz36, _⟩ := info_parts info71
           have hroom36 : l0_2.length ≤ c0_2 := (Kd.V_reads' HO_894002.out).2.1
           have hC36 : Kd.F k71 _ _ A0_2 l0_2.length l0_2 := (Kd.V_at (base := w.heap.size) HO_894002.out).2.2
           have hcut36 := cut_to (P := Try.prog) 28 71 .i64 Try.underlying28 hi036 A0_2 l0_2.length c0_2 ((rd_T85 t903 x15_1).f1) (of_decide_eq_true asm) q36 hroom36
           have hr36 := Kd.F_take (m := (((rd_T85 t903 x15_1).f1) : Int).toNat) hC36 (by omega)
           have hy36 : y908.length = (((rd_T85 t903 x15_1).f1) : Int).toNat := (by rw [Ny908.out, List.length_take]; omega)
           rw [← Ny908.out] at hr36
           rw [← hy36] at hcut36
           have HO912 := Aside0.mk (show Kd.V k71 71 _ w.heap.size _ (.slice A0_2 y908.length c0_2) y908 from Kd.V_mk (by omega) hr36)
           have HC912 := Aside0.mk (show y908.length ≤ c0_2 from by omega)
           clear hr36 hC36 hroom36 hi036 hsz36
           have KY36 := Aside0.mk hy36
           clear hy36
           replace q36 := eq_true q36
           have q37 : (((rd_T85 t903 x15_1).f2) : Int) ≤ ((l0_2.length : Int) : Int) := of_decide_eq_true asm
           obtain ⟨i037, hi037, _, hsz37, _⟩ := info_parts info71
           have hroom37 : l0_2.length ≤ c0_2 := (Kd.V_reads' HO_894002.out).2.1
           have hC37 : Kd.F k71 _ _ A0_2 l0_2.length l0_2 := (Kd.V_at (base := w.heap.size) HO_894002.out).2.2
           have q037 : (0 : Int) ≤ (((rd_T85 t903 x15_1).f2) : Int) := of_decide_eq_true asm
           have hcut37 := cut_from (P := Try.prog) 28 71 .i64 Try.underlying28 hi037 4 hsz37 A0_2 l0_2.length c0_2 ((rd_T85 t903 x15_1).f2) q037 q37
           have hr37 := Kd.F_cut (m := (((rd_T85 t903 x15_1).f2) : Int).toNat) (c := c0_2) hC37 (by omega) hroom37
           obtain ⟨A37, hA37⟩ : ∃ A1, A1 = (if c0_2 = (((rd_T85 t903 x15_1).f2) : Int).toNat then A0_2 else (A0_2 : Option Addr).map (·.add ((((rd_T85 t903 x15_1).f2) : Int).toNat * 4))) := ⟨_, rfl⟩
           obtain ⟨c37, hc37⟩ : ∃ c1, c1 = c0_2 - (((rd_T85 t903 x15_1).f2) : Int).toNat := ⟨_, rfl⟩
           have hy37 : y913.length = l0_2.length - (((rd_T85 t903 x15_1).f2) : Int).toNat := (by rw [Ny913.out, List.length_drop] <;> omega)
           rw [show (l0_2).drop (((rd_T85 t903 x15_1).f2) : Int).toNat = y913 from Ny913.out.symm] at hr37
           replace hr37 : Kd.F k71 _ _ A37 y913.length y913 := (by rw [hA37]; exact hr37)
           rw [← hy37, ← hA37, ← hc37] at hcut37
           have HO917 := Aside0.mk (show Kd.V k71 71 _ w.heap.size _ (.slice A37 y913.length c37) y913 from Kd.V_mk (by rw [hy37, hc37]; exact Nat.sub_le_sub_right hroom37 _) hr37)
           have HC917 := Aside0.mk (show y913.length ≤ c37 from by rw [hy37, hc37]; exact Nat.sub_le_sub_right hroom37 _)
           clear hr37 hC37 hroom37 hi037 hsz37 hc37
           have KY37 := Aside0.mk hy37
           have KA37 := Aside0.mk hA37
           clear hy37 hA37
           replace q37 := eq_true q37
           refine start_ (n := 15) (S := fun w' => w'.cell? ⟨gb893, 0, none⟩ = some (.int .i64 a0_0) ∧ w'.cell? ⟨gb893, 1, none⟩ = some (.slice A0_1 l0_1.length c0_1) ∧ w'.cell? ⟨gb893, 2, none⟩ = some (.slice A0_2 l0_2.length c0_2) ∧ w'.cell? ⟨gb907, 0, none⟩ = some (.int .i64 ((rd_T85 t903 x15_1).f0.f0)) ∧ w'.cell? ⟨gb907, 1, none⟩ = some (.int .i64 ((rd_T85 t903 x15_1).f0.f1)) ∧ w'.cell? ⟨gb907, 2, none⟩ = some (.int .i64 ((rd_T85 t903 x15_1).f0.f2)) ∧ w'.cell? ⟨gb907, 3, none⟩ = some (.int .i64 ((rd_T85 t903 x15_1).f1)) ∧ w'.cell? ⟨gb907, 4, none⟩ = some (.int .i64 ((rd_T85 t903 x15_1).f2))) (ds := []) #[false, false, false, false, false, false, false, false, false, false, false, false, false, false, false] (by kernel_rfl) rfl rfl ⟨(blk_cell BK893.out 0).trans rfl, (blk_cell BK893.out 1).trans rfl, (blk_cell BK893.out 2).trans rfl, (blk_cell BK907.out 0).trans rfl, (blk_cell BK907.out 1).trans rfl, (blk_cell BK907.out 2).trans rfl, (blk_cell BK907.out 3).trans rfl, (blk_cell BK907.out 4).trans rfl⟩ (fun hHeld => ?_); refine with_tabW impl_filled.tab6 impl_filled.bits6 (fun HT_ HW_ => ?_)
           generalize w34.drew = w35 at HO_2 HO_13 HO_894002 HO_903001 HO_903002 BK893 BK894 BK902 BK907 HB HO912 HO917 hHeld ⊢
           refine puA (i := 0) (N := some 24) HT_.out ?_
           refine puA (i := 2) (N := some 26) HT_.out ?_
           refine puA (i := 5) (N := some 29) HT_.out ?_
           refine puA (i := 6) (N := some 30) HT_.out ?_
           refine puA (i := 8) (N := some 32) HT_.out ?_
           refine tkA8 (i := 1) (N := some 25) HT_.out HW_.out hHeld ?_
           refine tkA8 (i := 3) (N := some 27) HT_.out HW_.out hHeld ?_
           refine puA (i := 4) (N := some 28) HT_.out ?_
           refine tkA8 (i := 7) (N := some 31) HT_.out HW_.out hHeld ?_
           refine tkA8 (i := 9) (N := some 33) HT_.out HW_.out hHeld ?_
           refine puA (i := 10) (N := some 34) HT_.out ?_
           refine onA (i := 11) (N := some 35) HT_.out (fun K hK => ?_)
           refine Kd.N_lit_step (Kd.slice 71 k71) _ 28 ?hg (N' := 35) ?hd (xs := ([y908, l2, y913] : List (List (S71)))) (inner := [.slice A0_2 y908.length c0_2, .slice A2 l2.length c2, .slice A37 y913.length c37]) (ok := (fun k_ => ((P0_2_ k_ ∨ P2_ k_) ∨ w.heap.size ≤ k_) ∧ some k_ ≠ (.slice (some ad906) t903.length co19 : Value).ownBlock ∧ some k_ ≠ (.slice Ao15 t896.length co15 : Value).ownBlock ∧ some k_ ≠ (u903002 : Value).ownBlock ∧ k_ ≠ gb893 ∧ k_ ≠ gb894 ∧ k_ ≠ gb902 ∧ k_ ≠ gb907)) (okp := (fun k_ => ((P0_2_ k_ ∨ P2_ k_) ∨ w.heap.size ≤ k_) ∧ some k_ ≠ (.slice (some ad906) t903.length co19 : Value).ownBlock ∧ some k_ ≠ (.slice Ao15 t896.length co15 : Value).ownBlock ∧ some k_ ≠ (u903002 : Value).ownBlock ∧ k_ ≠ gb893 ∧ k_ ≠ gb894 ∧ k_ ≠ gb902 ∧ k_ ≠ gb907)) ?hr ?hp (fun _ hk => hk) ((show ∀ k_, w35.heap.size ≤ k_ → (fun k_ => ((P0_2_ k_ ∨ P2_ k_) ∨ w.heap.size ≤ k_) ∧ some k_ ≠ (.slice (some ad906) t903.length co19 : Value).ownBlock ∧ some k_ ≠ (.slice Ao15 t896.length co15 : Value).ownBlock ∧ some k_ ≠ (u903002 : Value).ownBlock ∧ k_ ≠ gb893 ∧ k_ ≠ gb894 ∧ k_ ≠ gb902 ∧ k_ ≠ gb907) k_ from fun k_ hk => ⟨(.inr (Nat.le_trans (below_size (bl HB.out)) hk)), Kd.fresh' (Kd.R_lt (rk HO_13.out)) k_ hk, Kd.fresh' (Kd.R_lt (rk HO_903001.out)) k_ hk, Kd.fresh' (Kd.R_lt (rk HO_903002.out)) k_ hk, Kd.freshB (g := gb893) (o := .cells #[.int .i64 a0_0, .slice A0_1 l0_1.length c0_1, .slice A0_2 l0_2.length c0_2] 30 (0, 0)) (bk BK893.out) k_ hk, Kd.freshB (g := gb894) (o := .cells #[.int .i64 0, .slice none 0 0, .slice none 0 0] 30 (0, 0)) (bk BK894.out) k_ hk, Kd.freshB (g := gb902) (o := .cells #[.int .i64 t895, .slice Ao15 t896.length co15, u903002] 30 (0, 0)) (bk BK902.out) k_ hk, Kd.freshB (g := gb907) (o := .cells #[.int .i64 ((rd_T85 t903 x15_1).f0.f0), .int .i64 ((rd_T85 t903 x15_1).f0.f1), .int .i64 ((rd_T85 t903 x15_1).f0.f2), .int .i64 ((rd_T85 t903 x15_1).f1), .int .i64 ((rd_T85 t903 x15_1).f2)] 85 (0, 0)) (bk BK907.out) k_ hk⟩) _ (Nat.le_refl _)) (Below.refl _ _) (Nat.le_refl _) (by simp) ?_; (case hd => rfl); (case hg => rfl); (case hr => first | (go_simp; done) | (go_simp; rfl)); (case hp => exact (Reps.one (show Kd.FK (Kd.slice 71 k71) _ _ y908 [.slice A0_2 y908.length c0_2] from (Kd.FK_slice_mk (Kd.V_reads' (Kd.V_mono (ok' := (fun k_ => ((P0_2_ k_ ∨ P2_ k_) ∨ w.heap.size ≤ k_) ∧ some k_ ≠ (.slice (some ad906) t903.length co19 : Value).ownBlock ∧ some k_ ≠ (.slice Ao15 t896.length co15 : Value).ownBlock ∧ some k_ ≠ (u903002 : Value).ownBlock ∧ k_ ≠ gb893 ∧ k_ ≠ gb894 ∧ k_ ≠ gb902 ∧ k_ ≠ gb907)) (HO912.out) (fun k_ hk => ⟨hk.1, ⟨hk.2.1, ⟨hk.2.2.1, ⟨hk.2.2.2.1, ⟨hk.2.2.2.2.1, ⟨hk.2.2.2.2.2.1, ⟨hk.2.2.2.2.2.2.1, hk.2.2.2.2.2.2.2⟩⟩⟩⟩⟩⟩⟩))).2.1 (Kd.V_F (Kd.V_mono (ok' := (fun k_ => ((P0_2_ k_ ∨ P2_ k_) ∨ w.heap.size ≤ k_) ∧ some k_ ≠ (.slice (some ad906) t903.length co19 : Value).ownBlock ∧ some k_ ≠ (.slice Ao15 t896.length co15 : Value).ownBlock ∧ some k_ ≠ (u903002 : Value).ownBlock ∧ k_ ≠ gb893 ∧ k_ ≠ gb894 ∧ k_ ≠ gb902 ∧ k_ ≠ gb907)) (HO912.out) (fun k_ hk => ⟨hk.1, ⟨hk.2.1, ⟨hk.2.2.1, ⟨hk.2.2.2.1, ⟨hk.2.2.2.2.1, ⟨hk.2.2.2.2.2.1, ⟨hk.2.2.2.2.2.2.1, hk.2.2.2.2.2.2.2⟩⟩⟩⟩⟩⟩⟩))))) (Reps.one (show Kd.FK (Kd.slice 71 k71) _ _ l2 [.slice A2 l2.length c2] from (Kd.FK_slice_mk (Kd.V_reads' (Kd.V_mono (ok' := (fun k_ => ((P0_2_ k_ ∨ P2_ k_) ∨ w.heap.size ≤ k_) ∧ some k_ ≠ (.slice (some ad906) t903.length co19 : Value).ownBlock ∧ some k_ ≠ (.slice Ao15 t896.length co15 : Value).ownBlock ∧ some k_ ≠ (u903002 : Value).ownBlock ∧ k_ ≠ gb893 ∧ k_ ≠ gb894 ∧ k_ ≠ gb902 ∧ k_ ≠ gb907)) (HO_2.out) (fun k_ hk => ⟨hk.1, ⟨hk.2.1, ⟨hk.2.2.1, ⟨hk.2.2.2.1, ⟨hk.2.2.2.2.1, ⟨hk.2.2.2.2.2.1, ⟨hk.2.2.2.2.2.2.1, hk.2.2.2.2.2.2.2⟩⟩⟩⟩⟩⟩⟩))).2.1 (Kd.V_F (Kd.V_mono (ok' := (fun k_ => ((P0_2_ k_ ∨ P2_ k_) ∨ w.heap.size ≤ k_) ∧ some k_ ≠ (.slice (some ad906) t903.length co19 : Value).ownBlock ∧ some k_ ≠ (.slice Ao15 t896.length co15 : Value).ownBlock ∧ some k_ ≠ (u903002 : Value).ownBlock ∧ k_ ≠ gb893 ∧ k_ ≠ gb894 ∧ k_ ≠ gb902 ∧ k_ ≠ gb907)) (HO_2.out) (fun k_ hk => ⟨hk.1, ⟨hk.2.1, ⟨hk.2.2.1, ⟨hk.2.2.2.1, ⟨hk.2.2.2.2.1, ⟨hk.2.2.2.2.2.1, ⟨hk.2.2.2.2.2.2.1, hk.2.2.2.2.2.2.2⟩⟩⟩⟩⟩⟩⟩))))) (Reps.one (show Kd.FK (Kd.slice 71 k71) _ _ y913 [.slice A37 y913.length c37] from (Kd.FK_slice_mk (Kd.V_reads' (Kd.V_mono (ok' := (fun k_ => ((P0_2_ k_ ∨ P2_ k_) ∨ w.heap.size ≤ k_) ∧ some k_ ≠ (.slice (some ad906) t903.length co19 : Value).ownBlock ∧ some k_ ≠ (.slice Ao15 t896.length co15 : Value).ownBlock ∧ some k_ ≠ (u903002 : Value).ownBlock ∧ k_ ≠ gb893 ∧ k_ ≠ gb894 ∧ k_ ≠ gb902 ∧ k_ ≠ gb907)) (HO917.out) (fun k_ hk => ⟨hk.1, ⟨hk.2.1, ⟨hk.2.2.1, ⟨hk.2.2.2.1, ⟨hk.2.2.2.2.1, ⟨hk.2.2.2.2.2.1, ⟨hk.2.2.2.2.2.2.1, hk.2.2.2.2.2.2.2⟩⟩⟩⟩⟩⟩⟩))).2.1 (Kd.V_F (Kd.V_mono (ok' := (fun k_ => ((P0_2_ k_ ∨ P2_ k_) ∨ w.heap.size ≤ k_) ∧ some k_ ≠ (.slice (some ad906) t903.length co19 : Value).ownBlock ∧ some k_ ≠ (.slice Ao15 t896.length co15 : Value).ownBlock ∧ some k_ ≠ (u903002 : Value).ownBlock ∧ k_ ≠ gb893 ∧ k_ ≠ gb894 ∧ k_ ≠ gb902 ∧ k_ ≠ gb907)) (HO917.out) (fun k_ hk => ⟨hk.1, ⟨hk.2.1, ⟨hk.2.2.1, ⟨hk.2.2.2.1, ⟨hk.2.2.2.2.1, ⟨hk.2.2.2.2.2.1, ⟨hk.2.2.2.2.2.2.1, hk.2.2.2.2.2.2.2⟩⟩⟩⟩⟩⟩⟩))))) (Reps.none _ _)))))
           intro v919 w38 ho39 hb hg_ hnew_
           clear hg_ hnew_
           (first | rw [← Ny918.out] at ho39 | (simp only [Int.reduceToNat] at ho39; rw [← Ny918.out] at ho39))
           replace HO_2 := Aside0.mk (Kd.V_elder' (by (with_reducible repeat (first | apply Kd.V_alloc | apply Kd.V_drewN | apply Kd.V_drew)); exact HO_2.out) (Kd.N_base ho39) hb)
           replace HO_13 := Aside0.mk (Kd.R_below (rk HO_13.out) hb)
           replace HO_894002 := Aside0.mk (Kd.V_elder' (by (with_reducible repeat (first | apply Kd.V_alloc | apply Kd.V_drewN | apply Kd.V_drew)); exact HO_894002.out) (Kd.N_base ho39) hb)
           replace HO_903001 := Aside0.mk (Kd.R_below (rk HO_903001.out) hb)
           replace HO_903002 := Aside0.mk (Kd.R_below (rk HO_903002.out) hb)
           replace HO912 := Aside0.mk (Kd.V_elder' (by (with_reducible repeat (first | apply Kd.V_alloc | apply Kd.V_drewN | apply Kd.V_drew)); exact HO912.out) (Kd.N_base ho39) hb)
           replace HO917 := Aside0.mk (Kd.V_elder' (by (with_reducible repeat (first | apply Kd.V_alloc | apply Kd.V_drewN | apply Kd.V_drew)); exact HO917.out) (Kd.N_base ho39) hb)
           have HO920 := Aside0.mk (Kd.N_lower ho39 (below_size (bl HB.out)))
           replace BK893 := Aside0.mk (bb BK893.out hb)
           replace BK894 := Aside0.mk (bb BK894.out hb)
           replace BK902 := Aside0.mk (bb BK902.out hb)
           replace BK907 := Aside0.mk (bb BK907.out hb)
           replace HB := Aside0.mk (below_step (bl HB.out) hb)
           clear hb ho39
           obtain ⟨Ao40, co40, eo40⟩ := Kd.N_slice HO920.out
           (first | subst eo40 | (injection eo40 with f1_ f2_ f3_; have f4_ := f1_.symm; have f5_ := f3_.symm; clear f1_ f2_ f3_; subst f4_; subst f5_))
           refine hK.out _ _ ⟨(blk_cell BK893.out 0).trans rfl, (blk_cell BK893.out 1).trans rfl, (blk_cell BK893.out 2).trans rfl, (blk_cell BK907.out 0).trans rfl, (blk_cell BK907.out 1).trans rfl, (blk_cell BK907.out 2).trans rfl, (blk_cell BK907.out 3).trans rfl, (blk_cell BK907.out 4).trans rfl⟩ (fun hHeld => ?_)
           clear hK K
           refine norm_ (a' := ?_) ?_ ?_
           rotate_left
           ·show Act.put _ (some 35) _ = _
            simp only [Act.put, List.setIfInBounds_toArray, List.set_cons_zero, List.set_cons_succ, i64_w, i32_w]
            rfl
           refine onA (i := 12) (N := some 36) HT_.out (fun K hK => ?_)
           refine goes_ Try.func95 (by kernel_rfl) rfl #[.slice Ao40 y918.length co40] (by rfl) rfl rfl mapd ?_
           with_reducible refine (impl_Box_95.calls k1 _ _ y918 t921 _ ?side1 ?side2 A28.out).mono ?_
           (case side1 => exact cb ((Kd.N_reads' HO920.out).2.2))
           (case side2 => exact (Kd.N_reads' HO920.out).2.1)
           rintro e w41 ⟨v922, rfl, ho0, hb⟩
           refine ⟨_, rfl, ?_⟩
           replace HO_2 := Aside0.mk (Kd.V_elder' (by (with_reducible repeat (first | apply Kd.V_alloc | apply Kd.V_drewN | apply Kd.V_drew)); exact HO_2.out) (Kd.R_base ho0) hb)
           replace HO_13 := Aside0.mk (Kd.R_below (rk HO_13.out) hb)
           replace HO_894002 := Aside0.mk (Kd.V_elder' (by (with_reducible repeat (first | apply Kd.V_alloc | apply Kd.V_drewN | apply Kd.V_drew)); exact HO_894002.out) (Kd.R_base ho0) hb)
           replace HO_903001 := Aside0.mk (Kd.R_below (rk HO_903001.out) hb)
           replace HO912 := Aside0.mk (Kd.V_elder' (by (with_reducible repeat (first | apply Kd.V_alloc | apply Kd.V_drewN | apply Kd.V_drew)); exact HO912.out) (Kd.R_base ho0) hb)
           replace HO917 := Aside0.mk (Kd.V_elder' (by (with_reducible repeat (first | apply Kd.V_alloc | apply Kd.V_drewN | apply Kd.V_drew)); exact HO917.out) (Kd.R_base ho0) hb)
           replace HO920 := Aside0.mk (Kd.N_elder' (nk HO920.out) (Kd.R_base ho0) hb)
           have HO923 := Aside0.mk (Kd.R_lower (Kd.R_new' (Kd.R_newM (M := fun k_ => (w.heap.size ≤ k_)) ho0 (below_size (bl HB.out)) (fun k_ h_ => h_)) (Kd.R_lt (rk HO_903002.out))) (below_size (bl HB.out)))
           replace HO_903002 := Aside0.mk (Kd.R_elder' (rk HO_903002.out) (Kd.R_base ho0) hb)
           replace BK893 := Aside0.mk (bb BK893.out hb)
           replace BK894 := Aside0.mk (bb BK894.out hb)
           replace BK902 := Aside0.mk (bb BK902.out hb)
           replace BK907 := Aside0.mk (bb BK907.out hb)
           replace HB := Aside0.mk (below_step (bl HB.out) hb)
           (try clear hb)
           (try clear hb2)
           (try clear hk)
           (try clear hi)
           (try clear ho0)
           obtain ⟨Ao42, co42, eo42⟩ := Kd.R_slice HO923.out
           (first | subst eo42 | (injection eo42 with f1_ f2_ f3_; have f4_ := f1_.symm; have f5_ := f3_.symm; clear f1_ f2_ f3_; subst f4_; subst f5_))
           refine hK.out _ _ ⟨(blk_cell BK893.out 0).trans rfl, (blk_cell BK893.out 1).trans rfl, (blk_cell BK893.out 2).trans rfl, (blk_cell BK907.out 0).trans rfl, (blk_cell BK907.out 1).trans rfl, (blk_cell BK907.out 2).trans rfl, (blk_cell BK907.out 3).trans rfl, (blk_cell BK907.out 4).trans rfl⟩ (fun hHeld => ?_)
           clear hK K
           refine norm_ (a' := ?_) ?_ ?_
           rotate_left
           ·show Act.put _ (some 36) _ = _
            simp only [Act.put, List.setIfInBounds_toArray, List.set_cons_zero, List.set_cons_succ, i64_w, i32_w]
            rfl
           refine puA (i := 13) (N := some 37) HT_.out ?_
           refine onA (i := 14) (N := none) HT_.out (fun K hK => ?_)
           have hs43 : w41.cell? ⟨gb902, 2, none⟩ = some (u903002) := (blk_cell BK902.out 2).trans rfl
           have hfs43 := blk_frozen BK902.out 2
           have hns43_0 := NB893_902.out
           have hns43_1 := NB894_902.out
           have hns43_3 := NB907_902.out
           have hms43_0 := NB902_893.out
           have hms43_1 := NB902_894.out
           have hms43_3 := NB902_907.out
           refine skip_ (w1 := ?_) (by rfl) rfl ?_ ?_
           rotate_left
           ·go_simp
            rfl
           refine hK.out _ _ ⟨((cell_far (p := ⟨gb902, _, none⟩) NB893_902.out _).trans (hHeld.1)), ((cell_far (p := ⟨gb902, _, none⟩) NB893_902.out _).trans (hHeld.2.1)), ((cell_far (p := ⟨gb902, _, none⟩) NB893_902.out _).trans (hHeld.2.2.1)), ((cell_far (p := ⟨gb902, _, none⟩) NB907_902.out _).trans (hHeld.2.2.2.1)), ((cell_far (p := ⟨gb902, _, none⟩) NB907_902.out _).trans (hHeld.2.2.2.2.1)), ((cell_far (p := ⟨gb902, _, none⟩) NB907_902.out _).trans (hHeld.2.2.2.2.2.1)), ((cell_far (p := ⟨gb902, _, none⟩) NB907_902.out _).trans (hHeld.2.2.2.2.2.2.1)), ((cell_far (p := ⟨gb902, _, none⟩) NB907_902.out _).trans (hHeld.2.2.2.2.2.2.2))⟩ (fun hHeld => ?_)
           clear hK K
           refine done_ (done_of HT_.out (by kernel_rfl)) ?_
           try go_wp2
           go_roundg k1
           case measure => have := HK1.out; omega
           case rel => exact ⟨(wrap64 (x15_1 + 1)), (t921), (.slice Ao42 t921.length co42), (by first | rfl | (simp; done) | (simp [*]; done)), H', ⟨by have := HK1.out; omega⟩, ⟨by (with_reducible repeat (first | apply Kd.V_alloc | apply Kd.V_drewN | apply Kd.V_drew)); exact Kd.V_mono (Kd.V_far (p := ⟨gb902, 2, none⟩) (Kd.V_mono HO_2.out (fun k_ hk => (⟨hk, hk.1.1.2.2.2.2.2.2.1⟩ : _ ∧ k_ ≠ gb902))) (fun _ hk => hk.2) (.slice Ao42 t921.length co42)) (fun _ hk => ⟨hk.1.1.1.1, ⟨hk.1.1.1.2.1, ⟨hk.1.1.1.2.2.1, ⟨hk.1.2, ⟨hk.1.1.1.2.2.2.2.1, ⟨hk.1.1.1.2.2.2.2.2.1, hk.1.1.1.2.2.2.2.2.2.1⟩⟩⟩⟩⟩⟩)⟩, ⟨by refine rk ?_; exact Kd.R_mono (Kd.R_far (p := ⟨gb902, 2, none⟩) (Kd.R_types HO_13.out BK902.out (by decide)) (fun _ hk => hk.2) (.slice Ao42 t921.length co42)) (fun _ hk => hk.1.1)⟩, ⟨by (with_reducible repeat (first | apply Kd.V_alloc | apply Kd.V_drewN | apply Kd.V_drew)); exact Kd.V_mono (Kd.V_far (p := ⟨gb902, 2, none⟩) (Kd.V_mono HO_894002.out (fun k_ hk => (⟨hk, hk.1.1.2.2.2.2.2.2.1⟩ : _ ∧ k_ ≠ gb902))) (fun _ hk => hk.2) (.slice Ao42 t921.length co42)) (fun _ hk => ⟨hk.1.1.1.1, ⟨hk.1.1.1.2.1, ⟨hk.1.1.1.2.2.1, ⟨hk.1.2, ⟨hk.1.1.1.2.2.2.2.1, ⟨hk.1.1.1.2.2.2.2.2.1, hk.1.1.1.2.2.2.2.2.2.1⟩⟩⟩⟩⟩⟩)⟩, ⟨by refine rk ?_; exact Kd.R_mono (Kd.R_far (p := ⟨gb902, 2, none⟩) (Kd.R_types HO_903001.out BK902.out (by decide)) (fun _ hk => hk.2) (.slice Ao42 t921.length co42)) (fun _ hk => hk.1)⟩, ⟨by refine rk ?_; exact Kd.R_mono (Kd.R_far (p := ⟨gb902, 2, none⟩) (Kd.R_types HO923.out BK902.out (by decide)) (fun _ hk => hk.2) (.slice Ao42 t921.length co42)) (fun _ hk => hk.1.1.1)⟩, ⟨by refine bk ?_; refine blk_far ?_ NB893_902.out _; refine bk ?_; exact BK893.out⟩, ⟨by refine bk ?_; refine blk_far ?_ NB894_902.out _; refine bk ?_; exact BK894.out⟩, ⟨by refine bk ?_; refine blk_put (cs := #[.int .i64 t895, .slice Ao15 t896.length co15, u903002]) ?_ 2 _ rfl; refine bk ?_; exact BK902.out⟩, ⟨bl HB.out⟩⟩
          ·rw [if_neg c27] at H
           exact absurd H (by simp)
         ·rw [if_neg c26] at H
          exact absurd H (by simp)
        ·rw [if_neg c25] at H
         exact absurd H (by simp)
       ·rw [if_neg c24] at H
        exact absurd H (by simp)
      ·rw [if_neg c23] at H
       have c23b0 : (((rd_T85 t903 x15_1).f0.f1) == a1) = false := beq_eq_false_iff_ne.mpr c23
       have c23b1 : (((rd_T85 t903 x15_1).f0.f1) != a1) = true := bne_iff_ne.mpr c23
       have H' := Aside0.mk H
       clear H
       have p906 : 0 ≤ (x15_1 : Int) := of_decide_eq_true asm
       have q906 : x15_1 < (t903.length : Int) := of_decide_eq_true asm
       obtain ⟨ad906, e906, hx906_0, hx906_1, hx906_2, hx906_3, hx906_4⟩ := at_T85 (Kd.R_reads' HO_13.out).2.2 x15_1 p906 q906
       cases e906
       replace p906 := eq_true p906
       replace q906 := eq_true q906
       go_wp2_with (first | ((with_reducible refine gate_dst (N := 9) rfl ?_); refine bx (cs := #[.int .i64 0, .int .i64 0, .int .i64 0, .int .i64 0, .int .i64 0]) (t := 85) fun gb907 hg w44 hbox hb => ?_; replace HO_2 := Aside0.mk (Kd.V_below (Kd.V_elderB (by (with_reducible repeat (first | apply Kd.V_alloc | apply Kd.V_drewN | apply Kd.V_drew)); exact HO_2.out) gb907 (Nat.le_of_eq hg.symm)) hb); replace HO_13 := Aside0.mk (Kd.R_below (Kd.R_elderB (rk HO_13.out) gb907 (Nat.le_of_eq hg.symm)) hb); replace HO_894002 := Aside0.mk (Kd.V_below (Kd.V_elderB (by (with_reducible repeat (first | apply Kd.V_alloc | apply Kd.V_drewN | apply Kd.V_drew)); exact HO_894002.out) gb907 (Nat.le_of_eq hg.symm)) hb); replace HO_903001 := Aside0.mk (Kd.R_below (rk HO_903001.out) hb); replace HO_903002 := Aside0.mk (Kd.R_below (rk HO_903002.out) hb); have BK907 := Aside0.mk (hbox); have GW907 := Aside0.mk (gs HB.out hg); have GE907 := Aside0.mk (gs HB.out hg); replace HB := Aside0.mk (below_step (bl HB.out) hb); have NB893_907 := Aside0.mk ((nl BK893.out hg)); have NB907_893 := Aside0.mk ((ng BK893.out hg)); replace BK893 := Aside0.mk (bb BK893.out hb); have NB894_907 := Aside0.mk ((nl BK894.out hg)); have NB907_894 := Aside0.mk ((ng BK894.out hg)); replace BK894 := Aside0.mk (bb BK894.out hb); have NB902_907 := Aside0.mk ((nl BK902.out hg)); have NB907_902 := Aside0.mk ((ng BK902.out hg)); replace BK902 := Aside0.mk (bb BK902.out hb); clear hb hbox hg; have hnb45 := NB907_893.out; have hnc45 := NB893_907.out; have hnb46 := NB907_894.out; have hnc46 := NB894_907.out; have hnb47 := NB907_902.out; have hnc47 := NB902_907.out; obtain ⟨hcz48_0, hcz48_1, hcz48_2, hcz48_3, hcz48_4, hfz48_0, hfz48_1, hfz48_2, hfz48_3, hfz48_4⟩ := cz5 BK907.out))
       go_roundg k1
       case measure => have := HK1.out; omega
       case rel => exact ⟨(wrap64 (x15_1 + 1)), (x903002_1), (u903002), (by first | rfl | (simp; done) | (simp [*]; done)), H', ⟨by have := HK1.out; omega⟩, ⟨by (with_reducible repeat (first | apply Kd.V_alloc | apply Kd.V_drewN | apply Kd.V_drew)); exact Kd.V_mono (Kd.V_far (p := ⟨gb907, 4, none⟩) (Kd.V_far (p := ⟨gb907, 3, none⟩) (Kd.V_far (p := ⟨gb907, 2, none⟩) (Kd.V_far (p := ⟨gb907, 1, none⟩) (Kd.V_far (p := ⟨gb907, 0, none⟩) (Kd.V_mono HO_2.out (fun k_ hk => (⟨hk, hk.2⟩ : _ ∧ k_ ≠ gb907))) (fun _ hk => hk.2) (.int .i64 ((rd_T85 t903 x15_1).f0.f0))) (fun _ hk => hk.2) (.int .i64 ((rd_T85 t903 x15_1).f0.f1))) (fun _ hk => hk.2) (.int .i64 ((rd_T85 t903 x15_1).f0.f2))) (fun _ hk => hk.2) (.int .i64 ((rd_T85 t903 x15_1).f1))) (fun _ hk => hk.2) (.int .i64 ((rd_T85 t903 x15_1).f2))) (fun _ hk => ⟨hk.1.1.1, ⟨hk.1.1.2.1, ⟨hk.1.1.2.2.1, ⟨hk.1.1.2.2.2.1, ⟨hk.1.1.2.2.2.2.1, ⟨hk.1.1.2.2.2.2.2.1, hk.1.1.2.2.2.2.2.2⟩⟩⟩⟩⟩⟩)⟩, ⟨by refine rk ?_; exact Kd.R_mono (Kd.R_far (p := ⟨gb907, 4, none⟩) (Kd.R_far (p := ⟨gb907, 3, none⟩) (Kd.R_far (p := ⟨gb907, 2, none⟩) (Kd.R_far (p := ⟨gb907, 1, none⟩) (Kd.R_far (p := ⟨gb907, 0, none⟩) (Kd.R_mono HO_13.out (fun k_ hk => (⟨hk, hk.2⟩ : _ ∧ k_ ≠ gb907))) (fun _ hk => hk.2) (.int .i64 ((rd_T85 t903 x15_1).f0.f0))) (fun _ hk => hk.2) (.int .i64 ((rd_T85 t903 x15_1).f0.f1))) (fun _ hk => hk.2) (.int .i64 ((rd_T85 t903 x15_1).f0.f2))) (fun _ hk => hk.2) (.int .i64 ((rd_T85 t903 x15_1).f1))) (fun _ hk => hk.2) (.int .i64 ((rd_T85 t903 x15_1).f2))) (fun _ hk => hk.1.1)⟩, ⟨by (with_reducible repeat (first | apply Kd.V_alloc | apply Kd.V_drewN | apply Kd.V_drew)); exact Kd.V_mono (Kd.V_far (p := ⟨gb907, 4, none⟩) (Kd.V_far (p := ⟨gb907, 3, none⟩) (Kd.V_far (p := ⟨gb907, 2, none⟩) (Kd.V_far (p := ⟨gb907, 1, none⟩) (Kd.V_far (p := ⟨gb907, 0, none⟩) (Kd.V_mono HO_894002.out (fun k_ hk => (⟨hk, hk.2⟩ : _ ∧ k_ ≠ gb907))) (fun _ hk => hk.2) (.int .i64 ((rd_T85 t903 x15_1).f0.f0))) (fun _ hk => hk.2) (.int .i64 ((rd_T85 t903 x15_1).f0.f1))) (fun _ hk => hk.2) (.int .i64 ((rd_T85 t903 x15_1).f0.f2))) (fun _ hk => hk.2) (.int .i64 ((rd_T85 t903 x15_1).f1))) (fun _ hk => hk.2) (.int .i64 ((rd_T85 t903 x15_1).f2))) (fun _ hk => ⟨hk.1.1.1, ⟨hk.1.1.2.1, ⟨hk.1.1.2.2.1, ⟨hk.1.1.2.2.2.1, ⟨hk.1.1.2.2.2.2.1, ⟨hk.1.1.2.2.2.2.2.1, hk.1.1.2.2.2.2.2.2⟩⟩⟩⟩⟩⟩)⟩, ⟨by refine rk ?_; exact Kd.R_mono (Kd.R_far (p := ⟨gb907, 4, none⟩) (Kd.R_far (p := ⟨gb907, 3, none⟩) (Kd.R_far (p := ⟨gb907, 2, none⟩) (Kd.R_far (p := ⟨gb907, 1, none⟩) (Kd.R_far (p := ⟨gb907, 0, none⟩) (Kd.R_types HO_903001.out BK907.out (by decide)) (fun _ hk => hk.2) (.int .i64 ((rd_T85 t903 x15_1).f0.f0))) (fun _ hk => hk.2) (.int .i64 ((rd_T85 t903 x15_1).f0.f1))) (fun _ hk => hk.2) (.int .i64 ((rd_T85 t903 x15_1).f0.f2))) (fun _ hk => hk.2) (.int .i64 ((rd_T85 t903 x15_1).f1))) (fun _ hk => hk.2) (.int .i64 ((rd_T85 t903 x15_1).f2))) (fun _ hk => hk.1)⟩, ⟨by refine rk ?_; exact Kd.R_mono (Kd.R_far (p := ⟨gb907, 4, none⟩) (Kd.R_far (p := ⟨gb907, 3, none⟩) (Kd.R_far (p := ⟨gb907, 2, none⟩) (Kd.R_far (p := ⟨gb907, 1, none⟩) (Kd.R_far (p := ⟨gb907, 0, none⟩) (Kd.R_types HO_903002.out BK907.out (by decide)) (fun _ hk => hk.2) (.int .i64 ((rd_T85 t903 x15_1).f0.f0))) (fun _ hk => hk.2) (.int .i64 ((rd_T85 t903 x15_1).f0.f1))) (fun _ hk => hk.2) (.int .i64 ((rd_T85 t903 x15_1).f0.f2))) (fun _ hk => hk.2) (.int .i64 ((rd_T85 t903 x15_1).f1))) (fun _ hk => hk.2) (.int .i64 ((rd_T85 t903 x15_1).f2))) (fun _ hk => hk.1)⟩, ⟨by refine bk ?_; refine blk_far ?_ NB893_907.out _; refine bk ?_; refine blk_far ?_ NB893_907.out _; refine bk ?_; refine blk_far ?_ NB893_907.out _; refine bk ?_; refine blk_far ?_ NB893_907.out _; refine bk ?_; refine blk_far ?_ NB893_907.out _; refine bk ?_; exact BK893.out⟩, ⟨by refine bk ?_; refine blk_far ?_ NB894_907.out _; refine bk ?_; refine blk_far ?_ NB894_907.out _; refine bk ?_; refine blk_far ?_ NB894_907.out _; refine bk ?_; refine blk_far ?_ NB894_907.out _; refine bk ?_; refine blk_far ?_ NB894_907.out _; refine bk ?_; exact BK894.out⟩, ⟨by refine bk ?_; refine blk_far ?_ NB902_907.out _; refine bk ?_; refine blk_far ?_ NB902_907.out _; refine bk ?_; refine blk_far ?_ NB902_907.out _; refine bk ?_; refine blk_far ?_ NB902_907.out _; refine bk ?_; refine blk_far ?_ NB902_907.out _; refine bk ?_; exact BK902.out⟩, ⟨bl HB.out⟩⟩
     ·rw [if_neg c22] at H
      exact absurd H (by simp)
    ·rw [if_neg c21] at H
     exact absurd H (by simp)
   ·rw [if_neg c20] at H
    have c20b0 : decide (x15_1 < (t903.length : Int)) = false := decide_eq_false c20
    clear c20
    simp only [Option.some.injEq, Prod.mk.injEq] at H
    obtain ⟨rfl, rfl, rfl⟩ := H
    have hnb49 := NB902_893.out
    have hnc49 := NB893_902.out
    have hnb50 := NB902_894.out
    have hnc50 := NB894_902.out
    obtain ⟨hcz51_0, hcz51_1, hcz51_2, hfz51_0, hfz51_1, hfz51_2⟩ := cz3 BK902.out
    have hnb52 := NB894_893.out
    have hnc52 := NB893_894.out
    obtain ⟨hcz53_0, hcz53_1, hcz53_2, hfz53_0, hfz53_1, hfz53_2⟩ := cz3 BK894.out
    obtain ⟨Ao54, co54, eo54⟩ := Kd.R_slice HO_903002.out
    subst eo54
    go_wp2
    refine bodyPost_ret (results_cell_row rfl _ _ gb894 30 #[.int .i64 t895, .slice Ao15 t896.length co15, .slice Ao54 x903002_1.length co54] (0, 0) _ rfl (by refine bk ?_; refine blk_put (cs := #[.int .i64 t895, .slice Ao15 t896.length co15, .slice none 0 0]) ?_ 2 _ rfl; refine bk ?_; refine blk_put (cs := #[.int .i64 t895, .slice none 0 0, .slice none 0 0]) ?_ 1 _ rfl; refine bk ?_; refine blk_put (cs := #[.int .i64 0, .slice none 0 0, .slice none 0 0]) ?_ 0 _ rfl; refine bk ?_; exact BK894.out) Try.underlying30 rfl (by kernel_rfl)) rfl ?_
    exact ⟨_, _, by first | rfl | (simp [errW_none, errW_some] <;> rfl) | (simp [*, errW_none, errW_some] <;> rfl), by refine rk ?_; exact Kd.R_mono (Kd.R_far (p := ⟨gb894, 2, none⟩) (Kd.R_far (p := ⟨gb894, 1, none⟩) (Kd.R_far (p := ⟨gb894, 0, none⟩) (Kd.R_types HO_903001.out BK894.out (by decide)) (fun _ hk => hk.2) (.int .i64 t895)) (fun _ hk => hk.2) (.slice Ao15 t896.length co15)) (fun _ hk => hk.2) (.slice Ao54 x903002_1.length co54)) (fun _ hk => hk.1), by refine rk ?_; exact Kd.R_mono (Kd.R_far (p := ⟨gb894, 2, none⟩) (Kd.R_far (p := ⟨gb894, 1, none⟩) (Kd.R_far (p := ⟨gb894, 0, none⟩) (Kd.R_types HO_903002.out BK894.out (by decide)) (fun _ hk => hk.2) (.int .i64 t895)) (fun _ hk => hk.2) (.slice Ao15 t896.length co15)) (fun _ hk => hk.2) (.slice Ao54 x903002_1.length co54)) (fun _ hk => hk.1), bl HB.out⟩
end Go.Proofs.Ytghfeapncmlihaa.A

namespace Go.Proofs.Ytghfeapncmlihaa.A
open Go.RowKit Go.Proofs.YtghfeapncmlihaaW.PrintWords Go.Proofs.YtghfeapncmlihaaW.PrintLast Go.Proofs.YtghfeapncmlihaaW.PrintMore
attribute [local go_sem] max2_int min2_int max_two min_two max_three min_three max_four min_four   
set_option linter.unusedVariables false
set_option linter.unusedSimpArgs false
def impl_Cleared.l0 : Nat → List (S54) → Int → Int → Int → List Int → List (S71) → Option (Int × List Int × (List (S71)))
 | 0, _, _, _, _, _, _ => none
 | k + 1, x9, x10, x11, x934000, x934001, x934002 => if x11 < x10 then (if 0 ≤ x11 then (if x11 < (x9.length : Int) then ((impl_filled.f k x934000 x934001 x934002 ((rd_T54 x9 x11).f1) (([(⟨(rd_T54 x9 x11).f1, (rd_T54 x9 x11).f2, 0, false⟩ : S71)] : List (S71)))).bind fun bt942 => (impl_Cleared.l0 k x9 x10 (wrap64 (x11 + 1)) bt942.1 bt942.2.1 bt942.2.2)) else (none)) else (none)) else (some (x934000, x934001, x934002))
def impl_Cleared.f (k : Nat) (a0_0 : Int) (l0_1 : List Int) (l0_2 : List (S71)) : Option (Int × List Int × (List (S71))) := (impl_copyColumn.f a0_0 l0_1 l0_2).bind fun bt926 => ((impl_GapsOf.f k a0_0 l0_1 l0_2).bind fun t934 => (impl_Cleared.l0 k t934 (t934.length : Int) 0 bt926.1 bt926.2.1 bt926.2.2))
set_option maxHeartbeats 8000000 in
set_option maxRecDepth 100000 in
theorem impl_Cleared.calls (k : Nat) (a0_0 : Int) (A0_1 : Option Addr) (c0_1 : Nat) (l0_1 : List Int) (A0_2 : Option Addr) (c0_2 : Nat) (l0_2 : List (S71)) (r1 : Int) (r2 : List Int) (r3 : List (S71)) (w : World) (hr0_1 : Kd.C (Kd.int .i64) w A0_1 l0_1.length l0_1) (hc0_1 : l0_1.length ≤ c0_1) (hr0_2 : Kd.C k71 w A0_2 l0_2.length l0_2) (hc0_2 : l0_2.length ≤ c0_2) (h : impl_Cleared.f k a0_0 l0_1 l0_2 = some (r1, r2, r3)) :
  Calls Try.prog 51 #[.agg #[.int .i64 a0_0, .slice A0_1 l0_1.length c0_1, .slice A0_2 l0_2.length c0_2]] w fun e w' => ∃ v1_ v2_ : Value, e = .returned (.agg #[.int .i64 r1, v1_, v2_]) ∧ Kd.R (Kd.int .i64) 3 w' w.heap.size (fun _ => True) v1_ r2 ∧ Kd.R k71 71 w' w.heap.size (fun _ => True) v2_ r3 ∧ Below w.heap.size w w' := by
 have hu30 := Try.underlying30
 have hu54 := Try.underlying54
 have hu71 := Try.underlying71
 have HR0_1 := Aside0.mk hr0_1
 have HC0_1 := Aside0.mk hc0_1
 clear hr0_1 hc0_1
 have HR0_2 := Aside0.mk hr0_2
 have HC0_2 := Aside0.mk hc0_2
 clear hr0_2 hc0_2
 have HB := Aside0.mk (Below.refl w.heap.size w)
 have H : ((impl_copyColumn.f a0_0 l0_1 l0_2).bind fun bt926 => ((impl_GapsOf.f k a0_0 l0_1 l0_2).bind fun t934 => (impl_Cleared.l0 k t934 (t934.length : Int) 0 bt926.1 bt926.2.1 bt926.2.2))) = some (r1, r2, r3) := h
 clear h
 replace H := Option.bind_eq_some_iff.mp H
 obtain ⟨⟨t926, t927, t930⟩, A20, H⟩ := H
 try dsimp only at H
 have A2 := Aside0.mk A20
 clear A20
 replace H := Option.bind_eq_some_iff.mp H
 obtain ⟨t934, A30, H⟩ := H
 try dsimp only at H
 have A3 := Aside0.mk A30
 clear A30
 have H' := Aside0.mk H
 clear H
 go_enter Try.func51, Try.ntmps51
 go_wp2_with (first | ((with_reducible refine gate_dst (N := 1) rfl ?_); refine bx (cs := #[.int .i64 a0_0, .slice A0_1 l0_1.length c0_1, .slice A0_2 l0_2.length c0_2]) (t := 30) fun gb924 hg w4 hbox hb => ?_; have BK924 := Aside0.mk (hbox); have GW924 := Aside0.mk (gs HB.out hg); have GE924 := Aside0.mk (gs HB.out hg); replace HB := Aside0.mk (below_step (bl HB.out) hb); clear hb hbox hg) | ((with_reducible refine gate_dst (N := 2) rfl ?_); refine bx (cs := #[.int .i64 0, .slice none 0 0, .slice none 0 0]) (t := 30) fun gb925 hg w5 hbox hb => ?_; have BK925 := Aside0.mk (hbox); have GW925 := Aside0.mk (gs HB.out hg); have GE925 := Aside0.mk (gs HB.out hg); replace HB := Aside0.mk (below_step (bl HB.out) hb); have NB924_925 := Aside0.mk ((nl BK924.out hg)); have NB925_924 := Aside0.mk ((ng BK924.out hg)); replace BK924 := Aside0.mk (bb BK924.out hb); clear hb hbox hg; have hnb6 := NB924_925.out; have hnc6 := NB925_924.out; obtain ⟨hcz7_0, hcz7_1, hcz7_2, hfz7_0, hfz7_1, hfz7_2⟩ := cz3 BK924.out) | ((with_reducible refine gate_callee (f := 72) rfl ?_); refine goesL_ (some 7) rfl rfl Try.func72 (by kernel_rfl) rfl #[.agg #[.int .i64 a0_0, .slice A0_1 l0_1.length c0_1, .slice A0_2 l0_2.length c0_2]] rfl mapd ?_; (with_reducible refine (impl_copyColumn.calls a0_0 _ _ l0_1 _ _ l0_2 t926 t927 t930 _ ?side1 ?side2 ?side3 ?side4 A2.out).mono ?_); (case side1 => exact cb (Kd.C_below HR0_1.out HB.out)); (case side2 => exact HC0_1.out); (case side3 => exact cb (Kd.C_below HR0_2.out HB.out)); (case side4 => exact HC0_2.out); rintro e w8 ⟨v928, v931, rfl, ho0, ho1, hb⟩; refine ⟨_, rfl, ?_⟩; have HO929 := Aside0.mk (Kd.R_lower ho0 (below_size (bl HB.out))); have HO932 := Aside0.mk (Kd.R_lower ho1 (below_size (bl HB.out))); replace BK924 := Aside0.mk (bb BK924.out hb); replace BK925 := Aside0.mk (bb BK925.out hb); replace HB := Aside0.mk (below_step (bl HB.out) hb); (try clear hb); (try clear hb2); (try clear hk); (try clear hi); (try clear ho0); (try clear ho1)) | ((with_reducible refine gate_dst (N := 3) rfl ?_); refine bx (cs := #[.int .i64 0, .slice none 0 0, .slice none 0 0]) (t := 30) fun gb933 hg w9 hbox hb => ?_; replace HO929 := Aside0.mk (Kd.R_below (rk HO929.out) hb); replace HO932 := Aside0.mk (Kd.R_below (rk HO932.out) hb); have BK933 := Aside0.mk (hbox); have GW933 := Aside0.mk (gs HB.out hg); have GE933 := Aside0.mk (gs HB.out hg); replace HB := Aside0.mk (below_step (bl HB.out) hb); have NB924_933 := Aside0.mk ((nl BK924.out hg)); have NB933_924 := Aside0.mk ((ng BK924.out hg)); replace BK924 := Aside0.mk (bb BK924.out hb); have NB925_933 := Aside0.mk ((nl BK925.out hg)); have NB933_925 := Aside0.mk ((ng BK925.out hg)); replace BK925 := Aside0.mk (bb BK925.out hb); clear hb hbox hg; have hnb10 := NB933_924.out; have hnc10 := NB924_933.out; have hnb11 := NB933_925.out; have hnc11 := NB925_933.out; obtain ⟨hcz12_0, hcz12_1, hcz12_2, hfz12_0, hfz12_1, hfz12_2⟩ := cz3 BK933.out; obtain ⟨Ao13, co13, eo13⟩ := Kd.R_slice HO929.out; subst eo13; obtain ⟨Ao14, co14, eo14⟩ := Kd.R_slice HO932.out; subst eo14; obtain ⟨hcz15_0, hcz15_1, hcz15_2, hfz15_0, hfz15_1, hfz15_2⟩ := cz3 BK924.out) | ((with_reducible refine gate_callee (f := 42) rfl ?_); refine goesL_ (some 9) rfl rfl Try.func42 (by kernel_rfl) rfl #[.agg #[.int .i64 a0_0, .slice A0_1 l0_1.length c0_1, .slice A0_2 l0_2.length c0_2]] rfl mapd ?_; (with_reducible refine (impl_GapsOf.calls k a0_0 _ _ l0_1 _ _ l0_2 t934 _ ?side1 ?side2 ?side3 ?side4 A3.out).mono ?_); (case side1 => exact Kd.C_below HR0_1.out (bl HB.out)); (case side2 => exact HC0_1.out); (case side3 => exact Kd.C_below HR0_2.out (bl HB.out)); (case side4 => exact HC0_2.out); rintro e w16 ⟨v935, rfl, ho0, hb⟩; refine ⟨_, rfl, ?_⟩; replace HO929 := Aside0.mk (Kd.R_below (by refine rk ?_; exact (Kd.R_mono (Kd.R_far (p := ⟨gb933, 2, none⟩) (Kd.R_far (p := ⟨gb933, 1, none⟩) (Kd.R_far (p := ⟨gb933, 0, none⟩) (Kd.R_types HO929.out BK933.out (by decide)) (fun _ hk => hk.2) (.int .i64 t926)) (fun _ hk => hk.2) (.slice Ao13 t927.length co13)) (fun _ hk => hk.2) (.slice Ao14 t930.length co14)) (fun _ h_ => h_.1))) hb); replace HO932 := Aside0.mk (Kd.R_below (by refine rk ?_; exact (Kd.R_mono (Kd.R_far (p := ⟨gb933, 2, none⟩) (Kd.R_far (p := ⟨gb933, 1, none⟩) (Kd.R_far (p := ⟨gb933, 0, none⟩) (Kd.R_types HO932.out BK933.out (by decide)) (fun _ hk => hk.2) (.int .i64 t926)) (fun _ hk => hk.2) (.slice Ao13 t927.length co13)) (fun _ hk => hk.2) (.slice Ao14 t930.length co14)) (fun _ h_ => h_.1))) hb); have HO936 := Aside0.mk (Kd.R_lower ho0 (below_size (bl HB.out))); replace BK924 := Aside0.mk (blk_below (g := gb924) (o := .cells #[.int .i64 a0_0, .slice A0_1 l0_1.length c0_1, .slice A0_2 l0_2.length c0_2] 30 (0, 0)) (bf BK924.out) hb); replace BK925 := Aside0.mk (blk_below (g := gb925) (o := .cells #[.int .i64 0, .slice none 0 0, .slice none 0 0] 30 (0, 0)) (bf BK925.out) hb); replace BK933 := Aside0.mk (blk_below (g := gb933) (o := .cells #[.int .i64 t926, .slice Ao13 t927.length co13, .slice Ao14 t930.length co14] 30 (0, 0)) (by refine bk ?_; refine blk_put (cs := #[.int .i64 t926, .slice Ao13 t927.length co13, .slice none 0 0]) ?_ 2 _ rfl; refine bk ?_; refine blk_put (cs := #[.int .i64 t926, .slice none 0 0, .slice none 0 0]) ?_ 1 _ rfl; refine bk ?_; refine blk_put (cs := #[.int .i64 0, .slice none 0 0, .slice none 0 0]) ?_ 0 _ rfl; refine bk ?_; exact BK933.out) hb); replace HB := Aside0.mk (below_step (bl HB.out) hb); (try clear hb); (try clear hb2); (try clear hk); (try clear hi); (try clear ho0); obtain ⟨Ao17, co17, eo17⟩ := Kd.R_slice HO936.out; subst eo17))
 go_loopg [11] k (fun kq v11 w' => ∃ (x11_1 : Int) (x934000_1 : Int) (x934001_1 : List Int) (x934002_1 : List (S71)) (u934001 : Value) (u934002 : Value), v11 = .int .i64 x11_1 ∧ Aside0 (impl_Cleared.l0 kq t934 (t934.length : Int) x11_1 x934000_1 x934001_1 x934002_1 = some (r1, r2, r3)) ∧ Aside0 (kq ≤ k) ∧ Aside0 (Kd.R k54 54 w' w.heap.size (fun _ => True) (.slice Ao17 t934.length co17) t934) ∧ Aside0 (Kd.R (Kd.int .i64) 3 w' w.heap.size (fun _ => True) u934001 x934001_1) ∧ Aside0 (Kd.R k71 71 w' w.heap.size (fun _ => True) u934002 x934002_1) ∧ Aside0 (w'.heap[gb924]? = some (.cells #[.int .i64 a0_0, (.slice A0_1 l0_1.length c0_1), (.slice A0_2 l0_2.length c0_2)] 30 (0, 0))) ∧ Aside0 (w'.heap[gb925]? = some (.cells #[.int .i64 0, (.slice none 0 0), (.slice none 0 0)] 30 (0, 0))) ∧ Aside0 (w'.heap[gb933]? = some (.cells #[.int .i64 x934000_1, u934001, u934002] 30 (0, 0))) ∧ Aside0 (Below w.heap.size w w'))
 case atStart => exact ⟨(0), (t926), (t927), (t930), (.slice Ao13 t927.length co13), (.slice Ao14 t930.length co14), (by first | rfl | (simp; done) | (simp [*]; done)), H', ⟨Nat.le_refl _⟩, ⟨rk HO936.out⟩, ⟨rk HO929.out⟩, ⟨rk HO932.out⟩, ⟨by refine bk ?_; exact BK924.out⟩, ⟨by refine bk ?_; exact BK925.out⟩, ⟨by refine bk ?_; exact BK933.out⟩, ⟨bl HB.out⟩⟩
 case round =>
  clear H'
  try clear c1
  try clear p2
  try clear c4
  try clear c5
  try clear c6
  try clear c7
  try clear c10
  try clear c11
  try clear hcz12_0
  try clear hcz12_1
  try clear hcz12_2
  try clear hcz15_0
  try clear hcz15_1
  try clear hcz15_2
  try clear hcz7_0
  try clear hcz7_1
  try clear hcz7_2
  try clear hfz12_0
  try clear hfz12_1
  try clear hfz12_2
  try clear hfz15_0
  try clear hfz15_1
  try clear hfz15_2
  try clear hfz7_0
  try clear hfz7_1
  try clear hfz7_2
  obtain ⟨x11_1, x934000_1, x934001_1, x934002_1, u934001, u934002, rfl, HA, HK1, HO_9, HO_934001, HO_934002, BK924, BK925, BK933, HB⟩ := hrel
  cases gk with
  | zero => exact absurd HA.out (by simp [impl_Cleared.l0])
  | succ k1 =>
   have H := HA.out
   clear HA
   simp only [impl_Cleared.l0] at H
   by_cases c18 : x11_1 < (t934.length : Int)
   ·rw [if_pos c18] at H
    have c18b0 : decide (x11_1 < (t934.length : Int)) = true := decide_eq_true c18
    clear c18
    by_cases c19 : 0 ≤ x11_1
    ·rw [if_pos c19] at H
     have c19b0 : decide (0 ≤ x11_1) = true := decide_eq_true c19
     clear c19
     by_cases c20 : x11_1 < (t934.length : Int)
     ·rw [if_pos c20] at H
      have c20b0 : decide (x11_1 < (t934.length : Int)) = true := decide_eq_true c20
      clear c20
      obtain ⟨y939, hy939⟩ : ∃ y_ : List (S71), y_ = (([(⟨(rd_T54 t934 x11_1).f1, (rd_T54 t934 x11_1).f2, 0, false⟩ : S71)] : List (S71))) := ⟨_, rfl⟩
      replace H : ((impl_filled.f k1 x934000_1 x934001_1 x934002_1 ((rd_T54 t934 x11_1).f1) y939).bind fun bt942 => (impl_Cleared.l0 k1 t934 (t934.length : Int) (wrap64 (x11_1 + 1)) bt942.1 bt942.2.1 bt942.2.2)) = some (r1, r2, r3) := by first | (rw [hy939]; with_reducible exact H) | (have H2_ := (Option.bind_some _ _).symm.trans H; rw [hy939]; with_reducible exact H2_) | (have H2_ := (Option.bind_some _ _).symm.trans H; with_reducible exact H2_) | with_reducible exact H | (rw [hy939]; exact H) | exact H
      have Ny939 := Aside0.mk hy939
      clear hy939
      replace H := Option.bind_eq_some_iff.mp H
      obtain ⟨⟨t942, t943, t946⟩, A210, H⟩ := H
      try dsimp only at H
      have A21 := Aside0.mk A210
      clear A210
      have H' := Aside0.mk H
      clear H
      have p937 : 0 ≤ (x11_1 : Int) := of_decide_eq_true asm
      have q937 : x11_1 < (t934.length : Int) := of_decide_eq_true asm
      obtain ⟨ad937, e937, hx937_0, hx937_1, hx937_2⟩ := at_T54 (Kd.R_reads' HO_9.out).2.2 x11_1 p937 q937
      cases e937
      replace p937 := eq_true p937
      replace q937 := eq_true q937
      go_wp2_with (first | ((with_reducible refine gate_dst (N := 5) rfl ?_); refine bx (cs := #[.int .i64 0, .int .i64 0, .int .i64 0]) (t := 54) fun gb938 hg w22 hbox hb => ?_; replace HO_9 := Aside0.mk (Kd.R_below (Kd.R_elderB (rk HO_9.out) gb938 (Nat.le_of_eq hg.symm)) hb); replace HO_934001 := Aside0.mk (Kd.R_below (rk HO_934001.out) hb); replace HO_934002 := Aside0.mk (Kd.R_below (rk HO_934002.out) hb); have BK938 := Aside0.mk (hbox); have GW938 := Aside0.mk (gs HB.out hg); have GE938 := Aside0.mk (gs HB.out hg); replace HB := Aside0.mk (below_step (bl HB.out) hb); have NB924_938 := Aside0.mk ((nl BK924.out hg)); have NB938_924 := Aside0.mk ((ng BK924.out hg)); replace BK924 := Aside0.mk (bb BK924.out hb); have NB925_938 := Aside0.mk ((nl BK925.out hg)); have NB938_925 := Aside0.mk ((ng BK925.out hg)); replace BK925 := Aside0.mk (bb BK925.out hb); have NB933_938 := Aside0.mk ((nl BK933.out hg)); have NB938_933 := Aside0.mk ((ng BK933.out hg)); replace BK933 := Aside0.mk (bb BK933.out hb); clear hb hbox hg; have hnb23 := NB938_924.out; have hnc23 := NB924_938.out; have hnb24 := NB938_925.out; have hnc24 := NB925_938.out; have hnb25 := NB938_933.out; have hnc25 := NB933_938.out; obtain ⟨hcz26_0, hcz26_1, hcz26_2, hfz26_0, hfz26_1, hfz26_2⟩ := cz3 BK938.out; have hnb27 := NB933_924.out; have hnc27 := NB924_933.out; have hnb28 := NB933_925.out; have hnc28 := NB925_933.out; obtain ⟨hcz29_0, hcz29_1, hcz29_2, hfz29_0, hfz29_1, hfz29_2⟩ := cz3 BK933.out) | ((with_reducible refine gate_dst (N := 23) rfl ?_); refine Kd.R_lit k71 _ 71 ?hg (N := 23) ?hd (xs := ([(⟨(rd_T54 t934 x11_1).f1, (rd_T54 t934 x11_1).f2, 0, false⟩ : S71)] : List (S71))) (inner := [.int .i64 ((rd_T54 t934 x11_1).f1), .int .i64 ((rd_T54 t934 x11_1).f2), .int .i64 0, .bool false]) (ok := fun _ => True) (okp := fun _ => True) ?hr ?hp (fun _ hk => hk) trivial (Below.refl _ _) (Nat.le_refl _) (by simp) ?_; (case hd => rfl); (case hg => rfl); (case hr => first | (go_simp; done) | (go_simp; rfl)); (case hp => exact (Reps.c4 (show Kd.M k71 _ _ _ (⟨(rd_T54 t934 x11_1).f1, (rd_T54 t934 x11_1).f2, 0, false⟩ : S71) [.int .i64 ((rd_T54 t934 x11_1).f1), .int .i64 ((rd_T54 t934 x11_1).f2), .int .i64 0, .bool false] from (k71_mkM _ _ _ (⟨(rd_T54 t934 x11_1).f1, (rd_T54 t934 x11_1).f2, 0, false⟩ : S71) )) (Reps.none _ _))); intro v940 w30 ho31 hb hg_ hnew_; clear hg_ hnew_; (first | rw [← Ny939.out] at ho31 | (simp only [Int.reduceToNat] at ho31; rw [← Ny939.out] at ho31)); replace HO_9 := Aside0.mk (Kd.R_below (by refine rk ?_; exact (Kd.R_mono (Kd.R_far (p := ⟨gb938, 2, none⟩) (Kd.R_far (p := ⟨gb938, 1, none⟩) (Kd.R_far (p := ⟨gb938, 0, none⟩) (Kd.R_mono HO_9.out (fun k_ hk => (⟨hk, hk.2⟩ : _ ∧ k_ ≠ gb938))) (fun _ hk => hk.2) (.int .i64 ((rd_T54 t934 x11_1).f0))) (fun _ hk => hk.2) (.int .i64 ((rd_T54 t934 x11_1).f1))) (fun _ hk => hk.2) (.int .i64 ((rd_T54 t934 x11_1).f2))) (fun _ h_ => h_.1))) hb); replace HO_934001 := Aside0.mk (Kd.R_below (by refine rk ?_; exact (Kd.R_mono (Kd.R_far (p := ⟨gb938, 2, none⟩) (Kd.R_far (p := ⟨gb938, 1, none⟩) (Kd.R_far (p := ⟨gb938, 0, none⟩) (Kd.R_types HO_934001.out BK938.out (by decide)) (fun _ hk => hk.2) (.int .i64 ((rd_T54 t934 x11_1).f0))) (fun _ hk => hk.2) (.int .i64 ((rd_T54 t934 x11_1).f1))) (fun _ hk => hk.2) (.int .i64 ((rd_T54 t934 x11_1).f2))) (fun _ h_ => h_.1))) hb); have HO941 := Aside0.mk (Kd.R_lower (Kd.R_new' ho31 (Kd.R_lt (by refine rk ?_; exact (Kd.R_mono (Kd.R_far (p := ⟨gb938, 2, none⟩) (Kd.R_far (p := ⟨gb938, 1, none⟩) (Kd.R_far (p := ⟨gb938, 0, none⟩) (Kd.R_types HO_934002.out BK938.out (by decide)) (fun _ hk => hk.2) (.int .i64 ((rd_T54 t934 x11_1).f0))) (fun _ hk => hk.2) (.int .i64 ((rd_T54 t934 x11_1).f1))) (fun _ hk => hk.2) (.int .i64 ((rd_T54 t934 x11_1).f2))) (fun _ h_ => h_.1))))) (below_size (bl HB.out))); replace HO_934002 := Aside0.mk (Kd.R_elder' (by refine rk ?_; exact (Kd.R_mono (Kd.R_far (p := ⟨gb938, 2, none⟩) (Kd.R_far (p := ⟨gb938, 1, none⟩) (Kd.R_far (p := ⟨gb938, 0, none⟩) (Kd.R_types HO_934002.out BK938.out (by decide)) (fun _ hk => hk.2) (.int .i64 ((rd_T54 t934 x11_1).f0))) (fun _ hk => hk.2) (.int .i64 ((rd_T54 t934 x11_1).f1))) (fun _ hk => hk.2) (.int .i64 ((rd_T54 t934 x11_1).f2))) (fun _ h_ => h_.1))) (Kd.R_base ho31) hb); replace BK924 := Aside0.mk (blk_below (g := gb924) (o := .cells #[.int .i64 a0_0, .slice A0_1 l0_1.length c0_1, .slice A0_2 l0_2.length c0_2] 30 (0, 0)) (bf BK924.out) hb); replace BK925 := Aside0.mk (blk_below (g := gb925) (o := .cells #[.int .i64 0, .slice none 0 0, .slice none 0 0] 30 (0, 0)) (bf BK925.out) hb); replace BK933 := Aside0.mk (blk_below (g := gb933) (o := .cells #[.int .i64 x934000_1, u934001, u934002] 30 (0, 0)) (bf BK933.out) hb); replace BK938 := Aside0.mk (blk_below (g := gb938) (o := .cells #[.int .i64 ((rd_T54 t934 x11_1).f0), .int .i64 ((rd_T54 t934 x11_1).f1), .int .i64 ((rd_T54 t934 x11_1).f2)] 54 (0, 0)) (by refine bk ?_; refine blk_put (cs := #[.int .i64 ((rd_T54 t934 x11_1).f0), .int .i64 ((rd_T54 t934 x11_1).f1), .int .i64 0]) ?_ 2 _ rfl; refine bk ?_; refine blk_put (cs := #[.int .i64 ((rd_T54 t934 x11_1).f0), .int .i64 0, .int .i64 0]) ?_ 1 _ rfl; refine bk ?_; refine blk_put (cs := #[.int .i64 0, .int .i64 0, .int .i64 0]) ?_ 0 _ rfl; refine bk ?_; exact BK938.out) hb); replace HB := Aside0.mk (below_step (bl HB.out) hb); clear hb ho31; obtain ⟨Ao32, co32, eo32⟩ := Kd.R_slice HO_934001.out; subst eo32; obtain ⟨Ao33, co33, eo33⟩ := Kd.R_slice HO_934002.out; subst eo33; obtain ⟨Ao34, co34, eo34⟩ := Kd.R_slice HO941.out; subst eo34) | ((with_reducible refine gate_callee (f := 81) rfl ?_); refine goesL_ (some 24) rfl rfl Try.func81 (by kernel_rfl) rfl #[.agg #[.int .i64 x934000_1, .slice Ao32 x934001_1.length co32, .slice Ao33 x934002_1.length co33], .int .i64 ((rd_T54 t934 x11_1).f1), .slice Ao34 y939.length co34] rfl mapd ?_; (with_reducible refine (impl_filled.calls k1 x934000_1 _ _ x934001_1 (fun k_ => some k_ = (.slice Ao33 x934002_1.length co33 : Value).ownBlock) _ _ x934002_1 ((rd_T54 t934 x11_1).f1) (fun k_ => some k_ = (.slice Ao34 y939.length co34 : Value).ownBlock) _ _ y939 t942 t943 t946 _ ?side1 ?side2 ?side3 ?side4 A21.out).mono ?_); (case side1 => exact cb ((Kd.R_reads' HO_934001.out).2.2)); (case side2 => exact (Kd.R_reads' HO_934001.out).2.1); (case side3 => exact Kd.R_V (Kd.R_tight rfl (Kd.R_types (Kd.R_types (Kd.R_types (Kd.R_types (Kd.R_apart' (Kd.R_apart' (HO_934002.out) (Kd.R_typed HO_9.out) (by decide)) (Kd.R_typed HO_934001.out) (by decide)) BK924.out (by decide)) BK925.out (by decide)) BK933.out (by decide)) BK938.out (by decide)))); (case side4 => exact Kd.R_V (Kd.R_tight rfl (Kd.R_types (Kd.R_types (Kd.R_types (Kd.R_types (Kd.R_apart' (Kd.R_apart' (HO941.out) (Kd.R_typed HO_9.out) (by decide)) (Kd.R_typed HO_934001.out) (by decide)) BK924.out (by decide)) BK925.out (by decide)) BK933.out (by decide)) BK938.out (by decide)))); rintro e w35 ⟨v944, v947, rfl, ho0, ho1, hb⟩; refine ⟨_, rfl, ?_⟩; replace HO_9 := Aside0.mk (Kd.R_below (rk HO_9.out) hb); have HO945 := Aside0.mk (Kd.R_lower (Kd.R_new' (Kd.R_mono (ok' := fun k_ => True) ho0 (fun _ hk_ => trivial)) (Kd.R_lt (rk HO_934001.out))) (below_size (bl HB.out))); replace HO_934001 := Aside0.mk (Kd.R_elder' (rk HO_934001.out) (Kd.R_base ho0) hb); have HO948 := Aside0.mk (Kd.R_lower (Kd.R_new' (Kd.R_new' (Kd.R_mono (ok' := fun k_ => True) ho1 (fun _ hk_ => trivial)) (Kd.R_lt (rk HO_934002.out))) (Kd.R_lt (rk HO941.out))) (below_size (bl HB.out))); replace HO_934002 := Aside0.mk (Kd.R_elder' (rk HO_934002.out) (Kd.R_base ho1) hb); replace HO941 := Aside0.mk (Kd.R_elder' (rk HO941.out) (Kd.R_base ho1) hb); replace BK924 := Aside0.mk (bb BK924.out hb); replace BK925 := Aside0.mk (bb BK925.out hb); replace BK933 := Aside0.mk (bb BK933.out hb); replace BK938 := Aside0.mk (bb BK938.out hb); replace HB := Aside0.mk (below_step (bl HB.out) hb); (try clear hb); (try clear hb2); (try clear hk); (try clear hi); (try clear ho0); (try clear ho1); obtain ⟨hcz36_0, hcz36_1, hcz36_2, hfz36_0, hfz36_1, hfz36_2⟩ := cz3 BK933.out; obtain ⟨Ao37, co37, eo37⟩ := Kd.R_slice HO945.out; subst eo37; obtain ⟨Ao38, co38, eo38⟩ := Kd.R_slice HO948.out; subst eo38))
      go_roundg k1
      case measure => have := HK1.out; omega
      case rel => exact ⟨(wrap64 (x11_1 + 1)), (t942), (t943), (t946), (.slice Ao37 t943.length co37), (.slice Ao38 t946.length co38), (by first | rfl | (simp; done) | (simp [*]; done)), H', ⟨by have := HK1.out; omega⟩, ⟨by refine rk ?_; exact Kd.R_mono (Kd.R_far (p := ⟨gb933, 2, none⟩) (Kd.R_far (p := ⟨gb933, 1, none⟩) (Kd.R_far (p := ⟨gb933, 0, none⟩) (Kd.R_types HO_9.out BK933.out (by decide)) (fun _ hk => hk.2) (.int .i64 t942)) (fun _ hk => hk.2) (.slice Ao37 t943.length co37)) (fun _ hk => hk.2) (.slice Ao38 t946.length co38)) (fun _ hk => trivial)⟩, ⟨by refine rk ?_; exact Kd.R_mono (Kd.R_far (p := ⟨gb933, 2, none⟩) (Kd.R_far (p := ⟨gb933, 1, none⟩) (Kd.R_far (p := ⟨gb933, 0, none⟩) (Kd.R_types HO945.out BK933.out (by decide)) (fun _ hk => hk.2) (.int .i64 t942)) (fun _ hk => hk.2) (.slice Ao37 t943.length co37)) (fun _ hk => hk.2) (.slice Ao38 t946.length co38)) (fun _ hk => trivial)⟩, ⟨by refine rk ?_; exact Kd.R_mono (Kd.R_far (p := ⟨gb933, 2, none⟩) (Kd.R_far (p := ⟨gb933, 1, none⟩) (Kd.R_far (p := ⟨gb933, 0, none⟩) (Kd.R_types HO948.out BK933.out (by decide)) (fun _ hk => hk.2) (.int .i64 t942)) (fun _ hk => hk.2) (.slice Ao37 t943.length co37)) (fun _ hk => hk.2) (.slice Ao38 t946.length co38)) (fun _ hk => trivial)⟩, ⟨by refine bk ?_; refine blk_far ?_ NB924_933.out _; refine bk ?_; refine blk_far ?_ NB924_933.out _; refine bk ?_; refine blk_far ?_ NB924_933.out _; refine bk ?_; exact BK924.out⟩, ⟨by refine bk ?_; refine blk_far ?_ NB925_933.out _; refine bk ?_; refine blk_far ?_ NB925_933.out _; refine bk ?_; refine blk_far ?_ NB925_933.out _; refine bk ?_; exact BK925.out⟩, ⟨by refine bk ?_; refine blk_put (cs := #[.int .i64 t942, .slice Ao37 t943.length co37, .slice Ao33 x934002_1.length co33]) ?_ 2 _ rfl; refine bk ?_; refine blk_put (cs := #[.int .i64 t942, .slice Ao32 x934001_1.length co32, .slice Ao33 x934002_1.length co33]) ?_ 1 _ rfl; refine bk ?_; refine blk_put (cs := #[.int .i64 x934000_1, .slice Ao32 x934001_1.length co32, .slice Ao33 x934002_1.length co33]) ?_ 0 _ rfl; refine bk ?_; exact BK933.out⟩, ⟨bl HB.out⟩⟩
     ·rw [if_neg c20] at H
      exact absurd H (by simp)
    ·rw [if_neg c19] at H
     exact absurd H (by simp)
   ·rw [if_neg c18] at H
    have c18b0 : decide (x11_1 < (t934.length : Int)) = false := decide_eq_false c18
    clear c18
    simp only [Option.some.injEq, Prod.mk.injEq] at H
    obtain ⟨rfl, rfl, rfl⟩ := H
    have hnb39 := NB933_924.out
    have hnc39 := NB924_933.out
    have hnb40 := NB933_925.out
    have hnc40 := NB925_933.out
    obtain ⟨hcz41_0, hcz41_1, hcz41_2, hfz41_0, hfz41_1, hfz41_2⟩ := cz3 BK933.out
    have hnb42 := NB925_924.out
    have hnc42 := NB924_925.out
    obtain ⟨hcz43_0, hcz43_1, hcz43_2, hfz43_0, hfz43_1, hfz43_2⟩ := cz3 BK925.out
    obtain ⟨Ao44, co44, eo44⟩ := Kd.R_slice HO_934001.out
    subst eo44
    obtain ⟨Ao45, co45, eo45⟩ := Kd.R_slice HO_934002.out
    subst eo45
    go_wp2
    refine bodyPost_ret (results_cell_row rfl _ _ gb925 30 #[.int .i64 x934000_1, .slice Ao44 x934001_1.length co44, .slice Ao45 x934002_1.length co45] (0, 0) _ rfl (by refine bk ?_; refine blk_put (cs := #[.int .i64 x934000_1, .slice Ao44 x934001_1.length co44, .slice none 0 0]) ?_ 2 _ rfl; refine bk ?_; refine blk_put (cs := #[.int .i64 x934000_1, .slice none 0 0, .slice none 0 0]) ?_ 1 _ rfl; refine bk ?_; refine blk_put (cs := #[.int .i64 0, .slice none 0 0, .slice none 0 0]) ?_ 0 _ rfl; refine bk ?_; exact BK925.out) Try.underlying30 rfl (by kernel_rfl)) rfl ?_
    exact ⟨_, _, by first | rfl | (simp [errW_none, errW_some] <;> rfl) | (simp [*, errW_none, errW_some] <;> rfl), by refine rk ?_; exact Kd.R_mono (Kd.R_far (p := ⟨gb925, 2, none⟩) (Kd.R_far (p := ⟨gb925, 1, none⟩) (Kd.R_far (p := ⟨gb925, 0, none⟩) (Kd.R_types HO_934001.out BK925.out (by decide)) (fun _ hk => hk.2) (.int .i64 x934000_1)) (fun _ hk => hk.2) (.slice Ao44 x934001_1.length co44)) (fun _ hk => hk.2) (.slice Ao45 x934002_1.length co45)) (fun _ hk => trivial), by refine rk ?_; exact Kd.R_mono (Kd.R_far (p := ⟨gb925, 2, none⟩) (Kd.R_far (p := ⟨gb925, 1, none⟩) (Kd.R_far (p := ⟨gb925, 0, none⟩) (Kd.R_types HO_934002.out BK925.out (by decide)) (fun _ hk => hk.2) (.int .i64 x934000_1)) (fun _ hk => hk.2) (.slice Ao44 x934001_1.length co44)) (fun _ hk => hk.2) (.slice Ao45 x934002_1.length co45)) (fun _ hk => trivial), bl HB.out⟩
end Go.Proofs.Ytghfeapncmlihaa.A
